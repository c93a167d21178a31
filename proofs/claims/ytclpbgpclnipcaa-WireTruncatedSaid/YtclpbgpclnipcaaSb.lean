/-
  Regions that draw their order: every order does what the order of the text does. And what follows.
-/
import Derived.Deep.LoopGhost
import Derived.Test.YtclpbgpclnipcaaSa
set_option linter.unusedSimpArgs false
set_option linter.unusedVariables false
namespace Go.Sx
open Go.RowKit

/-- What an operation touches among the boxes: 1 reads, 2 writes, 3 takes a right, 4 everything. -/
abbrev FP := Nat × Nat
def fpOf (id : Nat) : Plan → FP
  | .val _ _ => (0, 0)
  | .rd b _ => (1, b)
  | .wr b _ _ => (2, b)
  | .xr b _ => (3, b)
  | .new _ _ => (2, id)
  | .call _ _ => (4, 0)
def noConf (p q : FP) : Bool := p.1 == 0 || q.1 == 0 || (p.1 != 4 && q.1 != 4 && (p.2 != q.2 || (p.1 == 1 && q.1 == 1) || (p.1 == 1 && q.1 == 3) || (p.1 == 3 && q.1 == 1)))

/-- An operation's value, the slot that loses its right, the boxes, what was touched. -/
def eff (cx : Cx) (ops : Array Oper) (id : Nat) (o : Oper) (st : St) : Option (C × Option Nat × Hp × FP) :=
  match wantedS ops o st.env with
  | none => none
  | some false => some (.val undef, none, st.h, (0, 0))
  | some true => match splan cx ops o st.env with
    | none => none
    | some p => (actH cx id p st.h).map fun r => (r.1, r.2.1, r.2.2, fpOf id p)

def stepF (cx : Cx) (ops : Array Oper) (base i : Nat) (st : St) : Option (St × FP) :=
  match ops[i]? with
  | none => none
  | some o => if dstOK cx.N o.dst = true then (eff cx ops (base + cnt ops i) o st).map fun r => (⟨put o.dst r.1 (killS r.2.1 st.env), r.2.2.1⟩, r.2.2.2) else none

theorem stepF_step {cx : Cx} {ops : Array Oper} {base i : Nat} {st : St} : step cx ops base i st = (stepF cx ops base i st).map (·.1) := by
  unfold step stepF
  cases ops[i]? with
  | none => rfl
  | some o =>
    simp only []
    by_cases hd : dstOK cx.N o.dst = true
    · rw [if_pos hd, if_pos hd]
      unfold eff
      cases wantedS ops o st.env with
      | none => rfl
      | some b =>
        cases b with
        | false => rfl
        | true =>
          simp only []
          cases splan cx ops o st.env with
          | none => rfl
          | some p =>
            simp only [act]
            cases actH cx (base + cnt ops i) p st.h <;> rfl
    · rw [if_neg hd, if_neg hd]; rfl

/-- The slots whose rights an operation uses. -/
def ownSlots (ops : Array Oper) (o : Oper) : List Nat :=
  match o.op with
  | .move x => if isMv ops o.dst then (tmp? x).toList else []
  | .assign x => (tmp? x).toList
  | .store _ _ y => (tmp? y).toList
  | .call { callee := .builtin .append, args, .. } => match args.toList with
    | x :: _ => (tmp? x).toList
    | [] => []
  | _ => []

def apart (ops : Array Oper) (x y : Oper) : Bool := Oper.apart ops x y && (ownSlots ops x).all fun t => !(ownSlots ops y).contains t

section
variable {cx : Cx} {G : Gh} {w : World} {st : St} {a : Act} {P : Program}

theorem evn_congr {env env' : Nat → C} {x : Operand} (h : ∀ t, x = .tmp t → (env t).noR = (env' t).noR) : cx.evn env x = cx.evn env' x := by
  cases x with
  | tmp t => exact h t rfl
  | _ => rfl

theorem ev_congr {env env' : Nat → C} {x : Operand} (h : ∀ t, tmp? x = some t → env t = env' t) : cx.ev env x = cx.ev env' x := by
  cases x with
  | tmp t => exact h t rfl
  | _ => rfl

theorem splan_congr {ops : Array Oper} {o : Oper} {env env' : Nat → C} (h : ∀ t ∈ o.looksAt ops, (env t).noR = (env' t).noR) (h2 : ∀ t ∈ ownSlots ops o, env t = env' t) :
    splan cx ops o env = splan cx ops o env' := by
  have hE : ∀ x ∈ o.op.operands, cx.evn env x = cx.evn env' x := fun x hx => evn_congr fun t ht => h t (by
    subst ht
    exact List.mem_append_left _ (List.mem_filterMap.2 ⟨.tmp t, by simpa using hx, rfl⟩))
  obtain ⟨dst, op, type, pos, after, guard⟩ := o
  unfold splan
  cases op <;> simp only [Op.operands] at hE <;> simp only [] <;> try rfl
  case move x =>
    cases x with
    | tmp p =>
      simp only []
      simp only [ownSlots, tmp?] at h2
      split
      · rename_i ha
        rw [if_pos ha] at h2
        rw [h2 p (by simp)]
      · have := hE (.tmp p) (by simp)
        simp only [Cx.evn, Cx.ev] at this
        rw [this]
    | _ => rfl
  case assign x =>
    rw [ev_congr (cx := cx) (env := env) (env' := env') fun t ht => h2 t (by simp [ownSlots, ht])]
  case pick c x y => simp only [hE c (by simp), hE x (by simp), hE y (by simp)]
  case box t x => rw [hE x (by simp)]
  case build t ps =>
    have : (ps.toList.map fun x => (x.1, cx.evn env x.2)) = ps.toList.map fun x => (x.1, cx.evn env' x.2) := List.map_congr_left fun x hx => by
      rw [hE x.2 (by simp; exact ⟨x.1, by simpa using hx⟩)]
    rw [this]
  case buildSlice t n ps =>
    have : (ps.toList.map fun x => (x.1, cx.evn env x.2)) = ps.toList.map fun x => (x.1, cx.evn env' x.2) := List.map_congr_left fun x hx => by
      rw [hE x.2 (by simp; exact ⟨x.1, by simpa using hx⟩)]
    rw [this]
  case load t x => rw [hE x (by simp)]
  case store t x y =>
    rw [hE x (by simp), ev_congr (cx := cx) (x := y) (env := env) (env' := env') fun t ht => h2 t (by simp [ownSlots, ht])]
  case nilCheck x => rw [hE x (by simp)]
  case binOp op t x y yt => rw [hE x (by simp), hE y (by simp)]
  case unOp op t x => rw [hE x (by simp)]
  case convert s t x => rw [hE x (by simp)]
  case sliceToArrayPointer t x => rw [hE x (by simp)]
  case makeFunc fn first caps =>
    cases fn <;> try rfl
    rename_i f
    have : (caps.toList.map fun x => (cx.evn env x).share) = caps.toList.map fun x => (cx.evn env' x).share := List.map_congr_left fun x hx => by
      rw [hE x (by simp; exact .inr (by simpa using hx))]
    simp only [this]
  case makeSlice t l c => rw [hE l (by simp), hE c (by simp)]
  case slice t x lo hi mx =>
    have e1 : lo.map (cx.evn env) = lo.map (cx.evn env') := by cases lo with | none => rfl | some q => simp only [Option.map_some]; rw [hE q (by simp)]
    have e2 : hi.map (cx.evn env) = hi.map (cx.evn env') := by cases hi with | none => rfl | some q => simp only [Option.map_some]; rw [hE q (by simp)]
    have e3 : mx.map (cx.evn env) = mx.map (cx.evn env') := by cases mx with | none => rfl | some q => simp only [Option.map_some]; rw [hE q (by simp)]
    rw [hE x (by simp), e1, e2, e3]
  case fieldAddr t x f => rw [hE x (by simp)]
  case field t x f => rw [hE x (by simp)]
  case indexAddr t x i => rw [hE x (by simp), hE i (by simp)]
  case index t x i => rw [hE x (by simp), hE i (by simp)]
  case extract x i => rw [hE x (by simp)]
  case call c =>
    obtain ⟨callee, args, ts⟩ := c
    cases callee with
    | invoke r m => rfl
    | builtin b =>
      simp only []
      have hA : ∀ x ∈ args.toList, cx.evn env x = cx.evn env' x := fun x hx => hE x (by simpa [Call.operands] using hx)
      split
      · rename_i x t ha ht; rw [hA x (by rw [ha]; simp)]
      · rename_i x y t t2 ha ht
        rw [hA y (by rw [ha]; simp), ev_congr (cx := cx) (x := x) (env := env) (env' := env') fun t ht => h2 t (by simp [ownSlots, ha, ht])]
      · rename_i x y t t2 ha ht; rw [hA x (by rw [ha]; simp), hA y (by rw [ha]; simp)]
      · rename_i x y ha; rw [hA x (by rw [ha]; simp), hA y (by rw [ha]; simp)]
      · rename_i x y ha; rw [hA x (by rw [ha]; simp), hA y (by rw [ha]; simp)]
      · rfl
    | value f =>
      simp only []
      have hA : args.toList.map (cx.evn env) = args.toList.map (cx.evn env') := List.map_congr_left fun x hx => hE x (by simp [Call.operands]; exact .inr (by simpa using hx))
      rw [hE f (by simp [Call.operands]), hA]

theorem wanted_congr {ops : Array Oper} {o : Oper} {env env' : Nat → C} (h : ∀ t ∈ o.looksAt ops, (env t).noR = (env' t).noR) : wantedS ops o env = wantedS ops o env' := by
  unfold wantedS
  cases hg : o.guard with
  | none => rfl
  | some g =>
    obtain ⟨j, want⟩ := g
    simp only []
    cases hd : (ops[j]?).bind (·.dst) with
    | none => rfl
    | some t =>
      simp only []
      rw [h t (List.mem_append_right _ (by simp [hg, hd]))]

/-- Reading a box does not ask for rights. -/
def NR (f : List C → Option C) : Prop := ∀ (cells : List C) (i : Nat) (x : C), cells[i]? = some x → f (cells.set i x.noR) = f cells

theorem map_noR_set {cells : List C} {i : Nat} {x : C} (h : cells[i]? = some x) : (cells.set i x.noR).map C.noR = cells.map C.noR := by
  apply List.ext_getElem?
  intro j
  simp only [List.getElem?_map, List.getElem?_set]
  split
  · rename_i hij
    subst hij
    have hlt := (List.getElem?_eq_some_iff.1 h).1
    rw [h]
    split
    · cases x with
      | sl r n xs => cases r <;> rfl
      | _ => rfl
    · omega
  · rfl

theorem nr_of {f : List C → Option C} (g : List C → Option C) (h : ∀ cells, f cells = g (cells.map C.noR)) : NR f := fun cells i x hx => by
  rw [h, h, map_noR_set hx]

theorem nr_getAt (d : TD) (off : Nat) : NR fun cells => getAt d cells off :=
  nr_of (fun cs => if d.isAgg then (if off + d.size ≤ cs.length then some (.agg ((cs.drop off).take d.size)) else none) else cs[off]?) fun cells => by
    simp only [getAt, List.length_map, List.map_take, List.map_drop, List.getElem?_map]

theorem u8s?_noR : ∀ (xs : List C), u8s? xs = u8s? (xs.map C.noR)
  | [] => rfl
  | c :: xs => by
    cases c with
    | val v =>
      cases v with
      | int k n =>
        cases k <;> simp only [List.map_cons, C.noR, u8s?]
        rw [u8s?_noR xs]
      | _ => rfl
    | sl r n ys => cases r <;> rfl
    | _ => rfl

theorem part_noR {cells : List C} {i : Nat} {x : C} (h : cells[i]? = some x) (o n : Nat) : (((cells.set i x.noR).drop o).take n).map C.noR = ((cells.drop o).take n).map C.noR := by
  simp only [List.map_take, List.map_drop, map_noR_set h]

def Plan.nr : Plan → Prop
  | .rd _ f => NR f
  | _ => True

theorem conv_nr {s d : TypeId} {c : C} {p : Plan} (h : convPlan P s d c = some p) : p.nr := by
  unfold convPlan at h
  repeat' split at h
  all_goals first
    | (cases h; done)
    | (cases h; trivial)
    | skip
  · cases h
    simp only [Plan.nr]
    intro cells i x hx
    simp only [List.length_set]
    rw [u8s?_noR, part_noR hx, ← u8s?_noR]
  · rename_i n xs _ _
    cases hq : u8s? xs with
    | none => rw [hq] at h; cases h
    | some ns => rw [hq] at h; cases h; trivial

theorem load_nr {own : Bool} {t : TypeId} {c : C} {p : Plan} (h : loadPlan P own t c = some p) : p.nr := by
  unfold loadPlan at h
  split at h
  · cases h
  · rename_i d hd
    split at h
    · split at h
      · cases h; trivial
      · cases h; exact nr_getAt d _
    · cases hq : getAt d _ loadPlan.off0 with
      | none => rw [hq] at h; cases h
      | some x => rw [hq] at h; cases h; trivial
    · cases h

theorem append_nr {t t2 : TypeId} {x y : C} {k : Option Nat} {p : Plan} (h : appendPlan P t t2 x y k = some p) : p.nr := by
  unfold appendPlan at h
  split at h
  · cases h
  · cases h
  split at h
  · cases h
  split at h
  · split at h
    · cases h
    simp only [] at h
    split at h
    · cases h
    split at h
    · split at h
      · cases h; trivial
      · cases h
        simp only [Plan.nr]
        intro cells i x hx
        simp only [List.length_set, part_noR hx]
    · split at h
      · rename_i m ys _
        split at h
        · cases h; trivial
        · cases h
      · cases h
  · cases h

theorem nr_map {α : Type} {x : Option α} {g : α → Plan} {p : Plan} (h : x.map g = some p) (hg : ∀ y, (g y).nr) : p.nr := by
  cases x with
  | none => cases h
  | some y => cases h; exact hg y

theorem frz1_set {b : Nat} {cells : List C} {i : Nat} {x : C} (hx : cells[i]? = some x) (c : C) : frz1 b (cells.set i x.noR) c = frz1 b cells c := by
  have hm : ∀ k, ((cells.set i x.noR).drop k).map C.noR = (cells.drop k).map C.noR := fun k => by
    apply List.ext_getElem?
    intro j
    simp only [List.getElem?_map, List.getElem?_drop, List.getElem?_set]
    split
    · rename_i e; subst e
      rw [hx]
      split
      · simp only [Option.map_some]
        congr 1
        cases x with
        | sl r n xs => cases r <;> rfl
        | _ => rfl
      · rename_i hlt
        exact absurd (List.getElem?_eq_some_iff.1 hx).1 hlt
    · rfl
  cases c with
  | sv b' off n =>
    simp only [frz1, List.length_set]
    split
    · rw [List.map_take, List.map_take, hm]
    · rfl
  | bp b' off => simp only [frz1, hm]
  | _ => rfl
theorem frzs1_set {b : Nat} {cells : List C} {i : Nat} {x : C} (hx : cells[i]? = some x) : ∀ as : List C, frzs1 b (cells.set i x.noR) as = frzs1 b cells as
  | [] => rfl
  | c :: l => by simp only [frzs1, frz1_set hx, frzs1_set hx l]
theorem rdPu_nr (g : Nat) (as : List C) (b : Nat) : NR (rdPu cx g as b) := fun cells i x hx => by
  unfold rdPu; rw [frzs1_set hx]

theorem splan_nr {ops : Array Oper} {o : Oper} {env : Nat → C} {p : Plan} (h : splan cx ops o env = some p) : p.nr := by
  unfold splan at h
  simp only [] at h
  split at h
  case h_8 => exact load_nr h
  case h_13 => exact conv_nr h
  case h_23 =>
    split at h
    · split at h
      case h_2 => exact append_nr h
      all_goals
        try simp only [lenPlan, copyPlan, minMax] at h
        repeat' split at h
        all_goals first | (cases h; done) | (cases h; trivial) | exact nr_map h fun _ => trivial
    · simp only [callPlan] at h
      repeat' split at h
      all_goals first | (cases h; done) | (cases h; exact rdPu_nr _ _ _) | (cases h; trivial)
    · cases h
  all_goals
    try simp only [storePlan, slicePlan, indexAddrPlan, indexPlan, fieldPlan, fieldAddrPlan, binPlan, eqPlan, unPlan] at h
    repeat' split at h
    all_goals first | (cases h; done) | (cases h; trivial) | exact nr_map h fun _ => trivial

/-- What a plan does to one box. -/
def locP (id : Nat) : Plan → Option (Nat × (Option (List C) → Option (C × Option Nat × Option (List C))))
  | .rd b f => some (b, fun e => (e.bind f).map fun c => (c, none, e))
  | .wr b f k => some (b, fun e => (e.bind f).map fun r => (r.2, k, some r.1))
  | .xr b off => some (b, fun e => e.bind fun cells => (cells[off]?).map fun x => (x, none, some (cells.set off x.noR)))
  | .new cells g => some (id, fun e => match e with | none => some (g id, none, some cells) | some _ => none)
  | _ => none

theorem actH_loc {id b : Nat} {p : Plan} {l : Option (List C) → Option (C × Option Nat × Option (List C))} (h : locP id p = some (b, l)) (hp : Hp) :
    actH cx id p hp = (hp[b]?).bind fun e => (l e).map fun r => (r.1, r.2.1, hp.set b r.2.2) := by
  cases p <;> simp only [locP, Option.some.injEq, Prod.mk.injEq, reduceCtorEq] at h
  case rd b' f =>
    obtain ⟨rfl, rfl⟩ := h
    simp only [actH, Hp.at]
    cases hq : hp[b']? with
    | none => rfl
    | some e =>
      simp only [Option.bind_some, id_eq]
      cases hf : e.bind f with
      | none => rfl
      | some c =>
        simp only [Option.map_some]
        have : hp.set b' e = hp := by
          apply List.ext_getElem?
          intro j
          rw [List.getElem?_set]
          split
          · rename_i hj; subst hj
            have := (List.getElem?_eq_some_iff.1 hq).1
            simp [this, hq]
            have := (List.getElem?_eq_some_iff.1 hq).2
            exact this.symm
          · rfl
        rw [this]
  case wr b' f k =>
    obtain ⟨rfl, rfl⟩ := h
    simp only [actH, Hp.at]
    cases hq : hp[b']? with
    | none => rfl
    | some e =>
      simp only [Option.bind_some, id_eq]
      cases hf : e.bind f <;> rfl
  case xr b' off =>
    obtain ⟨rfl, rfl⟩ := h
    simp only [actH, Hp.at]
    cases hq : hp[b']? with
    | none => rfl
    | some e =>
      cases e with
      | none => rfl
      | some cells =>
        simp only [Option.bind_some, id_eq]
        cases cells[off]? <;> rfl
  case new cells g =>
    obtain ⟨rfl, rfl⟩ := h
    simp only [actH]
    cases hq : hp[id]? with
    | none => rfl
    | some e => cases e <;> rfl

theorem fp_loc {id : Nat} {p : Plan} (h0 : (fpOf id p).1 ≠ 0) (h4 : (fpOf id p).1 ≠ 4) : ∃ l, locP id p = some ((fpOf id p).2, l) := by
  cases p <;> simp [fpOf] at h0 h4 <;> exact ⟨_, rfl⟩

theorem actH_comm {idk idi : Nat} {pk pi : Plan} {h h1 h2 : Hp} {ck ci : C} {kk ki : Option Nat} (e1 : actH cx idk pk h = some (ck, kk, h1)) (e2 : actH cx idi pi h1 = some (ci, ki, h2))
    (hc : noConf (fpOf idk pk) (fpOf idi pi) = true) (nk : pk.nr) (ni : pi.nr) : ∃ h1', actH cx idi pi h = some (ci, ki, h1') ∧ actH cx idk pk h1' = some (ck, kk, h2) := by
  by_cases k0 : (fpOf idk pk).1 = 0
  · cases pk <;> simp [fpOf] at k0
    simp only [actH, Option.some.injEq, Prod.mk.injEq] at e1 ⊢
    obtain ⟨rfl, rfl, rfl⟩ := e1
    exact ⟨h2, e2, rfl, rfl, rfl⟩
  by_cases i0 : (fpOf idi pi).1 = 0
  · cases pi <;> simp [fpOf] at i0
    simp only [actH, Option.some.injEq, Prod.mk.injEq] at e2 ⊢
    obtain ⟨rfl, rfl, rfl⟩ := e2
    exact ⟨h, ⟨rfl, rfl, rfl⟩, e1⟩
  have k4 : (fpOf idk pk).1 ≠ 4 := fun e => by simp [noConf, k0, i0, e] at hc
  have i4 : (fpOf idi pi).1 ≠ 4 := fun e => by simp [noConf, k0, i0, e] at hc
  by_cases hb : (fpOf idk pk).2 = (fpOf idi pi).2
  · cases pk with
    | val c k => exact absurd rfl k0
    | call f as => exact absurd rfl k4
    | wr b f k => cases pi with
      | val c k => exact absurd rfl i0
      | call f as => exact absurd rfl i4
      | _ => simp [noConf, fpOf] at hc hb; omega
    | new cells g => cases pi with
      | val c k => exact absurd rfl i0
      | call f as => exact absurd rfl i4
      | _ => simp [noConf, fpOf] at hc hb; omega
    | rd b f =>
      simp only [actH] at e1
      cases hq : (h.at b).bind f with
      | none => rw [hq] at e1; cases e1
      | some c =>
        rw [hq] at e1
        simp only [Option.map_some, Option.some.injEq, Prod.mk.injEq] at e1
        obtain ⟨rfl, rfl, rfl⟩ := e1
        cases pi with
        | val c k => exact absurd rfl i0
        | call f as => exact absurd rfl i4
        | wr b f k => simp [noConf, fpOf] at hc hb; omega
        | new cells g => simp [noConf, fpOf] at hc hb; omega
        | rd b' f' =>
          have e2' := e2
          simp only [actH] at e2'
          cases hq' : (h.at b').bind f' with
          | none => rw [hq'] at e2'; cases e2'
          | some c' =>
            rw [hq'] at e2'
            simp only [Option.map_some, Option.some.injEq, Prod.mk.injEq] at e2'
            obtain ⟨rfl, rfl, rfl⟩ := e2'
            exact ⟨h, e2, by simp only [actH, hq]; rfl⟩
        | xr b' off =>
          have hbb : b = b' := hb
          subst hbb
          refine ⟨h2, e2, ?_⟩
          simp only [actH] at e2 ⊢
          cases hat : h.at b with
          | none => rw [hat] at e2; cases e2
          | some cells =>
            rw [hat] at e2 hq
            simp only [Option.bind_some] at e2 hq
            cases hx : cells[off]? with
            | none => rw [hx] at e2; cases e2
            | some x =>
              rw [hx] at e2
              simp only [Option.map_some, Option.some.injEq, Prod.mk.injEq] at e2
              obtain ⟨_, _, rfl⟩ := e2
              have hlt : b < h.length := (List.getElem?_eq_some_iff.1 (Hp.at_some.1 hat)).1
              rw [Hp.at_set hlt, if_pos rfl]
              simp only [Option.bind_some]
              rw [nk cells off x hx, hq]
              rfl
    | xr b off =>
      simp only [actH] at e1
      cases hat : h.at b with
      | none => rw [hat] at e1; cases e1
      | some cells =>
        rw [hat] at e1
        simp only [Option.bind_some] at e1
        cases hx : cells[off]? with
        | none => rw [hx] at e1; cases e1
        | some x =>
          rw [hx] at e1
          simp only [Option.map_some, Option.some.injEq, Prod.mk.injEq] at e1
          obtain ⟨rfl, rfl, rfl⟩ := e1
          have hlt : b < h.length := (List.getElem?_eq_some_iff.1 (Hp.at_some.1 hat)).1
          cases pi with
          | val c k => exact absurd rfl i0
          | call f as => exact absurd rfl i4
          | wr b f k => simp [noConf, fpOf] at hc hb; omega
          | new cells g => simp [noConf, fpOf] at hc hb; omega
          | xr b' off' => simp [noConf, fpOf] at hc hb; omega
          | rd b' f' =>
            have hbb : b = b' := hb
            subst hbb
            simp only [actH] at e2 ⊢
            rw [Hp.at_set hlt, if_pos rfl] at e2
            simp only [Option.bind_some] at e2
            rw [ni cells off x hx] at e2
            cases hf : f' cells with
            | none => rw [hf] at e2; cases e2
            | some c' =>
              rw [hf] at e2
              simp only [Option.map_some, Option.some.injEq, Prod.mk.injEq] at e2
              obtain ⟨rfl, rfl, rfl⟩ := e2
              refine ⟨h, ?_, ?_⟩
              · rw [hat]; simp only [Option.bind_some, hf]; rfl
              · rw [hat]; simp only [Option.bind_some, hx]; rfl
  · obtain ⟨lk, hlk⟩ := fp_loc k0 k4
    obtain ⟨li, hli⟩ := fp_loc i0 i4
    rw [actH_loc hlk] at e1
    rw [actH_loc hli] at e2
    simp only [actH_loc hlk, actH_loc hli]
    generalize (fpOf idk pk).2 = bk at *
    generalize (fpOf idi pi).2 = bi at *
    cases hk : h[bk]? with
    | none => rw [hk] at e1; cases e1
    | some ek =>
      rw [hk] at e1
      simp only [Option.bind_some] at e1
      cases hlk' : lk ek with
      | none => rw [hlk'] at e1; cases e1
      | some rk =>
        rw [hlk'] at e1
        simp only [Option.map_some, Option.some.injEq, Prod.mk.injEq] at e1
        obtain ⟨rfl, rfl, rfl⟩ := e1
        rw [List.getElem?_set_ne hb] at e2
        cases hi : h[bi]? with
        | none => rw [hi] at e2; cases e2
        | some ei =>
          rw [hi] at e2
          simp only [Option.bind_some] at e2
          cases hli' : li ei with
          | none => rw [hli'] at e2; cases e2
          | some ri =>
            rw [hli'] at e2
            simp only [Option.map_some, Option.some.injEq, Prod.mk.injEq] at e2
            obtain ⟨rfl, rfl, rfl⟩ := e2
            refine ⟨h.set bi ri.2.2, by simp [hli'], ?_⟩
            rw [List.getElem?_set_ne (Ne.symm hb), hk]
            simp only [Option.bind_some, hlk', Option.map_some, Option.some.injEq, Prod.mk.injEq, true_and]
            exact List.set_comm _ _ (Ne.symm hb)

theorem killS_noR (k : Option Nat) (env : Nat → C) (t : Nat) : (killS k env t).noR = (env t).noR := by
  cases k with
  | none => rfl
  | some p =>
    simp only [killS]
    split
    · rename_i e
      subst e
      cases hc : env t with
      | sl r n xs => cases r <;> rfl
      | _ => rfl
    · rfl

def Plan.kill : Plan → Option Nat
  | .val _ k => k
  | .wr _ _ k => k
  | _ => none

theorem kill_map {α : Type} {x : Option α} {g : α → Plan} {p : Plan} (h : x.map g = some p) (hg : ∀ y, (g y).kill = none) : p.kill = none := by
  cases x with
  | none => cases h
  | some y => cases h; exact hg y

theorem store_kill {t : TypeId} {c x : C} {k : Option Nat} {p : Plan} (h : storePlan P t c x k = some p) : p.kill = none ∨ p.kill = k := by
  unfold storePlan at h
  repeat' split at h
  all_goals first | (cases h; done) | (cases h; exact .inl rfl) | (cases h; exact .inr rfl)

theorem append_kill {t t2 : TypeId} {x y : C} {k : Option Nat} {p : Plan} (h : appendPlan P t t2 x y k = some p) : p.kill = none ∨ p.kill = k := by
  unfold appendPlan at h
  split at h
  · cases h
  · cases h
  split at h
  · cases h
  split at h
  · split at h
    · cases h
    simp only [] at h
    split at h
    · cases h
    · rename_i n xs k' hs
      have hk : k' = none ∨ k' = k := by
        split at hs
        · cases hs; exact .inl rfl
        · cases hs; exact .inl rfl
        · split at hs
          · cases hs; exact .inr rfl
          · cases hs
        · cases hs
      split at h
      · split at h
        · cases h; exact hk
        · cases h; exact .inl rfl
      · split at h
        · split at h
          · cases h; exact hk
          · cases h
        · cases h
  · cases h

theorem conv_kill {s d : TypeId} {c : C} {p : Plan} (h : convPlan P s d c = some p) : p.kill = none := by
  unfold convPlan at h
  repeat' split at h
  all_goals first
    | (cases h; done)
    | (cases h; rfl)
    | exact kill_map h fun _ => rfl

theorem load_kill {own : Bool} {t : TypeId} {c : C} {p : Plan} (h : loadPlan P own t c = some p) : p.kill = none := by
  unfold loadPlan at h
  repeat' split at h
  all_goals first
    | (cases h; done)
    | (cases h; rfl)
    | exact kill_map h fun _ => rfl

theorem splan_kill {ops : Array Oper} {o : Oper} {env : Nat → C} {p : Plan} (h : splan cx ops o env = some p) {q : Nat} (hq : p.kill = some q) : q ∈ ownSlots ops o := by
  have none_ : p.kill = none → q ∈ ownSlots ops o := fun e => by rw [e] at hq; cases hq
  unfold splan at h
  simp only [] at h
  split at h
  case h_1 x ho =>
    split at h
    · split at h
      · rename_i ha
        cases h
        cases hq
        simp [ownSlots, ho, ha, tmp?]
      · cases h; cases hq
    · cases h; cases hq
  case h_2 x ho =>
    cases h
    simp only [Plan.kill] at hq
    simp [ownSlots, ho, hq]
  case h_8 => exact none_ (load_kill h)
  case h_9 t x y ho =>
    rcases store_kill h with e | e
    · exact none_ e
    · rw [e] at hq; simp [ownSlots, ho, hq]
  case h_13 => exact none_ (conv_kill h)
  case h_23 c ho =>
    split at h
    · rename_i b hb
      split at h
      case h_2 x y t t2 ha ht =>
        rcases append_kill h with e | e
        · exact none_ e
        · rw [e] at hq
          obtain ⟨callee, args, ts⟩ := c
          simp only [] at hb ha
          subst hb
          simp [ownSlots, ho, ha, hq]
      all_goals
        refine none_ ?_
        try simp only [lenPlan, copyPlan, minMax] at h
        repeat' split at h
        all_goals first | (cases h; done) | (cases h; rfl) | exact kill_map h fun _ => rfl
    · refine none_ ?_
      simp only [callPlan] at h
      repeat' split at h
      all_goals first | (cases h; done) | (cases h; rfl)
    · cases h
  all_goals
    refine none_ ?_
    try simp only [slicePlan, indexAddrPlan, indexPlan, fieldPlan, fieldAddrPlan, binPlan, eqPlan, unPlan] at h
    repeat' split at h
    all_goals first | (cases h; done) | (cases h; rfl) | exact kill_map h fun _ => rfl

theorem eff_kill {ops : Array Oper} {id : Nat} {o : Oper} {st : St} {c : C} {k : Option Nat} {h' : Hp} {f : FP} (h : eff cx ops id o st = some (c, k, h', f)) : ∀ p, k = some p → p ∈ ownSlots ops o := by
  intro p hk
  subst hk
  unfold eff at h
  split at h
  · cases h
  · cases h
  · split at h
    · cases h
    · rename_i pl hpl
      cases ha : actH cx id pl st.h with
      | none => rw [ha] at h; cases h
      | some r =>
        rw [ha] at h
        simp only [Option.map_some, Option.some.injEq, Prod.mk.injEq] at h
        obtain ⟨rfl, hk, rfl, rfl⟩ := h
        have hkill : (∃ c, pl = .val c (some p)) ∨ ∃ b f, pl = .wr b f (some p) := by
          cases pl with
          | val c k => simp only [actH, Option.some.injEq] at ha; subst ha; simp only [] at hk; subst hk; exact .inl ⟨c, rfl⟩
          | rd b f => simp only [actH] at ha; cases hq : (st.h.at b).bind f <;> rw [hq] at ha <;> cases ha; cases hk
          | wr b f k =>
            simp only [actH] at ha
            cases hq : (st.h.at b).bind f with
            | none => rw [hq] at ha; cases ha
            | some r' => rw [hq] at ha; cases ha; simp only [] at hk; subst hk; exact .inr ⟨b, f, rfl⟩
          | xr b off =>
            simp only [actH] at ha
            cases hq : st.h.at b with
            | none => rw [hq] at ha; cases ha
            | some cells =>
              rw [hq] at ha
              simp only [Option.bind_some] at ha
              cases hq2 : cells[off]? <;> rw [hq2] at ha <;> cases ha
              cases hk
          | new cells g =>
            simp only [actH] at ha
            split at ha <;> cases ha
            cases hk
          | call g as => simp only [actH] at ha; cases hq : cx.hp g as st.h <;> rw [hq] at ha <;> cases ha; cases hk
        refine splan_kill hpl ?_
        rcases hkill with ⟨c, rfl⟩ | ⟨b, f, rfl⟩ <;> rfl

theorem own_looks {ops : Array Oper} {o : Oper} {t : Nat} (h : t ∈ ownSlots ops o) : t ∈ o.looksAt ops := by
  refine List.mem_append_left _ (List.mem_filterMap.2 ⟨.tmp t, ?_, rfl⟩)
  have key : ∀ x : Operand, tmp? x = some t → x = .tmp t := fun x hx => by cases x <;> simp [tmp?] at hx; rw [hx]
  obtain ⟨dst, op, type, pos, after, guard⟩ := o
  unfold ownSlots at h
  split at h
  · rename_i x ho
    simp only [] at ho
    subst ho
    split at h
    · rw [Option.mem_toList] at h
      simp [Op.operands, key x h]
    · cases h
  · rename_i x ho
    simp only [] at ho
    subst ho
    rw [Option.mem_toList] at h
    simp [Op.operands, key x h]
  · rename_i a b y ho
    simp only [] at ho
    subst ho
    rw [Option.mem_toList] at h
    simp [Op.operands, key y h]
  · rename_i args ts ho
    simp only [] at ho
    subst ho
    split at h
    · rename_i x r ha
      rw [Option.mem_toList] at h
      simp only [Op.operands, Call.operands, Array.toList_append, List.mem_append]
      right
      rw [ha, key x h]
      simp
    · cases h
  · cases h

/-- Two operations that are apart may change places. -/
theorem stepF_comm {ops : Array Oper} {base k i : Nat} {st st1 st2 : St} {fk fi : FP} {ok oi : Oper} (hok : ops[k]? = some ok) (hoi : ops[i]? = some oi) (hap : apart ops ok oi = true)
    (h1 : stepF cx ops base k st = some (st1, fk)) (h2 : stepF cx ops base i st1 = some (st2, fi)) (hc : noConf fk fi = true) :
    ∃ st1', stepF cx ops base i st = some (st1', fi) ∧ stepF cx ops base k st1' = some (st2, fk) := by
  simp only [apart, Bool.and_eq_true] at hap
  obtain ⟨hap, hos⟩ := hap
  obtain ⟨a1, a2, a3⟩ := Oper.apart_spec hap
  have hos' : ∀ t, t ∈ ownSlots ops ok → t ∉ ownSlots ops oi := fun t ht => by simpa using List.all_eq_true.1 hos t ht
  unfold stepF at h1 h2 ⊢
  rw [hok] at h1
  rw [hoi] at h2
  simp only [hok, hoi] at h1 h2 ⊢
  by_cases dk : dstOK cx.N ok.dst = true
  case neg => rw [if_neg dk] at h1; cases h1
  by_cases di : dstOK cx.N oi.dst = true
  case neg => rw [if_neg di] at h2; cases h2
  rw [if_pos dk] at h1
  rw [if_pos di] at h2
  rw [if_pos di]
  cases hk : eff cx ops (base + cnt ops k) ok st with
  | none => rw [hk] at h1; cases h1
  | some rk =>
    obtain ⟨ck, kk, hk', fk'⟩ := rk
    rw [hk] at h1
    simp only [Option.map_some, Option.some.injEq, Prod.mk.injEq] at h1
    obtain ⟨rfl, rfl⟩ := h1
    cases hi : eff cx ops (base + cnt ops i) oi ⟨put ok.dst ck (killS kk st.env), hk'⟩ with
    | none => rw [hi] at h2; cases h2
    | some ri =>
      obtain ⟨ci, ki, hi', fi'⟩ := ri
      rw [hi] at h2
      simp only [Option.map_some, Option.some.injEq, Prod.mk.injEq] at h2
      obtain ⟨rfl, rfl⟩ := h2
      have kk' := eff_kill hk
      have ki' := eff_kill hi
      -- the frames
      have put_ne : ∀ {d : Option Nat} {c : C} {env : Nat → C} {t : Nat}, d ≠ some t → put d c env t = env t := by
        intro d c env t hne
        cases d with
        | none => rfl
        | some d => simp only [put]; rw [if_neg (fun e => hne (by rw [e]))]
      have kill_ne : ∀ {kq : Option Nat} {env : Nat → C} {t : Nat}, kq ≠ some t → killS kq env t = env t := by
        intro kq env t hne
        cases kq with
        | none => rfl
        | some q => simp only [killS]; rw [if_neg (fun e => hne (by rw [e]))]
      have see_i : ∀ t ∈ oi.looksAt ops, (put ok.dst ck (killS kk st.env) t).noR = (st.env t).noR := fun t ht => by
        rw [put_ne (fun e => a1 t e ht), killS_noR]
      have own_i : ∀ t ∈ ownSlots ops oi, put ok.dst ck (killS kk st.env) t = st.env t := fun t ht => by
        rw [put_ne (fun e => a1 t e (own_looks ht)), kill_ne (fun e => hos' t (kk' t e) ht)]
      have see_k : ∀ t ∈ ok.looksAt ops, (put oi.dst ci (killS ki st.env) t).noR = (st.env t).noR := fun t ht => by
        rw [put_ne (fun e => a3 t e ht), killS_noR]
      have own_k : ∀ t ∈ ownSlots ops ok, put oi.dst ci (killS ki st.env) t = st.env t := fun t ht => by
        rw [put_ne (fun e => a3 t e (own_looks ht)), kill_ne (fun e => hos' t ht (ki' t e))]
      have env_eq : put oi.dst ci (killS ki (put ok.dst ck (killS kk st.env))) = put ok.dst ck (killS kk (put oi.dst ci (killS ki st.env))) := by
        funext t
        by_cases t1 : oi.dst = some t
        · have t2 : ok.dst ≠ some t := fun e => a2 t e t1
          have t3 : kk ≠ some t := fun e => a3 t t1 (own_looks (kk' t e))
          rw [put_ne t2, kill_ne t3, t1]
          simp [put]
        · rw [put_ne t1]
          by_cases t2 : ok.dst = some t
          · have t3 : ki ≠ some t := fun e => a1 t t2 (own_looks (ki' t e))
            rw [kill_ne t3, t2]
            simp [put]
          · rw [put_ne t2]
            have e1 : killS ki (put ok.dst ck (killS kk st.env)) t = killS ki (killS kk st.env) t := by
              cases ki with
              | none => simp only [killS]; rw [put_ne t2]
              | some q =>
                simp only [killS]
                split
                · rename_i e; subst e; rw [put_ne t2]
                · rw [put_ne t2]
            have e2 : killS kk (put oi.dst ci (killS ki st.env)) t = killS kk (killS ki st.env) t := by
              cases kk with
              | none => simp only [killS]; rw [put_ne t1]
              | some q =>
                simp only [killS]
                split
                · rename_i e; subst e; rw [put_ne t1]
                · rw [put_ne t1]
            rw [e1, e2]
            cases ki <;> cases kk <;> simp only [killS]
            split <;> split <;> simp_all
      -- the effects
      have comm : ∃ h1', eff cx ops (base + cnt ops i) oi st = some (ci, ki, h1', fi') ∧ eff cx ops (base + cnt ops k) ok ⟨put oi.dst ci (killS ki st.env), h1'⟩ = some (ck, kk, hi', fk') := by
        unfold eff at hk hi ⊢
        simp only [] at hk hi ⊢
        rw [wanted_congr (env := put ok.dst ck (killS kk st.env)) see_i, splan_congr see_i own_i] at hi
        cases wk : wantedS ops ok st.env with
        | none => rw [wk] at hk; cases hk
        | some bk =>
          rw [wk] at hk
          cases wi : wantedS ops oi st.env with
          | none => rw [wi] at hi; cases hi
          | some bi =>
            rw [wi] at hi
            have wk2 : wantedS ops ok (put oi.dst ci (killS ki st.env)) = some bk := by rw [wanted_congr see_k, wk]
            have sk2 : splan cx ops ok (put oi.dst ci (killS ki st.env)) = splan cx ops ok st.env := splan_congr see_k own_k
            cases bk with
            | false =>
              simp only [Option.some.injEq, Prod.mk.injEq] at hk
              obtain ⟨rfl, rfl, rfl, rfl⟩ := hk
              exact ⟨hi', hi, by rw [wk2]⟩
            | true =>
              simp only [] at hk
              cases pk : splan cx ops ok st.env with
              | none => rw [pk] at hk; cases hk
              | some plk =>
                rw [pk] at hk
                simp only [] at hk
                cases ak : actH cx (base + cnt ops k) plk st.h with
                | none => rw [ak] at hk; cases hk
                | some rk =>
                  rw [ak] at hk
                  simp only [Option.map_some, Option.some.injEq, Prod.mk.injEq] at hk
                  obtain ⟨rfl, rfl, rfl, rfl⟩ := hk
                  cases bi with
                  | false =>
                    simp only [Option.some.injEq, Prod.mk.injEq] at hi
                    obtain ⟨rfl, rfl, rfl, rfl⟩ := hi
                    refine ⟨st.h, rfl, ?_⟩
                    rw [wk2, sk2, pk]
                    simp only [ak, Option.map_some]
                  | true =>
                    simp only [] at hi
                    cases pi : splan cx ops oi st.env with
                    | none => rw [pi] at hi; cases hi
                    | some pli =>
                      rw [pi] at hi
                      simp only [] at hi
                      cases ai : actH cx (base + cnt ops i) pli rk.2.2 with
                      | none => rw [ai] at hi; cases hi
                      | some ri =>
                        rw [ai] at hi
                        simp only [Option.map_some, Option.some.injEq, Prod.mk.injEq] at hi
                        obtain ⟨rfl, rfl, rfl, rfl⟩ := hi
                        obtain ⟨h1', q1, q2⟩ := actH_comm (cx := cx) ak ai hc (splan_nr pk) (splan_nr pi)
                        refine ⟨h1', ?_, ?_⟩
                        · simp only [q1, Option.map_some]
                        · rw [wk2, sk2, pk]
                          simp only [q2, Option.map_some]
      obtain ⟨h1', q1, q2⟩ := comm
      refine ⟨⟨put oi.dst ci (killS ki st.env), h1'⟩, by rw [q1]; rfl, ?_⟩
      rw [if_pos dk, q2, env_eq]
      rfl
end
end Go.Sx

namespace Go.Sx
open Go.RowKit

def RunF (cx : Cx) (ops : Array Oper) (base : Nat) (F : Nat → FP) : List Nat → St → St → Prop
  | [], st, fin => st = fin
  | i :: l, st, fin => ∃ st', stepF cx ops base i st = some (st', F i) ∧ RunF cx ops base F l st' fin

/-- What an operation waits for, as bits. -/
def maskOf (acc : List Nat) (o : Oper) : Nat := o.after.toList.foldl (fun s e => if Region.binds .any e then s ||| 2 ^ e.on ||| (acc[e.on]?).getD 0 else s) 0
def depAux : List Oper → List Nat → List Nat
  | [], acc => acc
  | o :: r, acc => depAux r (acc ++ [maskOf acc o])
def depM (ops : Array Oper) : List Nat := depAux ops.toList []

def waits (d : List Nat) (i k : Nat) : Bool := ((d[i]?).getD 0).testBit k

/-- Every two operations wait for each other, or are apart; edges go up. -/
def regStatic (ops : Array Oper) : Bool :=
  let d := depM ops
  (ops.toList.zipIdx.all fun x => x.1.after.toList.all fun e => !Region.binds .any e || decide (e.on < x.2)) &&
  ops.toList.zipIdx.all fun x => ops.toList.zipIdx.all fun y => !decide (y.2 < x.2) || waits d x.2 y.2 || apart ops y.1 x.1

def confsOK (ops : Array Oper) (fps : List FP) : Bool :=
  let d := depM ops
  fps.zipIdx.all fun x => x.1.1 == 0 || fps.zipIdx.all fun y => !decide (y.2 < x.2) || y.1.1 == 0 || waits d x.2 y.2 || noConf y.1 x.1

def runL (cx : Cx) (ops : Array Oper) (base : Nat) : List Nat → St → Option (St × List FP)
  | [], st => some (st, [])
  | i :: l, st => match stepF cx ops base i st with
    | none => none
    | some (st', f) => (runL cx ops base l st').map fun r => (r.1, f :: r.2)

def sregionD (cx : Cx) (ops : Array Oper) (st : St) : Option St :=
  match runL cx ops st.h.length (List.range ops.size) ⟨st.env, st.h ++ List.replicate (cnt ops ops.size) none⟩ with
  | some (st', fps) => if confsOK ops fps = true then some st' else none
  | none => none

section
variable {cx : Cx} {G : Gh} {w : World} {st : St} {a : Act} {P : Program} {ops : Array Oper} {base : Nat}

theorem runF_front {F : Nat → FP} {i : Nat} {oi : Oper} (hoi : ops[i]? = some oi) : ∀ (l1 : List Nat) {l2 : List Nat} {st fin : St},
    (∀ k ∈ l1, ∃ ok, ops[k]? = some ok ∧ apart ops ok oi = true ∧ noConf (F k) (F i) = true) → RunF cx ops base F (l1 ++ i :: l2) st fin →
    ∃ st', stepF cx ops base i st = some (st', F i) ∧ RunF cx ops base F (l1 ++ l2) st' fin
  | [], l2, st, fin, _, h => h
  | k :: l1, l2, st, fin, hk, h => by
    simp only [List.cons_append, RunF] at h
    obtain ⟨st1, h1, h2⟩ := h
    obtain ⟨st2, h3, h4⟩ := runF_front hoi l1 (fun k' hk' => hk k' (by simp [hk'])) h2
    obtain ⟨ok, hok, hap, hc⟩ := hk k (by simp)
    obtain ⟨st1', q1, q2⟩ := stepF_comm hok hoi hap h1 h3 hc
    exact ⟨st1', q1, st2, q2, h4⟩

theorem maskOf_bits {acc : List Nat} {o : Oper} {k : Nat} (h : (maskOf acc o).testBit k = true) : ∃ e ∈ o.after, Region.binds .any e = true ∧ (k = e.on ∨ ((acc[e.on]?).getD 0).testBit k = true) := by
  unfold maskOf at h
  have key : ∀ (l : List Edge) (s : Nat), (l.foldl (fun s e => if Region.binds .any e then s ||| 2 ^ e.on ||| (acc[e.on]?).getD 0 else s) s).testBit k = true →
      s.testBit k = true ∨ ∃ e ∈ l, Region.binds .any e = true ∧ (k = e.on ∨ ((acc[e.on]?).getD 0).testBit k = true) := by
    intro l
    induction l with
    | nil => intro s hs; exact .inl hs
    | cons e l ih =>
      intro s hs
      simp only [List.foldl_cons] at hs
      rcases ih _ hs with h1 | ⟨e', he', h1⟩
      · split at h1
        · rename_i hb
          simp only [Nat.testBit_or, Bool.or_eq_true] at h1
          rcases h1 with (h1 | h1) | h1
          · exact .inl h1
          · refine .inr ⟨e, by simp, hb, .inl ?_⟩
            rw [Nat.testBit_two_pow] at h1
            exact (of_decide_eq_true h1).symm
          · exact .inr ⟨e, by simp, hb, .inr h1⟩
        · exact .inl h1
      · exact .inr ⟨e', by simp [he'], h1⟩
  rcases key _ 0 h with h1 | ⟨e, he, h1⟩
  · simp at h1
  · exact ⟨e, by simpa using he, h1⟩

/-- Whoever may go has all that it waits for behind it. -/
theorem dep_closed {S : Nat → Prop} (hS : ∀ (j : Nat) (oj : Oper), S j → ops[j]? = some oj → ∀ e ∈ oj.after, Region.binds .any e = true → S e.on) :
    ∀ (i : Nat) (oi : Oper), ops[i]? = some oi → (∀ e ∈ oi.after, Region.binds .any e = true → S e.on) → ∀ k, waits (depM ops) i k = true → S k := by
  have inv : ∀ (r : List Oper) (acc : List Nat), ops.toList.drop acc.length = r → (∀ (i : Nat) (oi : Oper), i < acc.length → ops[i]? = some oi → (∀ e ∈ oi.after, Region.binds .any e = true → S e.on) → ∀ k, ((acc[i]?).getD 0).testBit k = true → S k) →
      ∀ (i : Nat) (oi : Oper), ops[i]? = some oi → (∀ e ∈ oi.after, Region.binds .any e = true → S e.on) → ∀ k, (((depAux r acc)[i]?).getD 0).testBit k = true → S k := by
    intro r
    induction r with
    | nil =>
      intro acc hr hacc i oi hoi hd k hk
      simp only [depAux] at hk
      have hlen : ops.size ≤ acc.length := by simpa using hr
      have : i < ops.size := (Array.getElem?_eq_some_iff.1 hoi).1
      exact hacc i oi (by omega) hoi hd k hk
    | cons o r ih =>
      intro acc hr hacc
      simp only [depAux]
      have hget : ops[acc.length]? = some o := by
        have : (ops.toList.drop acc.length)[0]? = some o := by rw [hr]; rfl
        rw [List.getElem?_drop] at this
        simpa using this
      refine ih (acc ++ [maskOf acc o]) ?_ ?_
      · simp only [List.length_append, List.length_singleton]
        rw [← List.drop_drop, hr]; rfl
      · intro i oi hi hoi hd k hk
        by_cases hil : i < acc.length
        · rw [List.getElem?_append_left hil] at hk
          exact hacc i oi hil hoi hd k hk
        · have hia : i = acc.length := by simp at hi; omega
          subst hia
          rw [hget] at hoi
          cases hoi
          rw [List.getElem?_append_right (Nat.le_refl _)] at hk
          simp only [Nat.sub_self, List.getElem?_cons_zero, Option.getD_some] at hk
          obtain ⟨e, he, hb, h1⟩ := maskOf_bits hk
          have hSe := hd e he hb
          rcases h1 with rfl | h1
          · exact hSe
          · by_cases hel : e.on < acc.length
            · have hlt : e.on < ops.size := by
                have : acc.length < ops.size := (Array.getElem?_eq_some_iff.1 hget).1
                omega
              have hoe : ops[e.on]? = some ops[e.on] := Array.getElem?_eq_getElem hlt
              exact hacc e.on _ hel hoe (hS e.on _ hSe hoe) k h1
            · rw [List.getElem?_eq_none (by omega)] at h1
              simp at h1
  intro i oi hoi hd k hk
  exact inv ops.toList [] rfl (fun i _ hi => absurd hi (by simp)) i oi hoi hd k hk

theorem any_ok (hcx : CxOK cx) {F : Nat → FP} {fin : St} {Q : Exit → Act → World → Prop} (hup : ∀ i oi, ops[i]? = some oi → ∀ e ∈ oi.after, Region.binds .any e = true → e.on < i)
    (hpair : ∀ k i ok oi, k < i → ops[k]? = some ok → ops[i]? = some oi → waits (depM ops) i k = true ∨ (apart ops ok oi = true ∧ noConf (F k) (F i) = true)) :
    ∀ (fuel : Nat) (l : List Nat) (listed : Array Bool) {G : Gh} {w : World} {st : St} {a : Act}, Sim cx G w st a → RunF cx ops base F l st fin → l.Pairwise (· < ·) → listed.size = ops.size →
      (∀ i, i < ops.size → (listed[i]? = some false ↔ i ∈ l)) → (∀ i ∈ l, i < ops.size) →
      (∀ (j : Nat) (oj : Oper), listed[j]? = some true → ops[j]? = some oj → ∀ e ∈ oj.after, Region.binds .any e = true → listed[e.on]? = some true) → l.length ≤ fuel →
      (∀ G' w' a', Sim cx G' w' fin a' → Frm G w G' w' → Q .normal a' w') → wpAny cx.P .any ops Q fuel listed a w := by
  have ready_iff : ∀ (listed : Array Bool) (i : Nat), listed.size = ops.size → (i ∈ Region.ready .any ops listed ↔ i < ops.size ∧ listed[i]? = some false ∧ ∀ oi, ops[i]? = some oi → ∀ e ∈ oi.after, Region.binds .any e = true → listed[e.on]? = some true) := by
    intro listed i hsz
    unfold Region.ready
    simp only [List.mem_filter, List.mem_range, Bool.and_eq_true]
    constructor
    · rintro ⟨hi, h1, h2⟩
      have hl : listed[i]? = some listed[i] := Array.getElem?_eq_getElem (by omega)
      refine ⟨hi, ?_, fun oi hoi e he hb => ?_⟩
      · rw [hl]
        simp only [Array.getD_eq_getD_getElem?, hl, Option.getD_some] at h1
        cases hq : listed[i] <;> simp [hq] at h1 ⊢
      · rw [hoi] at h2
        simp only [Option.map_some, Option.getD_some, Array.all_eq_true_iff_forall_mem] at h2
        have := h2 e he
        rw [hb] at this
        simp only [Bool.not_true, Bool.false_or, Array.getD_eq_getD_getElem?] at this
        cases hq : listed[e.on]? with
        | none => rw [hq] at this; cases this
        | some b => rw [hq] at this; simp at this; rw [this]
    · rintro ⟨hi, h1, h2⟩
      refine ⟨hi, by simp [Array.getD_eq_getD_getElem?, h1], ?_⟩
      have hoi : ops[i]? = some ops[i] := Array.getElem?_eq_getElem hi
      rw [hoi]
      simp only [Option.map_some, Option.getD_some, Array.all_eq_true_iff_forall_mem]
      intro e he
      cases hb : Region.binds .any e with
      | false => rfl
      | true => simp [Array.getD_eq_getD_getElem?, h2 _ hoi e he hb]
  intro fuel
  induction fuel with
  | zero =>
    intro l listed G w st a H hrun hs hsz hm hl hcl hfuel hQ
    have hl0 : l = [] := List.eq_nil_of_length_eq_zero (by omega)
    subst hl0
    simp only [RunF] at hrun
    subst hrun
    refine ⟨?_, hQ G w a H (Frm.refl G w)⟩
    cases hr : Region.ready .any ops listed with
    | nil => rfl
    | cons i r =>
      have hi : i ∈ Region.ready .any ops listed := by rw [hr]; simp
      obtain ⟨h1, h2, _⟩ := (ready_iff listed i hsz).1 hi
      exact absurd ((hm i h1).1 h2) (by simp)
  | succ fuel ih =>
    intro l listed G w st a H hrun hs hsz hm hl hcl hfuel hQ
    refine ⟨fun h0 => ?_, fun i hi => ?_⟩
    · cases l with
      | nil =>
        simp only [RunF] at hrun
        subst hrun
        exact hQ G w a H (Frm.refl G w)
      | cons k l =>
        exfalso
        have hk : k ∈ Region.ready .any ops listed := by
          have hks : k < ops.size := hl k (by simp)
          refine (ready_iff listed k hsz).2 ⟨hks, (hm k hks).2 (by simp), fun oi hoi e he hb => ?_⟩
          have hlt := hup k oi hoi e he hb
          have hle : e.on < listed.size := by omega
          have hg : listed[e.on]? = some listed[e.on] := Array.getElem?_eq_getElem hle
          cases hq : listed[e.on] with
          | true => rw [hg, hq]
          | false =>
            rw [hq] at hg
            have hmem := (hm e.on (by omega)).1 hg
            rcases List.mem_cons.1 hmem with h1 | h1
            · omega
            · have := (List.pairwise_cons.1 hs).1 _ h1
              omega
        rw [h0] at hk
        cases hk
    · obtain ⟨hi1, hi2, hi3⟩ := (ready_iff listed i hsz).1 hi
      have hmem := (hm i hi1).1 hi2
      obtain ⟨l1, l2, rfl⟩ := List.append_of_mem hmem
      have hoi : ops[i]? = some ops[i] := Array.getElem?_eq_getElem hi1
      have hS : ∀ k, waits (depM ops) i k = true → listed[k]? = some true := dep_closed (S := fun k => listed[k]? = some true) hcl i _ hoi (hi3 _ hoi)
      obtain ⟨st', q1, q2⟩ := runF_front hoi l1 (fun k hk => by
        have hkl : k ∈ l1 ++ i :: l2 := by simp [hk]
        have hks := hl k hkl
        have hok : ops[k]? = some ops[k] := Array.getElem?_eq_getElem hks
        have hki : k < i := (List.pairwise_append.1 hs).2.2 k hk i (by simp)
        rcases hpair k i _ _ hki hok hoi with h1 | h1
        · have := hS k h1
          rw [(hm k hks).2 hkl] at this
          cases this
        · exact ⟨_, hok, h1⟩) hrun
      have hstep : step cx ops base i st = some st' := by rw [stepF_step, q1]; rfl
      refine step_ok hcx H hstep fun G' w' a' S F' => ?_
      have hnd : ∀ j, j ∈ l1 ++ l2 ↔ j ∈ l1 ++ i :: l2 ∧ j ≠ i := fun j => by
        obtain ⟨p1, p2, p3⟩ := List.pairwise_append.1 hs
        constructor
        · intro hj
          rcases List.mem_append.1 hj with hj | hj
          · exact ⟨by simp [hj], fun e => by have := p3 j hj i (by simp); omega⟩
          · exact ⟨by simp [hj], fun e => by have := (List.pairwise_cons.1 p2).1 j hj; omega⟩
        · rintro ⟨hj, hne⟩
          rcases List.mem_append.1 hj with hj | hj
          · simp [hj]
          · rcases List.mem_cons.1 hj with hj | hj
            · exact absurd hj hne
            · simp [hj]
      have hset : ∀ j, j < ops.size → (listed.setIfInBounds i true)[j]? = if j = i then some true else listed[j]? := fun j hj => by
        by_cases hji : j = i
        · subst hji; simp [hsz, hj]
        · rw [Array.getElem?_setIfInBounds_ne (Ne.symm hji), if_neg hji]
      refine ih (l1 ++ l2) (listed.setIfInBounds i true) S q2 ?_ (by simp [hsz]) ?_ (fun j hj => hl j ((hnd j).1 hj).1) ?_ ?_ fun G2 w2 a2 S2 F2 => hQ G2 w2 a2 S2 (F'.trans F2)
      · refine List.Pairwise.sublist ?_ hs
        exact List.Sublist.append_left (List.sublist_cons_self i l2) l1
      · intro j hj
        rw [hset j hj, hnd]
        split
        · rename_i e; subst e; simp
        · rename_i e; rw [hm j hj]; simp [e]
      · intro j oj hj hoj e he hb
        have hjs : j < ops.size := (Array.getElem?_eq_some_iff.1 hoj).1
        have hej : e.on < ops.size := by have := hup j oj hoj e he hb; omega
        rw [hset j hjs] at hj
        rw [hset e.on hej]
        split
        · rfl
        · split at hj
          · rename_i e'; subst e'
            rw [hoi] at hoj
            cases hoj
            exact hi3 _ hoi e he hb
          · exact hcl j oj hj hoj e he hb
      · simp at hfuel ⊢; omega

theorem runL_runF {F : Nat → FP} : ∀ (l : List Nat) {st fin : St} {fps : List FP}, runL cx ops base l st = some (fin, fps) → (∀ (j i : Nat), l[j]? = some i → fps[j]? = some (F i)) → RunF cx ops base F l st fin
  | [], st, fin, fps, h, _ => by simp only [runL, Option.some.injEq, Prod.mk.injEq] at h; exact h.1
  | i :: l, st, fin, fps, h, hF => by
    simp only [runL] at h
    cases hs : stepF cx ops base i st with
    | none => rw [hs] at h; cases h
    | some r =>
      obtain ⟨st', f⟩ := r
      rw [hs] at h
      simp only [] at h
      cases hr : runL cx ops base l st' with
      | none => rw [hr] at h; cases h
      | some q =>
        rw [hr] at h
        simp only [Option.map_some, Option.some.injEq, Prod.mk.injEq] at h
        obtain ⟨rfl, rfl⟩ := h
        have h0 := hF 0 i (by simp)
        simp only [List.getElem?_cons_zero, Option.some.injEq] at h0
        refine ⟨st', by rw [hs, h0], runL_runF l hr fun j k hk => ?_⟩
        have := hF (j + 1) k (by simpa using hk)
        simpa using this

theorem runL_length : ∀ (l : List Nat) {st fin : St} {fps : List FP}, runL cx ops base l st = some (fin, fps) → fps.length = l.length
  | [], st, fin, fps, h => by simp only [runL, Option.some.injEq, Prod.mk.injEq] at h; rw [← h.2]; rfl
  | i :: l, st, fin, fps, h => by
    simp only [runL] at h
    split at h
    · cases h
    · rename_i st' f hs
      cases hr : runL cx ops base l st' with
      | none => rw [hr] at h; cases h
      | some q =>
        rw [hr] at h
        simp only [Option.map_some, Option.some.injEq, Prod.mk.injEq] at h
        rw [← h.2]
        simp [runL_length l hr]

/-- A region that draws its order. -/
theorem region_draw_ok (hcx : CxOK cx) (hm : cx.P.follows .mixedOrders = true) (H : Sim cx G w st a) {id : Nat} (hst : regStatic ops = true) {st' : St} (h : sregionD cx ops st = some st') {Q : Exit → Act → World → Prop}
    (hQ : ∀ G' w' a', Sim cx G' w' st' a' → Frm G w G' w' → Q .normal a' w') : (Code.region id ops true).wp cx.P Q a w := by
  unfold sregionD at h
  split at h
  · rename_i st1 fps hr
    split at h
    · rename_i hc
      cases h
      refine wp_region_any hm ?_
      have hlen : fps.length = ops.size := by rw [runL_length _ hr]; simp
      obtain ⟨H1, F1⟩ := (H.reserve (cnt ops ops.size)).drew
      unfold regStatic at hst
      simp only [Bool.and_eq_true, List.all_eq_true] at hst
      have hz : ∀ i oi, ops[i]? = some oi → (oi, i) ∈ ops.toList.zipIdx := fun i oi hoi => by
        rw [List.mem_zipIdx_iff_getElem?]; simpa using hoi
      refine any_ok (F := fun i => (fps[i]?).getD (0, 0)) hcx (fun i oi hoi e he hb => ?_) (fun k i ok oi hki hok hoi => ?_) ops.size (List.range ops.size) (Array.replicate ops.size false) H1
        (runL_runF _ hr fun j i hj => ?_) ?_ (by simp) ?_ (fun i hi => by simpa using hi) ?_ (by simp) fun G2 w2 a2 S2 F2 => hQ G2 w2 a2 S2 (F1.trans F2)
      · have := hst.1 _ (hz i oi hoi) e (by simpa using he)
        rw [hb] at this
        simpa using this
      · have h1 := hst.2 _ (hz i oi hoi) _ (hz k ok hok)
        simp only [Bool.or_eq_true, Bool.not_eq_true', decide_eq_false_iff_not] at h1
        rcases h1 with (h1 | h1) | h1
        · exact absurd hki h1
        · exact .inl h1
        · have hks : k < ops.size := (Array.getElem?_eq_some_iff.1 hok).1
          have his : i < ops.size := (Array.getElem?_eq_some_iff.1 hoi).1
          have e1 : fps[k]? = some fps[k] := List.getElem?_eq_getElem (by omega)
          have e2 : fps[i]? = some fps[i] := List.getElem?_eq_getElem (by omega)
          unfold confsOK at hc
          simp only [List.all_eq_true, Bool.or_eq_true] at hc
          rcases hc (fps[i], i) (List.mem_zipIdx_iff_getElem?.2 e2) with h2 | h2
          · refine .inr ⟨h1, ?_⟩
            rw [e1, e2]
            simp only [Option.getD_some, noConf]
            simp at h2
            simp [h2]
          · have h3 := h2 (fps[k], k) (List.mem_zipIdx_iff_getElem?.2 e1)
            simp only [Bool.not_eq_true', decide_eq_false_iff_not] at h3
            rcases h3 with ((h3 | h3) | h3) | h3
            · exact absurd hki h3
            · refine .inr ⟨h1, ?_⟩
              rw [e1, e2]
              simp only [Option.getD_some, noConf]
              simp at h3
              simp [h3]
            · exact .inl h3
            · refine .inr ⟨h1, ?_⟩
              rw [e1, e2]
              exact h3
      · have hji : j = i := by
          rw [List.getElem?_range] at hj
          · simpa using hj
          · have := (List.getElem?_eq_some_iff.1 hj).1
            simpa using this
        subst hji
        have hjs : j < ops.size := by
          have := (List.getElem?_eq_some_iff.1 hj).1
          simpa using this
        rw [List.getElem?_eq_getElem (by omega)]
        rfl
      · exact List.pairwise_lt_range
      · intro i hi
        simp [hi]
      · intro j oj hj
        rw [Array.getElem?_replicate] at hj
        split at hj <;> cases hj
    · cases h
  · cases h
end
end Go.Sx

namespace Go.Sx
open Go.RowKit

structure FrmN (n : Nat) (G₀ : Gh) (w₀ : World) (G : Gh) (w : World) : Prop where
  os : w.os = w₀.os
  tape : w.tape = w₀.tape
  output : w.output = w₀.output
  size : w₀.heap.size ≤ w.heap.size
  K : ∀ b o u, G₀.K b o = some u → G.K b o = some u
  μ : ∀ b k, b < n → G₀.μ b = some k → G.μ b = some k
  old : ∀ g, g < w₀.heap.size → G₀.T g = none → (∀ b, G₀.μ b ≠ some g) →
    w.heap[g]? = w₀.heap[g]? ∧ G.T g = none ∧ (∀ b, G.μ b ≠ some g) ∧ ∀ o, G.K g o = G₀.K g o

theorem FrmN.of {n : Nat} {A B : Gh} {a b : World} (h : Frm A a B b) : FrmN n A a B b := ⟨h.os, h.tape, h.output, h.size, h.le.K, fun b k _ x => h.le.μ b k x, h.old⟩
theorem FrmN.refl (n : Nat) (G : Gh) (w : World) : FrmN n G w G w := .of (Frm.refl G w)
theorem FrmN.trans {n : Nat} {A B D : Gh} {a b d : World} (h : FrmN n A a B b) (k : FrmN n B b D d) : FrmN n A a D d :=
  ⟨k.os.trans h.os, k.tape.trans h.tape, k.output.trans h.output, Nat.le_trans h.size k.size, fun b o u x => k.K b o u (h.K b o u x), fun b o hb x => k.μ b o hb (h.μ b o hb x), fun g hg ht hm => by
    obtain ⟨a1, a2, a3, a4⟩ := h.old g hg ht hm
    obtain ⟨b1, b2, b3, b4⟩ := k.old g (Nat.lt_of_lt_of_le hg h.size) a2 a3
    exact ⟨b1.trans a1, b2, b3, fun o => (b4 o).trans (a4 o)⟩⟩

def Ex.toExit : Ex → Exit
  | .normal => .normal
  | .exit id => .exit id
  | .ret => .ret

def thenQ (K : St → Prop) (Q : Ex → St → Prop) : Ex → St → Prop
  | .normal, s => K s
  | x, s => Q x s

def blockQ (id : Nat) (Q : Ex → St → Prop) : Ex → St → Prop
  | .exit k, s => if k = id then Q .normal s else Q (.exit k) s
  | x, s => Q x s

/-- From a frame and a memory that read as st, the code comes to one of the ends that Q lets. n: the boxes below n stay. -/
def Tr (cx : Cx) (n : Nat) (c : Code) (st : St) (Q : Ex → St → Prop) : Prop :=
  ∀ (G : Gh) (w : World) (a : Act), Sim cx G w st a → ∀ (R : Exit → Act → World → Prop),
    (∀ x st' G' w' a', Q x st' → Sim cx G' w' st' a' → FrmN n G w G' w' → R (Ex.toExit x) a' w') → c.wp cx.P R a w

section
variable {cx : Cx} {n : Nat} {st : St} {Q : Ex → St → Prop}

theorem Tr.mono {c : Code} {Q' : Ex → St → Prop} (h : Tr cx n c st Q) (hq : ∀ x s, Q x s → Q' x s) : Tr cx n c st Q' :=
  fun G w a H R hR => h G w a H R fun x s G' w' a' q => hR x s G' w' a' (hq x s q)

theorem Tr.skip (h : Q .normal st) : Tr cx n .skip st Q := fun G w a H R hR => wp_skip (hR .normal st G w a h H (.refl n G w))
theorem Tr.label {l : Nat} (h : Q .normal st) : Tr cx n (.label l) st Q := fun G w a H R hR => wp_label (hR .normal st G w a h H (.refl n G w))
theorem Tr.exit {id : Nat} (h : Q (.exit id) st) : Tr cx n (.exit id) st Q := fun G w a H R hR => wp_exit (hR (.exit id) st G w a h H (.refl n G w))
theorem Tr.ret (h : Q .ret st) : Tr cx n .ret st Q := fun G w a H R hR => wp_ret (hR .ret st G w a h H (.refl n G w))

theorem Tr.seq {a b : Code} (h : Tr cx n a st (thenQ (fun s => Tr cx n b s Q) Q)) : Tr cx n (.seq a b) st Q := fun G w ac H R hR =>
  wp_seq (h G w ac H _ fun x s G' w' a' q S F => by
    cases x with
    | normal => exact q G' w' a' S R fun x2 s2 G2 w2 a2 q2 S2 F2 => hR x2 s2 G2 w2 a2 q2 S2 (F.trans F2)
    | exit id => exact hR (.exit id) s G' w' a' q S F
    | ret => exact hR .ret s G' w' a' q S F)

theorem Tr.cond {c : Operand} {x y : Code} {b : Bool} (hc : cx.ev st.env c = .val (.bool b)) (h : Tr cx n (if b then x else y) st Q) : Tr cx n (.cond c x y) st Q := fun G w a H R hR => by
  have hr := H.pre.ev c
  rw [hc, rep_val] at hr
  refine wp_cond (t := b) hr ?_
  cases b
  · exact h G w a H R hR
  · exact h G w a H R hR

theorem Tr.cond_split {c : Operand} {x y : Code} {b : Bool} (hc : cx.ev st.env c = .val (.bool b)) (ht : b = true → Tr cx n x st Q) (hf : b = false → Tr cx n y st Q) : Tr cx n (.cond c x y) st Q := by
  cases b
  · exact Tr.cond hc (hf rfl)
  · exact Tr.cond hc (ht rfl)

theorem Tr.block {id : Nat} {c : Code} (h : Tr cx n c st (blockQ id Q)) : Tr cx n (.block id c) st Q := fun G w a H R hR =>
  wp_block (h G w a H _ fun x s G' w' a' q S F => by
    cases x with
    | normal => exact hR .normal s G' w' a' q S F
    | ret => exact hR .ret s G' w' a' q S F
    | exit k =>
      simp only [Ex.toExit, Exit.inBlock, blockQ] at q ⊢
      split at q
      · rename_i e; rw [if_pos e]; exact hR .normal s G' w' a' q S F
      · rename_i e; rw [if_neg e]; exact hR (.exit k) s G' w' a' q S F)

theorem Tr.scope {c : Code} (h : Tr cx n c st Q) : Tr cx n (.scope c) st Q := fun G w a H R hR =>
  wp_scope_straight (h G w a H _ fun x s G' w' a' q S F => by
    cases x with
    | normal => exact hR .normal s G' w' a' q S F
    | ret => exact hR .ret s G' w' a' q S F
    | exit k => exact hR (.exit k) s G' w' a' q S F)

/-- A loop: what holds at the head of each round, and a number that goes down. -/
theorem Tr.loop {c : Code} (Inv : Nat → St → Prop) (m : Nat) (h0 : Inv m st) (h : ∀ m s, Inv m s → Tr cx n c s (thenQ (fun s' => ∃ k, k < m ∧ Inv k s') Q)) : Tr cx n (.loop c) st Q := fun G w a H R hR => by
  refine wp_loop_ghost (fun m a' w' => ∃ s G', Inv m s ∧ Sim cx G' w' s a' ∧ FrmN n G w G' w') m ⟨st, G, h0, H, .refl n G w⟩ ?_
  rintro m a' w' ⟨s, G', hi, S, F⟩
  refine h m s hi G' w' a' S _ fun x s2 G2 w2 a2 q S2 F2 => ?_
  cases x with
  | normal =>
    obtain ⟨k, hk, hik⟩ := q
    exact ⟨k, hk, s2, G2, hik, S2, F.trans F2⟩
  | exit id => exact hR (.exit id) s2 G2 w2 a2 q S2 (F.trans F2)
  | ret => exact hR .ret s2 G2 w2 a2 q S2 (F.trans F2)

theorem Tr.region (hcx : CxOK cx) {id : Nat} {ops : Array Oper} {st' : St} (h : sregion cx ops st = some st') (hQ : Q .normal st') : Tr cx n (.region id ops false) st Q := fun _ _ _ H _ hR =>
  region_ok hcx H h fun G' w' a' S F => hR .normal st' G' w' a' hQ S (.of F)

theorem Tr.regionD (hcx : CxOK cx) (hm : cx.P.follows .mixedOrders = true) {id : Nat} {ops : Array Oper} {st' : St} (hs : regStatic ops = true) (h : sregionD cx ops st = some st') (hQ : Q .normal st') :
    Tr cx n (.region id ops true) st Q := fun _ _ _ H _ hR =>
  region_draw_ok hcx hm H hs h fun G' w' a' S F => hR .normal st' G' w' a' hQ S (.of F)

/-! Knowing less. -/
def CLe (c c' : C) : Prop := (∀ G v, Rep G c v → Rep G c' v) ∧ ∀ s n xs, c' = .sl (.own s) n xs → c = c' ∨ ∀ G v, Rep G c v → ∃ a, v = .slice a n n

theorem CLe.refl (c : C) : CLe c c := ⟨fun _ _ h => h, fun _ _ _ _ => .inl rfl⟩
theorem CLe.top (c : C) : CLe c .top := ⟨fun _ _ _ => by simp [Rep], fun _ _ _ e => by cases e⟩
theorem CLe.nil (r : Rt) : CLe (.val (.slice none 0 0)) (.sl r 0 []) :=
  ⟨fun G v h => by rw [rep_val] at h; simp only [Rep]; exact ⟨none, 0, h, Nat.le_refl _, Nat.zero_le _, fun _ => rfl, by simp⟩, fun s n xs e => by cases e; exact .inr fun G v h => ⟨none, rep_val.1 h⟩⟩
theorem CLe.full (r : Rt) (n : Nat) (xs : List C) : CLe (.sl .full n xs) (.sl r n xs) :=
  ⟨fun G v h => by simp only [Rep] at h ⊢; obtain ⟨a, cap, h1, h2, h3, h4, h5⟩ := h; exact ⟨a, cap, h1, h2, h3, fun _ => h4 trivial, h5⟩, fun s n' xs' e => by
    cases e
    exact .inr fun G v h => by
      simp only [Rep] at h
      obtain ⟨a, cap, h1, _, _, h4, _⟩ := h
      exact ⟨a, by rw [h1, h4 trivial]⟩⟩
theorem CLe.noR (c : C) : CLe c c.noR := ⟨fun _ _ h => h.noR, fun _ _ _ e => (noR_own e).elim⟩

theorem Tr.weaken {c : Code} {env' : Nat → C} (h : ∀ t, CLe (st.env t) (env' t)) (k : Tr cx n c ⟨env', st.h⟩ Q) : Tr cx n c st Q := fun G w a H R hR =>
  k G w a ⟨H.defers, H.size, H.pre.ok, ⟨fun t => (h t).1 G _ (H.pre.env.1 t), fun t s m xs e => by
    rcases (h t).2 s m xs e with e' | e'
    · exact H.pre.env.2 t s m xs (e'.trans e)
    · obtain ⟨ad, hv⟩ := e' G _ (H.pre.env.1 t)
      rw [hv]; exact .inl ⟨ad, rfl⟩⟩, H.pre.glob⟩ R hR


theorem OwnRow.cut {G : Gh} {w : World} {p : Place} {v : Value} {s m : Nat} (k : Nat) (O : OwnRow G w p v s m) : OwnRow (cutμ G k) w p v s m := by
  rcases O with O | ⟨g, cap, cur, e, a1, a2, a3, a4, a5, a6⟩
  · exact .inl O
  · refine .inr ⟨g, cap, cur, e, a1, a2, a3, a4, a5, fun b hb => ?_⟩
    simp only [cutμ] at hb
    split at hb
    · exact a6 b hb
    · cases hb

theorem Hp.at_take {h : Hp} {k b : Nat} : Hp.at (h.take k) b = if b < k then h.at b else none := by
  unfold Hp.at
  rw [List.getElem?_take]
  split <;> rfl

theorem WorldOK.cut {G : Gh} {h : Hp} {w : World} (H : WorldOK G h w) (k : Nat) (hb : ∀ b cells, b < k → h.at b = some cells → noRefs k cells = true) : WorldOK (cutμ G k) (h.take k) w := by
  refine ⟨H.known, fun b cells hc => ?_, fun b blk hm => ?_, fun b b' blk h1 h2 => ?_, fun b blk hm => ?_, H.tlt, fun b cells off s m xs blk v hc hx hm hv => ?_⟩
  · rw [Hp.at_take] at hc
    split at hc
    · rename_i hbk
      obtain ⟨blk, cs, e, q1, q2, q3, q4⟩ := H.box b cells hc
      exact ⟨blk, cs, e, by simp only [cutμ]; rw [if_pos hbk]; exact q1, q2, noRef_repL cells _ (hb b cells hbk hc) q3, q4⟩
    · cases hc
  · simp only [cutμ] at hm
    split at hm
    · rename_i hbk
      obtain ⟨c, hc⟩ := H.dom b blk hm
      exact ⟨c, by rw [Hp.at_take, if_pos hbk]; exact hc⟩
    · cases hm
  · simp only [cutμ] at h1 h2
    split at h1 <;> split at h2 <;> first | cases h1 | cases h2 | exact H.inj b b' blk h1 h2
  · simp only [cutμ] at hm
    split at hm
    · exact H.sep b blk hm
    · cases hm
  · rw [Hp.at_take] at hc
    simp only [cutμ] at hm
    split at hc
    · rename_i hbk
      rw [if_pos hbk] at hm
      exact (H.own b cells off s m xs blk v hc hx hm hv).cut k
    · cases hc

theorem frmN_cut {G : Gh} {w : World} {k : Nat} (hk : n ≤ k) : FrmN n G w (cutμ G k) w :=
  ⟨rfl, rfl, rfl, Nat.le_refl _, fun _ _ _ x => x, fun b o hb x => by simp only [cutμ]; rw [if_pos (by omega)]; exact x, fun g _ ht hm => ⟨rfl, ht, (fun b hb => by
    simp only [cutμ] at hb
    split at hb
    · exact hm b hb
    · cases hb), fun _ => rfl⟩⟩

/-- Boxes that nobody holds any more are dropped. -/
theorem Tr.cut {c : Code} (k : Nat) (hk : n ≤ k) (he : ∀ t, noRef k (st.env t) = true) (hg : ∀ g, noRef k (cx.gl g) = true) (hb : ∀ b cells, b < k → st.h.at b = some cells → noRefs k cells = true)
    (h : Tr cx n c ⟨st.env, st.h.take k⟩ Q) : Tr cx n c st Q := fun G w a H R hR =>
  h (cutμ G k) w a ⟨H.defers, H.size, H.pre.ok.cut k hb, ⟨fun t => noRef_rep _ _ (he t) (H.pre.env.1 t), fun t s m xs e => (H.pre.env.2 t s m xs e).cut k⟩, fun g => noRef_rep _ _ (hg g) (H.pre.glob g)⟩ R
    fun x s G' w' a' q S F => hR x s G' w' a' q S ((frmN_cut hk).trans F)
end
end Go.Sx

namespace Go.Sx
open Go.RowKit

def loopN (body : St → Option (Ex × St)) : Nat → St → Option (Ex × St)
  | 0, _ => none
  | n + 1, st => match body st with
    | some (.normal, st') => loopN body n st'
    | r => r

/-- The shadow run of a piece of code; no loop goes more than n rounds. -/
def sexec (cx : Cx) (n : Nat) : Code → St → Option (Ex × St)
  | .skip, st => some (.normal, st)
  | .label _, st => some (.normal, st)
  | .region _ ops draw, st => if draw then (if regStatic ops = true then (sregionD cx ops st).map fun s => (.normal, s) else none) else (sregion cx ops st).map fun s => (.normal, s)
  | .seq a b, st => match sexec cx n a st with
    | some (.normal, st') => sexec cx n b st'
    | r => r
  | .cond c a b, st => match cx.ev st.env c with
    | .val (.bool true) => sexec cx n a st
    | .val (.bool false) => sexec cx n b st
    | _ => none
  | .block id c, st => match sexec cx n c st with
    | some (.exit k, st') => if k = id then some (.normal, st') else some (.exit k, st')
    | r => r
  | .scope c, st => sexec cx n c st
  | .loop c, st => loopN (sexec cx n c) n st
  | .exit id, st => some (.exit id, st)
  | .ret, st => some (.ret, st)
  | _, _ => none

section
variable {cx : Cx} {n : Nat} {st : St} {Q : Ex → St → Prop} {G : Gh} {w : World} {a : Act}

theorem Tr.loop_run {c : Code} {f : St → Option (Ex × St)} (hf : ∀ s x s', f s = some (x, s') → Tr cx n c s (fun y t => y = x ∧ t = s')) {m : Nat} {st : St} {x : Ex} {st' : St} (h : loopN f m st = some (x, st')) :
    Tr cx n (.loop c) st (fun y t => y = x ∧ t = st') := by
  refine Tr.loop (fun k s => loopN f k s = some (x, st')) m h fun k s hs => ?_
  cases k with
  | zero => cases hs
  | succ k =>
    simp only [loopN] at hs
    cases hq : f s with
    | none => rw [hq] at hs; cases hs
    | some r =>
      obtain ⟨y, s'⟩ := r
      rw [hq] at hs
      refine (hf s y s' hq).mono ?_
      rintro z t ⟨rfl, rfl⟩
      cases z with
      | normal => exact ⟨k, Nat.lt_succ_self k, hs⟩
      | exit id => simp only [Option.some.injEq, Prod.mk.injEq] at hs; exact ⟨hs.1, hs.2⟩
      | ret => simp only [Option.some.injEq, Prod.mk.injEq] at hs; exact ⟨hs.1, hs.2⟩

theorem sexec_tr (hcx : CxOK cx) (hm : cx.P.follows .mixedOrders = true) {m : Nat} : ∀ (c : Code) (st : St) (x : Ex) (st' : St), sexec cx m c st = some (x, st') → Tr cx n c st (fun y t => y = x ∧ t = st')
  | .skip, st, x, st', h => by simp only [sexec, Option.some.injEq, Prod.mk.injEq] at h; exact Tr.skip ⟨h.1, h.2⟩
  | .label _, st, x, st', h => by simp only [sexec, Option.some.injEq, Prod.mk.injEq] at h; exact Tr.label ⟨h.1, h.2⟩
  | .exit _, st, x, st', h => by simp only [sexec, Option.some.injEq, Prod.mk.injEq] at h; exact Tr.exit ⟨h.1, h.2⟩
  | .ret, st, x, st', h => by simp only [sexec, Option.some.injEq, Prod.mk.injEq] at h; exact Tr.ret ⟨h.1, h.2⟩
  | .region id ops draw, st, x, st', h => by
    simp only [sexec] at h
    cases draw with
    | true =>
      simp only [if_true] at h
      split at h
      · rename_i hs
        cases hq : sregionD cx ops st with
        | none => rw [hq] at h; cases h
        | some s => rw [hq] at h; cases h; exact Tr.regionD hcx hm hs hq ⟨rfl, rfl⟩
      · cases h
    | false =>
      simp only [Bool.false_eq_true, if_false] at h
      cases hq : sregion cx ops st with
      | none => rw [hq] at h; cases h
      | some s => rw [hq] at h; cases h; exact Tr.region hcx hq ⟨rfl, rfl⟩
  | .seq a b, st, x, st', h => by
    simp only [sexec] at h
    cases hq : sexec cx m a st with
    | none => rw [hq] at h; cases h
    | some r =>
      obtain ⟨y, s⟩ := r
      rw [hq] at h
      refine Tr.seq ((sexec_tr hcx hm a st y s hq).mono ?_)
      rintro z t ⟨rfl, rfl⟩
      cases z with
      | normal => exact sexec_tr hcx hm b t x st' h
      | exit id => simp only [Option.some.injEq, Prod.mk.injEq] at h; exact ⟨h.1, h.2⟩
      | ret => simp only [Option.some.injEq, Prod.mk.injEq] at h; exact ⟨h.1, h.2⟩
  | .cond c a b, st, x, st', h => by
    simp only [sexec] at h
    split at h
    · rename_i hc; exact Tr.cond hc (sexec_tr hcx hm a st x st' h)
    · rename_i hc; exact Tr.cond hc (sexec_tr hcx hm b st x st' h)
    · cases h
  | .block id c, st, x, st', h => by
    simp only [sexec] at h
    cases hq : sexec cx m c st with
    | none => rw [hq] at h; cases h
    | some r =>
      obtain ⟨y, s⟩ := r
      rw [hq] at h
      refine Tr.block ((sexec_tr hcx hm c st y s hq).mono ?_)
      rintro z t ⟨rfl, rfl⟩
      cases z with
      | normal => simp only [Option.some.injEq, Prod.mk.injEq] at h; exact ⟨h.1, h.2⟩
      | ret => simp only [Option.some.injEq, Prod.mk.injEq] at h; exact ⟨h.1, h.2⟩
      | exit k =>
        simp only [blockQ]
        simp only [] at h
        split at h
        · rename_i e; rw [if_pos e]; simp only [Option.some.injEq, Prod.mk.injEq] at h; exact ⟨h.1, h.2⟩
        · rename_i e; rw [if_neg e]; simp only [Option.some.injEq, Prod.mk.injEq] at h; exact ⟨h.1, h.2⟩
  | .scope c, st, x, st', h => by
    simp only [sexec] at h
    exact Tr.scope (sexec_tr hcx hm c st x st' h)
  | .loop c, st, x, st', h => by
    simp only [sexec] at h
    exact Tr.loop_run (fun s y s' hs => sexec_tr hcx hm c s y s' hs) h
  | .rangeFunc .., _, _, _, h => by simp [sexec] at h
  | .goto _, _, _, _, h => by simp [sexec] at h
  | .refuse _, _, _, _, h => by simp [sexec] at h

/-! Results -/

theorem resC_ok (H : Sim cx G w st a) {r : ResultVar} {c : C} (h : resC cx st r = some c) :
    ∃ v, (match r with | .tmp t => pure (a.tmps.getD t undef) | .cell p t => do loadVar t (← asAddr (a.tmps.getD p undef)) : Sem Value).run cx.P w = .ok v w ∧ Rep G c v ∧
      (∀ s m xs, c = .sl (.own s) m xs → ∃ t, r = .tmp t ∧ OwnRow G w (0, t, 0) v s m) := by
  unfold resC at h
  cases r with
  | tmp t =>
    simp only [Option.some.injEq] at h
    subst h
    exact ⟨a.tmps.getD t undef, rfl, H.pre.env.1 t, fun s m xs e => ⟨t, rfl, H.pre.env.2 t s m xs e⟩⟩
  | cell p t =>
    simp only [] at h
    split at h
    · rename_i d b off hd he
      cases hb : st.h.at b with
      | none => rw [hb] at h; cases h
      | some cells =>
        rw [hb] at h
        simp only [Option.bind_some] at h
        have hr := H.pre.env.1 p
        rw [he] at hr
        simp only [Rep] at hr
        obtain ⟨blk, hμ, hv⟩ := hr
        obtain ⟨cs, e, q1, q2, q3, q4⟩ := box_cells H.pre.ok hb hμ
        obtain ⟨v, hv1, hv2, hv3⟩ := getAt_load (P := cx.P) (w := w) (blk := blk) (o0 := 0) hd q2 q3 (fun j u hu => by rw [Nat.zero_add]; exact q4 j u hu) h
        rw [Nat.zero_add] at hv1
        refine ⟨v, ?_, hv2, fun s m xs e => by rw [e] at hv3; exact hv3.elim⟩
        have hv' : a.tmps.getD p undef = .pointer (some ⟨blk, off, none⟩) := hv
        simp only [Sem.run_bind, hv', asAddr, Sem.run_pure, Result.andThen_ok]
        simpa [Instr.loadAt, Instr.sureAddr] using hv1
    · cases h

theorem resL_ok (H : Sim cx G w st a) : ∀ (rs : List ResultVar) {cs : List C}, rs.mapM (resC cx st) = some cs →
    ∃ vs : List Value, (rs.mapM (fun r => (match r with | .tmp t => pure (a.tmps.getD t undef) | .cell p t => do loadVar t (← asAddr (a.tmps.getD p undef)) : Sem Value))).run cx.P w = .ok vs w ∧ RepL G cs vs
  | [], cs, h => by
    simp at h; subst h; exact ⟨[], by simp, by simp [RepL]⟩
  | r :: rs, cs, h => by
    simp only [List.mapM_cons, Option.bind_eq_bind, Option.pure_def] at h
    cases hr : resC cx st r with
    | none => simp [hr] at h
    | some c =>
      cases hrs : rs.mapM (resC cx st) with
      | none => simp [hr, hrs] at h
      | some cs' =>
        simp [hr, hrs] at h
        subst h
        obtain ⟨v, h1, h2, _⟩ := resC_ok H hr
        obtain ⟨vs, h3, h4⟩ := resL_ok H rs hrs
        refine ⟨v :: vs, ?_, by simp only [RepL]; exact ⟨v, vs, rfl, h2, h4⟩⟩
        simp only [List.mapM_cons, Sem.run_bind, h1, Result.andThen_ok, h3, Sem.run_pure]

theorem results_ok (H : Sim cx G w st a) {fn : Func} {c : C} (h : results cx fn st = some c) :
    ∃ v G', (Go.results fn a.tmps).run cx.P w = .ok v w ∧ Rep G' c v ∧ (∀ s m xs, c = .sl (.own s) m xs → OwnRow G' w (2, 0, 0) v s m) ∧ WorldOK G' st.h w ∧ FrmN n G w G' w ∧ (∀ c' v', Rep G c' v' → Rep G' c' v') ∧ G'.μ = G.μ := by
  unfold results at h
  unfold Go.results
  have hl : (fn.results.mapM (fun r => (match r with | .tmp t => pure (a.tmps.getD t undef) | .cell p t => do loadVar t (← asAddr (a.tmps.getD p undef)) : Sem Value))).run cx.P w =
      ((fn.results.toList.mapM (fun r => (match r with | .tmp t => pure (a.tmps.getD t undef) | .cell p t => do loadVar t (← asAddr (a.tmps.getD p undef)) : Sem Value))).run cx.P w).andThen fun vs w' => .ok vs.toArray w' := by
    rw [Array.mapM_eq_mapM_toList, Sem.run_map]
  split at h
  · rename_i r hrs
    obtain ⟨v, h1, h2, h3⟩ := resC_ok H h
    have hrun : (fn.results.mapM (fun r => (match r with | .tmp t => pure (a.tmps.getD t undef) | .cell p t => do loadVar t (← asAddr (a.tmps.getD p undef)) : Sem Value))).run cx.P w = .ok #[v] w → 
        ((do let vs ← fn.results.mapM (fun r => (match r with | .tmp t => pure (a.tmps.getD t undef) | .cell p t => do loadVar t (← asAddr (a.tmps.getD p undef)) : Sem Value)); pure (if h : vs.size = 1 then vs[0] else .tuple vs)) : Sem Value).run cx.P w = .ok v w := fun hq => by
      simp only [Sem.run_bind, hq, Result.andThen_ok, Sem.run_pure]
      rfl
    have hone := hrun (by rw [hl, hrs]; simp only [List.mapM_cons, List.mapM_nil, Sem.run_bind, h1, Result.andThen_ok, Sem.run_pure])
    by_cases hno : c.noOwn
    · exact ⟨v, G, hone, h2, fun s m xs e => by rw [e] at hno; exact hno.elim, H.pre.ok, FrmN.refl n G w, fun _ _ x => x, rfl⟩
    · obtain ⟨s, m, xs, hs⟩ : ∃ s m xs, c = .sl (.own s) m xs := by
        cases c with
        | sl r m xs => cases r with
          | own s => exact ⟨_, _, _, rfl⟩
          | no => exact absurd trivial hno
          | full => exact absurd trivial hno
        | _ => exact absurd trivial hno
      obtain ⟨t, rfl, O⟩ := h3 s m xs hs
      rcases O with O | ⟨g, cap, cur, e, a1, a2, a3, a4, a5, a6⟩
      · exact ⟨v, G, hone, h2, fun s' m' xs' e => by rw [hs] at e; cases e; exact .inl O, H.pre.ok, FrmN.refl n G w, fun _ _ x => x, rfl⟩
      · have le : G.Le (setT G g (some (2, 0, 0))) := ⟨fun _ _ _ x => x, fun _ _ x => x⟩
        refine ⟨v, setT G g (some (2, 0, 0)), hone, h2.mono le, fun s' m' xs' e' => ?_, retag_ok H.pre.ok a2, .of (frm_retag a2), fun c' v' x => x.mono le, rfl⟩
        rw [hs] at e'
        cases e'
        exact .inr ⟨g, cap, cur, e, a1, by simp [setT], a3, a4, a5, a6⟩
  · rename_i rs hrs
    cases hm : fn.results.toList.mapM (resC cx st) with
    | none => rw [hm] at h; cases h
    | some cs =>
      rw [hm] at h
      simp only [Option.map_some, Option.some.injEq] at h
      subst h
      obtain ⟨vs, h1, h2⟩ := resL_ok H _ hm
      refine ⟨.tuple vs.toArray, G, ?_, ?_, (fun s m xs e => by cases e), H.pre.ok, FrmN.refl n G w, fun _ _ x => x, rfl⟩
      · have := hl
        rw [h1] at this
        simp only [Result.andThen_ok] at this
        have hlen : vs.length ≠ 1 := by
          intro e
          have h3 := h2.length
          have h4 : cs.length = fn.results.toList.length := by
            have key : ∀ (l : List ResultVar) (ds : List C), l.mapM (resC cx st) = some ds → ds.length = l.length := by
              intro l
              induction l with
              | nil => intro ds hd; simp at hd; subst hd; rfl
              | cons r l ih =>
                intro ds hd
                simp only [List.mapM_cons, Option.bind_eq_bind, Option.pure_def] at hd
                cases hr : resC cx st r with
                | none => simp [hr] at hd
                | some c =>
                  cases hrs : l.mapM (resC cx st) with
                  | none => simp [hr, hrs] at hd
                  | some ds' => simp [hr, hrs] at hd; subst hd; simp [ih ds' hrs]
            exact key _ _ hm
          have h5 : fn.results.toList.length = 1 := by omega
          obtain ⟨r, hr⟩ := List.length_eq_one_iff.1 h5
          exact hrs r hr
        have hrun : ((do let vs ← fn.results.mapM (fun r => (match r with | .tmp t => pure (a.tmps.getD t undef) | .cell p t => do loadVar t (← asAddr (a.tmps.getD p undef)) : Sem Value)); pure (if h : vs.size = 1 then vs[0] else .tuple vs)) : Sem Value).run cx.P w = .ok (.tuple vs.toArray) w := by
          simp only [Sem.run_bind, this, Result.andThen_ok, Sem.run_pure]
          rw [dif_neg (by simpa using hlen)]
        exact hrun
      · simp only [Rep]
        exact ⟨_, rfl, by simpa using h2.map_noR⟩

/-- How a body may end. -/
def Ends (cx : Cx) (fn : Func) (k : Nat) (c : C) (h' : Hp) : Ex → St → Prop
  | .exit _, _ => False
  | _, st' => results cx fn st' = some c ∧ ((st'.h.take k = h' ∧ noRef k c = true ∧ ∀ b cells, b < k → st'.h.at b = some cells → noRefs k cells = true) ∨ st'.h = h')

theorem FC.of_tr {f : Nat} {fn : Func} {code : Code} {args : List C} {h h' : Hp} {c : C} (hf : cx.P.funcs[f]? = some fn) (hn : (fn.name == "runtime.NumGoroutine") = false) (hb : fn.body = some code)
    (hlen : args.length ≤ fn.ntmps) (hT : Tr { cx with N := fn.ntmps } h.length code ⟨init args, h⟩ (Ends cx fn h.length c h')) : FC cx.P cx.gl f args h c h' := by
  refine ⟨⟨fn, hf, hn, by rw [hb]; rfl⟩, fun G w vs W hTg hgl hr => ?_⟩
  have hvl : vs.size = args.length := by rw [hr.length]; simp
  refine calls_of_wp hf hb ?_
  have hsim : Sim { cx with N := fn.ntmps } G w ⟨init args, h⟩ { tmps := vs ++ Array.replicate (fn.ntmps - vs.size) undef, defers := [] } := by
    refine ⟨rfl, by simp; omega, W, ⟨fun t => ?_, fun t s m xs e => (noR_own e).elim⟩, hgl⟩
    simp only [init, av, Array.getD_eq_getD_getElem?]
    refine Rep.noR ?_
    cases hq : args[t]? with
    | some x =>
      obtain ⟨v, hv, hrv⟩ := hr.get t x hq
      have hlt : t < vs.size := by
        have := (List.getElem?_eq_some_iff.1 hv).1
        simpa using this
      rw [Array.getElem?_append_left hlt]
      have hv' : vs[t]? = some v := by simpa using hv
      rw [hv']
      exact hrv
    | none =>
      have hge : vs.size ≤ t := by
        have := List.getElem?_eq_none_iff.1 hq
        omega
      rw [Array.getElem?_append_right hge]
      simp only [Option.getD_none]
      rw [rep_val]
      cases hq2 : (Array.replicate (fn.ntmps - vs.size) undef)[t - vs.size]? with
      | none => rfl
      | some u =>
        rw [Array.getElem?_replicate] at hq2
        split at hq2
        · cases hq2; rfl
        · cases hq2
  have fin : ∀ (st' : St) (G' : Gh) (w' : World) (a' : Act), (results cx fn st' = some c ∧ ((st'.h.take h.length = h' ∧ noRef h.length c = true ∧ ∀ b cells, b < h.length → st'.h.at b = some cells → noRefs h.length cells = true) ∨ st'.h = h')) →
      Sim { cx with N := fn.ntmps } G' w' st' a' → FrmN h.length G w G' w' →
      a'.defers = [] ∧ ∃ v, (Go.results fn a'.tmps).run cx.P w' = .ok v w' ∧ ∃ v' G', Ending.returned v = .returned v' ∧ Rep G' c v' ∧ (∀ s n xs, c = .sl (.own s) n xs → OwnRow G' w' (2, 0, 0) v' s n) ∧ WorldOK G' h' w' ∧ Frm G w G' w' := by
    rintro st' G' w' a' ⟨hres, hend⟩ S F
    obtain ⟨v, G2, r1, r2, r3, r4, r5, r6, r7⟩ := results_ok (cx := { cx with N := fn.ntmps }) (n := h.length) S (fn := fn) (c := c) hres
    have F2 := F.trans r5
    have full : ∀ G3, FrmN h.length G w G3 w' → Frm G w G3 w' := fun G3 F3 =>
      ⟨F3.os, F3.tape, F3.output, F3.size, ⟨F3.K, fun b k hm => F3.μ b k (by
        obtain ⟨cells, hc⟩ := W.dom b k hm
        exact (List.getElem?_eq_some_iff.1 (Hp.at_some.1 hc)).1) hm⟩, F3.old⟩
    refine ⟨S.defers, v, r1, ?_⟩
    rcases hend with ⟨rfl, hnc, hnb⟩ | rfl
    · exact ⟨v, cutμ G2 h.length, rfl, noRef_rep _ _ hnc r2, fun s m xs e => (r3 s m xs e).cut _, r4.cut _ hnb, full _ (F2.trans (frmN_cut (Nat.le_refl _)))⟩
    · exact ⟨v, G2, rfl, r2, r3, r4, full _ F2⟩
  refine hT G w _ hsim _ fun x st' G' w' a' hx S F => ?_
  cases x with
  | exit k => exact hx.elim
  | normal => exact fin st' G' w' a' hx S F
  | ret => exact fin st' G' w' a' hx S F
end
end Go.Sx

namespace Go.Sx
open Go.RowKit

theorem isApp_iff (ops : Array Oper) (d : Option Nat) : isApp ops d = (match d with | some t => (ops.toList.filterMap appOf).contains t | none => false) := by
  cases d <;> rfl

/-- The plan of an operation where the appends' first operands are listed. -/
def splanA (cx : Cx) (apps : List Nat) (o : Oper) (env : Nat → C) : Option Plan :=
  match o.op with
  | .move (.tmp p) => some (if ((match o.dst with | some t => apps.contains t | none => false) || (match o.dst.map (· + 1000000) with | some t => apps.contains t | none => false)) then .val (env p) (some p) else .pure (env p).noR)
  | .load t x => loadPlan cx.P (match o.dst with | some t => apps.contains t | none => false) t (cx.evn env x)
  | _ => splan cx #[] o env

theorem splanA_eq (cx : Cx) (ops : Array Oper) (o : Oper) (env : Nat → C) : splanA cx (ops.toList.filterMap appOf) o env = splan cx ops o env := by
  unfold splanA
  split
  · rename_i p ho
    unfold splan
    rw [ho]
    simp only [isMv, isApp_iff]
    rfl
  · rename_i t x ho
    unfold splan
    rw [ho]
    simp only [isApp_iff]
    rfl
  · rename_i h1 h2
    unfold splan
    simp only []
    split <;> first | rfl | skip
    · rename_i x ho
      cases x with
      | tmp p => exact absurd ho (h1 p)
      | _ => rfl
    · rename_i t x ho
      exact absurd ho (h2 t x)

/-- Is an operation to be made, where the slots of the region's operations are listed? -/
def wantedA (dsts : List (Option Nat)) (g : Option (Nat × Bool)) (env : Nat → C) : Option Bool :=
  match g with
  | none => some true
  | some (j, want) => match (dsts[j]?).bind id with
    | none => some false
    | some t => match (env t).noR with
      | .val (.bool b) => some (b == want)
      | .val (.tuple _) => some false
      | _ => none

theorem wantedA_eq (ops : Array Oper) (o : Oper) (env : Nat → C) : wantedA (ops.toList.map (·.dst)) o.guard env = wantedS ops o env := by
  unfold wantedA wantedS
  cases o.guard with
  | none => rfl
  | some g =>
    obtain ⟨j, want⟩ := g
    simp only []
    have : ((ops.toList.map (·.dst))[j]?).bind id = (ops[j]?).bind (·.dst) := by
      rw [List.getElem?_map, Array.getElem?_toList]
      cases ops[j]? <;> rfl
    rw [this]
    rfl

/-- One operation, then the rest. -/
def act1 (cx : Cx) (id : Nat) (d : Option Nat) (st : St) (K : St → Prop) (p : Option Plan) : Prop :=
  match p with
  | none => False
  | some p => match actH cx id p st.h with
    | none => False
    | some (c, k, h') => K ⟨put d c (killS k st.env), h'⟩

/-- A region, operation by operation; K: what is to hold behind it. -/
def runE (cx : Cx) (apps : List Nat) (dsts : List (Option Nat)) : List Oper → Nat → St → (St → Prop) → Prop
  | [], _, st, K => K st
  | o :: l, id, st, K => dstOK cx.N o.dst = true ∧ match wantedA dsts o.guard st.env with
    | none => False
    | some false => runE cx apps dsts l (if makes o then id + 1 else id) ⟨put o.dst (.val undef) st.env, st.h⟩ K
    | some true => act1 cx id o.dst st (fun s => runE cx apps dsts l (if makes o then id + 1 else id) s K) (splanA cx apps o st.env)

theorem cnt_succ (ops : Array Oper) (k : Nat) (o : Oper) (h : ops[k]? = some o) : cnt ops (k + 1) = if makes o then cnt ops k + 1 else cnt ops k := by
  unfold cnt
  have h' : ops.toList[k]? = some o := by simpa using h
  rw [List.take_add_one, h']
  simp only [Option.toList_some, List.countP_append, List.countP_singleton]
  split <;> simp

theorem runE_steps {cx : Cx} {ops : Array Oper} {base : Nat} {K : St → Prop} : ∀ (l : List Oper) (k : Nat) (st : St), ops.toList.drop k = l →
    runE cx (ops.toList.filterMap appOf) (ops.toList.map (·.dst)) l (base + cnt ops k) st K → ∃ st', steps cx ops base (List.range' k l.length) st = some st' ∧ K st'
  | [], k, st, _, h => ⟨st, rfl, h⟩
  | o :: l, k, st, hl, h => by
    have hk : ops[k]? = some o := by
      have : (ops.toList.drop k)[0]? = some o := by rw [hl]; rfl
      rw [List.getElem?_drop] at this
      simpa using this
    have hl' : ops.toList.drop (k + 1) = l := by rw [← List.drop_drop, hl]; rfl
    simp only [runE] at h
    obtain ⟨hd, h⟩ := h
    rw [wantedA_eq, splanA_eq] at h
    have hid : (if makes o then base + cnt ops k + 1 else base + cnt ops k) = base + cnt ops (k + 1) := by
      rw [cnt_succ ops k o hk]; split <;> omega
    rw [hid] at h
    simp only [List.length_cons, List.range'_succ, steps]
    have next : ∀ s, runE cx (ops.toList.filterMap appOf) (ops.toList.map (·.dst)) l (base + cnt ops (k + 1)) s K → step cx ops base k st = some s → ∃ st', (step cx ops base k st).bind (steps cx ops base (List.range' (k + 1) l.length)) = some st' ∧ K st' := fun s hs hst => by
      obtain ⟨st', h1, h2⟩ := runE_steps l (k + 1) s hl' hs
      exact ⟨st', by rw [hst]; exact h1, h2⟩
    cases hw : wantedS ops o st.env with
    | none => rw [hw] at h; exact h.elim
    | some b =>
      rw [hw] at h
      cases b with
      | false =>
        refine next _ h ?_
        unfold step
        rw [hk]
        simp only [hd, if_true, hw]
      | true =>
        simp only [act1] at h
        cases hp : splan cx ops o st.env with
        | none => rw [hp] at h; exact h.elim
        | some p =>
          rw [hp] at h
          simp only [] at h
          cases ha : actH cx (base + cnt ops k) p st.h with
          | none => rw [ha] at h; exact h.elim
          | some r =>
            rw [ha] at h
            refine next _ h ?_
            unfold step
            rw [hk]
            simp only [hd, if_true, hw, hp, act, ha, Option.map_some]

/-- A region, in order. -/
theorem Tr.regionE {cx : Cx} {n : Nat} {st : St} {Q : Ex → St → Prop} (hcx : CxOK cx) {id : Nat} {l : List Oper} (h : runE cx (l.filterMap appOf) (l.map (·.dst)) l st.h.length ⟨st.env, st.h ++ List.replicate (l.countP makes) none⟩ (Q .normal)) :
    Tr cx n (.region id l.toArray false) st Q := by
  have h' : runE cx (l.toArray.toList.filterMap appOf) (l.toArray.toList.map (·.dst)) l (st.h.length + cnt l.toArray 0) ⟨st.env, st.h ++ List.replicate (l.countP makes) none⟩ (Q .normal) := by simpa [cnt] using h
  obtain ⟨st', h1, h2⟩ := runE_steps l 0 _ (by simp) h'
  refine Tr.region hcx (st' := st') ?_ h2
  unfold sregion
  have hc : cnt l.toArray l.toArray.size = l.countP makes := by simp [cnt]
  rw [hc, List.range_eq_range']
  simpa using h1

/-! The same for a region that draws its order: what each operation touches is listed. -/
def act1D (cx : Cx) (id : Nat) (d : Option Nat) (st : St) (K : FP → St → Prop) (p : Option Plan) : Prop :=
  match p with
  | none => False
  | some p => match actH cx id p st.h with
    | none => False
    | some (c, k, h') => K (fpOf id p) ⟨put d c (killS k st.env), h'⟩

def runD (cx : Cx) (apps : List Nat) (dsts : List (Option Nat)) : List Oper → Nat → St → List FP → (List FP → St → Prop) → Prop
  | [], _, st, fs, K => K fs st
  | o :: l, id, st, fs, K => dstOK cx.N o.dst = true ∧ match wantedA dsts o.guard st.env with
    | none => False
    | some false => runD cx apps dsts l (if makes o then id + 1 else id) ⟨put o.dst (.val undef) st.env, st.h⟩ ((0, 0) :: fs) K
    | some true => act1D cx id o.dst st (fun f s => runD cx apps dsts l (if makes o then id + 1 else id) s (f :: fs) K) (splanA cx apps o st.env)

theorem runD_runL {cx : Cx} {ops : Array Oper} {base : Nat} {K : List FP → St → Prop} : ∀ (l : List Oper) (k : Nat) (st : St) (fs : List FP), ops.toList.drop k = l →
    runD cx (ops.toList.filterMap appOf) (ops.toList.map (·.dst)) l (base + cnt ops k) st fs K → ∃ st' gs, runL cx ops base (List.range' k l.length) st = some (st', gs) ∧ K (gs.reverse ++ fs) st'
  | [], k, st, fs, _, h => ⟨st, [], rfl, h⟩
  | o :: l, k, st, fs, hl, h => by
    have hk : ops[k]? = some o := by
      have : (ops.toList.drop k)[0]? = some o := by rw [hl]; rfl
      rw [List.getElem?_drop] at this
      simpa using this
    have hl' : ops.toList.drop (k + 1) = l := by rw [← List.drop_drop, hl]; rfl
    simp only [runD] at h
    obtain ⟨hd, h⟩ := h
    rw [wantedA_eq, splanA_eq] at h
    have hid : (if makes o then base + cnt ops k + 1 else base + cnt ops k) = base + cnt ops (k + 1) := by
      rw [cnt_succ ops k o hk]; split <;> omega
    rw [hid] at h
    simp only [List.length_cons, List.range'_succ, runL]
    have next : ∀ s f, runD cx (ops.toList.filterMap appOf) (ops.toList.map (·.dst)) l (base + cnt ops (k + 1)) s (f :: fs) K → stepF cx ops base k st = some (s, f) →
        ∃ st' gs, (match stepF cx ops base k st with | none => none | some (st', f) => (runL cx ops base (List.range' (k + 1) l.length) st').map fun r => (r.1, f :: r.2)) = some (st', gs) ∧ K (gs.reverse ++ fs) st' := fun s f hs hst => by
      obtain ⟨st', gs, h1, h2⟩ := runD_runL l (k + 1) s (f :: fs) hl' hs
      refine ⟨st', f :: gs, by rw [hst]; simp only [h1, Option.map_some], ?_⟩
      simpa using h2
    cases hw : wantedS ops o st.env with
    | none => rw [hw] at h; exact h.elim
    | some b =>
      rw [hw] at h
      cases b with
      | false =>
        refine next _ _ h ?_
        unfold stepF eff
        rw [hk]
        simp only [hd, if_true, hw, Option.map_some, killS]
      | true =>
        simp only [act1D] at h
        cases hp : splan cx ops o st.env with
        | none => rw [hp] at h; exact h.elim
        | some p =>
          rw [hp] at h
          simp only [] at h
          cases ha : actH cx (base + cnt ops k) p st.h with
          | none => rw [ha] at h; exact h.elim
          | some r =>
            rw [ha] at h
            refine next _ _ h ?_
            unfold stepF eff
            rw [hk]
            simp only [hd, if_true, hw, hp, ha, Option.map_some]

theorem Tr.regionDE {cx : Cx} {n : Nat} {st : St} {Q : Ex → St → Prop} (hcx : CxOK cx) (hm : cx.P.follows .mixedOrders = true) {id : Nat} {l : List Oper} (hs : regStatic l.toArray = true)
    (h : runD cx (l.filterMap appOf) (l.map (·.dst)) l st.h.length ⟨st.env, st.h ++ List.replicate (l.countP makes) none⟩ [] (fun fs s => confsOK l.toArray fs.reverse = true ∧ Q .normal s)) :
    Tr cx n (.region id l.toArray true) st Q := by
  have h' : runD cx (l.toArray.toList.filterMap appOf) (l.toArray.toList.map (·.dst)) l (st.h.length + cnt l.toArray 0) ⟨st.env, st.h ++ List.replicate (l.countP makes) none⟩ [] (fun fs s => confsOK l.toArray fs.reverse = true ∧ Q .normal s) := by simpa [cnt] using h
  obtain ⟨st', gs, h1, h2, h3⟩ := runD_runL l 0 _ [] (by simp) h'
  refine Tr.regionD hcx hm (st' := st') hs ?_ h3
  unfold sregionD
  have hc : cnt l.toArray l.toArray.size = l.countP makes := by simp [cnt]
  rw [hc, List.range_eq_range']
  have h1' : runL cx l.toArray st.h.length (List.range' 0 l.toArray.size) ⟨st.env, st.h ++ List.replicate (l.countP makes) none⟩ = some (st', gs) := by simpa using h1
  rw [h1']
  simp only [List.append_nil, List.reverse_reverse] at h2
  simp only [h2, if_true]

/-- A contract, the slots' number told apart. -/
theorem FC.of {cx : Cx} {f : Nat} {fn : Func} {code : Code} {args : List C} {h h' : Hp} {c : C} (hN : cx.N = fn.ntmps) (hf : cx.P.funcs[f]? = some fn) (hn : (fn.name == "runtime.NumGoroutine") = false) (hb : fn.body = some code)
    (hlen : args.length ≤ fn.ntmps) (hT : Tr cx h.length code ⟨init args, h⟩ (Ends cx fn h.length c h')) : FC cx.P cx.gl f args h c h' := by
  refine FC.of_tr hf hn hb hlen ?_
  obtain ⟨P, N, gl, pu, hp⟩ := cx
  simp only [] at hN
  subst hN
  exact hT

theorem Tr.seqK {cx : Cx} {n : Nat} {st : St} {Q : Ex → St → Prop} {a b : Code} (h : ∀ K : St → Prop, (∀ s, Tr cx n b s Q → K s) → Tr cx n a st (thenQ K Q)) : Tr cx n (.seq a b) st Q :=
  Tr.seq (h _ fun _ x => x)
end Go.Sx

namespace Go.Sx
open Go.RowKit

/-- A frame: the slots that are known. -/
def A : List (Nat × C) → Nat → C
  | [], _ => .top
  | (k, c) :: l, t => if t = k then c else A l t

def Le (env : Nat → C) : List (Nat × C) → Prop
  | [] => True
  | (k, c) :: l => CLe (env k) c ∧ Le env l

theorem Le.spec {env : Nat → C} : ∀ {l : List (Nat × C)}, Le env l → ∀ t, CLe (env t) (A l t)
  | [], _, t => CLe.top _
  | (k, c) :: l, h, t => by
    unfold A
    split
    · rename_i e; subst e; exact h.1
    · exact Le.spec h.2 t

theorem A_put (k : Nat) (c : C) (l : List (Nat × C)) : put (some k) c (A l) = A ((k, c) :: l) := rfl
theorem A_put_none (c : C) (l : List (Nat × C)) : put none c (A l) = A l := rfl

section
variable {cx : Cx} {n : Nat} {st : St} {Q : Ex → St → Prop}

theorem Tr.live {c : Code} (l : List (Nat × C)) (h : Le st.env l) (k : Tr cx n c ⟨A l, st.h⟩ Q) : Tr cx n c st Q :=
  Tr.weaken (fun t => h.spec t) k

/-- What is known of a state at a join: one of the frames I a, boxes H a. -/
def At {α : Type} (I : α → List (Nat × C)) (H : α → Hp) (ok : α → Prop) (s : St) : Prop := ∃ a, ok a ∧ Le s.env (I a) ∧ s.h = H a

theorem Tr.ofAt {α : Type} {I : α → List (Nat × C)} {H : α → Hp} {ok : α → Prop} {c : Code} {s : St} (hs : At I H ok s) (h : ∀ a, ok a → Tr cx n c ⟨A (I a), H a⟩ Q) : Tr cx n c s Q := by
  obtain ⟨a, h1, h2, h3⟩ := hs
  refine Tr.live _ h2 ?_
  rw [h3]
  exact h a h1

/-- A join. -/
theorem Tr.seqJ {α : Type} (I : α → List (Nat × C)) (H : α → Hp) (ok : α → Prop) {x y : Code} (h1 : Tr cx n x st (thenQ (At I H ok) Q)) (h2 : ∀ a, ok a → Tr cx n y ⟨A (I a), H a⟩ Q) : Tr cx n (.seq x y) st Q :=
  Tr.seq (h1.mono fun e s q => by
    cases e with
    | normal => exact Tr.ofAt q h2
    | exit id => exact q
    | ret => exact q)

/-- A loop. -/
theorem Tr.loopI {α : Type} (I : α → List (Nat × C)) (H : α → Hp) (ok : α → Prop) (μ : α → Nat) {c : Code} (a : α) (h0 : ok a) (hl : Le st.env (I a)) (hh : st.h = H a)
    (hb : ∀ a, ok a → Tr cx n c ⟨A (I a), H a⟩ (thenQ (At I H fun a' => ok a' ∧ μ a' < μ a) Q)) : Tr cx n (.loop c) st Q := by
  refine Tr.loop (fun m s => ∃ a, μ a = m ∧ ok a ∧ Le s.env (I a) ∧ s.h = H a) (μ a) ⟨a, rfl, h0, hl, hh⟩ ?_
  rintro m s ⟨a, rfl, h1, h2, h3⟩
  refine Tr.live _ h2 ?_
  rw [h3]
  refine (hb a h1).mono fun e s q => ?_
  cases e with
  | normal =>
    obtain ⟨a', ⟨q1, q2⟩, q3, q4⟩ := q
    exact ⟨μ a', q2, a', rfl, q1, q3, q4⟩
  | exit id => exact q
  | ret => exact q
end

/-- A contract over no boxes holds over any. -/
theorem FC.frame {P : Program} {gl : Nat → C} {f : Nat} {args : List C} {c : C} (hf : FC P gl f args [] c []) (ha : noRefs 0 args = true) (hg : ∀ g, noRef 0 (gl g) = true) (h : Hp) : FC P gl f args h c h := by
  obtain ⟨he, hf⟩ := hf
  refine ⟨he, fun G w vs W hTg hgl hr => ?_⟩
  have le1 : (cutμ G 0).Le { K := G.K, μ := fun _ => none, T := fun _ => none } := ⟨fun _ _ _ x => x, fun b k x => by simp [cutμ] at x⟩
  have hn : ∀ b, Hp.at [] b = none := fun b => by simp [Hp.at]
  refine Calls.mono (hf { K := G.K, μ := fun _ => none, T := fun _ => none } w vs ⟨W.known, (fun b cells x => by rw [hn] at x; cases x), (fun b blk x => by cases x), (fun b b' blk x => by cases x), (fun b blk x => by cases x), (fun g p x => by cases x), (fun b cells off s n xs blk v x => by rw [hn] at x; cases x)⟩
    (fun g p x => by cases x) (fun g => (noRef_rep _ _ (hg g) (hgl g)).mono le1) ((noRef_repL _ _ ha hr).mono le1)) ?_
  rintro e w' ⟨v, G2, rfl, rv, ro, W2, F⟩
  have hμ2 : ∀ b k, G2.μ b ≠ some k := fun b k x => by
    obtain ⟨cells, hc⟩ := W2.dom b k x
    rw [hn] at hc; cases hc
  have old := fun g (hg : g < w.heap.size) => F.old g hg rfl (fun b x => by cases x)
  have hμlt : ∀ b blk, G.μ b = some blk → blk < w.heap.size := fun b blk x => by
    obtain ⟨cells, hc⟩ := W.dom b blk x
    obtain ⟨blk', cs, e, q1, q2, q3, q4⟩ := W.box b cells hc
    rw [x] at q1; cases q1
    exact (Array.getElem?_eq_some_iff.1 q2).1
  let G3 : Gh := { K := G2.K, μ := G.μ, T := fun g => if g < w.heap.size then G.T g else G2.T g }
  have le23 : G2.Le G3 := ⟨fun _ _ _ x => x, fun b k x => (hμ2 b k x).elim⟩
  have le13 : G.Le G3 := ⟨fun b o u x => F.le.K b o u x, fun _ _ x => x⟩
  refine ⟨v, G3, rfl, rv.mono le23, fun s n xs e => ?_, ⟨W2.known, fun b cells hc => ?_, fun b blk x => W.dom b blk x, fun b b' blk x y => W.inj b b' blk x y, fun b blk x => ?_, fun g p x => ?_, fun b cells off s n xs blk v hc hx hm hv => ?_⟩, F.os, F.tape, F.output, F.size, le13, fun g hg ht hm => ?_⟩
  · rcases ro s n xs e with O | ⟨g, cap, cur, e, a1, a2, a3, a4, a5, a6⟩
    · exact .inl O
    · refine .inr ⟨g, cap, cur, e, a1, ?_, a3, a4, a5, fun b x => ?_⟩
      · have : ¬ g < w.heap.size := fun hlt => by rw [(old g hlt).2.1] at a2; cases a2
        show (if g < w.heap.size then G.T g else G2.T g) = _
        rw [if_neg this]; exact a2
      · have hlt := hμlt b g x
        rw [(old g hlt).2.1] at a2; cases a2
  · obtain ⟨blk, cs, e, q1, q2, q3, q4⟩ := W.box b cells hc
    exact ⟨blk, cs, e, q1, (old blk (hμlt b blk q1)).1.trans q2, q3.mono le13, q4⟩
  · have hlt := hμlt b blk x
    refine ⟨fun o => ((old blk hlt).2.2.2 o).trans ((W.sep b blk x).1 o), ?_⟩
    show (if blk < w.heap.size then G.T blk else G2.T blk) = none
    rw [if_pos hlt]
    exact (W.sep b blk x).2
  · have x' : (if g < w.heap.size then G.T g else G2.T g) = some p := x
    split at x'
    · exact Nat.lt_of_lt_of_le (W.tlt g p x') F.size
    · exact W2.tlt g p x'
  · have hlt := hμlt b blk hm
    have hv' : w.cell? ⟨blk, off, none⟩ = some v := by
      rw [← hv]
      unfold World.cell?
      rw [(old blk hlt).1]
    rcases W.own b cells off s n xs blk v hc hx hm hv' with O | ⟨g, cap, cur, e, a1, a2, a3, a4, a5, a6⟩
    · exact .inl O
    · have hlt := W.tlt g _ a2
      refine .inr ⟨g, cap, cur, e, a1, ?_, (old g hlt).1.trans a3, a4, fun o ho => ((old g hlt).2.2.2 o).trans (a5 o ho), a6⟩
      show (if g < w.heap.size then G.T g else G2.T g) = _
      rw [if_pos hlt]; exact a2
  · obtain ⟨b1, b2, b3, b4⟩ := old g hg
    refine ⟨b1, ?_, hm, b4⟩
    show (if g < w.heap.size then G.T g else G2.T g) = none
    rw [if_pos hg]; exact ht
end Go.Sx

namespace Go.Sx
open Go.RowKit

def nones : List Oper → Hp
  | [] => []
  | o :: l => if makes o then none :: nones l else nones l

theorem nones_eq : ∀ l : List Oper, nones l = List.replicate (l.countP makes) none
  | [] => rfl
  | o :: l => by
    unfold nones
    rw [List.countP_cons, nones_eq l]
    split <;> simp_all [List.replicate_succ]

def ini : Nat → List C → List (Nat × C)
  | _, [] => []
  | k, c :: cs => (k, c.noR) :: ini (k + 1) cs

theorem A_ini : ∀ (l : List C) (k t : Nat), A (ini k l) t = if k ≤ t then (match l[t - k]? with | some c => c.noR | none => .top) else .top
  | [], k, t => by simp [ini, A]
  | c :: l, k, t => by
    simp only [ini, A, A_ini l (k + 1) t]
    by_cases h : t = k
    · subst h; simp
    · simp only [if_neg h]
      by_cases h2 : k ≤ t
      · have h3 : k + 1 ≤ t := by omega
        simp only [h2, h3, if_true]
        have : t - k = (t - (k + 1)) + 1 := by omega
        rw [this]; simp
      · have h3 : ¬ k + 1 ≤ t := by omega
        simp only [h2, h3, if_false]

theorem CLe.init (args : List C) (t : Nat) : CLe (init args t) (A (ini 0 args) t) := by
  rw [A_ini]
  simp only [Nat.zero_le, if_true, Nat.sub_zero]
  unfold Sx.init
  cases args[t]? with
  | none => exact CLe.top _
  | some c => exact CLe.refl _

section
variable {cx : Cx} {n : Nat} {Q : Ex → St → Prop} {e : List (Nat × C)} {h : Hp}

theorem Tr.reg (hcx : CxOK cx) {id : Nat} {l : List Oper} (H : runE cx (l.filterMap appOf) (l.map (·.dst)) l h.length ⟨A e, h ++ nones l⟩ (Q .normal)) : Tr cx n (.region id l.toArray false) ⟨A e, h⟩ Q := by
  rw [nones_eq] at H
  exact Tr.regionE hcx H

theorem Tr.regD (hcx : CxOK cx) (hm : cx.P.follows .mixedOrders = true) {id : Nat} {l : List Oper} (hs : regStatic l.toArray = true)
    (H : runD cx (l.filterMap appOf) (l.map (·.dst)) l h.length ⟨A e, h ++ nones l⟩ [] (fun fs s => confsOK l.toArray fs.reverse = true ∧ Q .normal s)) : Tr cx n (.region id l.toArray true) ⟨A e, h⟩ Q := by
  rw [nones_eq] at H
  exact Tr.regionDE hcx hm hs H

def condK (c : C) (p q : Prop) : Prop := ∃ b, c = .val (.bool b) ∧ (b = true → p) ∧ (b = false → q)
theorem condK_bool (b : Bool) (p q : Prop) : condK (.val (.bool b)) p q ↔ (b = true → p) ∧ (b = false → q) :=
  ⟨fun ⟨_, e, h⟩ => by cases e; exact h, fun h => ⟨b, rfl, h⟩⟩

theorem Tr.condK {c : Operand} {x y : Code} (H : ∀ KT KF : Prop, (Tr cx n x ⟨A e, h⟩ Q → KT) → (Tr cx n y ⟨A e, h⟩ Q → KF) → Sx.condK (cx.ev (A e) c) KT KF) : Tr cx n (.cond c x y) ⟨A e, h⟩ Q := by
  obtain ⟨b, h1, h2, h3⟩ := H _ _ (fun x => x) (fun x => x)
  exact Tr.cond_split h1 h2 h3

/-- Only these slots are kept. -/
def sel (ks : List Nat) : List (Nat × C) → List (Nat × C)
  | [] => []
  | (k, c) :: l => bif ks.elem k then (k, c) :: sel (ks.erase k) l else sel ks l

theorem A_sel {t : Nat} : ∀ (l : List (Nat × C)) (ks : List Nat), A (sel ks l) t = .top ∨ A (sel ks l) t = A l t
  | [], ks => .inl rfl
  | (k, c) :: l, ks => by
    unfold sel
    cases hk : ks.elem k
    · simp only [cond_false, A]
      by_cases h : t = k
      · left
        subst h
        have key : ∀ (l : List (Nat × C)) (ks : List Nat), ks.elem t = false → A (sel ks l) t = .top := by
          intro l
          induction l with
          | nil => intro ks _; rfl
          | cons p l ih =>
            obtain ⟨j, d⟩ := p
            intro ks hks
            unfold sel
            cases hj : ks.elem j
            · simp only [cond_false]; exact ih ks hks
            · simp only [cond_true, A]
              by_cases hjt : t = j
              · subst hjt; rw [hj] at hks; cases hks
              · rw [if_neg hjt]
                refine ih _ ?_
                simp only [List.elem_eq_contains, List.contains_eq_mem, decide_eq_false_iff_not] at hks ⊢
                exact fun hm => hks (List.mem_of_mem_erase hm)
        exact key l ks hk
      · rw [if_neg h]; exact A_sel l ks
    · simp only [cond_true, A]
      by_cases h : t = k
      · simp [h]
      · rw [if_neg h, if_neg h]; exact A_sel l (ks.erase k)

theorem Tr.keep (ks : List Nat) {c : Code} (H : Tr cx n c ⟨A (sel ks e), h⟩ Q) : Tr cx n c ⟨A e, h⟩ Q := by
  refine Tr.weaken (fun t => ?_) H
  rcases A_sel (t := t) e ks with q | q
  · rw [q]; exact CLe.top _
  · rw [q]; exact CLe.refl _

theorem Tr.blk {id : Nat} {c : Code} {st : St} (H : Tr cx n c st (blockQ id Q)) : Tr cx n (.block id c) st Q := Tr.block H
end

def resL (cx : Cx) (st : St) : List ResultVar → Option C
  | [r] => resC cx st r
  | rs => (rs.mapM (resC cx st)).map fun cs => .tup (cs.map C.noR)

/-- A body's end: the results read as c. -/
def EndsR (cx : Cx) (rs : List ResultVar) (c : C) : Ex → St → Prop
  | .exit _, _ => False
  | _, st => resL cx st rs = some c

theorem FC.ofA {cx : Cx} {f : Nat} {fn : Func} {code : Code} {args : List C} {c : C} {rs : List ResultVar} (hN : cx.N = fn.ntmps) (hf : cx.P.funcs[f]? = some fn) (hn : (fn.name == "runtime.NumGoroutine") = false) (hb : fn.body = some code)
    (hrs : fn.results = rs.toArray) (hlen : args.length ≤ fn.ntmps) (hc : noRef 0 c = true) (hT : Tr cx 0 code ⟨A (ini 0 args), []⟩ (EndsR cx rs c)) : FC cx.P cx.gl f args [] c [] := by
  refine FC.of hN hf hn hb hlen ?_
  refine Tr.weaken (fun t => CLe.init args t) (hT.mono fun x st q => ?_)
  have key : resL cx st rs = some c → results cx fn st = some c ∧ ((st.h.take 0 = [] ∧ noRef 0 c = true ∧ ∀ b cells, b < 0 → st.h.at b = some cells → noRefs 0 cells = true) ∨ st.h = []) := fun q => by
    refine ⟨?_, .inl ⟨by simp, hc, fun b cells hb => absurd hb (Nat.not_lt_zero b)⟩⟩
    rw [← q]
    unfold results
    rw [hrs]
    rcases rs with _ | ⟨r, _ | ⟨r2, rs⟩⟩ <;> rfl
  cases x with
  | exit k => exact q
  | normal => exact key q
  | ret => exact key q

theorem A_nil (t : Nat) : A [] t = .top := rfl
theorem A_cons (k : Nat) (c : C) (l : List (Nat × C)) (t : Nat) : A ((k, c) :: l) t = if t = k then c else A l t := rfl
theorem killS_none (env : Nat → C) : killS none env = env := rfl
theorem killS_A (k : Nat) (l : List (Nat × C)) : killS (some k) (A l) = A ((k, (A l k).noR) :: l) := by
  funext t
  simp only [killS, A]
theorem ev_tmp (cx : Cx) (env : Nat → C) (t : Nat) : cx.ev env (.tmp t) = env t := rfl
theorem ev_const (cx : Cx) (env : Nat → C) (v : Value) : cx.ev env (.const v) = .val v := rfl
theorem ev_global (cx : Cx) (env : Nat → C) (g : Nat) : cx.ev env (.global g) = (cx.gl g).noR := rfl
theorem ev_func (cx : Cx) (env : Nat → C) (f : Nat) : cx.ev env (.func f) = .fn f [] := rfl
theorem evn_eq (cx : Cx) (env : Nat → C) (x : Operand) : cx.evn env x = (cx.ev env x).noR := rfl

/-! Tables of contracts. -/
open Classical in
noncomputable def tabOf {α : Type} (enc : α → List C) (out : α → C) (args : List C) : Option C :=
  if h : ∃ a, enc a = args then some (out h.choose) else none

theorem tabOf_enc {α : Type} {enc : α → List C} {out : α → C} (hi : ∀ a b, enc a = enc b → out a = out b) (a : α) : tabOf enc out (enc a) = some (out a) := by
  have h : ∃ b, enc b = enc a := ⟨a, rfl⟩
  unfold tabOf
  rw [dif_pos h]
  exact congrArg some (hi _ _ h.choose_spec)

theorem tabOf_some {α : Type} {enc : α → List C} {out : α → C} {args : List C} {c : C} (h : tabOf enc out args = some c) : ∃ a, enc a = args ∧ out a = c := by
  unfold tabOf at h
  split at h
  · rename_i h2; exact ⟨_, h2.choose_spec, Option.some.inj h⟩
  · cases h

/-- One more function in the table. -/
def ext (pu : Nat → List C → Option C) (f : Nat) (sp : List C → Option C) : Nat → List C → Option C := fun g args => if g = f then sp args else pu g args

theorem ext_hit {pu : Nat → List C → Option C} {f : Nat} {sp : List C → Option C} (args : List C) : ext pu f sp f args = sp args := if_pos rfl
theorem ext_miss {pu : Nat → List C → Option C} {f g : Nat} {sp : List C → Option C} (h : g ≠ f) (args : List C) : ext pu f sp g args = pu g args := if_neg h

theorem CxOK.ext {P : Program} {gl : Nat → C} {pu : Nat → List C → Option C} {hp : Nat → List C → Hp → Option (C × Hp)} {N M : Nat} (hcx : CxOK ⟨P, N, gl, pu, hp⟩) (hg : ∀ g, noRef 0 (gl g) = true)
    {α : Type} {enc : α → List C} {out : α → C} {f : Nat} (he : ∀ a, noRefs 0 (enc a) = true) (h : ∀ a, FC P gl f (enc a) [] (out a) []) : CxOK ⟨P, M, gl, Sx.ext pu f (tabOf enc out), hp⟩ := by
  refine ⟨hg, fun g args c hc k => ?_, fun g args k c k' hc => hcx.hp g args k c k' hc⟩
  by_cases hgf : g = f
  · subst hgf
    have hc' : tabOf enc out args = some c := by rw [← hc]; exact (ext_hit args).symm
    obtain ⟨a, rfl, rfl⟩ := tabOf_some hc'
    exact (h a).frame (he a) hg k
  · have hc' : pu g args = some c := by rw [← hc]; exact (ext_miss hgf args).symm
    exact hcx.pu g args c hc' k

theorem CxOK.zero {P : Program} {gl : Nat → C} {N : Nat} (hg : ∀ g, noRef 0 (gl g) = true) : CxOK ⟨P, N, gl, fun _ _ => none, fun _ _ _ => none⟩ :=
  ⟨hg, fun _ _ _ h _ => (Option.some_ne_none _ h.symm).elim, fun _ _ _ _ _ h => (Option.some_ne_none _ h.symm).elim⟩
theorem CxOK.reN {P : Program} {gl : Nat → C} {pu : Nat → List C → Option C} {hp : Nat → List C → Hp → Option (C × Hp)} {N M : Nat} (hcx : CxOK ⟨P, N, gl, pu, hp⟩) : CxOK ⟨P, M, gl, pu, hp⟩ := ⟨hcx.glo, hcx.pu, hcx.hp⟩
end Go.Sx

namespace Go.Sx
open Go.RowKit

def dOK (N : Nat) : Option Nat → Prop
  | some d => d < N
  | none => True
theorem dOK_some (N d : Nat) : dOK N (some d) = (d < N) := rfl
theorem dOK_none (N : Nat) : dOK N none = True := rfl
theorem dOK_iff (N : Nat) (d : Option Nat) : dstOK N d = true ↔ dOK N d := by
  cases d <;> simp [dstOK, dOK]

def mkE : Option Nat → C → List (Nat × C) → List (Nat × C)
  | some d, c, e => (d, c) :: e
  | none, _, e => e
theorem A_mkE (d : Option Nat) (c : C) (e : List (Nat × C)) : put d c (A e) = A (mkE d c e) := by
  cases d <;> rfl

def isA (apps : List Nat) : Option Nat → Bool
  | some t => apps.contains t
  | none => false
theorem isA_nil (d : Option Nat) : isA [] d = false := by cases d <;> rfl
theorem isA_none (l : List Nat) : isA l none = false := rfl
theorem isA_cons (a : Nat) (l : List Nat) (t : Nat) : isA (a :: l) (some t) = (t == a || isA l (some t)) := by
  by_cases hh : t = a <;> simp [isA, hh]

def vp (c : C) : Plan := .val c none
theorem pure_vp (c : C) : Plan.pure c = vp c := rfl
def on (cx : Cx) (e : List (Nat × C)) (x : Operand) : C := (cx.ev (A e) x).noR
def orw (cx : Cx) (e : List (Nat × C)) (x : Operand) : C := cx.ev (A e) x
def onM (cx : Cx) (e : List (Nat × C)) : List Operand → List C
  | [] => []
  | x :: l => on cx e x :: onM cx e l
def onP (cx : Cx) (e : List (Nat × C)) : List (Nat × Operand) → List (Nat × C)
  | [] => []
  | (i, x) :: l => (i, on cx e x) :: onP cx e l
theorem onM_eq (cx : Cx) (e : List (Nat × C)) (l : List Operand) : l.map (cx.evn (A e)) = onM cx e l := by
  induction l with
  | nil => rfl
  | cons x l ih => simp only [List.map_cons, ih, onM]; rfl
theorem onP_eq (cx : Cx) (e : List (Nat × C)) (l : List (Nat × Operand)) : (l.map fun x => (x.1, cx.evn (A e) x.2)) = onP cx e l := by
  induction l with
  | nil => rfl
  | cons x l ih => obtain ⟨i, x⟩ := x; simp only [List.map_cons, ih, onP]; rfl
theorem A_hit (k : Nat) (c : C) (l : List (Nat × C)) : A ((k, c) :: l) k = c := by simp [A]
theorem A_miss (k t : Nat) (c : C) (l : List (Nat × C)) (h : (t == k) = false) : A ((k, c) :: l) t = A l t := by
  have : t ≠ k := by simpa using h
  simp [A, this]
theorem on_tmp (cx : Cx) (e : List (Nat × C)) (t : Nat) : on cx e (.tmp t) = (A e t).noR := rfl
theorem on_const (cx : Cx) (e : List (Nat × C)) (v : Value) : on cx e (.const v) = .val v := rfl
theorem on_global (cx : Cx) (e : List (Nat × C)) (g : Nat) : on cx e (.global g) = (cx.gl g).noR := by
  unfold on; simp only [Cx.ev]; cases hh : cx.gl g <;> first | rfl | skip
  rename_i r n xs
  cases r <;> rfl
theorem on_func (cx : Cx) (e : List (Nat × C)) (f : Nat) : on cx e (.func f) = .fn f [] := rfl
theorem orw_tmp (cx : Cx) (e : List (Nat × C)) (t : Nat) : orw cx e (.tmp t) = A e t := rfl
theorem orw_const (cx : Cx) (e : List (Nat × C)) (v : Value) : orw cx e (.const v) = .val v := rfl
theorem orw_global (cx : Cx) (e : List (Nat × C)) (g : Nat) : orw cx e (.global g) = (cx.gl g).noR := rfl
theorem orw_func (cx : Cx) (e : List (Nat × C)) (f : Nat) : orw cx e (.func f) = .fn f [] := rfl
theorem tmpq_tmp (t : Nat) : tmp? (.tmp t) = some t := rfl
theorem tmpq_const (v : Value) : tmp? (.const v) = none := rfl
theorem tmpq_global (g : Nat) : tmp? (.global g) = none := rfl
theorem tmpq_func (f : Nat) : tmp? (.func f) = none := rfl
theorem noR_val (v : Value) : (C.val v).noR = .val v := rfl
theorem noR_full (n : Nat) (xs : List C) : (C.sl .full n xs).noR = .sl .full n xs := rfl
theorem noR_no (n : Nat) (xs : List C) : (C.sl .no n xs).noR = .sl .no n xs := rfl
theorem noR_owns (s n : Nat) (xs : List C) : (C.sl (.own s) n xs).noR = .sl .no n xs := rfl
theorem noR_sv (b o n : Nat) : (C.sv b o n).noR = .sv b o n := rfl
theorem noR_bp (b o : Nat) : (C.bp b o).noR = .bp b o := rfl
theorem noR_kp (xs : List C) : (C.kp xs).noR = .kp xs := rfl
theorem noR_agg (xs : List C) : (C.agg xs).noR = .agg xs := rfl
theorem noR_tup (xs : List C) : (C.tup xs).noR = .tup xs := rfl
theorem noR_fn (f : Nat) (xs : List C) : (C.fn f xs).noR = .fn f xs := rfl
theorem noR_top : C.top.noR = .top := rfl
theorem share_val (k : IntKind) (n : Int) : (C.val (.int k n)).share = .val (.int k n) := rfl
theorem share_str (s : ByteArray) : (C.val (.string s)).share = .val (.string s) := rfl
theorem share_bool (b : Bool) : (C.val (.bool b)).share = .val (.bool b) := rfl
theorem share_nil : (C.val (.slice none 0 0)).share = .sl .no 0 [] := rfl
theorem share_full (n : Nat) (xs : List C) : (C.sl .full n xs).share = .sl .no n xs := rfl
theorem share_no (n : Nat) (xs : List C) : (C.sl .no n xs).share = .sl .no n xs := rfl
theorem share_own (s n : Nat) (xs : List C) : (C.sl (.own s) n xs).share = .sl .no n xs := rfl
theorem share_sv (b o n : Nat) : (C.sv b o n).share = .sv b o n := rfl
theorem share_bp (b o : Nat) : (C.bp b o).share = .bp b o := rfl
theorem share_kp (xs : List C) : (C.kp xs).share = .kp xs := rfl
theorem share_agg (xs : List C) : (C.agg xs).share = .agg xs := rfl
theorem share_fn (f : Nat) (xs : List C) : (C.fn f xs).share = .fn f xs := rfl
def shares : List C → List C
  | [] => []
  | c :: l => c.share :: shares l
theorem shares_eq (l : List C) : l.map C.share = shares l := by
  induction l with
  | nil => rfl
  | cons x l ih => simp only [List.map_cons, ih, shares]

/-- A Boolean that decides the way. -/
def GB (b : Bool) (P Q : Prop) : Prop := (b = true → P) ∧ (b = false → Q)
theorem GB_true (P Q : Prop) : GB true P Q = P := by simp [GB]
theorem GB_false (P Q : Prop) : GB false P Q = Q := by simp [GB]
theorem GB.mk {b : Bool} {P Q : Prop} (h : b = true → P) (k : b = false → Q) : GB b P Q := ⟨h, k⟩
theorem GB.pos {b : Bool} {P Q : Prop} (hb : b = true) (h : P) : GB b P Q := ⟨fun _ => h, fun e => (Bool.noConfusion (hb.symm.trans e))⟩
theorem GB.neg {b : Bool} {P Q : Prop} (hb : b = false) (h : Q) : GB b P Q := ⟨fun e => (Bool.noConfusion (hb.symm.trans e)), fun _ => h⟩
@[congr] theorem GB_congr {b b' : Bool} {P Q : Prop} (h : b = b') : GB b P Q = GB b' P Q := by rw [h]
theorem GB.dec {p : Prop} [Decidable p] {P Q : Prop} (h : p → P) (k : ¬ p → Q) : GB (decide p) P Q := ⟨fun e => h (by simpa using e), fun e => k (by simpa using e)⟩
/-- Both, the second one not looked into. -/
def AN (p q : Prop) : Prop := p ∧ q
@[congr] theorem AN_congr {p p' q : Prop} (h : p = p') : AN p q = AN p' q := by rw [h]
theorem AN_true (q : Prop) : AN True q = q := by simp [AN]

def run (cx : Cx) (apps : List Nat) (dsts : List (Option Nat)) (l : List Oper) (id : Nat) (e : List (Nat × C)) (h : Hp) (fs : List FP) (K : List FP → St → Prop) : Prop :=
  runD cx apps dsts l id ⟨A e, h⟩ fs K

section
variable (cx : Cx) (apps : List Nat) (dsts : List (Option Nat)) (l : List Oper) (id id' : Nat) (d : Option Nat) (e : List (Nat × C)) (h : Hp) (fs : List FP) (K : List FP → St → Prop)

def stV (p : Option Plan) : Prop := act1D cx id d ⟨A e, h⟩ (fun f s => runD cx apps dsts l id' s (f :: fs) K) p
def stR (b : Nat) (o : Option C) : Prop := match o with
  | none => False
  | some c => run cx apps dsts l id' (mkE d c e) h ((1, b) :: fs) K
def stW (k : Option Nat) (b : Nat) (o : Option (List C × C)) : Prop := match o with
  | none => False
  | some r => runD cx apps dsts l id' ⟨put d r.2 (killS k (A e)), h.set b (some r.1)⟩ ((2, b) :: fs) K
def stX (b off : Nat) (o : Option (List C)) : Prop := match o with
  | none => False
  | some cells => match cells[off]? with
    | none => False
    | some x => run cx apps dsts l id' (mkE d x e) (h.set b (some (cells.set off x.noR))) ((3, b) :: fs) K
def stC (o : Option (C × Hp)) : Prop := match o with
  | none => False
  | some r => run cx apps dsts l id' (mkE d r.1 e) r.2 ((4, 0) :: fs) K
def stN (cells : List C) (g : Nat → C) (o : Option (Option (List C))) : Prop := match o with
  | some none => run cx apps dsts l id' (mkE d (g id) e) (h.set id (some cells)) ((2, id) :: fs) K
  | _ => False

theorem stV_none : stV cx apps dsts l id id' d e h fs K none = False := rfl
theorem stV_vp (c : C) : stV cx apps dsts l id id' d e h fs K (some (vp c)) = run cx apps dsts l id' (mkE d c e) h ((0, 0) :: fs) K := by
  show runD _ _ _ _ _ ⟨put d c (killS none (A e)), h⟩ _ _ = _
  rw [killS_none, A_mkE]; rfl
theorem stV_val0 (c : C) : stV cx apps dsts l id id' d e h fs K (some (.val c none)) = run cx apps dsts l id' (mkE d c e) h ((0, 0) :: fs) K := stV_vp ..
theorem stV_valk (c : C) (k : Nat) : stV cx apps dsts l id id' d e h fs K (some (.val c (some k))) = run cx apps dsts l id' (mkE d c ((k, (A e k).noR) :: e)) h ((0, 0) :: fs) K := by
  show runD _ _ _ _ _ ⟨put d c (killS (some k) (A e)), h⟩ _ _ = _
  rw [killS_A, A_mkE]; rfl
theorem stV_rd (b : Nat) (f : List C → Option C) : stV cx apps dsts l id id' d e h fs K (some (.rd b f)) = stR cx apps dsts l id' d e h fs K b ((h.at b).bind f) := by
  unfold stV stR act1D
  simp only [actH]
  cases (h.at b).bind f with
  | none => rfl
  | some c =>
    simp only [Option.map_some, killS_none, A_mkE]; rfl
theorem stV_wr (b : Nat) (f : List C → Option (List C × C)) (k : Option Nat) : stV cx apps dsts l id id' d e h fs K (some (.wr b f k)) = stW cx apps dsts l id' d e h fs K k b ((h.at b).bind f) := by
  unfold stV stW act1D
  simp only [actH]
  cases (h.at b).bind f with
  | none => rfl
  | some c => simp only [Option.map_some]; rfl
theorem stV_xr (b off : Nat) : stV cx apps dsts l id id' d e h fs K (some (.xr b off)) = stX cx apps dsts l id' d e h fs K b off (h.at b) := by
  unfold stV stX act1D
  simp only [actH]
  cases h.at b with
  | none => rfl
  | some cells =>
    simp only [Option.bind_some]
    cases cells[off]? with
    | none => rfl
    | some x => simp only [Option.map_some, killS_none, A_mkE]; rfl
theorem stV_new (cells : List C) (g : Nat → C) : stV cx apps dsts l id id' d e h fs K (some (.new cells g)) = stN cx apps dsts l id id' d e h fs K cells g (h[id]?) := by
  unfold stV stN act1D
  simp only [actH]
  cases h[id]? with
  | none => rfl
  | some o => cases o with
    | none => simp only [killS_none, A_mkE]; rfl
    | some o => rfl
theorem stV_call (f : Nat) (as : List C) : stV cx apps dsts l id id' d e h fs K (some (.call f as)) = stC cx apps dsts l id' d e fs K (cx.hp f as h) := by
  unfold stV stC act1D
  simp only [actH]
  cases cx.hp f as h with
  | none => rfl
  | some c => simp only [Option.map_some, killS_none, A_mkE]; rfl
theorem stR_some (b : Nat) (c : C) : stR cx apps dsts l id' d e h fs K b (some c) = run cx apps dsts l id' (mkE d c e) h ((1, b) :: fs) K := rfl
theorem stW_some0 (b : Nat) (cells : List C) (c : C) : stW cx apps dsts l id' d e h fs K none b (some (cells, c)) = run cx apps dsts l id' (mkE d c e) (h.set b (some cells)) ((2, b) :: fs) K := by
  show runD _ _ _ _ _ ⟨put d c (killS none (A e)), _⟩ _ _ = _
  rw [killS_none, A_mkE]; rfl
theorem stW_somek (k b : Nat) (cells : List C) (c : C) : stW cx apps dsts l id' d e h fs K (some k) b (some (cells, c)) = run cx apps dsts l id' (mkE d c ((k, (A e k).noR) :: e)) (h.set b (some cells)) ((2, b) :: fs) K := by
  show runD _ _ _ _ _ ⟨put d c (killS (some k) (A e)), _⟩ _ _ = _
  rw [killS_A, A_mkE]; rfl
theorem stX_some (b off : Nat) (cells : List C) : stX cx apps dsts l id' d e h fs K b off (some cells) = stX cx apps dsts l id' d e h fs K b off (some cells) := rfl
theorem stC_some (c : C) (h' : Hp) : stC cx apps dsts l id' d e fs K (some (c, h')) = run cx apps dsts l id' (mkE d c e) h' ((4, 0) :: fs) K := rfl
theorem stN_some (cells : List C) (g : Nat → C) : stN cx apps dsts l id id' d e h fs K cells g (some none) = run cx apps dsts l id' (mkE d (g id) e) (h.set id (some cells)) ((2, id) :: fs) K := rfl

theorem run_nil : run cx apps dsts [] id e h fs K = K fs ⟨A e, h⟩ := rfl
end

@[congr] theorem stV_congr {cx : Cx} {apps : List Nat} {dsts : List (Option Nat)} {l : List Oper} {id id' : Nat} {d : Option Nat} {e : List (Nat × C)} {h : Hp} {fs : List FP} {K : List FP → St → Prop} {p p' : Option Plan} (hp : p = p') :
    stV cx apps dsts l id id' d e h fs K p = stV cx apps dsts l id id' d e h fs K p' := by rw [hp]
@[congr] theorem stR_congr {cx : Cx} {apps : List Nat} {dsts : List (Option Nat)} {l : List Oper} {id' : Nat} {d : Option Nat} {e : List (Nat × C)} {h : Hp} {fs : List FP} {K : List FP → St → Prop} {b : Nat} {p p' : Option C} (hp : p = p') :
    stR cx apps dsts l id' d e h fs K b p = stR cx apps dsts l id' d e h fs K b p' := by rw [hp]
@[congr] theorem stW_congr {cx : Cx} {apps : List Nat} {dsts : List (Option Nat)} {l : List Oper} {id' : Nat} {d : Option Nat} {e : List (Nat × C)} {h : Hp} {fs : List FP} {K : List FP → St → Prop} {k : Option Nat} {b : Nat} {p p' : Option (List C × C)} (hp : p = p') :
    stW cx apps dsts l id' d e h fs K k b p = stW cx apps dsts l id' d e h fs K k b p' := by rw [hp]
@[congr] theorem stX_congr {cx : Cx} {apps : List Nat} {dsts : List (Option Nat)} {l : List Oper} {id' : Nat} {d : Option Nat} {e : List (Nat × C)} {h : Hp} {fs : List FP} {K : List FP → St → Prop} {b off : Nat} {p p' : Option (List C)} (hp : p = p') :
    stX cx apps dsts l id' d e h fs K b off p = stX cx apps dsts l id' d e h fs K b off p' := by rw [hp]
@[congr] theorem stC_congr {cx : Cx} {apps : List Nat} {dsts : List (Option Nat)} {l : List Oper} {id' : Nat} {d : Option Nat} {e : List (Nat × C)} {fs : List FP} {K : List FP → St → Prop} {p p' : Option (C × Hp)} (hp : p = p') :
    stC cx apps dsts l id' d e fs K p = stC cx apps dsts l id' d e fs K p' := by rw [hp]
@[congr] theorem stN_congr {cx : Cx} {apps : List Nat} {dsts : List (Option Nat)} {l : List Oper} {id id' : Nat} {d : Option Nat} {e : List (Nat × C)} {h : Hp} {fs : List FP} {K : List FP → St → Prop} {cells : List C} {g : Nat → C} {p p' : Option (Option (List C))} (hp : p = p') :
    stN cx apps dsts l id id' d e h fs K cells g p = stN cx apps dsts l id id' d e h fs K cells g p' := by rw [hp]
@[congr] theorem run_congr {cx : Cx} {apps : List Nat} {dsts : List (Option Nat)} {l : List Oper} {id id' : Nat} {e : List (Nat × C)} {h h' : Hp} {fs : List FP} {K : List FP → St → Prop} (hi : id = id') (hh : h = h') :
    run cx apps dsts l id e h fs K = run cx apps dsts l id' e h' fs K := by rw [hh, hi]
theorem run_mkS (cx : Cx) (apps : List Nat) (dsts : List (Option Nat)) (l : List Oper) (id d : Nat) (c : C) (e : List (Nat × C)) (h : Hp) (fs : List FP) (K : List FP → St → Prop) :
    run cx apps dsts l id (mkE (some d) c e) h fs K = run cx apps dsts l id ((d, c) :: e) h fs K := rfl
theorem run_mkN (cx : Cx) (apps : List Nat) (dsts : List (Option Nat)) (l : List Oper) (id : Nat) (c : C) (e : List (Nat × C)) (h : Hp) (fs : List FP) (K : List FP → St → Prop) :
    run cx apps dsts l id (mkE none c e) h fs K = run cx apps dsts l id e h fs K := rfl
end Go.Sx

namespace Go.Sx
open Go.RowKit

theorem runE_of_run {cx : Cx} {apps : List Nat} {dsts : List (Option Nat)} {K : St → Prop} : ∀ (l : List Oper) (id : Nat) (st : St) (fs : List FP), runD cx apps dsts l id st fs (fun _ s => K s) → runE cx apps dsts l id st K
  | [], _, _, _, h => h
  | o :: l, id, st, fs, h => by
    simp only [runD, runE] at h ⊢
    refine ⟨h.1, ?_⟩
    have h2 := h.2
    cases hw : wantedA dsts o.guard st.env with
    | none => rw [hw] at h2; exact h2
    | some b =>
      rw [hw] at h2
      cases b with
      | false => exact runE_of_run l _ _ _ h2
      | true =>
        simp only [act1, act1D] at h2 ⊢
        generalize splanA cx apps o st.env = q at h2 ⊢
        cases q with
        | none => exact h2
        | some p =>
          simp only [] at h2 ⊢
          generalize actH cx id p st.h = r at h2 ⊢
          cases r with
          | none => exact h2
          | some r => exact runE_of_run l _ _ _ h2

section
variable {cx : Cx} {n : Nat} {Q : Ex → St → Prop} {e : List (Nat × C)} {h : Hp}

/-- A region, by its list of operations; apps, dsts, z: told by whoever prints the proof. -/
theorem Tr.rg (hcx : CxOK cx) {id : Nat} {l : List Oper} (apps : List Nat) (dsts : List (Option Nat)) (z : Hp) (h1 : l.filterMap appOf = apps) (h2 : l.map (·.dst) = dsts) (h3 : nones l = z)
    (H : run cx apps dsts l h.length e (h ++ z) [] (fun _ s => Q .normal s)) : Tr cx n (.region id l.toArray false) ⟨A e, h⟩ Q := by
  subst h1 h2 h3
  exact Tr.reg hcx (runE_of_run _ _ _ _ H)

theorem Tr.rgD (hcx : CxOK cx) (hm : cx.P.follows .mixedOrders = true) {id : Nat} {l : List Oper} (apps : List Nat) (dsts : List (Option Nat)) (z : Hp) (h1 : l.filterMap appOf = apps) (h2 : l.map (·.dst) = dsts) (h3 : nones l = z)
    (hs : regStatic l.toArray = true)
    (H : run cx apps dsts l h.length e (h ++ z) [] (fun fs s => confsOK l.toArray fs.reverse = true ∧ Q .normal s)) : Tr cx n (.region id l.toArray true) ⟨A e, h⟩ Q := by
  subst h1 h2 h3
  exact Tr.regD hcx hm hs H

end

section
variable (cx : Cx) (apps : List Nat) (dsts : List (Option Nat)) (l : List Oper) (id id' : Nat) (d : Option Nat) (e : List (Nat × C)) (h : Hp) (fs : List FP) (K : List FP → St → Prop) (ty : TypeId) (pos : String) (aft : Array Edge)

theorem run_gen (op : Op) (p : Option Plan) (hp : splanA cx apps ⟨d, op, ty, pos, aft, none⟩ (A e) = p) (hm : (if makes ⟨d, op, ty, pos, aft, none⟩ then id + 1 else id) = id') :
    run cx apps dsts (⟨d, op, ty, pos, aft, none⟩ :: l) id e h fs K = AN (dOK cx.N d) (stV cx apps dsts l id id' d e h fs K p) := by
  unfold run AN
  rw [runD]
  simp only [wantedA]
  rw [hp, hm, dOK_iff]
  rfl

def stG (op : Op) (o : Option Bool) : Prop := match o with
  | none => False
  | some b => (b = true → run cx apps dsts (⟨d, op, ty, pos, aft, none⟩ :: l) id e h fs K) ∧
      (b = false → AN (dOK cx.N d) (run cx apps dsts l (if makes ⟨d, op, ty, pos, aft, none⟩ then id + 1 else id) (mkE d (.val undef) e) h ((0, 0) :: fs) K))

theorem run_guard (op : Op) (g : Nat × Bool) : run cx apps dsts (⟨d, op, ty, pos, aft, some g⟩ :: l) id e h fs K = stG cx apps dsts l id d e h fs K ty pos aft op (wantedA dsts (some g) (A e)) := by
  unfold run stG
  rw [runD]
  simp only []
  have hsp : splanA cx apps ⟨d, op, ty, pos, aft, some g⟩ (A e) = splanA cx apps ⟨d, op, ty, pos, aft, none⟩ (A e) := by
    rw [splanA.eq_def, splanA.eq_def]
    cases op with
    | move x => cases x <;> rfl
    | _ => rfl
  have hmk : makes ⟨d, op, ty, pos, aft, some g⟩ = makes ⟨d, op, ty, pos, aft, none⟩ := rfl
  cases hw : wantedA dsts (some g) (A e) with
  | none => simp
  | some b =>
    cases b with
    | true =>
      simp only [Bool.true_eq_false, false_implies, and_true, true_implies]
      rw [run, runD, hsp, hmk]
      simp only [wantedA]
    | false =>
      simp only [Bool.false_eq_true, false_implies, true_and, true_implies]
      rw [AN, dOK_iff, A_mkE]
      rfl
/-- The next box after an operation that was left out. -/
def bump (op : Op) (id : Nat) : Nat := match op with
  | .alloc _ | .box _ _ | .makeSlice _ _ _ => id + 1
  | _ => id
theorem bump_eq (op : Op) : (if makes ⟨d, op, ty, pos, aft, none⟩ then id + 1 else id) = bump op id := by cases op <;> rfl
theorem stG_some (op : Op) (b : Bool) : stG cx apps dsts l id d e h fs K ty pos aft op (some b) = GB b (run cx apps dsts (⟨d, op, ty, pos, aft, none⟩ :: l) id e h fs K)
    (AN (dOK cx.N d) (run cx apps dsts l (bump op id) (mkE d (.val undef) e) h ((0, 0) :: fs) K)) := by
  rw [← bump_eq (d := d) (ty := ty) (pos := pos) (aft := aft)]; rfl

theorem bump_move (x : Operand) (id : Nat) : bump (.move x) id = id := rfl
theorem bump_assign (x : Operand) (id : Nat) : bump (.assign x) id = id := rfl
theorem bump_pick (c a b : Operand) (id : Nat) : bump (.pick c a b) id = id := rfl
theorem bump_build (t : TypeId) (p : Array (Nat × Operand)) (id : Nat) : bump (.build t p) id = id := rfl
theorem bump_buildSlice (t : TypeId) (n : Nat) (p : Array (Nat × Operand)) (id : Nat) : bump (.buildSlice t n p) id = id := rfl
theorem bump_load (t : TypeId) (a : Operand) (id : Nat) : bump (.load t a) id = id := rfl
theorem bump_store (t : TypeId) (a v : Operand) (id : Nat) : bump (.store t a v) id = id := rfl
theorem bump_nilCheck (x : Operand) (id : Nat) : bump (.nilCheck x) id = id := rfl
theorem bump_binOp (o : BinOp) (t : TypeId) (x y : Operand) (s : TypeId) (id : Nat) : bump (.binOp o t x y s) id = id := rfl
theorem bump_unOp (o : UnOp) (t : TypeId) (x : Operand) (id : Nat) : bump (.unOp o t x) id = id := rfl
theorem bump_convert (s d : TypeId) (x : Operand) (id : Nat) : bump (.convert s d x) id = id := rfl
theorem bump_sliceToArrayPointer (d : TypeId) (x : Operand) (id : Nat) : bump (.sliceToArrayPointer d x) id = id := rfl
theorem bump_makeFunc (f : Fn) (a b : Array Operand) (id : Nat) : bump (.makeFunc f a b) id = id := rfl
theorem bump_slice (t : TypeId) (x : Operand) (l h m : Option Operand) (id : Nat) : bump (.slice t x l h m) id = id := rfl
theorem bump_fieldAddr (t : TypeId) (x : Operand) (f : Nat) (id : Nat) : bump (.fieldAddr t x f) id = id := rfl
theorem bump_field (t : TypeId) (x : Operand) (f : Nat) (id : Nat) : bump (.field t x f) id = id := rfl
theorem bump_indexAddr (t : TypeId) (x i : Operand) (id : Nat) : bump (.indexAddr t x i) id = id := rfl
theorem bump_index (t : TypeId) (x i : Operand) (id : Nat) : bump (.index t x i) id = id := rfl
theorem bump_call (c : Call) (id : Nat) : bump (.call c) id = id := rfl
theorem bump_extract (x : Operand) (i : Nat) (id : Nat) : bump (.extract x i) id = id := rfl
theorem bump_insert (t : TypeId) (m k v : Operand) (id : Nat) : bump (.insert t m k v) id = id := rfl
theorem bump_makeMap (t : TypeId) (r : Option Operand) (id : Nat) : bump (.makeMap t r) id = id := rfl
theorem bump_lookup (t : TypeId) (x i : Operand) (c : Bool) (id : Nat) : bump (.lookup t x i c) id = id := rfl
theorem bump_mapUpdate (t : TypeId) (m k v : Operand) (id : Nat) : bump (.mapUpdate t m k v) id = id := rfl
theorem bump_mapEntry (t : TypeId) (m k : Operand) (id : Nat) : bump (.mapEntry t m k) id = id := rfl
theorem bump_entryStore (t : TypeId) (m s v : Operand) (id : Nat) : bump (.entryStore t m s v) id = id := rfl
theorem bump_makeInterface (t : TypeId) (x : Operand) (id : Nat) : bump (.makeInterface t x) id = id := rfl
theorem bump_alloc (t : TypeId) (id : Nat) : bump (.alloc t) id = id + 1 := rfl
theorem bump_box (t : TypeId) (v : Operand) (id : Nat) : bump (.box t v) id = id + 1 := rfl
theorem bump_makeSlice (t : TypeId) (a b : Operand) (id : Nat) : bump (.makeSlice t a b) id = id + 1 := rfl
def pickP (c a b : C) : Option Plan := match c with
  | .val (.bool true) => some (vp a)
  | .val (.bool false) => some (vp b)
  | _ => none
def allocP (t : Option TD) : Option Plan := match t with
  | some d => if d.zero.all (·.oneCell') then some (.new (d.zero.map .val) fun id => .bp id 0) else none
  | none => none
def boxP (x : C) : Option Plan := x.cells?.map fun cs => .new cs fun id => .bp id 0
def buildP (P : Program) (t : Option TD) (parts : List (Nat × C)) : Option Plan := match t with
  | some d => if d.zero.all (·.oneCell') = false then none else ((places P d.u).bind fun pl => lay pl (d.zero.map .val) parts).map fun cs => vp (.agg cs)
  | none => none
def buildSliceP (P : Program) (t : Option TD) (n : Nat) (parts : List (Nat × C)) : Option Plan := match t with
  | some d => (match d.u with
    | .slice e => (match td P e with
      | some de => if n * de.size ≤ 65536 ∧ n ≤ 65536 ∧ de.zero.length = de.size ∧ de.zero.all (·.oneCell') = true then
          (lay (fun i => some (i * de.size, de.size)) (repZero de.zero n) parts).map fun cs => vp (.sl .full n cs) else none
      | none => none)
    | _ => none)
  | none => none
def nilP (x : C) : Option Plan := match x with
  | .bp b k => some (vp (.bp b k))
  | .kp xs => some (vp (.kp xs))
  | .fn f cs => some (vp (.fn f cs))
  | _ => none
def extractP (x : C) (i : Nat) : Option Plan := match x with
  | .tup xs => (xs[i]?).map fun c => vp c.noR
  | _ => none
def callQ (cx : Cx) (g : Nat) (as : List C) (o : Option C) : Option Plan := match o with
  | some c => some (vp c)
  | none => match refBox as with
    | some b => if (cx.hp g as []).isSome then some (.call g as) else some (.rd b (rdPu cx g as b))
    | none => some (.call g as)
def callP (cx : Cx) (f : C) (args : List C) : Option Plan := match f with
  | .fn g caps => callQ cx g (shares args ++ caps) (cx.pu g (shares args ++ caps))
  | _ => none

def mvP (b : Bool) (c : C) (p : Nat) : Option Plan := match b with
  | true => some (.val c (some p))
  | false => some (vp c.noR)
def staP (P : Program) (t : Option TD) (x : C) : Option Plan := match t with
  | some d => (match d.u with
    | .array n e => (match td P e, x with
      | some _, .sv b off m => if n ≤ m ∧ n ≠ 0 then some (vp (.bp b off)) else none
      | some de, c => (match c.sl? with
        | some (m, xs) => if n ≤ m ∧ xs ≠ [] ∧ xs.length = m * de.size then some (vp (.kp xs)) else none
        | none => none)
      | _, _ => none)
    | _ => none)
  | none => none
def mksP (P : Program) (t : Option TD) (l c : C) : Option Plan := match t, l.int?, c.int? with
  | some d, some (_, n), some (_, m) => (match d.u with
    | .slice e => (match td P e with
      | some de => if 0 ≤ n ∧ n = m ∧ de.bytes * n ≤ 140737488355328 ∧ n ≤ 9223372036854775807 ∧ de.zero.length = de.size ∧ de.zero.all (·.oneCell') = true then some (.new (repZero de.zero n.toNat) fun id => .sv id 0 n.toNat) else none
      | none => none)
    | _ => none)
  | _, _, _ => none
theorem run_mvt (p : Nat) : run cx apps dsts (⟨d, .move (.tmp p), ty, pos, aft, none⟩ :: l) id e h fs K = AN (dOK cx.N d) (stV cx apps dsts l id id d e h fs K (mvP (isA apps d || isA apps (d.map (· + 1000000))) (A e p) p)) :=
  run_gen cx apps dsts l id id d e h fs K ty pos aft (.move (.tmp p)) (mvP (isA apps d || isA apps (d.map (· + 1000000))) (A e p) p) (by
    rw [splanA.eq_def]; simp only []
    cases d with
    | none => rfl
    | some t =>
      simp only [isA, mvP, vp, Plan.pure, Option.map_some, List.contains_eq_mem]
      by_cases hb : t ∈ apps <;> by_cases hc : t + 1000000 ∈ apps <;> simp [hb, hc]) rfl
theorem run_mvc (v : Value) : run cx apps dsts (⟨d, .move (.const v), ty, pos, aft, none⟩ :: l) id e h fs K = AN (dOK cx.N d) (stV cx apps dsts l id id d e h fs K (some (vp (.val v)))) :=
  run_gen cx apps dsts l id id d e h fs K ty pos aft (.move (.const v)) (some (vp (.val v))) (by first | rfl | (cases d <;> rfl)) rfl
theorem run_mvg (g : Nat) : run cx apps dsts (⟨d, .move (.global g), ty, pos, aft, none⟩ :: l) id e h fs K = AN (dOK cx.N d) (stV cx apps dsts l id id d e h fs K (some (vp (on cx e (.global g))))) :=
  run_gen cx apps dsts l id id d e h fs K ty pos aft (.move (.global g)) (some (vp (on cx e (.global g)))) (by first | rfl | (cases d <;> rfl)) rfl
theorem run_mvf (f : Nat) : run cx apps dsts (⟨d, .move (.func f), ty, pos, aft, none⟩ :: l) id e h fs K = AN (dOK cx.N d) (stV cx apps dsts l id id d e h fs K (some (vp (.fn f [])))) :=
  run_gen cx apps dsts l id id d e h fs K ty pos aft (.move (.func f)) (some (vp (.fn f []))) (by first | rfl | (cases d <;> rfl)) rfl
theorem run_asg (x : Operand) : run cx apps dsts (⟨d, .assign x, ty, pos, aft, none⟩ :: l) id e h fs K = AN (dOK cx.N d) (stV cx apps dsts l id id d e h fs K (some (.val (orw cx e x) (tmp? x)))) :=
  run_gen cx apps dsts l id id d e h fs K ty pos aft (.assign x) (some (.val (orw cx e x) (tmp? x))) (by first | rfl | (cases d <;> rfl)) rfl
theorem run_pick (c a b : Operand) : run cx apps dsts (⟨d, .pick c a b, ty, pos, aft, none⟩ :: l) id e h fs K = AN (dOK cx.N d) (stV cx apps dsts l id id d e h fs K (pickP (on cx e c) (on cx e a) (on cx e b))) :=
  run_gen cx apps dsts l id id d e h fs K ty pos aft (.pick c a b) (pickP (on cx e c) (on cx e a) (on cx e b)) (by first | rfl | (cases d <;> rfl)) rfl
theorem run_alloc (t : TypeId) : run cx apps dsts (⟨d, .alloc t, ty, pos, aft, none⟩ :: l) id e h fs K = AN (dOK cx.N d) (stV cx apps dsts l id (id + 1) d e h fs K (allocP (td cx.P t))) :=
  run_gen cx apps dsts l id (id + 1) d e h fs K ty pos aft (.alloc t) (allocP (td cx.P t)) (by first | rfl | (cases d <;> rfl)) rfl
theorem run_box (t : TypeId) (x : Operand) : run cx apps dsts (⟨d, .box t x, ty, pos, aft, none⟩ :: l) id e h fs K = AN (dOK cx.N d) (stV cx apps dsts l id (id + 1) d e h fs K (boxP (on cx e x))) :=
  run_gen cx apps dsts l id (id + 1) d e h fs K ty pos aft (.box t x) (boxP (on cx e x)) (by first | rfl | (cases d <;> rfl)) rfl
theorem run_build (t : TypeId) (ps : List (Nat × Operand)) : run cx apps dsts (⟨d, .build t ps.toArray, ty, pos, aft, none⟩ :: l) id e h fs K = AN (dOK cx.N d) (stV cx apps dsts l id id d e h fs K (buildP cx.P (td cx.P t) (onP cx e ps))) :=
  run_gen cx apps dsts l id id d e h fs K ty pos aft (.build t ps.toArray) (buildP cx.P (td cx.P t) (onP cx e ps)) (by rw [← onP_eq]; rfl) rfl
theorem run_buildS (t : TypeId) (m : Nat) (ps : List (Nat × Operand)) : run cx apps dsts (⟨d, .buildSlice t m ps.toArray, ty, pos, aft, none⟩ :: l) id e h fs K = AN (dOK cx.N d) (stV cx apps dsts l id id d e h fs K (buildSliceP cx.P (td cx.P t) m (onP cx e ps))) :=
  run_gen cx apps dsts l id id d e h fs K ty pos aft (.buildSlice t m ps.toArray) (buildSliceP cx.P (td cx.P t) m (onP cx e ps)) (by rw [← onP_eq]; rfl) rfl
theorem run_load (t : TypeId) (x : Operand) : run cx apps dsts (⟨d, .load t x, ty, pos, aft, none⟩ :: l) id e h fs K = AN (dOK cx.N d) (stV cx apps dsts l id id d e h fs K (loadPlan cx.P (isA apps d) t (on cx e x))) :=
  run_gen cx apps dsts l id id d e h fs K ty pos aft (.load t x) (loadPlan cx.P (isA apps d) t (on cx e x)) (by first | rfl | (cases d <;> rfl)) rfl
theorem run_store (t : TypeId) (x y : Operand) : run cx apps dsts (⟨d, .store t x y, ty, pos, aft, none⟩ :: l) id e h fs K = AN (dOK cx.N d) (stV cx apps dsts l id id d e h fs K (storePlan cx.P t (on cx e x) (orw cx e y) (tmp? y))) :=
  run_gen cx apps dsts l id id d e h fs K ty pos aft (.store t x y) (storePlan cx.P t (on cx e x) (orw cx e y) (tmp? y)) (by first | rfl | (cases d <;> rfl)) rfl
theorem run_nilc (x : Operand) : run cx apps dsts (⟨d, .nilCheck x, ty, pos, aft, none⟩ :: l) id e h fs K = AN (dOK cx.N d) (stV cx apps dsts l id id d e h fs K (nilP (on cx e x))) :=
  run_gen cx apps dsts l id id d e h fs K ty pos aft (.nilCheck x) (nilP (on cx e x)) (by first | rfl | (cases d <;> rfl)) rfl
theorem run_bin (o : BinOp) (t t2 : TypeId) (x y : Operand) : run cx apps dsts (⟨d, .binOp o t x y t2, ty, pos, aft, none⟩ :: l) id e h fs K = AN (dOK cx.N d) (stV cx apps dsts l id id d e h fs K (binPlan cx.P o t (on cx e x) (on cx e y))) :=
  run_gen cx apps dsts l id id d e h fs K ty pos aft (.binOp o t x y t2) (binPlan cx.P o t (on cx e x) (on cx e y)) (by first | rfl | (cases d <;> rfl)) rfl
theorem run_un (o : UnOp) (t : TypeId) (x : Operand) : run cx apps dsts (⟨d, .unOp o t x, ty, pos, aft, none⟩ :: l) id e h fs K = AN (dOK cx.N d) (stV cx apps dsts l id id d e h fs K (unPlan o (on cx e x))) :=
  run_gen cx apps dsts l id id d e h fs K ty pos aft (.unOp o t x) (unPlan o (on cx e x)) (by first | rfl | (cases d <;> rfl)) rfl
theorem run_conv (s t : TypeId) (x : Operand) : run cx apps dsts (⟨d, .convert s t x, ty, pos, aft, none⟩ :: l) id e h fs K = AN (dOK cx.N d) (stV cx apps dsts l id id d e h fs K (convPlan cx.P s t (on cx e x))) :=
  run_gen cx apps dsts l id id d e h fs K ty pos aft (.convert s t x) (convPlan cx.P s t (on cx e x)) (by first | rfl | (cases d <;> rfl)) rfl
theorem run_sta (t : TypeId) (x : Operand) : run cx apps dsts (⟨d, .sliceToArrayPointer t x, ty, pos, aft, none⟩ :: l) id e h fs K = AN (dOK cx.N d) (stV cx apps dsts l id id d e h fs K (staP cx.P (td cx.P t) (on cx e x))) :=
  run_gen cx apps dsts l id id d e h fs K ty pos aft (.sliceToArrayPointer t x) (staP cx.P (td cx.P t) (on cx e x)) (by first | rfl | (cases d <;> rfl)) rfl
theorem run_mkf (f : Nat) (cs : List Operand) : run cx apps dsts (⟨d, .makeFunc (.func f) #[] cs.toArray, ty, pos, aft, none⟩ :: l) id e h fs K = AN (dOK cx.N d) (stV cx apps dsts l id id d e h fs K (some (vp (.fn f (shares (onM cx e cs)))))) :=
  run_gen cx apps dsts l id id d e h fs K ty pos aft (.makeFunc (.func f) #[] cs.toArray) (some (vp (.fn f (shares (onM cx e cs))))) (by rw [← onM_eq, ← shares_eq, List.map_map]; rfl) rfl
theorem run_mks (t : TypeId) (x y : Operand) : run cx apps dsts (⟨d, .makeSlice t x y, ty, pos, aft, none⟩ :: l) id e h fs K = AN (dOK cx.N d) (stV cx apps dsts l id (id + 1) d e h fs K (mksP cx.P (td cx.P t) (on cx e x) (on cx e y))) :=
  run_gen cx apps dsts l id (id + 1) d e h fs K ty pos aft (.makeSlice t x y) (mksP cx.P (td cx.P t) (on cx e x) (on cx e y)) (by first | rfl | (cases d <;> rfl)) rfl
theorem run_slice (t : TypeId) (x : Operand) (lo hi mx : Option Operand) : run cx apps dsts (⟨d, .slice t x lo hi mx, ty, pos, aft, none⟩ :: l) id e h fs K = AN (dOK cx.N d) (stV cx apps dsts l id id d e h fs K (slicePlan cx.P t (on cx e x) (lo.map (on cx e)) (hi.map (on cx e)) (mx.map (on cx e)))) :=
  run_gen cx apps dsts l id id d e h fs K ty pos aft (.slice t x lo hi mx) (slicePlan cx.P t (on cx e x) (lo.map (on cx e)) (hi.map (on cx e)) (mx.map (on cx e))) (by first | rfl | (cases d <;> rfl)) rfl
theorem run_fa (t : TypeId) (x : Operand) (f : Nat) : run cx apps dsts (⟨d, .fieldAddr t x f, ty, pos, aft, none⟩ :: l) id e h fs K = AN (dOK cx.N d) (stV cx apps dsts l id id d e h fs K (fieldAddrPlan cx.P t (on cx e x) f)) :=
  run_gen cx apps dsts l id id d e h fs K ty pos aft (.fieldAddr t x f) (fieldAddrPlan cx.P t (on cx e x) f) (by first | rfl | (cases d <;> rfl)) rfl
theorem run_fld (t : TypeId) (x : Operand) (f : Nat) : run cx apps dsts (⟨d, .field t x f, ty, pos, aft, none⟩ :: l) id e h fs K = AN (dOK cx.N d) (stV cx apps dsts l id id d e h fs K (fieldPlan cx.P t (on cx e x) f)) :=
  run_gen cx apps dsts l id id d e h fs K ty pos aft (.field t x f) (fieldPlan cx.P t (on cx e x) f) (by first | rfl | (cases d <;> rfl)) rfl
theorem run_ixa (t : TypeId) (x i : Operand) : run cx apps dsts (⟨d, .indexAddr t x i, ty, pos, aft, none⟩ :: l) id e h fs K = AN (dOK cx.N d) (stV cx apps dsts l id id d e h fs K (indexAddrPlan cx.P t (on cx e x) (on cx e i))) :=
  run_gen cx apps dsts l id id d e h fs K ty pos aft (.indexAddr t x i) (indexAddrPlan cx.P t (on cx e x) (on cx e i)) (by first | rfl | (cases d <;> rfl)) rfl
theorem run_ix (t : TypeId) (x i : Operand) : run cx apps dsts (⟨d, .index t x i, ty, pos, aft, none⟩ :: l) id e h fs K = AN (dOK cx.N d) (stV cx apps dsts l id id d e h fs K (indexPlan cx.P t (on cx e x) (on cx e i))) :=
  run_gen cx apps dsts l id id d e h fs K ty pos aft (.index t x i) (indexPlan cx.P t (on cx e x) (on cx e i)) (by first | rfl | (cases d <;> rfl)) rfl
theorem run_extr (x : Operand) (i : Nat) : run cx apps dsts (⟨d, .extract x i, ty, pos, aft, none⟩ :: l) id e h fs K = AN (dOK cx.N d) (stV cx apps dsts l id id d e h fs K (extractP (on cx e x) i)) :=
  run_gen cx apps dsts l id id d e h fs K ty pos aft (.extract x i) (extractP (on cx e x) i) (by first | rfl | (cases d <;> rfl)) rfl
theorem run_len (t : TypeId) (x : Operand) : run cx apps dsts (⟨d, .call ⟨.builtin .len, #[x], #[t]⟩, ty, pos, aft, none⟩ :: l) id e h fs K = AN (dOK cx.N d) (stV cx apps dsts l id id d e h fs K (lenPlan cx.P t (on cx e x))) :=
  run_gen cx apps dsts l id id d e h fs K ty pos aft (.call ⟨.builtin .len, #[x], #[t]⟩) (lenPlan cx.P t (on cx e x)) (by first | rfl | (cases d <;> rfl)) rfl
theorem run_app (t t2 : TypeId) (x y : Operand) : run cx apps dsts (⟨d, .call ⟨.builtin .append, #[x, y], #[t, t2]⟩, ty, pos, aft, none⟩ :: l) id e h fs K = AN (dOK cx.N d) (stV cx apps dsts l id id d e h fs K (appendPlan cx.P t t2 (orw cx e x) (on cx e y) (tmp? x))) :=
  run_gen cx apps dsts l id id d e h fs K ty pos aft (.call ⟨.builtin .append, #[x, y], #[t, t2]⟩) (appendPlan cx.P t t2 (orw cx e x) (on cx e y) (tmp? x)) (by first | rfl | (cases d <;> rfl)) rfl
theorem run_copy (t t2 : TypeId) (x y : Operand) : run cx apps dsts (⟨d, .call ⟨.builtin .copy, #[x, y], #[t, t2]⟩, ty, pos, aft, none⟩ :: l) id e h fs K = AN (dOK cx.N d) (stV cx apps dsts l id id d e h fs K (copyPlan cx.P t (on cx e x) (on cx e y))) :=
  run_gen cx apps dsts l id id d e h fs K ty pos aft (.call ⟨.builtin .copy, #[x, y], #[t, t2]⟩) (copyPlan cx.P t (on cx e x) (on cx e y)) (by first | rfl | (cases d <;> rfl)) rfl
theorem run_min (ts : Array TypeId) (x y : Operand) : run cx apps dsts (⟨d, .call ⟨.builtin .min, #[x, y], ts⟩, ty, pos, aft, none⟩ :: l) id e h fs K = AN (dOK cx.N d) (stV cx apps dsts l id id d e h fs K (minMax false (on cx e x) (on cx e y))) :=
  run_gen cx apps dsts l id id d e h fs K ty pos aft (.call ⟨.builtin .min, #[x, y], ts⟩) (minMax false (on cx e x) (on cx e y)) (by first | rfl | (cases d <;> rfl)) rfl
theorem run_max (ts : Array TypeId) (x y : Operand) : run cx apps dsts (⟨d, .call ⟨.builtin .max, #[x, y], ts⟩, ty, pos, aft, none⟩ :: l) id e h fs K = AN (dOK cx.N d) (stV cx apps dsts l id id d e h fs K (minMax true (on cx e x) (on cx e y))) :=
  run_gen cx apps dsts l id id d e h fs K ty pos aft (.call ⟨.builtin .max, #[x, y], ts⟩) (minMax true (on cx e x) (on cx e y)) (by first | rfl | (cases d <;> rfl)) rfl
theorem run_call (ts : Array TypeId) (f : Operand) (xs : List Operand) : run cx apps dsts (⟨d, .call ⟨.value f, xs.toArray, ts⟩, ty, pos, aft, none⟩ :: l) id e h fs K = AN (dOK cx.N d) (stV cx apps dsts l id id d e h fs K (callP cx (on cx e f) (onM cx e xs))) :=
  run_gen cx apps dsts l id id d e h fs K ty pos aft (.call ⟨.value f, xs.toArray, ts⟩) (callP cx (on cx e f) (onM cx e xs)) (by rw [splanA.eq_def]; simp only []; rw [splan.eq_def]; simp only []; rw [onM_eq]; show callPlan cx (on cx e f) _ = _; unfold callPlan callP; cases on cx e f <;> first | rfl | (simp only [shares_eq]; rfl)) rfl
end
end Go.Sx

namespace Go.Sx
open Go.RowKit

def w32 (x : BitVec 32) : Value := .int .u32 x.toNat
def w8 (x : UInt8) : Value := .int .u8 x.toNat
def nI (n : Nat) : Value := .int .i64 n
def nU (n : Nat) : Value := .int .u64 n
def str (l : List UInt8) : Value := .string ⟨l.toArray⟩

theorem str_mk (l : List UInt8) : Value.string ⟨l.toArray⟩ = str l := rfl
theorem str_inj {l l' : List UInt8} : str l = str l' ↔ l = l' := by
  constructor
  · intro h
    simp only [str, Value.string.injEq, ByteArray.mk.injEq] at h
    simpa using congrArg Array.toList h
  · rintro rfl; rfl
theorem w8_inj {a b : UInt8} : w8 a = w8 b ↔ a = b := by
  simp only [w8, Value.int.injEq, true_and]
  constructor
  · intro h; exact UInt8.toNat_inj.1 (by omega)
  · rintro rfl; rfl
theorem w32_inj {a b : BitVec 32} : w32 a = w32 b ↔ a = b := by
  simp only [w32, Value.int.injEq, true_and]
  constructor
  · intro h; exact BitVec.eq_of_toNat_eq (by omega)
  · rintro rfl; rfl
theorem nI_inj {a b : Nat} : nI a = nI b ↔ a = b := by simp only [nI, Value.int.injEq, true_and]; omega
theorem nU_inj {a b : Nat} : nU a = nU b ↔ a = b := by simp only [nU, Value.int.injEq, true_and]; omega

/-- Cells of a list. -/
def cl {α : Type} (f : α → List C) (l : List α) : List C := l.flatMap f
/-- A slice of a list. -/
def sl {α : Type} (f : α → List C) (r : Rt) (l : List α) : C := .sl r l.length (cl f l)

class Cel {α : Type} (f : α → List C) (s : outParam Nat) : Prop where
  len : ∀ a, (f a).length = s
  clean : ∀ a, (f a).map C.noR = f a
  pos : 0 < s
class Sca {α : Type} (f : α → List C) (g : outParam (α → C)) : Prop where
  one : ∀ a, f a = [g a]
  clean : ∀ a, (g a).noR = g a
  cells : ∀ a, (g a).cells? = some [g a]

def bC (b : UInt8) : List C := [.val (w8 b)]
def wC (b : BitVec 32) : List C := [.val (w32 b)]
def sC (b : List UInt8) : List C := [.val (str b)]
def iC (b : Int) : List C := [.val (.int .i64 b)]
def nC (b : Nat) : List C := [.val (nI b)]
def oC (b : Bool) : List C := [.val (.bool b)]
instance : Sca bC (fun b => .val (w8 b)) := ⟨fun _ => rfl, fun _ => rfl, fun _ => rfl⟩
instance : Sca wC (fun b => .val (w32 b)) := ⟨fun _ => rfl, fun _ => rfl, fun _ => rfl⟩
instance : Sca sC (fun b => .val (str b)) := ⟨fun _ => rfl, fun _ => rfl, fun _ => rfl⟩
instance : Sca iC (fun b => .val (.int .i64 b)) := ⟨fun _ => rfl, fun _ => rfl, fun _ => rfl⟩
instance : Sca nC (fun b => .val (nI b)) := ⟨fun _ => rfl, fun _ => rfl, fun _ => rfl⟩
instance : Sca oC (fun b => .val (.bool b)) := ⟨fun _ => rfl, fun _ => rfl, fun _ => rfl⟩
instance {α : Type} {f : α → List C} {g : α → C} [h : Sca f g] : Cel f 1 := ⟨fun a => by rw [h.one]; rfl, fun a => by rw [h.one]; simp [h.clean], by decide⟩
theorem bC_def (b : UInt8) : bC b = [.val (w8 b)] := rfl
theorem cl_bytes (l : List UInt8) : l.map byteC = cl bC l := by
  unfold cl; induction l with
  | nil => rfl
  | cons a l ih => simp only [List.map_cons, ih, List.flatMap_cons]; rfl

section
variable {α : Type} {f : α → List C} {s : Nat} [hf : Cel f s]
omit hf in
theorem cl_nil : cl f [] = [] := rfl
omit hf in
theorem cl_cons (a : α) (l : List α) : cl f (a :: l) = f a ++ cl f l := rfl
omit hf in
theorem cl_app (l l' : List α) : cl f (l ++ l') = cl f l ++ cl f l' := by simp [cl]
theorem cl_len : ∀ l : List α, (cl f l).length = l.length * s
  | [] => by simp [cl]
  | a :: l => by rw [cl_cons, List.length_append, hf.len, cl_len l, List.length_cons, Nat.add_mul, Nat.one_mul, Nat.add_comm]
include hf in
theorem cl_noR : ∀ l : List α, (cl f l).map C.noR = cl f l
  | [] => rfl
  | a :: l => by rw [cl_cons, List.map_append, hf.clean, cl_noR l]
theorem cl_drop : ∀ (l : List α) (k : Nat), (cl f l).drop (k * s) = cl f (l.drop k)
  | l, 0 => by simp
  | [], k + 1 => by simp [cl]
  | a :: l, k + 1 => by
    have e : (k + 1) * s = s + k * s := by rw [Nat.add_mul, Nat.one_mul, Nat.add_comm]
    have h : ((f a) ++ cl f l).drop s = cl f l := by
      have := List.drop_left (l₁ := f a) (l₂ := cl f l)
      rwa [hf.len] at this
    rw [cl_cons, e, ← List.drop_drop, h, List.drop_succ_cons]
    exact cl_drop l k
theorem cl_take : ∀ (l : List α) (k : Nat), (cl f l).take (k * s) = cl f (l.take k)
  | l, 0 => by simp [cl]
  | [], k + 1 => by simp [cl]
  | a :: l, k + 1 => by
    have e : (k + 1) * s = s + k * s := by rw [Nat.add_mul, Nat.one_mul, Nat.add_comm]
    rw [cl_cons, e, List.take_append, hf.len, List.take_of_length_le (by rw [hf.len]; omega), List.take_succ_cons, cl_cons, Nat.add_sub_cancel_left, cl_take l k]
theorem cl_set (l : List α) (k : Nat) (a : α) (h : k < l.length) : splice (cl f l) (k * s) (f a) = cl f (l.set k a) := by
  unfold splice
  rw [cl_take, hf.len, ← Nat.succ_mul, cl_drop, List.set_eq_take_append_cons_drop, if_pos h, cl_app, cl_cons, List.append_assoc]
theorem cl_splice (l l' : List α) (k : Nat) : splice (cl f l) (k * s) (cl f l') = cl f (l.take k ++ l' ++ l.drop (k + l'.length)) := by
  unfold splice
  rw [cl_take, cl_len, ← Nat.add_mul, cl_drop, cl_app, cl_app]
theorem cl_at (l : List α) (k : Nat) (a : α) (h : l[k]? = some a) : ((cl f l).drop (k * s)).take s = f a := by
  rw [cl_drop]
  obtain ⟨hk, rfl⟩ := List.getElem?_eq_some_iff.1 h
  rw [List.drop_eq_getElem_cons hk, cl_cons, List.take_append, hf.len, Nat.sub_self, List.take_zero, List.append_nil, List.take_of_length_le (by rw [hf.len]; exact Nat.le_refl _)]
end

section
variable {α : Type} [Inhabited α] {f : α → List C} {g : α → C} [hf : Sca f g]
theorem cl_get (l : List α) (k : Nat) (h : k < l.length) : (cl f l)[k]? = some (g (l.getD k default)) := by
  have hq : l[k]? = some (l.getD k default) := by simp [List.getD, List.getElem?_eq_getElem h]
  have := cl_at (f := f) l k _ hq
  rw [Nat.mul_one, hf.one] at this
  have h2 := congrArg (fun z => z[0]?) this
  simpa [List.getElem?_take, List.getElem?_drop] using h2
end

/-! Boxes. -/
theorem at_cons0 (x : Option (List C)) (h : Hp) : Hp.at (x :: h) 0 = x := rfl
theorem at_consS (x : Option (List C)) (h : Hp) (n : Nat) : Hp.at (x :: h) (n + 1) = Hp.at h n := by simp [Hp.at]

/-- One cell read. -/
def rdc (cells : List C) (o : Nat) : Option C := (cells[o]?).map C.noR
/-- Cells read. -/
def rda (cells : List C) (o n : Nat) : Option C := if o + n ≤ cells.length then some (.agg (((cells.drop o).take n).map C.noR)) else none
/-- Cells written. -/
def wrc (cells : List C) (o : Nat) (cs : List C) : Option (List C × C) := if o + cs.length ≤ cells.length then some (splice cells o cs, .val undef) else none
/-- A slice written. -/
def wrs (cells : List C) (o : Nat) (c : C) : Option (List C × C) := if o < cells.length then some (cells.set o c, .val undef) else none

theorem rdc_cons0 (c : C) (l : List C) : rdc (c :: l) 0 = some c.noR := rfl
theorem rdc_consS (c : C) (l : List C) (n : Nat) : rdc (c :: l) (n + 1) = rdc l n := by simp [rdc]
theorem rdc_drop (l : List C) (k n : Nat) : rdc (l.drop k) n = rdc l (k + n) := by simp [rdc, List.getElem?_drop]
theorem rdc_cl {α : Type} [Inhabited α] {f : α → List C} {g : α → C} [hf : Sca f g] (l : List α) (k : Nat) (h : k < l.length) : rdc (cl f l) k = some (g (l.getD k default)) := by
  simp only [rdc, cl_get (f := f) l k h, Option.map_some, hf.clean]
theorem rdc_clL {α : Type} [Inhabited α] {f : α → List C} {g : α → C} [hf : Sca f g] (l : List α) (r : List C) (k : Nat) (h : k < l.length) : rdc (cl f l ++ r) k = some (g (l.getD k default)) := by
  rw [← rdc_cl (f := f) l k h]
  simp only [rdc]
  rw [List.getElem?_append_left (by rw [cl_len (f := f)]; omega)]
theorem rdc_clR {α : Type} {f : α → List C} {s : Nat} [hf : Cel f s] (l : List α) (r : List C) (k : Nat) (h : l.length * s ≤ k) : rdc (cl f l ++ r) k = rdc r (k - l.length * s) := by
  simp only [rdc]
  rw [List.getElem?_append_right (by rw [cl_len (f := f)]; exact h), cl_len (f := f)]
theorem rda_cl {α : Type} {f : α → List C} {s : Nat} [hf : Cel f s] (l : List α) (n : Nat) (h : l.length * s = n) : rda (cl f l) 0 n = some (.agg (cl f l)) := by
  subst h
  simp only [rda, Nat.zero_add, cl_len (f := f), Nat.le_refl, if_true, List.drop_zero]
  rw [List.take_of_length_le (by rw [cl_len (f := f)]; exact Nat.le_refl _), cl_noR]
theorem rda_clL {α : Type} {f : α → List C} {s : Nat} [hf : Cel f s] (l : List α) (r : List C) (n : Nat) (h : l.length * s = n) : rda (cl f l ++ r) 0 n = some (.agg (cl f l)) := by
  subst h
  simp only [rda, Nat.zero_add, List.length_append, cl_len (f := f), Nat.le_add_right, if_true, List.drop_zero]
  rw [← cl_len (f := f) l, List.take_left, cl_noR]
theorem rda_clR {α : Type} {f : α → List C} {s : Nat} [hf : Cel f s] (l : List α) (r : List C) (o n : Nat) (h : l.length * s ≤ o) : rda (cl f l ++ r) o n = rda r (o - l.length * s) n := by
  simp only [rda, List.length_append, cl_len (f := f)]
  rw [List.drop_append, List.drop_of_length_le (by rw [cl_len (f := f)]; exact h), cl_len (f := f), List.nil_append]
  by_cases hh : o + n ≤ l.length * s + r.length
  · rw [if_pos hh, if_pos (by omega)]
  · rw [if_neg hh, if_neg (by omega)]
theorem rda_clE {α : Type} [Inhabited α] {f : α → List C} {s : Nat} [hf : Cel f s] (l : List α) (k : Nat) (h : k < l.length) : rda (cl f l) (k * s) s = some (.agg (f (l.getD k default))) := by
  have hq : l[k]? = some (l.getD k default) := by simp [List.getD, List.getElem?_eq_getElem h]
  simp only [rda]
  rw [if_pos (by rw [cl_len (f := f), ← Nat.succ_mul]; exact Nat.mul_le_mul_right _ h), cl_at (f := f) l k _ hq, hf.clean]

theorem wrc_cl {α : Type} {f : α → List C} {g : α → C} [hf : Sca f g] (l : List α) (k : Nat) (a : α) (h : k < l.length) : wrc (cl f l) k [g a] = some (cl f (l.set k a), .val undef) := by
  have := cl_set (f := f) l k a h
  rw [Nat.mul_one, hf.one] at this
  simp only [wrc]
  rw [if_pos (by rw [cl_len (f := f)]; simp; omega), this]
theorem splice_appL (x r cs : List C) (o : Nat) (h : o + cs.length ≤ x.length) : splice (x ++ r) o cs = splice x o cs ++ r := by
  unfold splice
  rw [List.take_append_of_le_length (by omega), List.drop_append_of_le_length h]
  simp
theorem splice_appR (x r cs : List C) (o : Nat) (h : x.length ≤ o) : splice (x ++ r) o cs = x ++ splice r (o - x.length) cs := by
  unfold splice
  rw [List.take_append, List.take_of_length_le h, List.drop_append, List.drop_of_length_le (by omega)]
  simp
  congr 1; omega
theorem wrc_clL {α : Type} {f : α → List C} {g : α → C} [hf : Sca f g] (l : List α) (r : List C) (k : Nat) (a : α) (h : k < l.length) : wrc (cl f l ++ r) k [g a] = some (cl f (l.set k a) ++ r, .val undef) := by
  have := cl_set (f := f) l k a h
  rw [Nat.mul_one, hf.one] at this
  simp only [wrc]
  have hl := cl_len (f := f) l
  rw [if_pos (by rw [List.length_append, hl]; simp; omega), splice_appL _ _ _ _ (by rw [hl]; simp; omega), this]
theorem wrc_clR {α : Type} {f : α → List C} {s : Nat} [hf : Cel f s] (l : List α) (r cs : List C) (o : Nat) (h : l.length * s ≤ o) : wrc (cl f l ++ r) o cs = (wrc r (o - l.length * s) cs).map fun q => (cl f l ++ q.1, q.2) := by
  have hl := cl_len (f := f) l
  simp only [wrc, List.length_append, hl]
  rw [splice_appR _ _ _ _ (by rw [hl]; exact h), hl]
  by_cases hh : o + cs.length ≤ l.length * s + r.length
  · rw [if_pos hh, if_pos (by omega)]; rfl
  · rw [if_neg hh, if_neg (by omega)]; rfl
theorem wrc_clA {α : Type} {f : α → List C} {s : Nat} [hf : Cel f s] (l l' : List α) (h : l'.length = l.length) : wrc (cl f l) 0 (cl f l') = some (cl f l', .val undef) := by
  simp only [wrc, cl_len (f := f), h, Nat.zero_add, Nat.le_refl, if_true, splice, List.take_zero, List.nil_append]
  rw [List.drop_of_length_le (by rw [cl_len (f := f)]; exact Nat.le_refl _), List.append_nil]
theorem wrc_clAL {α : Type} {f : α → List C} {s : Nat} [hf : Cel f s] (l l' : List α) (r : List C) (h : l'.length = l.length) : wrc (cl f l ++ r) 0 (cl f l') = some (cl f l' ++ r, .val undef) := by
  have hl := cl_len (f := f) l
  have hl' := cl_len (f := f) l'
  have := wrc_clA (f := f) l l' h
  simp only [wrc, List.length_append, hl, hl', h, Nat.zero_add, Nat.le_refl, Nat.le_add_right, if_true] at this ⊢
  rw [splice_appL _ _ _ _ (by rw [hl, hl', h, Nat.zero_add]; exact Nat.le_refl _)]
  simp only [Option.some.injEq, Prod.mk.injEq, and_true] at this
  rw [this]
theorem wrc_cl1 {α : Type} {f : α → List C} {s : Nat} [hf : Cel f s] (l : List α) (k : Nat) (a : α) (h : k < l.length) : wrc (cl f l) (k * s) (f a) = some (cl f (l.set k a), .val undef) := by
  simp only [wrc]
  rw [if_pos (by rw [cl_len (f := f), hf.len, ← Nat.succ_mul]; exact Nat.mul_le_mul_right _ h), cl_set (f := f) l k a h]
theorem wrc_one (a c : C) : wrc [a] 0 [c] = some ([c], .val undef) := rfl
theorem wrs_one (a c : C) : wrs [a] 0 c = some ([c], .val undef) := rfl
end Go.Sx

namespace Go.Sx
open Go.RowKit

theorem wrap_u8 (n : Int) : IntKind.wrap .u8 n = n % 256 := by simp [IntKind.wrap, IntKind.bits, IntKind.signed]
theorem wrap_u32 (n : Int) : IntKind.wrap .u32 n = n % 4294967296 := by simp [IntKind.wrap, IntKind.bits, IntKind.signed]
theorem wrap_u64 (n : Int) : IntKind.wrap .u64 n = n % 18446744073709551616 := by simp [IntKind.wrap, IntKind.bits, IntKind.signed]
theorem wrap_i64 (n : Int) (h : -9223372036854775808 ≤ n) (h2 : n < 9223372036854775808) : IntKind.wrap .i64 n = n := by
  have e : IntKind.wrap .i64 n = if n % 18446744073709551616 ≥ 9223372036854775808 then n % 18446744073709551616 - 18446744073709551616 else n % 18446744073709551616 := by
    simp [IntKind.wrap, IntKind.bits, IntKind.signed]
  rw [e]
  split <;> omega
theorem wrap_w32 (z : BitVec 32) : IntKind.wrap .u32 (z.toNat : Int) = z.toNat := by rw [wrap_u32]; have := z.isLt; omega
theorem ofInt_w32 (z : BitVec 32) : BitVec.ofInt 32 (z.toNat : Int) = z := by simp

theorem lit_w32 (n : Nat) (h : n < 4294967296) : Value.int .u32 (n : Int) = w32 (BitVec.ofNat 32 n) := by
  simp only [w32, BitVec.toNat_ofNat]; rw [Nat.mod_eq_of_lt (by simpa using h)]
theorem lit_w32o (n : Nat) (h : n < 4294967296) : Value.int .u32 (no_index (OfNat.ofNat n : Int)) = w32 (BitVec.ofNat 32 n) := lit_w32 n h
theorem lit_w8o (n : Nat) (h : n < 256) : Value.int .u8 (no_index (OfNat.ofNat n : Int)) = w8 (UInt8.ofNat n) := by
  simp only [w8, UInt8.toNat_ofNat']; rw [Nat.mod_eq_of_lt (by simpa using h)]; rfl
theorem lit_nIo (n : Nat) : Value.int .i64 (no_index (OfNat.ofNat n : Int)) = nI n := rfl
theorem lit_nUo (n : Nat) : Value.int .u64 (no_index (OfNat.ofNat n : Int)) = nU n := rfl

section
variable (P : Program) (t : TypeId)
theorem bin_int (op : BinOp) (k k' : IntKind) (a b : Int) : binPlan P op t (.val (.int k a)) (.val (.int k' b)) = (sbin op (.int k a) (.int k' b)).map fun v => vp (.val v) := by
  unfold binPlan; cases td P t <;> rfl
theorem bin_str (op : BinOp) (a b : ByteArray) : binPlan P op t (.val (.string a)) (.val (.string b)) = (sbin op (.string a) (.string b)).map fun v => vp (.val v) := by
  unfold binPlan; cases td P t <;> rfl
def binB (op : BinOp) (d : Option TD) (a b : Bool) (p : Option Plan) : Option Plan := match d with
  | some d => (match d.u with
    | .bool => (match op with
      | .eql => some (vp (.val (.bool (a == b))))
      | .neq => some (vp (.val (.bool (!(a == b)))))
      | _ => none)
    | _ => none)
  | none => p
theorem bin_bool (op : BinOp) (a b : Bool) : binPlan P op t (.val (.bool a)) (.val (.bool b)) = binB op (td P t) a b (eqPlan P op t (.val (.bool a)) (.val (.bool b))) := by
  unfold binPlan binB
  cases td P t with
  | none => rfl
  | some d =>
    simp only []
    cases d.u <;> first | rfl | (cases op <;> rfl)
theorem binB_eql (s y : Nat) (z : List Value) (a b : Bool) (p : Option Plan) : binB .eql (some ⟨.bool, s, y, z⟩) a b p = some (vp (.val (.bool (a == b)))) := rfl
theorem binB_neq (s y : Nat) (z : List Value) (a b : Bool) (p : Option Plan) : binB .neq (some ⟨.bool, s, y, z⟩) a b p = some (vp (.val (.bool (!(a == b))))) := rfl

/- words -/
theorem w_add (x y : BitVec 32) : binPlan P .add t (.val (w32 x)) (.val (w32 y)) = some (vp (.val (w32 (x + y)))) := by
  simp only [w32, bin_int, sbin, ne_eq, not_true_eq_false, if_false, Option.map_some, wrap_u32, BitVec.toNat_add]; simp
theorem w_sub (x y : BitVec 32) : binPlan P .sub t (.val (w32 x)) (.val (w32 y)) = some (vp (.val (w32 (x - y)))) := by
  simp only [w32, bin_int, sbin, ne_eq, not_true_eq_false, if_false, Option.map_some, wrap_u32, BitVec.toNat_sub]
  have := x.isLt; have := y.isLt
  congr 4; omega
theorem w_xor (x y : BitVec 32) : binPlan P .xor t (.val (w32 x)) (.val (w32 y)) = some (vp (.val (w32 (x ^^^ y)))) := by
  simp only [w32, bin_int]
  show some (vp (.val (.int .u32 (IntKind.wrap .u32 ((BitVec.ofInt 32 (x.toNat : Int) ^^^ BitVec.ofInt 32 (y.toNat : Int)).toNat : Int))))) = _
  rw [ofInt_w32, ofInt_w32, wrap_w32]
theorem w_and (x y : BitVec 32) : binPlan P .and t (.val (w32 x)) (.val (w32 y)) = some (vp (.val (w32 (x &&& y)))) := by
  simp only [w32, bin_int]
  show some (vp (.val (.int .u32 (IntKind.wrap .u32 ((BitVec.ofInt 32 (x.toNat : Int) &&& BitVec.ofInt 32 (y.toNat : Int)).toNat : Int))))) = _
  rw [ofInt_w32, ofInt_w32, wrap_w32]
theorem w_or (x y : BitVec 32) : binPlan P .or t (.val (w32 x)) (.val (w32 y)) = some (vp (.val (w32 (x ||| y)))) := by
  simp only [w32, bin_int]
  show some (vp (.val (.int .u32 (IntKind.wrap .u32 ((BitVec.ofInt 32 (x.toNat : Int) ||| BitVec.ofInt 32 (y.toNat : Int)).toNat : Int))))) = _
  rw [ofInt_w32, ofInt_w32, wrap_w32]
theorem w_not (x : BitVec 32) : unPlan .xor (.val (w32 x)) = some (vp (.val (w32 (~~~x)))) := by
  show some (vp (.val (.int .u32 (IntKind.wrap .u32 ((BitVec.ofInt 32 4294967295 ^^^ BitVec.ofInt 32 (x.toNat : Int)).toNat : Int))))) = _
  have e : BitVec.ofInt 32 4294967295 = BitVec.allOnes 32 := by decide
  rw [ofInt_w32, e, BitVec.allOnes_xor, wrap_w32]
  rfl
theorem w_shl (x : BitVec 32) (k : IntKind) (n : Nat) : binPlan P .shl t (.val (w32 x)) (.val (.int k n)) = some (vp (.val (w32 (x <<< n)))) := by
  rw [w32, bin_int]
  have e : sbin .shl (.int .u32 (x.toNat : Int)) (.int k (n : Int)) = some (.int .u32 (IntKind.wrap .u32 ((x.toNat : Int) * 2 ^ (min n 32)))) := by
    show (if (n : Int) < 0 then none else _) = _
    rw [if_neg (by omega)]
    rfl
  rw [e, wrap_u32, w32, BitVec.toNat_shiftLeft, Nat.shiftLeft_eq]
  show some (vp (.val _)) = _
  congr 4
  have ep : ∀ m : Nat, (x.toNat : Int) * 2 ^ m = ((x.toNat * 2 ^ m : Nat) : Int) := fun m => by rw [Int.natCast_mul, Int.natCast_pow]; rfl
  by_cases h : n ≤ 32
  · rw [Nat.min_eq_left h, ep]; exact (Int.natCast_emod _ 4294967296).symm
  · rw [Nat.min_eq_right (by omega)]
    obtain ⟨m, rfl⟩ : ∃ m, n = 32 + m := ⟨n - 32, by omega⟩
    rw [Nat.pow_add, ← Nat.mul_assoc, Nat.mul_right_comm, Nat.mul_mod_left]
    omega
theorem w_shr (x : BitVec 32) (k : IntKind) (n : Nat) : binPlan P .shr t (.val (w32 x)) (.val (.int k n)) = some (vp (.val (w32 (x >>> n)))) := by
  rw [w32, bin_int]
  have e : sbin .shr (.int .u32 (x.toNat : Int)) (.int k (n : Int)) = some (.int .u32 ((x.toNat : Int).fdiv (2 ^ (min n 32)))) := by
    show (if (n : Int) < 0 then none else _) = _
    rw [if_neg (by omega)]
    rfl
  rw [e, w32, BitVec.toNat_ushiftRight, Nat.shiftRight_eq_div_pow]
  show some (vp (.val _)) = _
  congr 4
  have hx := x.isLt
  by_cases h : n ≤ 32
  · rw [Nat.min_eq_left h, Int.fdiv_eq_ediv_of_nonneg _ (Int.le_of_lt (Int.pow_pos (by decide)))]
    have ep : (2 : Int) ^ n = ((2 ^ n : Nat) : Int) := by rw [Int.natCast_pow]; rfl
    rw [ep, ← Int.natCast_ediv]
  · rw [Nat.min_eq_right (by omega), Nat.div_eq_of_lt (Nat.lt_of_lt_of_le hx (Nat.pow_le_pow_right (by omega) (by omega)))]
    rw [Int.fdiv_eq_ediv_of_nonneg _ (by omega)]; omega
end
end Go.Sx

namespace Go.Sx
open Go.RowKit

theorem wrap_w8 (z : UInt8) : IntKind.wrap .u8 (z.toNat : Int) = z.toNat := by rw [wrap_u8]; have := z.toNat_lt; omega
theorem ofInt_w8 (z : UInt8) : BitVec.ofInt 8 (z.toNat : Int) = z.toBitVec := by
  apply BitVec.eq_of_toNat_eq; simp

section
variable (P : Program) (t : TypeId)
theorem b_xor (x y : UInt8) : binPlan P .xor t (.val (w8 x)) (.val (w8 y)) = some (vp (.val (w8 (x ^^^ y)))) := by
  simp only [w8, bin_int]
  show some (vp (.val (.int .u8 (IntKind.wrap .u8 ((BitVec.ofInt 8 (x.toNat : Int) ^^^ BitVec.ofInt 8 (y.toNat : Int)).toNat : Int))))) = _
  rw [ofInt_w8, ofInt_w8]
  show some (vp (.val (.int .u8 (IntKind.wrap .u8 ((x ^^^ y).toNat : Int))))) = _
  rw [wrap_w8]
theorem b_or (x y : UInt8) : binPlan P .or t (.val (w8 x)) (.val (w8 y)) = some (vp (.val (w8 (x ||| y)))) := by
  simp only [w8, bin_int]
  show some (vp (.val (.int .u8 (IntKind.wrap .u8 ((BitVec.ofInt 8 (x.toNat : Int) ||| BitVec.ofInt 8 (y.toNat : Int)).toNat : Int))))) = _
  rw [ofInt_w8, ofInt_w8]
  show some (vp (.val (.int .u8 (IntKind.wrap .u8 ((x ||| y).toNat : Int))))) = _
  rw [wrap_w8]
theorem b_and (x y : UInt8) : binPlan P .and t (.val (w8 x)) (.val (w8 y)) = some (vp (.val (w8 (x &&& y)))) := by
  simp only [w8, bin_int]
  show some (vp (.val (.int .u8 (IntKind.wrap .u8 ((BitVec.ofInt 8 (x.toNat : Int) &&& BitVec.ofInt 8 (y.toNat : Int)).toNat : Int))))) = _
  rw [ofInt_w8, ofInt_w8]
  show some (vp (.val (.int .u8 (IntKind.wrap .u8 ((x &&& y).toNat : Int))))) = _
  rw [wrap_w8]
theorem b_add (x y : UInt8) : binPlan P .add t (.val (w8 x)) (.val (w8 y)) = some (vp (.val (w8 (x + y)))) := by
  simp only [w8, bin_int, sbin, ne_eq, not_true_eq_false, if_false, Option.map_some, wrap_u8, UInt8.toNat_add]; simp
theorem b_sub (x y : UInt8) : binPlan P .sub t (.val (w8 x)) (.val (w8 y)) = some (vp (.val (w8 (x - y)))) := by
  simp only [w8, bin_int, sbin, ne_eq, not_true_eq_false, if_false, Option.map_some, wrap_u8, UInt8.toNat_sub]
  have := x.toNat_lt; have := y.toNat_lt
  congr 4; omega
theorem b_quo (x y : UInt8) (h : y ≠ 0) : binPlan P .quo t (.val (w8 x)) (.val (w8 y)) = some (vp (.val (w8 (x / y)))) := by
  have hy : (y.toNat : Int) ≠ 0 := fun e => h (UInt8.toNat_inj.1 (by simpa using e))
  simp only [w8, bin_int, sbin, ne_eq, not_true_eq_false, if_false, Option.map_some, wrap_u8, hy, UInt8.toNat_div]
  have := x.toNat_lt
  have h2 : x.toNat / y.toNat ≤ x.toNat := Nat.div_le_self ..
  have e : (x.toNat : Int).tdiv (y.toNat : Int) = ((x.toNat / y.toNat : Nat) : Int) := rfl
  rw [e]
  generalize x.toNat / y.toNat = q at h2
  congr 4; omega
theorem b_rem (x y : UInt8) (h : y ≠ 0) : binPlan P .rem t (.val (w8 x)) (.val (w8 y)) = some (vp (.val (w8 (x % y)))) := by
  have hy : (y.toNat : Int) ≠ 0 := fun e => h (UInt8.toNat_inj.1 (by simpa using e))
  simp only [w8, bin_int, sbin, ne_eq, not_true_eq_false, if_false, Option.map_some, hy, UInt8.toNat_mod]
  congr 4
theorem b_eql (x y : UInt8) : binPlan P .eql t (.val (w8 x)) (.val (w8 y)) = some (vp (.val (.bool (decide (x = y))))) := by
  simp only [w8, bin_int, sbin, ne_eq, not_true_eq_false, if_false, Option.map_some]
  congr 4; rw [Bool.eq_iff_iff]; simp [← UInt8.toNat_inj]; omega
theorem b_neq (x y : UInt8) : binPlan P .neq t (.val (w8 x)) (.val (w8 y)) = some (vp (.val (.bool (decide (x ≠ y))))) := by
  simp only [w8, bin_int, sbin, ne_eq, not_true_eq_false, if_false, Option.map_some]
  congr 4; rw [Bool.eq_iff_iff]; simp [← UInt8.toNat_inj]; omega
theorem b_lss (x y : UInt8) : binPlan P .lss t (.val (w8 x)) (.val (w8 y)) = some (vp (.val (.bool (decide (x < y))))) := by
  simp only [w8, bin_int, sbin, ne_eq, not_true_eq_false, if_false, Option.map_some]
  congr 4; rw [Bool.eq_iff_iff]; simp [UInt8.lt_iff_toNat_lt]
theorem b_leq (x y : UInt8) : binPlan P .leq t (.val (w8 x)) (.val (w8 y)) = some (vp (.val (.bool (decide (x ≤ y))))) := by
  simp only [w8, bin_int, sbin, ne_eq, not_true_eq_false, if_false, Option.map_some]
  congr 4; rw [Bool.eq_iff_iff]; simp [UInt8.le_iff_toNat_le]
theorem b_gtr (x y : UInt8) : binPlan P .gtr t (.val (w8 x)) (.val (w8 y)) = some (vp (.val (.bool (decide (y < x))))) := by
  simp only [w8, bin_int, sbin, ne_eq, not_true_eq_false, if_false, Option.map_some]
  congr 4; rw [Bool.eq_iff_iff]; simp [UInt8.lt_iff_toNat_lt]
theorem b_geq (x y : UInt8) : binPlan P .geq t (.val (w8 x)) (.val (w8 y)) = some (vp (.val (.bool (decide (y ≤ x))))) := by
  simp only [w8, bin_int, sbin, ne_eq, not_true_eq_false, if_false, Option.map_some]
  congr 4; rw [Bool.eq_iff_iff]; simp [UInt8.le_iff_toNat_le]

/- lengths and indices -/
theorem n_add (x y : Nat) (h : x + y < 9223372036854775808) : binPlan P .add t (.val (nI x)) (.val (nI y)) = some (vp (.val (nI (x + y)))) := by
  simp only [nI, bin_int, sbin, ne_eq, not_true_eq_false, if_false, Option.map_some]
  rw [wrap_i64 _ (by omega) (by omega)]; simp
theorem n_sub (x y : Nat) (h : y ≤ x ∧ x < 9223372036854775808) : binPlan P .sub t (.val (nI x)) (.val (nI y)) = some (vp (.val (nI (x - y)))) := by
  simp only [nI, bin_int, sbin, ne_eq, not_true_eq_false, if_false, Option.map_some]
  rw [wrap_i64 _ (by omega) (by omega)]; congr 4; omega
theorem n_mul (x y : Nat) (h : x * y < 9223372036854775808) : binPlan P .mul t (.val (nI x)) (.val (nI y)) = some (vp (.val (nI (x * y)))) := by
  have e : (x : Int) * (y : Int) = ((x * y : Nat) : Int) := by simp
  simp only [nI, bin_int, sbin, ne_eq, not_true_eq_false, if_false, Option.map_some]
  rw [e, wrap_i64 _ (by omega) (by omega)]
theorem n_quo (x y : Nat) (h : 0 < y ∧ x < 9223372036854775808) : binPlan P .quo t (.val (nI x)) (.val (nI y)) = some (vp (.val (nI (x / y)))) := by
  have hy : (y : Int) ≠ 0 := by omega
  have h2 : x / y ≤ x := Nat.div_le_self ..
  simp only [nI, bin_int, sbin, ne_eq, not_true_eq_false, if_false, Option.map_some, hy]
  have e : ((x : Int).tdiv (y : Int)) = ((x / y : Nat) : Int) := rfl
  rw [e]
  generalize x / y = q at h2
  rw [wrap_i64 _ (by omega) (by omega)]
theorem n_rem (x y : Nat) (h : 0 < y) : binPlan P .rem t (.val (nI x)) (.val (nI y)) = some (vp (.val (nI (x % y)))) := by
  have hy : (y : Int) ≠ 0 := by omega
  simp only [nI, bin_int, sbin, ne_eq, not_true_eq_false, if_false, Option.map_some, hy]
  rfl
theorem n_eql (x y : Nat) : binPlan P .eql t (.val (nI x)) (.val (nI y)) = some (vp (.val (.bool (decide (x = y))))) := by
  simp only [nI, bin_int, sbin, ne_eq, not_true_eq_false, if_false, Option.map_some]
  congr 4; rw [Bool.eq_iff_iff]; simp; omega
theorem n_neq (x y : Nat) : binPlan P .neq t (.val (nI x)) (.val (nI y)) = some (vp (.val (.bool (decide (x ≠ y))))) := by
  simp only [nI, bin_int, sbin, ne_eq, not_true_eq_false, if_false, Option.map_some]
  congr 4; rw [Bool.eq_iff_iff]; simp; omega
theorem n_lss (x y : Nat) : binPlan P .lss t (.val (nI x)) (.val (nI y)) = some (vp (.val (.bool (decide (x < y))))) := by
  simp only [nI, bin_int, sbin, ne_eq, not_true_eq_false, if_false, Option.map_some]
  congr 4; rw [Bool.eq_iff_iff]; simp
theorem n_leq (x y : Nat) : binPlan P .leq t (.val (nI x)) (.val (nI y)) = some (vp (.val (.bool (decide (x ≤ y))))) := by
  simp only [nI, bin_int, sbin, ne_eq, not_true_eq_false, if_false, Option.map_some]
  congr 4; rw [Bool.eq_iff_iff]; simp
theorem n_gtr (x y : Nat) : binPlan P .gtr t (.val (nI x)) (.val (nI y)) = some (vp (.val (.bool (decide (y < x))))) := by
  simp only [nI, bin_int, sbin, ne_eq, not_true_eq_false, if_false, Option.map_some]
  congr 4; rw [Bool.eq_iff_iff]; simp
theorem n_geq (x y : Nat) : binPlan P .geq t (.val (nI x)) (.val (nI y)) = some (vp (.val (.bool (decide (y ≤ x))))) := by
  simp only [nI, bin_int, sbin, ne_eq, not_true_eq_false, if_false, Option.map_some]
  congr 4; rw [Bool.eq_iff_iff]; simp

/- uint64 -/
theorem u_add (x y : Nat) (h : x + y < 18446744073709551616) : binPlan P .add t (.val (nU x)) (.val (nU y)) = some (vp (.val (nU (x + y)))) := by
  simp only [nU, bin_int, sbin, ne_eq, not_true_eq_false, if_false, Option.map_some, wrap_u64]
  congr 4; omega
theorem u_sub (x y : Nat) (h : y ≤ x ∧ x < 18446744073709551616) : binPlan P .sub t (.val (nU x)) (.val (nU y)) = some (vp (.val (nU (x - y)))) := by
  simp only [nU, bin_int, sbin, ne_eq, not_true_eq_false, if_false, Option.map_some, wrap_u64]
  congr 4; omega
theorem u_mul (x y : Nat) (h : x * y < 18446744073709551616) : binPlan P .mul t (.val (nU x)) (.val (nU y)) = some (vp (.val (nU (x * y)))) := by
  have e : (x : Int) * (y : Int) = ((x * y : Nat) : Int) := by simp
  simp only [nU, bin_int, sbin, ne_eq, not_true_eq_false, if_false, Option.map_some, wrap_u64]
  rw [e]; congr 4; omega
theorem u_rem (x y : Nat) (h : 0 < y) : binPlan P .rem t (.val (nU x)) (.val (nU y)) = some (vp (.val (nU (x % y)))) := by
  have hy : (y : Int) ≠ 0 := by omega
  simp only [nU, bin_int, sbin, ne_eq, not_true_eq_false, if_false, Option.map_some, hy]
  rfl
theorem u_and (x y : Nat) (h : x < 18446744073709551616 ∧ y < 18446744073709551616) : binPlan P .and t (.val (nU x)) (.val (nU y)) = some (vp (.val (nU (x &&& y)))) := by
  simp only [nU, bin_int]
  show some (vp (.val (.int .u64 (IntKind.wrap .u64 ((BitVec.ofInt 64 (x : Int) &&& BitVec.ofInt 64 (y : Int)).toNat : Int))))) = _
  rw [BitVec.ofInt_natCast, BitVec.ofInt_natCast, BitVec.toNat_and, BitVec.toNat_ofNat, BitVec.toNat_ofNat, Nat.mod_eq_of_lt h.1, Nat.mod_eq_of_lt h.2, wrap_u64]
  have : x &&& y ≤ x := Nat.and_le_left
  congr 4; omega
theorem u_shr (x n : Nat) (k : IntKind) (h : x < 18446744073709551616) : binPlan P .shr t (.val (nU x)) (.val (.int k n)) = some (vp (.val (nU (x >>> n)))) := by
  rw [nU, bin_int]
  have e : sbin .shr (.int .u64 (x : Int)) (.int k (n : Int)) = some (.int .u64 ((x : Int).fdiv (2 ^ (min n 64)))) := by
    show (if (n : Int) < 0 then none else _) = _
    rw [if_neg (by omega)]
    rfl
  rw [e, nU, Nat.shiftRight_eq_div_pow]
  show some (vp (.val _)) = _
  congr 4
  by_cases h : n ≤ 64
  · rw [Nat.min_eq_left h, Int.fdiv_eq_ediv_of_nonneg _ (Int.le_of_lt (Int.pow_pos (by decide)))]
    have ep : (2 : Int) ^ n = ((2 ^ n : Nat) : Int) := by rw [Int.natCast_pow]; rfl
    rw [ep, ← Int.natCast_ediv]
  · rename_i hx
    rw [Nat.min_eq_right (by omega), Nat.div_eq_of_lt (Nat.lt_of_lt_of_le hx (by
      have : (2 : Nat) ^ 64 ≤ 2 ^ n := Nat.pow_le_pow_right (by omega) (by omega)
      omega))]
    rw [Int.fdiv_eq_ediv_of_nonneg _ (by omega)]; omega
theorem u_shrn (x n : Nat) (h : x < 18446744073709551616) : binPlan P .shr t (.val (nU x)) (.val (nI n)) = some (vp (.val (nU (x >>> n)))) := u_shr P t x n .i64 h
theorem u_shru (x n : Nat) (h : x < 18446744073709551616) : binPlan P .shr t (.val (nU x)) (.val (nU n)) = some (vp (.val (nU (x >>> n)))) := u_shr P t x n .u64 h
theorem w_shln (x : BitVec 32) (n : Nat) : binPlan P .shl t (.val (w32 x)) (.val (nI n)) = some (vp (.val (w32 (x <<< n)))) := w_shl P t x .i64 n
theorem w_shlu (x : BitVec 32) (n : Nat) : binPlan P .shl t (.val (w32 x)) (.val (nU n)) = some (vp (.val (w32 (x <<< n)))) := w_shl P t x .u64 n
theorem w_shrn (x : BitVec 32) (n : Nat) : binPlan P .shr t (.val (w32 x)) (.val (nI n)) = some (vp (.val (w32 (x >>> n)))) := w_shr P t x .i64 n
theorem w_shru (x : BitVec 32) (n : Nat) : binPlan P .shr t (.val (w32 x)) (.val (nU n)) = some (vp (.val (w32 (x >>> n)))) := w_shr P t x .u64 n

/- strings -/
theorem size_mk (l : List UInt8) : (⟨l.toArray⟩ : ByteArray).size = l.length := by simp [ByteArray.size]
theorem toList_mk (l : List UInt8) : (⟨l.toArray⟩ : ByteArray).toList = l := by
  have key : ∀ (n : Nat) (i : Nat) (r : List UInt8), l.length - i = n → i ≤ l.length → ByteArray.toList.loop ⟨l.toArray⟩ i r = r.reverse ++ l.drop i := by
    intro n
    induction n with
    | zero =>
      intro i r h hi
      rw [ByteArray.toList.loop, size_mk, if_neg (by omega), List.drop_of_length_le (by omega), List.append_nil]
    | succ n ih =>
      intro i r h hi
      rw [ByteArray.toList.loop, size_mk, if_pos (by omega), ih _ _ (by omega) (by omega)]
      have hlt : i < l.length := by omega
      rw [List.drop_eq_getElem_cons hlt]
      simp [ByteArray.get!, hlt]
  have := key l.length 0 [] rfl (Nat.zero_le _)
  simpa [ByteArray.toList] using this
theorem s_eql (x y : List UInt8) : binPlan P .eql t (.val (str x)) (.val (str y)) = some (vp (.val (.bool (decide (x = y))))) := by
  simp only [str, bin_str, sbin, toList_mk, Option.map_some]
  congr 4
  rw [Bool.eq_iff_iff]; simp
theorem s_neq (x y : List UInt8) : binPlan P .neq t (.val (str x)) (.val (str y)) = some (vp (.val (.bool (decide (x ≠ y))))) := by
  simp only [str, bin_str, sbin, toList_mk, Option.map_some]
  congr 4
  by_cases h : x = y <;> simp [h]
theorem s_add (x y : List UInt8) (h : x.length + y.length < 9223372036854775808) : binPlan P .add t (.val (str x)) (.val (str y)) = some (vp (.val (str (x ++ y)))) := by
  simp only [str, bin_str, sbin, size_mk]
  rw [if_pos (by omega)]
  simp only [Option.map_some]
  congr 4
theorem s_lss (x y : List UInt8) : binPlan P .lss t (.val (str x)) (.val (str y)) = some (vp (.val (.bool (Op.bytesLess x y)))) := by
  simp only [str, bin_str, sbin, toList_mk, Option.map_some]
end
end Go.Sx

namespace Go.Sx
open Go.RowKit

/-- An entry of a list. -/
def gt {α : Type} [Inhabited α] (l : List α) (k : Nat) : α := l.getD k default

/-! Conversions: by the two types' rows. -/
def cvP (P : Program) (s d : Option TD) (c : C) : Option Plan := match s, d with
  | some ds, some dd =>
    match ds.u, dd.u, c with
    | _, .int k, .val (.int _ n) => some (.pure (.val (.int k (k.wrap n))))
    | _, .string, .val (.string s) => some (.pure (.val (.string s)))
    | .string, .slice e, .val (.string s) => match td P e with
      | some de => (match de.u with
        | .int .u8 => if s.size ≤ 140737488355328 then some (.pure (.sl .no s.size (s.data.toList.map byteC))) else none
        | _ => none)
      | none => none
    | .slice e, .string, c => match td P e with
      | some de => (match de.u with
        | .int .u8 => (match c with
          | .sv b off n => some (.rd b fun cells => if off + n ≤ cells.length then (u8s? ((cells.drop off).take n)).map fun ns => .val (.string (strOf ns)) else none)
          | c => match c.sl? with
            | some (n, xs) => if xs.length = n then (u8s? xs).map fun ns => .pure (.val (.string (strOf ns))) else none
            | none => none)
        | _ => none)
      | none => none
    | _, _, _ => none
  | _, _ => none
theorem conv_td (P : Program) (s d : TypeId) (c : C) : convPlan P s d c = cvP P (td P s) (td P d) c := rfl

section
variable (P : Program) (u1 : TypeDesc) (a1 b1 a2 b2 a3 b3 : Nat) (z1 z2 z3 : List Value)
theorem cv_int (k k' : IntKind) (n : Int) : cvP P (some ⟨u1, a1, b1, z1⟩) (some ⟨.int k, a2, b2, z2⟩) (.val (.int k' n)) = some (vp (.val (.int k (k.wrap n)))) := by
  cases u1 <;> rfl
theorem cv_u8u32 (x : UInt8) : cvP P (some ⟨u1, a1, b1, z1⟩) (some ⟨.int .u32, a2, b2, z2⟩) (.val (w8 x)) = some (vp (.val (w32 (x.toBitVec.setWidth 32)))) := by
  rw [w8, cv_int, wrap_u32, w32]
  have := x.toNat_lt
  congr 4; simp; omega
theorem cv_u8int (x : UInt8) : cvP P (some ⟨u1, a1, b1, z1⟩) (some ⟨.int .i64, a2, b2, z2⟩) (.val (w8 x)) = some (vp (.val (nI x.toNat))) := by
  have := x.toNat_lt
  rw [w8, cv_int, nI, wrap_i64 _ (by omega) (by omega)]
theorem cv_u8u64 (x : UInt8) : cvP P (some ⟨u1, a1, b1, z1⟩) (some ⟨.int .u64, a2, b2, z2⟩) (.val (w8 x)) = some (vp (.val (nU x.toNat))) := by
  have := x.toNat_lt
  rw [w8, cv_int, nU, wrap_u64]; congr 4; omega
theorem cv_u8u8 (x : UInt8) : cvP P (some ⟨u1, a1, b1, z1⟩) (some ⟨.int .u8, a2, b2, z2⟩) (.val (w8 x)) = some (vp (.val (w8 x))) := by
  rw [w8, cv_int, wrap_w8]
theorem cv_nu64 (n : Nat) (h : n < 18446744073709551616) : cvP P (some ⟨u1, a1, b1, z1⟩) (some ⟨.int .u64, a2, b2, z2⟩) (.val (nI n)) = some (vp (.val (nU n))) := by
  rw [nI, cv_int, nU, wrap_u64]; congr 4; omega
theorem cv_u64n (n : Nat) (h : n < 9223372036854775808) : cvP P (some ⟨u1, a1, b1, z1⟩) (some ⟨.int .i64, a2, b2, z2⟩) (.val (nU n)) = some (vp (.val (nI n))) := by
  rw [nU, cv_int, nI, wrap_i64 _ (by omega) (by omega)]
theorem cv_nn (n : Nat) (h : n < 9223372036854775808) : cvP P (some ⟨u1, a1, b1, z1⟩) (some ⟨.int .i64, a2, b2, z2⟩) (.val (nI n)) = some (vp (.val (nI n))) := by
  rw [nI, cv_int, wrap_i64 _ (by omega) (by omega)]
theorem cv_u32u8 (x : BitVec 32) : cvP P (some ⟨u1, a1, b1, z1⟩) (some ⟨.int .u8, a2, b2, z2⟩) (.val (w32 x)) = some (vp (.val (w8 ⟨x.setWidth 8⟩))) := by
  rw [w32, cv_int, wrap_u8, w8]
  have : (UInt8.ofBitVec (x.setWidth 8)).toNat = x.toNat % 256 := by simp [UInt8.toNat]
  rw [this]; rfl
theorem cv_u64u8 (n : Nat) : cvP P (some ⟨u1, a1, b1, z1⟩) (some ⟨.int .u8, a2, b2, z2⟩) (.val (nU n)) = some (vp (.val (w8 (UInt8.ofNat n)))) := by
  rw [nU, cv_int, wrap_u8, w8, UInt8.toNat_ofNat']; rfl
theorem cv_nu8 (n : Nat) : cvP P (some ⟨u1, a1, b1, z1⟩) (some ⟨.int .u8, a2, b2, z2⟩) (.val (nI n)) = some (vp (.val (w8 (UInt8.ofNat n)))) := by
  rw [nI, cv_int, wrap_u8, w8, UInt8.toNat_ofNat']; rfl
theorem cv_iu8 (n : Int) : cvP P (some ⟨u1, a1, b1, z1⟩) (some ⟨.int .u8, a2, b2, z2⟩) (.val (.int .i64 n)) = some (vp (.val (w8 (UInt8.ofNat (n % 256).toNat)))) := by
  rw [cv_int, wrap_u8, w8, UInt8.toNat_ofNat']; congr 4; omega
theorem cv_u32n (x : BitVec 32) : cvP P (some ⟨u1, a1, b1, z1⟩) (some ⟨.int .i64, a2, b2, z2⟩) (.val (w32 x)) = some (vp (.val (nI x.toNat))) := by
  have := x.isLt
  rw [w32, cv_int, nI, wrap_i64 _ (by omega) (by omega)]
theorem cv_ss (l : List UInt8) : cvP P (some ⟨u1, a1, b1, z1⟩) (some ⟨.string, a2, b2, z2⟩) (.val (str l)) = some (vp (.val (str l))) := by
  cases u1 <;> rfl
def cvB (de : Option TD) (l : List UInt8) : Option Plan := match de with
  | some de => (match de.u with
    | .int .u8 => if l.length ≤ 140737488355328 then some (vp (sl bC .no l)) else none
    | _ => none)
  | none => none
theorem cv_sb (e : TypeId) (l : List UInt8) : cvP P (some ⟨.string, a1, b1, z1⟩) (some ⟨.slice e, a2, b2, z2⟩) (.val (str l)) = cvB (td P e) l := by
  unfold cvB
  show (match td P e with | some de => _ | none => none) = _
  cases td P e with
  | none => rfl
  | some de =>
    simp only []
    split <;> simp_all [size_mk, sl, cl_bytes, pure_vp]
theorem cvB_u8 (l : List UInt8) (h : l.length ≤ 140737488355328) : cvB (some ⟨.int .u8, a3, b3, z3⟩) l = some (vp (sl bC .no l)) := by
  unfold cvB; simp only []; rw [if_pos h]
theorem u8s_cl (l : List UInt8) : u8s? (cl bC l) = some (l.map fun b => (b.toNat : Int)) := by
  induction l with
  | nil => rfl
  | cons a l ih => 
    show u8s? (.val (.int .u8 _) :: cl bC l) = _
    simp only [u8s?, ih, Option.map_some, List.map_cons]
theorem strOf_map (l : List UInt8) : (Value.string (strOf (l.map fun b => (b.toNat : Int)))) = str l := by
  unfold strOf str
  rw [List.map_map]
  have : (fun n : Int => UInt8.ofNat n.toNat) ∘ (fun b : UInt8 => (b.toNat : Int)) = id := by
    funext b; simp
  rw [this, List.map_id]
def cvS (de : Option TD) (_r : Rt) (l : List UInt8) : Option Plan := match de with
  | some de => (match de.u with
    | .int .u8 => some (vp (.val (str l)))
    | _ => none)
  | none => none
theorem cv_bs (e : TypeId) (r : Rt) (l : List UInt8) : cvP P (some ⟨.slice e, a1, b1, z1⟩) (some ⟨.string, a2, b2, z2⟩) (sl bC r l) = cvS (td P e) r l := by
  unfold cvS
  show (match td P e with | some de => _ | none => none) = _
  cases td P e with
  | none => rfl
  | some de =>
    simp only []
    split
    · simp only [sl, C.sl?]
      rw [if_pos (by rw [cl_len (f := bC)]; omega), u8s_cl]
      simp only [Option.map_some, strOf_map]; rfl
    · rfl
theorem cvS_u8 (r : Rt) (l : List UInt8) : cvS (some ⟨.int .u8, a3, b3, z3⟩) r l = some (vp (.val (str l))) := rfl
theorem cv_nilbs (e : TypeId) : cvP P (some ⟨.slice e, a1, b1, z1⟩) (some ⟨.string, a2, b2, z2⟩) (.val (.slice none 0 0)) = cvS (td P e) .no [] := by
  unfold cvS
  show (match td P e with | some de => _ | none => none) = _
  cases td P e with
  | none => rfl
  | some de =>
    simp only []
    split
    · rfl
    · rfl
def cvV (de : Option TD) (b off n : Nat) : Option Plan := match de with
  | some de => (match de.u with
    | .int .u8 => some (.rd b fun cells => if off + n ≤ cells.length then (u8s? ((cells.drop off).take n)).map fun ns => .val (.string (strOf ns)) else none)
    | _ => none)
  | none => none
/-- Bytes read as a string. -/
def rds (cells : List C) (o n : Nat) : Option C := if o + n ≤ cells.length then (u8s? ((cells.drop o).take n)).map fun ns => .val (.string (strOf ns)) else none
theorem cv_vs (e : TypeId) (b off n : Nat) : cvP P (some ⟨.slice e, a1, b1, z1⟩) (some ⟨.string, a2, b2, z2⟩) (.sv b off n) = cvV (td P e) b off n := by
  unfold cvV
  show (match td P e with | some de => _ | none => none) = _
  cases td P e with
  | none => rfl
  | some de => rfl
theorem cvV_u8 (b off n : Nat) : cvV (some ⟨.int .u8, a3, b3, z3⟩) b off n = some (.rd b fun cells => rds cells off n) := rfl
theorem rds_cl (l : List UInt8) (o n : Nat) (h : o + n ≤ l.length) : rds (cl bC l) o n = some (.val (str ((l.drop o).take n))) := by
  have e1 := cl_drop (f := bC) l o
  have e2 := cl_take (f := bC) (l.drop o) n
  rw [Nat.mul_one] at e1 e2
  simp only [rds]
  rw [if_pos (by rw [cl_len (f := bC)]; omega), e1, e2, u8s_cl, Option.map_some, strOf_map]

/-! Reading and writing. -/
def ldB (own : Bool) (t : Option TD) (b o : Nat) : Option Plan := match t with
  | none => none
  | some d => if own ∧ d.isAgg = false then some (.xr b o) else some (.rd b fun cells => getAt d cells o)
theorem load_bp (own : Bool) (t : TypeId) (b o : Nat) : loadPlan P own t (.bp b o) = ldB own (td P t) b o := by
  unfold loadPlan ldB; cases td P t <;> rfl
theorem ldB_int (k : IntKind) (b o : Nat) : ldB false (some ⟨.int k, a1, b1, z1⟩) b o = some (.rd b fun cells => rdc cells o) := rfl
theorem ldB_bool (b o : Nat) : ldB false (some ⟨.bool, a1, b1, z1⟩) b o = some (.rd b fun cells => rdc cells o) := rfl
theorem ldB_str (b o : Nat) : ldB false (some ⟨.string, a1, b1, z1⟩) b o = some (.rd b fun cells => rdc cells o) := rfl
theorem ldB_sl (e : TypeId) (b o : Nat) : ldB false (some ⟨.slice e, a1, b1, z1⟩) b o = some (.rd b fun cells => rdc cells o) := rfl
theorem ldB_slo (e : TypeId) (b o : Nat) : ldB true (some ⟨.slice e, a1, b1, z1⟩) b o = some (.xr b o) := rfl
theorem ldB_arr (own : Bool) (n : Nat) (e : TypeId) (b o : Nat) : ldB own (some ⟨.array n e, a1, b1, z1⟩) b o = some (.rd b fun cells => rda cells o a1) := by cases own <;> rfl
theorem ldB_struct (own : Bool) (fs : Array Field) (b o : Nat) : ldB own (some ⟨.struct fs, a1, b1, z1⟩) b o = some (.rd b fun cells => rda cells o a1) := by cases own <;> rfl
def ldK (t : Option TD) (xs : List C) : Option Plan := match t with
  | none => none
  | some d => (getAt d xs 0).map vp
theorem load_kp (own : Bool) (t : TypeId) (xs : List C) : loadPlan P own t (.kp xs) = ldK (td P t) xs := by
  unfold loadPlan ldK; cases td P t <;> rfl
theorem ldK_int (k : IntKind) (xs : List C) : ldK (some ⟨.int k, a1, b1, z1⟩) xs = (rdc xs 0).map vp := rfl
theorem ldK_bool (xs : List C) : ldK (some ⟨.bool, a1, b1, z1⟩) xs = (rdc xs 0).map vp := rfl
theorem ldK_str (xs : List C) : ldK (some ⟨.string, a1, b1, z1⟩) xs = (rdc xs 0).map vp := rfl
theorem ldK_sl (e : TypeId) (xs : List C) : ldK (some ⟨.slice e, a1, b1, z1⟩) xs = (rdc xs 0).map vp := rfl
theorem ldK_arr (n : Nat) (e : TypeId) (xs : List C) : ldK (some ⟨.array n e, a1, b1, z1⟩) xs = (rda xs 0 a1).map vp := rfl
theorem ldK_struct (fs : Array Field) (xs : List C) : ldK (some ⟨.struct fs, a1, b1, z1⟩) xs = (rda xs 0 a1).map vp := rfl

def stB (t : Option TD) (b o : Nat) (cs : Option (List C)) : Option Plan := match t with
  | none => none
  | some d => match cs with
    | some cs => if cs.length = d.size then some (.wr b (fun cells => wrc cells o cs) none) else none
    | none => none
theorem store_val (t : TypeId) (b o : Nat) (v : Value) (k : Option Nat) : storePlan P t (.bp b o) (.val v) k = stB (td P t) b o (C.val v).cells? := by
  unfold storePlan stB; cases td P t with
  | none => rfl
  | some d => simp only []; cases (C.val v).cells? <;> rfl
theorem store_agg (t : TypeId) (b o : Nat) (xs : List C) (k : Option Nat) : storePlan P t (.bp b o) (.agg xs) k = stB (td P t) b o (some (xs.map C.noR)) := by
  unfold storePlan stB; cases td P t <;> rfl
theorem store_bp (t : TypeId) (b o b' o' : Nat) (k : Option Nat) : storePlan P t (.bp b o) (.bp b' o') k = stB (td P t) b o (some [.bp b' o']) := by
  unfold storePlan stB; cases td P t <;> rfl
theorem store_sv (t : TypeId) (b o b' o' n : Nat) (k : Option Nat) : storePlan P t (.bp b o) (.sv b' o' n) k = stB (td P t) b o (some [.sv b' o' n]) := by
  unfold storePlan stB; cases td P t <;> rfl
theorem store_fn (t : TypeId) (b o f : Nat) (xs : List C) (k : Option Nat) : storePlan P t (.bp b o) (.fn f xs) k = stB (td P t) b o (some [.fn f xs]) := by
  unfold storePlan stB; cases td P t <;> rfl
def stS (t : Option TD) (b o : Nat) (c : C) (k : Option Nat) : Option Plan := match t with
  | none => none
  | some d => if d.size = 1 then some (.wr b (fun cells => wrs cells o c) k) else none
theorem store_sl (t : TypeId) (b o : Nat) (r : Rt) (n : Nat) (xs : List C) (k : Option Nat) : storePlan P t (.bp b o) (.sl r n xs) k = stS (td P t) b o (.sl r n xs) k := by
  unfold storePlan stS; cases td P t <;> rfl
theorem stS_one (u : TypeDesc) (y : Nat) (z : List Value) (b o : Nat) (c : C) (k : Option Nat) : stS (some ⟨u, 1, y, z⟩) b o c k = some (.wr b (fun cells => wrs cells o c) k) := rfl
theorem stB_one (u : TypeDesc) (y : Nat) (z : List Value) (b o : Nat) (c : C) : stB (some ⟨u, 1, y, z⟩) b o (some [c]) = some (.wr b (fun cells => wrc cells o [c]) none) := rfl
theorem stB_many (u : TypeDesc) (s y : Nat) (z : List Value) (b o : Nat) (cs : List C) (h : cs.length = s) : stB (some ⟨u, s, y, z⟩) b o (some cs) = some (.wr b (fun cells => wrc cells o cs) none) := if_pos h
theorem cells_w32 (x : BitVec 32) : (C.val (w32 x)).cells? = some [.val (w32 x)] := rfl
theorem cells_w8 (x : UInt8) : (C.val (w8 x)).cells? = some [.val (w8 x)] := rfl
theorem cells_nI (x : Nat) : (C.val (nI x)).cells? = some [.val (nI x)] := rfl
theorem cells_nU (x : Nat) : (C.val (nU x)).cells? = some [.val (nU x)] := rfl
theorem cells_int (k : IntKind) (x : Int) : (C.val (.int k x)).cells? = some [.val (.int k x)] := rfl
theorem cells_str (x : List UInt8) : (C.val (str x)).cells? = some [.val (str x)] := rfl
theorem cells_bool (x : Bool) : (C.val (.bool x)).cells? = some [.val (.bool x)] := rfl
theorem cells_nil : (C.val (.slice none 0 0)).cells? = some [.val (.slice none 0 0)] := rfl
theorem cells_agg (xs : List C) : (C.agg xs).cells? = some (xs.map C.noR) := rfl
theorem cells_slno (n : Nat) (xs : List C) : (C.sl .no n xs).cells? = some [.sl .no n xs] := rfl
theorem cells_slown (s n : Nat) (xs : List C) : (C.sl (.own s) n xs).cells? = some [.sl .no n xs] := rfl
theorem cells_slfull (n : Nat) (xs : List C) : (C.sl .full n xs).cells? = some [.sl .full n xs] := rfl

/-! Indices. -/
theorem idx_nI (i n : Nat) (h : i < n) : idx? (.val (nI i)) n = some i := by
  simp only [idx?, nI, C.int?]; rw [if_pos (by omega)]; simp
theorem idx_w8 (i : UInt8) (n : Nat) (h : i.toNat < n) : idx? (.val (w8 i)) n = some i.toNat := by
  simp only [idx?, w8, C.int?]; rw [if_pos (by omega)]; simp
theorem bound_nI (i d m : Nat) (h : i ≤ m) : bound? (some (.val (nI i))) d m = some i := by
  simp only [bound?, nI, C.int?]; rw [if_pos (by omega)]; simp
theorem bound_none (d m : Nat) : bound? none d m = some d := rfl
def ixS (de : Option TD) (k : Option Nat) (f : Nat → Nat → Option Plan) : Option Plan := match de, k with
  | some de, some k => f de.size k
  | _, _ => none
theorem ixS_some (u : TypeDesc) (s y : Nat) (z : List Value) (k : Nat) (f : Nat → Nat → Option Plan) : ixS (some ⟨u, s, y, z⟩) (some k) f = f s k := rfl
def ixaP (P : Program) (t : Option TD) (c i : C) : Option Plan := match t with
  | none => none
  | some d =>
    match d.u, c with
    | .array n e, .bp b off => ixS (td P e) (idx? i n) fun s k => some (vp (.bp b (off + k * s)))
    | .array n e, .kp xs => ixS (td P e) (idx? i n) fun s k => if n * s ≤ xs.length then some (vp (.kp (xs.drop (k * s)))) else none
    | .slice e, .sv b off n => ixS (td P e) (idx? i n) fun s k => some (vp (.bp b (off + k * s)))
    | .slice e, .sl _ n xs => ixS (td P e) (idx? i n) fun s k => if xs.length = n * s ∧ xs ≠ [] then some (vp (.kp (xs.drop (k * s)))) else none
    | _, _ => none
theorem ixa_td (t : TypeId) (c i : C) : indexAddrPlan P t c i = ixaP P (td P t) c i := by
  unfold indexAddrPlan ixaP
  cases td P t with
  | none => rfl
  | some d =>
    simp only []
    cases d.u <;> cases c <;> first | rfl | (rename_i e _ _ _; cases td P e <;> first | rfl | (cases idx? i _ <;> rfl))
theorem ixa_ab (n : Nat) (e : TypeId) (b off : Nat) (i : C) : ixaP P (some ⟨.array n e, a1, b1, z1⟩) (.bp b off) i = ixS (td P e) (idx? i n) fun s k => some (vp (.bp b (off + k * s))) := rfl
theorem ixa_ak (n : Nat) (e : TypeId) (xs : List C) (i : C) : ixaP P (some ⟨.array n e, a1, b1, z1⟩) (.kp xs) i = ixS (td P e) (idx? i n) fun s k => if n * s ≤ xs.length then some (vp (.kp (xs.drop (k * s)))) else none := rfl
theorem ixa_sv (e : TypeId) (b off n : Nat) (i : C) : ixaP P (some ⟨.slice e, a1, b1, z1⟩) (.sv b off n) i = ixS (td P e) (idx? i n) fun s k => some (vp (.bp b (off + k * s))) := rfl
theorem ixa_sl {α : Type} (f : α → List C) (e : TypeId) (r : Rt) (l : List α) (i : C) : ixaP P (some ⟨.slice e, a1, b1, z1⟩) (sl f r l) i = ixS (td P e) (idx? i l.length) fun s k => if (cl f l).length = l.length * s ∧ cl f l ≠ [] then some (vp (.kp ((cl f l).drop (k * s)))) else none := rfl
end
end Go.Sx

namespace Go.Sx
open Go.RowKit

section
variable {α : Type} (f : α → List C)
theorem noR_slno (l : List α) : (sl f .no l).noR = sl f .no l := rfl
theorem noR_slfull (l : List α) : (sl f .full l).noR = sl f .full l := rfl
theorem noR_slown (s : Nat) (l : List α) : (sl f (.own s) l).noR = sl f .no l := rfl
theorem share_slno (l : List α) : (sl f .no l).share = sl f .no l := rfl
theorem share_slfull (l : List α) : (sl f .full l).share = sl f .no l := rfl
theorem share_slown (s : Nat) (l : List α) : (sl f (.own s) l).share = sl f .no l := rfl
theorem nil_sl : C.sl .no 0 [] = sl f .no [] := rfl
end
theorem share_w32 (x : BitVec 32) : (C.val (w32 x)).share = .val (w32 x) := rfl
theorem share_w8 (x : UInt8) : (C.val (w8 x)).share = .val (w8 x) := rfl
theorem share_nI (x : Nat) : (C.val (nI x)).share = .val (nI x) := rfl
theorem share_nU (x : Nat) : (C.val (nU x)).share = .val (nU x) := rfl
theorem share_strs (x : List UInt8) : (C.val (str x)).share = .val (str x) := rfl

section
variable (P : Program) (u1 : TypeDesc) (a1 b1 a2 b2 a3 b3 : Nat) (z1 z2 z3 : List Value)

/-! len -/
def lenP (t : Option TD) (x : C) : Option Plan := match t with
  | none => none
  | some d =>
    match d.u, x with
    | .string, .val (.string s) => some (.pure (.val (.int .i64 s.size)))
    | .array n _, _ => some (.pure (.val (.int .i64 n)))
    | .slice _, .sv _ _ n => some (.pure (.val (.int .i64 n)))
    | .slice _, x => x.sl?.map fun r => .pure (.val (.int .i64 r.1))
    | _, _ => none
theorem len_td (t : TypeId) (x : C) : lenPlan P t x = lenP (td P t) x := rfl
theorem len_str (l : List UInt8) : lenP (some ⟨.string, a1, b1, z1⟩) (.val (str l)) = some (vp (.val (nI l.length))) := by
  show some (vp (.val (.int .i64 ((⟨l.toArray⟩ : ByteArray).size : Nat)))) = _
  rw [size_mk]; rfl
theorem len_arr (n : Nat) (e : TypeId) (x : C) : lenP (some ⟨.array n e, a1, b1, z1⟩) x = some (vp (.val (nI n))) := by cases x <;> rfl
theorem len_sv (e : TypeId) (b o n : Nat) : lenP (some ⟨.slice e, a1, b1, z1⟩) (.sv b o n) = some (vp (.val (nI n))) := rfl
theorem len_sl {α : Type} (f : α → List C) (e : TypeId) (r : Rt) (l : List α) : lenP (some ⟨.slice e, a1, b1, z1⟩) (sl f r l) = some (vp (.val (nI l.length))) := rfl
theorem len_nil (e : TypeId) : lenP (some ⟨.slice e, a1, b1, z1⟩) (.val (.slice none 0 0)) = some (vp (.val (nI 0))) := rfl

/-! index -/
def inxP (P : Program) (t : Option TD) (c i : C) : Option Plan := match t with
  | none => none
  | some d =>
    match d.u, c with
    | .string, .val (.string s) => match idx? i s.size with
      | some k => (s.data[k]?).map fun b => .pure (byteC b)
      | none => none
    | .array n e, c => match td P e, idx? i n, c.agg? with
      | some de, some k, some xs => (getAt de xs (k * de.size)).map .pure
      | _, _, _ => none
    | _, _ => none
theorem inx_td (t : TypeId) (c i : C) : indexPlan P t c i = inxP P (td P t) c i := rfl
def inS (l : List UInt8) (k : Option Nat) : Option Plan := match k with
  | some k => (l[k]?).map fun b => vp (byteC b)
  | none => none
theorem inx_str (l : List UInt8) (i : C) : inxP P (some ⟨.string, a1, b1, z1⟩) (.val (str l)) i = inS l (idx? i l.length) := by
  unfold inS
  show (match idx? i (⟨l.toArray⟩ : ByteArray).size with | some k => _ | none => none) = _
  rw [size_mk]
  cases idx? i l.length with
  | none => rfl
  | some k => simp only []; rw [List.getElem?_toArray]; rfl
theorem inS_some (l : List UInt8) (k : Nat) (h : k < l.length) : inS l (some k) = some (vp (.val (w8 (gt l k)))) := by
  simp [inS, gt, List.getD, List.getElem?_eq_getElem h]; rfl
def getP (de : Option TD) (k : Option Nat) (xs : Option (List C)) : Option Plan := match de, k, xs with
  | some de, some k, some xs => (getAt de xs (k * de.size)).map vp
  | _, _, _ => none
theorem inx_arr (n : Nat) (e : TypeId) (xs : List C) (i : C) : inxP P (some ⟨.array n e, a1, b1, z1⟩) (.agg xs) i = getP (td P e) (idx? i n) (some xs) := rfl
theorem getP_int (k : IntKind) (i : Nat) (xs : List C) : getP (some ⟨.int k, a1, b1, z1⟩) (some i) (some xs) = (rdc xs (i * a1)).map vp := rfl
theorem getP_str (i : Nat) (xs : List C) : getP (some ⟨.string, a1, b1, z1⟩) (some i) (some xs) = (rdc xs (i * a1)).map vp := rfl
theorem getP_bool (i : Nat) (xs : List C) : getP (some ⟨.bool, a1, b1, z1⟩) (some i) (some xs) = (rdc xs (i * a1)).map vp := rfl
theorem getP_sl (e : TypeId) (i : Nat) (xs : List C) : getP (some ⟨.slice e, a1, b1, z1⟩) (some i) (some xs) = (rdc xs (i * a1)).map vp := rfl
theorem getP_arr (n : Nat) (e : TypeId) (i : Nat) (xs : List C) : getP (some ⟨.array n e, a1, b1, z1⟩) (some i) (some xs) = (rda xs (i * a1) a1).map vp := rfl
theorem getP_struct (fs : Array Field) (i : Nat) (xs : List C) : getP (some ⟨.struct fs, a1, b1, z1⟩) (some i) (some xs) = (rda xs (i * a1) a1).map vp := rfl

/-! fields -/
def fldP (P : Program) (t : Option TD) (c : C) (f : Nat) : Option Plan := match t with
  | none => none
  | some d =>
    match d.u with
    | .struct fields => match fields[f]?, c.agg? with
      | some fd, some xs => (match td P fd.type with
        | some de => (getAt de xs fd.offset).map .pure
        | none => none)
      | _, _ => none
    | _ => none
theorem fld_td (t : TypeId) (c : C) (f : Nat) : fieldPlan P t c f = fldP P (td P t) c f := rfl
def fldQ (de : Option TD) (xs : List C) (o : Nat) : Option Plan := match de with
  | some de => (getAt de xs o).map vp
  | none => none
theorem fld_agg (fs : Array Field) (xs : List C) (i : Nat) (fd : Field) (h : fs[i]? = some fd) : fldP P (some ⟨.struct fs, a1, b1, z1⟩) (.agg xs) i = fldQ (td P fd.type) xs fd.offset := by
  unfold fldP fldQ; simp only [h]; rfl
theorem fldQ_int (k : IntKind) (o : Nat) (xs : List C) : fldQ (some ⟨.int k, a1, b1, z1⟩) xs o = (rdc xs o).map vp := rfl
theorem fldQ_str (o : Nat) (xs : List C) : fldQ (some ⟨.string, a1, b1, z1⟩) xs o = (rdc xs o).map vp := rfl
theorem fldQ_bool (o : Nat) (xs : List C) : fldQ (some ⟨.bool, a1, b1, z1⟩) xs o = (rdc xs o).map vp := rfl
theorem fldQ_sl (e : TypeId) (o : Nat) (xs : List C) : fldQ (some ⟨.slice e, a1, b1, z1⟩) xs o = (rdc xs o).map vp := rfl
theorem fldQ_arr (n : Nat) (e : TypeId) (o : Nat) (xs : List C) : fldQ (some ⟨.array n e, a1, b1, z1⟩) xs o = (rda xs o a1).map vp := rfl
theorem fldQ_struct (fs : Array Field) (o : Nat) (xs : List C) : fldQ (some ⟨.struct fs, a1, b1, z1⟩) xs o = (rda xs o a1).map vp := rfl

def faP (P : Program) (t : Option TD) (c : C) (f : Nat) : Option Plan := match t with
  | none => none
  | some d =>
    match d.u with
    | .struct fields => match fields[f]? with
      | some fd => (match td P fd.type with
        | some de => if de.size = 0 then none else
          (match c with
          | .bp b off => some (.pure (.bp b (off + fd.offset)))
          | .kp xs => if fd.offset ≤ xs.length then some (.pure (.kp (xs.drop fd.offset))) else none
          | _ => none)
        | none => none)
      | none => none
    | _ => none
theorem fa_td (t : TypeId) (c : C) (f : Nat) : fieldAddrPlan P t c f = faP P (td P t) c f := rfl
def faQ (de : Option TD) (b o : Nat) : Option Plan := match de with
  | some de => if de.size = 0 then none else some (vp (.bp b o))
  | none => none
theorem fa_bp (fs : Array Field) (b o : Nat) (i : Nat) (fd : Field) (h : fs[i]? = some fd) : faP P (some ⟨.struct fs, a1, b1, z1⟩) (.bp b o) i = faQ (td P fd.type) b (o + fd.offset) := by
  unfold faP faQ; simp only [h]; rfl
theorem faQ_some (u : TypeDesc) (s y : Nat) (z : List Value) (b o : Nat) (h : s ≠ 0) : faQ (some ⟨u, s, y, z⟩) b o = some (vp (.bp b o)) := by
  unfold faQ; simp only [h, if_false]
def fkQ (de : Option TD) (xs : List C) (o : Nat) : Option Plan := match de with
  | some de => if de.size = 0 then none else if o ≤ xs.length then some (vp (.kp (xs.drop o))) else none
  | none => none
theorem fa_kp (fs : Array Field) (xs : List C) (i : Nat) (fd : Field) (h : fs[i]? = some fd) : faP P (some ⟨.struct fs, a1, b1, z1⟩) (.kp xs) i = fkQ (td P fd.type) xs fd.offset := by
  unfold faP fkQ; simp only [h]; rfl
theorem fkQ_some (u : TypeDesc) (s y : Nat) (z : List Value) (xs : List C) (o : Nat) (h : s ≠ 0 ∧ o ≤ xs.length) : fkQ (some ⟨u, s, y, z⟩) xs o = some (vp (.kp (xs.drop o))) := by
  unfold fkQ; simp only [h.1, h.2, if_false, if_true]

/-! slices -/
theorem slice_str (t : TypeId) (y z : Nat) (zz : List Value) (h : td P t = some ⟨.string, y, z, zz⟩) (l : List UInt8) (lo hi : Option C) :
    slicePlan P t (.val (str l)) lo hi none = (match bound? hi l.length l.length with
      | some h => (match bound? lo 0 h with
        | some k => some (vp (.val (str ((l.drop k).take (h - k)))))
        | none => none)
      | none => none) := by
  unfold slicePlan
  rw [h]
  simp only [str, Option.isSome_none, Bool.false_eq_true, if_false, size_mk]
  cases bound? hi l.length l.length with
  | none => rfl
  | some h =>
    simp only []
    cases bound? lo 0 h with
    | none => rfl
    | some k =>
      simp only []
      show some (vp (.val (.string _))) = _
      congr 4
      apply ByteArray.ext
      simp [ByteArray.data_extract]
def sl2 (hi lo : Option C) (n : Nat) (F : Nat → Nat → Option Plan) : Option Plan := match bound? hi n n with
  | some h => (match bound? lo 0 h with
    | some k => F h k
    | none => none)
  | none => none
def slS (hi lo : Option Nat) (F : Nat → Nat → Option Plan) : Option Plan := match hi, lo with
  | some h, some k => F h k
  | _, _ => none
def slP (P : Program) (t : Option TD) (c : C) (lo hi : Option C) : Option Plan := match t with
  | none => none
  | some d =>
    match d.u, c with
    | .string, .val (.string s) => sl2 hi lo s.size fun h k => some (vp (.val (.string (s.extract k h))))
    | .slice e, .sv b off n => (match td P e with
      | some de => sl2 hi lo n fun h k => some (vp (.sv b (off + k * de.size) (h - k)))
      | none => none)
    | .slice e, c => (match td P e, c.sl? with
      | some de, some (n, xs) => if xs.length = n * de.size then sl2 hi lo n fun h k => some (vp (.sl .no (h - k) ((xs.drop (k * de.size)).take ((h - k) * de.size)))) else none
      | _, _ => none)
    | .array n e, .bp b off => (match td P e with
      | some de => if 65536 < n then none else sl2 hi lo n fun h k => some (vp (.sv b (off + k * de.size) (h - k)))
      | none => none)
    | .array n e, .kp xs => (match td P e with
      | some de => if 65536 < n ∨ xs.length < n * de.size then none else sl2 hi lo n fun h k => some (vp (.sl .no (h - k) ((xs.drop (k * de.size)).take ((h - k) * de.size))))
      | none => none)
    | _, _ => none
theorem slice_td (t : TypeId) (c : C) (lo hi : Option C) : slicePlan P t c lo hi none = slP P (td P t) c lo hi := by
  unfold slicePlan slP sl2
  cases td P t with
  | none => rfl
  | some d =>
    obtain ⟨u, s, y, z⟩ := d
    simp only [Option.isSome_none, Bool.false_eq_true, if_false, false_or, Option.isNone_none, true_or, and_true, bound_none, false_and]
    cases u with
    | string => cases c with
      | val v => cases v <;> rfl
      | _ => rfl
    | slice e => cases c <;> rfl
    | array n e => cases c <;> rfl
    | _ => rfl
theorem sl2_none (lo : Option C) (n : Nat) (F : Nat → Nat → Option Plan) : sl2 none lo n F = slS (some n) (bound? lo 0 n) F := by
  unfold sl2 slS; simp only [bound_none]; cases bound? lo 0 n <;> rfl
theorem sl2_nI (lo : Option C) (n h : Nat) (F : Nat → Nat → Option Plan) (hh : h ≤ n) : sl2 (some (.val (nI h))) lo n F = slS (some h) (bound? lo 0 h) F := by
  unfold sl2 slS; rw [bound_nI _ _ _ hh]; simp only []; cases bound? lo 0 h <;> rfl
theorem slS_some (h k : Nat) (F : Nat → Nat → Option Plan) : slS (some h) (some k) F = F h k := rfl
theorem slP_str (l : List UInt8) (lo hi : Option C) : slP P (some ⟨.string, a1, b1, z1⟩) (.val (str l)) lo hi = sl2 hi lo l.length fun h k => some (vp (.val (str ((l.drop k).take (h - k))))) := by
  show sl2 hi lo (⟨l.toArray⟩ : ByteArray).size _ = _
  rw [size_mk]
  congr 1
  funext h k
  show some (vp (.val (.string _))) = _
  congr 4
  apply ByteArray.ext
  simp [ByteArray.data_extract]
def slQ (de : Option TD) (F : Nat → Option Plan) : Option Plan := match de with
  | some de => F de.size
  | none => none
theorem slQ_some (u : TypeDesc) (s y : Nat) (z : List Value) (F : Nat → Option Plan) : slQ (some ⟨u, s, y, z⟩) F = F s := rfl
theorem slP_sv (e : TypeId) (b o n : Nat) (lo hi : Option C) : slP P (some ⟨.slice e, a1, b1, z1⟩) (.sv b o n) lo hi = slQ (td P e) fun s => sl2 hi lo n fun h k => some (vp (.sv b (o + k * s) (h - k))) := rfl
theorem slP_ab (n : Nat) (e : TypeId) (b o : Nat) (lo hi : Option C) (hn : n ≤ 65536) : slP P (some ⟨.array n e, a1, b1, z1⟩) (.bp b o) lo hi = slQ (td P e) fun s => sl2 hi lo n fun h k => some (vp (.sv b (o + k * s) (h - k))) := by
  show (match td P e with | some de => if 65536 < n then none else _ | none => none) = _
  cases td P e with
  | none => rfl
  | some de => simp only []; rw [if_neg (by omega)]; rfl
theorem slP_sl {α : Type} (f : α → List C) {s0 : Nat} [hf : Cel f s0] (e : TypeId) (r : Rt) (l : List α) (lo hi : Option C) (u : TypeDesc) (y : Nat) (z : List Value) (h : td P e = some ⟨u, s0, y, z⟩) :
    slP P (some ⟨.slice e, a1, b1, z1⟩) (sl f r l) lo hi = sl2 hi lo l.length fun h k => some (vp (sl f .no ((l.drop k).take (h - k)))) := by
  show (match td P e, (sl f r l).sl? with | some de, some (n, xs) => _ | _, _ => none) = _
  rw [h]
  simp only [sl, C.sl?]
  rw [if_pos (cl_len (f := f) l)]
  simp only [cl_drop, cl_take]
  unfold sl2
  cases hb : bound? hi l.length l.length with
  | none => rfl
  | some hh =>
    simp only []
    cases hb2 : bound? lo 0 hh with
    | none => rfl
    | some k =>
      have h1 : hh ≤ l.length := by
        unfold bound? at hb
        split at hb
        · simp only [Option.some.injEq] at hb; omega
        · split at hb
          · split at hb
            · simp only [Option.some.injEq] at hb; omega
            · cases hb
          · cases hb
      simp only [List.length_take, List.length_drop]
      rw [Nat.min_eq_left (by omega)]

/-! append -/
def apS (x : C) (de : TD) (xt : Option Nat) : Option (Nat × List C × Option Nat) := match x with
  | .val (.slice none 0 0) => some (0, [], none)
  | .sl .full n xs => some (n, xs, none)
  | .sl (.own s) n xs => if s = de.size then some (n, xs, xt) else none
  | _ => none
def apF (de : TD) (n : Nat) (xs : List C) (m : Nat) (ys : List C) : Option C :=
  if xs.length = n * de.size ∧ ys.length = m * de.size ∧ 0 < de.size ∧ de.zero.length = de.size ∧ (n + m) * de.bytes ≤ 140737488355328 ∧ n + m ≤ 9223372036854775807 then some (.sl (.own de.size) (n + m) (xs ++ ys)) else none
def apP (P : Program) (t t2 : Option TD) (x y : C) (xt : Option Nat) : Option Plan := match t, t2 with
  | none, _ => none
  | _, none => none
  | some d, some d2 =>
    if notInt d2.u = false then none else
    match d.u with
    | .slice e => match td P e with
      | none => none
      | some de => match apS x de xt with
        | none => none
        | some (n, xs, k) =>
          match y with
          | .sv b off m => if k.isSome then some (.wr b (fun cells => (if off + m * de.size ≤ cells.length then apF de n xs m (((cells.drop off).take (m * de.size)).map C.noR) else none).map fun c => (cells, c)) k)
            else some (.rd b fun cells => if off + m * de.size ≤ cells.length then apF de n xs m (((cells.drop off).take (m * de.size)).map C.noR) else none)
          | y => match src? y with
            | some (m, ys) => (apF de n xs m ys).map fun c => .val c k
            | none => none
    | _ => none
theorem app_td (t t2 : TypeId) (x y : C) (xt : Option Nat) : appendPlan P t t2 x y xt = apP P (td P t) (td P t2) x y xt := rfl
def apQ (de : Option TD) (x y : C) (xt : Option Nat) : Option Plan := match de with
  | none => none
  | some de => match apS x de xt with
    | none => none
    | some (n, xs, k) =>
      match y with
      | .sv b off m => if k.isSome then some (.wr b (fun cells => (if off + m * de.size ≤ cells.length then apF de n xs m (((cells.drop off).take (m * de.size)).map C.noR) else none).map fun c => (cells, c)) k)
            else some (.rd b fun cells => if off + m * de.size ≤ cells.length then apF de n xs m (((cells.drop off).take (m * de.size)).map C.noR) else none)
      | y => match src? y with
        | some (m, ys) => (apF de n xs m ys).map fun c => .val c k
        | none => none
theorem app_ss (e e2 : TypeId) (x y : C) (xt : Option Nat) : apP P (some ⟨.slice e, a1, b1, z1⟩) (some ⟨.slice e2, a2, b2, z2⟩) x y xt = apQ (td P e) x y xt := rfl
theorem app_st (e : TypeId) (x y : C) (xt : Option Nat) : apP P (some ⟨.slice e, a1, b1, z1⟩) (some ⟨.string, a2, b2, z2⟩) x y xt = apQ (td P e) x y xt := rfl
section
variable {α : Type} (f : α → List C) {s : Nat} [hf : Cel f s] (u : TypeDesc) (y : Nat) (z : List Value)
theorem apF_cl (l l' : List α) (hz : z.length = s) (h : (l.length + l'.length) * y ≤ 140737488355328 ∧ l.length + l'.length ≤ 9223372036854775807) :
    apF ⟨u, s, y, z⟩ l.length (cl f l) l'.length (cl f l') = some (sl f (.own s) (l ++ l')) := by
  unfold apF
  rw [if_pos ⟨cl_len (f := f) l, cl_len (f := f) l', hf.pos, hz, h.1, h.2⟩]
  simp [sl, cl_app]
theorem apQ_own (l l' : List α) (r : Rt) (xt : Option Nat) (hz : z.length = s) (h : (l.length + l'.length) * y ≤ 140737488355328 ∧ l.length + l'.length ≤ 9223372036854775807) :
    apQ (some ⟨u, s, y, z⟩) (sl f (.own s) l) (sl f r l') xt = some (.val (sl f (.own s) (l ++ l')) xt) := by
  show (match (if s = s then some (l.length, cl f l, xt) else none) with | none => none | some (n, xs, k) => (match some (l'.length, cl f l') with | some (m, ys) => (apF ⟨u, s, y, z⟩ n xs m ys).map fun c => Plan.val c k | none => none)) = _
  rw [if_pos rfl]
  simp only [apF_cl f u y z l l' hz h, Option.map_some]
theorem apQ_full (l l' : List α) (r : Rt) (xt : Option Nat) (hz : z.length = s) (h : (l.length + l'.length) * y ≤ 140737488355328 ∧ l.length + l'.length ≤ 9223372036854775807) :
    apQ (some ⟨u, s, y, z⟩) (sl f .full l) (sl f r l') xt = some (.val (sl f (.own s) (l ++ l')) none) := by
  show (match some (l'.length, cl f l') with | some (m, ys) => (apF ⟨u, s, y, z⟩ l.length (cl f l) m ys).map fun c => Plan.val c none | none => none) = _
  simp only [apF_cl f u y z l l' hz h, Option.map_some]
theorem apQ_nil (l' : List α) (r : Rt) (xt : Option Nat) (hz : z.length = s) (h : l'.length * y ≤ 140737488355328 ∧ l'.length ≤ 9223372036854775807) :
    apQ (some ⟨u, s, y, z⟩) (.val (.slice none 0 0)) (sl f r l') xt = some (.val (sl f (.own s) l') none) := by
  have := apQ_full f u y z [] l' r xt hz (by simpa using h)
  exact this
theorem apQ_nil_nil (hz : z.length = s) (xt : Option Nat) : apQ (some ⟨u, s, y, z⟩) (.val (.slice none 0 0)) (.val (.slice none 0 0)) xt = some (.val (sl f (.own s) []) none) := by
  have := apQ_full f u y z [] [] .no xt hz (by simp)
  exact this
theorem apQ_own_nil (l : List α) (xt : Option Nat) (hz : z.length = s) (h : l.length * y ≤ 140737488355328 ∧ l.length ≤ 9223372036854775807) :
    apQ (some ⟨u, s, y, z⟩) (sl f (.own s) l) (.val (.slice none 0 0)) xt = some (.val (sl f (.own s) l) xt) := by
  have := apQ_own f u y z l [] .no xt hz (by simpa using h)
  rw [List.append_nil] at this
  exact this
end
theorem src_str (l : List UInt8) : src? (.val (str l)) = some (l.length, cl bC l) := by
  show some ((⟨l.toArray⟩ : ByteArray).size, l.toArray.toList.map byteC) = _
  rw [size_mk, List.toList_toArray, cl_bytes]
theorem apQ_strs (u : TypeDesc) (y : Nat) (z : List Value) (l l' : List UInt8) (xt : Option Nat) (hz : z.length = 1) (h : (l.length + l'.length) * y ≤ 140737488355328 ∧ l.length + l'.length ≤ 9223372036854775807) :
    apQ (some ⟨u, 1, y, z⟩) (sl bC (.own 1) l) (.val (str l')) xt = some (.val (sl bC (.own 1) (l ++ l')) xt) := by
  show (match (if (1 : Nat) = 1 then some (l.length, cl bC l, xt) else none) with | none => none | some (n, xs, k) => (match src? (.val (str l')) with | some (m, ys) => (apF ⟨u, 1, y, z⟩ n xs m ys).map fun c => Plan.val c k | none => none)) = _
  rw [if_pos rfl, src_str]
  simp only [apF_cl bC u y z l l' hz h, Option.map_some]
theorem apQ_strf (u : TypeDesc) (y : Nat) (z : List Value) (l l' : List UInt8) (xt : Option Nat) (hz : z.length = 1) (h : (l.length + l'.length) * y ≤ 140737488355328 ∧ l.length + l'.length ≤ 9223372036854775807) :
    apQ (some ⟨u, 1, y, z⟩) (sl bC .full l) (.val (str l')) xt = some (.val (sl bC (.own 1) (l ++ l')) none) := by
  show (match src? (.val (str l')) with | some (m, ys) => (apF ⟨u, 1, y, z⟩ l.length (cl bC l) m ys).map fun c => Plan.val c none | none => none) = _
  rw [src_str]
  simp only [apF_cl bC u y z l l' hz h, Option.map_some]
theorem apQ_strn (u : TypeDesc) (y : Nat) (z : List Value) (l' : List UInt8) (xt : Option Nat) (hz : z.length = 1) (h : l'.length * y ≤ 140737488355328 ∧ l'.length ≤ 9223372036854775807) :
    apQ (some ⟨u, 1, y, z⟩) (.val (.slice none 0 0)) (.val (str l')) xt = some (.val (sl bC (.own 1) l') none) :=
  apQ_strf u y z [] l' xt hz (by simpa using h)

def apR (de : TD) (n : Nat) (xs : List C) (m : Nat) (off : Nat) (cells : List C) : Option C := if off + m * de.size ≤ cells.length then apF de n xs m (((cells.drop off).take (m * de.size)).map C.noR) else none
theorem apQ_ownsv {α : Type} (f : α → List C) {s : Nat} [hf : Cel f s] (u : TypeDesc) (y : Nat) (z : List Value) (l : List α) (b off m k : Nat) :
    apQ (some ⟨u, s, y, z⟩) (sl f (.own s) l) (.sv b off m) (some k) = some (.wr b (fun cells => (apR ⟨u, s, y, z⟩ l.length (cl f l) m off cells).map fun c => (cells, c)) (some k)) := by
  show (match (if s = s then some (l.length, cl f l, some k) else none) with | none => none | some (n, xs, k) => _) = _
  rw [if_pos rfl]; rfl
theorem apQ_fullsv {α : Type} (f : α → List C) {s : Nat} [hf : Cel f s] (u : TypeDesc) (y : Nat) (z : List Value) (l : List α) (b off m : Nat) (xt : Option Nat) :
    apQ (some ⟨u, s, y, z⟩) (sl f .full l) (.sv b off m) xt = some (.rd b (apR ⟨u, s, y, z⟩ l.length (cl f l) m off)) := rfl
theorem apQ_nilsv (u : TypeDesc) (s y : Nat) (z : List Value) (b off m : Nat) (xt : Option Nat) :
    apQ (some ⟨u, s, y, z⟩) (.val (.slice none 0 0)) (.sv b off m) xt = some (.rd b (apR ⟨u, s, y, z⟩ 0 [] m off)) := rfl
theorem apR_cl {α : Type} (f : α → List C) {s : Nat} [hf : Cel f s] (u : TypeDesc) (y : Nat) (z : List Value) (l l' : List α) (m : Nat) (hm : m = l'.length) (hz : z.length = s) (h : (l.length + l'.length) * y ≤ 140737488355328 ∧ l.length + l'.length ≤ 9223372036854775807) :
    apR ⟨u, s, y, z⟩ l.length (cl f l) m 0 (cl f l') = some (sl f (.own s) (l ++ l')) := by
  subst hm
  unfold apR
  have hl := cl_len (f := f) l'
  rw [if_pos (by rw [hl, Nat.zero_add]; exact Nat.le_refl _), List.drop_zero, List.take_of_length_le (by rw [hl]; exact Nat.le_refl _), cl_noR]
  exact apF_cl f u y z l l' hz h

/-! new boxes -/
theorem alloc_rep (u : TypeDesc) (s y n : Nat) (v : Value) (h : v.oneCell' = true) : allocP (some ⟨u, s, y, List.replicate n v⟩) = some (.new (List.replicate n (.val v)) fun id => .bp id 0) := by
  unfold allocP
  simp only []
  rw [if_pos (by simp [h]), List.map_replicate]
theorem alloc_one (u : TypeDesc) (s y : Nat) (v : Value) (h : v.oneCell' = true) : allocP (some ⟨u, s, y, [v]⟩) = some (.new [.val v] fun id => .bp id 0) := alloc_rep u s y 1 v h
theorem rep_wC (n : Nat) : List.replicate n (C.val (.int .u32 0)) = cl wC (List.replicate n 0) := by
  induction n with
  | zero => rfl
  | succ n ih => rw [List.replicate_succ, ih]; rfl
theorem rep_bC (n : Nat) : List.replicate n (C.val (.int .u8 0)) = cl bC (List.replicate n 0) := by
  induction n with
  | zero => rfl
  | succ n ih => rw [List.replicate_succ, ih]; rfl
theorem rep_nC (n : Nat) : List.replicate n (C.val (.int .i64 0)) = cl nC (List.replicate n 0) := by
  induction n with
  | zero => rfl
  | succ n ih => rw [List.replicate_succ, ih]; rfl
def boxQ (cs : Option (List C)) : Option Plan := match cs with
  | some cs => some (.new cs fun id => .bp id 0)
  | none => none
theorem box_cs (x : C) : boxP x = boxQ x.cells? := by unfold boxP boxQ; cases x.cells? <;> rfl
theorem boxQ_some (cs : List C) : boxQ (some cs) = some (.new cs fun id => .bp id 0) := rfl
theorem pick_tf (x y : C) : pickP (.val (.bool true)) x y = some (vp x) := rfl
theorem pick_ff (x y : C) : pickP (.val (.bool false)) x y = some (vp y) := rfl

/-! arrays out of slices of boxes, and copies -/
theorem sta_sv (n : Nat) (e : TypeId) (b o m : Nat) (u : TypeDesc) (s y : Nat) (z : List Value) (he : td P e = some ⟨u, s, y, z⟩) (h : n ≤ m ∧ n ≠ 0) : staP P (some ⟨.array n e, a1, b1, z1⟩) (.sv b o m) = some (vp (.bp b o)) := by
  unfold staP; simp only [he]; rw [if_pos h]
def cpP (P : Program) (t : Option TD) (x y : C) : Option Plan := match t with
  | none => none
  | some d =>
    match d.u with
    | .slice e => match td P e with
      | none => none
      | some de => match x, src? y with
        | .sv b off n, some (m, ys) =>
          if ys.length = m * de.size ∧ 0 < n then some (.wr b (fun cells => if off + n * de.size ≤ cells.length then some (splice cells off ((ys.take (min m n * de.size)).map C.noR), .val (.int .i64 (min m n : Nat))) else none) none) else none
        | _, _ => none
    | _ => none
theorem copy_td (t : TypeId) (x y : C) : copyPlan P t x y = cpP P (td P t) x y := rfl
/-- Cells copied. -/
def cpc (cells : List C) (o n s : Nat) (ys : List C) (m : Nat) : Option (List C × C) := if o + n * s ≤ cells.length then some (splice cells o ys, .val (nI m)) else none
def cpQ (de : Option TD) (x : C) (m : Nat) (ys : List C) : Option Plan := match de with
  | none => none
  | some de => match x with
    | .sv b off n => if ys.length = m * de.size ∧ 0 < n then some (.wr b (fun cells => if off + n * de.size ≤ cells.length then some (splice cells off ((ys.take (min m n * de.size)).map C.noR), .val (.int .i64 (min m n : Nat))) else none) none) else none
    | _ => none
theorem cp_str (e : TypeId) (b o n : Nat) (l : List UInt8) (u : TypeDesc) (y : Nat) (z : List Value) (he : td P e = some ⟨u, 1, y, z⟩) (h : 0 < n) :
    cpP P (some ⟨.slice e, a1, b1, z1⟩) (.sv b o n) (.val (str l)) = some (.wr b (fun cells => cpc cells o n 1 (cl bC (l.take n)) (min l.length n)) none) := by
  unfold cpP
  simp only [he]
  rw [src_str]
  simp only []
  rw [if_pos ⟨cl_len (f := bC) l, h⟩]
  congr 2
  funext cells
  unfold cpc
  rw [cl_take, cl_noR]
  have : l.take (min l.length n) = l.take n := by rw [List.take_eq_take_iff]; omega
  rw [this]; rfl
theorem cp_sl {α : Type} (f : α → List C) {s : Nat} [hf : Cel f s] (e : TypeId) (b o n : Nat) (r : Rt) (l : List α) (u : TypeDesc) (y : Nat) (z : List Value) (he : td P e = some ⟨u, s, y, z⟩) (h : 0 < n) :
    cpP P (some ⟨.slice e, a1, b1, z1⟩) (.sv b o n) (sl f r l) = some (.wr b (fun cells => cpc cells o n s (cl f (l.take n)) (min l.length n)) none) := by
  unfold cpP
  simp only [he]
  have es : src? (sl f r l) = some (l.length, cl f l) := rfl
  rw [es]
  simp only []
  rw [if_pos ⟨cl_len (f := f) l, h⟩]
  congr 2
  funext cells
  unfold cpc
  rw [cl_take, cl_noR]
  have : l.take (min l.length n) = l.take n := by rw [List.take_eq_take_iff]; omega
  rw [this]; rfl
end
end Go.Sx
