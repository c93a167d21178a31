/-
   And what follows.
-/
import Derived.Test.YtcpdlhgkdogdjaaDoorPaf
set_option linter.unusedSimpArgs false
set_option linter.unusedVariables false
namespace Go.Sx
open Go.RowKit
def Mks (G : Gh) (w : World) (ds : List Deferred) : Prop := ds.Nodup ∧ ∀ d ∈ ds,∃ D,d = ⟨.collected D,#[]⟩ ∧ w.heap[D]? = some (.deferred (some [])) ∧ G.T D = none ∧ ∀ b,G.μ b ≠ some D
theorem Mks.nil {G : Gh} {w : World} : Mks G w [] := ⟨List.nodup_nil,fun _ h => by cases h⟩
theorem Mks.frm {G G' : Gh} {w w' : World} {ds : List Deferred} (h : Mks G w ds) (F : Frm G w G' w') : Mks G' w' ds := ⟨h.1,fun d hd => by
  obtain ⟨D,e,h1,h2,h3⟩ := h.2 d hd
  obtain ⟨a1,a2,a3,_⟩ := F.old D (Array.getElem?_eq_some_iff.1 h1).1 h2 h3
  exact ⟨D,e,a1.trans h1,a2,a3⟩⟩
theorem Mks.same {G G' : Gh} {w : World} {ds : List Deferred} (h : Mks G w ds) (hT : ∀ g,G.T g = none → G'.T g = none) (hμ : ∀ g,(∀ b,G.μ b ≠ some g) → ∀ b,G'.μ b ≠ some g) : Mks G' w ds := ⟨h.1,fun d hd => by
  obtain ⟨D,e,h1,h2,h3⟩ := h.2 d hd
  exact ⟨D,e,h1,hT D h2,hμ D h3⟩⟩
structure Sim (cx : Cx) (G : Gh) (w : World) (st : St) (a : Act) : Prop where
  defers : Mks G w a.defers
  size : a.tmps.size = cx.N
  pre : Pre cx G w st a
section
variable {cx : Cx} {G : Gh} {w : World} {st : St} {a : Act} {P : Program}
theorem put_defers (a : Act) (d : Option Nat) (v : Value) : (a.put d v).defers = a.defers := by cases d <;> rfl
theorem av_put_some {d : Nat} (hd : d < a.tmps.size) (v : Value) (t : Nat) : av (a.put (some d) v) t = if t = d then v else av a t := by
  simp only [av,Act.put,Array.getD_eq_getD_getElem?]
  by_cases h : t = d
  · subst h; simp [hd]
  · rw [if_neg h,Array.getElem?_setIfInBounds_ne (Ne.symm h)]
theorem Sim.put (H : Sim cx G w st a) {G' : Gh} {w' : World} {st' : St} {dst : Option Nat} {c : C} {v : Value} (hd : ∀ d,dst = some d → d < cx.N)
    (O : Out G w st' (av a) (match dst with | some d => (0,d,0) | none => (3,0,0)) c v G' w') : Sim cx G' w' ⟨put dst c st'.env,st'.h⟩ (a.put dst v) := by
  have hg : ∀ g,Rep G' (cx.gl g) (.pointer (some ⟨g,0,none⟩)) := fun g => (H.pre.glob g).mono O.frm.le
  cases dst with
  | none =>
    exact ⟨H.defers.frm O.frm,H.size,O.ok,O.env,hg⟩
  | some d =>
    have hd' : d < a.tmps.size := by rw [H.size]; exact hd d rfl
    refine ⟨H.defers.frm O.frm,by simp [Act.put,H.size],O.ok,⟨fun t => ?_,fun t s n xs he => ?_⟩,hg⟩
    · rw [av_put_some hd']
      simp only [Sx.put]
      split
      · exact O.rep
      · exact O.env.1 t
    · rw [av_put_some hd']
      simp only [Sx.put] at he
      split at he
      · rename_i htd
        subst htd
        rw [if_pos rfl]
        exact O.own s n xs he
      · rename_i htd
        rw [if_neg htd]
        exact O.env.2 t s n xs he
theorem wantedS_ok (H : Sim cx G w st a) {ops : Array Oper} {o : Oper} {b : Bool} (h : wantedS ops o st.env = some b) : Region.wanted o (yielded ops a.tmps) = b := by
  unfold wantedS at h
  unfold Region.wanted
  split at h
  · rename_i hg; cases h; rw [hg]
  · rename_i j want hg
    rw [hg]
    simp only [yielded]
    split at h
    · rename_i hd; cases h; rw [hd]; rfl
    · rename_i t hd
      rw [hd]
      simp only [Option.bind_some]
      have hr := (H.pre.env.1 t).noR
      split at h
      · rename_i x hx
        cases h
        rw [hx,rep_val] at hr
        have : a.tmps[t]? = some (.bool x) := by
          simp only [av,Array.getD_eq_getD_getElem?] at hr
          cases hq : a.tmps[t]? with
          | none => rw [hq] at hr; cases hr
          | some u => rw [hq] at hr; simpa using hr
        rw [this]
        cases x <;> cases want <;> rfl
      · rename_i x hx
        cases h
        rw [hx,rep_val] at hr
        cases hq : a.tmps[t]? with
        | none => rfl
        | some u =>
          simp only [av,Array.getD_eq_getD_getElem?,hq,Option.getD_some] at hr
          subst hr
          rfl
      · cases h
theorem step_ok (hcx : CxOK cx) (H : Sim cx G w st a) {ops : Array Oper} {base i : Nat} {st' : St} (h : step cx ops base i st = some st') {r : Option Nat} {K : Act → World → Prop} {Q : Exit → Act → World → Prop}
    (hK : ∀ G' w' a',Sim cx G' w' st' a' → Frm G w G' w' → a'.defers = a.defers → K a' w') : wpOpIn (wF r) 0 cx.P ops Q i K a w := by
  unfold step at h
  unfold wpOpIn
  split at h
  · cases h
  · rename_i o ho
    simp only [ho]
    split at h
    · rename_i hdst
      have hd : ∀ d,o.dst = some d → d < cx.N := fun d e => by rw [e] at hdst; simpa [dstOK] using hdst
      split at h
      · cases h
      · rename_i hw
        cases h
        rw [wantedS_ok H hw]
        simp only [Bool.false_eq_true,if_false]
        exact ⟨fun _ _ => trivial,hK G w _ (H.put hd ⟨rep_val.2 rfl,by simp,H.pre.ok,H.pre.env,Frm.refl G w⟩) (Frm.refl G w) (put_defers _ _ _)⟩
      · rename_i hw
        rw [wantedS_ok H hw]
        simp only [if_true]
        split at h
        · cases h
        · rename_i p hp
          split at h
          · cases h
          · rename_i c st1 hact
            cases h
            exact splan_ok hcx H.pre hp hact _ r K Q fun v G' w' O => hK G' w' _ (H.put hd O) O.frm (put_defers _ _ _)
    · cases h
theorem steps_ok (hcx : CxOK cx) {r : Option Nat} {ops : Array Oper} {base : Nat} {Q : Exit → Act → World → Prop} : ∀ (l : List Nat) {G : Gh} {w : World} {st : St} {a : Act} {st' : St},Sim cx G w st a → steps cx ops base l st = some st' →
    (∀ G' w' a',Sim cx G' w' st' a' → Frm G w G' w' → a'.defers = a.defers → Q .normal a' w') → wpOpsIn (wF r) 0 cx.P ops Q l a w
  | [],G,w,st,a,st',H,h,hQ => by
    simp only [steps,Option.some.injEq] at h
    subst h
    exact hQ G w a H (Frm.refl G w) rfl
  | i :: l,G,w,st,a,st',H,h,hQ => by
    simp only [steps] at h
    cases hs : step cx ops base i st with
    | none => rw [hs] at h; cases h
    | some st1 =>
      rw [hs] at h
      rw [wpOpsIn_cons]
      exact step_ok hcx H hs fun G' w' a' S F e => steps_ok hcx l S h fun G2 w2 a2 S2 F2 e2 => hQ G2 w2 a2 S2 (F.trans F2) (e2.trans e)
theorem at_append_none {h : Hp} (k b : Nat) : Hp.at (h ++ List.replicate k none) b = h.at b := by
  unfold Hp.at
  rw [List.getElem?_append]
  split
  · rfl
  · rename_i hb
    rw [List.getElem?_eq_none (l := h) (by omega)]
    cases hq : (List.replicate k (none : Option (List C)))[b - h.length]? with
    | none => rfl
    | some x =>
      have := List.mem_of_getElem? hq
      rw [List.eq_of_mem_replicate this]
      rfl
theorem mp_append_none {h : Hp} {k b : Nat} : Hp.mp (h ++ List.replicate k none) b = h.mp b := by
  unfold Hp.mp
  rcases Nat.lt_or_ge b h.length with hl | hl
  · rw [List.getElem?_append_left hl]
  · rw [List.getElem?_append_right hl,List.getElem?_eq_none hl]
    cases hq : (List.replicate k (none : Option (List C)))[b - h.length]? with
    | none => rfl
    | some x =>
      have := List.mem_of_getElem? hq
      rw [List.eq_of_mem_replicate this]
      rfl
theorem WorldOK.reserve {h : Hp} (H : WorldOK G h w) (k : Nat) : WorldOK G (h ++ List.replicate k none) w :=
  ⟨H.known,fun b c hb => H.box b c (by rwa [at_append_none] at hb),fun b blk hb => ⟨by
      obtain ⟨⟨c,hc⟩,_⟩ := H.dom b blk hb
      exact ⟨c,by rw [List.getElem?_append_left (List.getElem?_eq_some_iff.1 hc).1]; exact hc⟩,(H.dom b blk hb).2⟩,fun b b' c c' blk x x' => H.inj b b' c c' blk (by rwa [at_append_none] at x) (by rwa [at_append_none] at x'),H.sep,H.tlt,
    fun b cells off s n xs blk v hb hc hm hv => H.own b cells off s n xs blk v (by rwa [at_append_none] at hb) hc hm hv,H.siz,H.mpoT (fun b l x => by rwa [mp_append_none] at x) (fun _ _ _ x => x) (.refl G),H.mpiT (fun b l x => by rwa [mp_append_none] at x) (fun _ _ _ _ x => x)⟩
theorem Sim.reserve (H : Sim cx G w st a) (k : Nat) : Sim cx G w ⟨st.env,st.h ++ List.replicate k none⟩ a :=
  ⟨H.defers,H.size,H.pre.ok.reserve k,H.pre.env,H.pre.glob⟩
theorem Sim.drew (H : Sim cx G w st a) : Sim cx G w.drew st a ∧ Frm G w G w.drew := by
  have e : Ext G w G w.drew := Ext.same rfl rfl rfl rfl
  exact ⟨⟨H.defers.frm (e.frm H.pre.ok),H.size,H.pre.ok.same rfl,e.env H.pre.ok H.pre.env,H.pre.glob⟩,e.frm H.pre.ok⟩
theorem region_ok (hcx : CxOK cx) {r : Option Nat} (H : Sim cx G w st a) {id : Nat} {ops : Array Oper} {st' : St} (h : sregion cx ops st = some st') {Q : Exit → Act → World → Prop}
    (hQ : ∀ G' w' a',Sim cx G' w' st' a' → Frm G w G' w' → a'.defers = a.defers → Q .normal a' w') : (Code.region id ops false).wpIn (wF r) 0 cx.P Q a w :=
  wpIn_region (steps_ok hcx _ (H.reserve _) h hQ)
end
end Go.Sx
namespace Go.Sx
open Go.RowKit
abbrev FP := Nat × Nat
def fpOf (id : Nat) (h : Hp) : Plan → FP
  | .val _ _ => (0,0)
  | .rd b _ => (1,b)
  | .wr b _ _ => (2,b)
  | .xr b _ => (3,b)
  | .new _ _ => (2,id)
  | .call _ _ => (4,0)
  | .mo _ => (4,0)
  | .ap none _ _ f => if (f []).isSome = true then (5,h.length) else (4,0)
  | .ap (some _) _ _ _ => (4,0)
def noConf (p q : FP) : Bool := p.1 == 0 || q.1 == 0 || (p.1 != 4 && p.1 != 5 && q.1 != 4 && q.1 != 5 && (p.2 != q.2 || (p.1 == 1 && q.1 == 1) || (p.1 == 1 && q.1 == 3) || (p.1 == 3 && q.1 == 1))) ||
  (p.1 != 4 && p.1 != 5 && q.1 == 5) || (p.1 == 5 && q.1 != 4 && q.1 != 5 && p.2 != q.2)
def eff (cx : Cx) (ops : Array Oper) (id : Nat) (o : Oper) (st : St) : Option (C × Option Nat × Hp × FP) :=
  match wantedS ops o st.env with
  | none => none
  | some false => some (.val undef,none,st.h,(0,0))
  | some true => match splan cx ops o st.env with
    | none => none
    | some p => (actH cx id p st.h).map fun r => (r.1,r.2.1,r.2.2,fpOf id st.h p)
def stepF (cx : Cx) (ops : Array Oper) (base i : Nat) (st : St) : Option (St × FP) :=
  match ops[i]? with
  | none => none
  | some o => if dstOK cx.N o.dst = true then (eff cx ops (base + cnt ops i) o st).map fun r => (⟨put o.dst r.1 (killS r.2.1 st.env),r.2.2.1⟩,r.2.2.2) else none
theorem stepF_step {cx : Cx} {ops : Array Oper} {base i : Nat} {st : St} : step cx ops base i st = (stepF cx ops base i st).map (·.1) := by
  unfold step stepF
  cases ops[i]? with
  | none => rfl
  | some o =>
    simp only []
    by_cases hd : dstOK cx.N o.dst = true
    · rw [if_pos hd,if_pos hd]
      unfold eff
      cases wantedS ops o st.env with
      | none => rfl
      | some b =>
        cases b with
        | false => rfl
        | true =>
          simp only []
          cases splan cx ops o st.env with
          | none => rfl
          | some p =>
            simp only [act]
            cases actH cx (base + cnt ops i) p st.h <;> rfl
    · rw [if_neg hd,if_neg hd]; rfl
def ownSlots (ops : Array Oper) (o : Oper) : List Nat :=
  match o.op with
  | .move x => if isMv ops o.dst then (tmp? x).toList else []
  | .assign x => (tmp? x).toList
  | .store _ _ y => (tmp? y).toList
  | .call { callee := .builtin .append,args,.. } => match args.toList with
    | x :: _ => (tmp? x).toList
    | [] => []
  | _ => []
def apart (ops : Array Oper) (x y : Oper) : Bool := Oper.apart ops x y && (ownSlots ops x).all fun t => !(ownSlots ops y).contains t
section
variable {cx : Cx} {G : Gh} {w : World} {st : St} {a : Act} {P : Program}
theorem evn_congr {env env' : Nat → C} {x : Operand} (h : ∀ t,x = .tmp t → (env t).noR = (env' t).noR) : cx.evn env x = cx.evn env' x := by
  cases x with
  | tmp t => exact h t rfl
  | _ => rfl
theorem ev_congr {env env' : Nat → C} {x : Operand} (h : ∀ t,tmp? x = some t → env t = env' t) : cx.ev env x = cx.ev env' x := by
  cases x with
  | tmp t => exact h t rfl
  | _ => rfl
theorem splan_congr {ops : Array Oper} {o : Oper} {env env' : Nat → C} (h : ∀ t ∈ o.looksAt ops,(env t).noR = (env' t).noR) (h2 : ∀ t ∈ ownSlots ops o,env t = env' t) :
    splan cx ops o env = splan cx ops o env' := by
  have hE : ∀ x ∈ o.op.operands,cx.evn env x = cx.evn env' x := fun x hx => evn_congr fun t ht => h t (by
    subst ht
    exact List.mem_append_left _ (List.mem_filterMap.2 ⟨.tmp t,by simpa using hx,rfl⟩))
  obtain ⟨dst,op,type,pos,after,guard⟩ := o
  unfold splan
  cases op <;> simp only [Op.operands] at hE <;> simp only [] <;> try rfl
  case move x =>
    cases x with
    | tmp p =>
      simp only []
      simp only [ownSlots,tmp?] at h2
      split
      · rename_i ha
        rw [if_pos ha] at h2
        rw [h2 p (by simp)]
      · have := hE (.tmp p) (by simp)
        simp only [Cx.evn,Cx.ev] at this
        rw [this]
    | _ => rfl
  case assign x =>
    rw [ev_congr (cx := cx) (env := env) (env' := env') fun t ht => h2 t (by simp [ownSlots,ht])]
  case pick c x y => simp only [hE c (by simp),hE x (by simp),hE y (by simp)]
  case box t x => rw [hE x (by simp)]
  case build t ps =>
    have : (ps.toList.map fun x => (x.1,cx.evn env x.2)) = ps.toList.map fun x => (x.1,cx.evn env' x.2) := List.map_congr_left fun x hx => by
      rw [hE x.2 (by simp; exact ⟨x.1,by simpa using hx⟩)]
    rw [this]
  case buildSlice t n ps =>
    have : (ps.toList.map fun x => (x.1,cx.evn env x.2)) = ps.toList.map fun x => (x.1,cx.evn env' x.2) := List.map_congr_left fun x hx => by
      rw [hE x.2 (by simp; exact ⟨x.1,by simpa using hx⟩)]
    rw [this]
  case load t x => rw [hE x (by simp)]
  case store t x y =>
    rw [hE x (by simp),ev_congr (cx := cx) (x := y) (env := env) (env' := env') fun t ht => h2 t (by simp [ownSlots,ht])]
  case nilCheck x => rw [hE x (by simp)]
  case binOp op t x y yt => rw [hE x (by simp),hE y (by simp)]
  case unOp op t x => rw [hE x (by simp)]
  case convert s t x => rw [hE x (by simp)]
  case sliceToArrayPointer t x => rw [hE x (by simp)]
  case makeFunc fn first caps =>
    cases fn <;> try rfl
    rename_i f
    have : (caps.toList.map fun x => (cx.evn env x).share) = caps.toList.map fun x => (cx.evn env' x).share := List.map_congr_left fun x hx => by
      rw [hE x (by simp; exact .inr (by simpa using hx))]
    simp only [this]
  case makeSlice t l c => rw [hE l (by simp),hE c (by simp)]
  case slice t x lo hi mx =>
    have e1 : lo.map (cx.evn env) = lo.map (cx.evn env') := by cases lo with | none => rfl | some q => simp only [Option.map_some]; rw [hE q (by simp)]
    have e2 : hi.map (cx.evn env) = hi.map (cx.evn env') := by cases hi with | none => rfl | some q => simp only [Option.map_some]; rw [hE q (by simp)]
    have e3 : mx.map (cx.evn env) = mx.map (cx.evn env') := by cases mx with | none => rfl | some q => simp only [Option.map_some]; rw [hE q (by simp)]
    rw [hE x (by simp),e1,e2,e3]
  case fieldAddr t x f => rw [hE x (by simp)]
  case field t x f => rw [hE x (by simp)]
  case indexAddr t x i => rw [hE x (by simp),hE i (by simp)]
  case index t x i => rw [hE x (by simp),hE i (by simp)]
  case extract x i => rw [hE x (by simp)]
  case makeMap t r => cases r <;> rfl
  case lookup t x k ok => rw [hE x (by simp),hE k (by simp)]
  case mapUpdate t m k x => rw [hE m (by simp),hE k (by simp),hE x (by simp)]
  case call c =>
    obtain ⟨callee,args,ts⟩ := c
    cases callee with
    | invoke r m => rfl
    | builtin b =>
      simp only []
      have hA : ∀ x ∈ args.toList,cx.evn env x = cx.evn env' x := fun x hx => hE x (by simpa [Call.operands] using hx)
      split
      · rename_i x t ha ht; rw [hA x (by rw [ha]; simp)]
      · rename_i x y t t2 ha ht
        rw [hA y (by rw [ha]; simp),hA x (by rw [ha]; simp),ev_congr (cx := cx) (x := x) (env := env) (env' := env') fun t ht => h2 t (by simp [ownSlots,ha,ht])]
      · rename_i x y t t2 ha ht; rw [hA x (by rw [ha]; simp),hA y (by rw [ha]; simp)]
      · rename_i x y ha; rw [hA x (by rw [ha]; simp),hA y (by rw [ha]; simp)]
      · rename_i x y ha; rw [hA x (by rw [ha]; simp),hA y (by rw [ha]; simp)]
      · rename_i x y t t2 ha ht; rw [hA x (by rw [ha]; simp),hA y (by rw [ha]; simp)]
      · rfl
    | value f =>
      simp only []
      have hA : args.toList.map (cx.evn env) = args.toList.map (cx.evn env') := List.map_congr_left fun x hx => hE x (by simp [Call.operands]; exact .inr (by simpa using hx))
      rw [hE f (by simp [Call.operands]),hA]
theorem wanted_congr {ops : Array Oper} {o : Oper} {env env' : Nat → C} (h : ∀ t ∈ o.looksAt ops,(env t).noR = (env' t).noR) : wantedS ops o env = wantedS ops o env' := by
  unfold wantedS
  cases hg : o.guard with
  | none => rfl
  | some g =>
    obtain ⟨j,want⟩ := g
    simp only []
    cases hd : (ops[j]?).bind (·.dst) with
    | none => rfl
    | some t =>
      simp only []
      rw [h t (List.mem_append_right _ (by simp [hg,hd]))]
def NR (f : List C → Option C) : Prop := ∀ (cells : List C) (i : Nat) (x : C),cells[i]? = some x → f (cells.set i x.noR) = f cells
theorem map_noR_set {cells : List C} {i : Nat} {x : C} (h : cells[i]? = some x) : (cells.set i x.noR).map C.noR = cells.map C.noR := by
  apply List.ext_getElem?
  intro j
  simp only [List.getElem?_map,List.getElem?_set]
  split
  · rename_i hij
    subst hij
    have hlt := (List.getElem?_eq_some_iff.1 h).1
    rw [h]
    split
    · cases x with
      | sl r n xs => cases r <;> rfl
      | _ => rfl
    · omega
  · rfl
theorem nr_of {f : List C → Option C} (g : List C → Option C) (h : ∀ cells,f cells = g (cells.map C.noR)) : NR f := fun cells i x hx => by
  rw [h,h,map_noR_set hx]
theorem nr_getAt (d : TD) (off : Nat) : NR fun cells => getAt d cells off :=
  nr_of (fun cs => if d.isAgg then (if off + d.size ≤ cs.length then some (.agg ((cs.drop off).take d.size)) else none) else cs[off]?) fun cells => by
    simp only [getAt,List.length_map,List.map_take,List.map_drop,List.getElem?_map]
theorem u8s?_noR : ∀ (xs : List C),u8s? xs = u8s? (xs.map C.noR)
  | [] => rfl
  | c :: xs => by
    cases c with
    | val v =>
      cases v with
      | int k n =>
        cases k <;> simp only [List.map_cons,C.noR,u8s?]
        rw [u8s?_noR xs]
      | _ => rfl
    | sl r n ys => cases r <;> rfl
    | _ => rfl
theorem part_noR {cells : List C} {i : Nat} {x : C} (h : cells[i]? = some x) (o n : Nat) : (((cells.set i x.noR).drop o).take n).map C.noR = ((cells.drop o).take n).map C.noR := by
  simp only [List.map_take,List.map_drop,map_noR_set h]
def Plan.nr : Plan → Prop
  | .rd _ f => NR f
  | .ap none _ _ f => (f []).isSome = true → ∀ h,f h = f []
  | _ => True
theorem conv_nr {s d : TypeId} {c : C} {p : Plan} (h : convPlan P s d c = some p) : p.nr := by
  unfold convPlan at h
  repeat' split at h
  all_goals first
    | (cases h; done)
    | (cases h; trivial)
    | skip
  · cases h
    simp only [Plan.nr]
    intro cells i x hx
    simp only [List.length_set]
    rw [u8s?_noR,part_noR hx,← u8s?_noR]
  · rename_i n xs _ _
    cases hq : u8s? xs with
    | none => rw [hq] at h; cases h
    | some ns => rw [hq] at h; cases h; trivial
theorem load_nr {own : Bool} {t : TypeId} {c : C} {p : Plan} (h : loadPlan P own t c = some p) : p.nr := by
  unfold loadPlan at h
  split at h
  · cases h
  · rename_i d hd
    split at h
    · split at h
      · cases h; trivial
      · cases h; exact nr_getAt d _
    · cases hq : getAt d _ loadPlan.off0 with
      | none => rw [hq] at h; cases h
      | some x => rw [hq] at h; cases h; trivial
    · cases h
theorem append_nr {t t2 : TypeId} {x y : C} {k : Option Nat} {p : Plan} (h : appendPlan P t t2 x y k = some p) : p.nr := by
  unfold appendPlan at h
  split at h
  · cases h
  · cases h
  split at h
  · cases h
  split at h
  · split at h
    · cases h
    simp only [] at h
    split at h
    · cases h
    split at h
    · split at h
      · cases h; trivial
      · cases h
        simp only [Plan.nr]
        intro cells i x hx
        simp only [List.length_set,part_noR hx]
    · split at h
      · rename_i m ys _
        split at h
        · cases h; trivial
        · cases h
      · cases h
  · cases h
theorem nr_map {α : Type} {x : Option α} {g : α → Plan} {p : Plan} (h : x.map g = some p) (hg : ∀ y,(g y).nr) : p.nr := by
  cases x with
  | none => cases h
  | some y => cases h; exact hg y
theorem frz1_set {b : Nat} {cells : List C} {i : Nat} {x : C} (hx : cells[i]? = some x) (c : C) : frz1 b (cells.set i x.noR) c = frz1 b cells c := by
  have hm : ∀ k,((cells.set i x.noR).drop k).map C.noR = (cells.drop k).map C.noR := fun k => by
    apply List.ext_getElem?
    intro j
    simp only [List.getElem?_map,List.getElem?_drop,List.getElem?_set]
    split
    · rename_i e; subst e
      rw [hx]
      split
      · simp only [Option.map_some]
        congr 1
        cases x with
        | sl r n xs => cases r <;> rfl
        | _ => rfl
      · rename_i hlt
        exact absurd (List.getElem?_eq_some_iff.1 hx).1 hlt
    · rfl
  cases c with
  | sv b' off n =>
    simp only [frz1,List.length_set]
    split
    · rw [List.map_take,List.map_take,hm]
    · rfl
  | bp b' off => simp only [frz1,hm]
  | gv b' n s =>
    simp only [frz1,List.length_set]
    split
    · have := hm 0
      simp only [List.drop_zero] at this
      rw [List.map_take,List.map_take,this]
    · rfl
  | _ => rfl
theorem frzs1_set {b : Nat} {cells : List C} {i : Nat} {x : C} (hx : cells[i]? = some x) : ∀ az : List C,frzs1 b (cells.set i x.noR) az = frzs1 b cells az
  | [] => rfl
  | c :: l => by simp only [frzs1,frz1_set hx,frzs1_set hx l]
theorem rdPu_nr (g : Nat) (az : List C) (b : Nat) : NR (rdPu cx g az b) := fun cells i x hx => by
  unfold rdPu; rw [frzs1_set hx]
theorem rdE_nr (g : Nat) (az : List C) (b : Nat) : NR (rdE cx g az b) := fun cells i x hx => by
  unfold rdE; rw [map_noR_set hx]
theorem nr_ap {b : Option (Nat × Nat)} {s : Nat × Nat} {m : Nat} {f : Hp → Option (List C)} (h : (f []).isSome = true → ∀ h,f h = f []) : (Plan.ap b s m f).nr := by
  cases b with
  | none => exact h
  | some q => trivial
theorem growInt_ap {d d2 : TD} {x y : C} {p : Plan} (h : growInt P d d2 x y = some p) : ∃ b s m f,p = .ap b s m f ∧ p.nr := by
  unfold growInt at h
  repeat' split at h
  all_goals first | (cases h; done) | (cases h; exact ⟨_,_,_,_,rfl,nr_ap fun _ _ => rfl⟩)
theorem growPlan_ap {t t2 : TypeId} {x y : C} {p : Plan} (h : growPlan P t t2 x y = some p) : ∃ b s m f,p = .ap b s m f ∧ p.nr := by
  unfold growPlan at h
  simp only [] at h
  repeat' split at h
  all_goals first | (cases h; done) | exact growInt_ap h | (cases h; refine ⟨_,_,_,_,rfl,nr_ap ?_⟩)
  all_goals first | exact fun _ _ => rfl | (intro hs; exact absurd hs (by simp [Hp.at]))
theorem convG_ap {s d : TypeId} {c : C} {p : Plan} (h : convG P s d c = some p) : ∃ b s m f,p = .ap b s m f ∧ p.nr := by
  unfold convG at h
  repeat' split at h
  all_goals first | (cases h; done) | (cases h; exact ⟨_,_,_,_,rfl,fun _ _ => rfl⟩)
theorem sliceG_val {t : TypeId} {b n : Nat} {s : Nat × Nat} {hi : Option C} {p : Plan} (h : sliceG P t b n s hi = some p) : ∃ c,p = .val c none := by
  unfold sliceG at h
  repeat' split at h
  all_goals first | (cases h; done) | (cases h; exact ⟨_,rfl⟩)
theorem splan_nr {ops : Array Oper} {o : Oper} {env : Nat → C} {p : Plan} (h : splan cx ops o env = some p) : p.nr := by
  unfold splan at h
  simp only [] at h
  split at h
  case h_8 => exact load_nr h
  case h_13 =>
    split at h
    · obtain ⟨_,_,_,_,_,hn⟩ := convG_ap h; exact hn
    · exact conv_nr h
  case h_23 =>
    split at h
    · split at h
      case h_2 =>
        split at h
        · obtain ⟨_,_,_,_,_,hn⟩ := growPlan_ap h; exact hn
        · exact append_nr h
      all_goals
        try simp only [lenPlan,copyPlan,minMax,mdelPlan] at h
        repeat' split at h
        all_goals first | (cases h; done) | (cases h; trivial) | exact nr_map h fun _ => trivial
    · simp only [callPlan] at h
      repeat' split at h
      all_goals first | (cases h; done) | (cases h; exact rdPu_nr _ _ _) | (cases h; exact rdE_nr _ _ _) | (cases h; trivial)
    · cases h
  all_goals
    try simp only [storePlan,slicePlan,indexAddrPlan,indexPlan,fieldPlan,fieldAddrPlan,binPlan,eqPlan,unPlan,mnewPlan,mlookPlan,mputPlan] at h
    repeat' split at h
    all_goals first | (cases h; done) | (cases h; trivial) | exact nr_map h fun _ => trivial | exact nr_map h (fun _ => (fun _ _ => rfl)) | exact nr_map h fun _ => (by split <;> first | trivial | exact fun _ _ => rfl) | (obtain ⟨_,rfl⟩ := sliceG_val h; trivial)
def locP (id : Nat) : Plan → Option (Nat × (Option (List C) → Option (C × Option Nat × Option (List C))))
  | .rd b f => some (b,fun e => ((liveC e).bind f).map fun c => (c,none,e))
  | .wr b f k => some (b,fun e => ((liveC e).bind f).map fun r => (r.2,k,some r.1))
  | .xr b off => some (b,fun e => (liveC e).bind fun cells => (cells[off]?).map fun x => (x,none,some (cells.set off x.noR)))
  | .new cells g => some (id,fun e => match e with | none => some (g id,none,some cells) | some _ => none)
  | _ => none
theorem live_setR {cells : List C} {off : Nat} {x : C} (h : liveC (some cells) = some cells) (hx : cells[off]? = some x) : liveC (some (cells.set off x.noR)) = some (cells.set off x.noR) := by
  cases cells with
  | nil => rfl
  | cons y l =>
    cases off with
    | zero =>
      simp only [List.getElem?_cons_zero,Option.some.injEq] at hx
      subst hx
      simp only [List.set_cons_zero]
      cases y with
      | tup xs => cases h
      | sl r n xs => cases r <;> rfl
      | _ => rfl
    | succ k =>
      simp only [List.set_cons_succ]
      cases y with
      | tup xs => cases h
      | _ => rfl
theorem actH_loc {id b : Nat} {p : Plan} {l : Option (List C) → Option (C × Option Nat × Option (List C))} (h : locP id p = some (b,l)) (hp : Hp) :
    actH cx id p hp = (hp[b]?).bind fun e => (l e).map fun r => (r.1,r.2.1,hp.set b r.2.2) := by
  cases p <;> simp only [locP,Option.some.injEq,Prod.mk.injEq,reduceCtorEq] at h
  case rd b' f =>
    obtain ⟨rfl,rfl⟩ := h
    simp only [actH,Hp.at]
    cases hq : hp[b']? with
    | none => rfl
    | some e =>
      simp only [Option.bind_some,id_eq]
      cases hf : (liveC e).bind f with
      | none => rfl
      | some c =>
        simp only [Option.map_some]
        have : hp.set b' e = hp := by
          apply List.ext_getElem?
          intro j
          rw [List.getElem?_set]
          split
          · rename_i hj; subst hj
            have := (List.getElem?_eq_some_iff.1 hq).1
            simp [this,hq]
            have := (List.getElem?_eq_some_iff.1 hq).2
            exact this.symm
          · rfl
        rw [this]
  case wr b' f k =>
    obtain ⟨rfl,rfl⟩ := h
    simp only [actH,Hp.at]
    cases hq : hp[b']? with
    | none => rfl
    | some e =>
      simp only [Option.bind_some,id_eq]
      cases hf : (liveC e).bind f <;> rfl
  case xr b' off =>
    obtain ⟨rfl,rfl⟩ := h
    simp only [actH,Hp.at]
    cases hq : hp[b']? with
    | none => rfl
    | some e =>
      simp only [Option.bind_some]
      cases liveC e with
      | none => rfl
      | some cells =>
        simp only [Option.bind_some,id_eq]
        cases cells[off]? <;> rfl
  case new cells g =>
    obtain ⟨rfl,rfl⟩ := h
    simp only [actH]
    cases hq : hp[id]? with
    | none => rfl
    | some e => cases e <;> rfl
theorem fp_loc {id : Nat} {h : Hp} {p : Plan} (h0 : (fpOf id h p).1 ≠ 0) (h4 : (fpOf id h p).1 ≠ 4) (h5 : (fpOf id h p).1 ≠ 5) : ∃ l,locP id p = some ((fpOf id h p).2,l) := by
  cases p with
  | ap b s m f =>
    cases b with
    | none =>
      simp only [fpOf] at h4 h5
      split at h4
      · rename_i e; rw [if_pos e] at h5; exact absurd rfl h5
      · exact absurd rfl h4
    | some q => exact absurd rfl h4
  | val c k => exact absurd rfl h0
  | call f az => exact absurd rfl h4
  | mo f => exact absurd rfl h4
  | _ => exact ⟨_,rfl⟩
theorem no_ap {id m : Nat} {s : Nat × Nat} {h : Hp} {b : Option (Nat × Nat)} {f : Hp → Option (List C)} (h4 : (fpOf id h (.ap b s m f)).1 ≠ 4) (h5 : (fpOf id h (.ap b s m f)).1 ≠ 5) : False := by
  cases b with
  | none =>
    simp only [fpOf] at h4 h5
    split at h4
    · rename_i e; rw [if_pos e] at h5; exact h5 rfl
    · exact h4 rfl
  | some q => exact h4 rfl
theorem fp_5 {id : Nat} {h : Hp} {p : Plan} (h5 : (fpOf id h p).1 = 5) : ∃ s m f,p = .ap none s m f ∧ (f []).isSome = true ∧ (fpOf id h p).2 = h.length := by
  cases p with
  | ap b s m f =>
    cases b with
    | none =>
      simp only [fpOf] at h5 ⊢
      split at h5
      · rename_i e; exact ⟨s,m,f,rfl,e,by rw [if_pos e]⟩
      · cases h5
    | some q => cases h5
  | _ => cases h5
theorem fp_len {id : Nat} {h h' : Hp} {p : Plan} (e : h.length = h'.length) : fpOf id h p = fpOf id h' p := by
  cases p with
  | ap b s m f => cases b <;> simp only [fpOf,e]
  | _ => rfl
theorem loc_len {cx : Cx} {id b : Nat} {p : Plan} {l : Option (List C) → Option (C × Option Nat × Option (List C))} (h : locP id p = some (b,l)) {hp h' : Hp} {c : C} {k : Option Nat} (e : actH cx id p hp = some (c,k,h')) : h'.length = hp.length := by
  rw [actH_loc h] at e
  cases hq : hp[b]? with
  | none => rw [hq] at e; cases e
  | some x =>
    rw [hq] at e
    simp only [Option.bind_some] at e
    cases hl : l x with
    | none => rw [hl] at e; cases e
    | some r =>
      rw [hl] at e
      simp only [Option.map_some,Option.some.injEq,Prod.mk.injEq] at e
      obtain ⟨_,_,rfl⟩ := e
      exact List.length_set
theorem ap_after {idk idi b m : Nat} {s : Nat × Nat} {pk : Plan} {l : Option (List C) → Option (C × Option Nat × Option (List C))} {f : Hp → Option (List C)} {h h1 h2 : Hp} {ck ci : C} {kk ki : Option Nat} (hl : locP idk pk = some (b,l)) (hf : ∀ h,f h = f [])
    (e1 : actH cx idk pk h = some (ck,kk,h1)) (e2 : actH cx idi (.ap none s m f) h1 = some (ci,ki,h2)) : ∃ h1',actH cx idi (.ap none s m f) h = some (ci,ki,h1') ∧ actH cx idk pk h1' = some (ck,kk,h2) := by
  have hlen := loc_len hl e1
  rw [actH_loc hl] at e1
  have ea : ∀ g : Hp,actH cx idi (.ap none s m f) g = (f g).bind fun cs => some (.gv g.length m s,none,g ++ [some (cs.map C.noR)]) := fun g => rfl
  rw [ea,hf h1] at e2
  rw [ea,hf h]
  cases hcs : f [] with
  | none => rw [hcs] at e2; cases e2
  | some cs =>
    rw [hcs] at e2
    simp only [Option.bind_some,Option.some.injEq,Prod.mk.injEq] at e2
    obtain ⟨rfl,rfl,rfl⟩ := e2
    refine ⟨h ++ [some (cs.map C.noR)],by simp only [Option.bind_some,hlen],?_⟩
    rw [actH_loc hl]
    cases hq : h[b]? with
    | none => rw [hq] at e1; cases e1
    | some x =>
      have hlt : b < h.length := (List.getElem?_eq_some_iff.1 hq).1
      rw [hq] at e1
      rw [List.getElem?_append_left hlt,hq]
      simp only [Option.bind_some] at e1 ⊢
      cases hx : l x with
      | none => rw [hx] at e1; cases e1
      | some r =>
        rw [hx] at e1
        simp only [Option.map_some,Option.some.injEq,Prod.mk.injEq] at e1 ⊢
        obtain ⟨rfl,rfl,rfl⟩ := e1
        refine ⟨rfl,rfl,?_⟩
        rw [List.set_append,if_pos hlt]
theorem ap_before {idk idi b m : Nat} {s : Nat × Nat} {pi : Plan} {l : Option (List C) → Option (C × Option Nat × Option (List C))} {f : Hp → Option (List C)} {h h1 h2 : Hp} {ck ci : C} {kk ki : Option Nat} (hl : locP idi pi = some (b,l)) (hf : ∀ h,f h = f []) (hb : h.length ≠ b)
    (e1 : actH cx idk (.ap none s m f) h = some (ck,kk,h1)) (e2 : actH cx idi pi h1 = some (ci,ki,h2)) : ∃ h1',actH cx idi pi h = some (ci,ki,h1') ∧ actH cx idk (.ap none s m f) h1' = some (ck,kk,h2) := by
  rw [actH_loc hl] at e2
  have ea : ∀ g : Hp,actH cx idk (.ap none s m f) g = (f g).bind fun cs => some (.gv g.length m s,none,g ++ [some (cs.map C.noR)]) := fun g => rfl
  rw [ea,hf h] at e1
  simp only [ea]
  cases hcs : f [] with
  | none => rw [hcs] at e1; cases e1
  | some cs =>
    rw [hcs] at e1
    simp only [Option.bind_some,Option.some.injEq,Prod.mk.injEq] at e1
    obtain ⟨rfl,rfl,rfl⟩ := e1
    cases hq : (h ++ [some (cs.map C.noR)])[b]? with
    | none => rw [hq] at e2; cases e2
    | some x =>
      have hlt' := (List.getElem?_eq_some_iff.1 hq).1
      have hlt : b < h.length := by simp at hlt'; omega
      rw [List.getElem?_append_left hlt] at hq
      rw [List.getElem?_append_left hlt,hq] at e2
      simp only [Option.bind_some] at e2
      cases hx : l x with
      | none => rw [hx] at e2; cases e2
      | some r =>
        rw [hx] at e2
        simp only [Option.map_some,Option.some.injEq,Prod.mk.injEq] at e2
        obtain ⟨rfl,rfl,rfl⟩ := e2
        refine ⟨h.set b r.2.2,?_,?_⟩
        · rw [actH_loc hl,hq]
          simp only [Option.bind_some,hx,Option.map_some]
        · rw [hf,hcs]
          simp only [Option.bind_some,List.length_set,Option.some.injEq,Prod.mk.injEq,true_and]
          rw [List.set_append,if_pos hlt]
theorem actH_comm {idk idi : Nat} {pk pi : Plan} {h h1 h2 : Hp} {ck ci : C} {kk ki : Option Nat} (e1 : actH cx idk pk h = some (ck,kk,h1)) (e2 : actH cx idi pi h1 = some (ci,ki,h2))
    (hc : noConf (fpOf idk h pk) (fpOf idi h1 pi) = true) (nk : pk.nr) (ni : pi.nr) : ∃ h1',actH cx idi pi h = some (ci,ki,h1') ∧ actH cx idk pk h1' = some (ck,kk,h2) ∧ fpOf idi h pi = fpOf idi h1 pi ∧ fpOf idk h1' pk = fpOf idk h pk := by
  suffices hh : ∃ h1',actH cx idi pi h = some (ci,ki,h1') ∧ actH cx idk pk h1' = some (ck,kk,h2) by
    obtain ⟨h1',q1,q2⟩ := hh
    refine ⟨h1',q1,q2,?_⟩
    have lenk : (fpOf idk h pk).1 ≠ 4 → (fpOf idk h pk).1 ≠ 5 → h1.length = h.length := fun h4 h5 => by
      by_cases k0 : (fpOf idk h pk).1 = 0
      · cases pk with
        | val c k => simp only [actH,Option.some.injEq,Prod.mk.injEq] at e1; rw [e1.2.2]
        | ap b s m f => cases b with
          | none => simp only [fpOf] at k0; split at k0 <;> cases k0
          | some q => cases k0
        | _ => cases k0
      · obtain ⟨l,hl⟩ := fp_loc k0 h4 h5; exact loc_len hl e1
    have leni : (fpOf idi h1 pi).1 ≠ 4 → (fpOf idi h1 pi).1 ≠ 5 → h1'.length = h.length := fun h4 h5 => by
      by_cases i0 : (fpOf idi h1 pi).1 = 0
      · cases pi with
        | val c k => simp only [actH,Option.some.injEq,Prod.mk.injEq] at q1; rw [q1.2.2]
        | ap b s m f => cases b with
          | none => simp only [fpOf] at i0; split at i0 <;> cases i0
          | some q => cases i0
        | _ => cases i0
      · obtain ⟨l,hl⟩ := fp_loc i0 h4 h5; exact loc_len hl q1
    have free : ∀ {id : Nat} {h h' : Hp} {p : Plan},(fpOf id h p).1 ≠ 5 → fpOf id h' p = fpOf id h p := fun {id h h' p} h5 => by
      cases p with
      | ap b s m f => cases b with
        | none =>
          simp only [fpOf] at h5 ⊢
          split at h5
          · exact absurd rfl h5
          · rename_i e; rw [if_neg e,if_neg e]
        | some q => rfl
      | _ => rfl
    refine ⟨?_,?_⟩
    · by_cases i5 : (fpOf idi h1 pi).1 = 5
      · refine fp_len (lenk ?_ ?_).symm <;> (intro e; simp [noConf,e,i5] at hc)
      · exact free i5
    · by_cases k5 : (fpOf idk h pk).1 = 5
      · refine fp_len (leni ?_ ?_) <;> (intro e; simp [noConf,e,k5] at hc)
      · exact free k5
  by_cases k0 : (fpOf idk h pk).1 = 0
  · obtain ⟨c,k,rfl⟩ : ∃ c k,pk = .val c k := by
      cases pk with
      | val c k => exact ⟨c,k,rfl⟩
      | ap b s m f => cases b with
        | none => simp only [fpOf] at k0; split at k0 <;> cases k0
        | some q => cases k0
      | _ => cases k0
    simp only [actH,Option.some.injEq,Prod.mk.injEq] at e1 ⊢
    obtain ⟨rfl,rfl,rfl⟩ := e1
    exact ⟨h2,e2,rfl,rfl,rfl⟩
  by_cases i0 : (fpOf idi h1 pi).1 = 0
  · obtain ⟨c,k,rfl⟩ : ∃ c k,pi = .val c k := by
      cases pi with
      | val c k => exact ⟨c,k,rfl⟩
      | ap b s m f => cases b with
        | none => simp only [fpOf] at i0; split at i0 <;> cases i0
        | some q => cases i0
      | _ => cases i0
    simp only [actH,Option.some.injEq,Prod.mk.injEq] at e2 ⊢
    obtain ⟨rfl,rfl,rfl⟩ := e2
    exact ⟨h,⟨rfl,rfl,rfl⟩,e1⟩
  have k4 : (fpOf idk h pk).1 ≠ 4 := fun e => by simp [noConf,k0,i0,e] at hc
  have i4 : (fpOf idi h1 pi).1 ≠ 4 := fun e => by simp [noConf,k0,i0,e] at hc
  by_cases k5 : (fpOf idk h pk).1 = 5
  · have i5 : (fpOf idi h1 pi).1 ≠ 5 := fun e => by simp [noConf,k5,e] at hc
    have hne : (fpOf idk h pk).2 ≠ (fpOf idi h1 pi).2 := fun e => by simp [noConf,k0,i0,k5,e] at hc
    obtain ⟨l,hl⟩ := fp_loc i0 i4 i5
    obtain ⟨s,m,f,rfl,hs,h2'⟩ := fp_5 k5
    rw [h2'] at hne
    exact ap_before hl (nk hs) hne e1 e2
  by_cases i5 : (fpOf idi h1 pi).1 = 5
  · obtain ⟨l,hl⟩ := fp_loc k0 k4 k5
    obtain ⟨s,m,f,rfl,hs,_⟩ := fp_5 i5
    exact ap_after hl (ni hs) e1 e2
  replace hc : noConf (fpOf idk h pk) (fpOf idi h pi) = true := by
    have : fpOf idi h pi = fpOf idi h1 pi := fp_len (by
      obtain ⟨l,hl⟩ := fp_loc k0 k4 k5; exact (loc_len hl e1).symm)
    rwa [this]
  have hfi : fpOf idi h1 pi = fpOf idi h pi := fp_len (by
    obtain ⟨l,hl⟩ := fp_loc k0 k4 k5; exact loc_len hl e1)
  rw [hfi] at i0 i4 i5
  by_cases hb : (fpOf idk h pk).2 = (fpOf idi h pi).2
  · cases pk with
    | val c k => exact absurd rfl k0
    | call f az => exact absurd rfl k4
    | mo f => exact absurd rfl k4
    | ap b' s m ys => exact (no_ap k4 k5).elim
    | wr b f k => cases pi with
      | val c k => exact absurd rfl i0
      | call f az => exact absurd rfl i4
      | mo f => exact absurd rfl i4
      | ap b'' s m ys => exact (no_ap i4 i5).elim
      | _ => simp [noConf,fpOf] at hc hb; omega
    | new cells g => cases pi with
      | val c k => exact absurd rfl i0
      | call f az => exact absurd rfl i4
      | mo f => exact absurd rfl i4
      | ap b'' s m ys => exact (no_ap i4 i5).elim
      | _ => simp [noConf,fpOf] at hc hb; omega
    | rd b f =>
      simp only [actH] at e1
      cases hq : (h.at b).bind f with
      | none => rw [hq] at e1; cases e1
      | some c =>
        rw [hq] at e1
        simp only [Option.map_some,Option.some.injEq,Prod.mk.injEq] at e1
        obtain ⟨rfl,rfl,rfl⟩ := e1
        cases pi with
        | val c k => exact absurd rfl i0
        | call f az => exact absurd rfl i4
        | mo f => exact absurd rfl i4
        | ap b'' s m ys => exact (no_ap i4 i5).elim
        | wr b f k => simp [noConf,fpOf] at hc hb; omega
        | new cells g => simp [noConf,fpOf] at hc hb; omega
        | rd b' f' =>
          have e2' := e2
          simp only [actH] at e2'
          cases hq' : (h.at b').bind f' with
          | none => rw [hq'] at e2'; cases e2'
          | some c' =>
            rw [hq'] at e2'
            simp only [Option.map_some,Option.some.injEq,Prod.mk.injEq] at e2'
            obtain ⟨rfl,rfl,rfl⟩ := e2'
            exact ⟨h,e2,by simp only [actH,hq]; rfl⟩
        | xr b' off =>
          have hbb : b = b' := hb
          subst hbb
          refine ⟨h2,e2,?_⟩
          simp only [actH] at e2 ⊢
          cases hat : h.at b with
          | none => rw [hat] at e2; cases e2
          | some cells =>
            rw [hat] at e2 hq
            simp only [Option.bind_some] at e2 hq
            cases hx : cells[off]? with
            | none => rw [hx] at e2; cases e2
            | some x =>
              rw [hx] at e2
              simp only [Option.map_some,Option.some.injEq,Prod.mk.injEq] at e2
              obtain ⟨_,_,rfl⟩ := e2
              have hlt : b < h.length := Hp.at_lt hat
              rw [Hp.at_set hlt,if_pos rfl,live_setR (Hp.at_live hat) hx]
              simp only [Option.bind_some]
              rw [nk cells off x hx,hq]
              rfl
    | xr b off =>
      simp only [actH] at e1
      cases hat : h.at b with
      | none => rw [hat] at e1; cases e1
      | some cells =>
        rw [hat] at e1
        simp only [Option.bind_some] at e1
        cases hx : cells[off]? with
        | none => rw [hx] at e1; cases e1
        | some x =>
          rw [hx] at e1
          simp only [Option.map_some,Option.some.injEq,Prod.mk.injEq] at e1
          obtain ⟨rfl,rfl,rfl⟩ := e1
          have hlt : b < h.length := Hp.at_lt hat
          cases pi with
          | val c k => exact absurd rfl i0
          | call f az => exact absurd rfl i4
          | mo f => exact absurd rfl i4
          | ap b'' s m ys => exact (no_ap i4 i5).elim
          | wr b f k => simp [noConf,fpOf] at hc hb; omega
          | new cells g => simp [noConf,fpOf] at hc hb; omega
          | xr b' off' => simp [noConf,fpOf] at hc hb; omega
          | rd b' f' =>
            have hbb : b = b' := hb
            subst hbb
            simp only [actH] at e2 ⊢
            rw [Hp.at_set hlt,if_pos rfl,live_setR (Hp.at_live hat) hx] at e2
            simp only [Option.bind_some] at e2
            rw [ni cells off x hx] at e2
            cases hf : f' cells with
            | none => rw [hf] at e2; cases e2
            | some c' =>
              rw [hf] at e2
              simp only [Option.map_some,Option.some.injEq,Prod.mk.injEq] at e2
              obtain ⟨rfl,rfl,rfl⟩ := e2
              refine ⟨h,?_,?_⟩
              · rw [hat]; simp only [Option.bind_some,hf]; rfl
              · rw [hat]; simp only [Option.bind_some,hx]; rfl
  · obtain ⟨lk,hlk⟩ := fp_loc k0 k4 k5
    obtain ⟨li,hli⟩ := fp_loc i0 i4 i5
    rw [actH_loc hlk] at e1
    rw [actH_loc hli] at e2
    simp only [actH_loc hlk,actH_loc hli]
    generalize (fpOf idk h pk).2 = bk at *
    generalize (fpOf idi h pi).2 = bi at *
    cases hk : h[bk]? with
    | none => rw [hk] at e1; cases e1
    | some ek =>
      rw [hk] at e1
      simp only [Option.bind_some] at e1
      cases hlk' : lk ek with
      | none => rw [hlk'] at e1; cases e1
      | some rk =>
        rw [hlk'] at e1
        simp only [Option.map_some,Option.some.injEq,Prod.mk.injEq] at e1
        obtain ⟨rfl,rfl,rfl⟩ := e1
        rw [List.getElem?_set_ne hb] at e2
        cases hi : h[bi]? with
        | none => rw [hi] at e2; cases e2
        | some ei =>
          rw [hi] at e2
          simp only [Option.bind_some] at e2
          cases hli' : li ei with
          | none => rw [hli'] at e2; cases e2
          | some ri =>
            rw [hli'] at e2
            simp only [Option.map_some,Option.some.injEq,Prod.mk.injEq] at e2
            obtain ⟨rfl,rfl,rfl⟩ := e2
            refine ⟨h.set bi ri.2.2,by simp [hli'],?_⟩
            rw [List.getElem?_set_ne (Ne.symm hb),hk]
            simp only [Option.bind_some,hlk',Option.map_some,Option.some.injEq,Prod.mk.injEq,true_and]
            exact List.set_comm _ _ (Ne.symm hb)
theorem killS_noR (k : Option Nat) (env : Nat → C) (t : Nat) : (killS k env t).noR = (env t).noR := by
  cases k with
  | none => rfl
  | some p =>
    simp only [killS]
    split
    · rename_i e
      subst e
      cases hc : env t with
      | sl r n xs => cases r <;> rfl
      | _ => rfl
    · rfl
def Plan.kill : Plan → Option Nat
  | .val _ k => k
  | .wr _ _ k => k
  | _ => none
theorem kill_map {α : Type} {x : Option α} {g : α → Plan} {p : Plan} (h : x.map g = some p) (hg : ∀ y,(g y).kill = none) : p.kill = none := by
  cases x with
  | none => cases h
  | some y => cases h; exact hg y
theorem store_kill {t : TypeId} {c x : C} {k : Option Nat} {p : Plan} (h : storePlan P t c x k = some p) : p.kill = none ∨ p.kill = k := by
  unfold storePlan at h
  repeat' split at h
  all_goals first | (cases h; done) | (cases h; exact .inl rfl) | (cases h; exact .inr rfl)
theorem append_kill {t t2 : TypeId} {x y : C} {k : Option Nat} {p : Plan} (h : appendPlan P t t2 x y k = some p) : p.kill = none ∨ p.kill = k := by
  unfold appendPlan at h
  split at h
  · cases h
  · cases h
  split at h
  · cases h
  split at h
  · split at h
    · cases h
    simp only [] at h
    split at h
    · cases h
    · rename_i n xs k' hs
      have hk : k' = none ∨ k' = k := by
        split at hs
        · cases hs; exact .inl rfl
        · cases hs; exact .inl rfl
        · split at hs
          · cases hs; exact .inr rfl
          · cases hs
        · cases hs
      split at h
      · split at h
        · cases h; exact hk
        · cases h; exact .inl rfl
      · split at h
        · split at h
          · cases h; exact hk
          · cases h
        · cases h
  · cases h
theorem conv_kill {s d : TypeId} {c : C} {p : Plan} (h : convPlan P s d c = some p) : p.kill = none := by
  unfold convPlan at h
  repeat' split at h
  all_goals first
    | (cases h; done)
    | (cases h; rfl)
    | exact kill_map h fun _ => rfl
theorem load_kill {own : Bool} {t : TypeId} {c : C} {p : Plan} (h : loadPlan P own t c = some p) : p.kill = none := by
  unfold loadPlan at h
  repeat' split at h
  all_goals first
    | (cases h; done)
    | (cases h; rfl)
    | exact kill_map h fun _ => rfl
theorem splan_kill {ops : Array Oper} {o : Oper} {env : Nat → C} {p : Plan} (h : splan cx ops o env = some p) {q : Nat} (hq : p.kill = some q) : q ∈ ownSlots ops o := by
  have none_ : p.kill = none → q ∈ ownSlots ops o := fun e => by rw [e] at hq; cases hq
  unfold splan at h
  simp only [] at h
  split at h
  case h_1 x ho =>
    split at h
    · split at h
      · rename_i ha
        cases h
        cases hq
        simp [ownSlots,ho,ha,tmp?]
      · cases h; cases hq
    · cases h; cases hq
  case h_2 x ho =>
    cases h
    simp only [Plan.kill] at hq
    simp [ownSlots,ho,hq]
  case h_8 => exact none_ (load_kill h)
  case h_9 t x y ho =>
    rcases store_kill h with e | e
    · exact none_ e
    · rw [e] at hq; simp [ownSlots,ho,hq]
  case h_13 =>
    split at h
    · obtain ⟨_,_,_,_,rfl,_⟩ := convG_ap h; exact none_ rfl
    · exact none_ (conv_kill h)
  case h_23 c ho =>
    split at h
    · rename_i b hb
      split at h
      case h_2 x y t t2 ha ht =>
        split at h
        · obtain ⟨_,_,_,_,rfl,_⟩ := growPlan_ap h; exact none_ rfl
        rcases append_kill h with e | e
        · exact none_ e
        · rw [e] at hq
          obtain ⟨callee,args,ts⟩ := c
          simp only [] at hb ha
          subst hb
          simp [ownSlots,ho,ha,hq]
      all_goals
        refine none_ ?_
        try simp only [lenPlan,copyPlan,minMax,mdelPlan] at h
        repeat' split at h
        all_goals first | (cases h; done) | (cases h; rfl) | exact kill_map h fun _ => rfl
    · refine none_ ?_
      simp only [callPlan] at h
      repeat' split at h
      all_goals first | (cases h; done) | (cases h; rfl)
    · cases h
  all_goals
    refine none_ ?_
    try simp only [slicePlan,indexAddrPlan,indexPlan,fieldPlan,fieldAddrPlan,binPlan,eqPlan,unPlan,mnewPlan,mlookPlan,mputPlan] at h
    repeat' split at h
    all_goals first | (cases h; done) | (cases h; rfl) | exact kill_map h fun _ => rfl | exact kill_map h fun _ => (by split <;> rfl) | (obtain ⟨_,rfl⟩ := sliceG_val h; rfl)
theorem eff_kill {ops : Array Oper} {id : Nat} {o : Oper} {st : St} {c : C} {k : Option Nat} {h' : Hp} {f : FP} (h : eff cx ops id o st = some (c,k,h',f)) : ∀ p,k = some p → p ∈ ownSlots ops o := by
  intro p hk
  subst hk
  unfold eff at h
  split at h
  · cases h
  · cases h
  · split at h
    · cases h
    · rename_i pl hpl
      cases ha : actH cx id pl st.h with
      | none => rw [ha] at h; cases h
      | some r =>
        rw [ha] at h
        simp only [Option.map_some,Option.some.injEq,Prod.mk.injEq] at h
        obtain ⟨rfl,hk,rfl,rfl⟩ := h
        have hkill : (∃ c,pl = .val c (some p)) ∨ ∃ b f,pl = .wr b f (some p) := by
          cases pl with
          | val c k => simp only [actH,Option.some.injEq] at ha; subst ha; simp only [] at hk; subst hk; exact .inl ⟨c,rfl⟩
          | rd b f => simp only [actH] at ha; cases hq : (st.h.at b).bind f <;> rw [hq] at ha <;> cases ha; cases hk
          | wr b f k =>
            simp only [actH] at ha
            cases hq : (st.h.at b).bind f with
            | none => rw [hq] at ha; cases ha
            | some r' => rw [hq] at ha; cases ha; simp only [] at hk; subst hk; exact .inr ⟨b,f,rfl⟩
          | xr b off =>
            simp only [actH] at ha
            cases hq : st.h.at b with
            | none => rw [hq] at ha; cases ha
            | some cells =>
              rw [hq] at ha
              simp only [Option.bind_some] at ha
              cases hq2 : cells[off]? <;> rw [hq2] at ha <;> cases ha
              cases hk
          | new cells g =>
            simp only [actH] at ha
            split at ha <;> cases ha
            cases hk
          | call g az => simp only [actH] at ha; cases hq : cx.hp g az st.h <;> rw [hq] at ha <;> cases ha; cases hk
          | mo f => simp only [actH] at ha; cases hq : f st.h <;> rw [hq] at ha <;> cases ha; cases hk
          | ap b s m ys =>
            simp only [actH] at ha
            cases hq : ys st.h with
            | none => rw [hq] at ha; cases ha
            | some cs =>
              rw [hq] at ha
              simp only [Option.bind_some] at ha
              split at ha
              · cases ha; cases hk
              · rename_i b n
                cases hq2 : st.h.at b with
                | none => rw [hq2] at ha; cases ha
                | some cells =>
                  rw [hq2] at ha
                  simp only [Option.bind_some] at ha
                  repeat' split at ha
                  all_goals first | (cases ha; done) | (cases ha; cases hk)
        refine splan_kill hpl ?_
        rcases hkill with ⟨c,rfl⟩ | ⟨b,f,rfl⟩ <;> rfl
theorem own_looks {ops : Array Oper} {o : Oper} {t : Nat} (h : t ∈ ownSlots ops o) : t ∈ o.looksAt ops := by
  refine List.mem_append_left _ (List.mem_filterMap.2 ⟨.tmp t,?_,rfl⟩)
  have key : ∀ x : Operand,tmp? x = some t → x = .tmp t := fun x hx => by cases x <;> simp [tmp?] at hx; rw [hx]
  obtain ⟨dst,op,type,pos,after,guard⟩ := o
  unfold ownSlots at h
  split at h
  · rename_i x ho
    simp only [] at ho
    subst ho
    split at h
    · rw [Option.mem_toList] at h
      simp [Op.operands,key x h]
    · cases h
  · rename_i x ho
    simp only [] at ho
    subst ho
    rw [Option.mem_toList] at h
    simp [Op.operands,key x h]
  · rename_i a b y ho
    simp only [] at ho
    subst ho
    rw [Option.mem_toList] at h
    simp [Op.operands,key y h]
  · rename_i args ts ho
    simp only [] at ho
    subst ho
    split at h
    · rename_i x r ha
      rw [Option.mem_toList] at h
      simp only [Op.operands,Call.operands,Array.toList_append,List.mem_append]
      right
      rw [ha,key x h]
      simp
    · cases h
  · cases h
theorem stepF_comm {ops : Array Oper} {base k i : Nat} {st st1 st2 : St} {fk fi : FP} {ok oi : Oper} (hok : ops[k]? = some ok) (hoi : ops[i]? = some oi) (hap : apart ops ok oi = true)
    (h1 : stepF cx ops base k st = some (st1,fk)) (h2 : stepF cx ops base i st1 = some (st2,fi)) (hc : noConf fk fi = true) :
    ∃ st1',stepF cx ops base i st = some (st1',fi) ∧ stepF cx ops base k st1' = some (st2,fk) := by
  simp only [apart,Bool.and_eq_true] at hap
  obtain ⟨hap,hos⟩ := hap
  obtain ⟨a1,a2,a3⟩ := Oper.apart_spec hap
  have hos' : ∀ t,t ∈ ownSlots ops ok → t ∉ ownSlots ops oi := fun t ht => by simpa using List.all_eq_true.1 hos t ht
  unfold stepF at h1 h2 ⊢
  rw [hok] at h1
  rw [hoi] at h2
  simp only [hok,hoi] at h1 h2 ⊢
  by_cases dk : dstOK cx.N ok.dst = true
  case neg => rw [if_neg dk] at h1; cases h1
  by_cases di : dstOK cx.N oi.dst = true
  case neg => rw [if_neg di] at h2; cases h2
  rw [if_pos dk] at h1
  rw [if_pos di] at h2
  rw [if_pos di]
  cases hk : eff cx ops (base + cnt ops k) ok st with
  | none => rw [hk] at h1; cases h1
  | some rk =>
    obtain ⟨ck,kk,hk',fk'⟩ := rk
    rw [hk] at h1
    simp only [Option.map_some,Option.some.injEq,Prod.mk.injEq] at h1
    obtain ⟨rfl,rfl⟩ := h1
    cases hi : eff cx ops (base + cnt ops i) oi ⟨put ok.dst ck (killS kk st.env),hk'⟩ with
    | none => rw [hi] at h2; cases h2
    | some ri =>
      obtain ⟨ci,ki,hi',fi'⟩ := ri
      rw [hi] at h2
      simp only [Option.map_some,Option.some.injEq,Prod.mk.injEq] at h2
      obtain ⟨rfl,rfl⟩ := h2
      have kk' := eff_kill hk
      have ki' := eff_kill hi
      have put_ne : ∀ {d : Option Nat} {c : C} {env : Nat → C} {t : Nat},d ≠ some t → put d c env t = env t := by
        intro d c env t hne
        cases d with
        | none => rfl
        | some d => simp only [put]; rw [if_neg (fun e => hne (by rw [e]))]
      have kill_ne : ∀ {kq : Option Nat} {env : Nat → C} {t : Nat},kq ≠ some t → killS kq env t = env t := by
        intro kq env t hne
        cases kq with
        | none => rfl
        | some q => simp only [killS]; rw [if_neg (fun e => hne (by rw [e]))]
      have see_i : ∀ t ∈ oi.looksAt ops,(put ok.dst ck (killS kk st.env) t).noR = (st.env t).noR := fun t ht => by
        rw [put_ne (fun e => a1 t e ht),killS_noR]
      have own_i : ∀ t ∈ ownSlots ops oi,put ok.dst ck (killS kk st.env) t = st.env t := fun t ht => by
        rw [put_ne (fun e => a1 t e (own_looks ht)),kill_ne (fun e => hos' t (kk' t e) ht)]
      have see_k : ∀ t ∈ ok.looksAt ops,(put oi.dst ci (killS ki st.env) t).noR = (st.env t).noR := fun t ht => by
        rw [put_ne (fun e => a3 t e ht),killS_noR]
      have own_k : ∀ t ∈ ownSlots ops ok,put oi.dst ci (killS ki st.env) t = st.env t := fun t ht => by
        rw [put_ne (fun e => a3 t e (own_looks ht)),kill_ne (fun e => hos' t ht (ki' t e))]
      have env_eq : put oi.dst ci (killS ki (put ok.dst ck (killS kk st.env))) = put ok.dst ck (killS kk (put oi.dst ci (killS ki st.env))) := by
        funext t
        by_cases t1 : oi.dst = some t
        · have t2 : ok.dst ≠ some t := fun e => a2 t e t1
          have t3 : kk ≠ some t := fun e => a3 t t1 (own_looks (kk' t e))
          rw [put_ne t2,kill_ne t3,t1]
          simp [put]
        · rw [put_ne t1]
          by_cases t2 : ok.dst = some t
          · have t3 : ki ≠ some t := fun e => a1 t t2 (own_looks (ki' t e))
            rw [kill_ne t3,t2]
            simp [put]
          · rw [put_ne t2]
            have e1 : killS ki (put ok.dst ck (killS kk st.env)) t = killS ki (killS kk st.env) t := by
              cases ki with
              | none => simp only [killS]; rw [put_ne t2]
              | some q =>
                simp only [killS]
                split
                · rename_i e; subst e; rw [put_ne t2]
                · rw [put_ne t2]
            have e2 : killS kk (put oi.dst ci (killS ki st.env)) t = killS kk (killS ki st.env) t := by
              cases kk with
              | none => simp only [killS]; rw [put_ne t1]
              | some q =>
                simp only [killS]
                split
                · rename_i e; subst e; rw [put_ne t1]
                · rw [put_ne t1]
            rw [e1,e2]
            cases ki <;> cases kk <;> simp only [killS]
            split <;> split <;> simp_all
      have comm : ∃ h1',eff cx ops (base + cnt ops i) oi st = some (ci,ki,h1',fi') ∧ eff cx ops (base + cnt ops k) ok ⟨put oi.dst ci (killS ki st.env),h1'⟩ = some (ck,kk,hi',fk') := by
        unfold eff at hk hi ⊢
        simp only [] at hk hi ⊢
        rw [wanted_congr (env := put ok.dst ck (killS kk st.env)) see_i,splan_congr see_i own_i] at hi
        cases wk : wantedS ops ok st.env with
        | none => rw [wk] at hk; cases hk
        | some bk =>
          rw [wk] at hk
          cases wi : wantedS ops oi st.env with
          | none => rw [wi] at hi; cases hi
          | some bi =>
            rw [wi] at hi
            have wk2 : wantedS ops ok (put oi.dst ci (killS ki st.env)) = some bk := by rw [wanted_congr see_k,wk]
            have sk2 : splan cx ops ok (put oi.dst ci (killS ki st.env)) = splan cx ops ok st.env := splan_congr see_k own_k
            cases bk with
            | false =>
              simp only [Option.some.injEq,Prod.mk.injEq] at hk
              obtain ⟨rfl,rfl,rfl,rfl⟩ := hk
              exact ⟨hi',hi,by rw [wk2]⟩
            | true =>
              simp only [] at hk
              cases pk : splan cx ops ok st.env with
              | none => rw [pk] at hk; cases hk
              | some plk =>
                rw [pk] at hk
                simp only [] at hk
                cases ak : actH cx (base + cnt ops k) plk st.h with
                | none => rw [ak] at hk; cases hk
                | some rk =>
                  rw [ak] at hk
                  simp only [Option.map_some,Option.some.injEq,Prod.mk.injEq] at hk
                  obtain ⟨rfl,rfl,rfl,rfl⟩ := hk
                  cases bi with
                  | false =>
                    simp only [Option.some.injEq,Prod.mk.injEq] at hi
                    obtain ⟨rfl,rfl,rfl,rfl⟩ := hi
                    refine ⟨st.h,rfl,?_⟩
                    rw [wk2,sk2,pk]
                    simp only [ak,Option.map_some]
                  | true =>
                    simp only [] at hi
                    cases pi : splan cx ops oi st.env with
                    | none => rw [pi] at hi; cases hi
                    | some pli =>
                      rw [pi] at hi
                      simp only [] at hi
                      cases ai : actH cx (base + cnt ops i) pli rk.2.2 with
                      | none => rw [ai] at hi; cases hi
                      | some ri =>
                        rw [ai] at hi
                        simp only [Option.map_some,Option.some.injEq,Prod.mk.injEq] at hi
                        obtain ⟨rfl,rfl,rfl,rfl⟩ := hi
                        obtain ⟨h1',q1,q2,q3,q4⟩ := actH_comm (cx := cx) ak ai hc (splan_nr pk) (splan_nr pi)
                        refine ⟨h1',?_,?_⟩
                        · simp only [q1,Option.map_some,q3]
                        · rw [wk2,sk2,pk]
                          simp only [q2,Option.map_some,q4]
      obtain ⟨h1',q1,q2⟩ := comm
      refine ⟨⟨put oi.dst ci (killS ki st.env),h1'⟩,by rw [q1]; rfl,?_⟩
      rw [if_pos dk,q2,env_eq]
      rfl
end
end Go.Sx
