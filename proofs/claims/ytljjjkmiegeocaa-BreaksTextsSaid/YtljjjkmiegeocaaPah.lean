/-
  Evaluation of regions by rewriting: the kinds of operations. And what follows.
-/
import Derived.Test.YtljjjkmiegeocaaPag
set_option linter.unusedSimpArgs false
set_option linter.unusedVariables false
namespace Go.Sx
open Go.RowKit
theorem runE_of_run {cx : Cx} {apps : List Nat} {dsts : List (Option Nat)} {K : St → Prop} : ∀ (l : List Oper) (id : Nat) (st : St) (fs : List FP), runD cx apps dsts l id st fs (fun _ s => K s) → runE cx apps dsts l id st K
  | [], _, _, _, h => h
  | o :: l, id, st, fs, h => by
    simp only [runD, runE] at h ⊢
    refine ⟨h.1, ?_⟩
    have h2 := h.2
    cases hw : wantedA dsts o.guard st.env with
    | none => rw [hw] at h2; exact h2
    | some b =>
      rw [hw] at h2
      cases b with
      | false => exact runE_of_run l _ _ _ h2
      | true =>
        simp only [act1, act1D] at h2 ⊢
        generalize splanA cx apps o st.env = q at h2 ⊢
        cases q with
        | none => exact h2
        | some p =>
          simp only [] at h2 ⊢
          generalize actH cx id p st.h = r at h2 ⊢
          cases r with
          | none => exact h2
          | some r => exact runE_of_run l _ _ _ h2
section
variable {cx : Cx} {n : Nat} {Q : Ex → St → Prop} {e : List (Nat × C)} {h : Hp}
/-- A region, by its list of operations; apps, dsts, z: told by whoever prints the proof. -/
theorem Tr.rg (hcx : CxOK cx) {id : Nat} {l : List Oper} (apps : List Nat) (dsts : List (Option Nat)) (z : Hp) (h1 : l.filterMap appOf = apps) (h2 : l.map (·.dst) = dsts) (h3 : nones l = z)
    (H : run cx apps dsts l h.length e (h ++ z) [] (fun _ s => Q .normal s)) : Tr cx n (.region id l.toArray false) ⟨A e, h⟩ Q := by
  subst h1 h2 h3
  exact Tr.reg hcx (runE_of_run _ _ _ _ H)
theorem Tr.rgD (hcx : CxOK cx) (hm : cx.P.follows .mixedOrders = true) {id : Nat} {l : List Oper} (apps : List Nat) (dsts : List (Option Nat)) (z : Hp) (h1 : l.filterMap appOf = apps) (h2 : l.map (·.dst) = dsts) (h3 : nones l = z)
    (hs : regStatic l.toArray = true)
    (H : run cx apps dsts l h.length e (h ++ z) [] (fun fs s => confsOK l.toArray fs.reverse = true ∧ Q .normal s)) : Tr cx n (.region id l.toArray true) ⟨A e, h⟩ Q := by
  subst h1 h2 h3
  exact Tr.regD hcx hm hs H
end
section
variable (cx : Cx) (apps : List Nat) (dsts : List (Option Nat)) (l : List Oper) (id id' : Nat) (d : Option Nat) (e : List (Nat × C)) (h : Hp) (fs : List FP) (K : List FP → St → Prop) (ty : TypeId) (pos : String) (aft : Array Edge)
theorem run_gen (op : Op) (p : Option Plan) (hp : splanA cx apps ⟨d, op, ty, pos, aft, none⟩ (A e) = p) (hm : (if makes ⟨d, op, ty, pos, aft, none⟩ then id + 1 else id) = id') :
    run cx apps dsts (⟨d, op, ty, pos, aft, none⟩ :: l) id e h fs K = AN (dOK cx.N d) (stV cx apps dsts l id id' d e h fs K p) := by
  unfold run AN
  rw [runD]
  simp only [wantedA]
  rw [hp, hm, dOK_iff]
  rfl
def stG (op : Op) (o : Option Bool) : Prop := match o with
  | none => False
  | some b => (b = true → run cx apps dsts (⟨d, op, ty, pos, aft, none⟩ :: l) id e h fs K) ∧
      (b = false → AN (dOK cx.N d) (run cx apps dsts l (if makes ⟨d, op, ty, pos, aft, none⟩ then id + 1 else id) (mkE d (.val undef) e) h ((0, 0) :: fs) K))
theorem run_guard (op : Op) (g : Nat × Bool) : run cx apps dsts (⟨d, op, ty, pos, aft, some g⟩ :: l) id e h fs K = stG cx apps dsts l id d e h fs K ty pos aft op (wantedA dsts (some g) (A e)) := by
  unfold run stG
  rw [runD]
  simp only []
  have hsp : splanA cx apps ⟨d, op, ty, pos, aft, some g⟩ (A e) = splanA cx apps ⟨d, op, ty, pos, aft, none⟩ (A e) := by
    rw [splanA.eq_def, splanA.eq_def]
    cases op with
    | move x => cases x <;> rfl
    | _ => rfl
  have hmk : makes ⟨d, op, ty, pos, aft, some g⟩ = makes ⟨d, op, ty, pos, aft, none⟩ := rfl
  cases hw : wantedA dsts (some g) (A e) with
  | none => simp
  | some b =>
    cases b with
    | true =>
      simp only [Bool.true_eq_false, false_implies, and_true, true_implies]
      rw [run, runD, hsp, hmk]
      simp only [wantedA]
    | false =>
      simp only [Bool.false_eq_true, false_implies, true_and, true_implies]
      rw [AN, dOK_iff, A_mkE]
      rfl
/-- The next box after an operation that was left out. -/
def bump (op : Op) (id : Nat) : Nat := match op with
  | .alloc _ | .box _ _ | .makeSlice _ _ _ => id + 1
  | _ => id
theorem bump_eq (op : Op) : (if makes ⟨d, op, ty, pos, aft, none⟩ then id + 1 else id) = bump op id := by cases op <;> rfl
theorem stG_some (op : Op) (b : Bool) : stG cx apps dsts l id d e h fs K ty pos aft op (some b) = GB b (run cx apps dsts (⟨d, op, ty, pos, aft, none⟩ :: l) id e h fs K)
    (AN (dOK cx.N d) (run cx apps dsts l (bump op id) (mkE d (.val undef) e) h ((0, 0) :: fs) K)) := by
  rw [← bump_eq (d := d) (ty := ty) (pos := pos) (aft := aft)]; rfl
theorem bump_move (x : Operand) (id : Nat) : bump (.move x) id = id := rfl
theorem bump_pick (c a b : Operand) (id : Nat) : bump (.pick c a b) id = id := rfl
theorem bump_load (t : TypeId) (a : Operand) (id : Nat) : bump (.load t a) id = id := rfl
theorem bump_binOp (o : BinOp) (t : TypeId) (x y : Operand) (s : TypeId) (id : Nat) : bump (.binOp o t x y s) id = id := rfl
theorem bump_unOp (o : UnOp) (t : TypeId) (x : Operand) (id : Nat) : bump (.unOp o t x) id = id := rfl
theorem bump_fieldAddr (t : TypeId) (x : Operand) (f : Nat) (id : Nat) : bump (.fieldAddr t x f) id = id := rfl
theorem bump_indexAddr (t : TypeId) (x i : Operand) (id : Nat) : bump (.indexAddr t x i) id = id := rfl
theorem bump_index (t : TypeId) (x i : Operand) (id : Nat) : bump (.index t x i) id = id := rfl
theorem bump_call (c : Call) (id : Nat) : bump (.call c) id = id := rfl
/-- Is what is made here to be written later? -/
def isG (cx : Cx) (d : Option Nat) : Bool := d.any cx.gr
def gif (b : Bool) (p q : Option Plan) : Option Plan := if b = true then p else q
@[congr] theorem gif_congr {b b' : Bool} {p q : Option Plan} (h : b = b') : gif b p q = gif b' p q := by rw [h]
def sliceP (P : Program) (t : TypeId) (c : C) (lo hi mx : Option C) : Option Plan := match c, lo, mx with
  | .gv b n s, none, none => sliceG P t b n s hi
  | c, _, _ => slicePlan P t c.asSv lo hi mx
def pickP (c a b : C) : Option Plan := match c with
  | .val (.bool true) => some (vp a)
  | .val (.bool false) => some (vp b)
  | _ => none
def allocP (t : Option TD) : Option Plan := match t with
  | some d => if d.zero.all (·.oneCell') then some (.new (d.zero.map .val) fun id => .bp id 0) else none
  | none => none
def boxP (x : C) : Option Plan := x.cells?.map fun cs => .new cs fun id => .bp id 0
def buildP (P : Program) (t : Option TD) (parts : List (Nat × C)) : Option Plan := match t with
  | some d => if d.zero.all (·.oneCell') = false then none else ((places P d.u).bind fun pl => lay pl (d.zero.map .val) parts).map fun cs => vp (.agg cs)
  | none => none
def buildSliceP (P : Program) (g : Bool) (t : Option TD) (n : Nat) (parts : List (Nat × C)) : Option Plan := match t with
  | some d => (match d.u with
    | .slice e => (match td P e with
      | some de => if n * de.size ≤ 65536 ∧ n ≤ 65536 ∧ de.zero.length = de.size ∧ de.zero.all (·.oneCell') = true then
          (lay (fun i => some (i * de.size, de.size)) (repZero de.zero n) parts).map fun cs => if g = true then .ap none de.size n fun _ => some cs else vp (.sl .full n cs) else none
      | none => none)
    | _ => none)
  | none => none
def extractP (x : C) (i : Nat) : Option Plan := match x with
  | .tup xs => (xs[i]?).map fun c => vp c.noR
  | _ => none
def callQ (cx : Cx) (g : Nat) (as : List C) (o : Option C) : Option Plan := match o with
  | some c => some (vp c)
  | none => match refBox as with
    | some b => if (cx.hp g as []).isSome then some (.call g as) else some (.rd b (rdPu cx g as b))
    | none => some (.call g as)
def callP (cx : Cx) (f : C) (args : List C) : Option Plan := match f with
  | .fn g caps => callQ cx g (shares args ++ caps) (cx.pu g (shares args ++ caps))
  | _ => none
def mvP (b : Bool) (c : C) (p : Nat) : Option Plan := match b with
  | true => some (.val c (some p))
  | false => some (vp c.noR)
def staP (P : Program) (t : Option TD) (x : C) : Option Plan := match t with
  | some d => (match d.u with
    | .array n e => (match td P e, x with
      | some _, .sv b off m => if n ≤ m ∧ n ≠ 0 then some (vp (.bp b off)) else none
      | some _, .gv b m _ => if n ≤ m ∧ n ≠ 0 then some (vp (.bp b 0)) else none
      | some de, c => (match c.sl? with
        | some (m, xs) => if n ≤ m ∧ xs ≠ [] ∧ xs.length = m * de.size then some (vp (.kp xs)) else none
        | none => none)
      | _, _ => none)
    | _ => none)
  | none => none
def mksP (P : Program) (t : Option TD) (l c : C) : Option Plan := match t, l.int?, c.int? with
  | some d, some (_, n), some (_, m) => (match d.u with
    | .slice e => (match td P e with
      | some de => if 0 ≤ n ∧ n = m ∧ de.bytes * n ≤ 140737488355328 ∧ n ≤ 9223372036854775807 ∧ de.zero.length = de.size ∧ de.zero.all (·.oneCell') = true then some (.new (repZero de.zero n.toNat) fun id => .sv id 0 n.toNat) else none
      | none => none)
    | _ => none)
  | _, _, _ => none
theorem run_mvt (p : Nat) : run cx apps dsts (⟨d, .move (.tmp p), ty, pos, aft, none⟩ :: l) id e h fs K = AN (dOK cx.N d) (stV cx apps dsts l id id d e h fs K (mvP (isA apps d || isA apps (d.map (· + 1000000))) (A e p) p)) :=
  run_gen cx apps dsts l id id d e h fs K ty pos aft (.move (.tmp p)) (mvP (isA apps d || isA apps (d.map (· + 1000000))) (A e p) p) (by
    rw [splanA.eq_def]; simp only []
    cases d with
    | none => rfl
    | some t =>
      simp only [isA, mvP, vp, Plan.pure, Option.map_some, List.contains_eq_mem]
      by_cases hb : t ∈ apps <;> by_cases hc : t + 1000000 ∈ apps <;> simp [hb, hc]) rfl
theorem run_mvc (v : Value) : run cx apps dsts (⟨d, .move (.const v), ty, pos, aft, none⟩ :: l) id e h fs K = AN (dOK cx.N d) (stV cx apps dsts l id id d e h fs K (some (vp (.val v)))) :=
  run_gen cx apps dsts l id id d e h fs K ty pos aft (.move (.const v)) (some (vp (.val v))) (by first | rfl | (cases d <;> rfl)) rfl
theorem run_asg (x : Operand) : run cx apps dsts (⟨d, .assign x, ty, pos, aft, none⟩ :: l) id e h fs K = AN (dOK cx.N d) (stV cx apps dsts l id id d e h fs K (some (.val (orw cx e x) (tmp? x)))) :=
  run_gen cx apps dsts l id id d e h fs K ty pos aft (.assign x) (some (.val (orw cx e x) (tmp? x))) (by first | rfl | (cases d <;> rfl)) rfl
theorem run_pick (c a b : Operand) : run cx apps dsts (⟨d, .pick c a b, ty, pos, aft, none⟩ :: l) id e h fs K = AN (dOK cx.N d) (stV cx apps dsts l id id d e h fs K (pickP (on cx e c) (on cx e a) (on cx e b))) :=
  run_gen cx apps dsts l id id d e h fs K ty pos aft (.pick c a b) (pickP (on cx e c) (on cx e a) (on cx e b)) (by first | rfl | (cases d <;> rfl)) rfl
theorem run_alloc (t : TypeId) : run cx apps dsts (⟨d, .alloc t, ty, pos, aft, none⟩ :: l) id e h fs K = AN (dOK cx.N d) (stV cx apps dsts l id (id + 1) d e h fs K (allocP (td cx.P t))) :=
  run_gen cx apps dsts l id (id + 1) d e h fs K ty pos aft (.alloc t) (allocP (td cx.P t)) (by first | rfl | (cases d <;> rfl)) rfl
theorem run_box (t : TypeId) (x : Operand) : run cx apps dsts (⟨d, .box t x, ty, pos, aft, none⟩ :: l) id e h fs K = AN (dOK cx.N d) (stV cx apps dsts l id (id + 1) d e h fs K (boxP (on cx e x))) :=
  run_gen cx apps dsts l id (id + 1) d e h fs K ty pos aft (.box t x) (boxP (on cx e x)) (by first | rfl | (cases d <;> rfl)) rfl
theorem run_build (t : TypeId) (ps : List (Nat × Operand)) : run cx apps dsts (⟨d, .build t ps.toArray, ty, pos, aft, none⟩ :: l) id e h fs K = AN (dOK cx.N d) (stV cx apps dsts l id id d e h fs K (buildP cx.P (td cx.P t) (onP cx e ps))) :=
  run_gen cx apps dsts l id id d e h fs K ty pos aft (.build t ps.toArray) (buildP cx.P (td cx.P t) (onP cx e ps)) (by rw [← onP_eq]; rfl) rfl
theorem run_buildS (t : TypeId) (m : Nat) (ps : List (Nat × Operand)) : run cx apps dsts (⟨d, .buildSlice t m ps.toArray, ty, pos, aft, none⟩ :: l) id e h fs K = AN (dOK cx.N d) (stV cx apps dsts l id id d e h fs K (buildSliceP cx.P (isG cx d) (td cx.P t) m (onP cx e ps))) :=
  run_gen cx apps dsts l id id d e h fs K ty pos aft (.buildSlice t m ps.toArray) (buildSliceP cx.P (isG cx d) (td cx.P t) m (onP cx e ps)) (by rw [← onP_eq]; rfl) rfl
theorem run_load (t : TypeId) (x : Operand) : run cx apps dsts (⟨d, .load t x, ty, pos, aft, none⟩ :: l) id e h fs K = AN (dOK cx.N d) (stV cx apps dsts l id id d e h fs K (loadPlan cx.P (isA apps d) t (on cx e x))) :=
  run_gen cx apps dsts l id id d e h fs K ty pos aft (.load t x) (loadPlan cx.P (isA apps d) t (on cx e x)) (by first | rfl | (cases d <;> rfl)) rfl
theorem run_store (t : TypeId) (x y : Operand) : run cx apps dsts (⟨d, .store t x y, ty, pos, aft, none⟩ :: l) id e h fs K = AN (dOK cx.N d) (stV cx apps dsts l id id d e h fs K (storePlan cx.P t (on cx e x) (orw cx e y) (tmp? y))) :=
  run_gen cx apps dsts l id id d e h fs K ty pos aft (.store t x y) (storePlan cx.P t (on cx e x) (orw cx e y) (tmp? y)) (by first | rfl | (cases d <;> rfl)) rfl
theorem run_bin (o : BinOp) (t t2 : TypeId) (x y : Operand) : run cx apps dsts (⟨d, .binOp o t x y t2, ty, pos, aft, none⟩ :: l) id e h fs K = AN (dOK cx.N d) (stV cx apps dsts l id id d e h fs K (binPlan cx.P o t (on cx e x) (on cx e y))) :=
  run_gen cx apps dsts l id id d e h fs K ty pos aft (.binOp o t x y t2) (binPlan cx.P o t (on cx e x) (on cx e y)) (by first | rfl | (cases d <;> rfl)) rfl
theorem run_un (o : UnOp) (t : TypeId) (x : Operand) : run cx apps dsts (⟨d, .unOp o t x, ty, pos, aft, none⟩ :: l) id e h fs K = AN (dOK cx.N d) (stV cx apps dsts l id id d e h fs K (unPlan o (on cx e x))) :=
  run_gen cx apps dsts l id id d e h fs K ty pos aft (.unOp o t x) (unPlan o (on cx e x)) (by first | rfl | (cases d <;> rfl)) rfl
theorem run_conv (s t : TypeId) (x : Operand) : run cx apps dsts (⟨d, .convert s t x, ty, pos, aft, none⟩ :: l) id e h fs K = AN (dOK cx.N d) (stV cx apps dsts l id id d e h fs K (gif (isG cx d) (convG cx.P s t (on cx e x)) (convPlan cx.P s t (on cx e x).asSv))) :=
  run_gen cx apps dsts l id id d e h fs K ty pos aft (.convert s t x) (gif (isG cx d) (convG cx.P s t (on cx e x)) (convPlan cx.P s t (on cx e x).asSv)) (by first | rfl | (cases d <;> rfl)) rfl
theorem run_mkf (f : Nat) (cs : List Operand) : run cx apps dsts (⟨d, .makeFunc (.func f) #[] cs.toArray, ty, pos, aft, none⟩ :: l) id e h fs K = AN (dOK cx.N d) (stV cx apps dsts l id id d e h fs K (some (vp (.fn f (shares (onM cx e cs)))))) :=
  run_gen cx apps dsts l id id d e h fs K ty pos aft (.makeFunc (.func f) #[] cs.toArray) (some (vp (.fn f (shares (onM cx e cs))))) (by rw [← onM_eq, ← shares_eq, List.map_map]; rfl) rfl
theorem run_mks (t : TypeId) (x y : Operand) : run cx apps dsts (⟨d, .makeSlice t x y, ty, pos, aft, none⟩ :: l) id e h fs K = AN (dOK cx.N d) (stV cx apps dsts l id (id + 1) d e h fs K (mksP cx.P (td cx.P t) (on cx e x) (on cx e y))) :=
  run_gen cx apps dsts l id (id + 1) d e h fs K ty pos aft (.makeSlice t x y) (mksP cx.P (td cx.P t) (on cx e x) (on cx e y)) (by first | rfl | (cases d <;> rfl)) rfl
theorem run_slice (t : TypeId) (x : Operand) (lo hi mx : Option Operand) : run cx apps dsts (⟨d, .slice t x lo hi mx, ty, pos, aft, none⟩ :: l) id e h fs K = AN (dOK cx.N d) (stV cx apps dsts l id id d e h fs K (sliceP cx.P t (on cx e x) (lo.map (on cx e)) (hi.map (on cx e)) (mx.map (on cx e)))) :=
  run_gen cx apps dsts l id id d e h fs K ty pos aft (.slice t x lo hi mx) (sliceP cx.P t (on cx e x) (lo.map (on cx e)) (hi.map (on cx e)) (mx.map (on cx e))) (by rw [splanA.eq_def]; simp only []; rw [splan.eq_def]; simp only []; unfold sliceP; change (match on cx e x, lo, mx with | .gv b n s, none, none => sliceG cx.P t b n s (hi.map (on cx e)) | c, _, _ => slicePlan cx.P t c.asSv (lo.map (on cx e)) (hi.map (on cx e)) (mx.map (on cx e))) = _; cases on cx e x <;> cases lo <;> cases mx <;> rfl) rfl
theorem run_fa (t : TypeId) (x : Operand) (f : Nat) : run cx apps dsts (⟨d, .fieldAddr t x f, ty, pos, aft, none⟩ :: l) id e h fs K = AN (dOK cx.N d) (stV cx apps dsts l id id d e h fs K (fieldAddrPlan cx.P t (on cx e x) f)) :=
  run_gen cx apps dsts l id id d e h fs K ty pos aft (.fieldAddr t x f) (fieldAddrPlan cx.P t (on cx e x) f) (by first | rfl | (cases d <;> rfl)) rfl
theorem run_ixa (t : TypeId) (x i : Operand) : run cx apps dsts (⟨d, .indexAddr t x i, ty, pos, aft, none⟩ :: l) id e h fs K = AN (dOK cx.N d) (stV cx apps dsts l id id d e h fs K (indexAddrPlan cx.P t (on cx e x).asSv (on cx e i))) :=
  run_gen cx apps dsts l id id d e h fs K ty pos aft (.indexAddr t x i) (indexAddrPlan cx.P t (on cx e x).asSv (on cx e i)) (by first | rfl | (cases d <;> rfl)) rfl
theorem run_ix (t : TypeId) (x i : Operand) : run cx apps dsts (⟨d, .index t x i, ty, pos, aft, none⟩ :: l) id e h fs K = AN (dOK cx.N d) (stV cx apps dsts l id id d e h fs K (indexPlan cx.P t (on cx e x) (on cx e i))) :=
  run_gen cx apps dsts l id id d e h fs K ty pos aft (.index t x i) (indexPlan cx.P t (on cx e x) (on cx e i)) (by first | rfl | (cases d <;> rfl)) rfl
theorem run_extr (x : Operand) (i : Nat) : run cx apps dsts (⟨d, .extract x i, ty, pos, aft, none⟩ :: l) id e h fs K = AN (dOK cx.N d) (stV cx apps dsts l id id d e h fs K (extractP (on cx e x) i)) :=
  run_gen cx apps dsts l id id d e h fs K ty pos aft (.extract x i) (extractP (on cx e x) i) (by first | rfl | (cases d <;> rfl)) rfl
theorem run_len (t : TypeId) (x : Operand) : run cx apps dsts (⟨d, .call ⟨.builtin .len, #[x], #[t]⟩, ty, pos, aft, none⟩ :: l) id e h fs K = AN (dOK cx.N d) (stV cx apps dsts l id id d e h fs K (lenPlan cx.P t (on cx e x).asSv)) :=
  run_gen cx apps dsts l id id d e h fs K ty pos aft (.call ⟨.builtin .len, #[x], #[t]⟩) (lenPlan cx.P t (on cx e x).asSv) (by first | rfl | (cases d <;> rfl)) rfl
theorem run_app (t t2 : TypeId) (x y : Operand) : run cx apps dsts (⟨d, .call ⟨.builtin .append, #[x, y], #[t, t2]⟩, ty, pos, aft, none⟩ :: l) id e h fs K = AN (dOK cx.N d) (stV cx apps dsts l id id d e h fs K (gif (isG cx d) (growPlan cx.P t t2 (on cx e x) (on cx e y).asSv) (appendPlan cx.P t t2 (orw cx e x) (on cx e y).asSv (tmp? x)))) :=
  run_gen cx apps dsts l id id d e h fs K ty pos aft (.call ⟨.builtin .append, #[x, y], #[t, t2]⟩) (gif (isG cx d) (growPlan cx.P t t2 (on cx e x) (on cx e y).asSv) (appendPlan cx.P t t2 (orw cx e x) (on cx e y).asSv (tmp? x))) (by first | rfl | (cases d <;> rfl)) rfl
theorem run_call (ts : Array TypeId) (f : Operand) (xs : List Operand) : run cx apps dsts (⟨d, .call ⟨.value f, xs.toArray, ts⟩, ty, pos, aft, none⟩ :: l) id e h fs K = AN (dOK cx.N d) (stV cx apps dsts l id id d e h fs K (callP cx (on cx e f) (onM cx e xs))) :=
  run_gen cx apps dsts l id id d e h fs K ty pos aft (.call ⟨.value f, xs.toArray, ts⟩) (callP cx (on cx e f) (onM cx e xs)) (by rw [splanA.eq_def]; simp only []; rw [splan.eq_def]; simp only []; rw [onM_eq]; show callPlan cx (on cx e f) _ = _; unfold callPlan callP; cases on cx e f <;> first | rfl | (simp only [shares_eq]; rfl)) rfl
end
end Go.Sx
namespace Go.Sx
open Go.RowKit
def w32 (x : BitVec 32) : Value := .int .u32 x.toNat
def w8 (x : UInt8) : Value := .int .u8 x.toNat
def nI (n : Nat) : Value := .int .i64 n
def nU (n : Nat) : Value := .int .u64 n
def str (l : List UInt8) : Value := .string ⟨l.toArray⟩
theorem str_mk (l : List UInt8) : Value.string ⟨l.toArray⟩ = str l := rfl
theorem str_inj {l l' : List UInt8} : str l = str l' ↔ l = l' := by
  constructor
  · intro h
    simp only [str, Value.string.injEq, ByteArray.mk.injEq] at h
    simpa using congrArg Array.toList h
  · rintro rfl; rfl
theorem w8_inj {a b : UInt8} : w8 a = w8 b ↔ a = b := by
  simp only [w8, Value.int.injEq, true_and]
  constructor
  · intro h; exact UInt8.toNat_inj.1 (by omega)
  · rintro rfl; rfl
theorem w32_inj {a b : BitVec 32} : w32 a = w32 b ↔ a = b := by
  simp only [w32, Value.int.injEq, true_and]
  constructor
  · intro h; exact BitVec.eq_of_toNat_eq (by omega)
  · rintro rfl; rfl
theorem nI_inj {a b : Nat} : nI a = nI b ↔ a = b := by simp only [nI, Value.int.injEq, true_and]; omega
theorem nU_inj {a b : Nat} : nU a = nU b ↔ a = b := by simp only [nU, Value.int.injEq, true_and]; omega
/-- Cells of a list. -/
def cl {α : Type} (f : α → List C) (l : List α) : List C := l.flatMap f
/-- A slice of a list. -/
def sl {α : Type} (f : α → List C) (r : Rt) (l : List α) : C := .sl r l.length (cl f l)
class Cel {α : Type} (f : α → List C) (s : outParam Nat) : Prop where
  len : ∀ a, (f a).length = s
  clean : ∀ a, (f a).map C.noR = f a
  pos : 0 < s
  live : ∀ a r, liveC (some (f a ++ r)) = some (f a ++ r)
class Sca {α : Type} (f : α → List C) (g : outParam (α → C)) : Prop where
  one : ∀ a, f a = [g a]
  clean : ∀ a, (g a).noR = g a
  cells : ∀ a, (g a).cells? = some [g a]
  live : ∀ a r, liveC (some (g a :: r)) = some (g a :: r)
def bC (b : UInt8) : List C := [.val (w8 b)]
def wC (b : BitVec 32) : List C := [.val (w32 b)]
def sC (b : List UInt8) : List C := [.val (str b)]
def iC (b : Int) : List C := [.val (.int .i64 b)]
def nC (b : Nat) : List C := [.val (nI b)]
def oC (b : Bool) : List C := [.val (.bool b)]
instance : Sca bC (fun b => .val (w8 b)) := ⟨fun _ => rfl, fun _ => rfl, fun _ => rfl, fun _ _ => rfl⟩
instance : Sca wC (fun b => .val (w32 b)) := ⟨fun _ => rfl, fun _ => rfl, fun _ => rfl, fun _ _ => rfl⟩
instance : Sca sC (fun b => .val (str b)) := ⟨fun _ => rfl, fun _ => rfl, fun _ => rfl, fun _ _ => rfl⟩
instance : Sca iC (fun b => .val (.int .i64 b)) := ⟨fun _ => rfl, fun _ => rfl, fun _ => rfl, fun _ _ => rfl⟩
instance : Sca nC (fun b => .val (nI b)) := ⟨fun _ => rfl, fun _ => rfl, fun _ => rfl, fun _ _ => rfl⟩
instance : Sca oC (fun b => .val (.bool b)) := ⟨fun _ => rfl, fun _ => rfl, fun _ => rfl, fun _ _ => rfl⟩
instance {α : Type} {f : α → List C} {g : α → C} [h : Sca f g] : Cel f 1 := ⟨fun a => by rw [h.one]; rfl, fun a => by rw [h.one]; simp [h.clean], by decide, fun a r => by rw [h.one]; exact h.live a r⟩
theorem cl_bytes (l : List UInt8) : l.map byteC = cl bC l := by
  unfold cl; induction l with
  | nil => rfl
  | cons a l ih => simp only [List.map_cons, ih, List.flatMap_cons]; rfl
section
variable {α : Type} {f : α → List C} {s : Nat} [hf : Cel f s]
omit hf in
theorem cl_nil : cl f [] = [] := rfl
omit hf in
theorem cl_cons (a : α) (l : List α) : cl f (a :: l) = f a ++ cl f l := rfl
omit hf in
theorem cl_app (l l' : List α) : cl f (l ++ l') = cl f l ++ cl f l' := by simp [cl]
theorem cl_len : ∀ l : List α, (cl f l).length = l.length * s
  | [] => by simp [cl]
  | a :: l => by rw [cl_cons, List.length_append, hf.len, cl_len l, List.length_cons, Nat.add_mul, Nat.one_mul, Nat.add_comm]
include hf in
theorem cl_noR : ∀ l : List α, (cl f l).map C.noR = cl f l
  | [] => rfl
  | a :: l => by rw [cl_cons, List.map_append, hf.clean, cl_noR l]
theorem cl_drop : ∀ (l : List α) (k : Nat), (cl f l).drop (k * s) = cl f (l.drop k)
  | l, 0 => by simp
  | [], k + 1 => by simp [cl]
  | a :: l, k + 1 => by
    have e : (k + 1) * s = s + k * s := by rw [Nat.add_mul, Nat.one_mul, Nat.add_comm]
    have h : ((f a) ++ cl f l).drop s = cl f l := by
      have := List.drop_left (l₁ := f a) (l₂ := cl f l)
      rwa [hf.len] at this
    rw [cl_cons, e, ← List.drop_drop, h, List.drop_succ_cons]
    exact cl_drop l k
theorem cl_take : ∀ (l : List α) (k : Nat), (cl f l).take (k * s) = cl f (l.take k)
  | l, 0 => by simp [cl]
  | [], k + 1 => by simp [cl]
  | a :: l, k + 1 => by
    have e : (k + 1) * s = s + k * s := by rw [Nat.add_mul, Nat.one_mul, Nat.add_comm]
    rw [cl_cons, e, List.take_append, hf.len, List.take_of_length_le (by rw [hf.len]; omega), List.take_succ_cons, cl_cons, Nat.add_sub_cancel_left, cl_take l k]
theorem cl_set (l : List α) (k : Nat) (a : α) (h : k < l.length) : splice (cl f l) (k * s) (f a) = cl f (l.set k a) := by
  unfold splice
  rw [cl_take, hf.len, ← Nat.succ_mul, cl_drop, List.set_eq_take_append_cons_drop, if_pos h, cl_app, cl_cons, List.append_assoc]
theorem cl_at (l : List α) (k : Nat) (a : α) (h : l[k]? = some a) : ((cl f l).drop (k * s)).take s = f a := by
  rw [cl_drop]
  obtain ⟨hk, rfl⟩ := List.getElem?_eq_some_iff.1 h
  rw [List.drop_eq_getElem_cons hk, cl_cons, List.take_append, hf.len, Nat.sub_self, List.take_zero, List.append_nil, List.take_of_length_le (by rw [hf.len]; exact Nat.le_refl _)]
end
section
variable {α : Type} [Inhabited α] {f : α → List C} {g : α → C} [hf : Sca f g]
theorem cl_get (l : List α) (k : Nat) (h : k < l.length) : (cl f l)[k]? = some (g (l.getD k default)) := by
  have hq : l[k]? = some (l.getD k default) := by simp [List.getD, List.getElem?_eq_getElem h]
  have := cl_at (f := f) l k _ hq
  rw [Nat.mul_one, hf.one] at this
  have h2 := congrArg (fun z => z[0]?) this
  simpa [List.getElem?_take, List.getElem?_drop] using h2
end
/-! Boxes. -/
theorem at_cons0 (x : Option (List C)) (h : Hp) : Hp.at (x :: h) 0 = liveC x := rfl
theorem live_val (v : Value) (r : List C) : liveC (some (.val v :: r)) = some (.val v :: r) := rfl
theorem live_tsl {α : Type} (f : α → List C) (q : Rt) (l : List α) (r : List C) : liveC (some (sl f q l :: r)) = some (sl f q l :: r) := rfl
theorem live_cl {α : Type} (f : α → List C) {s : Nat} [hf : Cel f s] (l : List α) : liveC (some (cl f l)) = some (cl f l) := by
  cases l with
  | nil => rfl
  | cons a l => exact hf.live a _
theorem at_consS (x : Option (List C)) (h : Hp) (n : Nat) : Hp.at (x :: h) (n + 1) = Hp.at h n := by simp [Hp.at]
/-- One cell read. -/
def rdc (cells : List C) (o : Nat) : Option C := (cells[o]?).map C.noR
/-- Cells read. -/
def rda (cells : List C) (o n : Nat) : Option C := if o + n ≤ cells.length then some (.agg (((cells.drop o).take n).map C.noR)) else none
/-- Cells written. -/
def wrc (cells : List C) (o : Nat) (cs : List C) : Option (List C × C) := if o + cs.length ≤ cells.length then some (splice cells o cs, .val undef) else none
/-- A slice written. -/
def wrs (cells : List C) (o : Nat) (c : C) : Option (List C × C) := if o < cells.length then some (cells.set o c, .val undef) else none
theorem rdc_cons0 (c : C) (l : List C) : rdc (c :: l) 0 = some c.noR := rfl
theorem rdc_consS (c : C) (l : List C) (n : Nat) : rdc (c :: l) (n + 1) = rdc l n := by simp [rdc]
theorem rdc_drop (l : List C) (k n : Nat) : rdc (l.drop k) n = rdc l (k + n) := by simp [rdc, List.getElem?_drop]
theorem rdc_cl {α : Type} [Inhabited α] {f : α → List C} {g : α → C} [hf : Sca f g] (l : List α) (k : Nat) (h : k < l.length) : rdc (cl f l) k = some (g (l.getD k default)) := by
  simp only [rdc, cl_get (f := f) l k h, Option.map_some, hf.clean]
theorem wrc_cl {α : Type} {f : α → List C} {g : α → C} [hf : Sca f g] (l : List α) (k : Nat) (a : α) (h : k < l.length) : wrc (cl f l) k [g a] = some (cl f (l.set k a), .val undef) := by
  have := cl_set (f := f) l k a h
  rw [Nat.mul_one, hf.one] at this
  simp only [wrc]
  rw [if_pos (by rw [cl_len (f := f)]; simp; omega), this]
end Go.Sx
namespace Go.Sx
open Go.RowKit
theorem wrap_u8 (n : Int) : IntKind.wrap .u8 n = n % 256 := by simp [IntKind.wrap, IntKind.bits, IntKind.signed]
theorem wrap_i64 (n : Int) (h : -9223372036854775808 ≤ n) (h2 : n < 9223372036854775808) : IntKind.wrap .i64 n = n := by
  have e : IntKind.wrap .i64 n = if n % 18446744073709551616 ≥ 9223372036854775808 then n % 18446744073709551616 - 18446744073709551616 else n % 18446744073709551616 := by
    simp [IntKind.wrap, IntKind.bits, IntKind.signed]
  rw [e]
  split <;> omega
theorem lit_w8o (n : Nat) (h : n < 256) : Value.int .u8 (no_index (OfNat.ofNat n : Int)) = w8 (UInt8.ofNat n) := by
  simp only [w8, UInt8.toNat_ofNat']; rw [Nat.mod_eq_of_lt (by simpa using h)]; rfl
theorem lit_nIo (n : Nat) : Value.int .i64 (no_index (OfNat.ofNat n : Int)) = nI n := rfl
section
variable (P : Program) (t : TypeId)
theorem bin_int (op : BinOp) (k k' : IntKind) (a b : Int) : binPlan P op t (.val (.int k a)) (.val (.int k' b)) = (sbin op (.int k a) (.int k' b)).map fun v => vp (.val v) := by
  unfold binPlan; cases td P t <;> rfl
theorem bin_str (op : BinOp) (a b : ByteArray) : binPlan P op t (.val (.string a)) (.val (.string b)) = (sbin op (.string a) (.string b)).map fun v => vp (.val v) := by
  unfold binPlan; cases td P t <;> rfl
/- words -/
end
end Go.Sx
namespace Go.Sx
open Go.RowKit
section
variable (P : Program) (t : TypeId)
theorem b_add (x y : UInt8) : binPlan P .add t (.val (w8 x)) (.val (w8 y)) = some (vp (.val (w8 (x + y)))) := by
  simp only [w8, bin_int, sbin, ne_eq, not_true_eq_false, if_false, Option.map_some, wrap_u8, UInt8.toNat_add]; simp
theorem b_sub (x y : UInt8) : binPlan P .sub t (.val (w8 x)) (.val (w8 y)) = some (vp (.val (w8 (x - y)))) := by
  simp only [w8, bin_int, sbin, ne_eq, not_true_eq_false, if_false, Option.map_some, wrap_u8, UInt8.toNat_sub]
  have := x.toNat_lt; have := y.toNat_lt
  congr 4; omega
theorem b_eql (x y : UInt8) : binPlan P .eql t (.val (w8 x)) (.val (w8 y)) = some (vp (.val (.bool (decide (x = y))))) := by
  simp only [w8, bin_int, sbin, ne_eq, not_true_eq_false, if_false, Option.map_some]
  congr 4; rw [Bool.eq_iff_iff]; simp [← UInt8.toNat_inj]; omega
theorem b_lss (x y : UInt8) : binPlan P .lss t (.val (w8 x)) (.val (w8 y)) = some (vp (.val (.bool (decide (x < y))))) := by
  simp only [w8, bin_int, sbin, ne_eq, not_true_eq_false, if_false, Option.map_some]
  congr 4; rw [Bool.eq_iff_iff]; simp [UInt8.lt_iff_toNat_lt]
theorem b_leq (x y : UInt8) : binPlan P .leq t (.val (w8 x)) (.val (w8 y)) = some (vp (.val (.bool (decide (x ≤ y))))) := by
  simp only [w8, bin_int, sbin, ne_eq, not_true_eq_false, if_false, Option.map_some]
  congr 4; rw [Bool.eq_iff_iff]; simp [UInt8.le_iff_toNat_le]
theorem b_gtr (x y : UInt8) : binPlan P .gtr t (.val (w8 x)) (.val (w8 y)) = some (vp (.val (.bool (decide (y < x))))) := by
  simp only [w8, bin_int, sbin, ne_eq, not_true_eq_false, if_false, Option.map_some]
  congr 4; rw [Bool.eq_iff_iff]; simp [UInt8.lt_iff_toNat_lt]
theorem b_geq (x y : UInt8) : binPlan P .geq t (.val (w8 x)) (.val (w8 y)) = some (vp (.val (.bool (decide (y ≤ x))))) := by
  simp only [w8, bin_int, sbin, ne_eq, not_true_eq_false, if_false, Option.map_some]
  congr 4; rw [Bool.eq_iff_iff]; simp [UInt8.le_iff_toNat_le]
/- lengths and indices -/
theorem n_add (x y : Nat) (h : x + y < 9223372036854775808) : binPlan P .add t (.val (nI x)) (.val (nI y)) = some (vp (.val (nI (x + y)))) := by
  simp only [nI, bin_int, sbin, ne_eq, not_true_eq_false, if_false, Option.map_some]
  rw [wrap_i64 _ (by omega) (by omega)]; simp
theorem n_sub (x y : Nat) (h : y ≤ x ∧ x < 9223372036854775808) : binPlan P .sub t (.val (nI x)) (.val (nI y)) = some (vp (.val (nI (x - y)))) := by
  simp only [nI, bin_int, sbin, ne_eq, not_true_eq_false, if_false, Option.map_some]
  rw [wrap_i64 _ (by omega) (by omega)]; congr 4; omega
theorem n_quo (x y : Nat) (h : 0 < y ∧ x < 9223372036854775808) : binPlan P .quo t (.val (nI x)) (.val (nI y)) = some (vp (.val (nI (x / y)))) := by
  have hy : (y : Int) ≠ 0 := by omega
  have h2 : x / y ≤ x := Nat.div_le_self ..
  simp only [nI, bin_int, sbin, ne_eq, not_true_eq_false, if_false, Option.map_some, hy]
  have e : ((x : Int).tdiv (y : Int)) = ((x / y : Nat) : Int) := rfl
  rw [e]
  generalize x / y = q at h2
  rw [wrap_i64 _ (by omega) (by omega)]
theorem n_rem (x y : Nat) (h : 0 < y) : binPlan P .rem t (.val (nI x)) (.val (nI y)) = some (vp (.val (nI (x % y)))) := by
  have hy : (y : Int) ≠ 0 := by omega
  simp only [nI, bin_int, sbin, ne_eq, not_true_eq_false, if_false, Option.map_some, hy]
  rfl
theorem n_eql (x y : Nat) : binPlan P .eql t (.val (nI x)) (.val (nI y)) = some (vp (.val (.bool (decide (x = y))))) := by
  simp only [nI, bin_int, sbin, ne_eq, not_true_eq_false, if_false, Option.map_some]
  congr 4; rw [Bool.eq_iff_iff]; simp; omega
theorem n_neq (x y : Nat) : binPlan P .neq t (.val (nI x)) (.val (nI y)) = some (vp (.val (.bool (decide (x ≠ y))))) := by
  simp only [nI, bin_int, sbin, ne_eq, not_true_eq_false, if_false, Option.map_some]
  congr 4; rw [Bool.eq_iff_iff]; simp; omega
theorem n_lss (x y : Nat) : binPlan P .lss t (.val (nI x)) (.val (nI y)) = some (vp (.val (.bool (decide (x < y))))) := by
  simp only [nI, bin_int, sbin, ne_eq, not_true_eq_false, if_false, Option.map_some]
  congr 4; rw [Bool.eq_iff_iff]; simp
theorem n_leq (x y : Nat) : binPlan P .leq t (.val (nI x)) (.val (nI y)) = some (vp (.val (.bool (decide (x ≤ y))))) := by
  simp only [nI, bin_int, sbin, ne_eq, not_true_eq_false, if_false, Option.map_some]
  congr 4; rw [Bool.eq_iff_iff]; simp
theorem n_gtr (x y : Nat) : binPlan P .gtr t (.val (nI x)) (.val (nI y)) = some (vp (.val (.bool (decide (y < x))))) := by
  simp only [nI, bin_int, sbin, ne_eq, not_true_eq_false, if_false, Option.map_some]
  congr 4; rw [Bool.eq_iff_iff]; simp
theorem n_geq (x y : Nat) : binPlan P .geq t (.val (nI x)) (.val (nI y)) = some (vp (.val (.bool (decide (y ≤ x))))) := by
  simp only [nI, bin_int, sbin, ne_eq, not_true_eq_false, if_false, Option.map_some]
  congr 4; rw [Bool.eq_iff_iff]; simp
/- uint64 -/
/- strings -/
theorem size_mk (l : List UInt8) : (⟨l.toArray⟩ : ByteArray).size = l.length := by simp [ByteArray.size]
theorem toList_mk (l : List UInt8) : (⟨l.toArray⟩ : ByteArray).toList = l := by
  have key : ∀ (n : Nat) (i : Nat) (r : List UInt8), l.length - i = n → i ≤ l.length → ByteArray.toList.loop ⟨l.toArray⟩ i r = r.reverse ++ l.drop i := by
    intro n
    induction n with
    | zero =>
      intro i r h hi
      rw [ByteArray.toList.loop, size_mk, if_neg (by omega), List.drop_of_length_le (by omega), List.append_nil]
    | succ n ih =>
      intro i r h hi
      rw [ByteArray.toList.loop, size_mk, if_pos (by omega), ih _ _ (by omega) (by omega)]
      have hlt : i < l.length := by omega
      rw [List.drop_eq_getElem_cons hlt]
      simp [ByteArray.get!, hlt]
  have := key l.length 0 [] rfl (Nat.zero_le _)
  simpa [ByteArray.toList] using this
theorem s_eql (x y : List UInt8) : binPlan P .eql t (.val (str x)) (.val (str y)) = some (vp (.val (.bool (decide (x = y))))) := by
  simp only [str, bin_str, sbin, toList_mk, Option.map_some]
  congr 4
  rw [Bool.eq_iff_iff]; simp
theorem s_neq (x y : List UInt8) : binPlan P .neq t (.val (str x)) (.val (str y)) = some (vp (.val (.bool (decide (x ≠ y))))) := by
  simp only [str, bin_str, sbin, toList_mk, Option.map_some]
  congr 4
  by_cases h : x = y <;> simp [h]
theorem s_add (x y : List UInt8) (h : x.length + y.length < 9223372036854775808) : binPlan P .add t (.val (str x)) (.val (str y)) = some (vp (.val (str (x ++ y)))) := by
  simp only [str, bin_str, sbin, size_mk]
  rw [if_pos (by omega)]
  simp only [Option.map_some]
  congr 4
end
end Go.Sx
namespace Go.Sx
open Go.RowKit
/-- An entry of a list. -/
def gt {α : Type} [Inhabited α] (l : List α) (k : Nat) : α := l.getD k default
/-! Conversions: by the two types' rows. -/
def cvP (P : Program) (s d : Option TD) (c : C) : Option Plan := match s, d with
  | some ds, some dd =>
    match ds.u, dd.u, c with
    | _, .int k, .val (.int _ n) => some (.pure (.val (.int k (k.wrap n))))
    | _, .string, .val (.string s) => some (.pure (.val (.string s)))
    | .string, .slice e, .val (.string s) => match td P e with
      | some de => (match de.u with
        | .int .u8 => if s.size ≤ 140737488355328 then some (.pure (.sl .no s.size (s.data.toList.map byteC))) else none
        | _ => none)
      | none => none
    | .slice e, .string, c => match td P e with
      | some de => (match de.u with
        | .int .u8 => (match c with
          | .sv b off n => some (.rd b fun cells => if off + n ≤ cells.length then (u8s? ((cells.drop off).take n)).map fun ns => .val (.string (strOf ns)) else none)
          | c => match c.sl? with
            | some (n, xs) => if xs.length = n then (u8s? xs).map fun ns => .pure (.val (.string (strOf ns))) else none
            | none => none)
        | _ => none)
      | none => none
    | _, _, _ => none
  | _, _ => none
theorem conv_td (P : Program) (s d : TypeId) (c : C) : convPlan P s d c = cvP P (td P s) (td P d) c := rfl
section
variable (P : Program) (u1 : TypeDesc) (a1 b1 a2 b2 a3 b3 : Nat) (z1 z2 z3 : List Value)
theorem u8s_cl (l : List UInt8) : u8s? (cl bC l) = some (l.map fun b => (b.toNat : Int)) := by
  induction l with
  | nil => rfl
  | cons a l ih => 
    show u8s? (.val (.int .u8 _) :: cl bC l) = _
    simp only [u8s?, ih, Option.map_some, List.map_cons]
theorem strOf_map (l : List UInt8) : (Value.string (strOf (l.map fun b => (b.toNat : Int)))) = str l := by
  unfold strOf str
  rw [List.map_map]
  have : (fun n : Int => UInt8.ofNat n.toNat) ∘ (fun b : UInt8 => (b.toNat : Int)) = id := by
    funext b; simp
  rw [this, List.map_id]
def cvV (de : Option TD) (b off n : Nat) : Option Plan := match de with
  | some de => (match de.u with
    | .int .u8 => some (.rd b fun cells => if off + n ≤ cells.length then (u8s? ((cells.drop off).take n)).map fun ns => .val (.string (strOf ns)) else none)
    | _ => none)
  | none => none
/-- Bytes read as a string. -/
def rds (cells : List C) (o n : Nat) : Option C := if o + n ≤ cells.length then (u8s? ((cells.drop o).take n)).map fun ns => .val (.string (strOf ns)) else none
theorem cv_vs (e : TypeId) (b off n : Nat) : cvP P (some ⟨.slice e, a1, b1, z1⟩) (some ⟨.string, a2, b2, z2⟩) (.sv b off n) = cvV (td P e) b off n := by
  unfold cvV
  show (match td P e with | some de => _ | none => none) = _
  cases td P e with
  | none => rfl
  | some de => rfl
theorem cvV_u8 (b off n : Nat) : cvV (some ⟨.int .u8, a3, b3, z3⟩) b off n = some (.rd b fun cells => rds cells off n) := rfl
theorem rds_cl (l : List UInt8) (o n : Nat) (h : o + n ≤ l.length) : rds (cl bC l) o n = some (.val (str ((l.drop o).take n))) := by
  have e1 := cl_drop (f := bC) l o
  have e2 := cl_take (f := bC) (l.drop o) n
  rw [Nat.mul_one] at e1 e2
  simp only [rds]
  rw [if_pos (by rw [cl_len (f := bC)]; omega), e1, e2, u8s_cl, Option.map_some, strOf_map]
/-! Reading and writing. -/
def ldB (own : Bool) (t : Option TD) (b o : Nat) : Option Plan := match t with
  | none => none
  | some d => if own ∧ d.isAgg = false then some (.xr b o) else some (.rd b fun cells => getAt d cells o)
theorem load_bp (own : Bool) (t : TypeId) (b o : Nat) : loadPlan P own t (.bp b o) = ldB own (td P t) b o := by
  unfold loadPlan ldB; cases td P t <;> rfl
theorem ldB_int (k : IntKind) (b o : Nat) : ldB false (some ⟨.int k, a1, b1, z1⟩) b o = some (.rd b fun cells => rdc cells o) := rfl
theorem ldB_str (b o : Nat) : ldB false (some ⟨.string, a1, b1, z1⟩) b o = some (.rd b fun cells => rdc cells o) := rfl
theorem ldB_sl (e : TypeId) (b o : Nat) : ldB false (some ⟨.slice e, a1, b1, z1⟩) b o = some (.rd b fun cells => rdc cells o) := rfl
theorem ldB_slo (e : TypeId) (b o : Nat) : ldB true (some ⟨.slice e, a1, b1, z1⟩) b o = some (.xr b o) := rfl
theorem ldB_struct (own : Bool) (fs : Array Field) (b o : Nat) : ldB own (some ⟨.struct fs, a1, b1, z1⟩) b o = some (.rd b fun cells => rda cells o a1) := by cases own <;> rfl
def ldK (t : Option TD) (xs : List C) : Option Plan := match t with
  | none => none
  | some d => (getAt d xs 0).map vp
theorem load_kp (own : Bool) (t : TypeId) (xs : List C) : loadPlan P own t (.kp xs) = ldK (td P t) xs := by
  unfold loadPlan ldK; cases td P t <;> rfl
theorem ldK_int (k : IntKind) (xs : List C) : ldK (some ⟨.int k, a1, b1, z1⟩) xs = (rdc xs 0).map vp := rfl
theorem ldK_str (xs : List C) : ldK (some ⟨.string, a1, b1, z1⟩) xs = (rdc xs 0).map vp := rfl
def stB (t : Option TD) (b o : Nat) (cs : Option (List C)) : Option Plan := match t with
  | none => none
  | some d => match cs with
    | some cs => if cs.length = d.size then some (.wr b (fun cells => wrc cells o cs) none) else none
    | none => none
theorem store_val (t : TypeId) (b o : Nat) (v : Value) (k : Option Nat) : storePlan P t (.bp b o) (.val v) k = stB (td P t) b o (C.val v).cells? := by
  unfold storePlan stB; cases td P t with
  | none => rfl
  | some d => simp only []; cases (C.val v).cells? <;> rfl
theorem store_agg (t : TypeId) (b o : Nat) (xs : List C) (k : Option Nat) : storePlan P t (.bp b o) (.agg xs) k = stB (td P t) b o (some (xs.map C.noR)) := by
  unfold storePlan stB; cases td P t <;> rfl
def stS (t : Option TD) (b o : Nat) (c : C) (k : Option Nat) : Option Plan := match t with
  | none => none
  | some d => if d.size = 1 then some (.wr b (fun cells => wrs cells o c) k) else none
theorem store_sl (t : TypeId) (b o : Nat) (r : Rt) (n : Nat) (xs : List C) (k : Option Nat) : storePlan P t (.bp b o) (.sl r n xs) k = stS (td P t) b o (.sl r n xs) k := by
  unfold storePlan stS; cases td P t <;> rfl
theorem stS_one (u : TypeDesc) (y : Nat) (z : List Value) (b o : Nat) (c : C) (k : Option Nat) : stS (some ⟨u, 1, y, z⟩) b o c k = some (.wr b (fun cells => wrs cells o c) k) := rfl
theorem stB_many (u : TypeDesc) (s y : Nat) (z : List Value) (b o : Nat) (cs : List C) (h : cs.length = s) : stB (some ⟨u, s, y, z⟩) b o (some cs) = some (.wr b (fun cells => wrc cells o cs) none) := if_pos h
theorem cells_w8 (x : UInt8) : (C.val (w8 x)).cells? = some [.val (w8 x)] := rfl
theorem cells_nI (x : Nat) : (C.val (nI x)).cells? = some [.val (nI x)] := rfl
theorem cells_int (k : IntKind) (x : Int) : (C.val (.int k x)).cells? = some [.val (.int k x)] := rfl
theorem cells_str (x : List UInt8) : (C.val (str x)).cells? = some [.val (str x)] := rfl
theorem cells_agg (xs : List C) : (C.agg xs).cells? = some (xs.map C.noR) := rfl
/-! Indices. -/
theorem idx_nI (i n : Nat) (h : i < n) : idx? (.val (nI i)) n = some i := by
  simp only [idx?, nI, C.int?]; rw [if_pos (by omega)]; simp
theorem bound_nI (i d m : Nat) (h : i ≤ m) : bound? (some (.val (nI i))) d m = some i := by
  simp only [bound?, nI, C.int?]; rw [if_pos (by omega)]; simp
theorem bound_none (d m : Nat) : bound? none d m = some d := rfl
def ixS (de : Option TD) (k : Option Nat) (f : Nat → Nat → Option Plan) : Option Plan := match de, k with
  | some de, some k => f de.size k
  | _, _ => none
theorem ixS_some (u : TypeDesc) (s y : Nat) (z : List Value) (k : Nat) (f : Nat → Nat → Option Plan) : ixS (some ⟨u, s, y, z⟩) (some k) f = f s k := rfl
def ixaP (P : Program) (t : Option TD) (c i : C) : Option Plan := match t with
  | none => none
  | some d =>
    match d.u, c with
    | .array n e, .bp b off => ixS (td P e) (idx? i n) fun s k => some (vp (.bp b (off + k * s)))
    | .array n e, .kp xs => ixS (td P e) (idx? i n) fun s k => if n * s ≤ xs.length then some (vp (.kp (xs.drop (k * s)))) else none
    | .slice e, .sv b off n => ixS (td P e) (idx? i n) fun s k => some (vp (.bp b (off + k * s)))
    | .slice e, .sl _ n xs => ixS (td P e) (idx? i n) fun s k => if xs.length = n * s ∧ xs ≠ [] then some (vp (.kp (xs.drop (k * s)))) else none
    | _, _ => none
theorem ixa_td (t : TypeId) (c i : C) : indexAddrPlan P t c i = ixaP P (td P t) c i := by
  unfold indexAddrPlan ixaP
  cases td P t with
  | none => rfl
  | some d =>
    simp only []
    cases d.u <;> cases c <;> first | rfl | (rename_i e _ _ _; cases td P e <;> first | rfl | (cases idx? i _ <;> rfl))
theorem ixa_sv (e : TypeId) (b off n : Nat) (i : C) : ixaP P (some ⟨.slice e, a1, b1, z1⟩) (.sv b off n) i = ixS (td P e) (idx? i n) fun s k => some (vp (.bp b (off + k * s))) := rfl
theorem ixa_sl {α : Type} (f : α → List C) (e : TypeId) (r : Rt) (l : List α) (i : C) : ixaP P (some ⟨.slice e, a1, b1, z1⟩) (sl f r l) i = ixS (td P e) (idx? i l.length) fun s k => if (cl f l).length = l.length * s ∧ cl f l ≠ [] then some (vp (.kp ((cl f l).drop (k * s)))) else none := rfl
end
end Go.Sx
namespace Go.Sx
open Go.RowKit
section
variable {α : Type} (f : α → List C)
theorem noR_slno (l : List α) : (sl f .no l).noR = sl f .no l := rfl
theorem noR_slfull (l : List α) : (sl f .full l).noR = sl f .full l := rfl
theorem noR_slown (s : Nat) (l : List α) : (sl f (.own s) l).noR = sl f .no l := rfl
theorem share_slno (l : List α) : (sl f .no l).share = sl f .no l := rfl
theorem share_slfull (l : List α) : (sl f .full l).share = sl f .no l := rfl
end
theorem share_w8 (x : UInt8) : (C.val (w8 x)).share = .val (w8 x) := rfl
theorem share_nI (x : Nat) : (C.val (nI x)).share = .val (nI x) := rfl
theorem share_strs (x : List UInt8) : (C.val (str x)).share = .val (str x) := rfl
section
variable (P : Program) (u1 : TypeDesc) (a1 b1 a2 b2 a3 b3 : Nat) (z1 z2 z3 : List Value)
/-! len -/
def lenP (t : Option TD) (x : C) : Option Plan := match t with
  | none => none
  | some d =>
    match d.u, x with
    | .string, .val (.string s) => some (.pure (.val (.int .i64 s.size)))
    | .array n _, _ => some (.pure (.val (.int .i64 n)))
    | .slice _, .sv _ _ n => some (.pure (.val (.int .i64 n)))
    | .slice _, x => x.sl?.map fun r => .pure (.val (.int .i64 r.1))
    | _, _ => none
theorem len_td (t : TypeId) (x : C) : lenPlan P t x = lenP (td P t) x := rfl
theorem len_str (l : List UInt8) : lenP (some ⟨.string, a1, b1, z1⟩) (.val (str l)) = some (vp (.val (nI l.length))) := by
  show some (vp (.val (.int .i64 ((⟨l.toArray⟩ : ByteArray).size : Nat)))) = _
  rw [size_mk]; rfl
theorem len_sv (e : TypeId) (b o n : Nat) : lenP (some ⟨.slice e, a1, b1, z1⟩) (.sv b o n) = some (vp (.val (nI n))) := rfl
theorem len_sl {α : Type} (f : α → List C) (e : TypeId) (r : Rt) (l : List α) : lenP (some ⟨.slice e, a1, b1, z1⟩) (sl f r l) = some (vp (.val (nI l.length))) := rfl
/-! index -/
def inxP (P : Program) (t : Option TD) (c i : C) : Option Plan := match t with
  | none => none
  | some d =>
    match d.u, c with
    | .string, .val (.string s) => match idx? i s.size with
      | some k => (s.data[k]?).map fun b => .pure (byteC b)
      | none => none
    | .array n e, c => match td P e, idx? i n, c.agg? with
      | some de, some k, some xs => (getAt de xs (k * de.size)).map .pure
      | _, _, _ => none
    | _, _ => none
theorem inx_td (t : TypeId) (c i : C) : indexPlan P t c i = inxP P (td P t) c i := rfl
def inS (l : List UInt8) (k : Option Nat) : Option Plan := match k with
  | some k => (l[k]?).map fun b => vp (byteC b)
  | none => none
theorem inx_str (l : List UInt8) (i : C) : inxP P (some ⟨.string, a1, b1, z1⟩) (.val (str l)) i = inS l (idx? i l.length) := by
  unfold inS
  show (match idx? i (⟨l.toArray⟩ : ByteArray).size with | some k => _ | none => none) = _
  rw [size_mk]
  cases idx? i l.length with
  | none => rfl
  | some k => simp only []; rw [List.getElem?_toArray]; rfl
theorem inS_some (l : List UInt8) (k : Nat) (h : k < l.length) : inS l (some k) = some (vp (.val (w8 (gt l k)))) := by
  simp [inS, gt, List.getD, List.getElem?_eq_getElem h]; rfl
/-! fields -/
def fldP (P : Program) (t : Option TD) (c : C) (f : Nat) : Option Plan := match t with
  | none => none
  | some d =>
    match d.u with
    | .struct fields => match fields[f]?, c.agg? with
      | some fd, some xs => (match td P fd.type with
        | some de => (getAt de xs fd.offset).map .pure
        | none => none)
      | _, _ => none
    | _ => none
def faP (P : Program) (t : Option TD) (c : C) (f : Nat) : Option Plan := match t with
  | none => none
  | some d =>
    match d.u with
    | .struct fields => match fields[f]? with
      | some fd => (match td P fd.type with
        | some de => if de.size = 0 then none else
          (match c with
          | .bp b off => some (.pure (.bp b (off + fd.offset)))
          | .kp xs => if fd.offset ≤ xs.length then some (.pure (.kp (xs.drop fd.offset))) else none
          | _ => none)
        | none => none)
      | none => none
    | _ => none
/-! slices -/
def sl2 (hi lo : Option C) (n : Nat) (F : Nat → Nat → Option Plan) : Option Plan := match bound? hi n n with
  | some h => (match bound? lo 0 h with
    | some k => F h k
    | none => none)
  | none => none
def slS (hi lo : Option Nat) (F : Nat → Nat → Option Plan) : Option Plan := match hi, lo with
  | some h, some k => F h k
  | _, _ => none
def slP (P : Program) (t : Option TD) (c : C) (lo hi : Option C) : Option Plan := match t with
  | none => none
  | some d =>
    match d.u, c with
    | .string, .val (.string s) => sl2 hi lo s.size fun h k => some (vp (.val (.string (s.extract k h))))
    | .slice e, .sv b off n => (match td P e with
      | some de => sl2 hi lo n fun h k => some (vp (.sv b (off + k * de.size) (h - k)))
      | none => none)
    | .slice e, c => (match td P e, c.sl? with
      | some de, some (n, xs) => if xs.length = n * de.size then sl2 hi lo n fun h k => some (vp (.sl .no (h - k) ((xs.drop (k * de.size)).take ((h - k) * de.size)))) else none
      | _, _ => none)
    | .array n e, .bp b off => (match td P e with
      | some de => if 65536 < n then none else sl2 hi lo n fun h k => some (vp (.sv b (off + k * de.size) (h - k)))
      | none => none)
    | .array n e, .kp xs => (match td P e with
      | some de => if 65536 < n ∨ xs.length < n * de.size then none else sl2 hi lo n fun h k => some (vp (.sl .no (h - k) ((xs.drop (k * de.size)).take ((h - k) * de.size))))
      | none => none)
    | _, _ => none
theorem slice_td (t : TypeId) (c : C) (lo hi : Option C) : slicePlan P t c lo hi none = slP P (td P t) c lo hi := by
  unfold slicePlan slP sl2
  cases td P t with
  | none => rfl
  | some d =>
    obtain ⟨u, s, y, z⟩ := d
    simp only [Option.isSome_none, Bool.false_eq_true, if_false, false_or, Option.isNone_none, true_or, and_true, bound_none, false_and]
    cases u with
    | string => cases c with
      | val v => cases v <;> rfl
      | _ => rfl
    | slice e => cases c <;> rfl
    | array n e => cases c <;> rfl
    | _ => rfl
theorem sl2_none (lo : Option C) (n : Nat) (F : Nat → Nat → Option Plan) : sl2 none lo n F = slS (some n) (bound? lo 0 n) F := by
  unfold sl2 slS; simp only [bound_none]; cases bound? lo 0 n <;> rfl
theorem sl2_nI (lo : Option C) (n h : Nat) (F : Nat → Nat → Option Plan) (hh : h ≤ n) : sl2 (some (.val (nI h))) lo n F = slS (some h) (bound? lo 0 h) F := by
  unfold sl2 slS; rw [bound_nI _ _ _ hh]; simp only []; cases bound? lo 0 h <;> rfl
theorem slS_some (h k : Nat) (F : Nat → Nat → Option Plan) : slS (some h) (some k) F = F h k := rfl
theorem slP_str (l : List UInt8) (lo hi : Option C) : slP P (some ⟨.string, a1, b1, z1⟩) (.val (str l)) lo hi = sl2 hi lo l.length fun h k => some (vp (.val (str ((l.drop k).take (h - k))))) := by
  show sl2 hi lo (⟨l.toArray⟩ : ByteArray).size _ = _
  rw [size_mk]
  congr 1
  funext h k
  show some (vp (.val (.string _))) = _
  congr 4
  apply ByteArray.ext
  simp [ByteArray.data_extract]
/-! append -/
def apS (x : C) (de : TD) (xt : Option Nat) : Option (Nat × List C × Option Nat) := match x with
  | .val (.slice none 0 0) => some (0, [], none)
  | .sl .full n xs => some (n, xs, none)
  | .sl (.own s) n xs => if s = de.size then some (n, xs, xt) else none
  | _ => none
def apF (de : TD) (n : Nat) (xs : List C) (m : Nat) (ys : List C) : Option C :=
  if xs.length = n * de.size ∧ ys.length = m * de.size ∧ 0 < de.size ∧ de.zero.length = de.size ∧ (n + m) * de.bytes ≤ 140737488355328 ∧ n + m ≤ 9223372036854775807 then some (.sl (.own de.size) (n + m) (xs ++ ys)) else none
def apP (P : Program) (t t2 : Option TD) (x y : C) (xt : Option Nat) : Option Plan := match t, t2 with
  | none, _ => none
  | _, none => none
  | some d, some d2 =>
    if notInt d2.u = false then none else
    match d.u with
    | .slice e => match td P e with
      | none => none
      | some de => match apS x de xt with
        | none => none
        | some (n, xs, k) =>
          match y with
          | .sv b off m => if k.isSome then some (.wr b (fun cells => (if off + m * de.size ≤ cells.length then apF de n xs m (((cells.drop off).take (m * de.size)).map C.noR) else none).map fun c => (cells, c)) k)
            else some (.rd b fun cells => if off + m * de.size ≤ cells.length then apF de n xs m (((cells.drop off).take (m * de.size)).map C.noR) else none)
          | y => match src? y with
            | some (m, ys) => (apF de n xs m ys).map fun c => .val c k
            | none => none
    | _ => none
theorem app_td (t t2 : TypeId) (x y : C) (xt : Option Nat) : appendPlan P t t2 x y xt = apP P (td P t) (td P t2) x y xt := rfl
def apQ (de : Option TD) (x y : C) (xt : Option Nat) : Option Plan := match de with
  | none => none
  | some de => match apS x de xt with
    | none => none
    | some (n, xs, k) =>
      match y with
      | .sv b off m => if k.isSome then some (.wr b (fun cells => (if off + m * de.size ≤ cells.length then apF de n xs m (((cells.drop off).take (m * de.size)).map C.noR) else none).map fun c => (cells, c)) k)
            else some (.rd b fun cells => if off + m * de.size ≤ cells.length then apF de n xs m (((cells.drop off).take (m * de.size)).map C.noR) else none)
      | y => match src? y with
        | some (m, ys) => (apF de n xs m ys).map fun c => .val c k
        | none => none
theorem app_ss (e e2 : TypeId) (x y : C) (xt : Option Nat) : apP P (some ⟨.slice e, a1, b1, z1⟩) (some ⟨.slice e2, a2, b2, z2⟩) x y xt = apQ (td P e) x y xt := rfl
section
variable {α : Type} (f : α → List C) {s : Nat} [hf : Cel f s] (u : TypeDesc) (y : Nat) (z : List Value)
theorem apF_cl (l l' : List α) (hz : z.length = s) (h : (l.length + l'.length) * y ≤ 140737488355328 ∧ l.length + l'.length ≤ 9223372036854775807) :
    apF ⟨u, s, y, z⟩ l.length (cl f l) l'.length (cl f l') = some (sl f (.own s) (l ++ l')) := by
  unfold apF
  rw [if_pos ⟨cl_len (f := f) l, cl_len (f := f) l', hf.pos, hz, h.1, h.2⟩]
  simp [sl, cl_app]
theorem apQ_own (l l' : List α) (r : Rt) (xt : Option Nat) (hz : z.length = s) (h : (l.length + l'.length) * y ≤ 140737488355328 ∧ l.length + l'.length ≤ 9223372036854775807) :
    apQ (some ⟨u, s, y, z⟩) (sl f (.own s) l) (sl f r l') xt = some (.val (sl f (.own s) (l ++ l')) xt) := by
  show (match (if s = s then some (l.length, cl f l, xt) else none) with | none => none | some (n, xs, k) => (match some (l'.length, cl f l') with | some (m, ys) => (apF ⟨u, s, y, z⟩ n xs m ys).map fun c => Plan.val c k | none => none)) = _
  rw [if_pos rfl]
  simp only [apF_cl f u y z l l' hz h, Option.map_some]
end
/-! new boxes -/
def boxQ (cs : Option (List C)) : Option Plan := match cs with
  | some cs => some (.new cs fun id => .bp id 0)
  | none => none
theorem box_cs (x : C) : boxP x = boxQ x.cells? := by unfold boxP boxQ; cases x.cells? <;> rfl
theorem boxQ_some (cs : List C) : boxQ (some cs) = some (.new cs fun id => .bp id 0) := rfl
theorem pick_tf (x y : C) : pickP (.val (.bool true)) x y = some (vp x) := rfl
theorem pick_ff (x y : C) : pickP (.val (.bool false)) x y = some (vp y) := rfl
/-! arrays out of slices of boxes, and copies -/
end
end Go.Sx
namespace Go.Sx
open Go.RowKit
def pk (e : List (Nat × C)) : List Nat → List (Nat × C)
  | [] => []
  | k :: ks => (k, A e k) :: pk e ks
theorem A_pk (e : List (Nat × C)) (t : Nat) : ∀ ks : List Nat, A (pk e ks) t = .top ∨ A (pk e ks) t = A e t
  | [] => .inl rfl
  | k :: ks => by
    simp only [pk, A]
    by_cases h : t = k
    · subst h; right; simp
    · simp only [if_neg h]; exact A_pk e t ks
theorem pk_nil (e : List (Nat × C)) : pk e [] = [] := rfl
theorem pk_cons (e : List (Nat × C)) (k : Nat) (ks : List Nat) : pk e (k :: ks) = (k, A e k) :: pk e ks := rfl
section
variable {cx : Cx} {n : Nat} {Q : Ex → St → Prop} {e : List (Nat × C)} {h : Hp}
theorem Tr.kp (ks : List Nat) {c : Code} (H : Tr cx n c ⟨A (pk e ks), h⟩ Q) : Tr cx n c ⟨A e, h⟩ Q := by
  refine Tr.weaken (fun t => ?_) H
  rcases A_pk e t ks with q | q
  · rw [q]; exact CLe.top _
  · rw [q]; exact CLe.refl _
end
def condG (c : C) (p q : Prop) : Prop := ∃ b, c = .val (.bool b) ∧ GB b p q
theorem condG_bool (b : Bool) (p q : Prop) : condG (.val (.bool b)) p q = GB b p q := by
  simp [condG]
theorem Tr.condG {cx : Cx} {n : Nat} {Q : Ex → St → Prop} {e : List (Nat × C)} {h : Hp} {c : Operand} {x y : Code} (H : ∀ KT KF : Prop, (Tr cx n x ⟨A e, h⟩ Q → KT) → (Tr cx n y ⟨A e, h⟩ Q → KF) → Sx.condG (cx.ev (A e) c) KT KF) : Tr cx n (.cond c x y) ⟨A e, h⟩ Q := by
  obtain ⟨b, h1, h2, h3⟩ := H _ _ (fun x => x) (fun x => x)
  exact Tr.cond_split h1 h2 h3
theorem gt_def {α : Type} [Inhabited α] (l : List α) (k : Nat) : l.getD k default = gt l k := rfl
theorem thenQ_n (K : St → Prop) (Q : Ex → St → Prop) (s : St) : thenQ K Q .normal s = K s := rfl
theorem thenQ_r (K : St → Prop) (Q : Ex → St → Prop) (s : St) : thenQ K Q .ret s = Q .ret s := rfl
theorem blockQ_n (k : Nat) (Q : Ex → St → Prop) (s : St) : blockQ k Q .normal s = Q .normal s := rfl
theorem blockQ_r (k : Nat) (Q : Ex → St → Prop) (s : St) : blockQ k Q .ret s = Q .ret s := rfl
theorem EndsR_r (cx : Cx) (rs : List ResultVar) (c : C) (st : St) : EndsR cx rs c .ret st = (resL cx st rs = some c) := rfl
theorem resL_one (cx : Cx) (st : St) (r : ResultVar) : resL cx st [r] = resC cx st r := rfl
theorem resC_tmp (cx : Cx) (e : List (Nat × C)) (h : Hp) (t : Nat) : resC cx ⟨A e, h⟩ (.tmp t) = some (A e t) := rfl
def rcP (t : Option TD) (c : C) (h : Hp) : Option C := match t, c with
  | some d, .bp b off => (h.at b).bind fun cells => getAt d cells off
  | _, _ => none
theorem resC_cell (cx : Cx) (e : List (Nat × C)) (h : Hp) (a : Nat) (t : TypeId) : resC cx ⟨A e, h⟩ (.cell a t) = rcP (td cx.P t) (A e a) h := rfl
theorem rcP_struct (fs : Array Field) (a b : Nat) (z : List Value) (x o : Nat) (h : Hp) : rcP (some ⟨.struct fs, a, b, z⟩) (.bp x o) h = (h.at x).bind fun cells => rda cells o a := rfl
theorem Le_nil (env : Nat → C) : Le env [] = True := rfl
theorem Le_cons (env : Nat → C) (k : Nat) (c : C) (l : List (Nat × C)) : Le env ((k, c) :: l) = (CLe (env k) c ∧ Le env l) := rfl
theorem CLe_refl (c : C) : CLe c c = True := by simp [CLe.refl]
theorem CLe_top (c : C) : CLe c .top = True := by simp [CLe.top]
theorem CLe_full {α : Type} (f : α → List C) (r : Rt) (l : List α) : CLe (sl f .full l) (sl f r l) = True := by simp only [sl, eq_iff_iff, iff_true]; exact CLe.full ..
theorem CLe_nil {α : Type} (f : α → List C) (r : Rt) : CLe (.val (.slice none 0 0)) (sl f r []) = True := by simp only [sl, eq_iff_iff, iff_true]; exact CLe.nil _
theorem CLe_own {α : Type} (f : α → List C) (s : Nat) (l : List α) : CLe (sl f (.own s) l) (sl f .no l) = True := eq_true (CLe.noR (sl f (.own s) l))
theorem un_not (b : Bool) : unPlan .not (.val (.bool b)) = some (vp (.val (.bool (!b)))) := rfl
end Go.Sx
namespace Go.Sx
open Go.RowKit
end Go.Sx
namespace Go.Sx
open Go.RowKit
def refy : List C → Bool
  | [] => false
  | .sv _ _ _ :: _ => true
  | .bp _ _ :: _ => true
  | .gv _ _ _ :: _ => true
  | _ :: l => refy l
theorem refy_not : ∀ l : List C, refy l = true → noRefs 0 l = false
  | [], h => by cases h
  | c :: l, h => by
    cases c with
    | sv b o n => simp [noRefs, noRef]
    | bp b o => simp [noRefs, noRef]
    | gv b o s => simp [noRefs, noRef]
    | _ =>
      have := refy_not l h
      simp only [noRefs, this, Bool.and_false]
class Fla {α : Type} (f : α → List C) : Prop where
  flat : ∀ a, flats (f a) = true
instance : Fla bC := ⟨fun _ => rfl⟩
instance : Fla wC := ⟨fun _ => rfl⟩
instance : Fla sC := ⟨fun _ => rfl⟩
instance : Fla iC := ⟨fun _ => rfl⟩
instance : Fla nC := ⟨fun _ => rfl⟩
instance : Fla oC := ⟨fun _ => rfl⟩
theorem flats_app (xs ys : List C) : flats (xs ++ ys) = (flats xs && flats ys) := by
  induction xs with
  | nil => simp [flats]
  | cons x xs ih => simp only [List.cons_append, flats, ih, Bool.and_assoc]
theorem noRefs_app (k : Nat) (xs ys : List C) : noRefs k (xs ++ ys) = (noRefs k xs && noRefs k ys) := by
  induction xs with
  | nil => simp [noRefs]
  | cons x xs ih => simp only [List.cons_append, noRefs, ih, Bool.and_assoc]
theorem flats_cl {α : Type} (f : α → List C) [h : Fla f] : ∀ l : List α, flats (cl f l) = true
  | [] => rfl
  | a :: l => by rw [cl_cons, flats_app, h.flat, flats_cl f l]; rfl
mutual
theorem flat_noRef (k : Nat) : ∀ c : C, flat c = true → noRef k c = true
  | .val _, _ => rfl
  | .agg xs, h => by simp only [flat] at h; simp only [noRef]; exact flats_noRefs k xs h
  | .tup xs, h => by simp only [flat] at h; simp only [noRef]; exact flats_noRefs k xs h
  | .top, h => by cases h
  | .sl _ _ _, h => by cases h
  | .sv _ _ _, h => by cases h
  | .bp _ _, h => by cases h
  | .kp _, h => by cases h
  | .fn _ _, h => by cases h
theorem flats_noRefs (k : Nat) : ∀ l : List C, flats l = true → noRefs k l = true
  | [], _ => rfl
  | x :: xs, h => by
    simp only [flats, Bool.and_eq_true] at h
    simp only [noRefs, flat_noRef k x h.1, flats_noRefs k xs h.2, Bool.and_self]
end
theorem noRefs_cl {α : Type} (f : α → List C) [h : Fla f] (k : Nat) (l : List α) : noRefs k (cl f l) = true := flats_noRefs k _ (flats_cl f l)
theorem noRef_sl {α : Type} (f : α → List C) [h : Fla f] (k : Nat) (r : Rt) (l : List α) : noRef k (sl f r l) = true := noRefs_cl f k l
theorem noRef_agg (k : Nat) (xs : List C) : noRef k (.agg xs) = noRefs k xs := rfl
theorem noRef_tup (k : Nat) (xs : List C) : noRef k (.tup xs) = noRefs k xs := rfl
theorem noRef_kp (k : Nat) (xs : List C) : noRef k (.kp xs) = noRefs k xs := rfl
theorem noRef_val (k : Nat) (v : Value) : noRef k (.val v) = true := rfl
theorem noRefs_nil (k : Nat) : noRefs k [] = true := rfl
theorem noRefs_cons (k : Nat) (c : C) (l : List C) : noRefs k (c :: l) = (noRef k c && noRefs k l) := rfl
theorem flat_val (v : Value) : flat (.val v) = true := rfl
theorem callQ_some (cx : Cx) (g : Nat) (as : List C) (c : C) : callQ cx g as (some c) = some (vp c) := rfl
def callR (cx : Cx) (g : Nat) (as : List C) (b : Option Nat) (o : Option (C × Hp)) : Option Plan := match b with
  | some b => if o.isSome then some (.call g as) else some (.rd b (rdPu cx g as b))
  | none => some (.call g as)
theorem callQ_none (cx : Cx) (g : Nat) (as : List C) : callQ cx g as none = callR cx g as (refBox as) (cx.hp g as []) := by
  unfold callQ callR; rfl
theorem callR_rd (cx : Cx) (g : Nat) (as : List C) (b : Nat) : callR cx g as (some b) none = some (.rd b (rdPu cx g as b)) := rfl
theorem refBox_bp (b o : Nat) (l : List C) : refBox (.bp b o :: l) = oneB b l := rfl
theorem refBox_val (v : Value) (l : List C) : refBox (.val v :: l) = refBox l := rfl
theorem oneB_nil (b : Nat) : oneB b [] = some b := rfl
def rdR (b : Bool) (c : C) : Option C := if b then some c else none
def rdQ (b : Bool) (c : Option C) : Option C := if b then (match c with
  | some c => rdR (flat c) c
  | none => none) else none
theorem rdPu_eq (cx : Cx) (g : Nat) (as : List C) (b : Nat) (cells : List C) : rdPu cx g as b cells = rdQ (noRefs 0 (frzs1 b cells as)) (cx.pu g (frzs1 b cells as)) := rfl
theorem rdQ_some (c : C) : rdQ true (some c) = rdR (flat c) c := rfl
theorem rdR_true (c : C) : rdR true c = some c := rfl
theorem frzs_nil (b : Nat) (cells : List C) : frzs1 b cells [] = [] := rfl
theorem frzs_cons (b : Nat) (cells : List C) (c : C) (l : List C) : frzs1 b cells (c :: l) = frz1 b cells c :: frzs1 b cells l := rfl
theorem frz_val (b : Nat) (cells : List C) (v : Value) : frz1 b cells (.val v) = .val v := rfl
def frzB (cells : List C) (o : Nat) : C := .kp ((cells.drop o).map C.noR)
theorem frz_bp (b : Nat) (cells : List C) (o : Nat) : frz1 b cells (.bp b o) = frzB cells o := by simp [frz1, frzB]
theorem frzB_one (c : C) : frzB [c] 0 = .kp [c.noR] := rfl
theorem hno_zero : ∀ (f : Nat) (as : List C), refy as = true → (fun _ _ => none : Nat → List C → Option C) f as = none := fun _ _ _ => rfl
theorem hno_ext {pu : Nat → List C → Option C} (hno : ∀ f as, refy as = true → pu f as = none) {α : Type} {enc : α → List C} {out : α → C} {f : Nat} (he : ∀ a, noRefs 0 (enc a) = true) : ∀ g as, refy as = true → Sx.ext pu f (tabOf enc out) g as = none := fun g as hr => by
  by_cases hgf : g = f
  · subst hgf
    rw [ext_hit]
    cases hq : tabOf enc out as with
    | none => rfl
    | some c =>
      obtain ⟨a, rfl, _⟩ := tabOf_some hq
      have := he a
      rw [refy_not _ hr] at this; cases this
  · rw [ext_miss hgf]; exact hno g as hr
theorem CxOK.ext2 {P : Program} {gl : Nat → C} {pu : Nat → List C → Option C} {N M : Nat} (hcx : CxOK ⟨P, N, gl, pu, fun _ _ _ => none, fun _ => false⟩)
    {α : Type} {enc : α → List C} {out : α → C} {f : Nat} (he : ∀ a, noRefs 0 (enc a) = true) (h : ∀ a, FC P gl f (enc a) [] (out a) []) : CxOK ⟨P, M, gl, Sx.ext pu f (tabOf enc out), fun _ _ _ => none, fun _ => false⟩ :=
  hcx.ext (M := M) hcx.glo he h
theorem wrc_b (l : List (UInt8)) (k : Nat) (a : UInt8) (h : k < l.length) : wrc (cl bC l) k [.val (w8 a)] = some (cl bC (l.set k a), .val undef) := wrc_cl (f := bC) l k a h
theorem wrc_i (l : List (Int)) (k : Nat) (a : Int) (h : k < l.length) : wrc (cl iC l) k [.val (.int .i64 a)] = some (cl iC (l.set k a), .val undef) := wrc_cl (f := iC) l k a h
section
variable (P : Program) (a1 b1 : Nat) (z1 : List Value)
end
def ixL (de : Option TD) (k : Option Nat) (n : Nat) (xs : List C) : Option Plan := ixS de k fun s k => if xs.length = n * s ∧ xs ≠ [] then some (vp (.kp (xs.drop (k * s)))) else none
theorem ixa_slT {α : Type} (f : α → List C) (P : Program) (a1 b1 : Nat) (z1 : List Value) (e : TypeId) (r : Rt) (l : List α) (i : C) : ixaP P (some ⟨.slice e, a1, b1, z1⟩) (sl f r l) i = ixL (td P e) (idx? i l.length) l.length (cl f l) := ixa_sl P a1 b1 z1 f e r l i
theorem ixL_some {α : Type} (f : α → List C) {s : Nat} [hf : Cel f s] (u : TypeDesc) (y : Nat) (z : List Value) (k : Nat) (l : List α) (h : k < l.length) : ixL (some ⟨u, s, y, z⟩) (some k) l.length (cl f l) = some (vp (.kp ((cl f l).drop (k * s)))) := by
  show (if (cl f l).length = l.length * s ∧ cl f l ≠ [] then some (vp (.kp ((cl f l).drop (k * s)))) else none) = _
  rw [if_pos ⟨cl_len (f := f) l, fun e => by
    have h1 := cl_len (f := f) l
    rw [e] at h1
    have h2 := hf.pos
    have h3 : l.length * s ≠ 0 := Nat.mul_ne_zero (by omega) (by omega)
    exact h3 h1.symm⟩]
theorem refy_sv (b o n : Nat) (l : List C) : refy (.sv b o n :: l) = true := id rfl
theorem refy_bp (b o : Nat) (l : List C) : refy (.bp b o :: l) = true := id rfl
theorem refy_agg (xs l : List C) : refy (.agg xs :: l) = refy l := id rfl
theorem refy_val (v : Value) (l : List C) : refy (.val v :: l) = refy l := id rfl
theorem refy_kp (xs l : List C) : refy (.kp xs :: l) = refy l := id rfl
theorem refy_tsl {α : Type} (f : α → List C) (r : Rt) (x : List α) (l : List C) : refy (sl f r x :: l) = refy l := id rfl
theorem one_nI (x : Nat) : (nI x).oneCell' = true := id rfl
theorem one_str (x : List UInt8) : (str x).oneCell' = true := id rfl
theorem one_slice : (Value.slice none 0 0).oneCell' = true := id rfl
end Go.Sx
