/-
  The ends of regions and of bodies; frames cut to the live slots. And what follows.
-/
import Derived.ChangeSame
import Derived.ChangeVars
import Derived.ChangeStays
import Derived.ChangeOld
import Derived.ChangeArms
import Derived.OpenShut
import Derived.RowKit
import Derived.JoinedOf
import Derived.Handed
import Derived.LaidLaws
import Derived.LaidMore
import Derived.KernelRfl
import Derived.LaidHandle
import Derived.MakeChecks
import Derived.Stop.Joined
import Derived.Lib.SlBytesConst
import Derived.SizedLaws
import Derived.JoinedCond
import Derived.Deep.CondSized
import Derived.Test.YtclpbgpclnipcaaSb
set_option linter.unusedSimpArgs false
set_option linter.unusedVariables false
namespace Go.Sx
open Go.RowKit

def pk (e : List (Nat × C)) : List Nat → List (Nat × C)
  | [] => []
  | k :: ks => (k, A e k) :: pk e ks
theorem A_pk (e : List (Nat × C)) (t : Nat) : ∀ ks : List Nat, A (pk e ks) t = .top ∨ A (pk e ks) t = A e t
  | [] => .inl rfl
  | k :: ks => by
    simp only [pk, A]
    by_cases h : t = k
    · subst h; right; simp
    · simp only [if_neg h]; exact A_pk e t ks
theorem pk_nil (e : List (Nat × C)) : pk e [] = [] := rfl
theorem pk_cons (e : List (Nat × C)) (k : Nat) (ks : List Nat) : pk e (k :: ks) = (k, A e k) :: pk e ks := rfl

section
variable {cx : Cx} {n : Nat} {Q : Ex → St → Prop} {e : List (Nat × C)} {h : Hp}
theorem Tr.kp (ks : List Nat) {c : Code} (H : Tr cx n c ⟨A (pk e ks), h⟩ Q) : Tr cx n c ⟨A e, h⟩ Q := by
  refine Tr.weaken (fun t => ?_) H
  rcases A_pk e t ks with q | q
  · rw [q]; exact CLe.top _
  · rw [q]; exact CLe.refl _
/-- A way by a condition. -/
theorem Tr.cd {c : Operand} {x y : Code} {b : Bool} (hc : cx.ev (A e) c = .val (.bool b)) (ht : b = true → Tr cx n x ⟨A e, h⟩ Q) (hf : b = false → Tr cx n y ⟨A e, h⟩ Q) : Tr cx n (.cond c x y) ⟨A e, h⟩ Q := Tr.cond_split hc ht hf
theorem Tr.cdP {c : Operand} {x y : Code} {p : Prop} [Decidable p] (hc : cx.ev (A e) c = .val (.bool (decide p))) (ht : p → Tr cx n x ⟨A e, h⟩ Q) (hf : ¬ p → Tr cx n y ⟨A e, h⟩ Q) : Tr cx n (.cond c x y) ⟨A e, h⟩ Q :=
  Tr.cond_split hc (fun q => ht (of_decide_eq_true q)) (fun q => hf (of_decide_eq_false q))
theorem Tr.cdT {c : Operand} {x y : Code} (hc : cx.ev (A e) c = .val (.bool true)) (ht : Tr cx n x ⟨A e, h⟩ Q) : Tr cx n (.cond c x y) ⟨A e, h⟩ Q := Tr.cond hc ht
theorem Tr.cdF {c : Operand} {x y : Code} (hc : cx.ev (A e) c = .val (.bool false)) (ht : Tr cx n y ⟨A e, h⟩ Q) : Tr cx n (.cond c x y) ⟨A e, h⟩ Q := Tr.cond hc ht
end

def condG (c : C) (p q : Prop) : Prop := ∃ b, c = .val (.bool b) ∧ GB b p q
theorem condG_bool (b : Bool) (p q : Prop) : condG (.val (.bool b)) p q = GB b p q := by
  simp [condG]
theorem Tr.condG {cx : Cx} {n : Nat} {Q : Ex → St → Prop} {e : List (Nat × C)} {h : Hp} {c : Operand} {x y : Code} (H : ∀ KT KF : Prop, (Tr cx n x ⟨A e, h⟩ Q → KT) → (Tr cx n y ⟨A e, h⟩ Q → KF) → Sx.condG (cx.ev (A e) c) KT KF) : Tr cx n (.cond c x y) ⟨A e, h⟩ Q := by
  obtain ⟨b, h1, h2, h3⟩ := H _ _ (fun x => x) (fun x => x)
  exact Tr.cond_split h1 h2 h3
theorem gt_def {α : Type} [Inhabited α] (l : List α) (k : Nat) : l.getD k default = gt l k := rfl

theorem thenQ_n (K : St → Prop) (Q : Ex → St → Prop) (s : St) : thenQ K Q .normal s = K s := rfl
theorem thenQ_x (K : St → Prop) (Q : Ex → St → Prop) (i : Nat) (s : St) : thenQ K Q (.exit i) s = Q (.exit i) s := rfl
theorem thenQ_r (K : St → Prop) (Q : Ex → St → Prop) (s : St) : thenQ K Q .ret s = Q .ret s := rfl
theorem blockQ_n (k : Nat) (Q : Ex → St → Prop) (s : St) : blockQ k Q .normal s = Q .normal s := rfl
theorem blockQ_r (k : Nat) (Q : Ex → St → Prop) (s : St) : blockQ k Q .ret s = Q .ret s := rfl
theorem blockQ_x (k : Nat) (Q : Ex → St → Prop) (s : St) : blockQ k Q (.exit k) s = Q .normal s := by simp [blockQ]
theorem blockQ_y (k j : Nat) (Q : Ex → St → Prop) (s : St) (h : j ≠ k) : blockQ k Q (.exit j) s = Q (.exit j) s := by simp [blockQ, h]
theorem EndsR_r (cx : Cx) (rs : List ResultVar) (c : C) (st : St) : EndsR cx rs c .ret st = (resL cx st rs = some c) := rfl
theorem EndsR_n (cx : Cx) (rs : List ResultVar) (c : C) (st : St) : EndsR cx rs c .normal st = (resL cx st rs = some c) := rfl
theorem resL_one (cx : Cx) (st : St) (r : ResultVar) : resL cx st [r] = resC cx st r := rfl
theorem resC_tmp (cx : Cx) (e : List (Nat × C)) (h : Hp) (t : Nat) : resC cx ⟨A e, h⟩ (.tmp t) = some (A e t) := rfl
def rcP (t : Option TD) (c : C) (h : Hp) : Option C := match t, c with
  | some d, .bp b off => (h.at b).bind fun cells => getAt d cells off
  | _, _ => none
theorem resC_cell (cx : Cx) (e : List (Nat × C)) (h : Hp) (a : Nat) (t : TypeId) : resC cx ⟨A e, h⟩ (.cell a t) = rcP (td cx.P t) (A e a) h := rfl
theorem rcP_int (k : IntKind) (a b : Nat) (z : List Value) (x o : Nat) (h : Hp) : rcP (some ⟨.int k, a, b, z⟩) (.bp x o) h = (h.at x).bind fun cells => rdc cells o := rfl
theorem rcP_bool (a b : Nat) (z : List Value) (x o : Nat) (h : Hp) : rcP (some ⟨.bool, a, b, z⟩) (.bp x o) h = (h.at x).bind fun cells => rdc cells o := rfl
theorem rcP_str (a b : Nat) (z : List Value) (x o : Nat) (h : Hp) : rcP (some ⟨.string, a, b, z⟩) (.bp x o) h = (h.at x).bind fun cells => rdc cells o := rfl
theorem rcP_sl (e : TypeId) (a b : Nat) (z : List Value) (x o : Nat) (h : Hp) : rcP (some ⟨.slice e, a, b, z⟩) (.bp x o) h = (h.at x).bind fun cells => rdc cells o := rfl
theorem rcP_arr (n : Nat) (e : TypeId) (a b : Nat) (z : List Value) (x o : Nat) (h : Hp) : rcP (some ⟨.array n e, a, b, z⟩) (.bp x o) h = (h.at x).bind fun cells => rda cells o a := rfl
theorem rcP_struct (fs : Array Field) (a b : Nat) (z : List Value) (x o : Nat) (h : Hp) : rcP (some ⟨.struct fs, a, b, z⟩) (.bp x o) h = (h.at x).bind fun cells => rda cells o a := rfl

theorem Le_nil (env : Nat → C) : Le env [] = True := rfl
theorem Le_cons (env : Nat → C) (k : Nat) (c : C) (l : List (Nat × C)) : Le env ((k, c) :: l) = (CLe (env k) c ∧ Le env l) := rfl
theorem CLe_refl (c : C) : CLe c c = True := by simp [CLe.refl]
theorem CLe_top (c : C) : CLe c .top = True := by simp [CLe.top]
theorem CLe_noR (c : C) : CLe c c.noR = True := by simp [CLe.noR]
theorem CLe_full {α : Type} (f : α → List C) (r : Rt) (l : List α) : CLe (sl f .full l) (sl f r l) = True := by simp only [sl, eq_iff_iff, iff_true]; exact CLe.full ..
theorem CLe_nil {α : Type} (f : α → List C) (r : Rt) : CLe (.val (.slice none 0 0)) (sl f r []) = True := by simp only [sl, eq_iff_iff, iff_true]; exact CLe.nil _
theorem CLe_own {α : Type} (f : α → List C) (s : Nat) (l : List α) : CLe (sl f (.own s) l) (sl f .no l) = True := eq_true (CLe.noR (sl f (.own s) l))

theorem cv_iu64 (P : Program) (u1 : TypeDesc) (a1 b1 a2 b2 : Nat) (z1 z2 : List Value) (n : Int) : cvP P (some ⟨u1, a1, b1, z1⟩) (some ⟨.int .u64, a2, b2, z2⟩) (.val (.int .i64 n)) = some (vp (.val (nU (n % 18446744073709551616).toNat))) := by
  rw [cv_int, wrap_u64, nU]; congr 4; omega
theorem u_and31 (P : Program) (t : TypeId) (x : Nat) (h : x < 18446744073709551616) : binPlan P .and t (.val (nU x)) (.val (nU 31)) = some (vp (.val (nU (x % 32)))) := by
  rw [u_and P t x 31 (by omega)]
  have := Nat.and_two_pow_sub_one_eq_mod x 5
  simp only [Nat.reducePow, Nat.reduceSub] at this
  rw [this]
theorem un_negn (n : Nat) (h : n < 9223372036854775808) : unPlan .neg (.val (nI n)) = some (vp (.val (.int .i64 (-(n : Int))))) := by
  show some (vp (.val (.int .i64 (IntKind.wrap .i64 (0 - (n : Int)))))) = _
  rw [wrap_i64 _ (by omega) (by omega), Int.zero_sub]
theorem un_not (b : Bool) : unPlan .not (.val (.bool b)) = some (vp (.val (.bool (!b)))) := rfl
theorem rep_w32 (n : Nat) : List.replicate n (C.val (w32 (BitVec.ofNat 32 0))) = cl wC (List.replicate n 0) := rep_wC n
theorem rep_w8 (n : Nat) : List.replicate n (C.val (w8 (UInt8.ofNat 0))) = cl bC (List.replicate n 0) := rep_bC n
theorem rep_nI (n : Nat) : List.replicate n (C.val (nI 0)) = cl nC (List.replicate n 0) := rep_nC n
end Go.Sx

namespace Go.Sx
open Go.RowKit

theorem CxOK.hp0 {P : Program} {gl : Nat → C} {pu : Nat → List C → Option C} {hp : Nat → List C → Hp → Option (C × Hp)} {N M : Nat} (hcx : CxOK ⟨P, N, gl, pu, hp⟩) : CxOK ⟨P, M, gl, pu, fun _ _ _ => none⟩ :=
  ⟨hcx.glo, hcx.pu, fun _ _ _ _ _ h => (Option.some_ne_none _ h.symm).elim⟩
end Go.Sx

namespace Go.Sx
open Go.RowKit

def refy : List C → Bool
  | [] => false
  | .sv _ _ _ :: _ => true
  | .bp _ _ :: _ => true
  | _ :: l => refy l
theorem refy_not : ∀ l : List C, refy l = true → noRefs 0 l = false
  | [], h => by cases h
  | c :: l, h => by
    cases c with
    | sv b o n => simp [noRefs, noRef]
    | bp b o => simp [noRefs, noRef]
    | _ =>
      have := refy_not l h
      simp only [noRefs, this, Bool.and_false]

class Fla {α : Type} (f : α → List C) : Prop where
  flat : ∀ a, flats (f a) = true
instance : Fla bC := ⟨fun _ => rfl⟩
instance : Fla wC := ⟨fun _ => rfl⟩
instance : Fla sC := ⟨fun _ => rfl⟩
instance : Fla iC := ⟨fun _ => rfl⟩
instance : Fla nC := ⟨fun _ => rfl⟩
instance : Fla oC := ⟨fun _ => rfl⟩
theorem flats_app (xs ys : List C) : flats (xs ++ ys) = (flats xs && flats ys) := by
  induction xs with
  | nil => simp [flats]
  | cons x xs ih => simp only [List.cons_append, flats, ih, Bool.and_assoc]
theorem noRefs_app (k : Nat) (xs ys : List C) : noRefs k (xs ++ ys) = (noRefs k xs && noRefs k ys) := by
  induction xs with
  | nil => simp [noRefs]
  | cons x xs ih => simp only [List.cons_append, noRefs, ih, Bool.and_assoc]
theorem flats_cl {α : Type} (f : α → List C) [h : Fla f] : ∀ l : List α, flats (cl f l) = true
  | [] => rfl
  | a :: l => by rw [cl_cons, flats_app, h.flat, flats_cl f l]; rfl
mutual
theorem flat_noRef (k : Nat) : ∀ c : C, flat c = true → noRef k c = true
  | .val _, _ => rfl
  | .agg xs, h => by simp only [flat] at h; simp only [noRef]; exact flats_noRefs k xs h
  | .tup xs, h => by simp only [flat] at h; simp only [noRef]; exact flats_noRefs k xs h
  | .top, h => by cases h
  | .sl _ _ _, h => by cases h
  | .sv _ _ _, h => by cases h
  | .bp _ _, h => by cases h
  | .kp _, h => by cases h
  | .fn _ _, h => by cases h
theorem flats_noRefs (k : Nat) : ∀ l : List C, flats l = true → noRefs k l = true
  | [], _ => rfl
  | x :: xs, h => by
    simp only [flats, Bool.and_eq_true] at h
    simp only [noRefs, flat_noRef k x h.1, flats_noRefs k xs h.2, Bool.and_self]
end
theorem noRefs_cl {α : Type} (f : α → List C) [h : Fla f] (k : Nat) (l : List α) : noRefs k (cl f l) = true := flats_noRefs k _ (flats_cl f l)
theorem noRef_sl {α : Type} (f : α → List C) [h : Fla f] (k : Nat) (r : Rt) (l : List α) : noRef k (sl f r l) = true := noRefs_cl f k l
theorem noRef_agg (k : Nat) (xs : List C) : noRef k (.agg xs) = noRefs k xs := rfl
theorem noRef_tup (k : Nat) (xs : List C) : noRef k (.tup xs) = noRefs k xs := rfl
theorem noRef_kp (k : Nat) (xs : List C) : noRef k (.kp xs) = noRefs k xs := rfl
theorem noRef_val (k : Nat) (v : Value) : noRef k (.val v) = true := rfl
theorem noRefs_nil (k : Nat) : noRefs k [] = true := rfl
theorem noRefs_cons (k : Nat) (c : C) (l : List C) : noRefs k (c :: l) = (noRef k c && noRefs k l) := rfl
theorem flat_val (v : Value) : flat (.val v) = true := rfl
theorem flat_agg (xs : List C) : flat (.agg xs) = flats xs := rfl
theorem flat_tup (xs : List C) : flat (.tup xs) = flats xs := rfl
theorem flats_nil : flats [] = true := rfl
theorem flats_cons (x : C) (xs : List C) : flats (x :: xs) = (flat x && flats xs) := rfl

theorem callQ_some (cx : Cx) (g : Nat) (as : List C) (c : C) : callQ cx g as (some c) = some (vp c) := rfl
def callR (cx : Cx) (g : Nat) (as : List C) (b : Option Nat) (o : Option (C × Hp)) : Option Plan := match b with
  | some b => if o.isSome then some (.call g as) else some (.rd b (rdPu cx g as b))
  | none => some (.call g as)
theorem callQ_none (cx : Cx) (g : Nat) (as : List C) : callQ cx g as none = callR cx g as (refBox as) (cx.hp g as []) := by
  unfold callQ callR; rfl
theorem callR_rd (cx : Cx) (g : Nat) (as : List C) (b : Nat) : callR cx g as (some b) none = some (.rd b (rdPu cx g as b)) := rfl
theorem refBox_sv (b o n : Nat) (l : List C) : refBox (.sv b o n :: l) = some b := rfl
theorem refBox_bp (b o : Nat) (l : List C) : refBox (.bp b o :: l) = some b := rfl
theorem refBox_agg (xs l : List C) : refBox (.agg xs :: l) = refBox l := rfl
theorem refBox_val (v : Value) (l : List C) : refBox (.val v :: l) = refBox l := rfl
theorem refBox_kp (xs l : List C) : refBox (.kp xs :: l) = refBox l := rfl
theorem refBox_tsl {α : Type} (f : α → List C) (r : Rt) (x : List α) (l : List C) : refBox (sl f r x :: l) = refBox l := rfl
def rdR (b : Bool) (c : C) : Option C := if b then some c else none
def rdQ (b : Bool) (c : Option C) : Option C := if b then (match c with
  | some c => rdR (flat c) c
  | none => none) else none
theorem rdPu_eq (cx : Cx) (g : Nat) (as : List C) (b : Nat) (cells : List C) : rdPu cx g as b cells = rdQ (noRefs 0 (frzs1 b cells as)) (cx.pu g (frzs1 b cells as)) := rfl
theorem rdQ_some (c : C) : rdQ true (some c) = rdR (flat c) c := rfl
theorem rdR_true (c : C) : rdR true c = some c := rfl
theorem frzs_nil (b : Nat) (cells : List C) : frzs1 b cells [] = [] := rfl
theorem frzs_cons (b : Nat) (cells : List C) (c : C) (l : List C) : frzs1 b cells (c :: l) = frz1 b cells c :: frzs1 b cells l := rfl
theorem frz_val (b : Nat) (cells : List C) (v : Value) : frz1 b cells (.val v) = .val v := rfl
theorem frz_agg (b : Nat) (cells : List C) (xs : List C) : frz1 b cells (.agg xs) = .agg xs := rfl
theorem frz_kp (b : Nat) (cells : List C) (xs : List C) : frz1 b cells (.kp xs) = .kp xs := rfl
theorem frz_fn (b : Nat) (cells : List C) (f : Nat) (xs : List C) : frz1 b cells (.fn f xs) = .fn f xs := rfl
theorem frz_tsl {α : Type} (f : α → List C) (b : Nat) (cells : List C) (r : Rt) (l : List α) : frz1 b cells (sl f r l) = sl f r l := rfl
def frzS (cells : List C) (b o n : Nat) : C := if o + n ≤ cells.length then .sl .no n (((cells.drop o).take n).map C.noR) else .sv b o n
def frzB (cells : List C) (o : Nat) : C := .kp ((cells.drop o).map C.noR)
theorem frz_sv (b : Nat) (cells : List C) (o n : Nat) : frz1 b cells (.sv b o n) = frzS cells b o n := by simp [frz1, frzS]
theorem frz_bp (b : Nat) (cells : List C) (o : Nat) : frz1 b cells (.bp b o) = frzB cells o := by simp [frz1, frzB]
theorem frzB_cl {α : Type} (f : α → List C) {s : Nat} [hf : Cel f s] (l : List α) : frzB (cl f l) 0 = .kp (cl f l) := by
  unfold frzB; simp only [List.drop_zero, cl_noR]
theorem frzB_one (c : C) : frzB [c] 0 = .kp [c.noR] := rfl
theorem frzS_cl {α : Type} (f : α → List C) [hf : Cel f 1] (b o n : Nat) (l : List α) (h : o + n ≤ l.length) : frzS (cl f l) b o n = sl f .no ((l.drop o).take n) := by
  have e1 := cl_drop (f := f) l o
  have e2 := cl_take (f := f) (l.drop o) n
  rw [Nat.mul_one] at e1 e2
  unfold frzS
  rw [if_pos (by rw [cl_len (f := f)]; omega), e1, e2, cl_noR]
  simp only [sl, List.length_take, List.length_drop]
  rw [Nat.min_eq_left (by omega)]
theorem frzS_all {α : Type} (f : α → List C) [hf : Cel f 1] (b n : Nat) (l : List α) (h : n = l.length) : frzS (cl f l) b 0 n = sl f .no l := by
  subst h
  rw [frzS_cl f b 0 l.length l (by omega)]; simp
theorem frzS_allL {α : Type} (f : α → List C) [hf : Cel f 1] (b n : Nat) (l : List α) (r : List C) (h : n = l.length) : frzS (cl f l ++ r) b 0 n = sl f .no l := by
  subst h
  unfold frzS
  have hl := cl_len (f := f) l
  simp only [List.length_append, hl, Nat.zero_add, Nat.mul_one, Nat.le_add_right, if_true, List.drop_zero]
  rw [List.take_append_of_le_length (by rw [hl]; omega), List.take_of_length_le (by rw [hl]; omega), cl_noR]
  rfl
/-- A slice of bytes behind other cells. -/
theorem frzS_RL {α β : Type} (f : α → List C) {s : Nat} [hf : Cel f s] (g : β → List C) [hg : Cel g 1] (b o n : Nat) (l : List α) (l' : List β) (r : List C) (h : l.length * s = o) (h2 : n = l'.length) : frzS (cl f l ++ (cl g l' ++ r)) b o n = sl g .no l' := by
  have e := frzS_allL g b n l' r h2
  unfold frzS at e ⊢
  have hl := cl_len (f := f) l
  have hd : (cl f l ++ (cl g l' ++ r)).drop o = cl g l' ++ r := by
    rw [List.drop_append, List.drop_of_length_le (by rw [hl]; omega), hl, h, Nat.sub_self]; rfl
  rw [hd]
  rw [List.drop_zero] at e
  by_cases hh : 0 + n ≤ (cl g l' ++ r).length
  · rw [if_pos hh] at e
    rw [if_pos (by rw [List.length_append, hl]; omega), e]
  · rw [if_neg hh] at e; cases e

theorem hno_zero : ∀ (f : Nat) (as : List C), refy as = true → (fun _ _ => none : Nat → List C → Option C) f as = none := fun _ _ _ => rfl
theorem hno_ext {pu : Nat → List C → Option C} (hno : ∀ f as, refy as = true → pu f as = none) {α : Type} {enc : α → List C} {out : α → C} {f : Nat} (he : ∀ a, noRefs 0 (enc a) = true) : ∀ g as, refy as = true → Sx.ext pu f (tabOf enc out) g as = none := fun g as hr => by
  by_cases hgf : g = f
  · subst hgf
    rw [ext_hit]
    cases hq : tabOf enc out as with
    | none => rfl
    | some c =>
      obtain ⟨a, rfl, _⟩ := tabOf_some hq
      have := he a
      rw [refy_not _ hr] at this; cases this
  · rw [ext_miss hgf]; exact hno g as hr
theorem CxOK.ext2 {P : Program} {gl : Nat → C} {pu : Nat → List C → Option C} {N M : Nat} (hcx : CxOK ⟨P, N, gl, pu, fun _ _ _ => none⟩)
    {α : Type} {enc : α → List C} {out : α → C} {f : Nat} (he : ∀ a, noRefs 0 (enc a) = true) (h : ∀ a, FC P gl f (enc a) [] (out a) []) : CxOK ⟨P, M, gl, Sx.ext pu f (tabOf enc out), fun _ _ _ => none⟩ :=
  hcx.ext (M := M) hcx.glo he h
theorem rda_app2 {α β : Type} (f : α → List C) {s : Nat} [hf : Cel f s] (g : β → List C) {s' : Nat} [hg : Cel g s'] (l : List α) (l' : List β) (c : C) (hc : c.noR = c) (n : Nat) (h : l.length * s + (l'.length * s' + 1) = n) :
    rda (cl f l ++ (cl g l' ++ [c])) 0 n = some (.agg (cl f l ++ (cl g l' ++ [c]))) := by
  subst h
  have hl : (cl f l ++ (cl g l' ++ [c])).length = l.length * s + (l'.length * s' + 1) := by simp [cl_len (f := f), cl_len (f := g)]
  unfold rda
  rw [hl, Nat.zero_add, if_pos (Nat.le_refl _), List.drop_zero, List.take_of_length_le (by rw [hl]; exact Nat.le_refl _)]
  simp [cl_noR, hc]
theorem wrc_w (l : List (BitVec 32)) (k : Nat) (a : BitVec 32) (h : k < l.length) : wrc (cl wC l) k [.val (w32 a)] = some (cl wC (l.set k a), .val undef) := wrc_cl (f := wC) l k a h
theorem wrc_wL (l : List (BitVec 32)) (r : List C) (k : Nat) (a : BitVec 32) (h : k < l.length) : wrc (cl wC l ++ r) k [.val (w32 a)] = some (cl wC (l.set k a) ++ r, .val undef) := wrc_clL (f := wC) l r k a h
theorem wrc_b (l : List (UInt8)) (k : Nat) (a : UInt8) (h : k < l.length) : wrc (cl bC l) k [.val (w8 a)] = some (cl bC (l.set k a), .val undef) := wrc_cl (f := bC) l k a h
theorem wrc_bL (l : List (UInt8)) (r : List C) (k : Nat) (a : UInt8) (h : k < l.length) : wrc (cl bC l ++ r) k [.val (w8 a)] = some (cl bC (l.set k a) ++ r, .val undef) := wrc_clL (f := bC) l r k a h
theorem wrc_n (l : List (Nat)) (k : Nat) (a : Nat) (h : k < l.length) : wrc (cl nC l) k [.val (nI a)] = some (cl nC (l.set k a), .val undef) := wrc_cl (f := nC) l k a h
theorem wrc_nL (l : List (Nat)) (r : List C) (k : Nat) (a : Nat) (h : k < l.length) : wrc (cl nC l ++ r) k [.val (nI a)] = some (cl nC (l.set k a) ++ r, .val undef) := wrc_clL (f := nC) l r k a h
theorem wrc_s (l : List (List UInt8)) (k : Nat) (a : List UInt8) (h : k < l.length) : wrc (cl sC l) k [.val (str a)] = some (cl sC (l.set k a), .val undef) := wrc_cl (f := sC) l k a h
theorem wrc_sL (l : List (List UInt8)) (r : List C) (k : Nat) (a : List UInt8) (h : k < l.length) : wrc (cl sC l ++ r) k [.val (str a)] = some (cl sC (l.set k a) ++ r, .val undef) := wrc_clL (f := sC) l r k a h
theorem wrc_o (l : List (Bool)) (k : Nat) (a : Bool) (h : k < l.length) : wrc (cl oC l) k [.val (.bool a)] = some (cl oC (l.set k a), .val undef) := wrc_cl (f := oC) l k a h
theorem wrc_oL (l : List (Bool)) (r : List C) (k : Nat) (a : Bool) (h : k < l.length) : wrc (cl oC l ++ r) k [.val (.bool a)] = some (cl oC (l.set k a) ++ r, .val undef) := wrc_clL (f := oC) l r k a h
theorem wrc_i (l : List (Int)) (k : Nat) (a : Int) (h : k < l.length) : wrc (cl iC l) k [.val (.int .i64 a)] = some (cl iC (l.set k a), .val undef) := wrc_cl (f := iC) l k a h
theorem wrc_iL (l : List (Int)) (r : List C) (k : Nat) (a : Int) (h : k < l.length) : wrc (cl iC l ++ r) k [.val (.int .i64 a)] = some (cl iC (l.set k a) ++ r, .val undef) := wrc_clL (f := iC) l r k a h
def slG (de : Option TD) (s : Nat) (p : Option Plan) : Option Plan := match de with
  | some de => if de.size = s then p else none
  | none => none
theorem slG_some (u : TypeDesc) (s y : Nat) (z : List Value) (p : Option Plan) : slG (some ⟨u, s, y, z⟩) s p = p := if_pos rfl
section
variable (P : Program) (a1 b1 : Nat) (z1 : List Value)
def slH (de : Option TD) (s : Nat) (p q : Option Plan) : Option Plan := match de with
  | some de => if de.size = s then p else q
  | none => q
theorem slH_some (u : TypeDesc) (s y : Nat) (z : List Value) (p q : Option Plan) : slH (some ⟨u, s, y, z⟩) s p q = p := if_pos rfl
def slPo {α : Type} (f : α → List C) (e : TypeId) (r : Rt) (l : List α) (lo hi : Option C) : Option Plan := slP P (some ⟨.slice e, a1, b1, z1⟩) (sl f r l) lo hi
theorem slP_slT {α : Type} (f : α → List C) {s0 : Nat} [hf : Cel f s0] (e : TypeId) (r : Rt) (l : List α) (lo hi : Option C) :
    slP P (some ⟨.slice e, a1, b1, z1⟩) (sl f r l) lo hi = slH (td P e) s0 (sl2 hi lo l.length fun h k => some (vp (sl f .no ((l.drop k).take (h - k))))) (slPo P a1 b1 z1 f e r l lo hi) := by
  unfold slPo
  cases hq : td P e with
  | none => rfl
  | some de =>
    obtain ⟨u, s, y, z⟩ := de
    unfold slH
    simp only []
    split
    · rename_i hs
      subst hs
      exact slP_sl P a1 b1 z1 f e r l lo hi u y z hq
    · rfl
theorem sta_T (n : Nat) (e : TypeId) (b o m : Nat) (h : n ≤ m ∧ n ≠ 0) : staP P (some ⟨.array n e, a1, b1, z1⟩) (.sv b o m) = slQ (td P e) fun _ => some (vp (.bp b o)) := by
  unfold staP slQ
  simp only []
  cases td P e with
  | none => rfl
  | some de => simp only []; rw [if_pos h]
def cpo (e : TypeId) (x y : C) : Option Plan := cpP P (some ⟨.slice e, a1, b1, z1⟩) x y
theorem cp_strT (e : TypeId) (b o n : Nat) (l : List UInt8) (h : 0 < n) :
    cpP P (some ⟨.slice e, a1, b1, z1⟩) (.sv b o n) (.val (str l)) = slH (td P e) 1 (some (.wr b (fun cells => cpc cells o n 1 (cl bC (l.take n)) (min l.length n)) none)) (cpo P a1 b1 z1 e (.sv b o n) (.val (str l))) := by
  unfold cpo
  cases hq : td P e with
  | none => rfl
  | some de =>
    obtain ⟨u, s, y, z⟩ := de
    unfold slH
    simp only []
    split
    · rename_i hs
      subst hs
      exact cp_str P a1 b1 z1 e b o n l u y z hq h
    · rfl
theorem cp_slT {α : Type} (f : α → List C) {s0 : Nat} [hf : Cel f s0] (e : TypeId) (b o n : Nat) (r : Rt) (l : List α) (h : 0 < n) :
    cpP P (some ⟨.slice e, a1, b1, z1⟩) (.sv b o n) (sl f r l) = slH (td P e) s0 (some (.wr b (fun cells => cpc cells o n s0 (cl f (l.take n)) (min l.length n)) none)) (cpo P a1 b1 z1 e (.sv b o n) (sl f r l)) := by
  unfold cpo
  cases hq : td P e with
  | none => rfl
  | some de =>
    obtain ⟨u, s, y, z⟩ := de
    unfold slH
    simp only []
    split
    · rename_i hs
      subst hs
      exact cp_sl P a1 b1 z1 f e b o n r l u y z hq h
    · rfl
end
def ixL (de : Option TD) (k : Option Nat) (n : Nat) (xs : List C) : Option Plan := ixS de k fun s k => if xs.length = n * s ∧ xs ≠ [] then some (vp (.kp (xs.drop (k * s)))) else none
theorem ixa_slT {α : Type} (f : α → List C) (P : Program) (a1 b1 : Nat) (z1 : List Value) (e : TypeId) (r : Rt) (l : List α) (i : C) : ixaP P (some ⟨.slice e, a1, b1, z1⟩) (sl f r l) i = ixL (td P e) (idx? i l.length) l.length (cl f l) := ixa_sl P a1 b1 z1 f e r l i
theorem ixL_some {α : Type} (f : α → List C) {s : Nat} [hf : Cel f s] (u : TypeDesc) (y : Nat) (z : List Value) (k : Nat) (l : List α) (h : k < l.length) : ixL (some ⟨u, s, y, z⟩) (some k) l.length (cl f l) = some (vp (.kp ((cl f l).drop (k * s)))) := by
  show (if (cl f l).length = l.length * s ∧ cl f l ≠ [] then some (vp (.kp ((cl f l).drop (k * s)))) else none) = _
  rw [if_pos ⟨cl_len (f := f) l, fun e => by
    have h1 := cl_len (f := f) l
    rw [e] at h1
    have h2 := hf.pos
    have h3 : l.length * s ≠ 0 := Nat.mul_ne_zero (by omega) (by omega)
    exact h3 h1.symm⟩]
def ixK (de : Option TD) (k : Option Nat) (n : Nat) (xs : List C) : Option Plan := ixS de k fun s k => if n * s ≤ xs.length then some (vp (.kp (xs.drop (k * s)))) else none
theorem ixa_akT (P : Program) (a1 b1 : Nat) (z1 : List Value) (n : Nat) (e : TypeId) (xs : List C) (i : C) : ixaP P (some ⟨.array n e, a1, b1, z1⟩) (.kp xs) i = ixK (td P e) (idx? i n) n xs := rfl
theorem ixK_some (u : TypeDesc) (s y : Nat) (z : List Value) (k n : Nat) (xs : List C) (h : n * s ≤ xs.length) : ixK (some ⟨u, s, y, z⟩) (some k) n xs = some (vp (.kp (xs.drop (k * s)))) := if_pos h
theorem refy_sv (b o n : Nat) (l : List C) : refy (.sv b o n :: l) = true := id rfl
theorem refy_bp (b o : Nat) (l : List C) : refy (.bp b o :: l) = true := id rfl
theorem refy_agg (xs l : List C) : refy (.agg xs :: l) = refy l := id rfl
theorem refy_val (v : Value) (l : List C) : refy (.val v :: l) = refy l := id rfl
theorem refy_kp (xs l : List C) : refy (.kp xs :: l) = refy l := id rfl
theorem refy_tsl {α : Type} (f : α → List C) (r : Rt) (x : List α) (l : List C) : refy (sl f r x :: l) = refy l := id rfl
theorem one_w32 (x : BitVec 32) : (w32 x).oneCell' = true := id rfl
theorem one_w8 (x : UInt8) : (w8 x).oneCell' = true := id rfl
theorem one_nI (x : Nat) : (nI x).oneCell' = true := id rfl
theorem one_nU (x : Nat) : (nU x).oneCell' = true := id rfl
theorem one_str (x : List UInt8) : (str x).oneCell' = true := id rfl
theorem one_bool (x : Bool) : (Value.bool x).oneCell' = true := id rfl
theorem one_int (k : IntKind) (x : Int) : (Value.int k x).oneCell' = true := id rfl
theorem one_slice : (Value.slice none 0 0).oneCell' = true := id rfl
end Go.Sx

namespace Go.Sx
open Go.RowKit

theorem gt_cons0 {α : Type} [Inhabited α] (a : α) (l : List α) : gt (a :: l) 0 = a := rfl
theorem gt_consS {α : Type} [Inhabited α] (a : α) (l : List α) (n : Nat) : gt (a :: l) (n + 1) = gt l n := by simp [gt, List.getD]
theorem rda_clM {α : Type} {f : α → List C} [hf : Cel f 1] (l : List α) (o n : Nat) (h : o + n ≤ l.length) : rda (cl f l) o n = some (.agg (cl f ((l.drop o).take n))) := by
  have e1 := cl_drop (f := f) l o
  have e2 := cl_take (f := f) (l.drop o) n
  rw [Nat.mul_one] at e1 e2
  unfold rda
  rw [if_pos (by rw [cl_len (f := f)]; omega), e1, e2, cl_noR]

def lay1 (cells : List C) : List (Nat × C) → Option Plan
  | [] => some (vp (.agg cells))
  | (i, c) :: r => match c.cells? with
    | some cs => if cs.length = 1 ∧ i + 1 ≤ cells.length then lay1 (splice cells i cs) r else none
    | none => none
theorem lay1_eq (y : Nat) : ∀ (parts : List (Nat × C)) (cells : List C), (lay (fun i => some (i * 1, 1)) cells parts).map (fun cs => vp (.agg cs)) = lay1 cells parts
  | [], cells => rfl
  | (i, c) :: r, cells => by
    unfold lay lay1
    cases c.cells? with
    | none => rfl
    | some cs =>
      simp only [Nat.mul_one]
      split
      · have := lay1_eq y r (splice cells i cs)
        simpa only [Nat.mul_one] using this
      · rfl
def buildA (de : Option TD) (z : List Value) (parts : List (Nat × C)) (q : Option Plan) : Option Plan := match de with
  | some d => if d.size = 1 ∧ z.all (·.oneCell') = true then lay1 (z.map .val) parts else q
  | none => q
def bpo (P : Program) (n : Nat) (e : TypeId) (s y : Nat) (z : List Value) (parts : List (Nat × C)) : Option Plan := buildP P (some ⟨.array n e, s, y, z⟩) parts
theorem build_arr (P : Program) (n : Nat) (e : TypeId) (s y : Nat) (z : List Value) (parts : List (Nat × C)) : buildP P (some ⟨.array n e, s, y, z⟩) parts = buildA (td P e) z parts (bpo P n e s y z parts) := by
  unfold buildA bpo
  cases hq : td P e with
  | none => rfl
  | some d =>
    simp only []
    split
    · rename_i h
      unfold buildP
      simp only [h.2, Bool.true_eq_false, if_false, places, hq, Option.map_some, Option.bind_some, h.1]
      exact lay1_eq 0 parts _
    · rfl
theorem buildA_rep (u : TypeDesc) (y n : Nat) (z : List Value) (v : Value) (parts : List (Nat × C)) (q : Option Plan) (h : v.oneCell' = true) : buildA (some ⟨u, 1, y, z⟩) (List.replicate n v) parts q = lay1 (List.replicate n (.val v)) parts := by
  unfold buildA
  simp only []
  rw [if_pos ⟨trivial, by simp [h]⟩, List.map_replicate]
theorem lay1_nil (cells : List C) : lay1 cells [] = some (vp (.agg cells)) := rfl
theorem lay1_w (l : List (BitVec 32)) (i : Nat) (x : BitVec 32) (r : List (Nat × C)) (h : i < l.length) : lay1 (cl wC l) ((i, .val (w32 x)) :: r) = lay1 (cl wC (l.set i x)) r := by
  have e := cl_set (f := wC) l i x h
  rw [Nat.mul_one] at e
  have e2 : splice (cl wC l) i [.val (w32 x)] = cl wC (l.set i x) := e
  show (if [C.val (w32 x)].length = 1 ∧ i + 1 ≤ (cl wC l).length then lay1 (splice (cl wC l) i [.val (w32 x)]) r else none) = _
  rw [if_pos ⟨rfl, by rw [cl_len (f := wC)]; omega⟩, e2]
theorem lay1_b (l : List UInt8) (i : Nat) (x : UInt8) (r : List (Nat × C)) (h : i < l.length) : lay1 (cl bC l) ((i, .val (w8 x)) :: r) = lay1 (cl bC (l.set i x)) r := by
  have e := cl_set (f := bC) l i x h
  rw [Nat.mul_one] at e
  have e2 : splice (cl bC l) i [.val (w8 x)] = cl bC (l.set i x) := e
  show (if [C.val (w8 x)].length = 1 ∧ i + 1 ≤ (cl bC l).length then lay1 (splice (cl bC l) i [.val (w8 x)]) r else none) = _
  rw [if_pos ⟨rfl, by rw [cl_len (f := bC)]; omega⟩, e2]
/- slices built of their elements -/
def lay1s (n : Nat) (cells : List C) : List (Nat × C) → Option Plan
  | [] => some (vp (.sl .full n cells))
  | (i, c) :: r => match c.cells? with
    | some cs => if cs.length = 1 ∧ i + 1 ≤ cells.length then lay1s n (splice cells i cs) r else none
    | none => none
theorem lay1s_eq (n : Nat) : ∀ (parts : List (Nat × C)) (cells : List C), (lay (fun i => some (i * 1, 1)) cells parts).map (fun cs => vp (.sl .full n cs)) = lay1s n cells parts
  | [], cells => rfl
  | (i, c) :: r, cells => by
    unfold lay lay1s
    cases c.cells? with
    | none => rfl
    | some cs =>
      simp only [Nat.mul_one]
      split
      · have := lay1s_eq n r (splice cells i cs)
        simpa only [Nat.mul_one] using this
      · rfl
def bsA (de : Option TD) (n : Nat) (parts : List (Nat × C)) : Option Plan := match de with
  | some de => if n * de.size ≤ 65536 ∧ n ≤ 65536 ∧ de.zero.length = de.size ∧ de.zero.all (·.oneCell') = true then
      (lay (fun i => some (i * de.size, de.size)) (repZero de.zero n) parts).map fun cs => vp (.sl .full n cs) else none
  | none => none
theorem bs_slice (P : Program) (e : TypeId) (s y n : Nat) (z : List Value) (parts : List (Nat × C)) : buildSliceP P (some ⟨.slice e, s, y, z⟩) n parts = bsA (td P e) n parts := rfl
theorem repZero_one (v : Value) : ∀ n, repZero [v] n = List.replicate n (.val v)
  | 0 => rfl
  | n + 1 => by rw [List.replicate_succ, ← repZero_one v n]; rfl
theorem bsA_one (u : TypeDesc) (y n : Nat) (v : Value) (parts : List (Nat × C)) (h : v.oneCell' = true) (hn : n ≤ 65536) : bsA (some ⟨u, 1, y, [v]⟩) n parts = lay1s n (List.replicate n (.val v)) parts := by
  unfold bsA
  simp only [Nat.mul_one, List.length_singleton, List.all_cons, List.all_nil, h, Bool.and_self, hn, and_self, if_true]
  rw [repZero_one]
  have := lay1s_eq n parts (List.replicate n (.val v))
  simpa only [Nat.mul_one] using this
theorem lay1s_b (n : Nat) (l : List UInt8) (i : Nat) (x : UInt8) (r : List (Nat × C)) (h : i < l.length) : lay1s n (cl bC l) ((i, .val (w8 x)) :: r) = lay1s n (cl bC (l.set i x)) r := by
  have e := cl_set (f := bC) l i x h
  rw [Nat.mul_one] at e
  have e2 : splice (cl bC l) i [.val (w8 x)] = cl bC (l.set i x) := e
  show (if [C.val (w8 x)].length = 1 ∧ i + 1 ≤ (cl bC l).length then lay1s n (splice (cl bC l) i [.val (w8 x)]) r else none) = _
  rw [if_pos ⟨rfl, by rw [cl_len (f := bC)]; omega⟩, e2]
theorem lay1s_s (n : Nat) (l : List (List UInt8)) (i : Nat) (x : List UInt8) (r : List (Nat × C)) (h : i < l.length) : lay1s n (cl sC l) ((i, .val (str x)) :: r) = lay1s n (cl sC (l.set i x)) r := by
  have e := cl_set (f := sC) l i x h
  rw [Nat.mul_one] at e
  have e2 : splice (cl sC l) i [.val (str x)] = cl sC (l.set i x) := e
  show (if [C.val (str x)].length = 1 ∧ i + 1 ≤ (cl sC l).length then lay1s n (splice (cl sC l) i [.val (str x)]) r else none) = _
  rw [if_pos ⟨rfl, by rw [cl_len (f := sC)]; omega⟩, e2]
theorem lay1s_nil {α : Type} (f : α → List C) (n : Nat) (l : List α) (h : n = l.length) : lay1s n (cl f l) [] = some (vp (sl f .full l)) := by
  subst h; rfl
theorem rep_str (n : Nat) : List.replicate n (C.val (str [])) = cl sC (List.replicate n []) := by
  induction n with
  | zero => rfl
  | succ n ih => rw [List.replicate_succ, ih]; rfl
/- whole boxes, and copies into them -/
theorem wrc_full (cells cs : List C) (h : cs.length = cells.length) : wrc cells 0 cs = some (cs, .val undef) := by
  unfold wrc splice
  rw [if_pos (by omega), List.take_zero, List.nil_append, Nat.zero_add, List.drop_of_length_le (by omega), List.append_nil]
theorem rda_full (cells : List C) (n : Nat) (h : cells.length = n) : rda cells 0 n = some (.agg (cells.map C.noR)) := by
  subst h
  unfold rda
  rw [if_pos (by omega), List.drop_zero, List.take_of_length_le (Nat.le_refl _)]
theorem cpc_clR {α : Type} {f : α → List C} {s : Nat} [hf : Cel f s] (l : List α) (r : List C) (o n s' m : Nat) (ys : List C) (h : l.length * s ≤ o) : cpc (cl f l ++ r) o n s' ys m = (cpc r (o - l.length * s) n s' ys m).map fun q => (cl f l ++ q.1, q.2) := by
  have hl := cl_len (f := f) l
  unfold cpc
  simp only [List.length_append, hl]
  rw [splice_appR _ _ _ _ (by rw [hl]; exact h), hl]
  by_cases hh : o + n * s' ≤ l.length * s + r.length
  · rw [if_pos hh, if_pos (by omega)]; rfl
  · rw [if_neg hh, if_neg (by omega)]; rfl
theorem cpc_cl {α : Type} {f : α → List C} [hf : Cel f 1] (l l' : List α) (o n m : Nat) (h : o + n ≤ l.length) : cpc (cl f l) o n 1 (cl f l') m = some (cl f (l.take o ++ l' ++ l.drop (o + l'.length)), .val (nI m)) := by
  have := cl_splice (f := f) l l' o
  rw [Nat.mul_one] at this
  unfold cpc
  rw [if_pos (by rw [cl_len (f := f)]; omega), this]
theorem cpc_clL {α : Type} {f : α → List C} [hf : Cel f 1] (l l' : List α) (r : List C) (o n m : Nat) (h : o + n ≤ l.length) (h2 : l'.length ≤ n) : cpc (cl f l ++ r) o n 1 (cl f l') m = some (cl f (l.take o ++ l' ++ l.drop (o + l'.length)) ++ r, .val (nI m)) := by
  have := cl_splice (f := f) l l' o
  rw [Nat.mul_one] at this
  have hl := cl_len (f := f) l
  have hl' := cl_len (f := f) l'
  unfold cpc
  rw [if_pos (by rw [List.length_append, hl]; omega), splice_appL _ _ _ _ (by rw [hl, hl']; omega), this]

/- zero values, and structs built of their parts -/
def zc (z : List Value) : List C := z.map .val
theorem zc_nil : zc [] = [] := rfl
theorem zc_cons (v : Value) (l : List Value) : zc (v :: l) = .val v :: zc l := rfl
theorem zc_app (a b : List Value) : zc (a ++ b) = zc a ++ zc b := by simp [zc]
theorem zc_rep (n : Nat) (v : Value) : zc (List.replicate n v) = List.replicate n (.val v) := by simp [zc]
def allOne (z : List Value) : Bool := z.all (·.oneCell')
theorem allOne_nil : allOne [] = true := rfl
theorem allOne_cons (v : Value) (l : List Value) : allOne (v :: l) = (v.oneCell' && allOne l) := rfl
theorem allOne_app (a b : List Value) : allOne (a ++ b) = (allOne a && allOne b) := by simp [allOne]
theorem allOne_rep (n : Nat) (v : Value) (h : v.oneCell' = true) : allOne (List.replicate n v) = true := by simp [allOne, h]
def alQ (b : Bool) (cs : List C) : Option Plan := if b then some (.new cs fun id => .bp id 0) else none
theorem alloc_z (u : TypeDesc) (s y : Nat) (z : List Value) : allocP (some ⟨u, s, y, z⟩) = alQ (allOne z) (zc z) := rfl
theorem alQ_true (cs : List C) : alQ true cs = some (.new cs fun id => .bp id 0) := rfl
def plc (P : Program) : List Field → Option (List (Nat × Nat))
  | [] => some []
  | fd :: l => match td P fd.type, plc P l with
    | some d, some r => some ((fd.offset, d.size) :: r)
    | _, _ => none
theorem plc_eq (P : Program) : ∀ l : List Field, (l.mapM fun f => (td P f.type).map fun d => (f.offset, d.size)) = plc P l
  | [] => rfl
  | fd :: l => by
    rw [List.mapM_cons, plc_eq P l]
    simp only [plc, Option.bind_eq_bind, Option.pure_def]
    cases td P fd.type with
    | none => rfl
    | some d => cases plc P l <;> rfl
def plQ (d : Option TD) (o : Nat) (r : Option (List (Nat × Nat))) : Option (List (Nat × Nat)) := match d, r with
  | some d, some r => some ((o, d.size) :: r)
  | _, _ => none
theorem plc_nil (P : Program) : plc P [] = some [] := rfl
theorem plc_cons (P : Program) (nm : String) (t : TypeId) (o : Nat) (em : Bool) (tg pp : String) (bo : Nat) (l : List Field) : plc P (⟨nm, t, o, em, tg, pp, bo⟩ :: l) = plQ (td P t) o (plc P l) := by
  simp only [plc, plQ]
theorem plQ_some (u : TypeDesc) (s y : Nat) (z : List Value) (o : Nat) (r : List (Nat × Nat)) : plQ (some ⟨u, s, y, z⟩) o (some r) = some ((o, s) :: r) := rfl
def layS (pl : List (Nat × Nat)) (cells : List C) : List (Nat × C) → Option Plan
  | [] => some (vp (.agg cells))
  | (i, c) :: rest => match pl[i]?, c.cells? with
    | some (off, size), some cs => if cs.length = size ∧ off + size ≤ cells.length then layS pl (splice cells off cs) rest else none
    | _, _ => none
theorem layS_eq (pl : List (Nat × Nat)) : ∀ (parts : List (Nat × C)) (cells : List C), (lay (fun i => pl[i]?) cells parts).map (fun cs => vp (.agg cs)) = layS pl cells parts
  | [], cells => rfl
  | (i, c) :: r, cells => by
    unfold lay layS
    cases pl[i]? with
    | none => rfl
    | some p =>
      obtain ⟨off, size⟩ := p
      cases c.cells? with
      | none => rfl
      | some cs =>
        simp only []
        split
        · exact layS_eq pl r _
        · rfl
def bldS (b : Bool) (pl : Option (List (Nat × Nat))) (cells : List C) (parts : List (Nat × C)) : Option Plan := if b then (match pl with
  | some pl => layS pl cells parts
  | none => none) else none
theorem build_struct (P : Program) (fs : List Field) (s y : Nat) (z : List Value) (parts : List (Nat × C)) : buildP P (some ⟨.struct fs.toArray, s, y, z⟩) parts = bldS (allOne z) (plc P fs) (zc z) parts := by
  unfold buildP bldS allOne zc
  simp only [places]
  by_cases h : z.all (·.oneCell') = true
  · rw [if_neg (by rw [h]; decide), if_pos h, plc_eq]
    cases plc P fs with
    | none => rfl
    | some pl => exact layS_eq pl parts _
  · rw [if_pos (by simpa using h), if_neg h]
theorem bldS_true (pl : List (Nat × Nat)) (cells : List C) (parts : List (Nat × C)) : bldS true (some pl) cells parts = layS pl cells parts := rfl
def layQ (pl : List (Nat × Nat)) (p : Option (Nat × Nat)) (cs : Option (List C)) (cells : List C) (r : List (Nat × C)) : Option Plan := match p, cs with
  | some (off, size), some cs => if cs.length = size ∧ off + size ≤ cells.length then layS pl (splice cells off cs) r else none
  | _, _ => none
def layW (pl : List (Nat × Nat)) (q : Option (List C × C)) (r : List (Nat × C)) : Option Plan := match q with
  | some q => layS pl q.1 r
  | none => none
theorem layS_nil (pl : List (Nat × Nat)) (cells : List C) : layS pl cells [] = some (vp (.agg cells)) := rfl
theorem layS_cons (pl : List (Nat × Nat)) (cells : List C) (i : Nat) (c : C) (r : List (Nat × C)) : layS pl cells ((i, c) :: r) = layQ pl (pl[i]?) c.cells? cells r := by
  rw [layS.eq_def]; rfl
theorem layQ_some (pl : List (Nat × Nat)) (off size : Nat) (cs cells : List C) (r : List (Nat × C)) (h : cs.length = size) : layQ pl (some (off, size)) (some cs) cells r = layW pl (wrc cells off cs) r := by
  subst h
  unfold layQ layW wrc
  simp only [true_and]
  split <;> rfl
theorem layW_some (pl : List (Nat × Nat)) (cells : List C) (c : C) (r : List (Nat × C)) : layW pl (some (cells, c)) r = layS pl cells r := rfl

/- cells behind lists -/
section
variable {α β : Type} {f : α → List C} {s : Nat} [hf : Cel f s] {g : β → List C}
theorem rdc_clE (l : List α) (c : C) (r : List C) (k : Nat) (h : l.length * s = k) : rdc (cl f l ++ (c :: r)) k = some c.noR := by
  rw [rdc_clR (f := f) l _ k (by omega), h, Nat.sub_self, rdc_cons0]
theorem rdc_clRR (l : List α) (l' : List β) (r : List C) (k : Nat) (h : l.length * s ≤ k) : rdc (cl f l ++ (cl g l' ++ r)) k = rdc (cl g l' ++ r) (k - l.length * s) := rdc_clR (f := f) l _ k h
theorem rda_clRR (l : List α) (l' : List β) (r : List C) (k n : Nat) (h : l.length * s ≤ k) : rda (cl f l ++ (cl g l' ++ r)) k n = rda (cl g l' ++ r) (k - l.length * s) n := rda_clR (f := f) l _ k n h
theorem wrc_clE (l : List α) (c c' : C) (r : List C) (k : Nat) (h : l.length * s = k) : wrc (cl f l ++ (c :: r)) k [c'] = some (cl f l ++ (c' :: r), .val undef) := by
  rw [wrc_clR (f := f) l _ _ k (by omega), h, Nat.sub_self]
  unfold wrc splice
  rw [if_pos (by simp)]
  rfl
theorem wrc_clRR (l : List α) (l' : List β) (r cs : List C) (o : Nat) (h : l.length * s ≤ o) : wrc (cl f l ++ (cl g l' ++ r)) o cs = (wrc (cl g l' ++ r) (o - l.length * s) cs).map fun q => (cl f l ++ q.1, q.2) := wrc_clR (f := f) l _ cs o h
theorem wrs_clE (l : List α) (c c' : C) (r : List C) (k : Nat) (h : l.length * s = k) : wrs (cl f l ++ (c :: r)) k c' = some (cl f l ++ (c' :: r), .val undef) := by
  have hl := cl_len (f := f) l
  unfold wrs
  rw [if_pos (by rw [List.length_append, hl]; simp; omega), List.set_append_right _ _ (by rw [hl]; omega), hl, ← h, Nat.sub_self]; rfl
theorem cpc_clRR (l : List α) (l' : List β) (r : List C) (o n s' m : Nat) (ys : List C) (h : l.length * s ≤ o) : cpc (cl f l ++ (cl g l' ++ r)) o n s' ys m = (cpc (cl g l' ++ r) (o - l.length * s) n s' ys m).map fun q => (cl f l ++ q.1, q.2) := cpc_clR (f := f) l _ o n s' m ys h
end
theorem rep_1 {α : Type} (a : α) : List.replicate 1 a = [a] := rfl
theorem bsA_w (u : TypeDesc) (y n : Nat) (parts : List (Nat × C)) (hn : n ≤ 65536) : bsA (some ⟨u, 1, y, [w32 (BitVec.ofNat 32 0)]⟩) n parts = lay1s n (cl wC (List.replicate n 0)) parts := by
  rw [bsA_one u y n _ parts rfl hn, rep_w32]
theorem buildA_w (u : TypeDesc) (y n : Nat) (z : List Value) (parts : List (Nat × C)) (q : Option Plan) : buildA (some ⟨u, 1, y, z⟩) (List.replicate n (w32 (BitVec.ofNat 32 0))) parts q = lay1 (cl wC (List.replicate n 0)) parts := by
  rw [buildA_rep u y n z _ parts q rfl, rep_w32]
theorem bsA_b (u : TypeDesc) (y n : Nat) (parts : List (Nat × C)) (hn : n ≤ 65536) : bsA (some ⟨u, 1, y, [w8 (UInt8.ofNat 0)]⟩) n parts = lay1s n (cl bC (List.replicate n 0)) parts := by
  rw [bsA_one u y n _ parts rfl hn, rep_w8]
theorem buildA_b (u : TypeDesc) (y n : Nat) (z : List Value) (parts : List (Nat × C)) (q : Option Plan) : buildA (some ⟨u, 1, y, z⟩) (List.replicate n (w8 (UInt8.ofNat 0))) parts q = lay1 (cl bC (List.replicate n 0)) parts := by
  rw [buildA_rep u y n z _ parts q rfl, rep_w8]
theorem bsA_n (u : TypeDesc) (y n : Nat) (parts : List (Nat × C)) (hn : n ≤ 65536) : bsA (some ⟨u, 1, y, [nI 0]⟩) n parts = lay1s n (cl nC (List.replicate n 0)) parts := by
  rw [bsA_one u y n _ parts rfl hn, rep_nI]
theorem buildA_n (u : TypeDesc) (y n : Nat) (z : List Value) (parts : List (Nat × C)) (q : Option Plan) : buildA (some ⟨u, 1, y, z⟩) (List.replicate n (nI 0)) parts q = lay1 (cl nC (List.replicate n 0)) parts := by
  rw [buildA_rep u y n z _ parts q rfl, rep_nI]
theorem bsA_s (u : TypeDesc) (y n : Nat) (parts : List (Nat × C)) (hn : n ≤ 65536) : bsA (some ⟨u, 1, y, [str []]⟩) n parts = lay1s n (cl sC (List.replicate n [])) parts := by
  rw [bsA_one u y n _ parts rfl hn, rep_str]
theorem buildA_s (u : TypeDesc) (y n : Nat) (z : List Value) (parts : List (Nat × C)) (q : Option Plan) : buildA (some ⟨u, 1, y, z⟩) (List.replicate n (str [])) parts q = lay1 (cl sC (List.replicate n [])) parts := by
  rw [buildA_rep u y n z _ parts q rfl, rep_str]
end Go.Sx

namespace Go.Sx
open Go.RowKit Go.ChangeShapes Go.WideShapes

/-- All of memory is known; nobody will write it. -/
def GW (W : World) : Gh := ⟨fun b o => W.cell? ⟨b, o, none⟩, fun _ => none, fun _ => none⟩
theorem GW_ok (W : World) : WorldOK (GW W) [] W :=
  ⟨fun _ _ _ h => h, fun b cells h => (by simp [Hp.at] at h), fun b blk h => (by cases h), fun b b' blk h => (by cases h), fun b blk h => (by cases h), fun g p h => (by cases h),
    fun b cells off s n xs blk v h => (by simp [Hp.at] at h)⟩

/-- The values of a type read as typed lists of cells. -/
def Rds (P : Program) (t : TypeId) {α : Type} (f : α → List C) (ok : α → Prop) : Prop :=
  ∀ {H : Type} {enc : TypeId × Value → H} {W : World} {base : Nat} {sp : Nat → Bool} {held : Bool} {fuel : Nat} {cs : List Value} {x : DataW H × List MemPlace},
    DataW.trod enc P W base sp held fuel t cs = some x → ∃ a, ok a ∧ RepL (GW W) (f a) cs ∧ ∀ u ∈ cs, u.oneCell' = true

section
variable {P : Program} {t e : TypeId}

theorem rds_val {c v : Value} {G : Gh} (h : v = c) : RepL G [.val c] [v] := by
  simp only [RepL, Rep]; exact ⟨v, [], rfl, h, rfl⟩
theorem rds_int (ht : P.underlying t = some (.int .i64)) : Rds P t iC fun n => -9223372036854775808 ≤ n ∧ n ≤ 9223372036854775807 := fun h => by
  obtain ⟨n, rfl, _, hw⟩ := DataW.trod_int ht h
  refine ⟨n, ?_, rds_val rfl, by simp [Value.oneCell']⟩
  simpa [Lit.wf, IntKind.min, IntKind.max, IntKind.signed, IntKind.bits] using hw
theorem rds_u8 (ht : P.underlying t = some (.int .u8)) : Rds P t bC fun _ => True := fun h => by
  obtain ⟨n, rfl, _, hw⟩ := DataW.trod_int ht h
  have hr : 0 ≤ n ∧ n ≤ 255 := by simpa [Lit.wf, IntKind.min, IntKind.max, IntKind.signed, IntKind.bits] using hw
  refine ⟨UInt8.ofNat n.toNat, trivial, rds_val ?_, by simp [Value.oneCell']⟩
  simp only [w8, UInt8.toNat_ofNat']
  congr 1
  have : n.toNat % 2 ^ 8 = n.toNat := Nat.mod_eq_of_lt (by omega)
  rw [this]; omega
theorem rds_bool (ht : P.underlying t = some .bool) : Rds P t oC fun _ => True := fun h => by
  obtain ⟨b, rfl, _⟩ := DataW.trod_bool ht h
  exact ⟨b, trivial, rds_val rfl, by simp [Value.oneCell']⟩
theorem str_of (s : ByteArray) : Value.string s = str s.data.toList := by cases s; rfl
theorem rds_str (ht : P.underlying t = some .string) : Rds P t sC fun l => l.length ≤ 9223372036854775807 := fun h => by
  obtain ⟨s, rfl, _, hs⟩ := DataW.trod_string ht h
  refine ⟨s.data.toList, ?_, rds_val (str_of s), by simp [Value.oneCell']⟩
  have : s.data.toList.length = s.size := by cases s; rfl
  exact Nat.le_trans (Nat.le_of_eq this) hs
theorem addr_add2 (b o x y : Nat) : ((⟨b, o, none⟩ : Addr).add x).add y = ⟨b, o + x + y, none⟩ := by
  simp only [Addr.add]
  by_cases hx : x = 0 <;> by_cases hy : y = 0 <;> simp [hx, hy]
theorem forall_lists {α : Type} {R : Nat → α → Prop} : ∀ n, (∀ i < n, ∃ a, R i a) → ∃ l : List α, l.length = n ∧ ∀ i a, l[i]? = some a → R i a
  | 0, _ => ⟨[], rfl, by simp⟩
  | n + 1, h => by
    obtain ⟨l, h1, h2⟩ := forall_lists n (fun i hi => h i (by omega))
    obtain ⟨a, ha⟩ := h n (by omega)
    refine ⟨l ++ [a], by simp [h1], fun i b hb => ?_⟩
    rw [List.getElem?_append] at hb
    split at hb
    · exact h2 i b hb
    · rename_i hi
      have : i = n := by
        have := (List.getElem?_eq_some_iff.1 hb).1
        simp at this; omega
      subst this
      simp [h1] at hb; subst hb; exact ha
theorem cl_getq {α : Type} {f : α → List C} {s : Nat} [hf : Cel f s] (l : List α) (i j : Nat) (hj : j < s) : (cl f l)[i * s + j]? = (l[i]?).bind fun a => (f a)[j]? := by
  have h1 : (cl f l)[i * s + j]? = ((cl f l).drop (i * s))[j]? := by rw [List.getElem?_drop]
  rw [h1, cl_drop]
  cases hq : l[i]? with
  | none =>
    rw [List.drop_of_length_le (by simpa using hq)]; rfl
  | some a =>
    obtain ⟨hi, rfl⟩ := List.getElem?_eq_some_iff.1 hq
    rw [List.drop_eq_getElem_cons hi, cl_cons, List.getElem?_append_left (by rw [hf.len]; exact hj)]; rfl

theorem rds_slice {α : Type} {f : α → List C} {ok : α → Prop} {s : Nat} [hf : Cel f s] (ht : P.underlying t = some (.slice e)) (hc : P.cellsOf e = s) (he : Rds P e f ok) :
    Rds P t (fun l : List α => [sl f .no l]) fun l => l.length ≤ 9223372036854775807 ∧ ∀ a ∈ l, ok a := fun {H enc W base sp held fuel cs x} h => by
  rcases DataW.trod_slice ht h with ⟨rfl, _⟩ | ⟨a, len, cap, elems, rest, n, _, rfl, _, hb, hl, hm, hlen, hel, _, _⟩
  · refine ⟨[], ⟨by simp, by simp⟩, ?_, by simp [Value.oneCell']⟩
    simp only [RepL]
    refine ⟨_, [], rfl, ?_, rfl⟩
    simp only [sl, Rep]
    exact ⟨none, 0, rfl, Nat.le_refl _, Nat.zero_le _, by simp, .inl rfl⟩
  · have each : ∀ i < len, ∃ b, ok b ∧ ∃ cs, W.cells? base (a.add (i * s)) s = some cs ∧ RepL (GW W) (f b) cs ∧ ∀ u ∈ cs, u.oneCell' = true := fun i hi => by
      have h1 := hel i hi
      rw [List.getElem?_eq_getElem (by omega), hc, Option.bind_eq_some_iff] at h1
      obtain ⟨cs, h2, h3⟩ := h1
      obtain ⟨b, h4, h5, h6⟩ := he h3
      exact ⟨b, h4, cs, h2, h5, h6⟩
    obtain ⟨l, hll, hlr⟩ := forall_lists len each
    refine ⟨l, ⟨by rw [hll]; exact Nat.le_trans hl hm, fun b hb => by
      obtain ⟨i, hi⟩ := List.getElem?_of_mem hb
      exact (hlr i b hi).1⟩, ?_, by simp [Value.oneCell']⟩
    simp only [RepL]
    refine ⟨_, [], rfl, ?_, rfl⟩
    simp only [sl, Rep]
    refine ⟨some a, cap, by rw [hll], by omega, hm, by simp, ?_⟩
    by_cases h0 : len = 0
    · left; have : l = [] := by rw [← List.length_eq_zero_iff]; omega
      subst this; rfl
    · right
      have hspot : a = ⟨a.block, a.off, none⟩ := by
        obtain ⟨b, hb⟩ : ∃ b, l[0]? = some b := ⟨_, List.getElem?_eq_getElem (by omega)⟩
        obtain ⟨_, cs, h2, _⟩ := hlr 0 b hb
        have h3 := (World.cells?_some h2).2.2 0 hf.pos
        simp only [Nat.zero_mul] at h3
        have h4 : W.cell? a ≠ none := by
          have : (a.add 0).add 0 = a := by simp [Addr.add]
          rw [this] at h3
          rw [h3]
          have := (World.cells?_some h2).2.1
          intro hq
          have := hf.pos
          have hq2 : cs.length ≤ 0 := by simpa using hq
          omega
        obtain ⟨blk, off, spot⟩ := a
        cases spot with
        | none => rfl
        | some q => simp [World.cell?] at h4; split at h4 <;> simp_all
      refine ⟨a.block, a.off, by rw [← hspot], ?_⟩
      refine RepK.of_get fun k c hk => ?_
      have hkl : k < (cl f l).length := (List.getElem?_eq_some_iff.1 hk).1
      rw [cl_len (f := f)] at hkl
      have hs := hf.pos
      have hdm : k = (k / s) * s + k % s := by rw [Nat.mul_comm]; exact (Nat.div_add_mod k s).symm
      have hml : k % s < s := Nat.mod_lt _ hs
      rw [hdm, cl_getq (f := f) l _ _ hml] at hk
      rw [Option.bind_eq_some_iff] at hk
      obtain ⟨b, hb, hbc⟩ := hk
      obtain ⟨_, cs, h2, h3, h4⟩ := hlr _ b hb
      obtain ⟨u, hu1, hu2⟩ := h3.get _ c hbc
      refine ⟨u, ?_, h4 u (List.mem_of_getElem? hu1), hu2⟩
      have h5 := (World.cells?_some h2).2.2 (k % s) hml
      rw [hu1] at h5
      rw [hspot] at h5
      show W.cell? ⟨a.block, a.off + k, none⟩ = some u
      rw [← h5]
      rw [addr_add2, Nat.add_assoc, ← hdm]

theorem rds_array {α : Type} {f : α → List C} {ok : α → Prop} {s n : Nat} [hf : Cel f s] (ht : P.underlying t = some (.array n e)) (hc : P.cellsOf e = s) (hn : P.cellsOf t = n * s) (he : Rds P e f ok) :
    Rds P t (fun l : List α => cl f l) fun l => l.length = n ∧ ∀ a ∈ l, ok a := fun {H enc W base sp held fuel cs x} h => by
  obtain ⟨xs, m, _, _, hlen, hxl, hel⟩ := DataW.trod_array ht h
  have each : ∀ i < n, ∃ b, ok b ∧ RepL (GW W) (f b) ((cs.drop (i * s)).take s) ∧ ∀ u ∈ (cs.drop (i * s)).take s, u.oneCell' = true := fun i hi => by
    have h1 := hel i hi
    rw [List.getElem?_eq_getElem (by omega), hc] at h1
    exact he h1
  obtain ⟨l, hll, hlr⟩ := forall_lists n each
  have hcs : cs.length = n * s := by omega
  refine ⟨l, ⟨hll, fun b hb => by
    obtain ⟨i, hi⟩ := List.getElem?_of_mem hb
    exact (hlr i b hi).1⟩, ?_, ?_⟩
  · refine RepL.of_get (by rw [cl_len (f := f), hll, hcs]) fun k c v hk hv => ?_
    have hs := hf.pos
    have hdm : k = (k / s) * s + k % s := by rw [Nat.mul_comm]; exact (Nat.div_add_mod k s).symm
    have hml : k % s < s := Nat.mod_lt _ hs
    rw [hdm, cl_getq (f := f) l _ _ hml, Option.bind_eq_some_iff] at hk
    obtain ⟨b, hb, hbc⟩ := hk
    obtain ⟨_, h3, _⟩ := hlr _ b hb
    obtain ⟨u, hu1, hu2⟩ := h3.get _ c hbc
    rw [List.getElem?_take_of_lt hml, List.getElem?_drop, ← hdm, hv] at hu1
    cases hu1
    exact hu2
  · intro u hu
    obtain ⟨k, hk⟩ := List.getElem?_of_mem hu
    have hkl : k < n * s := by have := (List.getElem?_eq_some_iff.1 hk).1; omega
    have hs := hf.pos
    have hdm : k = (k / s) * s + k % s := by rw [Nat.mul_comm]; exact (Nat.div_add_mod k s).symm
    have hml : k % s < s := Nat.mod_lt _ hs
    have hd : k / s < n := Nat.div_lt_of_lt_mul (by rw [Nat.mul_comm]; exact hkl)
    obtain ⟨b, hb⟩ : ∃ b, l[k / s]? = some b := ⟨_, List.getElem?_eq_getElem (by omega)⟩
    refine (hlr _ b hb).2.2 u (List.mem_of_getElem? (i := k % s) ?_)
    rw [List.getElem?_take_of_lt hml, List.getElem?_drop, ← hdm, hk]
end

/-! Arguments. -/
section
variable {H : Type} {enc : TypeId × Value → H} {P : Program} {W : World} {base b0 : Nat} {sp : Nat → Bool} {held : Bool} {t : TypeId} {v : Value} {d : DataW H} {ps : List MemPlace}

theorem arg_one {α : Type} {f : α → List C} {g : α → C} {ok : α → Prop} (hg : ∀ a, f a = [g a]) (hr : Rds P t f ok) (hu : ∀ u, P.underlying t = some u → (match u with | .struct _ | .array _ _ => False | _ => True))
    (hval : Value.okWide P W .any b0 t v) (hd : DataW.Trod enc P W base sp held t v d ps) : ∃ a, ok a ∧ Rep (GW W) (g a) v := by
  obtain ⟨fuel, hd⟩ := hd
  obtain ⟨a, h1, h2, _⟩ := hr hd
  rw [hg] at h2
  simp only [RepL] at h2
  obtain ⟨u, vs, h3, h4, rfl⟩ := h2
  refine ⟨a, h1, ?_⟩
  cases v with
  | agg cs =>
    exfalso
    unfold Value.okWide at hval
    cases hq : P.underlying t with
    | none => rw [hq] at hval; simp [Cell.okWide, Cell.ok, hq] at hval
    | some u => 
      have := hu u hq
      rw [hq] at hval
      cases u <;> simp_all [Cell.okWide, Cell.ok]
  | _ =>
    simp only [Value.cells, List.cons.injEq, and_true] at h3
    rw [h3]; exact h4

theorem arg_agg {α : Type} {f : α → List C} {ok : α → Prop} (hr : Rds P t f ok) (hu : ∃ u, P.underlying t = some u ∧ (match u with | .struct _ | .array _ _ => True | _ => False))
    (hval : Value.okWide P W .any b0 t v) (hd : DataW.Trod enc P W base sp held t v d ps) : ∃ a, ok a ∧ Rep (GW W) (.agg (f a)) v := by
  obtain ⟨fuel, hd⟩ := hd
  obtain ⟨a, h1, h2, h3⟩ := hr hd
  obtain ⟨u, h4, h5⟩ := hu
  have : ∃ cs, v = .agg cs := by
    unfold Value.okWide at hval
    rw [h4] at hval
    cases u <;> simp_all
    · obtain ⟨cs, rfl, _⟩ := hval; exact ⟨cs, rfl⟩
    · obtain ⟨cs, rfl, _⟩ := hval; exact ⟨cs, rfl⟩
  obtain ⟨cs, rfl⟩ := this
  refine ⟨a, h1, ?_⟩
  simp only [Rep]
  exact ⟨cs, rfl, h2, h3⟩
end

/-! What a law owes when it returns. -/
def slicesB (P : Program) : Bool := (List.range P.types.size).all fun t => match P.underlying t with
  | some (.slice e) => decide (0 < P.cellsOf e)
  | _ => true

theorem trodAll_stays {H : Type} {enc : TypeId × Value → H} {P : Program} {W W' : World} {sp : Nat → Bool} (hl : laidOutB P = true) (hm : mapsRowed P = true) (hs : slicesB P = true) :
    ∀ (ts : List TypeId) (vs : List Value) (ds : List (DataW H)) (ps : List MemPlace), (∀ t ∈ ts, t < P.types.size) → DataW.TrodAll enc P W 0 (fun _ => true) true ts vs ds ps →
      (∀ p ∈ ps, W.sameAt W' p) → (∀ p ∈ ps, sp p.block = true) → DataW.TrodAll enc P W' 0 sp true ts vs ds ps
  | [], [], [], ps, _, h, _, _ => h
  | t :: ts, v :: vs, d :: ds, ps, hb, h, h1, h2 => by
    obtain ⟨p, q, ⟨fuel, h3⟩, h4, rfl⟩ := h
    refine ⟨p, q, ⟨fuel, ?_⟩, trodAll_stays hl hm hs ts vs ds q (fun t ht => hb t (List.mem_cons_of_mem _ ht)) h4 (fun p hp => h1 p (List.mem_append_right _ hp)) (fun p hp => h2 p (List.mem_append_right _ hp)), rfl⟩
    refine DataW.trod_stays (T := (· < P.types.size)) (kids_rows hl hm) (fun {t e} ht he => ?_) (fun h => by cases h) (hb t (List.mem_cons_self ..)) h3 (fun p hp => h1 p (List.mem_append_left _ hp)) (fun p hp => h2 p (List.mem_append_left _ hp))
    have := List.all_eq_true.1 hs t (List.mem_range.2 ht)
    rw [he] at this
    simpa using this
  | [], [], _ :: _, _, _, h, _, _ => h.elim
  | [], _ :: _, _, _, _, h, _, _ => h.elim
  | _ :: _, [], _, _, _, h, _, _ => h.elim
  | _ :: _, _ :: _, [], _, _, h, _, _ => h.elim

theorem law_post {H : Type} {enc : TypeId × Value → H} {P : Program} {f : Func} {s : ChangeSpec} {fresh handsOn again : Bool} {W W' : World} {args : Array Value} {ds gs : List (DataW H)} {before : List MemPlace} {t : TypeId}
    (hl : laidOutB P = true) (hm : mapsRowed P = true) (hsl : slicesB P = true) (hps : ∀ t ∈ f.params.toList, t < P.types.size)
    (hW : DataW.Whole enc P f.params.toList s.vars false W args.toList ds gs before) (hv : s.vars = [])
    (hs : s.fn H ds = { results := [.lit (.bool true)], args := ds }) (hr : f.resultTypes = #[t]) (ht : P.underlying t = some .bool)
    (hos : W'.os = W.os) (hout : W'.output = W.output) (hold : ∀ g < W.heap.size, W'.heap[g]? = W.heap[g]?) :
    s.post enc P f false fresh handsOn again W args (.bool true) W' := by
  have hlt := hW.lt
  have hW0 := hW
  obtain ⟨p, q, h1, h2, rfl, hz, hn⟩ := hW
  rw [hv] at h2
  obtain ⟨rfl, rfl⟩ := trodVars_none h2
  simp only [List.append_nil] at hW0 hlt hz hn
  have same : ∀ x ∈ p, W.sameAt W' x := fun x hx => by
    have hb := hold _ (hlt x hx)
    cases x with
    | cell b o => simp only [World.sameAt, MemPlace.block] at hb ⊢; simp only [World.cell?]; rw [hb]
    | map b => exact hb
  have args' : ∀ sp : Nat → Bool, (∀ x ∈ p, sp x.block = true) → DataW.TrodAll enc P W' 0 sp true f.params.toList args.toList ds p := fun sp hsp =>
    trodAll_stays hl hm hsl _ _ _ _ hps h1 same hsp
  have res : ∀ (b : Nat) (sp : Nat → Bool) (hd : Bool), DataW.TrodAll enc P W' b sp hd f.resultTypes.toList ((Value.bool true).resultList f.resultTypes.size) [.lit (.bool true)] [] := fun b sp hd => by
    rw [hr]; exact trodAll_mk1 (shut_bool ht true)
  refine ⟨ds, [], p, [], p, [], hW0, ?_, ?_, ?_, ?_, fun _ => ⟨?_, .lit (.bool true) :: ds, [], p, ⟨p, [], ?_, ?_, by simp, fun b off hp => ?_, fun h => by cases h⟩, fun x hx _ => hx⟩⟩
  · rw [List.append_nil, hs]; exact res _ _ _
  · rw [List.append_nil, hs]; exact args' _ fun x hx => by simpa using hlt x hx
  · rw [List.append_nil, hs, hv]; rfl
  · refine ⟨hos, hout, fun i hi => ?_⟩
    rw [hold i hi]
    cases W.heap[i]? with
    | none => rfl
    | some o => cases o <;> simp
  · exact ok_one hr rfl (okWide_bool_mk ht true)
  · rw [hr]
    exact ⟨[], p, shut_bool ht true, args' (fun _ => true) fun _ _ => rfl, rfl⟩
  · rw [hv]; rfl
  · have := hz b off hp
    simp only [World.frozen?] at this ⊢
    rw [hold b (hlt _ hp)]; exact this

/-- A law whose contract says that it returns true. -/
theorem law_lifted {K : Checked} {os : Os} (started : os.Started) {H : Type} {enc : TypeId × Value → H} {a : Assume} {fi : Nat} {fn : Func} {s : ChangeSpec} {fresh handsOn again : Bool} {laid : List (String × DataW Unit)} {gl : Nat → C} {t : TypeId}
    (own : ownKnob K.prog.godebug = none) (noInit : K.prog.inits.idxOf? fi = none) (hfn : K.prog.funcs[fi]? = some fn)
    (hl : laidOutB K.prog = true) (hm : mapsRowed K.prog = true) (hsl : slicesB K.prog = true) (hps : (fn.params.toList.all fun t => decide (t < K.prog.types.size)) = true)
    (hv : s.vars = []) (hs : ∀ ds : List (DataW H), ds.length = fn.params.size → s.fn H ds = { results := [.lit (.bool true)], args := ds }) (hr : fn.resultTypes = #[t]) (ht : K.prog.underlying t = some .bool)
    (witness : ∃ (w : World) (tape : Tape) (i : Input), w.os = os ∧ (w.forCall tape i).Shaped K.prog ∧ i.vars = [] ∧ Input.okWide K.prog (w.forCall tape i) .any w.heap.size fi i ∧
      ((s.pre enc K.prog fn [] false (w.forCall tape i).memory i.args ∧ laidMetH K.prog laid (w.forCall tape i).memory) ∧ sizedMet enc K.prog fn (OpenSpec.ofChange s) false (w.forCall tape i).memory i.args) ∧ a.holds K.prog (lone (Frame.enter K.prog fi i.args .normal) [] (w.forCall tape i)))
    (hgl : ∀ W, laidMetH K.prog laid W → ∀ g, Rep (GW W) (gl g) (.pointer (some ⟨g, 0, none⟩)))
    (hc : ∀ (W : World) (b0 : Nat) (args : Array Value) (ds : List (DataW H)) (p : List MemPlace), (∀ (j : Nat) t v, fn.params.toList[j]? = some t → args.toList[j]? = some v → Value.okWide K.prog W .any b0 t v) →
      DataW.TrodAll enc K.prog W 0 (fun _ => true) true fn.params.toList args.toList ds p → ∃ as, RepL (GW W) as args.toList ∧ FC K.prog gl fi as [] (.val (.bool true)) []) :
    ReturnsInHanded a K os fi .any (fun w args => (s.pre enc K.prog fn [] false w args ∧ laidMetH K.prog laid w) ∧ sizedMet enc K.prog fn (OpenSpec.ofChange s) false w args) (s.post enc K.prog fn false fresh handsOn again) := by
  refine returnsInHanded_of_change_and (C := K) (X := fun w _ => laidMetH K.prog laid w) (fun _ _ _ hh h => laidMetH.of_heap hh h) own started noInit hfn witness ?_
  intro W base args ds gs before hval hW _ _ hL _
  have hW' := hW
  obtain ⟨p, q, h1, h2, rfl, hz, hn⟩ := hW'
  rw [hv] at h2
  obtain ⟨rfl, rfl⟩ := trodVars_none h2
  obtain ⟨as, has, hfc⟩ := hc W base args ds p (fun j t v hj hv => hval j t v (by simpa using hj) (by simpa using hv)) h1
  refine (hfc.2 (GW W) W args (GW_ok W) (fun g p h => by cases h) (hgl W hL) has).mono ?_
  rintro e W' ⟨v, G', rfl, hrep, _, _, F⟩
  rw [rep_val] at hrep
  subst hrep
  have hlen : ∀ (ts : List TypeId) (vs : List Value) (ds : List (DataW H)) (ps : List MemPlace), DataW.TrodAll enc K.prog W 0 (fun _ => true) true ts vs ds ps → ds.length = ts.length := by
    intro ts
    induction ts with
    | nil => intro vs ds ps h; cases vs <;> cases ds <;> simp_all [DataW.TrodAll]
    | cons t ts ih =>
      intro vs ds ps h
      cases vs <;> cases ds <;> simp only [DataW.TrodAll] at h
      obtain ⟨p, q, _, h4, _⟩ := h
      simp [ih _ _ _ h4]
  have hold : ∀ g < W.heap.size, W'.heap[g]? = W.heap[g]? := fun g hg => (F.old g hg rfl (fun b h => by cases h)).1
  refine ⟨_, rfl, law_post hl hm hsl (fun t ht => ?_) hW hv (hs ds (by rw [hlen _ _ _ _ h1]; simp)) hr ht F.os F.output hold⟩
  have := List.all_eq_true.1 hps t ht
  simpa using this

theorem laid_none {W : World} {g : Nat} : Rep (GW W) .top (.pointer (some ⟨g, 0, none⟩)) := by simp [Rep]
end Go.Sx

namespace Go.Sx
open Go.RowKit

theorem int_cast (n : Nat) : Value.int .i64 (n : Int) = nI n := id rfl
theorem int_toNat (x : Int) (h : 0 ≤ x) : Value.int .i64 x = nI x.toNat := by
  unfold nI; congr 1; omega

section
variable (P : Program) (t : TypeId)
theorem i_add (x y : Int) (h : -9223372036854775808 ≤ x + y ∧ x + y < 9223372036854775808) : binPlan P .add t (.val (.int .i64 x)) (.val (.int .i64 y)) = some (vp (.val (.int .i64 (x + y)))) := by
  simp only [bin_int, sbin, ne_eq, not_true_eq_false, if_false, Option.map_some]
  rw [wrap_i64 _ (by omega) (by omega)]
theorem i_addn (x : Int) (y : Nat) (h : -9223372036854775808 ≤ x + y ∧ x + y < 9223372036854775808) : binPlan P .add t (.val (.int .i64 x)) (.val (nI y)) = some (vp (.val (.int .i64 (x + y)))) := i_add P t x y h
theorem i_nadd (x : Nat) (y : Int) (h : -9223372036854775808 ≤ x + y ∧ x + y < 9223372036854775808) : binPlan P .add t (.val (nI x)) (.val (.int .i64 y)) = some (vp (.val (.int .i64 (x + y)))) := i_add P t x y h
theorem i_sub (x y : Int) (h : -9223372036854775808 ≤ x - y ∧ x - y < 9223372036854775808) : binPlan P .sub t (.val (.int .i64 x)) (.val (.int .i64 y)) = some (vp (.val (.int .i64 (x - y)))) := by
  simp only [bin_int, sbin, ne_eq, not_true_eq_false, if_false, Option.map_some]
  rw [wrap_i64 _ (by omega) (by omega)]
theorem i_subn (x : Int) (y : Nat) (h : -9223372036854775808 ≤ x - y ∧ x - y < 9223372036854775808) : binPlan P .sub t (.val (.int .i64 x)) (.val (nI y)) = some (vp (.val (.int .i64 (x - y)))) := i_sub P t x y h
theorem i_nsub (x : Nat) (y : Int) (h : -9223372036854775808 ≤ x - y ∧ x - y < 9223372036854775808) : binPlan P .sub t (.val (nI x)) (.val (.int .i64 y)) = some (vp (.val (.int .i64 (x - y)))) := i_sub P t x y h
theorem n_subI (x y : Nat) (h : x < y ∧ y ≤ 9223372036854775808) : binPlan P .sub t (.val (nI x)) (.val (nI y)) = some (vp (.val (.int .i64 ((x : Int) - y)))) := i_sub P t x y (by omega)
theorem i_mul (x y : Int) (h : -9223372036854775808 ≤ x * y ∧ x * y < 9223372036854775808) : binPlan P .mul t (.val (.int .i64 x)) (.val (.int .i64 y)) = some (vp (.val (.int .i64 (x * y)))) := by
  simp only [bin_int, sbin, ne_eq, not_true_eq_false, if_false, Option.map_some]
  rw [wrap_i64 _ (by omega) (by omega)]
theorem i_muln (x : Int) (y : Nat) (h : -9223372036854775808 ≤ x * y ∧ x * y < 9223372036854775808) : binPlan P .mul t (.val (.int .i64 x)) (.val (nI y)) = some (vp (.val (.int .i64 (x * y)))) := i_mul P t x y h
theorem i_nmul (x : Nat) (y : Int) (h : -9223372036854775808 ≤ x * y ∧ x * y < 9223372036854775808) : binPlan P .mul t (.val (nI x)) (.val (.int .i64 y)) = some (vp (.val (.int .i64 (x * y)))) := i_mul P t x y h
theorem i_quo (x y : Int) (h : y ≠ 0 ∧ -9223372036854775808 ≤ x.tdiv y ∧ x.tdiv y < 9223372036854775808) : binPlan P .quo t (.val (.int .i64 x)) (.val (.int .i64 y)) = some (vp (.val (.int .i64 (x.tdiv y)))) := by
  simp only [bin_int, sbin, ne_eq, not_true_eq_false, if_false, Option.map_some, h.1]
  rw [wrap_i64 _ (by omega) (by omega)]
theorem i_quon (x : Int) (y : Nat) (h : 0 < y) (hx : -9223372036854775808 ≤ x ∧ x < 9223372036854775808) : binPlan P .quo t (.val (.int .i64 x)) (.val (nI y)) = some (vp (.val (.int .i64 (x.tdiv y)))) := by
  refine i_quo P t x y ⟨by omega, ?_⟩
  have key : ∀ n : Nat, (n : Int).tdiv (y : Int) = ((n / y : Nat) : Int) := fun _ => rfl
  rcases Int.le_total 0 x with h0 | h0
  · obtain ⟨n, rfl⟩ := Int.eq_ofNat_of_zero_le h0
    rw [key]
    have := Nat.div_le_self n y
    generalize n / y = q at this ⊢
    omega
  · obtain ⟨n, hn⟩ := Int.eq_ofNat_of_zero_le (a := -x) (by omega)
    have e : x = -(n : Int) := by omega
    rw [e, Int.neg_tdiv, key]
    have := Nat.div_le_self n y
    generalize n / y = q at this ⊢
    omega
theorem i_rem (x y : Int) (h : y ≠ 0) : binPlan P .rem t (.val (.int .i64 x)) (.val (.int .i64 y)) = some (vp (.val (.int .i64 (x.tmod y)))) := by
  simp only [bin_int, sbin, ne_eq, not_true_eq_false, if_false, Option.map_some, h]
theorem i_remn (x : Int) (y : Nat) (h : 0 < y) : binPlan P .rem t (.val (.int .i64 x)) (.val (nI y)) = some (vp (.val (.int .i64 (x.tmod y)))) := i_rem P t x y (by omega)
theorem i_eql (x y : Int) : binPlan P .eql t (.val (.int .i64 x)) (.val (.int .i64 y)) = some (vp (.val (.bool (decide (x = y))))) := by
  simp only [bin_int, sbin, ne_eq, not_true_eq_false, if_false, Option.map_some]
  congr 4
theorem i_neq (x y : Int) : binPlan P .neq t (.val (.int .i64 x)) (.val (.int .i64 y)) = some (vp (.val (.bool (decide (x ≠ y))))) := by
  simp only [bin_int, sbin, ne_eq, not_true_eq_false, if_false, Option.map_some]
  congr 4; rw [Bool.eq_iff_iff]; simp
theorem i_lss (x y : Int) : binPlan P .lss t (.val (.int .i64 x)) (.val (.int .i64 y)) = some (vp (.val (.bool (decide (x < y))))) := by
  simp only [bin_int, sbin, ne_eq, not_true_eq_false, if_false, Option.map_some]
theorem i_leq (x y : Int) : binPlan P .leq t (.val (.int .i64 x)) (.val (.int .i64 y)) = some (vp (.val (.bool (decide (x ≤ y))))) := by
  simp only [bin_int, sbin, ne_eq, not_true_eq_false, if_false, Option.map_some]
theorem i_gtr (x y : Int) : binPlan P .gtr t (.val (.int .i64 x)) (.val (.int .i64 y)) = some (vp (.val (.bool (decide (y < x))))) := by
  simp only [bin_int, sbin, ne_eq, not_true_eq_false, if_false, Option.map_some]
theorem i_geq (x y : Int) : binPlan P .geq t (.val (.int .i64 x)) (.val (.int .i64 y)) = some (vp (.val (.bool (decide (y ≤ x))))) := by
  simp only [bin_int, sbin, ne_eq, not_true_eq_false, if_false, Option.map_some]
theorem i_eqln (x : Int) (y : Nat) : binPlan P .eql t (.val (.int .i64 x)) (.val (nI y)) = some (vp (.val (.bool (decide (x = y))))) := i_eql P t x y
theorem i_neqn (x : Int) (y : Nat) : binPlan P .neq t (.val (.int .i64 x)) (.val (nI y)) = some (vp (.val (.bool (decide (x ≠ y))))) := i_neq P t x y
theorem i_lssn (x : Int) (y : Nat) : binPlan P .lss t (.val (.int .i64 x)) (.val (nI y)) = some (vp (.val (.bool (decide (x < y))))) := i_lss P t x y
theorem i_leqn (x : Int) (y : Nat) : binPlan P .leq t (.val (.int .i64 x)) (.val (nI y)) = some (vp (.val (.bool (decide (x ≤ y))))) := i_leq P t x y
theorem i_gtrn (x : Int) (y : Nat) : binPlan P .gtr t (.val (.int .i64 x)) (.val (nI y)) = some (vp (.val (.bool (decide ((y : Int) < x))))) := i_gtr P t x y
theorem i_geqn (x : Int) (y : Nat) : binPlan P .geq t (.val (.int .i64 x)) (.val (nI y)) = some (vp (.val (.bool (decide ((y : Int) ≤ x))))) := i_geq P t x y
theorem i_neql (x : Nat) (y : Int) : binPlan P .eql t (.val (nI x)) (.val (.int .i64 y)) = some (vp (.val (.bool (decide ((x : Int) = y))))) := i_eql P t x y
theorem i_nneq (x : Nat) (y : Int) : binPlan P .neq t (.val (nI x)) (.val (.int .i64 y)) = some (vp (.val (.bool (decide ((x : Int) ≠ y))))) := i_neq P t x y
theorem i_nlss (x : Nat) (y : Int) : binPlan P .lss t (.val (nI x)) (.val (.int .i64 y)) = some (vp (.val (.bool (decide ((x : Int) < y))))) := i_lss P t x y
theorem i_nleq (x : Nat) (y : Int) : binPlan P .leq t (.val (nI x)) (.val (.int .i64 y)) = some (vp (.val (.bool (decide ((x : Int) ≤ y))))) := i_leq P t x y
theorem i_ngtr (x : Nat) (y : Int) : binPlan P .gtr t (.val (nI x)) (.val (.int .i64 y)) = some (vp (.val (.bool (decide (y < x))))) := i_gtr P t x y
theorem i_ngeq (x : Nat) (y : Int) : binPlan P .geq t (.val (nI x)) (.val (.int .i64 y)) = some (vp (.val (.bool (decide (y ≤ x))))) := i_geq P t x y

/- 64-bit words -/
theorem u_eql (x y : Nat) : binPlan P .eql t (.val (nU x)) (.val (nU y)) = some (vp (.val (.bool (decide (x = y))))) := by
  simp only [nU, bin_int, sbin, ne_eq, not_true_eq_false, if_false, Option.map_some]
  congr 4; rw [Bool.eq_iff_iff]; simp; omega
theorem u_neq (x y : Nat) : binPlan P .neq t (.val (nU x)) (.val (nU y)) = some (vp (.val (.bool (decide (x ≠ y))))) := by
  simp only [nU, bin_int, sbin, ne_eq, not_true_eq_false, if_false, Option.map_some]
  congr 4; rw [Bool.eq_iff_iff]; simp; omega
theorem u_lss (x y : Nat) : binPlan P .lss t (.val (nU x)) (.val (nU y)) = some (vp (.val (.bool (decide (x < y))))) := by
  simp only [nU, bin_int, sbin, ne_eq, not_true_eq_false, if_false, Option.map_some]
  congr 4; rw [Bool.eq_iff_iff]; simp
theorem u_leq (x y : Nat) : binPlan P .leq t (.val (nU x)) (.val (nU y)) = some (vp (.val (.bool (decide (x ≤ y))))) := by
  simp only [nU, bin_int, sbin, ne_eq, not_true_eq_false, if_false, Option.map_some]
  congr 4; rw [Bool.eq_iff_iff]; simp
theorem u_gtr (x y : Nat) : binPlan P .gtr t (.val (nU x)) (.val (nU y)) = some (vp (.val (.bool (decide (y < x))))) := by
  simp only [nU, bin_int, sbin, ne_eq, not_true_eq_false, if_false, Option.map_some]
  congr 4; rw [Bool.eq_iff_iff]; simp
theorem u_geq (x y : Nat) : binPlan P .geq t (.val (nU x)) (.val (nU y)) = some (vp (.val (.bool (decide (y ≤ x))))) := by
  simp only [nU, bin_int, sbin, ne_eq, not_true_eq_false, if_false, Option.map_some]
  congr 4; rw [Bool.eq_iff_iff]; simp
theorem u_or (x y : Nat) (h : x < 18446744073709551616 ∧ y < 18446744073709551616) : binPlan P .or t (.val (nU x)) (.val (nU y)) = some (vp (.val (nU (x ||| y)))) := by
  simp only [nU, bin_int]
  show some (vp (.val (.int .u64 (IntKind.wrap .u64 ((BitVec.ofInt 64 (x : Int) ||| BitVec.ofInt 64 (y : Int)).toNat : Int))))) = _
  rw [BitVec.ofInt_natCast, BitVec.ofInt_natCast, BitVec.toNat_or, BitVec.toNat_ofNat, BitVec.toNat_ofNat, Nat.mod_eq_of_lt h.1, Nat.mod_eq_of_lt h.2, wrap_u64]
  have : x ||| y < 2 ^ 64 := Nat.or_lt_two_pow h.1 h.2
  congr 4; omega
theorem u_shl (x n : Nat) (k : IntKind) (h : x < 18446744073709551616 ∧ n ≤ 64) : binPlan P .shl t (.val (nU x)) (.val (.int k n)) = some (vp (.val (nU (x * 2 ^ n % 18446744073709551616)))) := by
  rw [nU, bin_int]
  have e : sbin .shl (.int .u64 (x : Int)) (.int k (n : Int)) = some (.int .u64 (IntKind.wrap .u64 ((x : Int) * 2 ^ (min n 64)))) := by
    show (if (n : Int) < 0 then none else _) = _
    rw [if_neg (by omega)]
    rfl
  rw [e, wrap_u64, nU, Nat.min_eq_left h.2]
  show some (vp (.val _)) = _
  congr 4
theorem u_shln (x n : Nat) (h : x < 18446744073709551616 ∧ n ≤ 64) : binPlan P .shl t (.val (nU x)) (.val (nI n)) = some (vp (.val (nU (x * 2 ^ n % 18446744073709551616)))) := u_shl P t x n .i64 h
theorem u_shri (x : Nat) (s : Int) (h : x < 18446744073709551616) (h2 : 0 ≤ s) : binPlan P .shr t (.val (nU x)) (.val (.int .i64 s)) = some (vp (.val (nU (x >>> s.toNat)))) := by
  rw [int_toNat s h2]; exact u_shrn P t x s.toNat h
theorem un_xoru (x : Nat) (h : x < 18446744073709551616) : unPlan .xor (.val (nU x)) = some (vp (.val (nU (18446744073709551615 - x)))) := by
  show some (vp (.val (.int .u64 (IntKind.wrap .u64 ((BitVec.ofInt 64 18446744073709551615 ^^^ BitVec.ofInt 64 (x : Int)).toNat : Int))))) = _
  have e : BitVec.ofInt 64 18446744073709551615 = BitVec.allOnes 64 := by decide
  rw [e, BitVec.ofInt_natCast, BitVec.allOnes_xor, BitVec.toNat_not, BitVec.toNat_ofNat, Nat.mod_eq_of_lt h, wrap_u64, nU]
  simp only [Option.some.injEq, vp, Plan.val.injEq, C.val.injEq, Value.int.injEq, true_and, and_true]
  have e2 : 2 ^ 64 - 1 - x = 18446744073709551615 - x := by simp
  rw [e2]; omega
theorem un_negi (x : Int) (h : -9223372036854775808 < x ∧ x ≤ 9223372036854775808) : unPlan .neg (.val (.int .i64 x)) = some (vp (.val (.int .i64 (-x)))) := by
  show some (vp (.val (.int .i64 (IntKind.wrap .i64 (0 - x))))) = _
  rw [wrap_i64 _ (by omega) (by omega), Int.zero_sub]
end

theorem cv_ii (P : Program) (u1 : TypeDesc) (a1 b1 a2 b2 : Nat) (z1 z2 : List Value) (x : Int) (h : -9223372036854775808 ≤ x ∧ x < 9223372036854775808) : cvP P (some ⟨u1, a1, b1, z1⟩) (some ⟨.int .i64, a2, b2, z2⟩) (.val (.int .i64 x)) = some (vp (.val (.int .i64 x))) := by
  rw [cv_int, wrap_i64 _ h.1 h.2]
theorem cv_u64i (P : Program) (u1 : TypeDesc) (a1 b1 a2 b2 : Nat) (z1 z2 : List Value) (x : Nat) (h : 9223372036854775808 ≤ x ∧ x < 18446744073709551616) : cvP P (some ⟨u1, a1, b1, z1⟩) (some ⟨.int .i64, a2, b2, z2⟩) (.val (nU x)) = some (vp (.val (.int .i64 ((x : Int) - 18446744073709551616)))) := by
  rw [nU, cv_int]
  have e : IntKind.wrap .i64 (x : Int) = (x : Int) - 18446744073709551616 := by
    have e : IntKind.wrap .i64 (x : Int) = if (x : Int) % 18446744073709551616 ≥ 9223372036854775808 then (x : Int) % 18446744073709551616 - 18446744073709551616 else (x : Int) % 18446744073709551616 := by
      simp [IntKind.wrap, IntKind.bits, IntKind.signed]
    rw [e]; split <;> omega
  rw [e]

theorem idx_int (n : Nat) (x : Int) (h : 0 ≤ x ∧ x < n) : idx? (.val (.int .i64 x)) n = some x.toNat := by
  simp only [idx?, C.int?]; rw [if_pos h]
theorem bound_int (d m : Nat) (x : Int) (h : 0 ≤ x ∧ x ≤ m) : bound? (some (.val (.int .i64 x))) d m = some x.toNat := by
  simp only [bound?, C.int?]; rw [if_pos h]
theorem sl2_int (lo : Option C) (n : Nat) (x : Int) (F : Nat → Nat → Option Plan) (hh : 0 ≤ x ∧ x ≤ n) : sl2 (some (.val (.int .i64 x))) lo n F = slS (some x.toNat) (bound? lo 0 x.toNat) F := by
  unfold sl2 slS; rw [bound_int _ _ _ hh]; simp only []; cases bound? lo 0 x.toNat <;> rfl
theorem share_int (x : Int) : (C.val (.int .i64 x)).share = .val (.int .i64 x) := rfl
theorem mm_min (x y : Nat) : minMax false (.val (nI x)) (.val (nI y)) = some (vp (.val (nI (min x y)))) := by
  simp only [minMax, nI, if_true, Bool.false_eq_true, if_false]
  by_cases h : y < x
  · rw [if_pos (by omega), Nat.min_eq_right (by omega)]; rfl
  · rw [if_neg (by omega), Nat.min_eq_left (by omega)]; rfl
theorem mm_max (x y : Nat) : minMax true (.val (nI x)) (.val (nI y)) = some (vp (.val (nI (max x y)))) := by
  simp only [minMax, nI, if_true]
  by_cases h : x < y
  · rw [if_pos (by omega), Nat.max_eq_right (by omega)]; rfl
  · rw [if_neg (by omega), Nat.max_eq_left (by omega)]; rfl
theorem mm_mini (x y : Int) : minMax false (.val (.int .i64 x)) (.val (.int .i64 y)) = some (vp (.val (.int .i64 (min x y)))) := by
  simp only [minMax, if_true, Bool.false_eq_true, if_false]
  by_cases h : y < x
  · rw [if_pos h, Int.min_eq_right (by omega)]; rfl
  · rw [if_neg h, Int.min_eq_left (by omega)]; rfl
theorem mm_maxi (x y : Int) : minMax true (.val (.int .i64 x)) (.val (.int .i64 y)) = some (vp (.val (.int .i64 (max x y)))) := by
  simp only [minMax, if_true]
  by_cases h : x < y
  · rw [if_pos h, Int.max_eq_right (by omega)]; rfl
  · rw [if_neg h, Int.max_eq_left (by omega)]; rfl
theorem mm_minin (x : Int) (y : Nat) : minMax false (.val (.int .i64 x)) (.val (nI y)) = some (vp (.val (.int .i64 (min x y)))) := mm_mini x y
theorem mm_minni (x : Nat) (y : Int) : minMax false (.val (nI x)) (.val (.int .i64 y)) = some (vp (.val (.int .i64 (min x y)))) := mm_mini x y
theorem mm_maxin (x : Int) (y : Nat) : minMax true (.val (.int .i64 x)) (.val (nI y)) = some (vp (.val (.int .i64 (max x y)))) := mm_maxi x y
theorem mm_maxni (x : Nat) (y : Int) : minMax true (.val (nI x)) (.val (.int .i64 y)) = some (vp (.val (.int .i64 (max x y)))) := mm_maxi x y
theorem n_subG (P : Program) (t : TypeId) (x y : Nat) (h : x < 9223372036854775808 ∧ y ≤ 9223372036854775808) : binPlan P .sub t (.val (nI x)) (.val (nI y)) = some (vp (.val (.int .i64 ((x : Int) - y)))) := i_sub P t x y (by omega)

/- at joins and at the heads of loops -/
theorem CLe_eq {c c' : C} (h : c = c') : CLe c c' := h ▸ CLe.refl c
theorem CLe_val {v v' : Value} (h : v = v') : CLe (.val v) (.val v') := h ▸ CLe.refl _
theorem CLe_int {x y : Int} (h : x = y) : CLe (.val (.int .i64 x)) (.val (.int .i64 y)) := h ▸ CLe.refl _
theorem CLe_inI {x : Int} {y : Nat} (h : x = y) : CLe (.val (.int .i64 x)) (.val (nI y)) := h ▸ CLe.refl _
theorem CLe_nIi {x : Nat} {y : Int} (h : (x : Int) = y) : CLe (.val (nI x)) (.val (.int .i64 y)) := h ▸ CLe.refl _
theorem CLe_nI {x y : Nat} (h : x = y) : CLe (.val (nI x)) (.val (nI y)) := h ▸ CLe.refl _
theorem CLe_str {x y : List UInt8} (h : x = y) : CLe (.val (str x)) (.val (str y)) := h ▸ CLe.refl _
theorem CLe_bool {x y : Bool} (h : x = y) : CLe (.val (.bool x)) (.val (.bool y)) := h ▸ CLe.refl _
theorem CLe_sl {α : Type} {f : α → List C} {r : Rt} {l l' : List α} (h : l = l') : CLe (sl f r l) (sl f r l') := h ▸ CLe.refl _
theorem CLe_slf {α : Type} {f : α → List C} {r : Rt} {l l' : List α} (h : l = l') : CLe (sl f .full l) (sl f r l') := h ▸ CLe.full _ _ _
theorem CLe_slo {α : Type} {f : α → List C} {s : Nat} {l l' : List α} (h : l = l') : CLe (sl f (.own s) l) (sl f .no l') := h ▸ CLe.noR (sl f (.own s) l)
theorem CLe_sln {α : Type} {f : α → List C} {r : Rt} {l : List α} (h : l = []) : CLe (.val (.slice none 0 0)) (sl f r l) := by subst h; exact CLe.nil _
end Go.Sx

namespace Go.Sx
open Go.RowKit

mutual
theorem noRef_zero (k : Nat) : ∀ c : C, noRef 0 c = true → noRef k c = true
  | .top, _ => rfl
  | .val _, _ => rfl
  | .sl _ _ xs, h => by simp only [noRef] at h ⊢; exact noRefs_zero k xs h
  | .sv b _ _, h => by simp [noRef] at h
  | .bp b _, h => by simp [noRef] at h
  | .kp xs, h => by simp only [noRef] at h ⊢; exact noRefs_zero k xs h
  | .agg xs, h => by simp only [noRef] at h ⊢; exact noRefs_zero k xs h
  | .tup xs, h => by simp only [noRef] at h ⊢; exact noRefs_zero k xs h
  | .fn _ xs, h => by simp only [noRef] at h ⊢; exact noRefs_zero k xs h
theorem noRefs_zero (k : Nat) : ∀ l : List C, noRefs 0 l = true → noRefs k l = true
  | [], _ => rfl
  | c :: l, h => by
    simp only [noRefs, Bool.and_eq_true] at h ⊢
    exact ⟨noRef_zero k c h.1, noRefs_zero k l h.2⟩
end
def noRefE (k : Nat) : List (Nat × C) → Bool
  | [] => true
  | x :: e => noRef k x.2 && noRefE k e
theorem noRefE_nil (k : Nat) : noRefE k [] = true := rfl
theorem noRefE_cons (k t : Nat) (c : C) (e : List (Nat × C)) : noRefE k ((t, c) :: e) = (noRef k c && noRefE k e) := rfl
theorem noRefE_at (k : Nat) : ∀ e : List (Nat × C), noRefE k e = true → ∀ t, noRef k (A e t) = true
  | [], _, t => rfl
  | (u, c) :: e, h, t => by
    rw [noRefE_cons, Bool.and_eq_true] at h
    rw [A_cons]
    split
    · exact h.1
    · exact noRefE_at k e h.2 t
def noRefH (k : Nat) : Hp → Bool
  | [] => true
  | none :: h => noRefH k h
  | some cs :: h => noRefs k cs && noRefH k h
theorem noRefH_nil (k : Nat) : noRefH k [] = true := rfl
theorem noRefH_none (k : Nat) (h : Hp) : noRefH k (none :: h) = noRefH k h := rfl
theorem noRefH_some (k : Nat) (cs : List C) (h : Hp) : noRefH k (some cs :: h) = (noRefs k cs && noRefH k h) := rfl
theorem noRefH_at (k : Nat) : ∀ (h : Hp) (b : Nat) (cells : List C), noRefH k h = true → h.at b = some cells → noRefs k cells = true
  | [], b, cells, _, hb => by simp [Hp.at] at hb
  | none :: h, 0, cells, _, hb => by simp [Hp.at] at hb
  | some cs :: h, 0, cells, hk, hb => by
    rw [noRefH_some, Bool.and_eq_true] at hk
    rw [at_cons0] at hb
    cases hb; exact hk.1
  | x :: h, b + 1, cells, hk, hb => by
    rw [at_consS] at hb
    refine noRefH_at k h b cells ?_ hb
    cases x with
    | none => exact hk
    | some cs => rw [noRefH_some, Bool.and_eq_true] at hk; exact hk.2
/-- The boxes from k on are dropped. -/
theorem Tr.cutA {cx : Cx} {n : Nat} {Q : Ex → St → Prop} {e : List (Nat × C)} {h : Hp} {c : Code} (hcx : CxOK cx) (k : Nat) (hk : n ≤ k) (he : noRefE k e = true) (hb : noRefH k (h.take k) = true)
    (H : Tr cx n c ⟨A e, h.take k⟩ Q) : Tr cx n c ⟨A e, h⟩ Q :=
  Tr.cut k hk (noRefE_at k e he) (fun g => noRef_zero k _ (hcx.glo g)) (fun b cells hbk hc => noRefH_at k _ b cells hb (by rw [Hp.at_take, if_pos hbk]; exact hc)) H
theorem noRef_bp (k b o : Nat) : noRef k (.bp b o) = decide (b < k) := rfl
theorem noRef_sv (k b o n : Nat) : noRef k (.sv b o n) = decide (b < k) := rfl
theorem noRef_top (k : Nat) : noRef k .top = true := rfl
theorem noRef_fn (k f : Nat) (xs : List C) : noRef k (.fn f xs) = noRefs k xs := rfl
end Go.Sx

namespace Go.Sx
open Go.RowKit

theorem rdc_getAt (d : TD) (h : d.isAgg = false) (cells : List C) (o : Nat) : getAt d cells o = rdc cells o := by
  unfold getAt rdc; rw [h]; rfl
section
variable (P : Program)
theorem eqEs_g {α : Type} [Inhabited α] [DecidableEq α] {f : α → List C} {g : α → C} [hf : Sca f g] (F : C → C → Option Bool) (de : TD) (hd : de.isAgg = false) (hs : de.size = 1) (hF : ∀ a b, F (g a) (g b) = some (decide (a = b)))
    (x y : List α) (n : Nat) (hx : x.length = n) (hy : y.length = n) : ∀ m i, i + m = n → eqEs F de (cl f x) (cl f y) (List.range' i m) = some (decide (x.drop i = y.drop i))
  | 0, i, h => by
    rw [List.drop_of_length_le (by omega), List.drop_of_length_le (by omega)]; simp [eqEs]
  | m + 1, i, h => by
    have hxi : i < x.length := by omega
    have hyi : i < y.length := by omega
    rw [List.range'_succ]
    unfold eqEs
    rw [rdc_getAt _ hd, rdc_getAt _ hd, hs, Nat.mul_one, rdc_cl (f := f) x i hxi, rdc_cl (f := f) y i hyi]
    simp only []
    rw [hF]
    have e1 : x.drop i = x.getD i default :: x.drop (i + 1) := by rw [List.drop_eq_getElem_cons hxi]; simp [List.getD, List.getElem?_eq_getElem hxi]
    have e2 : y.drop i = y.getD i default :: y.drop (i + 1) := by rw [List.drop_eq_getElem_cons hyi]; simp [List.getD, List.getElem?_eq_getElem hyi]
    rw [e1, e2]
    by_cases hab : x.getD i default = y.getD i default
    · rw [decide_eq_true hab]
      simp only []
      rw [eqEs_g F de hd hs hF x y n hx hy m (i + 1) (by omega), hab]
      simp
    · rw [decide_eq_false hab]
      simp only []
      rw [decide_eq_false]
      intro hc
      exact hab (List.cons.inj hc).1

def eqR (op : BinOp) (b : Bool) : Option Plan := match op with
  | .eql => some (vp (.val (.bool b)))
  | .neq => some (vp (.val (.bool (!b))))
  | _ => none
theorem eqR_eql (b : Bool) : eqR .eql b = some (vp (.val (.bool b))) := rfl
theorem eqR_neq (b : Bool) : eqR .neq b = some (vp (.val (.bool (!b)))) := rfl
theorem eqPlan_some {t : TypeId} {x y : List C} {b : Bool} (op : BinOp) (hg : P.eqGuardType P.depth t = false) (h : eqC P 9 t (.agg x) (.agg y) = some b) : binPlan P op t (.agg x) (.agg y) = eqR op b := by
  show eqPlan P op t (.agg x) (.agg y) = _
  unfold eqPlan
  rw [if_pos ⟨rfl, rfl, hg⟩]
  unfold eqR
  cases op <;> simp [h, vp, Plan.pure]
theorem eqC_int {t : TypeId} {k : IntKind} {s y : Nat} {z : List Value} (d : Nat) (h : td P t = some ⟨.int k, s, y, z⟩) (a b : Int) : eqC P (d + 1) t (.val (.int k a)) (.val (.int k b)) = some (decide (a = b)) := by
  unfold eqC; rw [h]; simp only [if_true]; congr 1
theorem eqC_str {t : TypeId} {s y : Nat} {z : List Value} (d : Nat) (h : td P t = some ⟨.string, s, y, z⟩) (a b : List UInt8) : eqC P (d + 1) t (.val (str a)) (.val (str b)) = some (decide (a = b)) := by
  unfold eqC; rw [h]; simp only [str]; rw [toList_mk, toList_mk]
  congr 1; rw [Bool.eq_iff_iff]; simp
theorem eqC_w8 {t : TypeId} {s y : Nat} {z : List Value} (d : Nat) (h : td P t = some ⟨.int .u8, s, y, z⟩) (a b : UInt8) : eqC P (d + 1) t (.val (w8 a)) (.val (w8 b)) = some (decide (a = b)) := by
  have := eqC_int P d h a.toNat b.toNat
  rw [w8, w8, this]; congr 1; rw [decide_eq_decide]
  exact ⟨fun h => UInt8.toNat_inj.1 (by omega), fun h => by rw [h]⟩
theorem eqC_arr8 {t e : TypeId} {n s y y2 : Nat} {z z2 : List Value} (d : Nat) (h : td P t = some ⟨.array n e, s, y, z⟩) (he : td P e = some ⟨.int .u8, 1, y2, z2⟩) (a b : List UInt8) (ha : a.length = n) (hb : b.length = n) :
    eqC P (d + 2) t (.agg (cl bC a)) (.agg (cl bC b)) = some (decide (a = b)) := by
  unfold eqC; rw [h]; simp only []; rw [he]
  simp only [C.agg?]
  have := eqEs_g (f := bC) (eqC P (d + 1) e) ⟨.int .u8, 1, y2, z2⟩ rfl rfl (fun a b => eqC_w8 P d he a b) a b n ha hb n 0 (by omega)
  simpa using this
theorem eq_arr8 {t e : TypeId} {n s y y2 : Nat} {z z2 : List Value} (h : td P t = some ⟨.array n e, s, y, z⟩) (he : td P e = some ⟨.int .u8, 1, y2, z2⟩) (hg : P.eqGuardType P.depth t = false) (op : BinOp) (a b : List UInt8) (ha : a.length = n) (hb : b.length = n) :
    binPlan P op t (.agg (cl bC a)) (.agg (cl bC b)) = eqR op (decide (a = b)) := eqPlan_some P op hg (eqC_arr8 P 7 h he a b ha hb)
end
theorem i_and255 (P : Program) (t : TypeId) (x : Int) : binPlan P .and t (.val (.int .i64 x)) (.val (nI 255)) = some (vp (.val (.int .i64 (x % 256)))) := by
  rw [nI, bin_int]
  show some (vp (.val (.int .i64 (IntKind.wrap .i64 ((BitVec.ofInt 64 x &&& BitVec.ofInt 64 ((255 : Nat) : Int)).toNat : Int))))) = _
  have h1 : (BitVec.ofInt 64 x &&& BitVec.ofInt 64 ((255 : Nat) : Int)).toNat = (BitVec.ofInt 64 x).toNat % 256 := by
    rw [BitVec.toNat_and]
    have : (BitVec.ofInt 64 ((255 : Nat) : Int)).toNat = 255 := by decide
    rw [this]
    exact Nat.and_two_pow_sub_one_eq_mod _ 8
  have h2 : ((BitVec.ofInt 64 x).toNat : Int) = x % 18446744073709551616 := by
    rw [BitVec.toNat_ofInt]; simp; omega
  have h3 : (((BitVec.ofInt 64 x).toNat % 256 : Nat) : Int) = x % 256 := by
    rw [Int.natCast_emod, h2]; omega
  rw [h1, h3, wrap_i64 _ (by omega) (by omega)]
@[congr] theorem stG_congr {cx : Cx} {apps : List Nat} {dsts : List (Option Nat)} {l : List Oper} {id : Nat} {d : Option Nat} {e : List (Nat × C)} {h : Hp} {fs : List FP} {K : List FP → St → Prop} {ty : TypeId} {pos : String} {aft : Array Edge} {op : Op} {p p' : Option Bool} (hp : p = p') :
    stG cx apps dsts l id d e h fs K ty pos aft op p = stG cx apps dsts l id d e h fs K ty pos aft op p' := by rw [hp]
def wanV (c : C) (w : Bool) : Option Bool := match c with
  | .val (.bool b) => some (b == w)
  | .val (.tuple _) => some false
  | _ => none
def wanQ (d : Option (Option Nat)) (w : Bool) (e : List (Nat × C)) : Option Bool := match d.bind id with
  | none => some false
  | some t => wanV (A e t).noR w
theorem wanted_q (dsts : List (Option Nat)) (j : Nat) (w : Bool) (e : List (Nat × C)) : wantedA dsts (some (j, w)) (A e) = wanQ (dsts[j]?) w e := rfl
theorem wanQ_some (t : Nat) (w : Bool) (e : List (Nat × C)) : wanQ (some (some t)) w e = wanV (A e t).noR w := rfl
theorem wanV_T (b : Bool) : wanV (.val (.bool b)) true = some b := by cases b <;> rfl
theorem wanV_F (b : Bool) : wanV (.val (.bool b)) false = some (!b) := by cases b <;> rfl
theorem wanV_u (w : Bool) : wanV (.val undef) w = some false := rfl
theorem pick_bb (c x y : Bool) : pickP (.val (.bool c)) (.val (.bool x)) (.val (.bool y)) = some (vp (.val (.bool (bif c then x else y)))) := by cases c <;> rfl
theorem rep_2 {α : Type} (a : α) : List.replicate 2 a = [a, a] := rfl
theorem rep_3 {α : Type} (a : α) : List.replicate 3 a = [a, a, a] := rfl
theorem rep_4 {α : Type} (a : α) : List.replicate 4 a = [a, a, a, a] := rfl
theorem rep_5 {α : Type} (a : α) : List.replicate 5 a = [a, a, a, a, a] := rfl
theorem rep_6 {α : Type} (a : α) : List.replicate 6 a = [a, a, a, a, a, a] := rfl
theorem rep_7 {α : Type} (a : α) : List.replicate 7 a = [a, a, a, a, a, a, a] := rfl
theorem rep_8 {α : Type} (a : α) : List.replicate 8 a = [a, a, a, a, a, a, a, a] := rfl
theorem rep_9 {α : Type} (a : α) : List.replicate 9 a = [a, a, a, a, a, a, a, a, a] := rfl
theorem rep_10 {α : Type} (a : α) : List.replicate 10 a = [a, a, a, a, a, a, a, a, a, a] := rfl
theorem rep_11 {α : Type} (a : α) : List.replicate 11 a = [a, a, a, a, a, a, a, a, a, a, a] := rfl
theorem rep_12 {α : Type} (a : α) : List.replicate 12 a = [a, a, a, a, a, a, a, a, a, a, a, a] := rfl
theorem rep_13 {α : Type} (a : α) : List.replicate 13 a = [a, a, a, a, a, a, a, a, a, a, a, a, a] := rfl
theorem rep_14 {α : Type} (a : α) : List.replicate 14 a = [a, a, a, a, a, a, a, a, a, a, a, a, a, a] := rfl
theorem rep_15 {α : Type} (a : α) : List.replicate 15 a = [a, a, a, a, a, a, a, a, a, a, a, a, a, a, a] := rfl
theorem rep_16 {α : Type} (a : α) : List.replicate 16 a = [a, a, a, a, a, a, a, a, a, a, a, a, a, a, a, a] := rfl
end Go.Sx

namespace Go.Sx
open Go.RowKit

section
variable {cx : Cx} {G : Gh} {w : World} {st : St} {a : Act}

theorem buildSlice_run (H : Pre cx G w st a) {t e : TypeId} {d de : TD} {n : Nat} {parts : Array (Nat × Operand)} {cs : List C} (hd : td cx.P t = some d) (hu : d.u = .slice e) (he : td cx.P e = some de)
    (hz1 : de.zero.all (·.oneCell') = true) (hn : n * de.size ≤ 65536 ∧ n ≤ 65536 ∧ de.zero.length = de.size)
    (h : lay (fun i => some (i * de.size, de.size)) (repZero de.zero n) (parts.toList.map fun x => (x.1, cx.evn st.env x.2)) = some cs) :
    ∃ cs' : Array Value, (Instr.buildSlice t n (parts.map fun (i, x) => (i, a.eval x))).run cx.P w = .ok (.slice (some ⟨w.heap.size, 0, none⟩) n n) (w.alloc (.cells cs' e)) ∧ RepL G cs cs'.toList ∧ ∀ u ∈ cs'.toList, u.oneCell' = true := by
  obtain ⟨_, it, z, hi, hsz, _, hz, hzz⟩ := td_spec he
  have hzs : z.cells.size = de.size := by rw [← hn.2.2, ← hzz]; simp
  have hz1' : ∀ u ∈ z.cells.toList, u.oneCell' = true := fun u hu => by rw [hzz] at hu; exact (List.all_eq_true.1 hz1) u hu
  obtain ⟨cs', f1, f2, f3⟩ := lay_fill (G := G) (parts.toList.map fun x => (x.1, cx.evn st.env x.2)) (parts.toList.map fun x => (x.1, a.eval x.2)) _ cs (madeCells z.cells (n * de.size))
      (by simp) (by
        intro i c v hc hv
        simp only [List.map_map, List.getElem?_map] at hc hv
        cases hx : parts.toList[i]? with
        | none => rw [hx] at hc; cases hc
        | some x =>
          rw [hx] at hc hv
          cases hc; cases hv
          exact H.evn x.2)
      (by rw [← hzs]; exact repZero_rep z.cells de.zero hzz n) (by rw [← hzs]; exact made_one z.cells hz1' n) h
  have hpt : (parts.map fun (i, x) => (i, a.eval x)).toList = parts.toList.map fun x => (x.1, a.eval x.2) := by simp
  have hrun : (Instr.buildSlice t n (parts.map fun (i, x) => (i, a.eval x))).run cx.P w = .ok (.slice (some ⟨w.heap.size, 0, none⟩) n n) (w.alloc (.cells cs' e)) := by
    unfold Instr.buildSlice
    have h24 : ¬ (16777216 < n * de.size) := by omega
    by_cases h0 : n * de.size = 0
    · have hm0 : (madeCells z.cells (n * de.size)) = #[] := by rw [h0]; simp [madeCells]
      rw [hm0] at f1
      simp [run_und hd, hu, run_size he, h0, newRow]
      have h00 : (Array.map (fun _ => (default : Value)) (Array.range 0)) = #[] := by simp
      rw [h00, f1]
      simp [newObj, Sem.run]
    · have hf : Instr.fill (fun i => some (i * de.size, de.size)) ((Array.range (n * de.size)).map fun x => z.cells[x % z.cells.size]!) (parts.toList.map fun x => (x.1, a.eval x.2)) = some cs' := f1
      simp [run_und hd, hu, run_size he, h0, h24, zeroValue, typeInfo, hi, hz, newRow]
      rw [hf]
      simp
  exact ⟨cs', hrun, f2, f3⟩

theorem step_congr {ops ops' : Array Oper} {base i : Nat} (h1 : ops'.toList.map (·.dst) = ops.toList.map (·.dst)) (h2 : ops'.toList.filterMap appOf = ops.toList.filterMap appOf) (h3 : cnt ops' i = cnt ops i) (hi : ops'[i]? = ops[i]?) (st : St) :
    step cx ops' base i st = step cx ops base i st := by
  unfold step
  rw [hi, h3]
  cases ops[i]? with
  | none => rfl
  | some o =>
    simp only []
    rw [← wantedA_eq ops' o, ← wantedA_eq ops o, h1, ← splanA_eq cx ops' o, ← splanA_eq cx ops o, h2]

/-- What is asked of the two operations. -/
structure Lit (cx : Cx) (ops ops' : Array Oper) (k : Nat) : Prop where
  dst : ops'.toList.map (·.dst) = ops.toList.map (·.dst)
  app : ops'.toList.filterMap appOf = ops.toList.filterMap appOf
  cnt : ∀ i, cnt ops' i = cnt ops i
  same : ∀ i, i ≠ k + 1 → ops'[i]? = ops[i]?
  two : ∃ p q t n ps ty1 pos1 aft1 ty2 pos2 aft2 e s y z y2 z2, ops[k]? = some ⟨some p, .buildSlice t n ps, ty1, pos1, aft1, none⟩ ∧ ops[k + 1]? = some ⟨some q, .convert t t (.tmp p), ty2, pos2, aft2, none⟩ ∧
    ops'[k + 1]? = some ⟨some q, .move (.tmp p), ty2, pos2, aft2, none⟩ ∧ td cx.P t = some ⟨.slice e, s, y, z⟩ ∧ td cx.P e = some ⟨.int .u8, 1, y2, z2⟩

theorem lit_two {ops ops' : Array Oper} {base k : Nat} (L : Lit cx ops ops' k) (H : Sim cx G w st a) {st1 st2 : St} (h1 : step cx ops' base k st = some st1) (h2 : step cx ops' base (k + 1) st1 = some st2)
    {K : Act → World → Prop} {Q : Exit → Act → World → Prop} (hK : ∀ G' w' a', Sim cx G' w' st2 a' → Frm G w G' w' → K a' w') : wpOp cx.P ops Q k (fun a' w' => wpOp cx.P ops Q (k + 1) K a' w') a w := by
  obtain ⟨p, q, t, n, ps, ty1, pos1, aft1, ty2, pos2, aft2, e, s, y, z, y2, z2, e1, e2, e3, e4, e5⟩ := L.two
  have e0 : ops'[k]? = ops[k]? := L.same k (by omega)
  unfold step at h1
  rw [e0, e1] at h1
  simp only [wantedS] at h1
  split at h1
  case isFalse => cases h1
  rename_i hp
  simp only [splan, e4, e5] at h1
  have hp' : p < cx.N := by simpa [dstOK] using hp
  split at h1
  · cases h1
  rename_i pl hpl
  split at hpl
  case isFalse => cases hpl
  rename_i hn
  cases hl : lay (fun i => some (i * 1, 1)) (repZero z2 n) (ps.toList.map fun x => (x.1, cx.evn st.env x.2)) with
  | none => rw [hl] at hpl; cases hpl
  | some cs =>
    rw [hl] at hpl
    cases hpl
    simp only [act, actH, Plan.pure, Option.map_some, killS, put] at h1
    cases h1
    unfold step at h2
    rw [e3] at h2
    simp only [wantedS] at h2
    split at h2
    case isFalse => cases h2
    rename_i hq
    have hq' : q < cx.N := by simpa [dstOK] using hq
    simp only [splan] at h2
    have hst2 : st2 = ⟨put (some q) (.sl .full n cs) (put (some p) (.sl .full n cs) st.env), st.h⟩ := by
      split at h2
      · cases h2
      rename_i c st1 hact
      cases h2
      split at hact
      · simp only [act, actH, Option.map_some, Option.some.injEq, Prod.mk.injEq, if_true] at hact
        obtain ⟨rfl, rfl⟩ := hact
        simp only [St.mk.injEq, and_true]
        funext u
        simp only [put, killS, C.noR, if_true]
        by_cases hu : u = q
        · simp [hu]
        · by_cases hu2 : u = p
          · subst hu2; simp [C.noR]
          · simp [hu, hu2]
      · simp only [act, actH, Plan.pure, Option.map_some, Option.some.injEq, Prod.mk.injEq, if_true] at hact
        obtain ⟨rfl, rfl⟩ := hact
        simp only [St.mk.injEq, and_true]
        funext u
        simp [put, killS, C.noR]
    subst hst2
    obtain ⟨cs', f1, f2, f3⟩ := buildSlice_run H.pre e4 rfl e5 hn.2.2.2 ⟨hn.1, hn.2.1, hn.2.2.1⟩ hl
    have hcv : (convert t t (.slice (some ⟨w.heap.size, 0, none⟩) n n)).run cx.P (w.alloc (.cells cs' e)) = .ok (.slice (some ⟨w.heap.size, 0, none⟩) n n) (w.alloc (.cells cs' e (cs'.size, cs'.size + 1))) :=
      Go.Lib.run_convert_bytes_const w t e cs' n n (td_spec e4).1 (td_spec e5).1
    obtain ⟨W, E⟩ := WorldOK.commit (w' := w.alloc (.cells cs' e (cs'.size, cs'.size + 1))) H.pre.ok cs'.toList none cs' e (cs'.size, cs'.size + 1) rfl rfl rfl rfl (by intro j u hu; simpa using hu)
    have le := E.le H.pre.ok
    have hrep : Rep (setT (Sx.commit G w.heap.size cs'.toList) w.heap.size none) (.sl .full n cs) (.slice (some ⟨w.heap.size, 0, none⟩) n n) := by
      simp only [Rep]
      have hml : maxLen = 9223372036854775807 := by decide
      refine ⟨_, _, rfl, Nat.le_refl _, by omega, by simp, .inr ⟨w.heap.size, 0, rfl, repK_of (f2.mono le) f3 fun j u hu => ?_⟩⟩
      simp only [setT, Sx.commit, if_true, Nat.zero_add]
      exact hu
    have O1 : Out G w st (av a) (0, p, 0) (.sl .full n cs) (.slice (some ⟨w.heap.size, 0, none⟩) n n) (setT (Sx.commit G w.heap.size cs'.toList) w.heap.size none) (w.alloc (.cells cs' e (cs'.size, cs'.size + 1))) :=
      ⟨hrep, by simp, W, E.env H.pre.ok H.pre.env, E.frm H.pre.ok⟩
    have S1 := H.put (dst := some p) (fun d hd => by cases hd; exact hp') O1
    have O2 : Out (setT (Sx.commit G w.heap.size cs'.toList) w.heap.size none) (w.alloc (.cells cs' e (cs'.size, cs'.size + 1))) ⟨put (some p) (.sl .full n cs) st.env, st.h⟩ (av (a.put (some p) (.slice (some ⟨w.heap.size, 0, none⟩) n n))) (0, q, 0) (.sl .full n cs) (.slice (some ⟨w.heap.size, 0, none⟩) n n) (setT (Sx.commit G w.heap.size cs'.toList) w.heap.size none) (w.alloc (.cells cs' e (cs'.size, cs'.size + 1))) :=
      ⟨hrep, by simp, S1.pre.ok, S1.pre.env, Frm.refl _ _⟩
    have S2 := S1.put (dst := some q) (fun d hd => by cases hd; exact hq') O2
    have hfin := hK _ _ _ S2 (E.frm H.pre.ok)
    have hev : (a.put (some p) (.slice (some ⟨w.heap.size, 0, none⟩) n n)).eval (.tmp p) = .slice (some ⟨w.heap.size, 0, none⟩) n n := by
      have : p < a.tmps.size := by rw [H.size]; exact hp'
      simp [Act.put, Act.eval, this]
    unfold wpOp
    simp only [e1, Region.wanted, if_true]
    left
    unfold Oper.wp
    have hr1 : (execOp a.eval ⟨some p, .buildSlice t n ps, ty1, pos1, aft1, none⟩).run cx.P w = .ok (.value (.slice (some ⟨w.heap.size, 0, none⟩) n n)) (w.alloc (.cells cs' e)) := by
      simp only [execOp, Sem.run_bind, f1, Result.andThen_ok, Sem.run_pure]
    rw [hr1]
    simp only [Oper.upon, e2, if_true]
    left
    have hr2 : (execOp (a.put (some p) (.slice (some ⟨w.heap.size, 0, none⟩) n n)).eval ⟨some q, .convert t t (.tmp p), ty2, pos2, aft2, none⟩).run cx.P (w.alloc (.cells cs' e)) = .ok (.value (.slice (some ⟨w.heap.size, 0, none⟩) n n)) (w.alloc (.cells cs' e (cs'.size, cs'.size + 1))) := by
      simp only [execOp, hev, Sem.run_bind, hcv, Result.andThen_ok, Sem.run_pure]
    rw [hr2]
    exact hfin

theorem lit_steps (hcx : CxOK cx) {ops ops' : Array Oper} {base k : Nat} (L : Lit cx ops ops' k) {Q : Exit → Act → World → Prop} : ∀ (m i : Nat) {G : Gh} {w : World} {st : St} {a : Act} {st' : St}, i ≠ k + 1 → i + m ≠ k + 1 → Sim cx G w st a →
    steps cx ops' base (List.range' i m) st = some st' → (∀ G' w' a', Sim cx G' w' st' a' → Frm G w G' w' → Q .normal a' w') → wpOps cx.P ops Q (List.range' i m) a w
  | 0, i, G, w, st, a, st', _, _, H, h, hQ => by
    simp only [List.range'_zero, steps, Option.some.injEq] at h
    subst h
    exact hQ G w a H (Frm.refl G w)
  | m + 1, i, G, w, st, a, st', hi, hm, H, h, hQ => by
    rw [List.range'_succ] at h ⊢
    simp only [steps] at h
    cases hs : step cx ops' base i st with
    | none => rw [hs] at h; cases h
    | some st1 =>
      rw [hs] at h
      simp only [Option.bind_some] at h
      rw [wpOps_cons]
      by_cases hik : i = k
      · subst hik
        cases m with
        | zero => omega
        | succ m =>
          rw [List.range'_succ] at h ⊢
          simp only [steps] at h
          cases hs2 : step cx ops' base (i + 1) st1 with
          | none => rw [hs2] at h; cases h
          | some st2 =>
            rw [hs2] at h
            simp only [Option.bind_some] at h
            have e : (wpOps cx.P ops Q ((i + 1) :: List.range' (i + 1 + 1) m)) = fun a' w' => wpOp cx.P ops Q (i + 1) (wpOps cx.P ops Q (List.range' (i + 1 + 1) m)) a' w' := by
              funext a' w'; rw [wpOps_cons]
            rw [e]
            exact lit_two L H hs hs2 fun G' w' a' S F => lit_steps hcx L m (i + 1 + 1) (by omega) (by omega) S h fun G2 w2 a2 S2 F2 => hQ G2 w2 a2 S2 (F.trans F2)
      · rw [step_congr L.dst L.app (L.cnt i) (L.same i hi)] at hs
        exact step_ok hcx H hs fun G' w' a' S F => lit_steps hcx L m (i + 1) (by omega) (by omega) S h fun G2 w2 a2 S2 F2 => hQ G2 w2 a2 S2 (F.trans F2)
end

theorem Tr.rgL {cx : Cx} {nb : Nat} {Q : Ex → St → Prop} {ev : List (Nat × C)} {h : Hp} (hcx : CxOK cx) {id : Nat} {l : List Oper} (k : Nat) (apps : List Nat) (dsts : List (Option Nat)) (z : Hp)
    {p q t n : Nat} {ps : Array (Nat × Operand)} {ty1 : TypeId} {pos1 : String} {aft1 : Array Edge} {ty2 : TypeId} {pos2 : String} {aft2 : Array Edge} {e s y y2 : Nat} {zz z2 : List Value}
    (hs : l = l.take k ++ ⟨some p, .buildSlice t n ps, ty1, pos1, aft1, none⟩ :: ⟨some q, .convert t t (.tmp p), ty2, pos2, aft2, none⟩ :: l.drop (k + 2))
    (ht : td cx.P t = some ⟨.slice e, s, y, zz⟩) (he : td cx.P e = some ⟨.int .u8, 1, y2, z2⟩)
    (h1 : l.filterMap appOf = apps) (h2 : l.map (·.dst) = dsts) (h3 : nones l = z)
    (H : run cx apps dsts (l.take k ++ ⟨some p, .buildSlice t n ps, ty1, pos1, aft1, none⟩ :: ⟨some q, .move (.tmp p), ty2, pos2, aft2, none⟩ :: l.drop (k + 2)) h.length ev (h ++ z) [] (fun _ s => Q .normal s)) :
    Tr cx nb (.region id l.toArray false) ⟨A ev, h⟩ Q := by
  have hk : (l.take k).length = k := by
    have := congrArg List.length hs
    simp only [List.length_append, List.length_cons, List.length_take, List.length_drop] at this ⊢
    omega
  generalize hL1 : l.take k = L1 at *
  generalize hL2 : l.drop (k + 2) = L2 at *
  subst h1 h2 h3
  have a1 : (L1 ++ (⟨some p, .buildSlice t n ps, ty1, pos1, aft1, none⟩ : Oper) :: ⟨some q, .move (.tmp p), ty2, pos2, aft2, none⟩ :: L2).filterMap appOf = l.filterMap appOf := by
    rw [hs]; simp only [List.filterMap_append, List.filterMap_cons, appOf]
  have a2 : (L1 ++ (⟨some p, .buildSlice t n ps, ty1, pos1, aft1, none⟩ : Oper) :: ⟨some q, .move (.tmp p), ty2, pos2, aft2, none⟩ :: L2).map (·.dst) = l.map (·.dst) := by
    rw [hs]; simp
  have a3 : ∀ i, ((L1 ++ (⟨some p, .buildSlice t n ps, ty1, pos1, aft1, none⟩ : Oper) :: ⟨some q, .move (.tmp p), ty2, pos2, aft2, none⟩ :: L2).take i).countP makes = (l.take i).countP makes := fun i => by
    rw [hs, List.take_append, List.take_append, List.countP_append, List.countP_append]
    congr 1
    rcases i - L1.length with _ | _ | i <;> simp [makes]
  have a4 : (L1 ++ (⟨some p, .buildSlice t n ps, ty1, pos1, aft1, none⟩ : Oper) :: ⟨some q, .move (.tmp p), ty2, pos2, aft2, none⟩ :: L2).length = l.length := by
    rw [hs]; simp
  have a5 : (L1 ++ (⟨some p, .buildSlice t n ps, ty1, pos1, aft1, none⟩ : Oper) :: ⟨some q, .move (.tmp p), ty2, pos2, aft2, none⟩ :: L2).countP makes = l.countP makes := by
    have := a3 l.length
    rw [List.take_length, ← a4, List.take_length] at this
    exact this
  generalize hL : (L1 ++ (⟨some p, .buildSlice t n ps, ty1, pos1, aft1, none⟩ : Oper) :: ⟨some q, .move (.tmp p), ty2, pos2, aft2, none⟩ :: L2) = l' at *
  have hr := runE_of_run _ _ _ _ H
  rw [nones_eq] at hr
  have h' : runE cx (l'.toArray.toList.filterMap appOf) (l'.toArray.toList.map (·.dst)) l' (h.length + cnt l'.toArray 0) ⟨A ev, h ++ List.replicate (l.countP makes) none⟩ (Q .normal) := by
    simpa [cnt, a1, a2] using hr
  obtain ⟨st', q1, q2⟩ := runE_steps l' 0 _ (by simp) h'
  have hL' : Lit cx l.toArray l'.toArray k := by
    refine ⟨by simpa using a2, by simpa using a1, fun i => by simpa [cnt] using a3 i, fun i hi => ?_, ⟨p, q, t, n, ps, ty1, pos1, aft1, ty2, pos2, aft2, e, s, y, zz, y2, z2, ?_, ?_, ?_, ht, he⟩⟩
    · simp only [List.getElem?_toArray]
      rw [← hL, hs]
      rw [List.getElem?_append, List.getElem?_append]
      split
      · rfl
      · rename_i hlt
        rcases hj : i - L1.length with _ | _ | j
        · rfl
        · omega
        · rfl
    · rw [hs]; simp [hk]
    · rw [hs]; simp [← hk]
    · rw [← hL]; simp [← hk]
  intro G w a HS R hR
  refine wp_region ?_
  have hc : cnt l.toArray l.toArray.size = l.countP makes := by simp [cnt]
  have hst := lit_steps hcx (base := h.length) (Q := R) hL' l.length 0 (w := w) (a := a) (st := ⟨A ev, h ++ List.replicate (l.countP makes) none⟩) (st' := st') (by omega) (by
    have := congrArg List.length hs
    simp only [List.length_append, List.length_cons, hk] at this
    omega) (HS.reserve _) (by
      have : l'.length = l.length := a4
      simpa [this] using q1) (fun G' w' a' S F => hR .normal st' G' w' a' q2 S (.of F))
  rw [List.range_eq_range']
  simpa using hst
end Go.Sx

namespace Go.Sx
open Go.RowKit

class Inj {α : Type} (f : α → List C) : Prop where
  inj : ∀ a b, f a = f b → a = b
instance : Inj bC := ⟨fun a b h => by simpa [bC, w8_inj] using h⟩
instance : Inj wC := ⟨fun a b h => by simpa [wC, w32_inj] using h⟩
instance : Inj sC := ⟨fun a b h => by simpa [sC, str_inj] using h⟩
instance : Inj nC := ⟨fun a b h => by simpa [nC, nI_inj] using h⟩
instance : Inj iC := ⟨fun a b h => by simpa [iC] using h⟩
instance : Inj oC := ⟨fun a b h => by simpa [oC] using h⟩
theorem cl_inj {α : Type} {f : α → List C} {s : Nat} [hf : Cel f s] [hi : Inj f] : ∀ {l l' : List α}, cl f l = cl f l' ↔ l = l' := by
  intro l l'
  constructor
  · induction l generalizing l' with
    | nil =>
      intro h
      cases l' with
      | nil => rfl
      | cons a l' =>
        have := congrArg List.length h
        rw [cl_nil, cl_cons, List.length_append, hf.len] at this
        have := hf.pos
        simp at *
        omega
    | cons a l ih =>
      intro h
      cases l' with
      | nil =>
        have := congrArg List.length h
        rw [cl_nil, cl_cons, List.length_append, hf.len] at this
        have := hf.pos
        simp at *
        omega
      | cons b l' =>
        rw [cl_cons, cl_cons] at h
        obtain ⟨h1, h2⟩ := List.append_inj h (by rw [hf.len, hf.len])
        rw [hi.inj _ _ h1, ih h2]
  · rintro rfl; rfl
theorem sl_inj {α : Type} {f : α → List C} {s : Nat} [hf : Cel f s] [hi : Inj f] {r : Rt} {l l' : List α} : sl f r l = sl f r l' ↔ l = l' := by
  constructor
  · intro h
    simp only [sl, C.sl.injEq, true_and] at h
    exact cl_inj.1 h.2
  · rintro rfl; rfl
theorem app_inj {α : Type} {f : α → List C} {s : Nat} [hf : Cel f s] [hi : Inj f] {l l' : List α} {r r' : List C} (hl : l.length = l'.length) : cl f l ++ r = cl f l' ++ r' ↔ l = l' ∧ r = r' := by
  constructor
  · intro h
    obtain ⟨h1, h2⟩ := List.append_inj h (by rw [cl_len (f := f), cl_len (f := f), hl])
    exact ⟨cl_inj.1 h1, h2⟩
  · rintro ⟨rfl, rfl⟩; rfl
end Go.Sx

namespace Go.Sx
open Go.RowKit
attribute [go_sem ↓] A_cons GB_true GB_false
attribute [go_sem] callQ_some callQ_none callR_rd refBox_sv refBox_bp refBox_agg refBox_val refBox_kp refBox_tsl rdPu_eq rdQ_some rdR_true frzs_nil frzs_cons frz_val frz_agg frz_kp frz_fn frz_tsl frz_sv frz_bp frzB_cl frzB_one frzS_cl frzS_all frzS_allL frzS_RL noRef_val noRef_agg noRef_tup noRef_kp noRef_sl noRefs_cl noRefs_cons noRefs_nil noRefs_app flat_val flat_agg flat_tup flats_nil flats_cons flats_cl flats_app Bool.and_self Bool.and_true on_tmp on_const on_global on_func orw_tmp orw_const orw_global orw_func tmpq_tmp tmpq_const tmpq_global tmpq_func not_true_eq_false not_false_eq_true noR_val noR_full noR_no noR_owns noR_sv noR_bp noR_kp noR_agg noR_tup noR_fn noR_top noR_slno noR_slfull noR_slown run_nil run_mvt run_mvc run_mvg run_mvf run_asg run_pick run_alloc run_box run_build run_buildS run_load run_store run_nilc run_bin run_un run_conv run_sta run_mkf run_mks run_slice run_fa run_fld run_ixa run_ix run_extr run_len run_app run_copy run_min run_max run_call run_mkS run_mkN run_guard bump_move bump_assign bump_pick bump_build bump_buildSlice bump_load bump_store bump_nilCheck bump_binOp bump_unOp bump_convert bump_sliceToArrayPointer bump_makeFunc bump_slice bump_fieldAddr bump_field bump_indexAddr bump_index bump_call bump_extract bump_insert bump_makeMap bump_lookup bump_mapUpdate bump_mapEntry bump_entryStore bump_makeInterface bump_alloc bump_box bump_makeSlice stV_vp stV_val0 stV_valk stV_rd stV_wr stV_xr stV_new stV_call stR_some stW_some0 stW_somek stC_some stN_some stG_some AN_true dOK_some dOK_none lit_w32o lit_w8o lit_nIo lit_nUo str_mk nil_sl mvP isA_nil isA_none isA_cons Bool.or_false Bool.false_or Bool.true_or Bool.or_true beq_self_eq_true onM onP List.map_nil List.map_cons Option.map_none Option.map_some Option.bind_some Option.bind_none thenQ_n bin_bool binB_eql binB_neq w_add w_sub w_xor w_and w_or w_not w_shln w_shlu w_shrn w_shru b_xor b_or b_and b_add b_sub b_quo b_rem b_eql b_neq b_lss b_leq b_gtr b_geq n_add n_sub n_mul n_quo n_rem n_eql n_neq n_lss n_leq n_gtr n_geq u_add u_sub u_mul u_rem u_and31 u_shrn un_negn un_not u_shru s_eql s_neq s_add s_lss int_cast ne_eq wanted_q wanQ_some wanV_T wanV_F wanV_u i_and255 eqR_eql eqR_neq eq_self decide_true decide_false Bool.not_true Bool.not_false i_add i_addn i_nadd i_sub i_subn i_nsub n_subI i_mul i_muln i_nmul i_quo i_quon i_rem i_remn i_eql i_neq i_lss i_leq i_gtr i_geq i_eqln i_neqn i_lssn i_leqn i_gtrn i_geqn i_neql i_nneq i_nlss i_nleq i_ngtr i_ngeq u_eql u_neq u_lss u_leq u_gtr u_geq u_or u_shln u_shri un_xoru un_negi cv_ii cv_u64i idx_int bound_int sl2_int share_int mm_min mm_max mm_mini mm_maxi mm_minin mm_minni mm_maxin mm_maxni conv_td cv_u8u32 cv_u8int cv_u8u64 cv_u8u8 cv_nu64 cv_u64n cv_nn cv_u32u8 cv_u64u8 cv_nu8 cv_iu8 cv_iu64 cv_u32n cv_ss cv_sb cvB_u8 cv_bs cvS_u8 cv_nilbs cv_vs cvV_u8 load_bp ldB_int ldB_bool ldB_str ldB_sl ldB_slo ldB_arr ldB_struct load_kp ldK_int ldK_bool ldK_str ldK_sl ldK_arr ldK_struct store_val store_agg store_bp store_sv store_fn store_sl stS_one stB_one stB_many cells_w32 cells_w8 cells_nI cells_nU cells_int cells_str cells_bool cells_nil cells_agg cells_slno cells_slown cells_slfull cl_noR box_cs boxQ_some alloc_z alQ_true allOne_nil allOne_cons allOne_app allOne_rep zc_nil zc_cons zc_app zc_rep one_w32 one_w8 one_nI one_nU one_str one_bool one_int one_slice build_struct bldS_true plc_nil plc_cons plQ_some layS_nil layS_cons layQ_some layW_some rep_1 rep_w32 rep_w8 rep_nI idx_nI idx_w8 bound_nI bound_none ixa_td ixS_some ixa_ab ixa_akT ixK_some ixa_sv ixa_slT ixL_some inx_td inx_str inS_some inx_arr getP_int getP_str getP_bool getP_sl getP_arr getP_struct len_td len_str len_arr len_sv len_sl len_nil Nat.mul_one Nat.zero_add Nat.add_zero slice_td sl2_none sl2_nI slS_some slP_str slQ_some slP_sv slP_ab slP_slT slH_some sta_T cp_strT cp_slT app_td app_ss app_st apQ_own apQ_full apQ_nil apQ_nil_nil apQ_own_nil apQ_strs apQ_strf apQ_strn copy_td pick_tf pick_ff nilP extractP callP shares List.append_nil share_w32 share_w8 share_nI share_nU share_strs share_bool share_val share_nil share_full share_no share_own share_sv share_bp share_kp share_agg share_fn share_slno share_slfull share_slown rds_cl wrc_full rda_full cpc_clRR cpc_cl cpc_clL List.map_append gt_cons0 gt_consS rda_clM build_arr buildA_w buildA_b buildA_n buildA_s lay1_nil lay1_w lay1_b bs_slice bsA_w bsA_b bsA_n bsA_s lay1s_b lay1s_s lay1s_nil rep_str Nat.sub_zero Nat.zero_mul List.drop_zero List.drop_succ_cons List.take_succ_cons List.take_zero at_cons0 at_consS rdc_cons0 rdc_consS rdc_drop rdc_cl rdc_clL rdc_clE rdc_clRR rda_cl rda_clL rda_clRR wrc_w wrc_b wrc_n wrc_s wrc_o wrc_i wrc_wL wrc_bL wrc_nL wrc_sL wrc_oL wrc_iL wrc_clE wrc_clRR wrs_clE wrc_clA wrc_clAL wrc_one wrs_one List.set_cons_zero List.set_cons_succ List.getElem?_cons_zero List.getElem?_cons_succ List.length_nil List.length_cons List.nil_append List.cons_append Nat.add_sub_cancel_left List.length_set List.length_replicate gt_def
end Go.Sx

namespace Go.Sx
open Go.RowKit Go.ChangeShapes

theorem laid_ints {H : Type} {enc : TypeId × Value → H} {P : Program} {W : World} {base : Nat} {sp : Nat → Bool} {held : Bool} {fuel : Nat} {t e : TypeId} {n : Nat} {k : IntKind} {cs : List Value} {p : List MemPlace} {ns : List Int}
    (ht : P.underlying t = some (.array n e)) (he : P.underlying e = some (.int k)) (hc : P.cellsOf e = 1) (hn : P.cellsOf t = n)
    (h : DataW.trod enc P W base sp held fuel t cs = some (.agg (ns.map fun m => .lit (.int k m)), p)) : cs = ns.map (.int k ·) := by
  obtain ⟨xs, m, _, hx, hlen, hxl, hel⟩ := DataW.trod_array ht h
  simp only [Prod.mk.injEq, DataW.agg.injEq] at hx
  have hnl : ns.length = n := by
    have := congrArg List.length hx.1
    simp only [List.length_map] at this; omega
  have each : ∀ i < n, ∃ z, cs[i]? = some (.int k z) ∧ ns[i]? = some z := fun i hi => by
    have h1 := hel i hi
    rw [List.getElem?_eq_getElem (by omega), hc, Nat.mul_one] at h1
    obtain ⟨z, h2, h3, _⟩ := DataW.trod_int he h1
    refine ⟨z, ?_, ?_⟩
    · have h4 := congrArg (fun l => l[0]?) h2
      simpa [List.getElem?_take, List.getElem?_drop] using h4
    · have h5 := congrArg (fun l => l[i]?) hx.1
      simp only [List.getElem?_map] at h5
      rw [List.getElem?_eq_getElem (l := xs) (by omega), h3] at h5
      simp only [Option.map_some] at h5
      cases hq : ns[i]? with
      | none => rw [hq] at h5; cases h5
      | some z' => rw [hq] at h5; simp only [Option.map_some, Option.some.injEq, DataW.lit.injEq, Lit.int.injEq, true_and] at h5; rw [h5]
  apply List.ext_getElem?
  intro i
  by_cases hi : i < n
  · obtain ⟨z, h1, h2⟩ := each i hi
    rw [h1, List.getElem?_map, h2]; rfl
  · rw [List.getElem?_eq_none (by omega), List.getElem?_eq_none (by simp; omega)]

/-- A variable that is an array of words. -/
theorem glob_words {P : Program} {W : World} {n : String} {g t e m fuel : Nat} {enc : TypeId × Value → Unit} {sp : Nat → Bool} {held : Bool} {cs : Array Value} {p : List MemPlace} {ws : List (BitVec 32)}
    (hg : P.globalNamed n = some g) (hv : W.var? P n = some cs) (ht : P.underlying t = some (.array m e)) (he : P.underlying e = some (.int .u32)) (hc : P.cellsOf e = 1) (hn : P.cellsOf t = m)
    (h : DataW.trod enc P W 0 sp held fuel t cs.toList = some (.agg ((ws.map fun w => (w.toNat : Int)).map fun m => .lit (.int .u32 m)), p)) : Rep (GW W) (.kp (cl wC ws)) (.pointer (some ⟨g, 0, none⟩)) := by
  have hcs := laid_ints ht he hc hn h
  simp only [Rep]
  refine ⟨g, 0, rfl, RepK.of_get fun i x hx => ?_⟩
  have hi : i < ws.length := by
    have := (List.getElem?_eq_some_iff.1 hx).1
    rw [cl_len (f := wC)] at this; omega
  rw [cl_get (f := wC) ws i hi] at hx
  simp only [Option.some.injEq] at hx
  subst hx
  refine ⟨w32 (ws.getD i default), ?_, rfl, rep_val.2 rfl⟩
  show W.cell? ⟨g, 0 + i, none⟩ = _
  rw [World.var?_cell hg hv, Nat.zero_add, ← Array.getElem?_toList, hcs]
  simp [List.getElem?_map, List.getD, List.getElem?_eq_getElem hi, w32]

theorem trods_cons {H : Type} {enc : TypeId × Value → H} {P : Program} {W : World} {b : Nat} {sp : Nat → Bool} {hd : Bool} {t : TypeId} {ts : List TypeId} {vs : List Value} {ds : List (DataW H)} {ps : List MemPlace}
    (h : DataW.TrodAll enc P W b sp hd (t :: ts) vs ds ps) : ∃ v vs' d ds' p q, vs = v :: vs' ∧ ds = d :: ds' ∧ DataW.Trod enc P W b sp hd t v d p ∧ DataW.TrodAll enc P W b sp hd ts vs' ds' q := by
  cases vs <;> cases ds <;> simp only [DataW.TrodAll] at h
  obtain ⟨p, q, h1, h2, _⟩ := h
  exact ⟨_, _, _, _, p, q, rfl, rfl, h1, h2⟩
theorem trods_nil {H : Type} {enc : TypeId × Value → H} {P : Program} {W : World} {b : Nat} {sp : Nat → Bool} {hd : Bool} {vs : List Value} {ds : List (DataW H)} {ps : List MemPlace}
    (h : DataW.TrodAll enc P W b sp hd [] vs ds ps) : vs = [] := by
  cases vs <;> cases ds <;> simp only [DataW.TrodAll] at h <;> rfl
/-- An argument of a type reads as a shadow value. -/
def AR (P : Program) (t : TypeId) {α : Type} (g : α → C) (ok : α → Prop) : Prop :=
  ∀ {H : Type} {enc : TypeId × Value → H} {W : World} {base b0 : Nat} {sp : Nat → Bool} {held : Bool} {v : Value} {d : DataW H} {ps : List MemPlace},
    Value.okWide P W .any b0 t v → DataW.Trod enc P W base sp held t v d ps → ∃ a, ok a ∧ Rep (GW W) (g a) v
section
variable {P : Program} {t e : TypeId}
theorem ar_int {s y : Nat} {z : List Value} (h : td P t = some ⟨.int .i64, s, y, z⟩) : AR P t (fun n : Int => .val (.int .i64 n)) fun n => -9223372036854775808 ≤ n ∧ n ≤ 9223372036854775807 :=
  fun h1 h2 => arg_one (f := iC) (fun _ => rfl) (rds_int (td_spec h).1) (fun u hu => by rw [(td_spec h).1] at hu; cases hu; trivial) h1 h2
theorem ar_u8 {s y : Nat} {z : List Value} (h : td P t = some ⟨.int .u8, s, y, z⟩) : AR P t (fun n : UInt8 => .val (w8 n)) fun _ => True :=
  fun h1 h2 => arg_one (f := bC) (fun _ => rfl) (rds_u8 (td_spec h).1) (fun u hu => by rw [(td_spec h).1] at hu; cases hu; trivial) h1 h2
theorem ar_str {s y : Nat} {z : List Value} (h : td P t = some ⟨.string, s, y, z⟩) : AR P t (fun n : List UInt8 => .val (str n)) fun l => l.length ≤ 9223372036854775807 :=
  fun h1 h2 => arg_one (f := sC) (fun _ => rfl) (rds_str (td_spec h).1) (fun u hu => by rw [(td_spec h).1] at hu; cases hu; trivial) h1 h2
theorem ar_slice {α : Type} {f : α → List C} {ok : α → Prop} {s0 s y : Nat} [hf : Cel f s0] {z : List Value} (h : td P t = some ⟨.slice e, s, y, z⟩) (hc : P.cellsOf e = s0) (he : Rds P e f ok) : AR P t (fun l : List α => sl f .no l) fun l => l.length ≤ 9223372036854775807 ∧ ∀ a ∈ l, ok a :=
  fun h1 h2 => arg_one (f := fun l => [sl f .no l]) (fun _ => rfl) (rds_slice (td_spec h).1 hc he) (fun u hu => by rw [(td_spec h).1] at hu; cases hu; trivial) h1 h2
theorem ar_array {α : Type} {f : α → List C} {ok : α → Prop} {s0 s y n : Nat} [hf : Cel f s0] {z : List Value} (h : td P t = some ⟨.array n e, s, y, z⟩) (hc : P.cellsOf e = s0) (hn : P.cellsOf t = n * s0) (he : Rds P e f ok) : AR P t (fun l : List α => .agg (cl f l)) fun l => l.length = n ∧ ∀ a ∈ l, ok a :=
  fun h1 h2 => arg_agg (f := fun l => cl f l) (rds_array (td_spec h).1 hc hn he) ⟨_, (td_spec h).1, trivial⟩ h1 h2
end
end Go.Sx

namespace Go.Sx
attribute [go_sem] one_w32 one_w8 one_nI one_nU one_str one_bool one_int one_slice refy_sv refy_bp refy_agg refy_val refy_kp refy_tsl cl_len thenQ_n thenQ_x thenQ_r blockQ_n blockQ_r EndsR_r EndsR_n resL_one resC_tmp resC_cell rcP_int rcP_bool rcP_str rcP_sl rcP_arr rcP_struct Le_nil Le_cons CLe_refl CLe_top CLe_full CLe_nil CLe_own ev_tmp ev_const condG_bool noRef_bp noRef_sv noRef_fn noRef_top true_and and_true
end Go.Sx

namespace Go.Sx
open Go.RowKit

abbrev Dig := {l : List UInt8 // l.length = 16}
instance : Inhabited Dig := ⟨⟨List.replicate 16 0, by simp⟩⟩
def dC (d : Dig) : List C := cl bC d.1
instance : Cel dC 16 := ⟨fun a => by unfold dC; rw [cl_len (f := bC), a.2], fun a => by unfold dC; exact cl_noR a.1, by decide⟩
instance : Fla dC := ⟨fun a => by unfold dC; exact flats_cl bC a.1⟩
instance : Inj dC := ⟨fun a b h => Subtype.ext (cl_inj.1 h)⟩
theorem dC_eq (d : Dig) : dC d = cl bC d.1 := rfl
theorem dC_mk (l : List UInt8) (h : l.length = 16) : cl bC l = dC ⟨l, h⟩ := rfl
theorem rda_dropE {α : Type} [Inhabited α] {f : α → List C} {s : Nat} [hf : Cel f s] (l : List α) (k : Nat) (h : k < l.length) : rda ((cl f l).drop (k * s)) 0 s = some (.agg (f (gt l k))) := by
  rw [← gt_def, ← rda_clE (f := f) l k h]
  unfold rda
  simp only [List.length_drop, List.drop_drop, Nat.add_zero, Nat.zero_add]
  have h1 := cl_len (f := f) l
  have h2 : k * s + s ≤ l.length * s := by rw [← Nat.succ_mul]; exact Nat.mul_le_mul_right _ h
  rw [if_pos (by omega), if_pos (by omega)]
theorem rdc_dig (l : List Dig) (k i : Nat) (h : k < l.length ∧ i < 16) : rdc (cl dC l) (k * 16 + i) = some (.val (w8 (gt (gt l k).1 i))) := by
  unfold rdc
  rw [cl_getq (f := dC) l k i h.2, List.getElem?_eq_getElem h.1]
  simp only [Option.bind_some]
  have e : gt l k = l[k] := by simp [gt, List.getD, List.getElem?_eq_getElem h.1]
  rw [e, dC_eq]
  have := rdc_cl (f := bC) l[k].1 i (by rw [l[k].2]; exact h.2)
  unfold rdc at this
  rw [this, gt_def]
theorem bsA_dig (u : TypeDesc) (y : Nat) (z : List Value) (l : List UInt8) (h : l.length = 16) (hz : z.length = 16) (h1 : z.all (·.oneCell') = true) : bsA (some ⟨u, 16, y, z⟩) 1 [(0, .agg (cl bC l))] = some (vp (sl dC .full [⟨l, h⟩])) := by
  unfold bsA
  simp only [hz, h1]
  rw [if_pos ⟨by decide, by decide, trivial, trivial⟩]
  have hl := cl_len (f := bC) l
  have hr : (repZero z 1).length = 16 := by simp [repZero, hz]
  have hc : C.cells? (.agg (cl bC l)) = some (cl bC l) := by
    show some ((cl bC l).map C.noR) = _
    rw [cl_noR]
  unfold lay
  simp only [hc]
  rw [if_pos ⟨by omega, by omega⟩]
  unfold lay
  simp only [Option.map_some, splice, Nat.zero_mul, List.take_zero, List.nil_append, Nat.zero_add]
  rw [List.drop_of_length_le (by omega), List.append_nil]
  congr 2
  simp [sl, cl_cons, cl_nil, dC]
theorem rds_dig {P : Program} {t e : TypeId} (ht : P.underlying t = some (.array 16 e)) (hc : P.cellsOf e = 1) (hn : P.cellsOf t = 16 * 1) (he : Rds P e bC fun _ => True) : Rds P t dC fun _ => True := fun h => by
  obtain ⟨l, h1, h2, h3⟩ := rds_array ht hc hn he h
  exact ⟨⟨l, h1.1⟩, trivial, h2, h3⟩
def res2 (a b : Option C) : Option C := match a, b with
  | some a, some b => some (.tup [a.noR, b.noR])
  | _, _ => none
def res3 (a b c : Option C) : Option C := match a, b, c with
  | some a, some b, some c => some (.tup [a.noR, b.noR, c.noR])
  | _, _, _ => none
theorem resL_2 (cx : Cx) (st : St) (r1 r2 : ResultVar) : resL cx st [r1, r2] = res2 (resC cx st r1) (resC cx st r2) := by
  unfold resL res2
  simp only [List.mapM_cons, List.mapM_nil, Option.bind_eq_bind, Option.pure_def]
  cases resC cx st r1 <;> cases resC cx st r2 <;> rfl
theorem resL_3 (cx : Cx) (st : St) (r1 r2 r3 : ResultVar) : resL cx st [r1, r2, r3] = res3 (resC cx st r1) (resC cx st r2) (resC cx st r3) := by
  unfold resL res3
  simp only [List.mapM_cons, List.mapM_nil, Option.bind_eq_bind, Option.pure_def]
  cases resC cx st r1 <;> cases resC cx st r2 <;> cases resC cx st r3 <;> rfl
theorem res2_some (a b : C) : res2 (some a) (some b) = some (.tup [a.noR, b.noR]) := rfl
theorem res3_some (a b c : C) : res3 (some a) (some b) (some c) = some (.tup [a.noR, b.noR, c.noR]) := rfl
attribute [go_sem] resL_2 resL_3 res2_some res3_some
theorem not_dec (p : Prop) [Decidable p] : (!decide p) = decide (¬ p) := by simp
theorem u_shlu (P : Program) (t : TypeId) (x n : Nat) (h : x < 18446744073709551616 ∧ n ≤ 64) : binPlan P .shl t (.val (nU x)) (.val (nU n)) = some (vp (.val (nU (x * 2 ^ n % 18446744073709551616)))) := u_shl P t x n .u64 h
attribute [go_sem] not_dec u_shlu dC_eq rda_dropE rdc_dig bsA_dig apQ_ownsv apQ_fullsv apQ_nilsv apR_cl
end Go.Sx

namespace Go.Sx
open Go.RowKit
theorem Tr.nil3 {cx : Cx} {n : Nat} {c : Code} {h : Hp} {Q : Ex → St → Prop} {α : Type} (f : α → List C) (r : Rt) {k1 k2 k3 : Nat} {a b : C} (h12 : k2 ≠ k1) (h13 : k3 ≠ k1) (h23 : k3 ≠ k2)
    (H : Tr cx n c ⟨A [(k1, sl f r []), (k2, a), (k3, b)], h⟩ Q) : Tr cx n c ⟨A [(k1, .val (.slice none 0 0)), (k2, a), (k3, b)], h⟩ Q := by
  refine Tr.weaken (Le.spec (l := [(k1, sl f r []), (k2, a), (k3, b)]) ?_) H
  refine ⟨?_, ?_, ?_, trivial⟩
  · show CLe (A _ k1) _
    unfold A; rw [if_pos rfl]; exact CLe.nil _
  · show CLe (A _ k2) _
    unfold A; rw [if_neg h12]; unfold A; rw [if_pos rfl]; exact CLe.refl _
  · show CLe (A _ k3) _
    unfold A; rw [if_neg h13]; unfold A; rw [if_neg h23]; unfold A; rw [if_pos rfl]; exact CLe.refl _
theorem lay1s_i (n : Nat) (l : List Int) (i : Nat) (x : Int) (r : List (Nat × C)) (h : i < l.length) : lay1s n (cl iC l) ((i, .val (.int .i64 x)) :: r) = lay1s n (cl iC (l.set i x)) r := by
  have e := cl_set (f := iC) l i x h
  rw [Nat.mul_one] at e
  have e2 : splice (cl iC l) i [.val (.int .i64 x)] = cl iC (l.set i x) := e
  show (if [C.val (.int .i64 x)].length = 1 ∧ i + 1 ≤ (cl iC l).length then lay1s n (splice (cl iC l) i [.val (.int .i64 x)]) r else none) = _
  rw [if_pos ⟨rfl, by rw [cl_len (f := iC)]; omega⟩, e2]
theorem cl_nC_iC (l : List Nat) : cl nC l = cl iC (l.map Int.ofNat) := by
  unfold cl
  rw [List.flatMap_map]
  rfl
theorem lay1s_ni (n : Nat) (l : List Nat) (i : Nat) (x : Int) (r : List (Nat × C)) (h : i < l.length) : lay1s n (cl nC l) ((i, .val (.int .i64 x)) :: r) = lay1s n (cl iC ((l.map Int.ofNat).set i x)) r := by
  rw [cl_nC_iC, lay1s_i n _ i x r (by simpa using h)]
theorem lay1s_in (n : Nat) (l : List Int) (i : Nat) (x : Nat) (r : List (Nat × C)) (h : i < l.length) : lay1s n (cl iC l) ((i, .val (nI x)) :: r) = lay1s n (cl iC (l.set i x)) r := lay1s_i n l i x r h
theorem tkd {α : Type} (l : List α) (p : Nat) : List.take (l.length - p) (List.drop p l) = List.drop p l := by
  rw [← List.length_drop, List.take_length]
def staQ (de : Option TD) (n m : Nat) (xs : List C) : Option Plan := match de with
  | some de => if n ≤ m ∧ xs ≠ [] ∧ xs.length = m * de.size then some (vp (.kp xs)) else none
  | none => none
theorem sta_slT {α : Type} (P : Program) (f : α → List C) (n : Nat) (e : TypeId) (a1 b1 : Nat) (z1 : List Value) (r : Rt) (l : List α) : staP P (some ⟨.array n e, a1, b1, z1⟩) (sl f r l) = staQ (td P e) n l.length (cl f l) := by
  unfold staP staQ
  simp only []
  cases td P e <;> rfl
theorem staQ_cl {α : Type} (f : α → List C) {s : Nat} [hf : Cel f s] (u : TypeDesc) (y : Nat) (z : List Value) (n : Nat) (l : List α) (h : n ≤ l.length ∧ 0 < n) : staQ (some ⟨u, s, y, z⟩) n l.length (cl f l) = some (vp (.kp (cl f l))) := by
  have hl := cl_len (f := f) l
  refine if_pos ⟨h.1, ?_, hl⟩
  intro hn
  rw [hn] at hl
  have : 0 < l.length * s := Nat.mul_pos (by omega) hf.pos
  simp at hl
  omega
attribute [go_sem] sta_slT staQ_cl lay1s_i lay1s_ni lay1s_in tkd List.map_cons List.map_nil List.set_cons_zero
end Go.Sx

namespace Go.Sx
open Go.RowKit
def EndsH (cx : Cx) (rs : List ResultVar) (c : C) (h' : Hp) : Ex → St → Prop
  | .exit _, _ => False
  | _, st => resL cx st rs = some c ∧ st.h = h'
theorem EndsH_r (cx : Cx) (rs : List ResultVar) (c : C) (h' : Hp) (st : St) : EndsH cx rs c h' .ret st = (resL cx st rs = some c ∧ st.h = h') := rfl
theorem EndsH_n (cx : Cx) (rs : List ResultVar) (c : C) (h' : Hp) (st : St) : EndsH cx rs c h' .normal st = (resL cx st rs = some c ∧ st.h = h') := rfl
theorem FC.ofH {cx : Cx} {f : Nat} {fn : Func} {code : Code} {args : List C} {h h' : Hp} {c : C} {rs : List ResultVar} (hN : cx.N = fn.ntmps) (hf : cx.P.funcs[f]? = some fn) (hn : (fn.name == "runtime.NumGoroutine") = false) (hb : fn.body = some code)
    (hrs : fn.results = rs.toArray) (hlen : args.length ≤ fn.ntmps) (hT : Tr cx h.length code ⟨A (ini 0 args), h⟩ (EndsH cx rs c h')) : FC cx.P cx.gl f args h c h' := by
  refine FC.of hN hf hn hb hlen ?_
  refine Tr.weaken (fun t => CLe.init args t) (hT.mono fun x st q => ?_)
  have key : resL cx st rs = some c ∧ st.h = h' → results cx fn st = some c ∧ ((st.h.take h.length = h' ∧ noRef h.length c = true ∧ ∀ b cells, b < h.length → st.h.at b = some cells → noRefs h.length cells = true) ∨ st.h = h') := fun q => by
    refine ⟨?_, .inr q.2⟩
    rw [← q.1]
    unfold results
    rw [hrs]
    rcases rs with _ | ⟨r, _ | ⟨r2, rs⟩⟩ <;> rfl
  cases x with
  | exit k => exact q
  | normal => exact key q
  | ret => exact key q
theorem FC.vac {P : Program} {gl : Nat → C} {f b o : Nat} {args : List C} {c : C} {h' : Hp} (he : Entered P f) : FC P gl f (.bp b o :: args) [] c h' := by
  refine ⟨he, fun G w vs W hT hg hr => ?_⟩
  exfalso
  simp only [RepL] at hr
  obtain ⟨v, vs', _, hv, _⟩ := hr
  simp only [Rep] at hv
  obtain ⟨blk, hm, _⟩ := hv
  obtain ⟨cells, hc⟩ := W.dom b blk hm
  cases b <;> cases hc
theorem callR_hp (cx : Cx) (g : Nat) (as : List C) (b : Nat) (r : C × Hp) : callR cx g as (some b) (some r) = some (.call g as) := rfl
theorem callR_none (cx : Cx) (g : Nat) (as : List C) (o : Option (C × Hp)) : callR cx g as none o = some (.call g as) := rfl
theorem cells_sl {α : Type} (f : α → List C) (r : Rt) (l : List α) : (sl f r l).cells? = some [(sl f r l).noR] := rfl
theorem refBox_nil : refBox [] = none := rfl
attribute [go_sem] refBox_nil cells_sl EndsH_r EndsH_n callR_hp callR_none
end Go.Sx

namespace Go.Sx
open Go.RowKit
/-- A slice in one cell. -/
def lC {α : Type} (f : α → List C) (l : List α) : List C := [sl f .no l]
instance {α : Type} (f : α → List C) : Sca (lC f) (sl f .no) := ⟨fun _ => rfl, fun _ => rfl, fun _ => rfl⟩
theorem lC_eq {α : Type} (f : α → List C) (l : List α) : lC f l = [sl f .no l] := rfl
/-- Slices laid one after the other. -/
def seqL {α : Type} (f : α → List C) (k n : Nat) (acc : List (List α)) (parts : List (Nat × C)) : Option Plan :=
  lay1s n (cl (lC f) acc ++ List.replicate (n - k) (.val (.slice none 0 0))) parts
theorem seqL_next {α : Type} (f : α → List C) (k n : Nat) (acc : List (List α)) (c : C) (l : List α) (parts : List (Nat × C)) (hc : c.cells? = some [sl f .no l]) (h : acc.length = k ∧ k < n) : seqL f k n acc ((k, c) :: parts) = seqL f (k + 1) n (acc ++ [l]) parts := by
  obtain ⟨h, h2⟩ := h
  have hl : (cl (lC f) acc).length = k := by rw [cl_len (f := lC f), h, Nat.mul_one]
  have e : n - k = (n - (k + 1)) + 1 := by omega
  show (match c.cells? with
    | some cs => if cs.length = 1 ∧ k + 1 ≤ (cl (lC f) acc ++ List.replicate (n - k) (C.val (.slice none 0 0))).length then lay1s n (splice (cl (lC f) acc ++ List.replicate (n - k) (C.val (.slice none 0 0))) k cs) parts else none
    | none => none) = _
  rw [hc]
  simp only []
  rw [if_pos ⟨rfl, by rw [List.length_append, hl, List.length_replicate]; omega⟩]
  unfold seqL
  congr 1
  rw [cl_app, e, List.replicate_succ]
  unfold splice
  rw [List.take_append_of_le_length (by omega), List.take_of_length_le (by omega), List.append_assoc, List.append_assoc, List.length_singleton]
  congr 1
  rw [List.drop_append, List.drop_of_length_le (by omega), hl, show k + 1 - k = 1 by omega]
  rfl
theorem seqL_no {α : Type} (f : α → List C) (k n : Nat) (acc : List (List α)) (l : List α) (parts : List (Nat × C)) (h : acc.length = k ∧ k < n) : seqL f k n acc ((k, sl f .no l) :: parts) = seqL f (k + 1) n (acc ++ [l]) parts :=
  seqL_next f k n acc _ l parts rfl h
theorem seqL_own {α : Type} (f : α → List C) (s k n : Nat) (acc : List (List α)) (l : List α) (parts : List (Nat × C)) (h : acc.length = k ∧ k < n) : seqL f k n acc ((k, sl f (.own s) l) :: parts) = seqL f (k + 1) n (acc ++ [l]) parts :=
  seqL_next f k n acc _ l parts rfl h
theorem seqL_nil {α : Type} (f : α → List C) (n : Nat) (acc : List (List α)) (h : acc.length = n) : seqL f n n acc [] = some (vp (sl (lC f) .full acc)) := by
  unfold seqL
  rw [Nat.sub_self, List.replicate_zero, List.append_nil]
  show some (vp (.sl .full n (cl (lC f) acc))) = _
  rw [← h]; rfl
theorem bsA_no {α : Type} (f : α → List C) (u : TypeDesc) (y n : Nat) (l : List α) (parts : List (Nat × C)) (hn : n ≤ 65536) : bsA (some ⟨u, 1, y, [.slice none 0 0]⟩) n ((0, sl f .no l) :: parts) = seqL f 0 n [] ((0, sl f .no l) :: parts) := by
  rw [bsA_one _ _ _ _ _ rfl hn]; rfl
theorem bsA_own {α : Type} (f : α → List C) (s : Nat) (u : TypeDesc) (y n : Nat) (l : List α) (parts : List (Nat × C)) (hn : n ≤ 65536) : bsA (some ⟨u, 1, y, [.slice none 0 0]⟩) n ((0, sl f (.own s) l) :: parts) = seqL f 0 n [] ((0, sl f (.own s) l) :: parts) := by
  rw [bsA_one _ _ _ _ _ rfl hn]; rfl
attribute [go_sem] seqL_no seqL_own seqL_nil bsA_no bsA_own lC_eq List.nil_append List.cons_append
end Go.Sx

namespace Go.Sx
open Go.RowKit
open Classical in
noncomputable def tabH {α : Type} (enc : α → List C × Hp) (out : α → C × Hp) (xs : List C) (h : Hp) : Option (C × Hp) :=
  if q : ∃ a, enc a = (xs, h) then some (out q.choose) else none
theorem tabH_enc {α : Type} {enc : α → List C × Hp} {out : α → C × Hp} (hi : ∀ a b, enc a = enc b → out a = out b) (a : α) : tabH enc out (enc a).1 (enc a).2 = some (out a) := by
  have h : ∃ b, enc b = ((enc a).1, (enc a).2) := ⟨a, rfl⟩
  unfold tabH
  rw [dif_pos h]
  exact congrArg some (hi _ _ h.choose_spec)
theorem tabH_some {α : Type} {enc : α → List C × Hp} {out : α → C × Hp} {xs : List C} {h : Hp} {r : C × Hp} (e : tabH enc out xs h = some r) : ∃ a, enc a = (xs, h) ∧ out a = r := by
  unfold tabH at e
  split at e
  · rename_i h2; exact ⟨_, h2.choose_spec, Option.some.inj e⟩
  · cases e
def extH (hp : Nat → List C → Hp → Option (C × Hp)) (f : Nat) (t : List C → Hp → Option (C × Hp)) : Nat → List C → Hp → Option (C × Hp) := fun g xs h => if g = f then t xs h else hp g xs h
theorem extH_hit {hp : Nat → List C → Hp → Option (C × Hp)} {f : Nat} {t : List C → Hp → Option (C × Hp)} (xs : List C) (h : Hp) : extH hp f t f xs h = t xs h := if_pos rfl
theorem extH_miss {hp : Nat → List C → Hp → Option (C × Hp)} {f g : Nat} {t : List C → Hp → Option (C × Hp)} (n : g ≠ f) (xs : List C) (h : Hp) : extH hp f t g xs h = hp g xs h := if_neg n
theorem CxOK.extH {P : Program} {gl : Nat → C} {pu : Nat → List C → Option C} {hp : Nat → List C → Hp → Option (C × Hp)} {N M : Nat} (hcx : CxOK ⟨P, N, gl, pu, hp⟩)
    {α : Type} {enc : α → List C × Hp} {out : α → C × Hp} {f : Nat} (h : ∀ a, FC P gl f (enc a).1 (enc a).2 (out a).1 (out a).2) : CxOK ⟨P, M, gl, pu, Sx.extH hp f (tabH enc out)⟩ := by
  refine ⟨hcx.glo, hcx.pu, fun g xs k c k' hc => ?_⟩
  by_cases hgf : g = f
  · subst hgf
    have hc' : tabH enc out xs k = some (c, k') := by rw [← hc]; exact (extH_hit xs k).symm
    obtain ⟨a, e1, e2⟩ := tabH_some hc'
    have := h a
    rw [e1, e2] at this
    exact this
  · have hc' : hp g xs k = some (c, k') := by rw [← hc]; exact (extH_miss hgf xs k).symm
    exact hcx.hp g xs k c k' hc'
end Go.Sx

namespace Go.Sx
open Go.RowKit Go.ChangeShapes Go.WideShapes
/-- How a value stands to the data that it reads as. -/
abbrev Rel (α : Type) := α → (H : Type) → DataW H → Prop
def Rdx (P : Program) (t : TypeId) {α : Type} (f : α → List C) (R : Rel α) : Prop :=
  ∀ {H : Type} {enc : TypeId × Value → H} {W : World} {base : Nat} {sp : Nat → Bool} {held : Bool} {fuel : Nat} {cs : List Value} {x : DataW H × List MemPlace},
    DataW.trod enc P W base sp held fuel t cs = some x → ∃ a, R a H x.1 ∧ RepL (GW W) (f a) cs ∧ ∀ u ∈ cs, u.oneCell' = true
def RI : Rel Int := fun n _ d => (-9223372036854775808 ≤ n ∧ n ≤ 9223372036854775807) ∧ d = .lit (.int .i64 n)
def RB : Rel UInt8 := fun n _ d => d = .lit (.int .u8 n.toNat)
def RU : Rel Nat := fun n _ d => n < 18446744073709551616 ∧ d = .lit (.int .u64 n)
def RO : Rel Bool := fun b _ d => d = .lit (.bool b)
def RS : Rel (List UInt8) := fun s _ d => s.length ≤ 9223372036854775807 ∧ d = .lit (.string s)
def RL {α : Type} (R : Rel α) : Rel (List α) := fun l H d => (l = [] ∧ d = .nil) ∨ ∃ elems spare, d = .slice elems spare ∧ l.length ≤ 9223372036854775807 ∧ elems.length = l.length ∧ ∀ (i : Nat) a x, l[i]? = some a → elems[i]? = some x → R a H x
def RA {α : Type} (n : Nat) (R : Rel α) : Rel (List α) := fun l H d => ∃ parts, d = .agg parts ∧ l.length = n ∧ parts.length = n ∧ ∀ (i : Nat) a x, l[i]? = some a → parts[i]? = some x → R a H x
def R2 {α β : Type} (R : Rel α) (S : Rel β) : Rel (α × β) := fun a H d => ∃ x y, d = .agg [x, y] ∧ R a.1 H x ∧ S a.2 H y
def R3 {α β γ : Type} (R : Rel α) (S : Rel β) (T : Rel γ) : Rel (α × β × γ) := fun a H d => ∃ x y z, d = .agg [x, y, z] ∧ R a.1 H x ∧ S a.2.1 H y ∧ T a.2.2 H z
section
variable {P : Program} {t e : TypeId}
theorem rdx_int (ht : P.underlying t = some (.int .i64)) : Rdx P t iC RI := fun h => by
  obtain ⟨n, rfl, e, hw⟩ := DataW.trod_int ht h
  refine ⟨n, ⟨?_, by rw [e]⟩, rds_val rfl, by simp [Value.oneCell']⟩
  simpa [Lit.wf, IntKind.min, IntKind.max, IntKind.signed, IntKind.bits] using hw
def uC (n : Nat) : List C := [.val (nU n)]
theorem rdx_u64 (ht : P.underlying t = some (.int .u64)) : Rdx P t uC RU := fun h => by
  obtain ⟨n, rfl, e, hw⟩ := DataW.trod_int ht h
  have hr : 0 ≤ n ∧ n ≤ 18446744073709551615 := by simpa [Lit.wf, IntKind.min, IntKind.max, IntKind.signed, IntKind.bits] using hw
  obtain ⟨m, rfl⟩ : ∃ m : Nat, n = m := ⟨n.toNat, by omega⟩
  exact ⟨m, ⟨by omega, by rw [e]⟩, rds_val rfl, by simp [Value.oneCell']⟩
theorem rdx_u8 (ht : P.underlying t = some (.int .u8)) : Rdx P t bC RB := fun h => by
  obtain ⟨n, rfl, e, hw⟩ := DataW.trod_int ht h
  have hr : 0 ≤ n ∧ n ≤ 255 := by simpa [Lit.wf, IntKind.min, IntKind.max, IntKind.signed, IntKind.bits] using hw
  have hn : ((UInt8.ofNat n.toNat).toNat : Int) = n := by
    simp only [UInt8.toNat_ofNat']
    have : n.toNat % 2 ^ 8 = n.toNat := Nat.mod_eq_of_lt (by omega)
    rw [this]; omega
  refine ⟨UInt8.ofNat n.toNat, by rw [e]; unfold RB; rw [hn], rds_val ?_, by simp [Value.oneCell']⟩
  simp only [w8]
  rw [hn]
theorem rdx_bool (ht : P.underlying t = some .bool) : Rdx P t oC RO := fun h => by
  obtain ⟨b, rfl, e⟩ := DataW.trod_bool ht h
  exact ⟨b, by rw [e]; rfl, rds_val rfl, by simp [Value.oneCell']⟩
theorem rdx_str (ht : P.underlying t = some .string) : Rdx P t sC RS := fun h => by
  obtain ⟨s, rfl, e, hs⟩ := DataW.trod_string ht h
  have hl : s.data.toList.length = s.size := by cases s; rfl
  exact ⟨s.data.toList, ⟨Nat.le_trans (Nat.le_of_eq hl) hs, by rw [e]⟩, rds_val (str_of s), by simp [Value.oneCell']⟩
theorem rdx_slice {α : Type} {f : α → List C} {R : Rel α} {s : Nat} [hf : Cel f s] (ht : P.underlying t = some (.slice e)) (hc : P.cellsOf e = s) (he : Rdx P e f R) :
    Rdx P t (fun l : List α => [sl f .no l]) (RL R) := fun {H enc W base sp held fuel cs x} h => by
  rcases DataW.trod_slice ht h with ⟨rfl, ex⟩ | ⟨a, len, cap, elems, rest, n, _, rfl, ex, hb, hl, hm, hlen, hel, _, _⟩
  · refine ⟨[], .inl ⟨rfl, by rw [ex]⟩, ?_, by simp [Value.oneCell']⟩
    simp only [RepL]
    refine ⟨_, [], rfl, ?_, rfl⟩
    simp only [sl, Rep]
    exact ⟨none, 0, rfl, Nat.le_refl _, Nat.zero_le _, by simp, .inl rfl⟩
  · have each : ∀ i < len, ∃ b, (∀ y, elems[i]? = some y → R b H y.1) ∧ ∃ cs, W.cells? base (a.add (i * s)) s = some cs ∧ RepL (GW W) (f b) cs ∧ ∀ u ∈ cs, u.oneCell' = true := fun i hi => by
      have h1 := hel i hi
      rw [List.getElem?_eq_getElem (by omega), hc, Option.bind_eq_some_iff] at h1
      obtain ⟨cs, h2, h3⟩ := h1
      obtain ⟨b, h4, h5, h6⟩ := he h3
      exact ⟨b, fun y hy => by rw [List.getElem?_eq_getElem (by omega)] at hy; rw [← Option.some.inj hy]; exact h4, cs, h2, h5, h6⟩
    obtain ⟨l, hll, hlr⟩ := forall_lists len each
    refine ⟨l, .inr ⟨_, _, by rw [ex], by rw [hll]; exact Nat.le_trans hl hm, by rw [List.length_map, hlen, hll], fun i b y hb hy => ?_⟩, ?_, by simp [Value.oneCell']⟩
    · rw [List.getElem?_map] at hy
      cases hq : elems[i]? with
      | none => rw [hq] at hy; cases hy
      | some z =>
        rw [hq] at hy
        obtain rfl := Option.some.inj hy
        exact (hlr i b hb).1 z hq
    simp only [RepL]
    refine ⟨_, [], rfl, ?_, rfl⟩
    simp only [sl, Rep]
    refine ⟨some a, cap, by rw [hll], by omega, hm, by simp, ?_⟩
    by_cases h0 : len = 0
    · left; have : l = [] := by rw [← List.length_eq_zero_iff]; omega
      subst this; rfl
    · right
      have hspot : a = ⟨a.block, a.off, none⟩ := by
        obtain ⟨b, hb⟩ : ∃ b, l[0]? = some b := ⟨_, List.getElem?_eq_getElem (by omega)⟩
        obtain ⟨_, cs, h2, _⟩ := hlr 0 b hb
        have h3 := (World.cells?_some h2).2.2 0 hf.pos
        simp only [Nat.zero_mul] at h3
        have h4 : W.cell? a ≠ none := by
          have : (a.add 0).add 0 = a := by simp [Addr.add]
          rw [this] at h3
          rw [h3]
          have := (World.cells?_some h2).2.1
          intro hq
          have := hf.pos
          have hq2 : cs.length ≤ 0 := by simpa using hq
          omega
        obtain ⟨blk, off, spot⟩ := a
        cases spot with
        | none => rfl
        | some q => simp [World.cell?] at h4; split at h4 <;> simp_all
      refine ⟨a.block, a.off, by rw [← hspot], ?_⟩
      refine RepK.of_get fun k c hk => ?_
      have hkl : k < (cl f l).length := (List.getElem?_eq_some_iff.1 hk).1
      rw [cl_len (f := f)] at hkl
      have hs := hf.pos
      have hdm : k = (k / s) * s + k % s := by rw [Nat.mul_comm]; exact (Nat.div_add_mod k s).symm
      have hml : k % s < s := Nat.mod_lt _ hs
      rw [hdm, cl_getq (f := f) l _ _ hml] at hk
      rw [Option.bind_eq_some_iff] at hk
      obtain ⟨b, hb, hbc⟩ := hk
      obtain ⟨_, cs, h2, h3, h4⟩ := hlr _ b hb
      obtain ⟨u, hu1, hu2⟩ := h3.get _ c hbc
      refine ⟨u, ?_, h4 u (List.mem_of_getElem? hu1), hu2⟩
      have h5 := (World.cells?_some h2).2.2 (k % s) hml
      rw [hu1] at h5
      rw [hspot] at h5
      show W.cell? ⟨a.block, a.off + k, none⟩ = some u
      rw [← h5]
      rw [addr_add2, Nat.add_assoc, ← hdm]
theorem rdx_array {α : Type} {f : α → List C} {R : Rel α} {s n : Nat} [hf : Cel f s] (ht : P.underlying t = some (.array n e)) (hc : P.cellsOf e = s) (hn : P.cellsOf t = n * s) (he : Rdx P e f R) :
    Rdx P t (fun l : List α => cl f l) (RA n R) := fun {H enc W base sp held fuel cs x} h => by
  obtain ⟨xs, m, _, ex, hlen, hxl, hel⟩ := DataW.trod_array ht h
  have each : ∀ i < n, ∃ b, (∀ y, xs[i]? = some y → R b H y.1) ∧ RepL (GW W) (f b) ((cs.drop (i * s)).take s) ∧ ∀ u ∈ (cs.drop (i * s)).take s, u.oneCell' = true := fun i hi => by
    have h1 := hel i hi
    rw [List.getElem?_eq_getElem (by omega), hc] at h1
    obtain ⟨b, h4, h5, h6⟩ := he h1
    exact ⟨b, fun y hy => by rw [List.getElem?_eq_getElem (by omega)] at hy; rw [← Option.some.inj hy]; exact h4, h5, h6⟩
  obtain ⟨l, hll, hlr⟩ := forall_lists n each
  have hcs : cs.length = n * s := by omega
  refine ⟨l, ⟨_, by rw [ex], hll, by rw [List.length_map, hxl], fun i b y hb hy => ?_⟩, ?_, ?_⟩
  · rw [List.getElem?_map] at hy
    cases hq : xs[i]? with
    | none => rw [hq] at hy; cases hy
    | some z =>
      rw [hq] at hy
      obtain rfl := Option.some.inj hy
      exact (hlr i b hb).1 z hq
  · refine RepL.of_get (by rw [cl_len (f := f), hll, hcs]) fun k c v hk hv => ?_
    have hs := hf.pos
    have hdm : k = (k / s) * s + k % s := by rw [Nat.mul_comm]; exact (Nat.div_add_mod k s).symm
    have hml : k % s < s := Nat.mod_lt _ hs
    rw [hdm, cl_getq (f := f) l _ _ hml, Option.bind_eq_some_iff] at hk
    obtain ⟨b, hb, hbc⟩ := hk
    obtain ⟨_, h3, _⟩ := hlr _ b hb
    obtain ⟨u, hu1, hu2⟩ := h3.get _ c hbc
    rw [List.getElem?_take_of_lt hml, List.getElem?_drop, ← hdm, hv] at hu1
    cases hu1
    exact hu2
  · intro u hu
    obtain ⟨k, hk⟩ := List.getElem?_of_mem hu
    have hkl : k < n * s := by have := (List.getElem?_eq_some_iff.1 hk).1; omega
    have hs := hf.pos
    have hdm : k = (k / s) * s + k % s := by rw [Nat.mul_comm]; exact (Nat.div_add_mod k s).symm
    have hml : k % s < s := Nat.mod_lt _ hs
    have hd : k / s < n := Nat.div_lt_of_lt_mul (by rw [Nat.mul_comm]; exact hkl)
    obtain ⟨b, hb⟩ : ∃ b, l[k / s]? = some b := ⟨_, List.getElem?_eq_getElem (by omega)⟩
    refine (hlr _ b hb).2.2 u (List.mem_of_getElem? (i := k % s) ?_)
    rw [List.getElem?_take_of_lt hml, List.getElem?_drop, ← hdm, hk]
end

/-- An argument of a type reads as a shadow value, and as data. -/
def AX (P : Program) (t : TypeId) {α : Type} (g : α → C) (R : Rel α) : Prop :=
  ∀ {H : Type} {enc : TypeId × Value → H} {W : World} {base b0 : Nat} {sp : Nat → Bool} {held : Bool} {v : Value} {d : DataW H} {ps : List MemPlace},
    Value.okWide P W .any b0 t v → DataW.Trod enc P W base sp held t v d ps → ∃ a, R a H d ∧ Rep (GW W) (g a) v
section
variable {P : Program} {t e : TypeId}
theorem ax_one {α : Type} {f : α → List C} {g : α → C} {R : Rel α} (hg : ∀ a, f a = [g a]) (hr : Rdx P t f R) (hu : ∀ u, P.underlying t = some u → (match u with | .struct _ | .array _ _ => False | _ => True)) : AX P t g R := fun {H enc W base b0 sp held v d ps} hval hd => by
  obtain ⟨fuel, hd⟩ := hd
  obtain ⟨a, h1, h2, _⟩ := hr hd
  rw [hg] at h2
  simp only [RepL] at h2
  obtain ⟨u, vs, h3, h4, rfl⟩ := h2
  refine ⟨a, h1, ?_⟩
  cases v with
  | agg cs =>
    exfalso
    unfold Value.okWide at hval
    cases hq : P.underlying t with
    | none => rw [hq] at hval; simp [Cell.okWide, Cell.ok, hq] at hval
    | some u =>
      have := hu u hq
      rw [hq] at hval
      cases u <;> simp_all [Cell.okWide, Cell.ok]
  | _ =>
    simp only [Value.cells, List.cons.injEq, and_true] at h3
    rw [h3]; exact h4
theorem ax_agg {α : Type} {f : α → List C} {R : Rel α} (hr : Rdx P t f R) (hu : ∃ u, P.underlying t = some u ∧ (match u with | .struct _ | .array _ _ => True | _ => False)) : AX P t (fun a => .agg (f a)) R := fun {H enc W base b0 sp held v d ps} hval hd => by
  obtain ⟨fuel, hd⟩ := hd
  obtain ⟨a, h1, h2, h3⟩ := hr hd
  obtain ⟨u, h4, h5⟩ := hu
  have : ∃ cs, v = .agg cs := by
    unfold Value.okWide at hval
    rw [h4] at hval
    cases u <;> simp_all
    · obtain ⟨cs, rfl, _⟩ := hval; exact ⟨cs, rfl⟩
    · obtain ⟨cs, rfl, _⟩ := hval; exact ⟨cs, rfl⟩
  obtain ⟨cs, rfl⟩ := this
  refine ⟨a, h1, ?_⟩
  simp only [Rep]
  exact ⟨cs, rfl, h2, h3⟩
theorem ax_int {s y : Nat} {z : List Value} (h : td P t = some ⟨.int .i64, s, y, z⟩) : AX P t (fun n : Int => .val (.int .i64 n)) RI :=
  ax_one (f := iC) (fun _ => rfl) (rdx_int (td_spec h).1) fun u hu => by rw [(td_spec h).1] at hu; cases hu; trivial
theorem ax_u64 {s y : Nat} {z : List Value} (h : td P t = some ⟨.int .u64, s, y, z⟩) : AX P t (fun n : Nat => .val (nU n)) RU :=
  ax_one (f := uC) (fun _ => rfl) (rdx_u64 (td_spec h).1) fun u hu => by rw [(td_spec h).1] at hu; cases hu; trivial
theorem ax_u8 {s y : Nat} {z : List Value} (h : td P t = some ⟨.int .u8, s, y, z⟩) : AX P t (fun n : UInt8 => .val (w8 n)) RB :=
  ax_one (f := bC) (fun _ => rfl) (rdx_u8 (td_spec h).1) fun u hu => by rw [(td_spec h).1] at hu; cases hu; trivial
theorem ax_str {s y : Nat} {z : List Value} (h : td P t = some ⟨.string, s, y, z⟩) : AX P t (fun n : List UInt8 => .val (str n)) RS :=
  ax_one (f := sC) (fun _ => rfl) (rdx_str (td_spec h).1) fun u hu => by rw [(td_spec h).1] at hu; cases hu; trivial
theorem ax_slice {α : Type} {f : α → List C} {R : Rel α} {s0 s y : Nat} [hf : Cel f s0] {z : List Value} (h : td P t = some ⟨.slice e, s, y, z⟩) (hc : P.cellsOf e = s0) (he : Rdx P e f R) : AX P t (fun l : List α => sl f .no l) (RL R) :=
  ax_one (f := fun l => [sl f .no l]) (fun _ => rfl) (rdx_slice (td_spec h).1 hc he) fun u hu => by rw [(td_spec h).1] at hu; cases hu; trivial
theorem ax_array {α : Type} {f : α → List C} {R : Rel α} {s0 s y n : Nat} [hf : Cel f s0] {z : List Value} (h : td P t = some ⟨.array n e, s, y, z⟩) (hc : P.cellsOf e = s0) (hn : P.cellsOf t = n * s0) (he : Rdx P e f R) : AX P t (fun l : List α => .agg (cl f l)) (RA n R) :=
  ax_agg (f := fun l => cl f l) (rdx_array (td_spec h).1 hc hn he) ⟨_, (td_spec h).1, trivial⟩
end

/-! What the sizes say. -/
theorem reach_lt : reachBytes = 140737488351232 := rfl
section
variable {H : Type} {P : Program} {ts : List TypeId} {ds : List (DataW H)} (h : (DataW.weightsEach P ts ds).all (· ≤ reachBytes) = true)
include h
theorem sz_str {j : Nat} {t : TypeId} {d : DataW H} {s : List UInt8} (ht : ts[j]? = some t) (hd : ds[j]? = some d) (hR : RS s H d) : s.length ≤ 140737488351232 :=
  sized_string h ht (by rw [hd, hR.2])
theorem sz_list {α : Type} {R : Rel α} {j : Nat} {t e : TypeId} {d : DataW H} {l : List α} (ht : ts[j]? = some t) (hd : ds[j]? = some d) (hu : P.underlying t = some (.slice e)) (hb : 1 ≤ P.bytesOf e) (hR : RL R l H d) : l.length ≤ 140737488351232 := by
  rcases hR with ⟨rfl, _⟩ | ⟨elems, spare, rfl, _, h2, _⟩
  · simp
  · have h3 := sized_slice h ht hd hu
    have h4 : (elems.length + spare.length) * 1 ≤ (elems.length + spare.length) * P.bytesOf e := Nat.mul_le_mul_left _ hb
    rw [reach_lt] at h3
    omega
end

/-- How much data holds; as the statements' own count does. -/
structure BulkOK {H : Type} (B : DataW H → Nat) (BA : List (DataW H) → Nat) : Prop where
  one : ∀ d, 1 ≤ B d
  str : ∀ s, B (.lit (.string s)) = s.length + 1
  slice : ∀ e s, B (.slice e s) = BA e + BA s + 1
  agg : ∀ e, B (.agg e) = BA e + 1
  nil : BA [] = 0
  cons : ∀ d r, BA (d :: r) = B d + BA r
section
variable {H : Type} {B : DataW H → Nat} {BA : List (DataW H) → Nat} (hB : BulkOK B BA)
include hB
theorem bk_str {s : List UInt8} {d : DataW H} (hR : RS s H d) : s.length + 1 ≤ B d := by rw [hR.2, hB.str]; exact Nat.le_refl _
theorem bk_list {α : Type} {R : Rel α} (m : α → Nat) (hm : ∀ a d, R a H d → m a ≤ B d) {l : List α} {d : DataW H} (hR : RL R l H d) : (l.map m).sum + 1 ≤ B d := by
  rcases hR with ⟨rfl, _⟩ | ⟨elems, spare, rfl, _, h2, h3⟩
  · simpa using hB.one d
  · rw [hB.slice]
    have key : ∀ (l : List α) (elems : List (DataW H)), elems.length = l.length → (∀ (i : Nat) a x, l[i]? = some a → elems[i]? = some x → R a H x) → (l.map m).sum ≤ BA elems := by
      intro l
      induction l with
      | nil => intro elems _ _; simp
      | cons a l ih =>
        intro elems he hr
        cases elems with
        | nil => simp at he
        | cons x elems =>
          rw [hB.cons, List.map_cons, List.sum_cons]
          have h1 := hm a x (hr 0 a x rfl rfl)
          have h2 := ih elems (by simpa using he) fun i b y hb hy => hr (i + 1) b y (by simpa using hb) (by simpa using hy)
          omega
    have := key l elems h2 h3
    omega
theorem bk_len {α : Type} {R : Rel α} {l : List α} {d : DataW H} (hR : RL R l H d) : l.length + 1 ≤ B d := by
  have := bk_list hB (fun _ => 1) (fun _ d _ => hB.one d) hR
  rw [List.map_const', List.sum_replicate_nat] at this
  omega
end

section
variable {K : Checked} {os : Os} {H : Type} {enc : TypeId × Value → H} {fi : Nat} {fn : Func} {fresh handsOn again : Bool} {gl : Nat → C} {t : TypeId}
theorem trodAll_len {P : Program} {W : World} : ∀ (ts : List TypeId) (vs : List Value) (ds : List (DataW H)) (ps : List MemPlace), DataW.TrodAll enc P W 0 (fun _ => true) true ts vs ds ps → ds.length = ts.length
  | [], vs, ds, ps, h => by cases vs <;> cases ds <;> simp_all [DataW.TrodAll]
  | t :: ts, vs, ds, ps, h => by
    cases vs <;> cases ds <;> simp only [DataW.TrodAll] at h
    obtain ⟨p, q, _, h4, _⟩ := h
    simp [trodAll_len _ _ _ _ h4]
/-- A law whose contract says that it returns true; the sizes are handed on. -/
theorem law_sized (started : os.Started) {a : Assume} {s : ChangeSpec} {laid : List (String × DataW Unit)}
    (own : ownKnob K.prog.godebug = none) (noInit : K.prog.inits.idxOf? fi = none) (hfn : K.prog.funcs[fi]? = some fn)
    (hl : laidOutB K.prog = true) (hm : mapsRowed K.prog = true) (hsl : slicesB K.prog = true) (hps : (fn.params.toList.all fun t => decide (t < K.prog.types.size)) = true)
    (hv : s.vars = []) (hs : ∀ ds : List (DataW H), ds.length = fn.params.size → s.fn H ds = { results := [.lit (.bool true)], args := ds }) (hr : fn.resultTypes = #[t]) (ht : K.prog.underlying t = some .bool)
    (witness : ∃ (w : World) (tape : Tape) (i : Input), w.os = os ∧ (w.forCall tape i).Shaped K.prog ∧ i.vars = [] ∧ Input.okWide K.prog (w.forCall tape i) .any w.heap.size fi i ∧
      ((s.pre enc K.prog fn [] false (w.forCall tape i).memory i.args ∧ laidMetH K.prog laid (w.forCall tape i).memory) ∧ sizedMet enc K.prog fn (OpenSpec.ofChange s) false (w.forCall tape i).memory i.args) ∧ a.holds K.prog (lone (Frame.enter K.prog fi i.args .normal) [] (w.forCall tape i)))
    (hgl : ∀ W, laidMetH K.prog laid W → ∀ g, Rep (GW W) (gl g) (.pointer (some ⟨g, 0, none⟩)))
    (hc : ∀ (W : World) (b0 : Nat) (args : Array Value) (ds : List (DataW H)) (p : List MemPlace), (∀ (j : Nat) t v, fn.params.toList[j]? = some t → args.toList[j]? = some v → Value.okWide K.prog W .any b0 t v) →
      DataW.TrodAll enc K.prog W 0 (fun _ => true) true fn.params.toList args.toList ds p → (DataW.weightsEach K.prog fn.params.toList ds).all (· ≤ reachBytes) = true → ∃ as, RepL (GW W) as args.toList ∧ FC K.prog gl fi as [] (.val (.bool true)) []) :
    ReturnsInHanded a K os fi .any (fun w args => (s.pre enc K.prog fn [] false w args ∧ laidMetH K.prog laid w) ∧ sizedMet enc K.prog fn (OpenSpec.ofChange s) false w args) (s.post enc K.prog fn false fresh handsOn again) := by
  refine returnsInHanded_of_change_and (C := K) (X := fun w _ => laidMetH K.prog laid w) (fun _ _ _ hh h => laidMetH.of_heap hh h) own started noInit hfn witness ?_
  intro W base args ds gs before hval hW _ hsz hL _
  have hW' := hW
  obtain ⟨p, q, h1, h2, rfl, hz, hn⟩ := hW'
  rw [hv] at h2
  obtain ⟨rfl, rfl⟩ := trodVars_none h2
  have hvt : s.plain.varTypes K.prog = [] := by
    show (s.vars.filterMap _) = []
    rw [hv]; rfl
  rw [hvt, List.append_nil, List.append_nil] at hsz
  obtain ⟨as, has, hfc⟩ := hc W base args ds p (fun j t v hj hv => hval j t v (by simpa using hj) (by simpa using hv)) h1 hsz
  refine (hfc.2 (GW W) W args (GW_ok W) (fun g p h => by cases h) (hgl W hL) has).mono ?_
  rintro e W' ⟨v, G', rfl, hrep, _, _, F⟩
  rw [rep_val] at hrep
  subst hrep
  have hold : ∀ g < W.heap.size, W'.heap[g]? = W.heap[g]? := fun g hg => (F.old g hg rfl (fun b h => by cases h)).1
  refine ⟨_, rfl, law_post hl hm hsl (fun t ht => ?_) hW hv (hs ds (by rw [trodAll_len _ _ _ _ h1]; simp)) hr ht F.os F.output hold⟩
  have := List.all_eq_true.1 hps t ht
  simpa using this
/-- A law whose contract says that it returns true, over no listed variables; the sizes are handed on. -/
theorem law_plain (started : os.Started) {a : Assume} {s : ChangeSpec}
    (own : ownKnob K.prog.godebug = none) (noInit : K.prog.inits.idxOf? fi = none) (hfn : K.prog.funcs[fi]? = some fn)
    (hl : laidOutB K.prog = true) (hm : mapsRowed K.prog = true) (hsl : slicesB K.prog = true) (hps : (fn.params.toList.all fun t => decide (t < K.prog.types.size)) = true)
    (hv : s.vars = []) (hs : ∀ ds : List (DataW H), ds.length = fn.params.size → s.fn H ds = { results := [.lit (.bool true)], args := ds }) (hr : fn.resultTypes = #[t]) (ht : K.prog.underlying t = some .bool)
    (witness : ∃ (w : World) (tape : Tape) (i : Input), w.os = os ∧ (w.forCall tape i).Shaped K.prog ∧ i.vars = [] ∧ Input.okWide K.prog (w.forCall tape i) .any w.heap.size fi i ∧
      s.pre6 enc K.prog fn [] false (w.forCall tape i).memory i.args ∧ a.holds K.prog (lone (Frame.enter K.prog fi i.args .normal) [] (w.forCall tape i)))
    (hgl : ∀ W g, Rep (GW W) (gl g) (.pointer (some ⟨g, 0, none⟩)))
    (hc : ∀ (W : World) (b0 : Nat) (args : Array Value) (ds : List (DataW H)) (p : List MemPlace), (∀ (j : Nat) t v, fn.params.toList[j]? = some t → args.toList[j]? = some v → Value.okWide K.prog W .any b0 t v) →
      DataW.TrodAll enc K.prog W 0 (fun _ => true) true fn.params.toList args.toList ds p → (DataW.weightsEach K.prog fn.params.toList ds).all (· ≤ reachBytes) = true → ∃ as, RepL (GW W) as args.toList ∧ FC K.prog gl fi as [] (.val (.bool true)) []) :
    ReturnsInHanded a K os fi .any (s.pre6 enc K.prog fn [] false) (s.post enc K.prog fn false fresh handsOn again) := by
  refine returnsInHanded_of_change_sized (C := K) own started noInit hfn witness ?_
  intro W base args ds gs before hval hW _ hsz _
  have hW' := hW
  obtain ⟨p, q, h1, h2, rfl, hz, hn⟩ := hW'
  rw [hv] at h2
  obtain ⟨rfl, rfl⟩ := trodVars_none h2
  have hvt : s.plain.varTypes K.prog = [] := by
    show (s.vars.filterMap _) = []
    rw [hv]; rfl
  rw [hvt, List.append_nil, List.append_nil] at hsz
  obtain ⟨as, has, hfc⟩ := hc W base args ds p (fun j t v hj hv => hval j t v (by simpa using hj) (by simpa using hv)) h1 hsz
  refine (hfc.2 (GW W) W args (GW_ok W) (fun g p h => by cases h) (hgl W) has).mono ?_
  rintro e W' ⟨v, G', rfl, hrep, _, _, F⟩
  rw [rep_val] at hrep
  subst hrep
  have hold : ∀ g < W.heap.size, W'.heap[g]? = W.heap[g]? := fun g hg => (F.old g hg rfl (fun b h => by cases h)).1
  refine ⟨_, rfl, law_post hl hm hsl (fun t ht => ?_) hW hv (hs ds (by rw [trodAll_len _ _ _ _ h1]; simp)) hr ht F.os F.output hold⟩
  have := List.all_eq_true.1 hps t ht
  simpa using this
/-- The same, of a statement on small arguments. -/
theorem law_cond (started : os.Started) {a : Assume} {s : ChangeSpec} {so : OpenSpec} {k : (H : Type) → List (DataW H) → Bool} (hk : so.cond = some k) {F : Stop.Interp} (hat : so.at F = s) (hsv : so.vars = s.vars)
    (hbt : so.bare.plain.varTypes K.prog = [])
    (own : ownKnob K.prog.godebug = none) (noInit : K.prog.inits.idxOf? fi = none) (hfn : K.prog.funcs[fi]? = some fn)
    (hl : laidOutB K.prog = true) (hm : mapsRowed K.prog = true) (hsl : slicesB K.prog = true) (hps : (fn.params.toList.all fun t => decide (t < K.prog.types.size)) = true)
    (hv : s.vars = []) (hs : ∀ ds : List (DataW H), ds.length = fn.params.size → s.fn H ds = { results := [.lit (.bool true)], args := ds }) (hr : fn.resultTypes = #[t]) (ht : K.prog.underlying t = some .bool)
    (witness : ∃ (w : World) (tape : Tape) (i : Input), w.os = os ∧ (w.forCall tape i).Shaped K.prog ∧ i.vars = [] ∧ Input.okWide K.prog (w.forCall tape i) .any w.heap.size fi i ∧
      so.pre6 enc K.prog fn [] false (w.forCall tape i).memory i.args ∧ a.holds K.prog (lone (Frame.enter K.prog fi i.args .normal) [] (w.forCall tape i)))
    (hgl : ∀ W g, Rep (GW W) (gl g) (.pointer (some ⟨g, 0, none⟩)))
    (hc : ∀ (W : World) (b0 : Nat) (args : Array Value) (ds : List (DataW H)) (p : List MemPlace), (∀ (j : Nat) t v, fn.params.toList[j]? = some t → args.toList[j]? = some v → Value.okWide K.prog W .any b0 t v) →
      DataW.TrodAll enc K.prog W 0 (fun _ => true) true fn.params.toList args.toList ds p → k H ds = true → (DataW.weightsEach K.prog fn.params.toList ds).all (· ≤ reachBytes) = true → ∃ as, RepL (GW W) as args.toList ∧ FC K.prog gl fi as [] (.val (.bool true)) []) :
    ReturnsInHanded a K os fi .any (so.pre6 enc K.prog fn [] false) ((so.at F).post enc K.prog fn false fresh handsOn again) := by
  refine returnsInHanded_of_cond_sized (C := K) hk own started noInit hfn witness ?_
  intro W base args ds gs before hval hW _ hkk hsz _
  rw [hsv] at hW
  have hW' := hW
  obtain ⟨p, q, h1, h2, rfl, hz, hn⟩ := hW'
  rw [hv] at h2
  obtain ⟨rfl, rfl⟩ := trodVars_none h2
  rw [hbt, List.append_nil, List.append_nil] at hsz
  rw [List.append_nil] at hkk
  obtain ⟨as, has, hfc⟩ := hc W base args ds p (fun j t v hj hv => hval j t v (by simpa using hj) (by simpa using hv)) h1 hkk hsz
  refine (hfc.2 (GW W) W args (GW_ok W) (fun g p h => by cases h) (hgl W) has).mono ?_
  rintro e W' ⟨v, G', rfl, hrep, _, _, F'⟩
  rw [rep_val] at hrep
  subst hrep
  have hold : ∀ g < W.heap.size, W'.heap[g]? = W.heap[g]? := fun g hg => (F'.old g hg rfl (fun b h => by cases h)).1
  rw [hat]
  refine ⟨_, rfl, law_post hl hm hsl (fun t ht => ?_) hW hv (hs ds (by rw [trodAll_len _ _ _ _ h1]; simp)) hr ht F'.os F'.output hold⟩
  have := List.all_eq_true.1 hps t ht
  simpa using this
end
end Go.Sx

namespace Go.Sx
open Go.RowKit Go.ChangeShapes Go.WideShapes
theorem weightsAll_in {H : Type} {P : Program} {e : TypeId} : ∀ {l : List (DataW H)} {d : DataW H}, d ∈ l → ∀ n ∈ d.weights P e, n ∈ DataW.weightsAll P e l
  | x :: l, d, h, n, hn => by
    simp only [DataW.weightsAll, List.mem_append]
    rcases List.mem_cons.1 h with rfl | h
    · exact .inl hn
    · exact .inr (weightsAll_in h n hn)
theorem sz_elem {H : Type} {P : Program} {ts : List TypeId} {ds : List (DataW H)} (h : (DataW.weightsEach P ts ds).all (· ≤ reachBytes) = true) {j : Nat} {t e : TypeId} {d : DataW H} {l : List (List UInt8)} (ht : ts[j]? = some t) (hd : ds[j]? = some d) (hu : P.underlying t = some (.slice e)) (hR : RL RS l H d) : ∀ s ∈ l, s.length ≤ 140737488351232 := by
  rcases hR with ⟨rfl, _⟩ | ⟨elems, spare, rfl, _, h2, h3⟩
  · intro s hs; cases hs
  · intro s hs
    obtain ⟨i, hi⟩ := List.getElem?_of_mem hs
    have hl := (List.getElem?_eq_some_iff.1 hi).1
    have hle : i < elems.length := by omega
    have hx := h3 i s _ hi (List.getElem?_eq_getElem hle)
    have hm : s.length ∈ DataW.weightsEach P ts ds := by
      refine DataW.weights_mem_each ht hd _ ?_
      simp only [DataW.weights, hu, List.mem_cons, List.mem_append]
      right; left
      refine weightsAll_in (List.getElem_mem hle) _ ?_
      rw [hx.2]
      simp [DataW.weights]
    have := List.all_eq_true.1 h _ hm
    exact of_decide_eq_true this
theorem flat_bound {α : Type} (B : Nat) : ∀ (x : List (List α)), (∀ s ∈ x, s.length ≤ B) → x.flatten.length ≤ x.length * B
  | [], _ => by simp
  | a :: x, h => by
    rw [List.flatten_cons, List.length_append, List.length_cons, Nat.succ_mul]
    have h1 := h a (by simp)
    have h2 := flat_bound B x fun s hs => h s (by simp [hs])
    omega
end Go.Sx
