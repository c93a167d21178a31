/-
  Package token: the laws of Valid, Words, Folds. And what follows.
-/
import Derived.Test.YtmeplkkhnpcldaaPav
set_option linter.unusedSimpArgs false
set_option linter.unusedVariables false
namespace Go.Sx
open Go.RowKit Go.Proofs
theorem nat30 {pu : Nat → List C → Option C} (h30 : ∀ x y : List Int, x.length < 9223372036854775807 → pu 30 [sl iC .no x, sl iC .no y] = some (.val (.bool (decide (x = y))))) (x y : List Nat) (h : x.length < 9223372036854775807) : pu 30 [sl nC .no x, sl nC .no y] = some (.val (.bool (decide (x = y)))) := by
  have e : ∀ z : List Nat, sl nC .no z = sl iC .no (z.map Int.ofNat) := fun z => by unfold sl; rw [cl_nC_iC, List.length_map]
  rw [e, e, h30 _ _ (by rw [List.length_map]; exact h)]
  congr 3
  rw [decide_eq_decide]
  constructor
  · intro k
    have := congrArg (List.map Int.toNat) k
    rw [List.map_map, List.map_map] at this
    have hid : (Int.toNat ∘ Int.ofNat) = id := funext fun n => rfl
    rwa [hid, List.map_id, List.map_id] at this
  · rintro rfl; rfl
set_option maxRecDepth 100000 in
set_option maxHeartbeats 8000000 in
theorem fc5 {gl : Nat → C} {M : Nat} {pu : Nat → List C → Option C}  (hcx : CxOK (cxP gl M pu)) (h11 : ∀ (l : List Int) (how by' : Int) (raw : List UInt8) (most : Int), LI l → (-9223372036854775808 ≤ how ∧ how ≤ 9223372036854775807) → (-9223372036854775808 ≤ by' ∧ by' ≤ 9223372036854775807) → raw.length ≤ 9223372036854775807 → pu 11 [sl iC .no l, .val (.int .i64 how), .val (.int .i64 by'), .val (str raw), .val (.int .i64 most)] = some (sl sC .no (textsT l how by' raw most))) (h14 : pu 14 [] = some (.val (.bool true))) (h22 : ∀ s : List UInt8, s.length ≤ 1000000 → pu 22 [.val (str s)] = some (.val (str (s.map low)))) (h23 : ∀ s : List UInt8, s.length ≤ 1000000 → pu 23 [.val (str s)] = some (.val (str (s.map low)))) (h24 : ∀ x y : List (List UInt8), x.length < 9223372036854775807 → pu 24 [sl sC .no x, sl sC .no y] = some (.val (.bool (decide (x = y))))) (h25 : ∀ s : List UInt8, s.length ≤ 1000000 → pu 25 [.val (str s)] = some (sl sC (.own 1) (wordsT s))) (h26 : ∀ s : List UInt8, s.length ≤ 1000000 → pu 26 [.val (str s)] = some (sl sC (.own 1) (wordsT s))) (h27 : ∀ x y : List (Nat × Nat), x.length < 9223372036854775807 → pu 27 [sl pC .no x, sl pC .no y] = some (.val (.bool (decide (x = y))))) (h28 : ∀ s : List UInt8, s.length ≤ 1000000 → pu 28 [.val (str s)] = some (sl pC (.own 2) (sents s))) (h29 : ∀ s : List UInt8, s.length ≤ 1000000 → pu 29 [.val (str s)] = some (sl pC (.own 2) (sents s))) (h30 : ∀ x y : List Int, x.length < 9223372036854775807 → pu 30 [sl iC .no x, sl iC .no y] = some (.val (.bool (decide (x = y))))) (h31 : ∀ s : List UInt8, s.length ≤ 1000000 → pu 31 [.val (str s)] = some (sl nC (.own 1) (marksT s))) (h32 : ∀ s : List UInt8, s.length ≤ 1000000 → pu 32 [.val (str s)] = some (sl nC (.own 1) (marksT s))) (l : List Int) (how by' : Int) (raw : List UInt8) (hl : LI l) (hw : -9223372036854775808 ≤ how ∧ how ≤ 9223372036854775807) (hy : -9223372036854775808 ≤ by' ∧ by' ≤ 9223372036854775807) (hraw : raw.length ≤ 9223372036854775807) : FC Try.prog gl 5 [sl iC .no l, .val (.int .i64 how), .val (.int .i64 by'), .val (str raw)] [] (.val (.bool true)) [] := by
 replace hcx := hcx.reN (M := 57)
 refine FC.ofA (cx := cxP gl 57 pu) (rs := [.tmp 8]) rfl Try.func5 rfl rfl rfl (by simp only [List.length_cons, List.length_nil]; decide) (by simp only [go_sem]) ?_
 simp only [ini, go_sem]
 obtain ⟨L, hL6, hL0, hL, e11⟩ : ∃ L : List (List UInt8), L.length ≤ 6 ∧ 0 < L.length ∧ (∀ i, i < L.length → (gt L i).length ≤ 10000) ∧ pu 11 [sl iC .no l, .val (.int .i64 how), .val (.int .i64 by'), .val (str raw), .val (nI 600)] = some (sl sC .no L) :=
   ⟨textsT l how by' raw 600, (texts_le l how by' raw 600 (by decide)).1, (texts_le l how by' raw 600 (by decide)).2.1, (texts_le l how by' raw 600 (by decide)).2.2, h11 l how by' raw 600 hl hw hy hraw⟩
 have hb1 := True.intro
 have h30n : ∀ x y : List Nat, x.length < 9223372036854775807 → pu 30 [sl nC .no x, sl nC .no y] = some (.val (.bool (decide (x = y)))) := nat30 h30
 refine Tr.seqK fun K1 hK1 => ?_
 -- region 0 (law.go:80)
 refine Tr.rg hcx [] _ [] rfl rfl rfl ?_
 simp -implicitDefEqProofs (maxSteps := 2000000) (disch := first | omega | (simp only [go_sem, List.length_append, List.length_drop, List.length_take, hb1] <;> omega) | decide) only [go_sem, ↓reduceIte, Nat.reduceEqDiff, reduceCtorEq, Nat.reduceLT, Nat.reduceBEq, Nat.reduceAdd, Nat.reduceSub, Nat.reduceMul, Nat.reduceMod, Int.reduceMod, Int.reduceToNat, Int.reduceNeg, e11, h14, h22, h23, h25, h26, h24, h28, h29, h27, h31, h32, h30n, eq_self, decide_true, decide_false, not_true_eq_false, not_false_eq_true]
 refine hK1 _ ?_
 clear hK1 K1
 refine Tr.kp [0, 1, 2, 3] ?_
 simp only [pk_cons, pk_nil, ↓A_cons, ↓reduceIte, Nat.reduceEqDiff, reduceCtorEq]
 refine Tr.seqK fun K2 hK2 => ?_
 -- region 1 (law.go:81)
 refine Tr.rg hcx [1000016] _ [] rfl rfl rfl ?_
 simp -implicitDefEqProofs (maxSteps := 2000000) (disch := first | omega | (simp only [go_sem, List.length_append, List.length_drop, List.length_take, hb1] <;> omega) | decide) only [go_sem, ↓reduceIte, Nat.reduceEqDiff, reduceCtorEq, Nat.reduceLT, Nat.reduceBEq, Nat.reduceAdd, Nat.reduceSub, Nat.reduceMul, Nat.reduceMod, Int.reduceMod, Int.reduceToNat, Int.reduceNeg, e11, h14, h22, h23, h25, h26, h24, h28, h29, h27, h31, h32, h30n, eq_self, decide_true, decide_false, not_true_eq_false, not_false_eq_true]
 refine hK2 _ ?_
 clear hK2 K2
 refine Tr.kp [9] ?_
 simp only [pk_cons, pk_nil, ↓A_cons, ↓reduceIte, Nat.reduceEqDiff, reduceCtorEq]
 refine Tr.seqK fun K3 hK3 => ?_
 refine Tr.seqK fun K4 hK4 => ?_
 -- region 2 (law.go:82)
 refine Tr.rg hcx [] _ [] rfl rfl rfl ?_
 simp -implicitDefEqProofs (maxSteps := 2000000) (disch := first | omega | (simp only [go_sem, List.length_append, List.length_drop, List.length_take, hb1] <;> omega) | decide) only [go_sem, ↓reduceIte, Nat.reduceEqDiff, reduceCtorEq, Nat.reduceLT, Nat.reduceBEq, Nat.reduceAdd, Nat.reduceSub, Nat.reduceMul, Nat.reduceMod, Int.reduceMod, Int.reduceToNat, Int.reduceNeg, e11, h14, h22, h23, h25, h26, h24, h28, h29, h27, h31, h32, h30n, eq_self, decide_true, decide_false, not_true_eq_false, not_false_eq_true]
 refine hK4 _ ?_
 clear hK4 K4
 refine Tr.kp [9, 10] ?_
 simp only [pk_cons, pk_nil, ↓A_cons, ↓reduceIte, Nat.reduceEqDiff, reduceCtorEq]
 refine Tr.blk ?_
 refine Tr.loopI (α := Nat) (fun a => [(9, ?v9_36), (10, .val (nI a))]) (fun a => ?h_36) (fun a => a ≤ L.length) (fun a => L.length - a) (0) ?_ ?le_36 ?hh_36 ?bd_36
 case hh_36 => exact rfl
 case le_36 => (simp only [Le_nil, Le_cons, ↓A_cons, ↓reduceIte, Nat.reduceEqDiff, reduceCtorEq, CLe_refl, CLe_top, CLe_full, CLe_nil, CLe_own, and_true, true_and]; all_goals (repeat' first | exact CLe.refl _ | exact True.intro | (refine CLe_sln ?_; first | with_reducible rfl | (simp only [List.take_zero]; done) | (rfl; done)) | exact CLe_nI (by omega) | exact CLe_int (by omega) | exact CLe_inI (by omega) | exact CLe_nIi (by omega) | with_reducible apply And.intro))
 · omega
 case bd_36 =>
  rintro i hi
  refine Tr.seqK fun K5 hK5 => ?_
  refine Tr.seqK fun K6 hK6 => ?_
  -- region 3 (law.go:82)
  refine Tr.rg hcx [] _ [] rfl rfl rfl ?_
  simp -implicitDefEqProofs (maxSteps := 2000000) (disch := first | omega | (simp only [go_sem, List.length_append, List.length_drop, List.length_take, hb1] <;> omega) | decide) only [go_sem, ↓reduceIte, Nat.reduceEqDiff, reduceCtorEq, Nat.reduceLT, Nat.reduceBEq, Nat.reduceAdd, Nat.reduceSub, Nat.reduceMul, Nat.reduceMod, Int.reduceMod, Int.reduceToNat, Int.reduceNeg, e11, h14, h22, h23, h25, h26, h24, h28, h29, h27, h31, h32, h30n, eq_self, decide_true, decide_false, not_true_eq_false, not_false_eq_true]
  refine hK6 _ ?_
  clear hK6 K6
  refine Tr.kp [9, 10, 20] ?_
  simp only [pk_cons, pk_nil, ↓A_cons, ↓reduceIte, Nat.reduceEqDiff, reduceCtorEq]
  refine Tr.condG fun KT KF hT hF => ?_
  simp only [ev_tmp, ev_const, ↓A_cons, ↓reduceIte, Nat.reduceEqDiff, reduceCtorEq, condG_bool, GB_true, GB_false, decide_eq_true_eq]
  refine GB.dec (fun hc20 => hT ?_) (fun hc20 => hF ?_)
  ·
   clear hT hF KT KF
   have hb1 := hL i hc20
   have hb2 := wordsT_len (gt L i)
   have hb3 := sents_len (gt L i)
   have hb4 := marksT_len (gt L i)
   refine Tr.skip ?_
   refine hK5 _ ?_
   clear hK5 K5
   refine Tr.kp [9, 10] ?_
   simp only [pk_cons, pk_nil, ↓A_cons, ↓reduceIte, Nat.reduceEqDiff, reduceCtorEq]
   refine Tr.seqK fun K7 hK7 => ?_
   refine Tr.blk ?_
   refine Tr.seqK fun K8 hK8 => ?_
   -- region 5 (law.go:83)
   refine Tr.rg hcx [1000026] _ [] rfl rfl rfl ?_
   simp -implicitDefEqProofs (maxSteps := 2000000) (disch := first | omega | (simp only [go_sem, List.length_append, List.length_drop, List.length_take, hb1] <;> omega) | decide) only [go_sem, ↓reduceIte, Nat.reduceEqDiff, reduceCtorEq, Nat.reduceLT, Nat.reduceBEq, Nat.reduceAdd, Nat.reduceSub, Nat.reduceMul, Nat.reduceMod, Int.reduceMod, Int.reduceToNat, Int.reduceNeg, e11, h14, h22, h23, h25, h26, h24, h28, h29, h27, h31, h32, h30n, eq_self, decide_true, decide_false, not_true_eq_false, not_false_eq_true]
   refine hK8 _ ?_
   clear hK8 K8
   refine Tr.kp [9, 10, 11] ?_
   simp only [pk_cons, pk_nil, ↓A_cons, ↓reduceIte, Nat.reduceEqDiff, reduceCtorEq]
   refine Tr.seqK fun K9 hK9 => ?_
   -- region 6 (law.go:84)
   refine Tr.rg hcx [] [some 27, some 28, some 29, some 30, some 31, some 32, some 33, some 34, some 35, some 36, some 37, some 38, some 39, some 40, some 41, some 42, some 43, some 44, some 45, some 46, some 47, some 48, some 49, some 50, some 51, some 52, some 53, some 54, some 55] [] rfl rfl rfl ?_
   simp -implicitDefEqProofs (maxSteps := 2000000) (disch := first | omega | (simp only [go_sem, List.length_append, List.length_drop, List.length_take, hb1] <;> omega) | decide) only [go_sem, ↓reduceIte, Nat.reduceEqDiff, reduceCtorEq, Nat.reduceLT, Nat.reduceBEq, Nat.reduceAdd, Nat.reduceSub, Nat.reduceMul, Nat.reduceMod, Int.reduceMod, Int.reduceToNat, Int.reduceNeg, e11, h14, h22, h23, h25, h26, h24, h28, h29, h27, h31, h32, h30n, eq_self, decide_true, decide_false, not_true_eq_false, not_false_eq_true]
   refine hK9 _ ?_
   clear hK9 K9
   refine Tr.kp [9, 10, 55] ?_
   simp only [pk_cons, pk_nil, ↓A_cons, ↓reduceIte, Nat.reduceEqDiff, reduceCtorEq]
   refine Tr.condG fun KT KF hT hF => ?_
   simp only [ev_tmp, ev_const, ↓A_cons, ↓reduceIte, Nat.reduceEqDiff, reduceCtorEq, condG_bool, GB_true, GB_false, decide_eq_true_eq]
   refine hF ?_
   clear hT hF KT KF
   refine Tr.skip ?_
   refine hK7 _ ?_
   clear hK7 K7
   refine Tr.kp [9, 10] ?_
   simp only [pk_cons, pk_nil, ↓A_cons, ↓reduceIte, Nat.reduceEqDiff, reduceCtorEq]
   -- region 4 (law.go:82)
   refine Tr.rg hcx [1000022] _ [] rfl rfl rfl ?_
   simp -implicitDefEqProofs (maxSteps := 2000000) (disch := first | omega | (simp only [go_sem, List.length_append, List.length_drop, List.length_take, hb1] <;> omega) | decide) only [go_sem, ↓reduceIte, Nat.reduceEqDiff, reduceCtorEq, Nat.reduceLT, Nat.reduceBEq, Nat.reduceAdd, Nat.reduceSub, Nat.reduceMul, Nat.reduceMod, Int.reduceMod, Int.reduceToNat, Int.reduceNeg, e11, h14, h22, h23, h25, h26, h24, h28, h29, h27, h31, h32, h30n, eq_self, decide_true, decide_false, not_true_eq_false, not_false_eq_true]
   refine ⟨i + 1, ⟨by omega, by first | omega | (simp only []; omega)⟩, ?_, rfl⟩
   (simp only [Le_nil, Le_cons, ↓A_cons, ↓reduceIte, Nat.reduceEqDiff, reduceCtorEq, CLe_refl, CLe_top, CLe_full, CLe_nil, CLe_own, and_true, true_and]; all_goals (repeat' first | exact CLe.refl _ | exact True.intro | (refine CLe_sln ?_; first | with_reducible rfl | (simp only [List.take_zero]; done) | (rfl; done)) | exact CLe_nI (by omega) | exact CLe_int (by omega) | exact CLe_inI (by omega) | exact CLe_nIi (by omega) | with_reducible apply And.intro))
  ·
   clear hT hF KT KF
   refine Tr.exit ?_
   refine hK3 _ ?_
   clear hK5 K5 hK3 K3
   refine Tr.kp [] ?_
   simp only [pk_cons, pk_nil, ↓A_cons, ↓reduceIte, Nat.reduceEqDiff, reduceCtorEq]
   refine Tr.seqK fun K10 hK10 => ?_
   -- region 8 (law.go:88)
   refine Tr.rg hcx [1000056] _ [] rfl rfl rfl ?_
   simp -implicitDefEqProofs (maxSteps := 2000000) (disch := first | omega | (simp only [go_sem, List.length_append, List.length_drop, List.length_take, hb1] <;> omega) | decide) only [go_sem, ↓reduceIte, Nat.reduceEqDiff, reduceCtorEq, Nat.reduceLT, Nat.reduceBEq, Nat.reduceAdd, Nat.reduceSub, Nat.reduceMul, Nat.reduceMod, Int.reduceMod, Int.reduceToNat, Int.reduceNeg, e11, h14, h22, h23, h25, h26, h24, h28, h29, h27, h31, h32, h30n, eq_self, decide_true, decide_false, not_true_eq_false, not_false_eq_true]
   refine hK10 _ ?_
   clear hK10 K10
   refine Tr.kp [8] ?_
   simp only [pk_cons, pk_nil, ↓A_cons, ↓reduceIte, Nat.reduceEqDiff, reduceCtorEq]
   refine Tr.ret ?_
   simp -implicitDefEqProofs (disch := first | omega | (simp only [go_sem, List.length_append, List.length_drop, List.length_take, hb1] <;> omega) | decide) only [go_sem, ↓reduceIte, Nat.reduceEqDiff, reduceCtorEq]
   all_goals (rfl)
end Go.Sx
namespace Go.Sx
open Go.RowKit Go.Proofs
instance : Inhabited (Int × Int) := ⟨(0, 0)⟩
/-- Pairs of whole numbers. -/
def pI (p : Int × Int) : List C := [.val (.int .i64 p.1), .val (.int .i64 p.2)]
instance : Cel pI 2 := ⟨fun _ => rfl, fun _ => rfl, by decide, fun _ _ => rfl⟩
instance : Fla pI := ⟨fun _ => rfl⟩
end Go.Sx
namespace Go.Sx
open Go.RowKit Go.Proofs
end Go.Sx
namespace Go.Sx
end Go.Sx
namespace Go.Sx
open Go.RowKit Go.Proofs
end Go.Sx
namespace Go.Sx
end Go.Sx
namespace Go.Sx
open Go.RowKit Go.Proofs
end Go.Sx
