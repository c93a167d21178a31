/-
  Package breaks: tokens (K19). And what follows.
-/
import Derived.Test.YtljjjkmiegeocaaPau
import Derived.Test.YtljjjkmiegeocaaPaq
set_option linter.unusedSimpArgs false
set_option linter.unusedVariables false
namespace Go.Sx
open Go.RowKit Go.Proofs
theorem capC_T {c : UInt8} (h1 : UInt8.ofNat 97 ≤ c) (h2 : c ≤ UInt8.ofNat 122) : c - UInt8.ofNat 97 + UInt8.ofNat 65 = capC c := by
  unfold capC; exact (if_pos (c := 97 ≤ c ∧ c ≤ 122) ⟨h1, h2⟩).symm
theorem capC_F {c : UInt8} (h : ¬ (UInt8.ofNat 97 ≤ c ∧ c ≤ UInt8.ofNat 122)) : c = capC c := by
  unfold capC; exact (if_neg h).symm
theorem capT_set {w : List UInt8} (h : 0 < w.length) : w.set 0 (capC (gt w 0)) = capT w := by
  cases w with
  | nil => simp at h
  | cons c r => rfl
theorem capT_F {w : List UInt8} (h : ¬ (UInt8.ofNat 97 ≤ gt w 0 ∧ gt w 0 ≤ UInt8.ofNat 122)) : w = capT w := by
  cases w with
  | nil => rfl
  | cons c r => exact congrArg (fun z => z :: r) (capC_F h)
theorem capT_len (w : List UInt8) : (capT w).length = w.length := by cases w <;> rfl
theorem str_cong {x y : List UInt8} (h : x = y) : (some (C.val (str x))) = some (C.val (str y)) := by rw [h]
set_option maxRecDepth 100000 in
set_option maxHeartbeats 8000000 in
theorem fc46 {gl : Nat → C} {M : Nat} {pu : Nat → List C → Option C}  (hcx : CxOK (cxP gl M pu)) (h30 : ∀ (n : Int) (m : Nat), -9223372036854775808 ≤ n ∧ n ≤ 9223372036854775807 ∧ 0 < m ∧ m ≤ 9223372036854775807 → pu 30 [.val (.int .i64 n), .val (nI m)] = some (.val (nI (aroundI n m)))) (l : List Int) (i m : Nat) (hl : LI l) (hi : i ≤ 1000000) (hm : 0 < m ∧ m ≤ 9223372036854775807) : FC Try.prog gl 46 [sl iC .no l, .val (nI i), .val (nI m)] [] (.val (nI (atI l i m))) [] := by
 replace hcx := hcx.reN (M := 21)
 refine FC.ofA (cx := cxP gl 21 pu) (rs := [.tmp 6]) rfl Try.func46 rfl rfl rfl (by simp only [List.length_cons, List.length_nil]; decide) (by simp only [go_sem]) ?_
 simp only [ini, go_sem]
 have hl1 := hl.1
 refine Tr.seqK fun K1 hK1 => ?_
 refine Tr.rg hcx [] _ [] rfl rfl rfl ?_
 simp -implicitDefEqProofs (maxSteps := 2000000) (disch := first | omega | (simp only [go_sem, List.length_append, List.length_drop, List.length_take] <;> omega) | decide) only [go_sem, ↓reduceIte, Nat.reduceEqDiff, reduceCtorEq, Nat.reduceLT, Nat.reduceBEq, Nat.reduceAdd, Nat.reduceSub, Nat.reduceMul, Nat.reduceMod, h30, Nat.not_lt_zero]
 refine hK1 _ ?_
 clear hK1 K1
 refine Tr.kp [0, 1, 2] ?_
 simp only [pk_cons, pk_nil, ↓A_cons, ↓reduceIte, Nat.reduceEqDiff]
 refine Tr.seqK fun K2 hK2 => ?_
 refine Tr.seqK fun K3 hK3 => ?_
 refine Tr.rg hcx [] [some 7, some 8, some 9, some 10, some 11, some 12, some 13, some 14] [] rfl rfl rfl ?_
 simp -implicitDefEqProofs (maxSteps := 2000000) (disch := first | omega | (simp only [go_sem, List.length_append, List.length_drop, List.length_take] <;> omega) | decide) only [go_sem, ↓reduceIte, Nat.reduceEqDiff, reduceCtorEq, Nat.reduceLT, Nat.reduceBEq, Nat.reduceAdd, Nat.reduceSub, Nat.reduceMul, Nat.reduceMod, h30, Nat.not_lt_zero]
 refine hK3 _ ?_
 clear hK3 K3
 refine Tr.kp [0, 1, 2, 14] ?_
 simp only [pk_cons, pk_nil, ↓A_cons, ↓reduceIte, Nat.reduceEqDiff]
 refine Tr.condG fun KT KF hT hF => ?_
 simp only [ev_tmp, ev_const, ↓A_cons, ↓reduceIte, Nat.reduceEqDiff, reduceCtorEq, condG_bool, GB_true, GB_false, decide_eq_true_eq]
 refine GB.dec (fun hc14 => hT ?_) (fun hc14 => hF ?_)
 ·
  clear hT hF KT KF
  refine Tr.seqK fun K4 hK4 => ?_
  refine Tr.rg hcx [] _ [] rfl rfl rfl ?_
  simp -implicitDefEqProofs (maxSteps := 2000000) (disch := first | omega | (simp only [go_sem, List.length_append, List.length_drop, List.length_take] <;> omega) | decide) only [go_sem, ↓reduceIte, Nat.reduceEqDiff, reduceCtorEq, Nat.reduceLT, Nat.reduceBEq, Nat.reduceAdd, Nat.reduceSub, Nat.reduceMul, Nat.reduceMod, h30, Nat.not_lt_zero]
  refine hK4 _ ?_
  clear hK4 K4
  refine Tr.kp [6] ?_
  simp only [pk_cons, pk_nil, ↓A_cons, ↓reduceIte, Nat.reduceEqDiff]
  refine Tr.ret ?_
  simp -implicitDefEqProofs (disch := first | omega | (simp only [go_sem, List.length_append, List.length_drop, List.length_take] <;> omega) | decide) only [go_sem, ↓reduceIte, Nat.reduceEqDiff, reduceCtorEq]
  all_goals (exact congrArg (fun z => some (C.val (nI z))) (by unfold atI; first | rw [if_pos hc14] | rw [if_neg hc14]))
 ·
  clear hT hF KT KF
  have hb1 := hl.2 i (by omega)
  refine Tr.skip ?_
  refine hK2 _ ?_
  clear hK2 K2
  refine Tr.kp [0, 1, 2] ?_
  simp only [pk_cons, pk_nil, ↓A_cons, ↓reduceIte, Nat.reduceEqDiff]
  refine Tr.seqK fun K5 hK5 => ?_
  refine Tr.rg hcx [1000020] _ [] rfl rfl rfl ?_
  simp -implicitDefEqProofs (maxSteps := 2000000) (disch := first | omega | (simp only [go_sem, List.length_append, List.length_drop, List.length_take] <;> omega) | decide) only [go_sem, ↓reduceIte, Nat.reduceEqDiff, reduceCtorEq, Nat.reduceLT, Nat.reduceBEq, Nat.reduceAdd, Nat.reduceSub, Nat.reduceMul, Nat.reduceMod, h30, Nat.not_lt_zero]
  refine hK5 _ ?_
  clear hK5 K5
  refine Tr.kp [6] ?_
  simp only [pk_cons, pk_nil, ↓A_cons, ↓reduceIte, Nat.reduceEqDiff]
  refine Tr.ret ?_
  simp -implicitDefEqProofs (disch := first | omega | (simp only [go_sem, List.length_append, List.length_drop, List.length_take] <;> omega) | decide) only [go_sem, ↓reduceIte, Nat.reduceEqDiff, reduceCtorEq]
  all_goals (exact congrArg (fun z => some (C.val (nI z))) (by unfold atI; first | rw [if_pos hc14] | rw [if_neg hc14]))
set_option maxRecDepth 100000 in
set_option maxHeartbeats 8000000 in
theorem fc55 {gl : Nat → C} {M : Nat} {pu : Nat → List C → Option C}  (hcx : CxOK (cxP gl M pu)) (w : List UInt8) (hw : w.length ≤ 1000000) : FC Try.prog gl 55 [.val (str w)] [] (.val (str (capT w))) [] := by
 replace hcx := hcx.reN (M := 30)
 refine FC.ofA (cx := cxP gl 30 pu) (rs := [.tmp 2]) rfl Try.func55 rfl rfl rfl (by simp only [List.length_cons, List.length_nil]; decide) (by simp only [go_sem]) ?_
 simp only [ini, go_sem]
 refine Tr.seqK fun K1 hK1 => ?_
 refine Tr.rg hcx [] _ [] rfl rfl rfl ?_
 simp -implicitDefEqProofs (maxSteps := 2000000) (disch := first | omega | (simp only [go_sem, List.length_append, List.length_drop, List.length_take] <;> omega) | decide) only [go_sem, ↓reduceIte, Nat.reduceEqDiff, reduceCtorEq, Nat.reduceLT, Nat.reduceBEq, Nat.reduceAdd, Nat.reduceSub, Nat.reduceMul, Nat.reduceMod, Nat.zero_add, Nat.mul_one, Nat.zero_mul]
 refine hK1 _ ?_
 clear hK1 K1
 refine Tr.kp [0] ?_
 simp only [pk_cons, pk_nil, ↓A_cons, ↓reduceIte, Nat.reduceEqDiff]
 refine Tr.seqK fun K2 hK2 => ?_
 refine Tr.rgG hcx [5] [1000005] _ [] rfl rfl rfl ?_
 simp -implicitDefEqProofs (maxSteps := 2000000) (disch := first | omega | (simp only [go_sem, List.length_append, List.length_drop, List.length_take] <;> omega) | decide) only [go_sem, ↓reduceIte, Nat.reduceEqDiff, reduceCtorEq, Nat.reduceLT, Nat.reduceBEq, Nat.reduceAdd, Nat.reduceSub, Nat.reduceMul, Nat.reduceMod, Nat.zero_add, Nat.mul_one, Nat.zero_mul]
 refine hK2 _ ?_
 clear hK2 K2
 refine Tr.kp [3] ?_
 simp only [pk_cons, pk_nil, ↓A_cons, ↓reduceIte, Nat.reduceEqDiff]
 refine Tr.seqK fun K3 hK3 => ?_
 refine Tr.seqK fun K4 hK4 => ?_
 by_cases b1 : 0 < w.length
 ·
  by_cases b2 : UInt8.ofNat 97 ≤ gt w 0
  ·
   by_cases b3 : gt w 0 ≤ UInt8.ofNat 122
   ·
    refine Tr.rg hcx [] [some 6, some 7, some 8, some 9, some 10, some 11, some 12, some 13, some 14, some 15, some 16, some 17, some 18, some 19, some 20] [] rfl rfl rfl ?_
    simp -implicitDefEqProofs (maxSteps := 2000000) (disch := first | omega | (simp only [go_sem, List.length_append, List.length_drop, List.length_take] <;> omega) | decide) only [go_sem, ↓reduceIte, Nat.reduceEqDiff, reduceCtorEq, Nat.reduceLT, Nat.reduceBEq, Nat.reduceAdd, Nat.reduceSub, Nat.reduceMul, Nat.reduceMod, Nat.zero_add, Nat.mul_one, Nat.zero_mul, b1, b2, b3]
    refine hK4 _ ?_
    clear hK4 K4
    refine Tr.kp [3, 20] ?_
    simp only [pk_cons, pk_nil, ↓A_cons, ↓reduceIte, Nat.reduceEqDiff]
    refine Tr.condG fun KT KF hT hF => ?_
    simp only [ev_tmp, ev_const, ↓A_cons, ↓reduceIte, Nat.reduceEqDiff, reduceCtorEq, condG_bool, GB_true, GB_false, decide_eq_true_eq]
    refine hT ?_
    clear hT hF KT KF
    refine Tr.rg hcx [] _ [] rfl rfl rfl ?_
    simp -implicitDefEqProofs (maxSteps := 2000000) (disch := first | omega | (simp only [go_sem, List.length_append, List.length_drop, List.length_take] <;> omega) | decide) only [go_sem, ↓reduceIte, Nat.reduceEqDiff, reduceCtorEq, Nat.reduceLT, Nat.reduceBEq, Nat.reduceAdd, Nat.reduceSub, Nat.reduceMul, Nat.reduceMod, Nat.zero_add, Nat.mul_one, Nat.zero_mul, b1, b2, b3]
    refine hK3 _ ?_
    clear hK3 K3
    refine Tr.kp [3] ?_
    simp only [pk_cons, pk_nil, ↓A_cons, ↓reduceIte, Nat.reduceEqDiff]
    refine Tr.seqK fun K5 hK5 => ?_
    refine Tr.rg hcx [1000029] _ [] rfl rfl rfl ?_
    simp -implicitDefEqProofs (maxSteps := 2000000) (disch := first | omega | (simp only [go_sem, List.length_append, List.length_drop, List.length_take] <;> omega) | decide) only [go_sem, ↓reduceIte, Nat.reduceEqDiff, reduceCtorEq, Nat.reduceLT, Nat.reduceBEq, Nat.reduceAdd, Nat.reduceSub, Nat.reduceMul, Nat.reduceMod, Nat.zero_add, Nat.mul_one, Nat.zero_mul, b1, b2, b3]
    refine hK5 _ ?_
    clear hK5 K5
    refine Tr.kp [2] ?_
    simp only [pk_cons, pk_nil, ↓A_cons, ↓reduceIte, Nat.reduceEqDiff]
    refine Tr.ret ?_
    simp -implicitDefEqProofs (disch := first | omega | (simp only [go_sem, List.length_append, List.length_drop, List.length_take] <;> omega) | decide) only [go_sem, ↓reduceIte, Nat.reduceEqDiff, reduceCtorEq]
    all_goals (first | exact str_cong (by rw [capC_T b2 b3, capT_set b1, List.take_of_length_le (by rw [capT_len]; exact Nat.le_refl _)]) | exact str_cong (by rw [← capT_F (by intro hh; first | exact b2 hh.1 | exact b3 hh.2), List.take_length]) | exact str_cong (by cases w with | nil => rfl | cons c r => exact absurd (Nat.succ_pos _) b1))
   ·
    refine Tr.rg hcx [] [some 6, some 7, some 8, some 9, some 10, some 11, some 12, some 13, some 14, some 15, some 16, some 17, some 18, some 19, some 20] [] rfl rfl rfl ?_
    simp -implicitDefEqProofs (maxSteps := 2000000) (disch := first | omega | (simp only [go_sem, List.length_append, List.length_drop, List.length_take] <;> omega) | decide) only [go_sem, ↓reduceIte, Nat.reduceEqDiff, reduceCtorEq, Nat.reduceLT, Nat.reduceBEq, Nat.reduceAdd, Nat.reduceSub, Nat.reduceMul, Nat.reduceMod, Nat.zero_add, Nat.mul_one, Nat.zero_mul, b1, b2, b3]
    refine hK4 _ ?_
    clear hK4 K4
    refine Tr.kp [3, 20] ?_
    simp only [pk_cons, pk_nil, ↓A_cons, ↓reduceIte, Nat.reduceEqDiff]
    refine Tr.condG fun KT KF hT hF => ?_
    simp only [ev_tmp, ev_const, ↓A_cons, ↓reduceIte, Nat.reduceEqDiff, reduceCtorEq, condG_bool, GB_true, GB_false, decide_eq_true_eq]
    refine hF ?_
    clear hT hF KT KF
    refine Tr.skip ?_
    refine hK3 _ ?_
    clear hK3 K3
    refine Tr.kp [3] ?_
    simp only [pk_cons, pk_nil, ↓A_cons, ↓reduceIte, Nat.reduceEqDiff]
    refine Tr.seqK fun K6 hK6 => ?_
    refine Tr.rg hcx [1000029] _ [] rfl rfl rfl ?_
    simp -implicitDefEqProofs (maxSteps := 2000000) (disch := first | omega | (simp only [go_sem, List.length_append, List.length_drop, List.length_take] <;> omega) | decide) only [go_sem, ↓reduceIte, Nat.reduceEqDiff, reduceCtorEq, Nat.reduceLT, Nat.reduceBEq, Nat.reduceAdd, Nat.reduceSub, Nat.reduceMul, Nat.reduceMod, Nat.zero_add, Nat.mul_one, Nat.zero_mul, b1, b2, b3]
    refine hK6 _ ?_
    clear hK6 K6
    refine Tr.kp [2] ?_
    simp only [pk_cons, pk_nil, ↓A_cons, ↓reduceIte, Nat.reduceEqDiff]
    refine Tr.ret ?_
    simp -implicitDefEqProofs (disch := first | omega | (simp only [go_sem, List.length_append, List.length_drop, List.length_take] <;> omega) | decide) only [go_sem, ↓reduceIte, Nat.reduceEqDiff, reduceCtorEq]
    all_goals (first | exact str_cong (by rw [capC_T b2 b3, capT_set b1, List.take_of_length_le (by rw [capT_len]; exact Nat.le_refl _)]) | exact str_cong (by rw [← capT_F (by intro hh; first | exact b2 hh.1 | exact b3 hh.2), List.take_length]) | exact str_cong (by cases w with | nil => rfl | cons c r => exact absurd (Nat.succ_pos _) b1))
  ·
   refine Tr.rg hcx [] [some 6, some 7, some 8, some 9, some 10, some 11, some 12, some 13, some 14, some 15, some 16, some 17, some 18, some 19, some 20] [] rfl rfl rfl ?_
   simp -implicitDefEqProofs (maxSteps := 2000000) (disch := first | omega | (simp only [go_sem, List.length_append, List.length_drop, List.length_take] <;> omega) | decide) only [go_sem, ↓reduceIte, Nat.reduceEqDiff, reduceCtorEq, Nat.reduceLT, Nat.reduceBEq, Nat.reduceAdd, Nat.reduceSub, Nat.reduceMul, Nat.reduceMod, Nat.zero_add, Nat.mul_one, Nat.zero_mul, b1, b2]
   refine hK4 _ ?_
   clear hK4 K4
   refine Tr.kp [3, 20] ?_
   simp only [pk_cons, pk_nil, ↓A_cons, ↓reduceIte, Nat.reduceEqDiff]
   refine Tr.condG fun KT KF hT hF => ?_
   simp only [ev_tmp, ev_const, ↓A_cons, ↓reduceIte, Nat.reduceEqDiff, reduceCtorEq, condG_bool, GB_true, GB_false, decide_eq_true_eq]
   refine hF ?_
   clear hT hF KT KF
   refine Tr.skip ?_
   refine hK3 _ ?_
   clear hK3 K3
   refine Tr.kp [3] ?_
   simp only [pk_cons, pk_nil, ↓A_cons, ↓reduceIte, Nat.reduceEqDiff]
   refine Tr.seqK fun K7 hK7 => ?_
   refine Tr.rg hcx [1000029] _ [] rfl rfl rfl ?_
   simp -implicitDefEqProofs (maxSteps := 2000000) (disch := first | omega | (simp only [go_sem, List.length_append, List.length_drop, List.length_take] <;> omega) | decide) only [go_sem, ↓reduceIte, Nat.reduceEqDiff, reduceCtorEq, Nat.reduceLT, Nat.reduceBEq, Nat.reduceAdd, Nat.reduceSub, Nat.reduceMul, Nat.reduceMod, Nat.zero_add, Nat.mul_one, Nat.zero_mul, b1, b2]
   refine hK7 _ ?_
   clear hK7 K7
   refine Tr.kp [2] ?_
   simp only [pk_cons, pk_nil, ↓A_cons, ↓reduceIte, Nat.reduceEqDiff]
   refine Tr.ret ?_
   simp -implicitDefEqProofs (disch := first | omega | (simp only [go_sem, List.length_append, List.length_drop, List.length_take] <;> omega) | decide) only [go_sem, ↓reduceIte, Nat.reduceEqDiff, reduceCtorEq]
   all_goals (first | exact str_cong (by rw [capC_T b2 b3, capT_set b1, List.take_of_length_le (by rw [capT_len]; exact Nat.le_refl _)]) | exact str_cong (by rw [← capT_F (by intro hh; first | exact b2 hh.1 | exact b3 hh.2), List.take_length]) | exact str_cong (by cases w with | nil => rfl | cons c r => exact absurd (Nat.succ_pos _) b1))
 ·
  refine Tr.rg hcx [] [some 6, some 7, some 8, some 9, some 10, some 11, some 12, some 13, some 14, some 15, some 16, some 17, some 18, some 19, some 20] [] rfl rfl rfl ?_
  simp -implicitDefEqProofs (maxSteps := 2000000) (disch := first | omega | (simp only [go_sem, List.length_append, List.length_drop, List.length_take] <;> omega) | decide) only [go_sem, ↓reduceIte, Nat.reduceEqDiff, reduceCtorEq, Nat.reduceLT, Nat.reduceBEq, Nat.reduceAdd, Nat.reduceSub, Nat.reduceMul, Nat.reduceMod, Nat.zero_add, Nat.mul_one, Nat.zero_mul, b1]
  refine hK4 _ ?_
  clear hK4 K4
  refine Tr.kp [3, 20] ?_
  simp only [pk_cons, pk_nil, ↓A_cons, ↓reduceIte, Nat.reduceEqDiff]
  refine Tr.condG fun KT KF hT hF => ?_
  simp only [ev_tmp, ev_const, ↓A_cons, ↓reduceIte, Nat.reduceEqDiff, reduceCtorEq, condG_bool, GB_true, GB_false, decide_eq_true_eq]
  refine hF ?_
  clear hT hF KT KF
  refine Tr.skip ?_
  refine hK3 _ ?_
  clear hK3 K3
  refine Tr.kp [3] ?_
  simp only [pk_cons, pk_nil, ↓A_cons, ↓reduceIte, Nat.reduceEqDiff]
  refine Tr.seqK fun K8 hK8 => ?_
  refine Tr.rg hcx [1000029] _ [] rfl rfl rfl ?_
  simp -implicitDefEqProofs (maxSteps := 2000000) (disch := first | omega | (simp only [go_sem, List.length_append, List.length_drop, List.length_take] <;> omega) | decide) only [go_sem, ↓reduceIte, Nat.reduceEqDiff, reduceCtorEq, Nat.reduceLT, Nat.reduceBEq, Nat.reduceAdd, Nat.reduceSub, Nat.reduceMul, Nat.reduceMod, Nat.zero_add, Nat.mul_one, Nat.zero_mul, b1]
  refine hK8 _ ?_
  clear hK8 K8
  refine Tr.kp [2] ?_
  simp only [pk_cons, pk_nil, ↓A_cons, ↓reduceIte, Nat.reduceEqDiff]
  refine Tr.ret ?_
  simp -implicitDefEqProofs (disch := first | omega | (simp only [go_sem, List.length_append, List.length_drop, List.length_take] <;> omega) | decide) only [go_sem, ↓reduceIte, Nat.reduceEqDiff, reduceCtorEq]
  all_goals (first | exact str_cong (by rw [capC_T b2 b3, capT_set b1, List.take_of_length_le (by rw [capT_len]; exact Nat.le_refl _)]) | exact str_cong (by rw [← capT_F (by intro hh; first | exact b2 hh.1 | exact b3 hh.2), List.take_length]) | exact str_cong (by cases w with | nil => rfl | cons c r => exact absurd (Nat.succ_pos _) b1))
set_option maxRecDepth 100000 in
set_option maxHeartbeats 8000000 in
theorem fc47 {gl : Nat → C} {M : Nat} {pu : Nat → List C → Option C}  (hcx : CxOK (cxP gl M pu)) (h55 : ∀ w : List UInt8, w.length ≤ 1000000 → pu 55 [.val (str w)] = some (.val (str (capT w)))) (w : List UInt8) (n : Nat) (hw : w.length ≤ 1000000) (hn : n ≤ 1000000) : FC Try.prog gl 47 [.val (str w), .val (nI n)] [] (.val (str (dresT w n))) [] := by
 replace hcx := hcx.reN (M := 33)
 refine FC.ofA (cx := cxP gl 33 pu) (rs := [.tmp 4]) rfl Try.func47 rfl rfl rfl (by simp only [List.length_cons, List.length_nil]; decide) (by simp only [go_sem]) ?_
 simp only [ini, go_sem]
 refine Tr.seqK fun K1 hK1 => ?_
 refine Tr.rg hcx [] _ [] rfl rfl rfl ?_
 simp -implicitDefEqProofs (maxSteps := 2000000) (disch := first | omega | (simp only [go_sem, List.length_append, List.length_drop, List.length_take, capT_len] <;> omega) | decide) only [go_sem, ↓reduceIte, Nat.reduceEqDiff, reduceCtorEq, Nat.reduceLT, Nat.reduceBEq, Nat.reduceAdd, Nat.reduceSub, Nat.reduceMul, Nat.reduceMod, h55]
 refine hK1 _ ?_
 clear hK1 K1
 refine Tr.kp [0, 1] ?_
 simp only [pk_cons, pk_nil, ↓A_cons, ↓reduceIte, Nat.reduceEqDiff]
 refine Tr.seqK fun K2 hK2 => ?_
 refine Tr.seqK fun K3 hK3 => ?_
 refine Tr.rg hcx [] _ [] rfl rfl rfl ?_
 simp -implicitDefEqProofs (maxSteps := 2000000) (disch := first | omega | (simp only [go_sem, List.length_append, List.length_drop, List.length_take, capT_len] <;> omega) | decide) only [go_sem, ↓reduceIte, Nat.reduceEqDiff, reduceCtorEq, Nat.reduceLT, Nat.reduceBEq, Nat.reduceAdd, Nat.reduceSub, Nat.reduceMul, Nat.reduceMod, h55]
 refine hK3 _ ?_
 clear hK3 K3
 refine Tr.kp [0, 5] ?_
 simp only [pk_cons, pk_nil, ↓A_cons, ↓reduceIte, Nat.reduceEqDiff]
 refine Tr.blk ?_
 refine Tr.seqK fun K4 hK4 => ?_
 refine Tr.rg hcx [1000007] _ [] rfl rfl rfl ?_
 simp -implicitDefEqProofs (maxSteps := 2000000) (disch := first | omega | (simp only [go_sem, List.length_append, List.length_drop, List.length_take, capT_len] <;> omega) | decide) only [go_sem, ↓reduceIte, Nat.reduceEqDiff, reduceCtorEq, Nat.reduceLT, Nat.reduceBEq, Nat.reduceAdd, Nat.reduceSub, Nat.reduceMul, Nat.reduceMod, h55]
 refine hK4 _ ?_
 clear hK4 K4
 refine Tr.kp [0, 5, 6] ?_
 simp only [pk_cons, pk_nil, ↓A_cons, ↓reduceIte, Nat.reduceEqDiff]
 refine Tr.condG fun KT KF hT hF => ?_
 simp only [ev_tmp, ev_const, ↓A_cons, ↓reduceIte, Nat.reduceEqDiff, reduceCtorEq, condG_bool, GB_true, GB_false, decide_eq_true_eq]
 refine GB.dec (fun hc6 => hT ?_) (fun hc6 => hF ?_)
 ·
  clear hT hF KT KF
  refine Tr.seqK fun K5 hK5 => ?_
  refine Tr.rg hcx [1000009] _ [] rfl rfl rfl ?_
  simp -implicitDefEqProofs (maxSteps := 2000000) (disch := first | omega | (simp only [go_sem, List.length_append, List.length_drop, List.length_take, capT_len] <;> omega) | decide) only [go_sem, ↓reduceIte, Nat.reduceEqDiff, reduceCtorEq, Nat.reduceLT, Nat.reduceBEq, Nat.reduceAdd, Nat.reduceSub, Nat.reduceMul, Nat.reduceMod, h55]
  refine hK5 _ ?_
  clear hK5 K5
  refine Tr.kp [4] ?_
  simp only [pk_cons, pk_nil, ↓A_cons, ↓reduceIte, Nat.reduceEqDiff]
  refine Tr.ret ?_
  simp -implicitDefEqProofs (disch := first | omega | (simp only [go_sem, List.length_append, List.length_drop, List.length_take, capT_len] <;> omega) | decide) only [go_sem, ↓reduceIte, Nat.reduceEqDiff, reduceCtorEq]
  all_goals (exact str_cong (by unfold dresT; simp_all))
 ·
  clear hT hF KT KF
  refine Tr.seqK fun K6 hK6 => ?_
  refine Tr.rg hcx [1000011] _ [] rfl rfl rfl ?_
  simp -implicitDefEqProofs (maxSteps := 2000000) (disch := first | omega | (simp only [go_sem, List.length_append, List.length_drop, List.length_take, capT_len] <;> omega) | decide) only [go_sem, ↓reduceIte, Nat.reduceEqDiff, reduceCtorEq, Nat.reduceLT, Nat.reduceBEq, Nat.reduceAdd, Nat.reduceSub, Nat.reduceMul, Nat.reduceMod, h55]
  refine hK6 _ ?_
  clear hK6 K6
  refine Tr.kp [0, 5, 10] ?_
  simp only [pk_cons, pk_nil, ↓A_cons, ↓reduceIte, Nat.reduceEqDiff]
  refine Tr.condG fun KT KF hT hF => ?_
  simp only [ev_tmp, ev_const, ↓A_cons, ↓reduceIte, Nat.reduceEqDiff, reduceCtorEq, condG_bool, GB_true, GB_false, decide_eq_true_eq]
  refine GB.dec (fun hc10 => hT ?_) (fun hc10 => hF ?_)
  ·
   clear hT hF KT KF
   refine Tr.seqK fun K7 hK7 => ?_
   refine Tr.rg hcx [1000013] _ [] rfl rfl rfl ?_
   simp -implicitDefEqProofs (maxSteps := 2000000) (disch := first | omega | (simp only [go_sem, List.length_append, List.length_drop, List.length_take, capT_len] <;> omega) | decide) only [go_sem, ↓reduceIte, Nat.reduceEqDiff, reduceCtorEq, Nat.reduceLT, Nat.reduceBEq, Nat.reduceAdd, Nat.reduceSub, Nat.reduceMul, Nat.reduceMod, h55]
   refine hK7 _ ?_
   clear hK7 K7
   refine Tr.kp [4] ?_
   simp only [pk_cons, pk_nil, ↓A_cons, ↓reduceIte, Nat.reduceEqDiff]
   refine Tr.ret ?_
   simp -implicitDefEqProofs (disch := first | omega | (simp only [go_sem, List.length_append, List.length_drop, List.length_take, capT_len] <;> omega) | decide) only [go_sem, ↓reduceIte, Nat.reduceEqDiff, reduceCtorEq]
   all_goals (exact str_cong (by unfold dresT; simp_all))
  ·
   clear hT hF KT KF
   refine Tr.seqK fun K8 hK8 => ?_
   refine Tr.rg hcx [1000015] _ [] rfl rfl rfl ?_
   simp -implicitDefEqProofs (maxSteps := 2000000) (disch := first | omega | (simp only [go_sem, List.length_append, List.length_drop, List.length_take, capT_len] <;> omega) | decide) only [go_sem, ↓reduceIte, Nat.reduceEqDiff, reduceCtorEq, Nat.reduceLT, Nat.reduceBEq, Nat.reduceAdd, Nat.reduceSub, Nat.reduceMul, Nat.reduceMod, h55]
   refine hK8 _ ?_
   clear hK8 K8
   refine Tr.kp [0, 5, 14] ?_
   simp only [pk_cons, pk_nil, ↓A_cons, ↓reduceIte, Nat.reduceEqDiff]
   refine Tr.condG fun KT KF hT hF => ?_
   simp only [ev_tmp, ev_const, ↓A_cons, ↓reduceIte, Nat.reduceEqDiff, reduceCtorEq, condG_bool, GB_true, GB_false, decide_eq_true_eq]
   refine GB.dec (fun hc14 => hT ?_) (fun hc14 => hF ?_)
   ·
    clear hT hF KT KF
    refine Tr.seqK fun K9 hK9 => ?_
    refine Tr.rg hcx [1000017] _ [] rfl rfl rfl ?_
    simp -implicitDefEqProofs (maxSteps := 2000000) (disch := first | omega | (simp only [go_sem, List.length_append, List.length_drop, List.length_take, capT_len] <;> omega) | decide) only [go_sem, ↓reduceIte, Nat.reduceEqDiff, reduceCtorEq, Nat.reduceLT, Nat.reduceBEq, Nat.reduceAdd, Nat.reduceSub, Nat.reduceMul, Nat.reduceMod, h55]
    refine hK9 _ ?_
    clear hK9 K9
    refine Tr.kp [4] ?_
    simp only [pk_cons, pk_nil, ↓A_cons, ↓reduceIte, Nat.reduceEqDiff]
    refine Tr.ret ?_
    simp -implicitDefEqProofs (disch := first | omega | (simp only [go_sem, List.length_append, List.length_drop, List.length_take, capT_len] <;> omega) | decide) only [go_sem, ↓reduceIte, Nat.reduceEqDiff, reduceCtorEq]
    all_goals (exact str_cong (by unfold dresT; simp_all))
   ·
    clear hT hF KT KF
    refine Tr.seqK fun K10 hK10 => ?_
    refine Tr.rg hcx [1000019] _ [] rfl rfl rfl ?_
    simp -implicitDefEqProofs (maxSteps := 2000000) (disch := first | omega | (simp only [go_sem, List.length_append, List.length_drop, List.length_take, capT_len] <;> omega) | decide) only [go_sem, ↓reduceIte, Nat.reduceEqDiff, reduceCtorEq, Nat.reduceLT, Nat.reduceBEq, Nat.reduceAdd, Nat.reduceSub, Nat.reduceMul, Nat.reduceMod, h55]
    refine hK10 _ ?_
    clear hK10 K10
    refine Tr.kp [0, 5, 18] ?_
    simp only [pk_cons, pk_nil, ↓A_cons, ↓reduceIte, Nat.reduceEqDiff]
    refine Tr.condG fun KT KF hT hF => ?_
    simp only [ev_tmp, ev_const, ↓A_cons, ↓reduceIte, Nat.reduceEqDiff, reduceCtorEq, condG_bool, GB_true, GB_false, decide_eq_true_eq]
    refine GB.dec (fun hc18 => hT ?_) (fun hc18 => hF ?_)
    ·
     clear hT hF KT KF
     refine Tr.seqK fun K11 hK11 => ?_
     refine Tr.rg hcx [1000022] _ [] rfl rfl rfl ?_
     simp -implicitDefEqProofs (maxSteps := 2000000) (disch := first | omega | (simp only [go_sem, List.length_append, List.length_drop, List.length_take, capT_len] <;> omega) | decide) only [go_sem, ↓reduceIte, Nat.reduceEqDiff, reduceCtorEq, Nat.reduceLT, Nat.reduceBEq, Nat.reduceAdd, Nat.reduceSub, Nat.reduceMul, Nat.reduceMod, h55]
     refine hK11 _ ?_
     clear hK11 K11
     refine Tr.kp [4] ?_
     simp only [pk_cons, pk_nil, ↓A_cons, ↓reduceIte, Nat.reduceEqDiff]
     refine Tr.ret ?_
     simp -implicitDefEqProofs (disch := first | omega | (simp only [go_sem, List.length_append, List.length_drop, List.length_take, capT_len] <;> omega) | decide) only [go_sem, ↓reduceIte, Nat.reduceEqDiff, reduceCtorEq]
     all_goals (exact str_cong (by unfold dresT; simp_all))
    ·
     clear hT hF KT KF
     refine Tr.seqK fun K12 hK12 => ?_
     refine Tr.rg hcx [1000024] _ [] rfl rfl rfl ?_
     simp -implicitDefEqProofs (maxSteps := 2000000) (disch := first | omega | (simp only [go_sem, List.length_append, List.length_drop, List.length_take, capT_len] <;> omega) | decide) only [go_sem, ↓reduceIte, Nat.reduceEqDiff, reduceCtorEq, Nat.reduceLT, Nat.reduceBEq, Nat.reduceAdd, Nat.reduceSub, Nat.reduceMul, Nat.reduceMod, h55]
     refine hK12 _ ?_
     clear hK12 K12
     refine Tr.kp [0, 5, 23] ?_
     simp only [pk_cons, pk_nil, ↓A_cons, ↓reduceIte, Nat.reduceEqDiff]
     refine Tr.condG fun KT KF hT hF => ?_
     simp only [ev_tmp, ev_const, ↓A_cons, ↓reduceIte, Nat.reduceEqDiff, reduceCtorEq, condG_bool, GB_true, GB_false, decide_eq_true_eq]
     refine GB.dec (fun hc23 => hT ?_) (fun hc23 => hF ?_)
     ·
      clear hT hF KT KF
      refine Tr.seqK fun K13 hK13 => ?_
      refine Tr.rg hcx [1000027] _ [] rfl rfl rfl ?_
      simp -implicitDefEqProofs (maxSteps := 2000000) (disch := first | omega | (simp only [go_sem, List.length_append, List.length_drop, List.length_take, capT_len] <;> omega) | decide) only [go_sem, ↓reduceIte, Nat.reduceEqDiff, reduceCtorEq, Nat.reduceLT, Nat.reduceBEq, Nat.reduceAdd, Nat.reduceSub, Nat.reduceMul, Nat.reduceMod, h55]
      refine hK13 _ ?_
      clear hK13 K13
      refine Tr.kp [4] ?_
      simp only [pk_cons, pk_nil, ↓A_cons, ↓reduceIte, Nat.reduceEqDiff]
      refine Tr.ret ?_
      simp -implicitDefEqProofs (disch := first | omega | (simp only [go_sem, List.length_append, List.length_drop, List.length_take, capT_len] <;> omega) | decide) only [go_sem, ↓reduceIte, Nat.reduceEqDiff, reduceCtorEq]
      all_goals (exact str_cong (by unfold dresT; simp_all))
     ·
      clear hT hF KT KF
      refine Tr.seqK fun K14 hK14 => ?_
      refine Tr.rg hcx [1000029] _ [] rfl rfl rfl ?_
      simp -implicitDefEqProofs (maxSteps := 2000000) (disch := first | omega | (simp only [go_sem, List.length_append, List.length_drop, List.length_take, capT_len] <;> omega) | decide) only [go_sem, ↓reduceIte, Nat.reduceEqDiff, reduceCtorEq, Nat.reduceLT, Nat.reduceBEq, Nat.reduceAdd, Nat.reduceSub, Nat.reduceMul, Nat.reduceMod, h55]
      refine hK14 _ ?_
      clear hK14 K14
      refine Tr.kp [0, 28] ?_
      simp only [pk_cons, pk_nil, ↓A_cons, ↓reduceIte, Nat.reduceEqDiff]
      refine Tr.condG fun KT KF hT hF => ?_
      simp only [ev_tmp, ev_const, ↓A_cons, ↓reduceIte, Nat.reduceEqDiff, reduceCtorEq, condG_bool, GB_true, GB_false, decide_eq_true_eq]
      refine GB.dec (fun hc28 => hT ?_) (fun hc28 => hF ?_)
      ·
       clear hT hF KT KF
       refine Tr.seqK fun K15 hK15 => ?_
       refine Tr.rg hcx [1000031] _ [] rfl rfl rfl ?_
       simp -implicitDefEqProofs (maxSteps := 2000000) (disch := first | omega | (simp only [go_sem, List.length_append, List.length_drop, List.length_take, capT_len] <;> omega) | decide) only [go_sem, ↓reduceIte, Nat.reduceEqDiff, reduceCtorEq, Nat.reduceLT, Nat.reduceBEq, Nat.reduceAdd, Nat.reduceSub, Nat.reduceMul, Nat.reduceMod, h55]
       refine hK15 _ ?_
       clear hK15 K15
       refine Tr.kp [4] ?_
       simp only [pk_cons, pk_nil, ↓A_cons, ↓reduceIte, Nat.reduceEqDiff]
       refine Tr.ret ?_
       simp -implicitDefEqProofs (disch := first | omega | (simp only [go_sem, List.length_append, List.length_drop, List.length_take, capT_len] <;> omega) | decide) only [go_sem, ↓reduceIte, Nat.reduceEqDiff, reduceCtorEq]
       all_goals (exact str_cong (by unfold dresT; simp_all))
      ·
       clear hT hF KT KF
       refine Tr.skip ?_
       refine hK2 _ ?_
       clear hK2 K2
       refine Tr.kp [0] ?_
       simp only [pk_cons, pk_nil, ↓A_cons, ↓reduceIte, Nat.reduceEqDiff]
       refine Tr.seqK fun K16 hK16 => ?_
       refine Tr.rg hcx [1000032] _ [] rfl rfl rfl ?_
       simp -implicitDefEqProofs (maxSteps := 2000000) (disch := first | omega | (simp only [go_sem, List.length_append, List.length_drop, List.length_take, capT_len] <;> omega) | decide) only [go_sem, ↓reduceIte, Nat.reduceEqDiff, reduceCtorEq, Nat.reduceLT, Nat.reduceBEq, Nat.reduceAdd, Nat.reduceSub, Nat.reduceMul, Nat.reduceMod, h55]
       refine hK16 _ ?_
       clear hK16 K16
       refine Tr.kp [4] ?_
       simp only [pk_cons, pk_nil, ↓A_cons, ↓reduceIte, Nat.reduceEqDiff]
       refine Tr.ret ?_
       simp -implicitDefEqProofs (disch := first | omega | (simp only [go_sem, List.length_append, List.length_drop, List.length_take, capT_len] <;> omega) | decide) only [go_sem, ↓reduceIte, Nat.reduceEqDiff, reduceCtorEq]
       all_goals (exact str_cong (by unfold dresT; simp_all))
end Go.Sx
namespace Go.Sx
open Go.RowKit Go.Proofs
theorem wl_len (i : Nat) : (gt wlist i).length ≤ 4 := by
  by_cases h : i < 9
  · have := gt_all wlist (fun c => decide (c.length ≤ 4)) (by decide) i h
    simpa using this
  · have e : gt wlist i = [] := by
      unfold gt List.getD; rw [List.getElem?_eq_none (by show 9 ≤ i; omega)]; rfl
    rw [e]; decide
theorem wlist_mk : sl sC .full ((((((((((List.replicate 9 []).set 0 [97, 110, 110, 97]).set 1 [114, 111, 109, 101]).set 2 [107, 105, 110, 103]).set 3 [116, 104, 101]).set 4 [111, 102]).set 5 [111, 100, 101]).set 6 [108, 121, 114, 101]).set 7 [120]).set 8 [49, 50]) = sl sC .full wlist := rfl
theorem wlist_ln : wlist.length = 9 := rfl
theorem textR_T (l : List Int) (k i : Nat) (h : 0 < i) : textR l k (i + 1) = textR l k i ++ [32] ++ uniT (atI l (k + 1 + i) 108) := by rw [textR, if_pos h]
theorem textR_F (l : List Int) (k i : Nat) (h : ¬ 0 < i) : textR l k (i + 1) = textR l k i ++ uniT (atI l (k + 1 + i) 108) := by rw [textR, if_neg h]
theorem dres_len (w : List UInt8) (n : Nat) : (dresT w n).length ≤ w.length + 2 := by
  unfold dresT
  repeat' split
  all_goals (try simp only [List.length_append, List.length_cons, List.length_nil, capT_len])
  all_goals omega
set_option maxRecDepth 100000 in
set_option maxHeartbeats 8000000 in
theorem fc31 {gl : Nat → C} {M : Nat} {pu : Nat → List C → Option C}  (hcx : CxOK (cxP gl M pu)) (h46 : ∀ (l : List Int) (i m : Nat), LI l → i ≤ 1000000 ∧ 0 < m ∧ m ≤ 9223372036854775807 → pu 46 [sl iC .no l, .val (nI i), .val (nI m)] = some (.val (nI (atI l i m)))) (h47 : ∀ (w : List UInt8) (n : Nat), w.length ≤ 1000000 ∧ n ≤ 1000000 → pu 47 [.val (str w), .val (nI n)] = some (.val (str (dresT w n)))) (l : List Int) (k : Nat) (hl : LI l) (hk : k ≤ 1000) : FC Try.prog gl 31 [sl iC .no l, .val (nI k)] [] (.val (str (textT l k))) [] := by
 replace hcx := hcx.reN (M := 41)
 refine FC.ofA (cx := cxP gl 41 pu) (rs := [.tmp 4]) rfl Try.func31 rfl rfl rfl (by simp only [List.length_cons, List.length_nil]; decide) (by simp only [go_sem]) ?_
 simp only [ini, go_sem]
 have h46' := fun i m => h46 l i m hl
 have hb0 := atI_lt l k (m := 9) (by decide)
 have hb1 := True.intro
 refine Tr.seqK fun K1 hK1 => ?_
 refine Tr.rg hcx [] _ [] rfl rfl rfl ?_
 simp -implicitDefEqProofs (maxSteps := 2000000) (disch := first | omega | (simp only [go_sem, List.length_append, List.length_drop, List.length_take, hb1, wlist_ln] <;> omega) | decide) only [go_sem, ↓reduceIte, Nat.reduceEqDiff, reduceCtorEq, Nat.reduceLT, Nat.reduceBEq, Nat.reduceAdd, Nat.reduceSub, Nat.reduceMul, Nat.reduceMod, h46', h47, wlist_mk]
 refine hK1 _ ?_
 clear hK1 K1
 refine Tr.kp [0, 1] ?_
 simp only [pk_cons, pk_nil, ↓A_cons, ↓reduceIte, Nat.reduceEqDiff]
 refine Tr.seqK fun K2 hK2 => ?_
 refine Tr.rg hcx [1000010] _ [] rfl rfl rfl ?_
 simp -implicitDefEqProofs (maxSteps := 2000000) (disch := first | omega | (simp only [go_sem, List.length_append, List.length_drop, List.length_take, hb1, wlist_ln] <;> omega) | decide) only [go_sem, ↓reduceIte, Nat.reduceEqDiff, reduceCtorEq, Nat.reduceLT, Nat.reduceBEq, Nat.reduceAdd, Nat.reduceSub, Nat.reduceMul, Nat.reduceMod, h46', h47, wlist_mk]
 refine hK2 _ ?_
 clear hK2 K2
 refine Tr.kp [0, 1, 5] ?_
 simp only [pk_cons, pk_nil, ↓A_cons, ↓reduceIte, Nat.reduceEqDiff]
 refine Tr.seqK fun K3 hK3 => ?_
 refine Tr.rg hcx [] _ [] rfl rfl rfl ?_
 simp -implicitDefEqProofs (maxSteps := 2000000) (disch := first | omega | (simp only [go_sem, List.length_append, List.length_drop, List.length_take, hb1, wlist_ln] <;> omega) | decide) only [go_sem, ↓reduceIte, Nat.reduceEqDiff, reduceCtorEq, Nat.reduceLT, Nat.reduceBEq, Nat.reduceAdd, Nat.reduceSub, Nat.reduceMul, Nat.reduceMod, h46', h47, wlist_mk]
 refine hK3 _ ?_
 clear hK3 K3
 refine Tr.kp [0, 1, 5, 6] ?_
 simp only [pk_cons, pk_nil, ↓A_cons, ↓reduceIte, Nat.reduceEqDiff]
 refine Tr.seqK fun K4 hK4 => ?_
 refine Tr.seqK fun K5 hK5 => ?_
 refine Tr.rg hcx [] _ [] rfl rfl rfl ?_
 simp -implicitDefEqProofs (maxSteps := 2000000) (disch := first | omega | (simp only [go_sem, List.length_append, List.length_drop, List.length_take, hb1, wlist_ln] <;> omega) | decide) only [go_sem, ↓reduceIte, Nat.reduceEqDiff, reduceCtorEq, Nat.reduceLT, Nat.reduceBEq, Nat.reduceAdd, Nat.reduceSub, Nat.reduceMul, Nat.reduceMod, h46', h47, wlist_mk]
 refine hK5 _ ?_
 clear hK5 K5
 refine Tr.kp [0, 1, 5, 6, 7] ?_
 simp only [pk_cons, pk_nil, ↓A_cons, ↓reduceIte, Nat.reduceEqDiff]
 refine Tr.blk ?_
 refine Tr.loopI (α := Nat) (fun a => [(0, ?v0_28), (1, ?v1_28), (5, ?v5_28), (6, .val (str (textR l k a))), (7, .val (nI a))]) (fun a => ?h_28) (fun a => a ≤ 1 + atI l k 9) (fun a => 1 + atI l k 9 - a) (0) ?_ ?le_28 ?hh_28 ?bd_28
 case hh_28 => exact rfl
 case le_28 => (simp only [Le_nil, Le_cons, ↓A_cons, ↓reduceIte, Nat.reduceEqDiff, reduceCtorEq, CLe_refl, CLe_top, CLe_full, CLe_nil, CLe_own, and_true, true_and]; all_goals (repeat' first | exact CLe.refl _ | exact True.intro | (refine CLe_sln ?_; first | with_reducible rfl | (simp only [List.take_zero]; done) | (rfl; done)) | exact CLe_nI (by omega) | exact CLe_int (by omega) | exact CLe_inI (by omega) | exact CLe_nIi (by omega) | with_reducible apply And.intro))
 · omega
 case bd_28 =>
  rintro i hi
  have hb1 := textR_len l k i
  have hb2 := atI_lt l (k + 1 + i) (m := 108) (by decide)
  have hb3 := wl_len (atI l (k + 1 + i) 108 % 9)
  have hb4 := dres_len (gt wlist (atI l (k + 1 + i) 108 % 9)) (atI l (k + 1 + i) 108 / 9)
  have hb5 := Nat.mod_lt (atI l (k + 1 + i) 108) (show 9 > 0 by decide)
  refine Tr.seqK fun K6 hK6 => ?_
  refine Tr.seqK fun K7 hK7 => ?_
  refine Tr.rg hcx [] _ [] rfl rfl rfl ?_
  simp -implicitDefEqProofs (maxSteps := 2000000) (disch := first | omega | (simp only [go_sem, List.length_append, List.length_drop, List.length_take, hb1, wlist_ln] <;> omega) | decide) only [go_sem, ↓reduceIte, Nat.reduceEqDiff, reduceCtorEq, Nat.reduceLT, Nat.reduceBEq, Nat.reduceAdd, Nat.reduceSub, Nat.reduceMul, Nat.reduceMod, h46', h47, wlist_mk]
  refine hK7 _ ?_
  clear hK7 K7
  refine Tr.kp [0, 1, 5, 6, 7, 16] ?_
  simp only [pk_cons, pk_nil, ↓A_cons, ↓reduceIte, Nat.reduceEqDiff]
  refine Tr.condG fun KT KF hT hF => ?_
  simp only [ev_tmp, ev_const, ↓A_cons, ↓reduceIte, Nat.reduceEqDiff, reduceCtorEq, condG_bool, GB_true, GB_false, decide_eq_true_eq]
  refine GB.dec (fun hc16 => hT ?_) (fun hc16 => hF ?_)
  ·
   clear hT hF KT KF
   refine Tr.skip ?_
   refine hK6 _ ?_
   clear hK6 K6
   refine Tr.kp [0, 1, 5, 6, 7] ?_
   simp only [pk_cons, pk_nil, ↓A_cons, ↓reduceIte, Nat.reduceEqDiff]
   refine Tr.seqK fun K8 hK8 => ?_
   refine Tr.blk ?_
   refine Tr.seqK fun K9 hK9 => ?_
   refine Tr.rg hcx [1000024] _ [] rfl rfl rfl ?_
   simp -implicitDefEqProofs (maxSteps := 2000000) (disch := first | omega | (simp only [go_sem, List.length_append, List.length_drop, List.length_take, hb1, wlist_ln] <;> omega) | decide) only [go_sem, ↓reduceIte, Nat.reduceEqDiff, reduceCtorEq, Nat.reduceLT, Nat.reduceBEq, Nat.reduceAdd, Nat.reduceSub, Nat.reduceMul, Nat.reduceMod, h46', h47, wlist_mk]
   refine hK9 _ ?_
   clear hK9 K9
   refine Tr.kp [0, 1, 5, 6, 7, 8] ?_
   simp only [pk_cons, pk_nil, ↓A_cons, ↓reduceIte, Nat.reduceEqDiff]
   refine Tr.seqK fun K10 hK10 => ?_
   refine Tr.rg hcx [1000032] _ [] rfl rfl rfl ?_
   simp -implicitDefEqProofs (maxSteps := 2000000) (disch := first | omega | (simp only [go_sem, List.length_append, List.length_drop, List.length_take, hb1, wlist_ln] <;> omega) | decide) only [go_sem, ↓reduceIte, Nat.reduceEqDiff, reduceCtorEq, Nat.reduceLT, Nat.reduceBEq, Nat.reduceAdd, Nat.reduceSub, Nat.reduceMul, Nat.reduceMod, h46', h47, wlist_mk]
   refine hK10 _ ?_
   clear hK10 K10
   refine Tr.kp [0, 1, 5, 6, 7, 9] ?_
   simp only [pk_cons, pk_nil, ↓A_cons, ↓reduceIte, Nat.reduceEqDiff]
   refine Tr.seqK fun K11 hK11 => ?_
   refine Tr.seqK fun K12 hK12 => ?_
   refine Tr.rg hcx [] _ [] rfl rfl rfl ?_
   simp -implicitDefEqProofs (maxSteps := 2000000) (disch := first | omega | (simp only [go_sem, List.length_append, List.length_drop, List.length_take, hb1, wlist_ln] <;> omega) | decide) only [go_sem, ↓reduceIte, Nat.reduceEqDiff, reduceCtorEq, Nat.reduceLT, Nat.reduceBEq, Nat.reduceAdd, Nat.reduceSub, Nat.reduceMul, Nat.reduceMod, h46', h47, wlist_mk]
   refine hK12 _ ?_
   clear hK12 K12
   refine Tr.kp [0, 1, 5, 6, 7, 9, 34] ?_
   simp only [pk_cons, pk_nil, ↓A_cons, ↓reduceIte, Nat.reduceEqDiff]
   refine Tr.condG fun KT KF hT hF => ?_
   simp only [ev_tmp, ev_const, ↓A_cons, ↓reduceIte, Nat.reduceEqDiff, reduceCtorEq, condG_bool, GB_true, GB_false, decide_eq_true_eq]
   refine GB.dec (fun hc34 => hT ?_) (fun hc34 => hF ?_)
   ·
    clear hT hF KT KF
    refine Tr.rg hcx [1000036] _ [] rfl rfl rfl ?_
    simp -implicitDefEqProofs (maxSteps := 2000000) (disch := first | omega | (simp only [go_sem, List.length_append, List.length_drop, List.length_take, hb1, wlist_ln] <;> omega) | decide) only [go_sem, ↓reduceIte, Nat.reduceEqDiff, reduceCtorEq, Nat.reduceLT, Nat.reduceBEq, Nat.reduceAdd, Nat.reduceSub, Nat.reduceMul, Nat.reduceMod, h46', h47, wlist_mk]
    refine hK11 _ ?_
    clear hK11 K11
    refine Tr.kp [0, 1, 5, 6, 7, 9] ?_
    simp only [pk_cons, pk_nil, ↓A_cons, ↓reduceIte, Nat.reduceEqDiff]
    refine Tr.rg hcx [1000039] _ [] rfl rfl rfl ?_
    simp -implicitDefEqProofs (maxSteps := 2000000) (disch := first | omega | (simp only [go_sem, List.length_append, List.length_drop, List.length_take, hb1, wlist_ln] <;> omega) | decide) only [go_sem, ↓reduceIte, Nat.reduceEqDiff, reduceCtorEq, Nat.reduceLT, Nat.reduceBEq, Nat.reduceAdd, Nat.reduceSub, Nat.reduceMul, Nat.reduceMod, h46', h47, wlist_mk]
    refine hK8 _ ?_
    clear hK8 K8
    refine Tr.kp [0, 1, 5, 6, 7] ?_
    simp only [pk_cons, pk_nil, ↓A_cons, ↓reduceIte, Nat.reduceEqDiff]
    refine Tr.rg hcx [1000018] _ [] rfl rfl rfl ?_
    simp -implicitDefEqProofs (maxSteps := 2000000) (disch := first | omega | (simp only [go_sem, List.length_append, List.length_drop, List.length_take, hb1, wlist_ln] <;> omega) | decide) only [go_sem, ↓reduceIte, Nat.reduceEqDiff, reduceCtorEq, Nat.reduceLT, Nat.reduceBEq, Nat.reduceAdd, Nat.reduceSub, Nat.reduceMul, Nat.reduceMod, h46', h47, wlist_mk]
    refine ⟨i + 1, ⟨by omega, by first | omega | (simp only []; omega)⟩, ?_, rfl⟩
    (simp only [Le_nil, Le_cons, ↓A_cons, ↓reduceIte, Nat.reduceEqDiff, reduceCtorEq, CLe_refl, CLe_top, CLe_full, CLe_nil, CLe_own, and_true, true_and]; all_goals (repeat' first | exact CLe.refl _ | exact True.intro | (refine CLe_sln ?_; first | with_reducible rfl | (simp only [List.take_zero]; done) | (rfl; done)) | exact CLe_nI (by omega) | exact CLe_int (by omega) | exact CLe_inI (by omega) | exact CLe_nIi (by omega) | with_reducible apply And.intro))
    all_goals first | (rw [textR_T l k i hc34]; exact CLe.refl _) | (rw [textR_F l k i hc34]; exact CLe.refl _)
   ·
    clear hT hF KT KF
    refine Tr.skip ?_
    refine hK11 _ ?_
    clear hK11 K11
    refine Tr.kp [0, 1, 5, 6, 7, 9] ?_
    simp only [pk_cons, pk_nil, ↓A_cons, ↓reduceIte, Nat.reduceEqDiff]
    refine Tr.rg hcx [1000039] _ [] rfl rfl rfl ?_
    simp -implicitDefEqProofs (maxSteps := 2000000) (disch := first | omega | (simp only [go_sem, List.length_append, List.length_drop, List.length_take, hb1, wlist_ln] <;> omega) | decide) only [go_sem, ↓reduceIte, Nat.reduceEqDiff, reduceCtorEq, Nat.reduceLT, Nat.reduceBEq, Nat.reduceAdd, Nat.reduceSub, Nat.reduceMul, Nat.reduceMod, h46', h47, wlist_mk]
    refine hK8 _ ?_
    clear hK8 K8
    refine Tr.kp [0, 1, 5, 6, 7] ?_
    simp only [pk_cons, pk_nil, ↓A_cons, ↓reduceIte, Nat.reduceEqDiff]
    refine Tr.rg hcx [1000018] _ [] rfl rfl rfl ?_
    simp -implicitDefEqProofs (maxSteps := 2000000) (disch := first | omega | (simp only [go_sem, List.length_append, List.length_drop, List.length_take, hb1, wlist_ln] <;> omega) | decide) only [go_sem, ↓reduceIte, Nat.reduceEqDiff, reduceCtorEq, Nat.reduceLT, Nat.reduceBEq, Nat.reduceAdd, Nat.reduceSub, Nat.reduceMul, Nat.reduceMod, h46', h47, wlist_mk]
    refine ⟨i + 1, ⟨by omega, by first | omega | (simp only []; omega)⟩, ?_, rfl⟩
    (simp only [Le_nil, Le_cons, ↓A_cons, ↓reduceIte, Nat.reduceEqDiff, reduceCtorEq, CLe_refl, CLe_top, CLe_full, CLe_nil, CLe_own, and_true, true_and]; all_goals (repeat' first | exact CLe.refl _ | exact True.intro | (refine CLe_sln ?_; first | with_reducible rfl | (simp only [List.take_zero]; done) | (rfl; done)) | exact CLe_nI (by omega) | exact CLe_int (by omega) | exact CLe_inI (by omega) | exact CLe_nIi (by omega) | with_reducible apply And.intro))
    all_goals first | (rw [textR_T l k i hc34]; exact CLe.refl _) | (rw [textR_F l k i hc34]; exact CLe.refl _)
  ·
   clear hT hF KT KF
   obtain rfl : i = 1 + atI l k 9 := by omega
   refine Tr.exit ?_
   refine hK4 _ ?_
   clear hK6 K6 hK4 K4
   refine Tr.kp [6] ?_
   simp only [pk_cons, pk_nil, ↓A_cons, ↓reduceIte, Nat.reduceEqDiff]
   refine Tr.seqK fun K13 hK13 => ?_
   refine Tr.rg hcx [1000040] _ [] rfl rfl rfl ?_
   simp -implicitDefEqProofs (maxSteps := 2000000) (disch := first | omega | (simp only [go_sem, List.length_append, List.length_drop, List.length_take, hb1, wlist_ln] <;> omega) | decide) only [go_sem, ↓reduceIte, Nat.reduceEqDiff, reduceCtorEq, Nat.reduceLT, Nat.reduceBEq, Nat.reduceAdd, Nat.reduceSub, Nat.reduceMul, Nat.reduceMod, h46', h47, wlist_mk]
   refine hK13 _ ?_
   clear hK13 K13
   refine Tr.kp [4] ?_
   simp only [pk_cons, pk_nil, ↓A_cons, ↓reduceIte, Nat.reduceEqDiff]
   refine Tr.ret ?_
   simp -implicitDefEqProofs (disch := first | omega | (simp only [go_sem, List.length_append, List.length_drop, List.length_take, hb1, wlist_ln] <;> omega) | decide) only [go_sem, ↓reduceIte, Nat.reduceEqDiff, reduceCtorEq]
   all_goals (rfl)
end Go.Sx
namespace Go.Sx
open Go.RowKit Go.Proofs
def unR (s : List UInt8) (l : List Tok) : Nat → Nat × List (List UInt8)
  | 0 => (0, [])
  | i + 1 => if lastT l i = true then (i + 1, (unR s l i).2 ++ [(s.drop (gt l (unR s l i).1).a).take ((gt l i).e - (gt l (unR s l i).1).a)]) else unR s l i
theorem unR_T {s : List UInt8} {l : List Tok} {i : Nat} (h : lastT l i = true) : unR s l (i + 1) = (i + 1, (unR s l i).2 ++ [(s.drop (gt l (unR s l i).1).a).take ((gt l i).e - (gt l (unR s l i).1).a)]) := if_pos h
theorem unR_F {s : List UInt8} {l : List Tok} {i : Nat} (h : ¬ lastT l i = true) : unR s l (i + 1) = unR s l i := if_neg h
theorem unR_le (s : List UInt8) (l : List Tok) : ∀ i, (unR s l i).1 ≤ i ∧ (unR s l i).2.length ≤ i
  | 0 => ⟨Nat.le_refl _, Nat.le_refl _⟩
  | i + 1 => by
    have := unR_le s l i
    by_cases h : lastT l i = true
    · rw [unR_T h]; simp; omega
    · rw [unR_F h]; omega
def unitsT (s : List UInt8) : List (List UInt8) := (unR s (toks s) (toks s).length).2
set_option maxRecDepth 100000 in
set_option maxHeartbeats 8000000 in
theorem fc32 {gl : Nat → C} {M : Nat} {pu : Nat → List C → Option C}  (hcx : CxOK (cxP gl M pu)) (h48 : ∀ s : List UInt8, s.length ≤ 1000000 → pu 48 [.val (str s)] = some (sl tC .no (toks s))) (h49 : ∀ (l : List Tok) (i : Nat), i < l.length ∧ l.length ≤ 1000000 → pu 49 [sl tC .no l, .val (nI i)] = some (.val (.bool (lastT l i)))) (s : List UInt8) (hs : s.length ≤ 1000000) : FC Try.prog gl 32 [.val (str s)] [] (sl sC (.own 1) (unitsT s)) [] := by
 replace hcx := hcx.reN (M := 36)
 refine FC.ofA (cx := cxP gl 36 pu) (rs := [.tmp 2]) rfl Try.func32 rfl rfl rfl (by simp only [List.length_cons, List.length_nil]; decide) (by simp only [go_sem]) ?_
 simp only [ini, go_sem]
 have hT := toks_len s
 have hb1 := True.intro
 refine Tr.seqK fun K1 hK1 => ?_
 refine Tr.rg hcx [] _ [] rfl rfl rfl ?_
 simp -implicitDefEqProofs (maxSteps := 2000000) (disch := first | omega | (simp only [go_sem, List.length_append, List.length_drop, List.length_take, hb1] <;> omega) | decide) only [go_sem, ↓reduceIte, Nat.reduceEqDiff, reduceCtorEq, Nat.reduceLT, Nat.reduceBEq, Nat.reduceAdd, Nat.reduceSub, Nat.reduceMul, Nat.reduceMod, h48, h49]
 refine hK1 _ ?_
 clear hK1 K1
 refine Tr.kp [0] ?_
 simp only [pk_cons, pk_nil, ↓A_cons, ↓reduceIte, Nat.reduceEqDiff]
 refine Tr.seqK fun K2 hK2 => ?_
 refine Tr.rg hcx [1000008] _ [] rfl rfl rfl ?_
 simp -implicitDefEqProofs (maxSteps := 2000000) (disch := first | omega | (simp only [go_sem, List.length_append, List.length_drop, List.length_take, hb1] <;> omega) | decide) only [go_sem, ↓reduceIte, Nat.reduceEqDiff, reduceCtorEq, Nat.reduceLT, Nat.reduceBEq, Nat.reduceAdd, Nat.reduceSub, Nat.reduceMul, Nat.reduceMod, h48, h49]
 refine hK2 _ ?_
 clear hK2 K2
 refine Tr.kp [0, 3] ?_
 simp only [pk_cons, pk_nil, ↓A_cons, ↓reduceIte, Nat.reduceEqDiff]
 refine Tr.seqK fun K3 hK3 => ?_
 refine Tr.rg hcx [] _ [] rfl rfl rfl ?_
 simp -implicitDefEqProofs (maxSteps := 2000000) (disch := first | omega | (simp only [go_sem, List.length_append, List.length_drop, List.length_take, hb1] <;> omega) | decide) only [go_sem, ↓reduceIte, Nat.reduceEqDiff, reduceCtorEq, Nat.reduceLT, Nat.reduceBEq, Nat.reduceAdd, Nat.reduceSub, Nat.reduceMul, Nat.reduceMod, h48, h49]
 refine hK3 _ ?_
 clear hK3 K3
 refine Tr.kp [0, 3, 4] ?_
 simp only [pk_cons, pk_nil, ↓A_cons, ↓reduceIte, Nat.reduceEqDiff]
 refine Tr.seqK fun K4 hK4 => ?_
 refine Tr.rg hcx [] _ [] rfl rfl rfl ?_
 simp -implicitDefEqProofs (maxSteps := 2000000) (disch := first | omega | (simp only [go_sem, List.length_append, List.length_drop, List.length_take, hb1] <;> omega) | decide) only [go_sem, ↓reduceIte, Nat.reduceEqDiff, reduceCtorEq, Nat.reduceLT, Nat.reduceBEq, Nat.reduceAdd, Nat.reduceSub, Nat.reduceMul, Nat.reduceMod, h48, h49]
 refine hK4 _ ?_
 clear hK4 K4
 refine Tr.kp [0, 3, 4, 5] ?_
 simp only [pk_cons, pk_nil, ↓A_cons, ↓reduceIte, Nat.reduceEqDiff]
 refine Tr.seqK fun K5 hK5 => ?_
 refine Tr.seqK fun K6 hK6 => ?_
 refine Tr.rg hcx [] _ [] rfl rfl rfl ?_
 simp -implicitDefEqProofs (maxSteps := 2000000) (disch := first | omega | (simp only [go_sem, List.length_append, List.length_drop, List.length_take, hb1] <;> omega) | decide) only [go_sem, ↓reduceIte, Nat.reduceEqDiff, reduceCtorEq, Nat.reduceLT, Nat.reduceBEq, Nat.reduceAdd, Nat.reduceSub, Nat.reduceMul, Nat.reduceMod, h48, h49]
 refine hK6 _ ?_
 clear hK6 K6
 refine Tr.kp [0, 3, 4, 5, 6] ?_
 simp only [pk_cons, pk_nil, ↓A_cons, ↓reduceIte, Nat.reduceEqDiff]
 refine Tr.blk ?_
 refine Tr.loopI (α := Nat) (fun a => [(0, ?v0_12), (3, ?v3_12), (4, sl sC (.own 1) (unR s (toks s) a).2), (5, .val (nI (unR s (toks s) a).1)), (6, .val (nI a))]) (fun a => ?h_12) (fun a => a ≤ (toks s).length) (fun a => (toks s).length - a) (0) ?_ ?le_12 ?hh_12 ?bd_12
 case hh_12 => exact rfl
 case le_12 => (simp only [Le_nil, Le_cons, ↓A_cons, ↓reduceIte, Nat.reduceEqDiff, reduceCtorEq, CLe_refl, CLe_top, CLe_full, CLe_nil, CLe_own, and_true, true_and]; all_goals (repeat' first | exact CLe.refl _ | exact True.intro | (refine CLe_sln ?_; first | with_reducible rfl | (simp only [List.take_zero]; done) | (rfl; done)) | exact CLe_nI (by omega) | exact CLe_int (by omega) | exact CLe_inI (by omega) | exact CLe_nIi (by omega) | with_reducible apply And.intro))
 · omega
 case bd_12 =>
  rintro i hi
  have hb1 := unR_le s (toks s) i
  refine Tr.seqK fun K7 hK7 => ?_
  refine Tr.seqK fun K8 hK8 => ?_
  refine Tr.rg hcx [] _ [] rfl rfl rfl ?_
  simp -implicitDefEqProofs (maxSteps := 2000000) (disch := first | omega | (simp only [go_sem, List.length_append, List.length_drop, List.length_take, hb1] <;> omega) | decide) only [go_sem, ↓reduceIte, Nat.reduceEqDiff, reduceCtorEq, Nat.reduceLT, Nat.reduceBEq, Nat.reduceAdd, Nat.reduceSub, Nat.reduceMul, Nat.reduceMod, h48, h49]
  refine hK8 _ ?_
  clear hK8 K8
  refine Tr.kp [0, 3, 4, 5, 6, 12] ?_
  simp only [pk_cons, pk_nil, ↓A_cons, ↓reduceIte, Nat.reduceEqDiff]
  refine Tr.condG fun KT KF hT hF => ?_
  simp only [ev_tmp, ev_const, ↓A_cons, ↓reduceIte, Nat.reduceEqDiff, reduceCtorEq, condG_bool, GB_true, GB_false, decide_eq_true_eq]
  refine GB.dec (fun hc12 => hT ?_) (fun hc12 => hF ?_)
  ·
   clear hT hF KT KF
   have hb2 := toks_get s i hc12
   have hb4 := toks_le s _ i hb1.1 hc12
   have hb5 := toks_get s _ (Nat.lt_of_le_of_lt hb1.1 hc12)
   refine Tr.skip ?_
   refine hK7 _ ?_
   clear hK7 K7
   refine Tr.kp [0, 3, 4, 5, 6] ?_
   simp only [pk_cons, pk_nil, ↓A_cons, ↓reduceIte, Nat.reduceEqDiff]
   refine Tr.seqK fun K9 hK9 => ?_
   refine Tr.blk ?_
   refine Tr.seqK fun K10 hK10 => ?_
   refine Tr.rg hcx [] _ [] rfl rfl rfl ?_
   simp -implicitDefEqProofs (maxSteps := 2000000) (disch := first | omega | (simp only [go_sem, List.length_append, List.length_drop, List.length_take, hb1] <;> omega) | decide) only [go_sem, ↓reduceIte, Nat.reduceEqDiff, reduceCtorEq, Nat.reduceLT, Nat.reduceBEq, Nat.reduceAdd, Nat.reduceSub, Nat.reduceMul, Nat.reduceMod, h48, h49]
   refine hK10 _ ?_
   clear hK10 K10
   refine Tr.kp [0, 3, 4, 5, 6, 17] ?_
   simp only [pk_cons, pk_nil, ↓A_cons, ↓reduceIte, Nat.reduceEqDiff]
   refine Tr.condG fun KT KF hT hF => ?_
   simp only [ev_tmp, ev_const, ↓A_cons, ↓reduceIte, Nat.reduceEqDiff, reduceCtorEq, condG_bool, GB_true, GB_false, decide_eq_true_eq]
   refine GB.mk (fun hc17 => hT ?_) (fun hc17 => hF ?_)
   ·
    clear hT hF KT KF
    refine Tr.seqK fun K11 hK11 => ?_
    refine Tr.rgD hcx hMO [18, 1000032] _ [] rfl rfl rfl rfl ?_
    simp -implicitDefEqProofs (maxSteps := 2000000) (disch := first | omega | (simp only [go_sem, List.length_append, List.length_drop, List.length_take, hb1] <;> omega) | decide) only [go_sem, ↓reduceIte, Nat.reduceEqDiff, reduceCtorEq, Nat.reduceLT, Nat.reduceBEq, Nat.reduceAdd, Nat.reduceSub, Nat.reduceMul, Nat.reduceMod, h48, h49]
    with_reducible refine And.intro ?_ ?_
    · exact rfl
    refine hK11 _ ?_
    clear hK11 K11
    refine Tr.kp [0, 3, 4, 6] ?_
    simp only [pk_cons, pk_nil, ↓A_cons, ↓reduceIte, Nat.reduceEqDiff]
    refine Tr.rg hcx [1000034] _ [] rfl rfl rfl ?_
    simp -implicitDefEqProofs (maxSteps := 2000000) (disch := first | omega | (simp only [go_sem, List.length_append, List.length_drop, List.length_take, hb1] <;> omega) | decide) only [go_sem, ↓reduceIte, Nat.reduceEqDiff, reduceCtorEq, Nat.reduceLT, Nat.reduceBEq, Nat.reduceAdd, Nat.reduceSub, Nat.reduceMul, Nat.reduceMod, h48, h49]
    refine hK9 _ ?_
    clear hK9 K9
    refine Tr.kp [0, 3, 4, 5, 6] ?_
    simp only [pk_cons, pk_nil, ↓A_cons, ↓reduceIte, Nat.reduceEqDiff]
    refine Tr.rg hcx [1000014] _ [] rfl rfl rfl ?_
    simp -implicitDefEqProofs (maxSteps := 2000000) (disch := first | omega | (simp only [go_sem, List.length_append, List.length_drop, List.length_take, hb1] <;> omega) | decide) only [go_sem, ↓reduceIte, Nat.reduceEqDiff, reduceCtorEq, Nat.reduceLT, Nat.reduceBEq, Nat.reduceAdd, Nat.reduceSub, Nat.reduceMul, Nat.reduceMod, h48, h49]
    refine ⟨i + 1, ⟨by omega, by first | omega | (simp only []; omega)⟩, ?_, rfl⟩
    (simp only [Le_nil, Le_cons, ↓A_cons, ↓reduceIte, Nat.reduceEqDiff, reduceCtorEq, CLe_refl, CLe_top, CLe_full, CLe_nil, CLe_own, and_true, true_and]; all_goals (repeat' first | exact CLe.refl _ | exact True.intro | (refine CLe_sln ?_; first | with_reducible rfl | (simp only [List.take_zero]; done) | (rfl; done)) | exact CLe_nI (by omega) | exact CLe_int (by omega) | exact CLe_inI (by omega) | exact CLe_nIi (by omega) | with_reducible apply And.intro))
    all_goals first | (rw [unR_T hc17]; exact CLe.refl _) | (rw [unR_F (by rw [hc17]; simp)]; exact CLe.refl _)
   ·
    clear hT hF KT KF
    refine Tr.skip ?_
    refine hK9 _ ?_
    clear hK9 K9
    refine Tr.kp [0, 3, 4, 5, 6] ?_
    simp only [pk_cons, pk_nil, ↓A_cons, ↓reduceIte, Nat.reduceEqDiff]
    refine Tr.rg hcx [1000014] _ [] rfl rfl rfl ?_
    simp -implicitDefEqProofs (maxSteps := 2000000) (disch := first | omega | (simp only [go_sem, List.length_append, List.length_drop, List.length_take, hb1] <;> omega) | decide) only [go_sem, ↓reduceIte, Nat.reduceEqDiff, reduceCtorEq, Nat.reduceLT, Nat.reduceBEq, Nat.reduceAdd, Nat.reduceSub, Nat.reduceMul, Nat.reduceMod, h48, h49]
    refine ⟨i + 1, ⟨by omega, by first | omega | (simp only []; omega)⟩, ?_, rfl⟩
    (simp only [Le_nil, Le_cons, ↓A_cons, ↓reduceIte, Nat.reduceEqDiff, reduceCtorEq, CLe_refl, CLe_top, CLe_full, CLe_nil, CLe_own, and_true, true_and]; all_goals (repeat' first | exact CLe.refl _ | exact True.intro | (refine CLe_sln ?_; first | with_reducible rfl | (simp only [List.take_zero]; done) | (rfl; done)) | exact CLe_nI (by omega) | exact CLe_int (by omega) | exact CLe_inI (by omega) | exact CLe_nIi (by omega) | with_reducible apply And.intro))
    all_goals first | (rw [unR_T hc17]; exact CLe.refl _) | (rw [unR_F (by rw [hc17]; simp)]; exact CLe.refl _)
  ·
   clear hT hF KT KF
   obtain rfl : i = (toks s).length := by omega
   refine Tr.exit ?_
   refine hK5 _ ?_
   clear hK7 K7 hK5 K5
   refine Tr.kp [4] ?_
   simp only [pk_cons, pk_nil, ↓A_cons, ↓reduceIte, Nat.reduceEqDiff]
   refine Tr.seqK fun K12 hK12 => ?_
   refine Tr.rg hcx [1000035] _ [] rfl rfl rfl ?_
   simp -implicitDefEqProofs (maxSteps := 2000000) (disch := first | omega | (simp only [go_sem, List.length_append, List.length_drop, List.length_take, hb1] <;> omega) | decide) only [go_sem, ↓reduceIte, Nat.reduceEqDiff, reduceCtorEq, Nat.reduceLT, Nat.reduceBEq, Nat.reduceAdd, Nat.reduceSub, Nat.reduceMul, Nat.reduceMod, h48, h49]
   refine hK12 _ ?_
   clear hK12 K12
   refine Tr.kp [2] ?_
   simp only [pk_cons, pk_nil, ↓A_cons, ↓reduceIte, Nat.reduceEqDiff]
   refine Tr.ret ?_
   simp -implicitDefEqProofs (disch := first | omega | (simp only [go_sem, List.length_append, List.length_drop, List.length_take, hb1] <;> omega) | decide) only [go_sem, ↓reduceIte, Nat.reduceEqDiff, reduceCtorEq]
   all_goals (rfl)
end Go.Sx
namespace Go.Sx
def joinU : List (List UInt8) → List UInt8
  | [] => []
  | u :: us => if us = [] then u else joinT u (joinU us)
theorem joinU_one (u : List UInt8) : joinU [u] = u := rfl
theorem joinU_cons (u : List UInt8) {us : List (List UInt8)} (h : us ≠ []) : joinU (u :: us) = joinT u (joinU us) := by
  rw [joinU, if_neg h]
theorem joinT_assoc (a b c : List UInt8) : joinT (joinT a b) c = joinT a (joinT b c) := by simp [joinT]
theorem joinU_app : ∀ {P Q : List (List UInt8)}, P ≠ [] → Q ≠ [] → joinU (P ++ Q) = joinT (joinU P) (joinU Q)
  | [], _, h, _ => absurd rfl h
  | [u], Q, _, h => by rw [joinU_one]; exact joinU_cons u h
  | u :: v :: P, Q, _, h => by
    have ih := joinU_app (P := v :: P) (Q := Q) (by simp) h
    rw [joinU_cons u (by simp : v :: P ≠ []), joinT_assoc, ← ih]
    exact joinU_cons u (by simp)
def cntU (us : List (List UInt8)) : Nat := (us.map fun u => (toks u).length).sum
theorem cntU_app (P Q : List (List UInt8)) : cntU (P ++ Q) = cntU P + cntU Q := by simp [cntU]
theorem cntU_one (u : List UInt8) : cntU [u] = (toks u).length := by simp [cntU]
theorem cntU_joinU : ∀ us : List (List UInt8), (toks (joinU us)).length = cntU us
  | [] => rfl
  | [u] => by rw [joinU_one, cntU_one]
  | u :: v :: us => by
    rw [joinU_cons u (by simp), toks_joinL, cntU_joinU (v :: us)]; simp [cntU]
structure Good (us : List (List UInt8)) : Prop where
  ok : ∀ u ∈ us, okT true u = true
  pos : ∀ u ∈ us, 0 < u.length
  le : ∀ u ∈ us, u.length ≤ 7
  nb : ∀ u ∈ us, ∀ c ∈ u, c ≠ 32
  few : us.length ≤ 9
theorem Good.sub {us vs : List (List UInt8)} (h : Good us) (hs : ∀ u ∈ vs, u ∈ us) (hl : vs.length ≤ us.length) : Good vs :=
  ⟨fun u hu => h.ok u (hs u hu), fun u hu => h.pos u (hs u hu), fun u hu => h.le u (hs u hu), fun u hu => h.nb u (hs u hu), Nat.le_trans hl h.few⟩
theorem Good.take {us : List (List UInt8)} (h : Good us) (k : Nat) : Good (us.take k) := h.sub (fun _ => List.mem_of_mem_take) (by simp; omega)
theorem Good.drop {us : List (List UInt8)} (h : Good us) (k : Nat) : Good (us.drop k) := h.sub (fun _ => List.mem_of_mem_drop) (by simp)
theorem joinU_ok : ∀ {us : List (List UInt8)}, Good us → us ≠ [] → okT true (joinU us) = true ∧ (joinU us).length + 1 ≤ 8 * us.length ∧ 0 < (joinU us).length
  | [], _, h => absurd rfl h
  | [u], g, _ => by
    have := g.le u (by simp); have h2 := g.pos u (by simp)
    rw [joinU_one]; exact ⟨g.ok u (by simp), by simp; omega, h2⟩
  | u :: v :: us, g, _ => by
    have := g.le u (by simp); have h2 := g.pos u (by simp)
    obtain ⟨h3, h4, h5⟩ := joinU_ok (us := v :: us) (g.sub (fun _ h => List.mem_cons_of_mem _ h) (by simp)) (by simp)
    rw [joinU_cons u (by simp)]
    refine ⟨okT_app _ _ _ (g.ok u (by simp)) h3, ?_, ?_⟩
    · rw [joinT_len]; simp only [List.length_cons] at h4 ⊢; omega
    · rw [joinT_len]; omega
theorem joinU_valid {us : List (List UInt8)} (g : Good us) (h : us ≠ []) : validE (joinU us) = 0 := by
  obtain ⟨h1, h2, h3⟩ := joinU_ok g h
  have := g.few
  exact valid_of h1 h3 (by omega)
theorem joinU_72 {us : List (List UInt8)} (g : Good us) : (joinU us).length ≤ 72 := by
  by_cases h : us = []
  · subst h; simp [joinU]
  · have := joinU_ok g h; have := g.few; omega
theorem shT_0 (l : List Tok) : l.map (shT 0) = l := by
  conv => rhs; rw [← List.map_id l]
  rfl
theorem gt_mapT (l : List Tok) (d i : Nat) (h : i < l.length) : gt (l.map (shT d)) i = shT d (gt l i) := by
  simp [gt, List.getD, List.getElem?_eq_getElem h]
/-- What stands behind. -/
theorem mid_r {L Q : List (List UInt8)} (hL : L ≠ []) (gQ : Good Q) : ∃ B, toks (joinU (L ++ Q)) = toks (joinU L) ++ B ∧ (joinU (L ++ Q)).take (joinU L).length = joinU L ∧ (Q = [] → B = []) ∧ (Q ≠ [] → B ≠ [] ∧ (joinU L).length < (gt B 0).a) := by
  by_cases hQ : Q = []
  · subst hQ
    exact ⟨[], by simp, by simp, fun _ => rfl, fun h => absurd rfl h⟩
  · have hp := toks_pos (joinU_valid gQ hQ)
    refine ⟨(toks (joinU Q)).map (shT ((joinU L).length + 1)), ?_, ?_, fun h => absurd h hQ, fun _ => ⟨?_, ?_⟩⟩
    · rw [joinU_app hL hQ, toks_joinT]
    · rw [joinU_app hL hQ]; unfold joinT; exact List.take_left
    · intro h; have := congrArg List.length h; rw [List.length_map, List.length_nil] at this; omega
    · rw [gt_mapT _ _ _ hp]; show _ < _ + _; omega
/-- What stands ahead. -/
theorem mid_l (P : List (List UInt8)) {X : List (List UInt8)} (hX : X ≠ []) : ∃ A d, toks (joinU (P ++ X)) = A ++ (toks (joinU X)).map (shT d) ∧ A.length = cntU P ∧ (joinU (P ++ X)).drop d = joinU X := by
  by_cases hP : P = []
  · subst hP
    exact ⟨[], 0, by rw [shT_0]; rfl, rfl, rfl⟩
  · refine ⟨toks (joinU P), (joinU P).length + 1, ?_, cntU_joinU P, ?_⟩
    · rw [joinU_app hP hX, toks_joinT]
    · rw [joinU_app hP hX]; unfold joinT
      rw [← List.drop_drop, List.drop_left]; rfl
theorem gt_l3 {α : Type} [Inhabited α] (A M B : List α) (i : Nat) (h : i < M.length) : gt (A ++ M ++ B) (A.length + i) = gt M i := by
  rw [List.append_assoc, gt_right _ _ _ (by omega), Nat.add_sub_cancel_left, gt_left _ _ _ h]
theorem gt_l4 {α : Type} [Inhabited α] (A M B : List α) : gt (A ++ M ++ B) (A.length + M.length) = gt B 0 := by
  rw [gt_right _ _ _ (by simp), List.length_append, Nat.sub_self]
structure Mid (s : List UInt8) (P L Q : List (List UInt8)) (A B : List Tok) (d : Nat) : Prop where
  tk : toks s = A ++ (toks (joinU L)).map (shT d) ++ B
  la : A.length = cntU P
  tx : (s.drop d).take (joinU L).length = joinU L
  b0 : Q = [] → B = []
  b1 : Q ≠ [] → B ≠ [] ∧ d + (joinU L).length < (gt B 0).a
theorem mid {P L Q : List (List UInt8)} (hL : L ≠ []) (gQ : Good Q) : ∃ A B d, Mid (joinU (P ++ (L ++ Q))) P L Q A B d := by
  obtain ⟨B, h1, h2, h3, h4⟩ := mid_r hL gQ
  obtain ⟨A, d, g1, g2, g3⟩ := mid_l P (X := L ++ Q) (by simp [hL])
  refine ⟨A, B.map (shT d), d, ?_, g2, ?_, ?_, ?_⟩
  · rw [g1, h1, List.map_append, List.append_assoc]
  · rw [g3, h2]
  · intro h; rw [h3 h]; rfl
  · intro h
    obtain ⟨h5, h6⟩ := h4 h
    have hp : 0 < B.length := List.length_pos_iff.2 h5
    refine ⟨by simp [h5], ?_⟩
    rw [gt_mapT _ _ _ hp]; show _ < _ + _; omega
theorem Mid.len {s : List UInt8} {P L Q : List (List UInt8)} {A B : List Tok} {d : Nat} (h : Mid s P L Q A B d) : (toks s).length = cntU P + cntU L + B.length := by
  rw [h.tk, List.length_append, List.length_append, List.length_map, h.la, cntU_joinU]
theorem Mid.at {s : List UInt8} {P L Q : List (List UInt8)} {A B : List Tok} {d : Nat} (h : Mid s P L Q A B d) {i : Nat} (hi : i < cntU L) : gt (toks s) (cntU P + i) = shT d (gt (toks (joinU L)) i) := by
  rw [h.tk, ← h.la, gt_l3 _ _ _ _ (by rw [List.length_map, cntU_joinU]; exact hi), gt_mapT _ _ _ (by rw [cntU_joinU]; exact hi)]
theorem Mid.aft {s : List UInt8} {P L Q : List (List UInt8)} {A B : List Tok} {d : Nat} (h : Mid s P L Q A B d) : gt (toks s) (cntU P + cntU L) = gt B 0 := by
  rw [h.tk, ← h.la, show cntU L = ((toks (joinU L)).map (shT d)).length by rw [List.length_map, cntU_joinU], gt_l4]
theorem cntU_pos {L : List (List UInt8)} (g : Good L) (h : L ≠ []) : 0 < cntU L := by
  have := toks_pos (joinU_valid g h); rw [cntU_joinU] at this; exact this
theorem Mid.slice {s : List UInt8} {P L Q : List (List UInt8)} {A B : List Tok} {d : Nat} (h : Mid s P L Q A B d) (g : Good L) (hL : L ≠ []) : (s.drop (gt (toks s) (cntU P)).a).take ((gt (toks s) (cntU P + (cntU L - 1))).e - (gt (toks s) (cntU P)).a) = joinU L := by
  have hp := cntU_pos g hL
  have hv := joinU_valid g hL
  have h0 := h.at (i := 0) hp
  have h1 := h.at (i := cntU L - 1) (by omega)
  have f0 := tok_first hv
  have f1 := tok_last hv
  rw [cntU_joinU] at f1
  rw [Nat.add_zero] at h0
  rw [h0, h1]
  show (s.drop ((gt (toks (joinU L)) 0).a + d)).take ((gt (toks (joinU L)) (cntU L - 1)).e + d - ((gt (toks (joinU L)) 0).a + d)) = _
  rw [f0, f1, Nat.zero_add, Nat.add_sub_cancel]
  exact h.tx
theorem part_mid {P L Q : List (List UInt8)} (hL : L ≠ []) (gL : Good L) (gQ : Good Q) : part (joinU (P ++ (L ++ Q))) ((cntU P : Nat) : Int) ((cntU P + cntU L : Nat) : Int) = joinU L := by
  obtain ⟨A, B, d, h⟩ := mid (P := P) hL gQ
  have hp := cntU_pos gL hL
  have hl := h.len
  rw [part_ok (by omega) (by omega), show cntU P + cntU L - 1 = cntU P + (cntU L - 1) by omega]
  exact h.slice gL hL
theorem unit_tight {u : List UInt8} (h : ∀ c ∈ u, c ≠ 32) (i : Nat) (hi : i + 1 < (toks u).length) : (gt (toks u) i).e = (gt (toks u) (i + 1)).a := by
  obtain ⟨⟨h1, h2, h3, _⟩, h4⟩ := toks_at u (i + 1) hi
  have h4 := h4.1
  rw [preE_S] at h1 h4
  rcases Nat.lt_or_ge (gt (toks u) i).e (gt (toks u) (i + 1)).a with hlt | hge
  · have e := h4 (gt (toks u) i).e (Nat.le_refl _) hlt
    exact absurd e (h _ (gt_memT (by omega)))
  · omega
theorem unR_in {P Q : List (List UInt8)} {u : List UInt8} (gu : Good [u]) (gQ : Good Q) {s : List UInt8} (hs : s = joinU (P ++ ([u] ++ Q))) (h0 : unR s (toks s) (cntU P) = (cntU P, P)) : unR s (toks s) (cntU (P ++ [u])) = (cntU (P ++ [u]), P ++ [u]) := by
  obtain ⟨A, B, d, h⟩ := mid (P := P) (L := [u]) (Q := Q) (by simp) gQ
  rw [← hs] at h
  have hp := cntU_pos gu (by simp)
  have hl := h.len
  have run : ∀ i, i < cntU [u] → unR s (toks s) (cntU P + i) = (cntU P, P) := by
    intro i
    induction i with
    | zero => intro _; exact h0
    | succ i ih =>
      intro hi
      have e := ih (by omega)
      rw [← Nat.add_assoc, unR_F, e]
      have a1 := h.at (i := i) (by omega)
      have a2 := h.at (i := i + 1) hi
      have ht := unit_tight (gu.nb u (by simp)) i (by rw [← cntU_one u]; exact hi)
      unfold lastT
      rw [a1, Nat.add_assoc, a2, decide_eq_false (by omega)]
      show ¬ (false || decide ((gt (toks u) i).e + d < (gt (toks u) (i + 1)).a + d)) = true
      rw [ht, decide_eq_false (by omega)]; simp
  have e := run (cntU [u] - 1) (by omega)
  have hlast : lastT (toks s) (cntU P + (cntU [u] - 1)) = true := by
    have a1 := h.at (i := cntU [u] - 1) (by omega)
    have a3 := h.aft
    unfold lastT
    by_cases hQ : Q = []
    · rw [h.b0 hQ, List.length_nil] at hl
      rw [decide_eq_true (by omega)]; rfl
    · have hb := (h.b1 hQ).2
      have f1 := tok_last (joinU_valid gu (by simp))
      rw [cntU_joinU] at f1
      rw [show cntU P + (cntU [u] - 1) + 1 = cntU P + cntU [u] by omega, a3, a1]
      have : (shT d (gt (toks (joinU [u])) (cntU [u] - 1))).e = (joinU [u]).length + d := congrArg (· + d) f1
      rw [this, decide_eq_true (by omega : (joinU [u]).length + d < (gt B 0).a), Bool.or_true]
  rw [cntU_app, show cntU P + cntU [u] = cntU P + (cntU [u] - 1) + 1 by omega, unR_T hlast, e]
  have hsl := h.slice gu (by simp)
  rw [joinU_one] at hsl
  simp only []
  rw [hsl]
theorem units_joinU {us : List (List UInt8)} (g : Good us) : unitsT (joinU us) = us := by
  have all : ∀ j, j ≤ us.length → unR (joinU us) (toks (joinU us)) (cntU (us.take j)) = (cntU (us.take j), us.take j) := by
    intro j
    induction j with
    | zero => intro _; rfl
    | succ j ih =>
      intro hj
      have e := take_snoc us j (by omega)
      have hd : us = us.take j ++ ([gt us j] ++ us.drop (j + 1)) := by
        rw [← List.append_assoc, ← e, List.take_append_drop]
      have gu : Good [gt us j] := g.sub (fun u hu => by rw [List.mem_singleton] at hu; subst hu; exact gt_memT (by omega)) (by simp; omega)
      rw [e]
      exact unR_in gu (g.drop (j + 1)) (congrArg joinU hd) (ih (by omega))
  have := all us.length (Nat.le_refl _)
  rw [List.take_length] at this
  unfold unitsT
  rw [cntU_joinU, this]
end Go.Sx
