/-
  Package token: what the laws' texts are made with.
-/
import Derived.Test.YtmeplkkhnpcldaaPas
set_option linter.unusedSimpArgs false
set_option linter.unusedVariables false
namespace Go.Sx
open Go.RowKit Go.Proofs
def LI (l : List Int) : Prop := l.length ≤ 9223372036854775807 ∧ ∀ i, i < l.length → -9223372036854775808 ≤ gt l i ∧ gt l i ≤ 9223372036854775807
theorem capC_T {c : UInt8} (h1 : UInt8.ofNat 97 ≤ c) (h2 : c ≤ UInt8.ofNat 122) : c - UInt8.ofNat 97 + UInt8.ofNat 65 = capC c := by
  unfold capC; exact (if_pos (c := 97 ≤ c ∧ c ≤ 122) ⟨h1, h2⟩).symm
theorem capC_F {c : UInt8} (h : ¬ (UInt8.ofNat 97 ≤ c ∧ c ≤ UInt8.ofNat 122)) : c = capC c := by
  unfold capC; exact (if_neg h).symm
theorem capT_set {w : List UInt8} (h : 0 < w.length) : w.set 0 (capC (gt w 0)) = capT w := by
  cases w with
  | nil => simp at h
  | cons c r => rfl
theorem capT_F {w : List UInt8} (h : ¬ (UInt8.ofNat 97 ≤ gt w 0 ∧ gt w 0 ≤ UInt8.ofNat 122)) : w = capT w := by
  cases w with
  | nil => rfl
  | cons c r => exact congrArg (fun z => z :: r) (capC_F h)
theorem capT_len (w : List UInt8) : (capT w).length = w.length := by cases w <;> rfl
theorem str_cong {x y : List UInt8} (h : x = y) : (some (C.val (str x))) = some (C.val (str y)) := by rw [h]
set_option maxRecDepth 100000 in
set_option maxHeartbeats 8000000 in
theorem fc19 {gl : Nat → C} {M : Nat} {pu : Nat → List C → Option C}  (hcx : CxOK (cxP gl M pu)) (n : Int) (m : Nat) (hn : -9223372036854775808 ≤ n ∧ n ≤ 9223372036854775807 ∧ 0 < m ∧ m ≤ 9223372036854775807) : FC Try.prog gl 19 [.val (.int .i64 n), .val (nI m)] [] (.val (nI (aroundI n m))) [] := by
 replace hcx := hcx.reN (M := 13)
 refine FC.ofA (cx := cxP gl 13 pu) (rs := [.tmp 4]) rfl Try.func19 rfl rfl rfl (by simp only [List.length_cons, List.length_nil]; decide) (by simp only [go_sem]) ?_
 simp only [ini, go_sem]
 refine Tr.seqK fun K1 hK1 => ?_
 refine Tr.rg hcx [] _ [] rfl rfl rfl ?_
 simp -implicitDefEqProofs (maxSteps := 2000000) (disch := first | omega | (simp only [go_sem, List.length_append, List.length_drop, List.length_take] <;> omega) | decide) only [go_sem, ↓reduceIte, Nat.reduceEqDiff, reduceCtorEq, Nat.reduceLT, Nat.reduceBEq, Nat.reduceAdd, Nat.reduceSub, Nat.reduceMul, Nat.reduceMod]
 refine hK1 _ ?_
 clear hK1 K1
 refine Tr.kp [0, 1] ?_
 simp only [pk_cons, pk_nil, ↓A_cons, ↓reduceIte, Nat.reduceEqDiff]
 refine Tr.seqK fun K2 hK2 => ?_
 refine Tr.seqK fun K3 hK3 => ?_
 refine Tr.rg hcx [] _ [] rfl rfl rfl ?_
 simp -implicitDefEqProofs (maxSteps := 2000000) (disch := first | omega | (simp only [go_sem, List.length_append, List.length_drop, List.length_take] <;> omega) | decide) only [go_sem, ↓reduceIte, Nat.reduceEqDiff, reduceCtorEq, Nat.reduceLT, Nat.reduceBEq, Nat.reduceAdd, Nat.reduceSub, Nat.reduceMul, Nat.reduceMod]
 refine hK3 _ ?_
 clear hK3 K3
 refine Tr.kp [0, 1, 6] ?_
 simp only [pk_cons, pk_nil, ↓A_cons, ↓reduceIte, Nat.reduceEqDiff]
 refine Tr.condG fun KT KF hT hF => ?_
 simp only [ev_tmp, ev_const, ↓A_cons, ↓reduceIte, Nat.reduceEqDiff, reduceCtorEq, condG_bool, GB_true, GB_false, decide_eq_true_eq]
 refine GB.dec (fun hc6 => hT ?_) (fun hc6 => hF ?_)
 ·
  clear hT hF KT KF
  refine Tr.rg hcx [1000009] _ [] rfl rfl rfl ?_
  simp -implicitDefEqProofs (maxSteps := 2000000) (disch := first | omega | (simp only [go_sem, List.length_append, List.length_drop, List.length_take] <;> omega) | decide) only [go_sem, ↓reduceIte, Nat.reduceEqDiff, reduceCtorEq, Nat.reduceLT, Nat.reduceBEq, Nat.reduceAdd, Nat.reduceSub, Nat.reduceMul, Nat.reduceMod]
  refine hK2 _ ?_
  clear hK2 K2
  refine Tr.kp [0, 1] ?_
  simp only [pk_cons, pk_nil, ↓A_cons, ↓reduceIte, Nat.reduceEqDiff]
  refine Tr.seqK fun K4 hK4 => ?_
  refine Tr.rg hcx [1000012] _ [] rfl rfl rfl ?_
  simp -implicitDefEqProofs (maxSteps := 2000000) (disch := first | omega | (simp only [go_sem, List.length_append, List.length_drop, List.length_take] <;> omega) | decide) only [go_sem, ↓reduceIte, Nat.reduceEqDiff, reduceCtorEq, Nat.reduceLT, Nat.reduceBEq, Nat.reduceAdd, Nat.reduceSub, Nat.reduceMul, Nat.reduceMod]
  refine hK4 _ ?_
  clear hK4 K4
  refine Tr.kp [4] ?_
  simp only [pk_cons, pk_nil, ↓A_cons, ↓reduceIte, Nat.reduceEqDiff]
  refine Tr.ret ?_
  simp -implicitDefEqProofs (disch := first | omega | (simp only [go_sem, List.length_append, List.length_drop, List.length_take] <;> omega) | decide) only [go_sem, ↓reduceIte, Nat.reduceEqDiff, reduceCtorEq]
  all_goals (exact congrArg (fun z => some (C.val (.int .i64 z))) (by rw [around_int]; first | (rw [if_pos (by omega)]; rfl) | rw [if_neg (by omega)]))
 ·
  clear hT hF KT KF
  refine Tr.skip ?_
  refine hK2 _ ?_
  clear hK2 K2
  refine Tr.kp [0, 1] ?_
  simp only [pk_cons, pk_nil, ↓A_cons, ↓reduceIte, Nat.reduceEqDiff]
  refine Tr.seqK fun K5 hK5 => ?_
  refine Tr.rg hcx [1000012] _ [] rfl rfl rfl ?_
  simp -implicitDefEqProofs (maxSteps := 2000000) (disch := first | omega | (simp only [go_sem, List.length_append, List.length_drop, List.length_take] <;> omega) | decide) only [go_sem, ↓reduceIte, Nat.reduceEqDiff, reduceCtorEq, Nat.reduceLT, Nat.reduceBEq, Nat.reduceAdd, Nat.reduceSub, Nat.reduceMul, Nat.reduceMod]
  refine hK5 _ ?_
  clear hK5 K5
  refine Tr.kp [4] ?_
  simp only [pk_cons, pk_nil, ↓A_cons, ↓reduceIte, Nat.reduceEqDiff]
  refine Tr.ret ?_
  simp -implicitDefEqProofs (disch := first | omega | (simp only [go_sem, List.length_append, List.length_drop, List.length_take] <;> omega) | decide) only [go_sem, ↓reduceIte, Nat.reduceEqDiff, reduceCtorEq]
  all_goals (exact congrArg (fun z => some (C.val (.int .i64 z))) (by rw [around_int]; first | (rw [if_pos (by omega)]; rfl) | rw [if_neg (by omega)]))
set_option maxRecDepth 100000 in
set_option maxHeartbeats 8000000 in
theorem fc54 {gl : Nat → C} {M : Nat} {pu : Nat → List C → Option C}  (hcx : CxOK (cxP gl M pu)) (h19 : ∀ (n : Int) (m : Nat), -9223372036854775808 ≤ n ∧ n ≤ 9223372036854775807 ∧ 0 < m ∧ m ≤ 9223372036854775807 → pu 19 [.val (.int .i64 n), .val (nI m)] = some (.val (nI (aroundI n m)))) (l : List Int) (i m : Nat) (hl : LI l) (hi : i ≤ 1000000) (hm : 0 < m ∧ m ≤ 9223372036854775807) : FC Try.prog gl 54 [sl iC .no l, .val (nI i), .val (nI m)] [] (.val (nI (atI l i m))) [] := by
 replace hcx := hcx.reN (M := 21)
 refine FC.ofA (cx := cxP gl 21 pu) (rs := [.tmp 6]) rfl Try.func54 rfl rfl rfl (by simp only [List.length_cons, List.length_nil]; decide) (by simp only [go_sem]) ?_
 simp only [ini, go_sem]
 have hl1 := hl.1
 refine Tr.seqK fun K1 hK1 => ?_
 refine Tr.rg hcx [] _ [] rfl rfl rfl ?_
 simp -implicitDefEqProofs (maxSteps := 2000000) (disch := first | omega | (simp only [go_sem, List.length_append, List.length_drop, List.length_take] <;> omega) | decide) only [go_sem, ↓reduceIte, Nat.reduceEqDiff, reduceCtorEq, Nat.reduceLT, Nat.reduceBEq, Nat.reduceAdd, Nat.reduceSub, Nat.reduceMul, Nat.reduceMod, h19, Nat.not_lt_zero]
 refine hK1 _ ?_
 clear hK1 K1
 refine Tr.kp [0, 1, 2] ?_
 simp only [pk_cons, pk_nil, ↓A_cons, ↓reduceIte, Nat.reduceEqDiff]
 refine Tr.seqK fun K2 hK2 => ?_
 refine Tr.seqK fun K3 hK3 => ?_
 refine Tr.rg hcx [] [some 7, some 8, some 9, some 10, some 11, some 12, some 13, some 14] [] rfl rfl rfl ?_
 simp -implicitDefEqProofs (maxSteps := 2000000) (disch := first | omega | (simp only [go_sem, List.length_append, List.length_drop, List.length_take] <;> omega) | decide) only [go_sem, ↓reduceIte, Nat.reduceEqDiff, reduceCtorEq, Nat.reduceLT, Nat.reduceBEq, Nat.reduceAdd, Nat.reduceSub, Nat.reduceMul, Nat.reduceMod, h19, Nat.not_lt_zero]
 refine hK3 _ ?_
 clear hK3 K3
 refine Tr.kp [0, 1, 2, 14] ?_
 simp only [pk_cons, pk_nil, ↓A_cons, ↓reduceIte, Nat.reduceEqDiff]
 refine Tr.condG fun KT KF hT hF => ?_
 simp only [ev_tmp, ev_const, ↓A_cons, ↓reduceIte, Nat.reduceEqDiff, reduceCtorEq, condG_bool, GB_true, GB_false, decide_eq_true_eq]
 refine GB.dec (fun hc14 => hT ?_) (fun hc14 => hF ?_)
 ·
  clear hT hF KT KF
  refine Tr.seqK fun K4 hK4 => ?_
  refine Tr.rg hcx [] _ [] rfl rfl rfl ?_
  simp -implicitDefEqProofs (maxSteps := 2000000) (disch := first | omega | (simp only [go_sem, List.length_append, List.length_drop, List.length_take] <;> omega) | decide) only [go_sem, ↓reduceIte, Nat.reduceEqDiff, reduceCtorEq, Nat.reduceLT, Nat.reduceBEq, Nat.reduceAdd, Nat.reduceSub, Nat.reduceMul, Nat.reduceMod, h19, Nat.not_lt_zero]
  refine hK4 _ ?_
  clear hK4 K4
  refine Tr.kp [6] ?_
  simp only [pk_cons, pk_nil, ↓A_cons, ↓reduceIte, Nat.reduceEqDiff]
  refine Tr.ret ?_
  simp -implicitDefEqProofs (disch := first | omega | (simp only [go_sem, List.length_append, List.length_drop, List.length_take] <;> omega) | decide) only [go_sem, ↓reduceIte, Nat.reduceEqDiff, reduceCtorEq]
  all_goals (exact congrArg (fun z => some (C.val (nI z))) (by unfold atI; first | rw [if_pos hc14] | rw [if_neg hc14]))
 ·
  clear hT hF KT KF
  have hb1 := hl.2 i (by omega)
  refine Tr.skip ?_
  refine hK2 _ ?_
  clear hK2 K2
  refine Tr.kp [0, 1, 2] ?_
  simp only [pk_cons, pk_nil, ↓A_cons, ↓reduceIte, Nat.reduceEqDiff]
  refine Tr.seqK fun K5 hK5 => ?_
  refine Tr.rg hcx [1000020] _ [] rfl rfl rfl ?_
  simp -implicitDefEqProofs (maxSteps := 2000000) (disch := first | omega | (simp only [go_sem, List.length_append, List.length_drop, List.length_take] <;> omega) | decide) only [go_sem, ↓reduceIte, Nat.reduceEqDiff, reduceCtorEq, Nat.reduceLT, Nat.reduceBEq, Nat.reduceAdd, Nat.reduceSub, Nat.reduceMul, Nat.reduceMod, h19, Nat.not_lt_zero]
  refine hK5 _ ?_
  clear hK5 K5
  refine Tr.kp [6] ?_
  simp only [pk_cons, pk_nil, ↓A_cons, ↓reduceIte, Nat.reduceEqDiff]
  refine Tr.ret ?_
  simp -implicitDefEqProofs (disch := first | omega | (simp only [go_sem, List.length_append, List.length_drop, List.length_take] <;> omega) | decide) only [go_sem, ↓reduceIte, Nat.reduceEqDiff, reduceCtorEq]
  all_goals (exact congrArg (fun z => some (C.val (nI z))) (by unfold atI; first | rw [if_pos hc14] | rw [if_neg hc14]))
set_option maxRecDepth 100000 in
set_option maxHeartbeats 8000000 in
theorem fc60 {gl : Nat → C} {M : Nat} {pu : Nat → List C → Option C}  (hcx : CxOK (cxP gl M pu)) (w : List UInt8) (hw : w.length ≤ 1000000) : FC Try.prog gl 60 [.val (str w)] [] (.val (str (capT w))) [] := by
 replace hcx := hcx.reN (M := 30)
 refine FC.ofA (cx := cxP gl 30 pu) (rs := [.tmp 2]) rfl Try.func60 rfl rfl rfl (by simp only [List.length_cons, List.length_nil]; decide) (by simp only [go_sem]) ?_
 simp only [ini, go_sem]
 refine Tr.seqK fun K1 hK1 => ?_
 refine Tr.rg hcx [] _ [] rfl rfl rfl ?_
 simp -implicitDefEqProofs (maxSteps := 2000000) (disch := first | omega | (simp only [go_sem, List.length_append, List.length_drop, List.length_take] <;> omega) | decide) only [go_sem, ↓reduceIte, Nat.reduceEqDiff, reduceCtorEq, Nat.reduceLT, Nat.reduceBEq, Nat.reduceAdd, Nat.reduceSub, Nat.reduceMul, Nat.reduceMod, Nat.zero_add, Nat.mul_one, Nat.zero_mul]
 refine hK1 _ ?_
 clear hK1 K1
 refine Tr.kp [0] ?_
 simp only [pk_cons, pk_nil, ↓A_cons, ↓reduceIte, Nat.reduceEqDiff]
 refine Tr.seqK fun K2 hK2 => ?_
 refine Tr.rgG hcx [5] [1000005] _ [] rfl rfl rfl ?_
 simp -implicitDefEqProofs (maxSteps := 2000000) (disch := first | omega | (simp only [go_sem, List.length_append, List.length_drop, List.length_take] <;> omega) | decide) only [go_sem, ↓reduceIte, Nat.reduceEqDiff, reduceCtorEq, Nat.reduceLT, Nat.reduceBEq, Nat.reduceAdd, Nat.reduceSub, Nat.reduceMul, Nat.reduceMod, Nat.zero_add, Nat.mul_one, Nat.zero_mul]
 refine hK2 _ ?_
 clear hK2 K2
 refine Tr.kp [3] ?_
 simp only [pk_cons, pk_nil, ↓A_cons, ↓reduceIte, Nat.reduceEqDiff]
 refine Tr.seqK fun K3 hK3 => ?_
 refine Tr.seqK fun K4 hK4 => ?_
 by_cases b1 : 0 < w.length
 ·
  by_cases b2 : UInt8.ofNat 97 ≤ gt w 0
  ·
   by_cases b3 : gt w 0 ≤ UInt8.ofNat 122
   ·
    refine Tr.rg hcx [] [some 6, some 7, some 8, some 9, some 10, some 11, some 12, some 13, some 14, some 15, some 16, some 17, some 18, some 19, some 20] [] rfl rfl rfl ?_
    simp -implicitDefEqProofs (maxSteps := 2000000) (disch := first | omega | (simp only [go_sem, List.length_append, List.length_drop, List.length_take] <;> omega) | decide) only [go_sem, ↓reduceIte, Nat.reduceEqDiff, reduceCtorEq, Nat.reduceLT, Nat.reduceBEq, Nat.reduceAdd, Nat.reduceSub, Nat.reduceMul, Nat.reduceMod, Nat.zero_add, Nat.mul_one, Nat.zero_mul, b1, b2, b3]
    refine hK4 _ ?_
    clear hK4 K4
    refine Tr.kp [3, 20] ?_
    simp only [pk_cons, pk_nil, ↓A_cons, ↓reduceIte, Nat.reduceEqDiff]
    refine Tr.condG fun KT KF hT hF => ?_
    simp only [ev_tmp, ev_const, ↓A_cons, ↓reduceIte, Nat.reduceEqDiff, reduceCtorEq, condG_bool, GB_true, GB_false, decide_eq_true_eq]
    refine hT ?_
    clear hT hF KT KF
    refine Tr.rg hcx [] _ [] rfl rfl rfl ?_
    simp -implicitDefEqProofs (maxSteps := 2000000) (disch := first | omega | (simp only [go_sem, List.length_append, List.length_drop, List.length_take] <;> omega) | decide) only [go_sem, ↓reduceIte, Nat.reduceEqDiff, reduceCtorEq, Nat.reduceLT, Nat.reduceBEq, Nat.reduceAdd, Nat.reduceSub, Nat.reduceMul, Nat.reduceMod, Nat.zero_add, Nat.mul_one, Nat.zero_mul, b1, b2, b3]
    refine hK3 _ ?_
    clear hK3 K3
    refine Tr.kp [3] ?_
    simp only [pk_cons, pk_nil, ↓A_cons, ↓reduceIte, Nat.reduceEqDiff]
    refine Tr.seqK fun K5 hK5 => ?_
    refine Tr.rg hcx [1000029] _ [] rfl rfl rfl ?_
    simp -implicitDefEqProofs (maxSteps := 2000000) (disch := first | omega | (simp only [go_sem, List.length_append, List.length_drop, List.length_take] <;> omega) | decide) only [go_sem, ↓reduceIte, Nat.reduceEqDiff, reduceCtorEq, Nat.reduceLT, Nat.reduceBEq, Nat.reduceAdd, Nat.reduceSub, Nat.reduceMul, Nat.reduceMod, Nat.zero_add, Nat.mul_one, Nat.zero_mul, b1, b2, b3]
    refine hK5 _ ?_
    clear hK5 K5
    refine Tr.kp [2] ?_
    simp only [pk_cons, pk_nil, ↓A_cons, ↓reduceIte, Nat.reduceEqDiff]
    refine Tr.ret ?_
    simp -implicitDefEqProofs (disch := first | omega | (simp only [go_sem, List.length_append, List.length_drop, List.length_take] <;> omega) | decide) only [go_sem, ↓reduceIte, Nat.reduceEqDiff, reduceCtorEq]
    all_goals (first | exact str_cong (by rw [capC_T b2 b3, capT_set b1, List.take_of_length_le (by rw [capT_len]; exact Nat.le_refl _)]) | exact str_cong (by rw [← capT_F (by intro hh; first | exact b2 hh.1 | exact b3 hh.2), List.take_length]) | exact str_cong (by cases w with | nil => rfl | cons c r => exact absurd (Nat.succ_pos _) b1))
   ·
    refine Tr.rg hcx [] [some 6, some 7, some 8, some 9, some 10, some 11, some 12, some 13, some 14, some 15, some 16, some 17, some 18, some 19, some 20] [] rfl rfl rfl ?_
    simp -implicitDefEqProofs (maxSteps := 2000000) (disch := first | omega | (simp only [go_sem, List.length_append, List.length_drop, List.length_take] <;> omega) | decide) only [go_sem, ↓reduceIte, Nat.reduceEqDiff, reduceCtorEq, Nat.reduceLT, Nat.reduceBEq, Nat.reduceAdd, Nat.reduceSub, Nat.reduceMul, Nat.reduceMod, Nat.zero_add, Nat.mul_one, Nat.zero_mul, b1, b2, b3]
    refine hK4 _ ?_
    clear hK4 K4
    refine Tr.kp [3, 20] ?_
    simp only [pk_cons, pk_nil, ↓A_cons, ↓reduceIte, Nat.reduceEqDiff]
    refine Tr.condG fun KT KF hT hF => ?_
    simp only [ev_tmp, ev_const, ↓A_cons, ↓reduceIte, Nat.reduceEqDiff, reduceCtorEq, condG_bool, GB_true, GB_false, decide_eq_true_eq]
    refine hF ?_
    clear hT hF KT KF
    refine Tr.skip ?_
    refine hK3 _ ?_
    clear hK3 K3
    refine Tr.kp [3] ?_
    simp only [pk_cons, pk_nil, ↓A_cons, ↓reduceIte, Nat.reduceEqDiff]
    refine Tr.seqK fun K6 hK6 => ?_
    refine Tr.rg hcx [1000029] _ [] rfl rfl rfl ?_
    simp -implicitDefEqProofs (maxSteps := 2000000) (disch := first | omega | (simp only [go_sem, List.length_append, List.length_drop, List.length_take] <;> omega) | decide) only [go_sem, ↓reduceIte, Nat.reduceEqDiff, reduceCtorEq, Nat.reduceLT, Nat.reduceBEq, Nat.reduceAdd, Nat.reduceSub, Nat.reduceMul, Nat.reduceMod, Nat.zero_add, Nat.mul_one, Nat.zero_mul, b1, b2, b3]
    refine hK6 _ ?_
    clear hK6 K6
    refine Tr.kp [2] ?_
    simp only [pk_cons, pk_nil, ↓A_cons, ↓reduceIte, Nat.reduceEqDiff]
    refine Tr.ret ?_
    simp -implicitDefEqProofs (disch := first | omega | (simp only [go_sem, List.length_append, List.length_drop, List.length_take] <;> omega) | decide) only [go_sem, ↓reduceIte, Nat.reduceEqDiff, reduceCtorEq]
    all_goals (first | exact str_cong (by rw [capC_T b2 b3, capT_set b1, List.take_of_length_le (by rw [capT_len]; exact Nat.le_refl _)]) | exact str_cong (by rw [← capT_F (by intro hh; first | exact b2 hh.1 | exact b3 hh.2), List.take_length]) | exact str_cong (by cases w with | nil => rfl | cons c r => exact absurd (Nat.succ_pos _) b1))
  ·
   refine Tr.rg hcx [] [some 6, some 7, some 8, some 9, some 10, some 11, some 12, some 13, some 14, some 15, some 16, some 17, some 18, some 19, some 20] [] rfl rfl rfl ?_
   simp -implicitDefEqProofs (maxSteps := 2000000) (disch := first | omega | (simp only [go_sem, List.length_append, List.length_drop, List.length_take] <;> omega) | decide) only [go_sem, ↓reduceIte, Nat.reduceEqDiff, reduceCtorEq, Nat.reduceLT, Nat.reduceBEq, Nat.reduceAdd, Nat.reduceSub, Nat.reduceMul, Nat.reduceMod, Nat.zero_add, Nat.mul_one, Nat.zero_mul, b1, b2]
   refine hK4 _ ?_
   clear hK4 K4
   refine Tr.kp [3, 20] ?_
   simp only [pk_cons, pk_nil, ↓A_cons, ↓reduceIte, Nat.reduceEqDiff]
   refine Tr.condG fun KT KF hT hF => ?_
   simp only [ev_tmp, ev_const, ↓A_cons, ↓reduceIte, Nat.reduceEqDiff, reduceCtorEq, condG_bool, GB_true, GB_false, decide_eq_true_eq]
   refine hF ?_
   clear hT hF KT KF
   refine Tr.skip ?_
   refine hK3 _ ?_
   clear hK3 K3
   refine Tr.kp [3] ?_
   simp only [pk_cons, pk_nil, ↓A_cons, ↓reduceIte, Nat.reduceEqDiff]
   refine Tr.seqK fun K7 hK7 => ?_
   refine Tr.rg hcx [1000029] _ [] rfl rfl rfl ?_
   simp -implicitDefEqProofs (maxSteps := 2000000) (disch := first | omega | (simp only [go_sem, List.length_append, List.length_drop, List.length_take] <;> omega) | decide) only [go_sem, ↓reduceIte, Nat.reduceEqDiff, reduceCtorEq, Nat.reduceLT, Nat.reduceBEq, Nat.reduceAdd, Nat.reduceSub, Nat.reduceMul, Nat.reduceMod, Nat.zero_add, Nat.mul_one, Nat.zero_mul, b1, b2]
   refine hK7 _ ?_
   clear hK7 K7
   refine Tr.kp [2] ?_
   simp only [pk_cons, pk_nil, ↓A_cons, ↓reduceIte, Nat.reduceEqDiff]
   refine Tr.ret ?_
   simp -implicitDefEqProofs (disch := first | omega | (simp only [go_sem, List.length_append, List.length_drop, List.length_take] <;> omega) | decide) only [go_sem, ↓reduceIte, Nat.reduceEqDiff, reduceCtorEq]
   all_goals (first | exact str_cong (by rw [capC_T b2 b3, capT_set b1, List.take_of_length_le (by rw [capT_len]; exact Nat.le_refl _)]) | exact str_cong (by rw [← capT_F (by intro hh; first | exact b2 hh.1 | exact b3 hh.2), List.take_length]) | exact str_cong (by cases w with | nil => rfl | cons c r => exact absurd (Nat.succ_pos _) b1))
 ·
  refine Tr.rg hcx [] [some 6, some 7, some 8, some 9, some 10, some 11, some 12, some 13, some 14, some 15, some 16, some 17, some 18, some 19, some 20] [] rfl rfl rfl ?_
  simp -implicitDefEqProofs (maxSteps := 2000000) (disch := first | omega | (simp only [go_sem, List.length_append, List.length_drop, List.length_take] <;> omega) | decide) only [go_sem, ↓reduceIte, Nat.reduceEqDiff, reduceCtorEq, Nat.reduceLT, Nat.reduceBEq, Nat.reduceAdd, Nat.reduceSub, Nat.reduceMul, Nat.reduceMod, Nat.zero_add, Nat.mul_one, Nat.zero_mul, b1]
  refine hK4 _ ?_
  clear hK4 K4
  refine Tr.kp [3, 20] ?_
  simp only [pk_cons, pk_nil, ↓A_cons, ↓reduceIte, Nat.reduceEqDiff]
  refine Tr.condG fun KT KF hT hF => ?_
  simp only [ev_tmp, ev_const, ↓A_cons, ↓reduceIte, Nat.reduceEqDiff, reduceCtorEq, condG_bool, GB_true, GB_false, decide_eq_true_eq]
  refine hF ?_
  clear hT hF KT KF
  refine Tr.skip ?_
  refine hK3 _ ?_
  clear hK3 K3
  refine Tr.kp [3] ?_
  simp only [pk_cons, pk_nil, ↓A_cons, ↓reduceIte, Nat.reduceEqDiff]
  refine Tr.seqK fun K8 hK8 => ?_
  refine Tr.rg hcx [1000029] _ [] rfl rfl rfl ?_
  simp -implicitDefEqProofs (maxSteps := 2000000) (disch := first | omega | (simp only [go_sem, List.length_append, List.length_drop, List.length_take] <;> omega) | decide) only [go_sem, ↓reduceIte, Nat.reduceEqDiff, reduceCtorEq, Nat.reduceLT, Nat.reduceBEq, Nat.reduceAdd, Nat.reduceSub, Nat.reduceMul, Nat.reduceMod, Nat.zero_add, Nat.mul_one, Nat.zero_mul, b1]
  refine hK8 _ ?_
  clear hK8 K8
  refine Tr.kp [2] ?_
  simp only [pk_cons, pk_nil, ↓A_cons, ↓reduceIte, Nat.reduceEqDiff]
  refine Tr.ret ?_
  simp -implicitDefEqProofs (disch := first | omega | (simp only [go_sem, List.length_append, List.length_drop, List.length_take] <;> omega) | decide) only [go_sem, ↓reduceIte, Nat.reduceEqDiff, reduceCtorEq]
  all_goals (first | exact str_cong (by rw [capC_T b2 b3, capT_set b1, List.take_of_length_le (by rw [capT_len]; exact Nat.le_refl _)]) | exact str_cong (by rw [← capT_F (by intro hh; first | exact b2 hh.1 | exact b3 hh.2), List.take_length]) | exact str_cong (by cases w with | nil => rfl | cons c r => exact absurd (Nat.succ_pos _) b1))
set_option maxRecDepth 100000 in
set_option maxHeartbeats 8000000 in
theorem fc56 {gl : Nat → C} {M : Nat} {pu : Nat → List C → Option C}  (hcx : CxOK (cxP gl M pu)) (h60 : ∀ w : List UInt8, w.length ≤ 1000000 → pu 60 [.val (str w)] = some (.val (str (capT w)))) (w : List UInt8) (n : Nat) (hw : w.length ≤ 1000000) (hn : n ≤ 1000000) : FC Try.prog gl 56 [.val (str w), .val (nI n)] [] (.val (str (dresT w n))) [] := by
 replace hcx := hcx.reN (M := 33)
 refine FC.ofA (cx := cxP gl 33 pu) (rs := [.tmp 4]) rfl Try.func56 rfl rfl rfl (by simp only [List.length_cons, List.length_nil]; decide) (by simp only [go_sem]) ?_
 simp only [ini, go_sem]
 refine Tr.seqK fun K1 hK1 => ?_
 refine Tr.rg hcx [] _ [] rfl rfl rfl ?_
 simp -implicitDefEqProofs (maxSteps := 2000000) (disch := first | omega | (simp only [go_sem, List.length_append, List.length_drop, List.length_take, capT_len] <;> omega) | decide) only [go_sem, ↓reduceIte, Nat.reduceEqDiff, reduceCtorEq, Nat.reduceLT, Nat.reduceBEq, Nat.reduceAdd, Nat.reduceSub, Nat.reduceMul, Nat.reduceMod, h60]
 refine hK1 _ ?_
 clear hK1 K1
 refine Tr.kp [0, 1] ?_
 simp only [pk_cons, pk_nil, ↓A_cons, ↓reduceIte, Nat.reduceEqDiff]
 refine Tr.seqK fun K2 hK2 => ?_
 refine Tr.seqK fun K3 hK3 => ?_
 refine Tr.rg hcx [] _ [] rfl rfl rfl ?_
 simp -implicitDefEqProofs (maxSteps := 2000000) (disch := first | omega | (simp only [go_sem, List.length_append, List.length_drop, List.length_take, capT_len] <;> omega) | decide) only [go_sem, ↓reduceIte, Nat.reduceEqDiff, reduceCtorEq, Nat.reduceLT, Nat.reduceBEq, Nat.reduceAdd, Nat.reduceSub, Nat.reduceMul, Nat.reduceMod, h60]
 refine hK3 _ ?_
 clear hK3 K3
 refine Tr.kp [0, 5] ?_
 simp only [pk_cons, pk_nil, ↓A_cons, ↓reduceIte, Nat.reduceEqDiff]
 refine Tr.blk ?_
 refine Tr.seqK fun K4 hK4 => ?_
 refine Tr.rg hcx [1000007] _ [] rfl rfl rfl ?_
 simp -implicitDefEqProofs (maxSteps := 2000000) (disch := first | omega | (simp only [go_sem, List.length_append, List.length_drop, List.length_take, capT_len] <;> omega) | decide) only [go_sem, ↓reduceIte, Nat.reduceEqDiff, reduceCtorEq, Nat.reduceLT, Nat.reduceBEq, Nat.reduceAdd, Nat.reduceSub, Nat.reduceMul, Nat.reduceMod, h60]
 refine hK4 _ ?_
 clear hK4 K4
 refine Tr.kp [0, 5, 6] ?_
 simp only [pk_cons, pk_nil, ↓A_cons, ↓reduceIte, Nat.reduceEqDiff]
 refine Tr.condG fun KT KF hT hF => ?_
 simp only [ev_tmp, ev_const, ↓A_cons, ↓reduceIte, Nat.reduceEqDiff, reduceCtorEq, condG_bool, GB_true, GB_false, decide_eq_true_eq]
 refine GB.dec (fun hc6 => hT ?_) (fun hc6 => hF ?_)
 ·
  clear hT hF KT KF
  refine Tr.seqK fun K5 hK5 => ?_
  refine Tr.rg hcx [1000009] _ [] rfl rfl rfl ?_
  simp -implicitDefEqProofs (maxSteps := 2000000) (disch := first | omega | (simp only [go_sem, List.length_append, List.length_drop, List.length_take, capT_len] <;> omega) | decide) only [go_sem, ↓reduceIte, Nat.reduceEqDiff, reduceCtorEq, Nat.reduceLT, Nat.reduceBEq, Nat.reduceAdd, Nat.reduceSub, Nat.reduceMul, Nat.reduceMod, h60]
  refine hK5 _ ?_
  clear hK5 K5
  refine Tr.kp [4] ?_
  simp only [pk_cons, pk_nil, ↓A_cons, ↓reduceIte, Nat.reduceEqDiff]
  refine Tr.ret ?_
  simp -implicitDefEqProofs (disch := first | omega | (simp only [go_sem, List.length_append, List.length_drop, List.length_take, capT_len] <;> omega) | decide) only [go_sem, ↓reduceIte, Nat.reduceEqDiff, reduceCtorEq]
  all_goals (exact str_cong (by unfold dresT; simp_all))
 ·
  clear hT hF KT KF
  refine Tr.seqK fun K6 hK6 => ?_
  refine Tr.rg hcx [1000011] _ [] rfl rfl rfl ?_
  simp -implicitDefEqProofs (maxSteps := 2000000) (disch := first | omega | (simp only [go_sem, List.length_append, List.length_drop, List.length_take, capT_len] <;> omega) | decide) only [go_sem, ↓reduceIte, Nat.reduceEqDiff, reduceCtorEq, Nat.reduceLT, Nat.reduceBEq, Nat.reduceAdd, Nat.reduceSub, Nat.reduceMul, Nat.reduceMod, h60]
  refine hK6 _ ?_
  clear hK6 K6
  refine Tr.kp [0, 5, 10] ?_
  simp only [pk_cons, pk_nil, ↓A_cons, ↓reduceIte, Nat.reduceEqDiff]
  refine Tr.condG fun KT KF hT hF => ?_
  simp only [ev_tmp, ev_const, ↓A_cons, ↓reduceIte, Nat.reduceEqDiff, reduceCtorEq, condG_bool, GB_true, GB_false, decide_eq_true_eq]
  refine GB.dec (fun hc10 => hT ?_) (fun hc10 => hF ?_)
  ·
   clear hT hF KT KF
   refine Tr.seqK fun K7 hK7 => ?_
   refine Tr.rg hcx [1000013] _ [] rfl rfl rfl ?_
   simp -implicitDefEqProofs (maxSteps := 2000000) (disch := first | omega | (simp only [go_sem, List.length_append, List.length_drop, List.length_take, capT_len] <;> omega) | decide) only [go_sem, ↓reduceIte, Nat.reduceEqDiff, reduceCtorEq, Nat.reduceLT, Nat.reduceBEq, Nat.reduceAdd, Nat.reduceSub, Nat.reduceMul, Nat.reduceMod, h60]
   refine hK7 _ ?_
   clear hK7 K7
   refine Tr.kp [4] ?_
   simp only [pk_cons, pk_nil, ↓A_cons, ↓reduceIte, Nat.reduceEqDiff]
   refine Tr.ret ?_
   simp -implicitDefEqProofs (disch := first | omega | (simp only [go_sem, List.length_append, List.length_drop, List.length_take, capT_len] <;> omega) | decide) only [go_sem, ↓reduceIte, Nat.reduceEqDiff, reduceCtorEq]
   all_goals (exact str_cong (by unfold dresT; simp_all))
  ·
   clear hT hF KT KF
   refine Tr.seqK fun K8 hK8 => ?_
   refine Tr.rg hcx [1000015] _ [] rfl rfl rfl ?_
   simp -implicitDefEqProofs (maxSteps := 2000000) (disch := first | omega | (simp only [go_sem, List.length_append, List.length_drop, List.length_take, capT_len] <;> omega) | decide) only [go_sem, ↓reduceIte, Nat.reduceEqDiff, reduceCtorEq, Nat.reduceLT, Nat.reduceBEq, Nat.reduceAdd, Nat.reduceSub, Nat.reduceMul, Nat.reduceMod, h60]
   refine hK8 _ ?_
   clear hK8 K8
   refine Tr.kp [0, 5, 14] ?_
   simp only [pk_cons, pk_nil, ↓A_cons, ↓reduceIte, Nat.reduceEqDiff]
   refine Tr.condG fun KT KF hT hF => ?_
   simp only [ev_tmp, ev_const, ↓A_cons, ↓reduceIte, Nat.reduceEqDiff, reduceCtorEq, condG_bool, GB_true, GB_false, decide_eq_true_eq]
   refine GB.dec (fun hc14 => hT ?_) (fun hc14 => hF ?_)
   ·
    clear hT hF KT KF
    refine Tr.seqK fun K9 hK9 => ?_
    refine Tr.rg hcx [1000017] _ [] rfl rfl rfl ?_
    simp -implicitDefEqProofs (maxSteps := 2000000) (disch := first | omega | (simp only [go_sem, List.length_append, List.length_drop, List.length_take, capT_len] <;> omega) | decide) only [go_sem, ↓reduceIte, Nat.reduceEqDiff, reduceCtorEq, Nat.reduceLT, Nat.reduceBEq, Nat.reduceAdd, Nat.reduceSub, Nat.reduceMul, Nat.reduceMod, h60]
    refine hK9 _ ?_
    clear hK9 K9
    refine Tr.kp [4] ?_
    simp only [pk_cons, pk_nil, ↓A_cons, ↓reduceIte, Nat.reduceEqDiff]
    refine Tr.ret ?_
    simp -implicitDefEqProofs (disch := first | omega | (simp only [go_sem, List.length_append, List.length_drop, List.length_take, capT_len] <;> omega) | decide) only [go_sem, ↓reduceIte, Nat.reduceEqDiff, reduceCtorEq]
    all_goals (exact str_cong (by unfold dresT; simp_all))
   ·
    clear hT hF KT KF
    refine Tr.seqK fun K10 hK10 => ?_
    refine Tr.rg hcx [1000019] _ [] rfl rfl rfl ?_
    simp -implicitDefEqProofs (maxSteps := 2000000) (disch := first | omega | (simp only [go_sem, List.length_append, List.length_drop, List.length_take, capT_len] <;> omega) | decide) only [go_sem, ↓reduceIte, Nat.reduceEqDiff, reduceCtorEq, Nat.reduceLT, Nat.reduceBEq, Nat.reduceAdd, Nat.reduceSub, Nat.reduceMul, Nat.reduceMod, h60]
    refine hK10 _ ?_
    clear hK10 K10
    refine Tr.kp [0, 5, 18] ?_
    simp only [pk_cons, pk_nil, ↓A_cons, ↓reduceIte, Nat.reduceEqDiff]
    refine Tr.condG fun KT KF hT hF => ?_
    simp only [ev_tmp, ev_const, ↓A_cons, ↓reduceIte, Nat.reduceEqDiff, reduceCtorEq, condG_bool, GB_true, GB_false, decide_eq_true_eq]
    refine GB.dec (fun hc18 => hT ?_) (fun hc18 => hF ?_)
    ·
     clear hT hF KT KF
     refine Tr.seqK fun K11 hK11 => ?_
     refine Tr.rg hcx [1000022] _ [] rfl rfl rfl ?_
     simp -implicitDefEqProofs (maxSteps := 2000000) (disch := first | omega | (simp only [go_sem, List.length_append, List.length_drop, List.length_take, capT_len] <;> omega) | decide) only [go_sem, ↓reduceIte, Nat.reduceEqDiff, reduceCtorEq, Nat.reduceLT, Nat.reduceBEq, Nat.reduceAdd, Nat.reduceSub, Nat.reduceMul, Nat.reduceMod, h60]
     refine hK11 _ ?_
     clear hK11 K11
     refine Tr.kp [4] ?_
     simp only [pk_cons, pk_nil, ↓A_cons, ↓reduceIte, Nat.reduceEqDiff]
     refine Tr.ret ?_
     simp -implicitDefEqProofs (disch := first | omega | (simp only [go_sem, List.length_append, List.length_drop, List.length_take, capT_len] <;> omega) | decide) only [go_sem, ↓reduceIte, Nat.reduceEqDiff, reduceCtorEq]
     all_goals (exact str_cong (by unfold dresT; simp_all))
    ·
     clear hT hF KT KF
     refine Tr.seqK fun K12 hK12 => ?_
     refine Tr.rg hcx [1000024] _ [] rfl rfl rfl ?_
     simp -implicitDefEqProofs (maxSteps := 2000000) (disch := first | omega | (simp only [go_sem, List.length_append, List.length_drop, List.length_take, capT_len] <;> omega) | decide) only [go_sem, ↓reduceIte, Nat.reduceEqDiff, reduceCtorEq, Nat.reduceLT, Nat.reduceBEq, Nat.reduceAdd, Nat.reduceSub, Nat.reduceMul, Nat.reduceMod, h60]
     refine hK12 _ ?_
     clear hK12 K12
     refine Tr.kp [0, 5, 23] ?_
     simp only [pk_cons, pk_nil, ↓A_cons, ↓reduceIte, Nat.reduceEqDiff]
     refine Tr.condG fun KT KF hT hF => ?_
     simp only [ev_tmp, ev_const, ↓A_cons, ↓reduceIte, Nat.reduceEqDiff, reduceCtorEq, condG_bool, GB_true, GB_false, decide_eq_true_eq]
     refine GB.dec (fun hc23 => hT ?_) (fun hc23 => hF ?_)
     ·
      clear hT hF KT KF
      refine Tr.seqK fun K13 hK13 => ?_
      refine Tr.rg hcx [1000027] _ [] rfl rfl rfl ?_
      simp -implicitDefEqProofs (maxSteps := 2000000) (disch := first | omega | (simp only [go_sem, List.length_append, List.length_drop, List.length_take, capT_len] <;> omega) | decide) only [go_sem, ↓reduceIte, Nat.reduceEqDiff, reduceCtorEq, Nat.reduceLT, Nat.reduceBEq, Nat.reduceAdd, Nat.reduceSub, Nat.reduceMul, Nat.reduceMod, h60]
      refine hK13 _ ?_
      clear hK13 K13
      refine Tr.kp [4] ?_
      simp only [pk_cons, pk_nil, ↓A_cons, ↓reduceIte, Nat.reduceEqDiff]
      refine Tr.ret ?_
      simp -implicitDefEqProofs (disch := first | omega | (simp only [go_sem, List.length_append, List.length_drop, List.length_take, capT_len] <;> omega) | decide) only [go_sem, ↓reduceIte, Nat.reduceEqDiff, reduceCtorEq]
      all_goals (exact str_cong (by unfold dresT; simp_all))
     ·
      clear hT hF KT KF
      refine Tr.seqK fun K14 hK14 => ?_
      refine Tr.rg hcx [1000029] _ [] rfl rfl rfl ?_
      simp -implicitDefEqProofs (maxSteps := 2000000) (disch := first | omega | (simp only [go_sem, List.length_append, List.length_drop, List.length_take, capT_len] <;> omega) | decide) only [go_sem, ↓reduceIte, Nat.reduceEqDiff, reduceCtorEq, Nat.reduceLT, Nat.reduceBEq, Nat.reduceAdd, Nat.reduceSub, Nat.reduceMul, Nat.reduceMod, h60]
      refine hK14 _ ?_
      clear hK14 K14
      refine Tr.kp [0, 28] ?_
      simp only [pk_cons, pk_nil, ↓A_cons, ↓reduceIte, Nat.reduceEqDiff]
      refine Tr.condG fun KT KF hT hF => ?_
      simp only [ev_tmp, ev_const, ↓A_cons, ↓reduceIte, Nat.reduceEqDiff, reduceCtorEq, condG_bool, GB_true, GB_false, decide_eq_true_eq]
      refine GB.dec (fun hc28 => hT ?_) (fun hc28 => hF ?_)
      ·
       clear hT hF KT KF
       refine Tr.seqK fun K15 hK15 => ?_
       refine Tr.rg hcx [1000031] _ [] rfl rfl rfl ?_
       simp -implicitDefEqProofs (maxSteps := 2000000) (disch := first | omega | (simp only [go_sem, List.length_append, List.length_drop, List.length_take, capT_len] <;> omega) | decide) only [go_sem, ↓reduceIte, Nat.reduceEqDiff, reduceCtorEq, Nat.reduceLT, Nat.reduceBEq, Nat.reduceAdd, Nat.reduceSub, Nat.reduceMul, Nat.reduceMod, h60]
       refine hK15 _ ?_
       clear hK15 K15
       refine Tr.kp [4] ?_
       simp only [pk_cons, pk_nil, ↓A_cons, ↓reduceIte, Nat.reduceEqDiff]
       refine Tr.ret ?_
       simp -implicitDefEqProofs (disch := first | omega | (simp only [go_sem, List.length_append, List.length_drop, List.length_take, capT_len] <;> omega) | decide) only [go_sem, ↓reduceIte, Nat.reduceEqDiff, reduceCtorEq]
       all_goals (exact str_cong (by unfold dresT; simp_all))
      ·
       clear hT hF KT KF
       refine Tr.skip ?_
       refine hK2 _ ?_
       clear hK2 K2
       refine Tr.kp [0] ?_
       simp only [pk_cons, pk_nil, ↓A_cons, ↓reduceIte, Nat.reduceEqDiff]
       refine Tr.seqK fun K16 hK16 => ?_
       refine Tr.rg hcx [1000032] _ [] rfl rfl rfl ?_
       simp -implicitDefEqProofs (maxSteps := 2000000) (disch := first | omega | (simp only [go_sem, List.length_append, List.length_drop, List.length_take, capT_len] <;> omega) | decide) only [go_sem, ↓reduceIte, Nat.reduceEqDiff, reduceCtorEq, Nat.reduceLT, Nat.reduceBEq, Nat.reduceAdd, Nat.reduceSub, Nat.reduceMul, Nat.reduceMod, h60]
       refine hK16 _ ?_
       clear hK16 K16
       refine Tr.kp [4] ?_
       simp only [pk_cons, pk_nil, ↓A_cons, ↓reduceIte, Nat.reduceEqDiff]
       refine Tr.ret ?_
       simp -implicitDefEqProofs (disch := first | omega | (simp only [go_sem, List.length_append, List.length_drop, List.length_take, capT_len] <;> omega) | decide) only [go_sem, ↓reduceIte, Nat.reduceEqDiff, reduceCtorEq]
       all_goals (exact str_cong (by unfold dresT; simp_all))
end Go.Sx
