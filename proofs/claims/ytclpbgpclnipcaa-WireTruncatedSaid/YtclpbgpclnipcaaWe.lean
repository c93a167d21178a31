/-
  Package wire: contracts of functions. And what follows.
-/
import Derived.Test.YtclpbgpclnipcaaWa
import Derived.Test.YtclpbgpclnipcaaWd
import Derived.Test.YtclpbgpclnipcaaSc
import Derived.Test.YtclpbgpclnipcaaWc
set_option linter.unusedSimpArgs false
set_option linter.unusedVariables false
namespace Go.Sx
open Go.RowKit Go.Proofs


set_option maxRecDepth 100000 in
set_option maxHeartbeats 8000000 in
theorem fc5 {gl : Nat → C} {M : Nat} {pu : Nat → List C → Option C}  (hcx : CxOK (cxP gl M pu)) (h12 : pu 12 [] = some (.val (.bool true))) (h14 : ∀ n : Int, -9223372036854775808 ≤ n ∧ n ≤ 9223372036854775807 → pu 14 [.val (.int .i64 n)] = some (sl bC (.own 1) (wint n))) (m n : Int) (hm : -9223372036854775808 ≤ m ∧ m ≤ 9223372036854775807) (hn : -9223372036854775808 ≤ n ∧ n ≤ 9223372036854775807) : FC Try.prog gl 5 [.val (.int .i64 m), .val (.int .i64 n)] [] (.val (.bool true)) [] := by
 replace hcx := hcx.reN (M := 51)
 refine FC.ofA (cx := cxP gl 51 pu) (rs := [.tmp 4]) rfl Try.func5 rfl rfl rfl (by simp only [List.length_cons, List.length_nil]; decide) (by simp only [go_sem]) ?_
 simp only [ini, go_sem]
 have hw1 := wint_len m hm
 have hw2 := wint_len n hn
 have e1 := wint_lt m n hm hn
 have e2 := wint_eq m n hm hn
 have e3 := wint_pre m n hm hn
 refine Tr.seqK fun K1 hK1 => ?_
 -- region 0 (law.go:75)
 refine Tr.rg hcx [] _ [] rfl rfl rfl ?_
 simp -implicitDefEqProofs (maxSteps := 2000000) (disch := first | omega | (simp only [go_sem, List.length_append, List.length_drop, List.length_take, hw1, hw2] <;> omega) | decide) only [go_sem, ↓reduceIte, Nat.reduceEqDiff, reduceCtorEq, Nat.reduceLT, Nat.reduceBEq, Nat.reduceAdd, Nat.reduceSub, Nat.reduceMul, Nat.reduceMod, Int.reduceMod, Int.reduceToNat, Int.reduceNeg, h12, h14, e1, e2, e3, List.drop_zero, Nat.sub_zero, eq_self, beq_self_eq_true]
 refine hK1 _ ?_
 clear hK1 K1
 refine Tr.kp [0, 1] ?_
 simp only [pk_cons, pk_nil, ↓A_cons, ↓reduceIte, Nat.reduceEqDiff, reduceCtorEq]
 refine Tr.seqK fun K2 hK2 => ?_
 -- region 1 (law.go:76)
 refine Tr.rgD hcx hMO [1000010, 1000013] _ [] rfl rfl rfl rfl ?_
 simp -implicitDefEqProofs (maxSteps := 2000000) (disch := first | omega | (simp only [go_sem, List.length_append, List.length_drop, List.length_take, hw1, hw2] <;> omega) | decide) only [go_sem, ↓reduceIte, Nat.reduceEqDiff, reduceCtorEq, Nat.reduceLT, Nat.reduceBEq, Nat.reduceAdd, Nat.reduceSub, Nat.reduceMul, Nat.reduceMod, Int.reduceMod, Int.reduceToNat, Int.reduceNeg, h12, h14, e1, e2, e3, List.drop_zero, Nat.sub_zero, eq_self, beq_self_eq_true]
 with_reducible refine And.intro ?_ ?_
 · exact rfl
 refine hK2 _ ?_
 clear hK2 K2
 refine Tr.kp [0, 1, 5, 6] ?_
 simp only [pk_cons, pk_nil, ↓A_cons, ↓reduceIte, Nat.reduceEqDiff, reduceCtorEq]
 refine Tr.seqK fun K3 hK3 => ?_
 -- region 2 (law.go:77)
 refine Tr.rg hcx [1000018] _ [] rfl rfl rfl ?_
 simp -implicitDefEqProofs (maxSteps := 2000000) (disch := first | omega | (simp only [go_sem, List.length_append, List.length_drop, List.length_take, hw1, hw2] <;> omega) | decide) only [go_sem, ↓reduceIte, Nat.reduceEqDiff, reduceCtorEq, Nat.reduceLT, Nat.reduceBEq, Nat.reduceAdd, Nat.reduceSub, Nat.reduceMul, Nat.reduceMod, Int.reduceMod, Int.reduceToNat, Int.reduceNeg, h12, h14, e1, e2, e3, List.drop_zero, Nat.sub_zero, eq_self, beq_self_eq_true]
 refine hK3 _ ?_
 clear hK3 K3
 refine Tr.kp [0, 1, 5, 6, 7] ?_
 simp only [pk_cons, pk_nil, ↓A_cons, ↓reduceIte, Nat.reduceEqDiff, reduceCtorEq]
 refine Tr.seqK fun K4 hK4 => ?_
 -- region 3 (law.go:78)
 refine Tr.rgD hcx hMO [1000050] [some 19, some 20, some 21, some 22, some 23, some 24, some 25, some 26, some 27, some 28, some 29, some 30, some 31, some 32, some 33, some 34, some 35, some 36, some 37, some 38, some 39, some 40, some 41, some 42, some 43, some 44, some 45, some 46, some 47, some 48, some 49, some 50, some 4] [] rfl rfl rfl rfl ?_
 simp -implicitDefEqProofs (maxSteps := 2000000) (disch := first | omega | (simp only [go_sem, List.length_append, List.length_drop, List.length_take, hw1, hw2] <;> omega) | decide) only [go_sem, ↓reduceIte, Nat.reduceEqDiff, reduceCtorEq, Nat.reduceLT, Nat.reduceBEq, Nat.reduceAdd, Nat.reduceSub, Nat.reduceMul, Nat.reduceMod, Int.reduceMod, Int.reduceToNat, Int.reduceNeg, h12, h14, e1, e2, e3, List.drop_zero, Nat.sub_zero, eq_self, beq_self_eq_true]
 with_reducible refine And.intro ?_ ?_
 · exact rfl
 refine hK4 _ ?_
 clear hK4 K4
 refine Tr.kp [4] ?_
 simp only [pk_cons, pk_nil, ↓A_cons, ↓reduceIte, Nat.reduceEqDiff, reduceCtorEq]
 refine Tr.ret ?_
 simp -implicitDefEqProofs (disch := first | omega | (simp only [go_sem, List.length_append, List.length_drop, List.length_take, hw1, hw2] <;> omega) | decide) only [go_sem, ↓reduceIte, Nat.reduceEqDiff, reduceCtorEq]

set_option maxRecDepth 100000 in
set_option maxHeartbeats 8000000 in
theorem fc7 {gl : Nat → C} {M : Nat} {pu : Nat → List C → Option C}  (hcx : CxOK (cxP gl M pu)) (h12 : pu 12 [] = some (.val (.bool true))) (h14 : ∀ n : Int, -9223372036854775808 ≤ n ∧ n ≤ 9223372036854775807 → pu 14 [.val (.int .i64 n)] = some (sl bC (.own 1) (wint n))) (h16 : ∀ s : List UInt8, s.length < 70368744177664 → pu 16 [.val (str s)] = some (sl bC (.own 1) (wb s))) (h18 : ∀ l : List Int, l.length < 1099511627776 ∧ (∀ x ∈ l, -9223372036854775808 ≤ x ∧ x ≤ 9223372036854775807) → pu 18 [sl iC .no l] = some (sl bC (.own 1) (wInts l))) (h20 : ∀ l : List (List UInt8), l.length < 1099511627776 ∧ l.flatten.length < 1099511627776 → pu 20 [sl sC .no l] = some (sl bC (.own 1) (wStrs l))) (h22 : ∀ l : List Dig, l.length < 1099511627776 → pu 22 [sl dC .no l] = some (sl bC (.own 1) (wDigs l))) (h24 : ∀ b : List UInt8, b.length < 1099511627776 → pu 24 [sl bC .no b] = some (.tup [.val (.int .i64 (getI b).1), .val (nI (getI b).2.1), .val (nI (getI b).2.2)])) (h26 : ∀ b : List UInt8, b.length < 1099511627776 → pu 26 [sl bC .no b] = some (.tup [.val (str (getB b).1), .val (nI (getB b).2.1), .val (nI (getB b).2.2)])) (h28 : ∀ b : List UInt8, b.length < 1099511627776 → pu 28 [sl bC .no b] = some (.tup [sl iC .no (getL getI 1 b).1, .val (nI (getL getI 1 b).2.1), .val (nI (getL getI 1 b).2.2)])) (h31 : ∀ b : List UInt8, b.length < 1099511627776 → pu 31 [sl bC .no b] = some (.tup [sl sC .no (getL getB 1 b).1, .val (nI (getL getB 1 b).2.1), .val (nI (getL getB 1 b).2.2)])) (h34 : ∀ b : List UInt8, b.length < 1099511627776 → pu 34 [sl bC .no b] = some (.tup [sl dC .no (getL getD1 16 b).1, .val (nI (getL getD1 16 b).2.1), .val (nI (getL getD1 16 b).2.2)])) (h37 : ∀ (c : List UInt8) (u e : Nat) (b : List UInt8), b.length < 1099511627776 ∧ c.length < 1099511627776 ∧ (e = 0 → u ≤ b.length ∧ b.take u = c) → pu 37 [sl bC .no c, .val (nI u), .val (nI e), .kp [sl bC .no b]] = some (.val (.bool true))) (hno : ∀ (g : Nat) (xs : List C), refy xs = true → pu g xs = none) (b : List UInt8) (hb : b.length < 9223372036854775808) : FC Try.prog gl 7 [sl bC .no b] [] (.val (.bool true)) [] := by
 replace hcx := hcx.reN (M := 95)
 refine FC.ofA (cx := cxP gl 95 pu) (rs := [.tmp 2]) rfl Try.func7 rfl rfl rfl (by simp only [List.length_cons, List.length_nil]; decide) (by simp only [go_sem]) ?_
 simp only [ini, go_sem]
 have hb1 := True.intro
 refine Tr.seqK fun K1 hK1 => ?_
 -- region 0 (law.go:92)
 refine Tr.rg hcx [] _ [none] rfl rfl rfl ?_
 simp -implicitDefEqProofs (maxSteps := 2000000) (disch := first | omega | (simp only [go_sem, List.length_append, List.length_drop, List.length_take, hb1] <;> omega) | decide) only [go_sem, ↓reduceIte, Nat.reduceEqDiff, reduceCtorEq, Nat.reduceLT, Nat.reduceBEq, Nat.reduceAdd, Nat.reduceSub, Nat.reduceMul, Nat.reduceMod, Int.reduceMod, Int.reduceToNat, Int.reduceNeg, hno, h12, h14, h16, h20, h22, h24, h26, h28, h31, h34, eq_self, decide_true]
 refine hK1 _ ?_
 clear hK1 K1
 refine Tr.kp [1] ?_
 simp only [pk_cons, pk_nil, ↓A_cons, ↓reduceIte, Nat.reduceEqDiff, reduceCtorEq]
 refine Tr.seqK fun K2 hK2 => ?_
 refine Tr.seqK fun K3 hK3 => ?_
 -- region 1 (law.go:93)
 refine Tr.rg hcx [] _ [] rfl rfl rfl ?_
 simp -implicitDefEqProofs (maxSteps := 2000000) (disch := first | omega | (simp only [go_sem, List.length_append, List.length_drop, List.length_take, hb1] <;> omega) | decide) only [go_sem, ↓reduceIte, Nat.reduceEqDiff, reduceCtorEq, Nat.reduceLT, Nat.reduceBEq, Nat.reduceAdd, Nat.reduceSub, Nat.reduceMul, Nat.reduceMod, Int.reduceMod, Int.reduceToNat, Int.reduceNeg, hno, h12, h14, h16, h20, h22, h24, h26, h28, h31, h34, eq_self, decide_true]
 refine hK3 _ ?_
 clear hK3 K3
 refine Tr.kp [1, 21] ?_
 simp only [pk_cons, pk_nil, ↓A_cons, ↓reduceIte, Nat.reduceEqDiff, reduceCtorEq]
 refine Tr.condG fun KT KF hT hF => ?_
 simp only [ev_tmp, ev_const, ↓A_cons, ↓reduceIte, Nat.reduceEqDiff, reduceCtorEq, condG_bool, GB_true, GB_false, decide_eq_true_eq]
 refine GB.dec (fun hc21 => hT ?_) (fun hc21 => hF ?_)
 ·
  clear hT hF KT KF
  refine Tr.seqK fun K4 hK4 => ?_
  -- region 2 (law.go:94)
  refine Tr.rg hcx [1000022] _ [] rfl rfl rfl ?_
  simp -implicitDefEqProofs (maxSteps := 2000000) (disch := first | omega | (simp only [go_sem, List.length_append, List.length_drop, List.length_take, hb1] <;> omega) | decide) only [go_sem, ↓reduceIte, Nat.reduceEqDiff, reduceCtorEq, Nat.reduceLT, Nat.reduceBEq, Nat.reduceAdd, Nat.reduceSub, Nat.reduceMul, Nat.reduceMod, Int.reduceMod, Int.reduceToNat, Int.reduceNeg, hno, h12, h14, h16, h20, h22, h24, h26, h28, h31, h34, eq_self, decide_true]
  refine hK4 _ ?_
  clear hK4 K4
  refine Tr.kp [2] ?_
  simp only [pk_cons, pk_nil, ↓A_cons, ↓reduceIte, Nat.reduceEqDiff, reduceCtorEq]
  refine Tr.ret ?_
  simp -implicitDefEqProofs (disch := first | omega | (simp only [go_sem, List.length_append, List.length_drop, List.length_take, hb1] <;> omega) | decide) only [go_sem, ↓reduceIte, Nat.reduceEqDiff, reduceCtorEq]
 ·
  clear hT hF KT KF
  have hgb := getI_bd b
  have hbb := getB_bd b
  have hIr := getIs_rng b
  have l1 := lenIs b
  have l2 := lenSs b
  have l3 := lenDs b
  have l4 := wInts_ge (getL getI 1 b).1
  have l5 := wStrs_ge (getL getB 1 b).1
  have l6 := wDigs_ge (getL getD1 16 b).1
  have l7 := wint_len (getI b).1 hgb.2.2.2
  have l8 := wb_len (getB b).1 (by omega)
  have b1 := getL_len getI 1 b (by omega)
  have b2 := getL_len getB 1 b (by omega)
  have b3 := getL_len getD1 16 b (by omega)
  have h18i := h18 (getL getI 1 b).1 ⟨by omega, hIr⟩
  have c1 := h37 (wint (getI b).1) (getI b).2.1 (getI b).2.2 b ⟨by omega, by omega, wI_can b⟩
  have c2 := h37 (wb (getB b).1) (getB b).2.1 (getB b).2.2 b ⟨by omega, by omega, wB_can b⟩
  have c3 := h37 (wInts (getL getI 1 b).1) (getL getI 1 b).2.1 (getL getI 1 b).2.2 b ⟨by omega, by omega, wIs_can b⟩
  have c4 := h37 (wStrs (getL getB 1 b).1) (getL getB 1 b).2.1 (getL getB 1 b).2.2 b ⟨by omega, by omega, wSs_can b⟩
  have c5 := h37 (wDigs (getL getD1 16 b).1) (getL getD1 16 b).2.1 (getL getD1 16 b).2.2 b ⟨by omega, by omega, wDs_can b⟩
  refine Tr.skip ?_
  refine hK2 _ ?_
  clear hK2 K2
  refine Tr.kp [1] ?_
  simp only [pk_cons, pk_nil, ↓A_cons, ↓reduceIte, Nat.reduceEqDiff, reduceCtorEq]
  refine Tr.seqK fun K5 hK5 => ?_
  -- region 3 (law.go:96)
  refine Tr.rg hcx [1000023] _ [] rfl rfl rfl ?_
  simp -implicitDefEqProofs (maxSteps := 2000000) (disch := first | omega | (simp only [go_sem, List.length_append, List.length_drop, List.length_take, hb1] <;> omega) | decide) only [go_sem, ↓reduceIte, Nat.reduceEqDiff, reduceCtorEq, Nat.reduceLT, Nat.reduceBEq, Nat.reduceAdd, Nat.reduceSub, Nat.reduceMul, Nat.reduceMod, Int.reduceMod, Int.reduceToNat, Int.reduceNeg, hno, h12, h14, h16, h20, h22, h24, h26, h28, h31, h34, eq_self, decide_true]
  refine hK5 _ ?_
  clear hK5 K5
  refine Tr.kp [1, 3] ?_
  simp only [pk_cons, pk_nil, ↓A_cons, ↓reduceIte, Nat.reduceEqDiff, reduceCtorEq]
  refine Tr.seqK fun K6 hK6 => ?_
  -- region 4 (law.go:99)
  refine Tr.rg hcx [1000027, 1000028, 1000029] _ [] rfl rfl rfl ?_
  simp -implicitDefEqProofs (maxSteps := 2000000) (disch := first | omega | (simp only [go_sem, List.length_append, List.length_drop, List.length_take, hb1] <;> omega) | decide) only [go_sem, ↓reduceIte, Nat.reduceEqDiff, reduceCtorEq, Nat.reduceLT, Nat.reduceBEq, Nat.reduceAdd, Nat.reduceSub, Nat.reduceMul, Nat.reduceMod, Int.reduceMod, Int.reduceToNat, Int.reduceNeg, hno, h12, h14, h16, h20, h22, h24, h26, h28, h31, h34, eq_self, decide_true]
  refine hK6 _ ?_
  clear hK6 K6
  refine Tr.kp [1, 3, 4, 5, 6] ?_
  simp only [pk_cons, pk_nil, ↓A_cons, ↓reduceIte, Nat.reduceEqDiff, reduceCtorEq]
  refine Tr.seqK fun K7 hK7 => ?_
  -- region 5 (law.go:100)
  refine Tr.rg hcx [1000033, 1000034, 1000035] _ [] rfl rfl rfl ?_
  simp -implicitDefEqProofs (maxSteps := 2000000) (disch := first | omega | (simp only [go_sem, List.length_append, List.length_drop, List.length_take, hb1] <;> omega) | decide) only [go_sem, ↓reduceIte, Nat.reduceEqDiff, reduceCtorEq, Nat.reduceLT, Nat.reduceBEq, Nat.reduceAdd, Nat.reduceSub, Nat.reduceMul, Nat.reduceMod, Int.reduceMod, Int.reduceToNat, Int.reduceNeg, hno, h12, h14, h16, h20, h22, h24, h26, h28, h31, h34, eq_self, decide_true]
  refine hK7 _ ?_
  clear hK7 K7
  refine Tr.kp [1, 3, 4, 5, 6, 7, 8, 9] ?_
  simp only [pk_cons, pk_nil, ↓A_cons, ↓reduceIte, Nat.reduceEqDiff, reduceCtorEq]
  refine Tr.seqK fun K8 hK8 => ?_
  -- region 6 (law.go:101)
  refine Tr.rg hcx [1000039, 1000040, 1000041] _ [] rfl rfl rfl ?_
  simp -implicitDefEqProofs (maxSteps := 2000000) (disch := first | omega | (simp only [go_sem, List.length_append, List.length_drop, List.length_take, hb1] <;> omega) | decide) only [go_sem, ↓reduceIte, Nat.reduceEqDiff, reduceCtorEq, Nat.reduceLT, Nat.reduceBEq, Nat.reduceAdd, Nat.reduceSub, Nat.reduceMul, Nat.reduceMod, Int.reduceMod, Int.reduceToNat, Int.reduceNeg, hno, h12, h14, h16, h20, h22, h24, h26, h28, h31, h34, eq_self, decide_true]
  refine hK8 _ ?_
  clear hK8 K8
  refine Tr.kp [1, 3, 4, 5, 6, 7, 8, 9, 10, 11, 12] ?_
  simp only [pk_cons, pk_nil, ↓A_cons, ↓reduceIte, Nat.reduceEqDiff, reduceCtorEq]
  refine Tr.seqK fun K9 hK9 => ?_
  -- region 7 (law.go:102)
  refine Tr.rg hcx [1000045, 1000046, 1000047] _ [] rfl rfl rfl ?_
  simp -implicitDefEqProofs (maxSteps := 2000000) (disch := first | omega | (simp only [go_sem, List.length_append, List.length_drop, List.length_take, hb1] <;> omega) | decide) only [go_sem, ↓reduceIte, Nat.reduceEqDiff, reduceCtorEq, Nat.reduceLT, Nat.reduceBEq, Nat.reduceAdd, Nat.reduceSub, Nat.reduceMul, Nat.reduceMod, Int.reduceMod, Int.reduceToNat, Int.reduceNeg, hno, h12, h14, h16, h20, h22, h24, h26, h28, h31, h34, eq_self, decide_true]
  refine hK9 _ ?_
  clear hK9 K9
  refine Tr.kp [1, 3, 4, 5, 6, 7, 8, 9, 10, 11, 12, 13, 14, 15] ?_
  simp only [pk_cons, pk_nil, ↓A_cons, ↓reduceIte, Nat.reduceEqDiff, reduceCtorEq]
  refine Tr.seqK fun K10 hK10 => ?_
  -- region 8 (law.go:103)
  refine Tr.rg hcx [1000051, 1000052, 1000053] _ [] rfl rfl rfl ?_
  simp -implicitDefEqProofs (maxSteps := 2000000) (disch := first | omega | (simp only [go_sem, List.length_append, List.length_drop, List.length_take, hb1] <;> omega) | decide) only [go_sem, ↓reduceIte, Nat.reduceEqDiff, reduceCtorEq, Nat.reduceLT, Nat.reduceBEq, Nat.reduceAdd, Nat.reduceSub, Nat.reduceMul, Nat.reduceMod, Int.reduceMod, Int.reduceToNat, Int.reduceNeg, hno, h12, h14, h16, h20, h22, h24, h26, h28, h31, h34, eq_self, decide_true]
  refine hK10 _ ?_
  clear hK10 K10
  refine Tr.kp [3, 4, 5, 6, 7, 8, 9, 10, 11, 12, 13, 14, 15, 16, 17, 18] ?_
  simp only [pk_cons, pk_nil, ↓A_cons, ↓reduceIte, Nat.reduceEqDiff, reduceCtorEq]
  refine Tr.seqK fun K11 hK11 => ?_
  -- region 9 (law.go:104)
  refine Tr.rg hcx [1000094] [some 54, some 55, some 56, some 57, some 58, some 59, some 60, some 61, some 62, some 63, some 64, some 65, some 66, some 67, some 68, some 69, some 70, some 71, some 72, some 73, some 74, some 75, some 76, some 77, some 78, some 79, some 80, some 81, some 82, some 83, some 84, some 85, some 86, some 87, some 88, some 89, some 90, some 91, some 92, some 93, some 94, some 2] [] rfl rfl rfl ?_
  simp -implicitDefEqProofs (maxSteps := 2000000) (disch := first | omega | (simp only [go_sem, List.length_append, List.length_drop, List.length_take, hb1] <;> omega) | decide) only [go_sem, ↓reduceIte, Nat.reduceEqDiff, reduceCtorEq, Nat.reduceLT, Nat.reduceBEq, Nat.reduceAdd, Nat.reduceSub, Nat.reduceMul, Nat.reduceMod, Int.reduceMod, Int.reduceToNat, Int.reduceNeg, hno, h12, h14, h16, h20, h22, h24, h26, h28, h31, h34, eq_self, decide_true, h18i, c1, c2, c3, c4, c5]
  refine hK11 _ ?_
  clear hK11 K11
  refine Tr.kp [2] ?_
  simp only [pk_cons, pk_nil, ↓A_cons, ↓reduceIte, Nat.reduceEqDiff, reduceCtorEq]
  refine Tr.ret ?_
  simp -implicitDefEqProofs (disch := first | omega | (simp only [go_sem, List.length_append, List.length_drop, List.length_take, hb1] <;> omega) | decide) only [go_sem, ↓reduceIte, Nat.reduceEqDiff, reduceCtorEq]

end Go.Sx

namespace Go.Sx
open Go.RowKit Go.Proofs


set_option maxRecDepth 100000 in
set_option maxHeartbeats 8000000 in
theorem fc9 {gl : Nat → C} {M : Nat} {pu : Nat → List C → Option C}  (hcx : CxOK (cxP gl M pu)) (h11 : ∀ l : List (List UInt8), l.length + l.flatten.length < 9223372036854775807 → pu 11 [sl sC .no l] = some (.val (.bool (decide (l.length + l.flatten.length ≤ 2000))))) (h12 : pu 12 [] = some (.val (.bool true))) (h14 : ∀ n : Int, -9223372036854775808 ≤ n ∧ n ≤ 9223372036854775807 → pu 14 [.val (.int .i64 n)] = some (sl bC (.own 1) (wint n))) (h16 : ∀ s : List UInt8, s.length < 70368744177664 → pu 16 [.val (str s)] = some (sl bC (.own 1) (wb s))) (h18 : ∀ l : List Int, l.length < 1099511627776 ∧ (∀ x ∈ l, -9223372036854775808 ≤ x ∧ x ≤ 9223372036854775807) → pu 18 [sl iC .no l] = some (sl bC (.own 1) (wInts l))) (h20 : ∀ l : List (List UInt8), l.length < 1099511627776 ∧ l.flatten.length < 1099511627776 → pu 20 [sl sC .no l] = some (sl bC (.own 1) (wStrs l))) (h22 : ∀ l : List Dig, l.length < 1099511627776 → pu 22 [sl dC .no l] = some (sl bC (.own 1) (wDigs l))) (h24 : ∀ b : List UInt8, b.length < 1099511627776 → pu 24 [sl bC .no b] = some (.tup [.val (.int .i64 (getI b).1), .val (nI (getI b).2.1), .val (nI (getI b).2.2)])) (h26 : ∀ b : List UInt8, b.length < 1099511627776 → pu 26 [sl bC .no b] = some (.tup [.val (str (getB b).1), .val (nI (getB b).2.1), .val (nI (getB b).2.2)])) (h28 : ∀ b : List UInt8, b.length < 1099511627776 → pu 28 [sl bC .no b] = some (.tup [sl iC .no (getL getI 1 b).1, .val (nI (getL getI 1 b).2.1), .val (nI (getL getI 1 b).2.2)])) (h31 : ∀ b : List UInt8, b.length < 1099511627776 → pu 31 [sl bC .no b] = some (.tup [sl sC .no (getL getB 1 b).1, .val (nI (getL getB 1 b).2.1), .val (nI (getL getB 1 b).2.2)])) (h34 : ∀ b : List UInt8, b.length < 1099511627776 → pu 34 [sl bC .no b] = some (.tup [sl dC .no (getL getD1 16 b).1, .val (nI (getL getD1 16 b).2.1), .val (nI (getL getD1 16 b).2.2)])) (n : Int) (s : List UInt8) (l : List Int) (x : List (List UInt8)) (d : List Dig) (hn : -9223372036854775808 ≤ n ∧ n ≤ 9223372036854775807) (hs : s.length ≤ 140737488351232) (hl : l.length ≤ 140737488351232) (hd : d.length ≤ 140737488351232) (hx : x.length ≤ 40 → x.length + x.flatten.length < 9223372036854775807) (hr : ∀ x ∈ l, -9223372036854775808 ≤ x ∧ x ≤ 9223372036854775807) : FC Try.prog gl 9 [.val (.int .i64 n), .val (str s), sl iC .no l, sl sC .no x, sl dC .no d] [] (.val (.bool true)) [] := by
 replace hcx := hcx.reN (M := 114)
 refine FC.ofA (cx := cxP gl 114 pu) (rs := [.tmp 10]) rfl Try.func9 rfl rfl rfl (by simp only [List.length_cons, List.length_nil]; decide) (by simp only [go_sem]) ?_
 simp only [ini, go_sem]
 have hb1 := True.intro
 refine Tr.seqK fun K1 hK1 => ?_
 -- region 0 (law.go:121)
 refine Tr.rg hcx [] _ [] rfl rfl rfl ?_
 simp -implicitDefEqProofs (maxSteps := 2000000) (disch := first | omega | (simp only [go_sem, List.length_append, List.length_drop, List.length_take, hb1] <;> omega) | decide) only [go_sem, ↓reduceIte, Nat.reduceEqDiff, reduceCtorEq, Nat.reduceLT, Nat.reduceBEq, Nat.reduceAdd, Nat.reduceSub, Nat.reduceMul, Nat.reduceMod, Int.reduceMod, Int.reduceToNat, Int.reduceNeg, h11, h12, h14, h16, h20, h22, h24, h26, h28, h31, h34, eq_self, decide_true]
 refine hK1 _ ?_
 clear hK1 K1
 refine Tr.kp [0, 1, 2, 3, 4] ?_
 simp only [pk_cons, pk_nil, ↓A_cons, ↓reduceIte, Nat.reduceEqDiff, reduceCtorEq]
 refine Tr.seqK fun K2 hK2 => ?_
 refine Tr.seqK fun K3 hK3 => ?_
 by_cases hbig : 400 < s.length + 9 * l.length + 16 * d.length
 ·
  -- region 1 (law.go:122)
  refine Tr.rg hcx [] [some 15, some 16, some 17, some 18, some 19, some 20, some 21, some 22, some 23, some 24, some 25, some 26, some 27, some 28, some 29, some 30, some 31, some 32, some 33, some 34, some 35] [] rfl rfl rfl ?_
  simp -implicitDefEqProofs (maxSteps := 2000000) (disch := first | omega | (simp only [go_sem, List.length_append, List.length_drop, List.length_take, hb1] <;> omega) | decide) only [go_sem, ↓reduceIte, Nat.reduceEqDiff, reduceCtorEq, Nat.reduceLT, Nat.reduceBEq, Nat.reduceAdd, Nat.reduceSub, Nat.reduceMul, Nat.reduceMod, Int.reduceMod, Int.reduceToNat, Int.reduceNeg, h11, h12, h14, h16, h20, h22, h24, h26, h28, h31, h34, eq_self, decide_true, hbig]
  refine hK3 _ ?_
  clear hK3 K3
  refine Tr.kp [0, 1, 2, 3, 4, 35] ?_
  simp only [pk_cons, pk_nil, ↓A_cons, ↓reduceIte, Nat.reduceEqDiff, reduceCtorEq]
  refine Tr.condG fun KT KF hT hF => ?_
  simp only [ev_tmp, ev_const, ↓A_cons, ↓reduceIte, Nat.reduceEqDiff, reduceCtorEq, condG_bool, GB_true, GB_false, decide_eq_true_eq]
  refine hT ?_
  clear hT hF KT KF
  refine Tr.seqK fun K4 hK4 => ?_
  -- region 2 (law.go:123)
  refine Tr.rg hcx [1000036] _ [] rfl rfl rfl ?_
  simp -implicitDefEqProofs (maxSteps := 2000000) (disch := first | omega | (simp only [go_sem, List.length_append, List.length_drop, List.length_take, hb1] <;> omega) | decide) only [go_sem, ↓reduceIte, Nat.reduceEqDiff, reduceCtorEq, Nat.reduceLT, Nat.reduceBEq, Nat.reduceAdd, Nat.reduceSub, Nat.reduceMul, Nat.reduceMod, Int.reduceMod, Int.reduceToNat, Int.reduceNeg, h11, h12, h14, h16, h20, h22, h24, h26, h28, h31, h34, eq_self, decide_true, hbig]
  refine hK4 _ ?_
  clear hK4 K4
  refine Tr.kp [10] ?_
  simp only [pk_cons, pk_nil, ↓A_cons, ↓reduceIte, Nat.reduceEqDiff, reduceCtorEq]
  refine Tr.ret ?_
  simp -implicitDefEqProofs (disch := first | omega | (simp only [go_sem, List.length_append, List.length_drop, List.length_take, hb1] <;> omega) | decide) only [go_sem, ↓reduceIte, Nat.reduceEqDiff, reduceCtorEq]
 ·
  by_cases hmany : 40 < x.length
  ·
   have hx2 := True.intro
   -- region 1 (law.go:122)
   refine Tr.rg hcx [] [some 15, some 16, some 17, some 18, some 19, some 20, some 21, some 22, some 23, some 24, some 25, some 26, some 27, some 28, some 29, some 30, some 31, some 32, some 33, some 34, some 35] [] rfl rfl rfl ?_
   simp -implicitDefEqProofs (maxSteps := 2000000) (disch := first | omega | (simp only [go_sem, List.length_append, List.length_drop, List.length_take, hb1] <;> omega) | decide) only [go_sem, ↓reduceIte, Nat.reduceEqDiff, reduceCtorEq, Nat.reduceLT, Nat.reduceBEq, Nat.reduceAdd, Nat.reduceSub, Nat.reduceMul, Nat.reduceMod, Int.reduceMod, Int.reduceToNat, Int.reduceNeg, h11, h12, h14, h16, h20, h22, h24, h26, h28, h31, h34, eq_self, decide_true, hbig, hmany]
   refine hK3 _ ?_
   clear hK3 K3
   refine Tr.kp [0, 1, 2, 3, 4, 35] ?_
   simp only [pk_cons, pk_nil, ↓A_cons, ↓reduceIte, Nat.reduceEqDiff, reduceCtorEq]
   refine Tr.condG fun KT KF hT hF => ?_
   simp only [ev_tmp, ev_const, ↓A_cons, ↓reduceIte, Nat.reduceEqDiff, reduceCtorEq, condG_bool, GB_true, GB_false, decide_eq_true_eq]
   refine hT ?_
   clear hT hF KT KF
   refine Tr.seqK fun K5 hK5 => ?_
   -- region 2 (law.go:123)
   refine Tr.rg hcx [1000036] _ [] rfl rfl rfl ?_
   simp -implicitDefEqProofs (maxSteps := 2000000) (disch := first | omega | (simp only [go_sem, List.length_append, List.length_drop, List.length_take, hb1] <;> omega) | decide) only [go_sem, ↓reduceIte, Nat.reduceEqDiff, reduceCtorEq, Nat.reduceLT, Nat.reduceBEq, Nat.reduceAdd, Nat.reduceSub, Nat.reduceMul, Nat.reduceMod, Int.reduceMod, Int.reduceToNat, Int.reduceNeg, h11, h12, h14, h16, h20, h22, h24, h26, h28, h31, h34, eq_self, decide_true, hbig, hmany]
   refine hK5 _ ?_
   clear hK5 K5
   refine Tr.kp [10] ?_
   simp only [pk_cons, pk_nil, ↓A_cons, ↓reduceIte, Nat.reduceEqDiff, reduceCtorEq]
   refine Tr.ret ?_
   simp -implicitDefEqProofs (disch := first | omega | (simp only [go_sem, List.length_append, List.length_drop, List.length_take, hb1] <;> omega) | decide) only [go_sem, ↓reduceIte, Nat.reduceEqDiff, reduceCtorEq]
  ·
   have hx2 := hx (by omega)
   by_cases hfew : x.length + x.flatten.length ≤ 2000
   ·
    have hw := wb_len s (by omega)
    have hwn := wint_len n hn
    have hw2 := ints_le l hr l.length (Nat.le_refl _)
    rw [List.take_length] at hw2
    have hw3 : (wInts l).length ≤ 9 * l.length + 9 := by unfold wInts; rw [List.length_append]; have := wint_len l.length (by omega); omega
    have hw4 := strs_le x (by omega) x.length (Nat.le_refl _)
    rw [List.take_length] at hw4
    have hw5 : (wStrs x).length ≤ 9 * x.length + x.flatten.length + 9 := by unfold wStrs; rw [List.length_append]; have := wint_len x.length (by omega); omega
    have hw6 := digs_le d d.length (Nat.le_refl _)
    rw [List.take_length] at hw6
    have hw7 : (wDigs d).length ≤ 16 * d.length + 9 := by unfold wDigs; rw [List.length_append]; have := wint_len d.length (by omega); omega
    have h18i := h18 l ⟨by omega, hr⟩
    have hf1 : ∀ y ∈ x, y.length < 9223372036854775808 := fun y hy => Nat.lt_of_le_of_lt (mem_flat x y hy) (by omega)
    -- region 1 (law.go:122)
    refine Tr.rg hcx [] [some 15, some 16, some 17, some 18, some 19, some 20, some 21, some 22, some 23, some 24, some 25, some 26, some 27, some 28, some 29, some 30, some 31, some 32, some 33, some 34, some 35] [] rfl rfl rfl ?_
    simp -implicitDefEqProofs (maxSteps := 2000000) (disch := first | omega | (simp only [go_sem, List.length_append, List.length_drop, List.length_take, hb1] <;> omega) | decide) only [go_sem, ↓reduceIte, Nat.reduceEqDiff, reduceCtorEq, Nat.reduceLT, Nat.reduceBEq, Nat.reduceAdd, Nat.reduceSub, Nat.reduceMul, Nat.reduceMod, Int.reduceMod, Int.reduceToNat, Int.reduceNeg, h11, h12, h14, h16, h20, h22, h24, h26, h28, h31, h34, eq_self, decide_true, hbig, hmany, hfew]
    refine hK3 _ ?_
    clear hK3 K3
    refine Tr.kp [0, 1, 2, 3, 4, 35] ?_
    simp only [pk_cons, pk_nil, ↓A_cons, ↓reduceIte, Nat.reduceEqDiff, reduceCtorEq]
    refine Tr.condG fun KT KF hT hF => ?_
    simp only [ev_tmp, ev_const, ↓A_cons, ↓reduceIte, Nat.reduceEqDiff, reduceCtorEq, condG_bool, GB_true, GB_false, decide_eq_true_eq]
    refine hF ?_
    clear hT hF KT KF
    refine Tr.skip ?_
    refine hK2 _ ?_
    clear hK2 K2
    refine Tr.kp [0, 1, 2, 3, 4] ?_
    simp only [pk_cons, pk_nil, ↓A_cons, ↓reduceIte, Nat.reduceEqDiff, reduceCtorEq]
    refine Tr.seqK fun K6 hK6 => ?_
    refine Tr.seqK fun K7 hK7 => ?_
    -- region 3 (law.go:125)
    refine Tr.rg hcx [] _ [] rfl rfl rfl ?_
    simp -implicitDefEqProofs (maxSteps := 2000000) (disch := first | omega | (simp only [go_sem, List.length_append, List.length_drop, List.length_take, hb1] <;> omega) | decide) only [go_sem, ↓reduceIte, Nat.reduceEqDiff, reduceCtorEq, Nat.reduceLT, Nat.reduceBEq, Nat.reduceAdd, Nat.reduceSub, Nat.reduceMul, Nat.reduceMod, Int.reduceMod, Int.reduceToNat, Int.reduceNeg, h11, h12, h14, h16, h20, h22, h24, h26, h28, h31, h34, eq_self, decide_true, hbig, hmany, hfew, h18i]
    generalize hBd : [wint n, wb s, wInts l, wStrs x, wDigs d] = B
    have hB5 : B.length = 5 := by rw [← hBd]; rfl
    have hk0 : gt B 0 = wint n := by rw [← hBd]; rfl
    have hk1 : gt B 1 = wb s := by rw [← hBd]; rfl
    have hk2 : gt B 2 = wInts l := by rw [← hBd]; rfl
    have hk3 : gt B 3 = wStrs x := by rw [← hBd]; rfl
    have hk4 : gt B 4 = wDigs d := by rw [← hBd]; rfl
    clear hBd
    refine hK7 _ ?_
    clear hK7 K7
    refine Tr.kp [47, 48, 49] ?_
    simp only [pk_cons, pk_nil, ↓A_cons, ↓reduceIte, Nat.reduceEqDiff, reduceCtorEq]
    refine Tr.blk ?_
    refine Tr.loopI (α := Nat) (fun a => [(47, ?v47_14), (48, ?v48_14), (49, .val (nI a))]) (fun a => ?h_14) (fun a => a ≤ 5) (fun a => 5 - a) (0) ?_ ?le_14 ?hh_14 ?bd_14
    case hh_14 => exact rfl
    case le_14 => (simp only [Le_nil, Le_cons, ↓A_cons, ↓reduceIte, Nat.reduceEqDiff, reduceCtorEq, CLe_refl, CLe_top, CLe_full, CLe_nil, CLe_own, and_true, true_and]; all_goals (repeat' first | exact CLe.refl _ | exact True.intro | (refine CLe_sln ?_; first | with_reducible rfl | (simp only [List.take_zero]; done) | (rfl; done)) | exact CLe_nI (by omega) | exact CLe_int (by omega) | exact CLe_inI (by omega) | exact CLe_nIi (by omega) | with_reducible apply And.intro))
    · omega
    case bd_14 =>
     rintro k hk
     refine Tr.seqK fun K8 hK8 => ?_
     -- region 4 (law.go:125)
     refine Tr.rg hcx [] _ [] rfl rfl rfl ?_
     simp -implicitDefEqProofs (maxSteps := 2000000) (disch := first | omega | (simp only [go_sem, List.length_append, List.length_drop, List.length_take, hb1] <;> omega) | decide) only [go_sem, ↓reduceIte, Nat.reduceEqDiff, reduceCtorEq, Nat.reduceLT, Nat.reduceBEq, Nat.reduceAdd, Nat.reduceSub, Nat.reduceMul, Nat.reduceMod, Int.reduceMod, Int.reduceToNat, Int.reduceNeg, h11, h12, h14, h16, h20, h22, h24, h26, h28, h31, h34, eq_self, decide_true, hbig, hmany, hfew]
     refine hK8 _ ?_
     clear hK8 K8
     refine Tr.kp [47, 48, 49, 50] ?_
     simp only [pk_cons, pk_nil, ↓A_cons, ↓reduceIte, Nat.reduceEqDiff, reduceCtorEq]
     refine Tr.seqK fun K9 hK9 => ?_
     refine Tr.condG fun KT KF hT hF => ?_
     simp only [ev_tmp, ev_const, ↓A_cons, ↓reduceIte, Nat.reduceEqDiff, reduceCtorEq, condG_bool, GB_true, GB_false, decide_eq_true_eq]
     refine GB.dec (fun hc50 => hT ?_) (fun hc50 => hF ?_)
     ·
      clear hT hF KT KF
      have hkB : (gt B k).length < 1048576 := by
        rcases (show k = 0 ∨ k = 1 ∨ k = 2 ∨ k = 3 ∨ k = 4 by omega) with rfl | rfl | rfl | rfl | rfl
        · rw [hk0]; omega
        · rw [hk1]; omega
        · rw [hk2]; omega
        · rw [hk3]; omega
        · rw [hk4]; omega
      refine Tr.skip ?_
      refine hK9 _ ?_
      clear hK9 K9
      refine Tr.kp [47, 48, 49] ?_
      simp only [pk_cons, pk_nil, ↓A_cons, ↓reduceIte, Nat.reduceEqDiff, reduceCtorEq]
      refine Tr.seqK fun K10 hK10 => ?_
      refine Tr.blk ?_
      refine Tr.seqK fun K11 hK11 => ?_
      -- region 5 (law.go:125)
      refine Tr.rg hcx [1000051, 1000053] _ [] rfl rfl rfl ?_
      simp -implicitDefEqProofs (maxSteps := 2000000) (disch := first | omega | (simp only [go_sem, List.length_append, List.length_drop, List.length_take, hb1] <;> omega) | decide) only [go_sem, ↓reduceIte, Nat.reduceEqDiff, reduceCtorEq, Nat.reduceLT, Nat.reduceBEq, Nat.reduceAdd, Nat.reduceSub, Nat.reduceMul, Nat.reduceMod, Int.reduceMod, Int.reduceToNat, Int.reduceNeg, h11, h12, h14, h16, h20, h22, h24, h26, h28, h31, h34, eq_self, decide_true, hbig, hmany, hfew]
      refine hK11 _ ?_
      clear hK11 K11
      refine Tr.kp [11, 12, 47, 48, 49] ?_
      simp only [pk_cons, pk_nil, ↓A_cons, ↓reduceIte, Nat.reduceEqDiff, reduceCtorEq]
      refine Tr.seqK fun K12 hK12 => ?_
      -- region 6 (law.go:126)
      refine Tr.rg hcx [] _ [] rfl rfl rfl ?_
      simp -implicitDefEqProofs (maxSteps := 2000000) (disch := first | omega | (simp only [go_sem, List.length_append, List.length_drop, List.length_take, hb1] <;> omega) | decide) only [go_sem, ↓reduceIte, Nat.reduceEqDiff, reduceCtorEq, Nat.reduceLT, Nat.reduceBEq, Nat.reduceAdd, Nat.reduceSub, Nat.reduceMul, Nat.reduceMod, Int.reduceMod, Int.reduceToNat, Int.reduceNeg, h11, h12, h14, h16, h20, h22, h24, h26, h28, h31, h34, eq_self, decide_true, hbig, hmany, hfew]
      refine hK12 _ ?_
      clear hK12 K12
      refine Tr.kp [11, 12, 47, 48, 49, 56, 57] ?_
      simp only [pk_cons, pk_nil, ↓A_cons, ↓reduceIte, Nat.reduceEqDiff, reduceCtorEq]
      refine Tr.blk ?_
      refine Tr.loopI (α := Nat) (fun a => [(11, ?v11_28), (12, ?v12_28), (47, ?v47_28), (48, ?v48_28), (49, ?v49_28), (56, ?v56_28), (57, .val (nI a))]) (fun a => ?h_28) (fun a => a ≤ (gt B k).length) (fun a => (gt B k).length - a) (0) ?_ ?le_28 ?hh_28 ?bd_28
      case hh_28 => exact rfl
      case le_28 => (simp only [Le_nil, Le_cons, ↓A_cons, ↓reduceIte, Nat.reduceEqDiff, reduceCtorEq, CLe_refl, CLe_top, CLe_full, CLe_nil, CLe_own, and_true, true_and]; all_goals (repeat' first | exact CLe.refl _ | exact True.intro | (refine CLe_sln ?_; first | with_reducible rfl | (simp only [List.take_zero]; done) | (rfl; done)) | exact CLe_nI (by omega) | exact CLe_int (by omega) | exact CLe_inI (by omega) | exact CLe_nIi (by omega) | with_reducible apply And.intro))
      · omega
      case bd_28 =>
       rintro j hj
       refine Tr.seqK fun K13 hK13 => ?_
       -- region 7 (law.go:126)
       refine Tr.rg hcx [] _ [] rfl rfl rfl ?_
       simp -implicitDefEqProofs (maxSteps := 2000000) (disch := first | omega | (simp only [go_sem, List.length_append, List.length_drop, List.length_take, hb1] <;> omega) | decide) only [go_sem, ↓reduceIte, Nat.reduceEqDiff, reduceCtorEq, Nat.reduceLT, Nat.reduceBEq, Nat.reduceAdd, Nat.reduceSub, Nat.reduceMul, Nat.reduceMod, Int.reduceMod, Int.reduceToNat, Int.reduceNeg, h11, h12, h14, h16, h20, h22, h24, h26, h28, h31, h34, eq_self, decide_true, hbig, hmany, hfew]
       refine hK13 _ ?_
       clear hK13 K13
       refine Tr.kp [11, 12, 47, 48, 49, 56, 57, 58] ?_
       simp only [pk_cons, pk_nil, ↓A_cons, ↓reduceIte, Nat.reduceEqDiff, reduceCtorEq]
       refine Tr.seqK fun K14 hK14 => ?_
       refine Tr.condG fun KT KF hT hF => ?_
       simp only [ev_tmp, ev_const, ↓A_cons, ↓reduceIte, Nat.reduceEqDiff, reduceCtorEq, condG_bool, GB_true, GB_false, decide_eq_true_eq]
       refine GB.dec (fun hc58 => hT ?_) (fun hc58 => hF ?_)
       ·
        clear hT hF KT KF
        have hj1 : j < (gt B k).length := by omega
        refine Tr.skip ?_
        refine hK14 _ ?_
        clear hK14 K14
        refine Tr.kp [11, 12, 47, 48, 49, 56, 57] ?_
        simp only [pk_cons, pk_nil, ↓A_cons, ↓reduceIte, Nat.reduceEqDiff, reduceCtorEq]
        refine Tr.seqK fun K15 hK15 => ?_
        refine Tr.blk ?_
        refine Tr.seqK fun K16 hK16 => ?_
        -- region 8 (law.go:126)
        refine Tr.rg hcx [1000059] _ [] rfl rfl rfl ?_
        simp -implicitDefEqProofs (maxSteps := 2000000) (disch := first | omega | (simp only [go_sem, List.length_append, List.length_drop, List.length_take, hb1] <;> omega) | decide) only [go_sem, ↓reduceIte, Nat.reduceEqDiff, reduceCtorEq, Nat.reduceLT, Nat.reduceBEq, Nat.reduceAdd, Nat.reduceSub, Nat.reduceMul, Nat.reduceMod, Int.reduceMod, Int.reduceToNat, Int.reduceNeg, h11, h12, h14, h16, h20, h22, h24, h26, h28, h31, h34, eq_self, decide_true, hbig, hmany, hfew]
        refine hK16 _ ?_
        clear hK16 K16
        refine Tr.kp [11, 12, 13, 47, 48, 49, 56, 57] ?_
        simp only [pk_cons, pk_nil, ↓A_cons, ↓reduceIte, Nat.reduceEqDiff, reduceCtorEq]
        refine Tr.seqK fun K17 hK17 => ?_
        -- region 9 (law.go:127)
        refine Tr.rg hcx [] _ [] rfl rfl rfl ?_
        simp -implicitDefEqProofs (maxSteps := 2000000) (disch := first | omega | (simp only [go_sem, List.length_append, List.length_drop, List.length_take, hb1] <;> omega) | decide) only [go_sem, ↓reduceIte, Nat.reduceEqDiff, reduceCtorEq, Nat.reduceLT, Nat.reduceBEq, Nat.reduceAdd, Nat.reduceSub, Nat.reduceMul, Nat.reduceMod, Int.reduceMod, Int.reduceToNat, Int.reduceNeg, h11, h12, h14, h16, h20, h22, h24, h26, h28, h31, h34, eq_self, decide_true, hbig, hmany, hfew]
        refine hK17 _ ?_
        clear hK17 K17
        refine Tr.kp [11, 12, 13, 47, 48, 49, 56, 57] ?_
        simp only [pk_cons, pk_nil, ↓A_cons, ↓reduceIte, Nat.reduceEqDiff, reduceCtorEq]
        refine Tr.seqK fun K18 hK18 => ?_
        refine Tr.seqK fun K19 hK19 => ?_
        -- region 10 (law.go:128)
        refine Tr.rg hcx [] _ [] rfl rfl rfl ?_
        simp -implicitDefEqProofs (maxSteps := 2000000) (disch := first | omega | (simp only [go_sem, List.length_append, List.length_drop, List.length_take, hb1] <;> omega) | decide) only [go_sem, ↓reduceIte, Nat.reduceEqDiff, reduceCtorEq, Nat.reduceLT, Nat.reduceBEq, Nat.reduceAdd, Nat.reduceSub, Nat.reduceMul, Nat.reduceMod, Int.reduceMod, Int.reduceToNat, Int.reduceNeg, h11, h12, h14, h16, h20, h22, h24, h26, h28, h31, h34, eq_self, decide_true, hbig, hmany, hfew]
        refine hK19 _ ?_
        clear hK19 K19
        refine Tr.kp [11, 12, 13, 47, 48, 49, 56, 57, 60] ?_
        simp only [pk_cons, pk_nil, ↓A_cons, ↓reduceIte, Nat.reduceEqDiff, reduceCtorEq]
        refine Tr.blk ?_
        refine Tr.seqK fun K20 hK20 => ?_
        -- region 12 (law.go:129)
        refine Tr.rg hcx [1000070] _ [] rfl rfl rfl ?_
        simp -implicitDefEqProofs (maxSteps := 2000000) (disch := first | omega | (simp only [go_sem, List.length_append, List.length_drop, List.length_take, hb1] <;> omega) | decide) only [go_sem, ↓reduceIte, Nat.reduceEqDiff, reduceCtorEq, Nat.reduceLT, Nat.reduceBEq, Nat.reduceAdd, Nat.reduceSub, Nat.reduceMul, Nat.reduceMod, Int.reduceMod, Int.reduceToNat, Int.reduceNeg, h11, h12, h14, h16, h20, h22, h24, h26, h28, h31, h34, eq_self, decide_true, hbig, hmany, hfew]
        refine hK20 _ ?_
        clear hK20 K20
        refine Tr.kp [11, 12, 13, 47, 48, 49, 56, 57, 60, 69] ?_
        simp only [pk_cons, pk_nil, ↓A_cons, ↓reduceIte, Nat.reduceEqDiff, reduceCtorEq]
        refine Tr.condG fun KT KF hT hF => ?_
        simp only [ev_tmp, ev_const, ↓A_cons, ↓reduceIte, Nat.reduceEqDiff, reduceCtorEq, condG_bool, GB_true, GB_false, decide_eq_true_eq]
        refine GB.dec (fun hc69 => hT ?_) (fun hc69 => hF ?_)
        ·
         clear hT hF KT KF
         subst hc69
         have hr1 := getI_beg n hn j (by rw [← hk0]; exact hj1)
         rw [← hk0] at hr1
         -- region 13 (law.go:130)
         refine Tr.rg hcx [1000078] _ [] rfl rfl rfl ?_
         simp -implicitDefEqProofs (maxSteps := 2000000) (disch := first | omega | (simp only [go_sem, List.length_append, List.length_drop, List.length_take, hb1] <;> omega) | decide) only [go_sem, ↓reduceIte, Nat.reduceEqDiff, reduceCtorEq, Nat.reduceLT, Nat.reduceBEq, Nat.reduceAdd, Nat.reduceSub, Nat.reduceMul, Nat.reduceMod, Int.reduceMod, Int.reduceToNat, Int.reduceNeg, h11, h12, h14, h16, h20, h22, h24, h26, h28, h31, h34, eq_self, decide_true, hbig, hmany, hfew, hr1]
         refine hK18 _ ?_
         clear hK18 K18
         refine Tr.kp [11, 12, 14, 47, 48, 49, 56, 57] ?_
         simp only [pk_cons, pk_nil, ↓A_cons, ↓reduceIte, Nat.reduceEqDiff, reduceCtorEq]
         refine Tr.seqK fun K21 hK21 => ?_
         -- region 20 (law.go:140)
         refine Tr.rg hcx [] _ [] rfl rfl rfl ?_
         simp -implicitDefEqProofs (maxSteps := 2000000) (disch := first | omega | (simp only [go_sem, List.length_append, List.length_drop, List.length_take, hb1] <;> omega) | decide) only [go_sem, ↓reduceIte, Nat.reduceEqDiff, reduceCtorEq, Nat.reduceLT, Nat.reduceBEq, Nat.reduceAdd, Nat.reduceSub, Nat.reduceMul, Nat.reduceMod, Int.reduceMod, Int.reduceToNat, Int.reduceNeg, h11, h12, h14, h16, h20, h22, h24, h26, h28, h31, h34, eq_self, decide_true, hbig, hmany, hfew]
         refine hK21 _ ?_
         clear hK21 K21
         refine Tr.kp [11, 12, 47, 48, 49, 56, 57, 110] ?_
         simp only [pk_cons, pk_nil, ↓A_cons, ↓reduceIte, Nat.reduceEqDiff, reduceCtorEq]
         refine Tr.condG fun KT KF hT hF => ?_
         simp only [ev_tmp, ev_const, ↓A_cons, ↓reduceIte, Nat.reduceEqDiff, reduceCtorEq, condG_bool, GB_true, GB_false, decide_eq_true_eq]
         refine hF ?_
         clear hT hF KT KF
         refine Tr.skip ?_
         refine hK15 _ ?_
         clear hK15 K15
         refine Tr.kp [11, 12, 47, 48, 49, 56, 57] ?_
         simp only [pk_cons, pk_nil, ↓A_cons, ↓reduceIte, Nat.reduceEqDiff, reduceCtorEq]
         -- region 22 (law.go:126)
         refine Tr.rg hcx [] _ [] rfl rfl rfl ?_
         simp -implicitDefEqProofs (maxSteps := 2000000) (disch := first | omega | (simp only [go_sem, List.length_append, List.length_drop, List.length_take, hb1] <;> omega) | decide) only [go_sem, ↓reduceIte, Nat.reduceEqDiff, reduceCtorEq, Nat.reduceLT, Nat.reduceBEq, Nat.reduceAdd, Nat.reduceSub, Nat.reduceMul, Nat.reduceMod, Int.reduceMod, Int.reduceToNat, Int.reduceNeg, h11, h12, h14, h16, h20, h22, h24, h26, h28, h31, h34, eq_self, decide_true, hbig, hmany, hfew]
         refine ⟨j + 1, ⟨by omega, by first | omega | (simp only []; omega)⟩, ?_, rfl⟩
         (simp only [Le_nil, Le_cons, ↓A_cons, ↓reduceIte, Nat.reduceEqDiff, reduceCtorEq, CLe_refl, CLe_top, CLe_full, CLe_nil, CLe_own, and_true, true_and]; all_goals (repeat' first | exact CLe.refl _ | exact True.intro | (refine CLe_sln ?_; first | with_reducible rfl | (simp only [List.take_zero]; done) | (rfl; done)) | exact CLe_nI (by omega) | exact CLe_int (by omega) | exact CLe_inI (by omega) | exact CLe_nIi (by omega) | with_reducible apply And.intro))
        ·
         clear hT hF KT KF
         refine Tr.seqK fun K22 hK22 => ?_
         -- region 14 (law.go:131)
         refine Tr.rg hcx [1000080] _ [] rfl rfl rfl ?_
         simp -implicitDefEqProofs (maxSteps := 2000000) (disch := first | omega | (simp only [go_sem, List.length_append, List.length_drop, List.length_take, hb1] <;> omega) | decide) only [go_sem, ↓reduceIte, Nat.reduceEqDiff, reduceCtorEq, Nat.reduceLT, Nat.reduceBEq, Nat.reduceAdd, Nat.reduceSub, Nat.reduceMul, Nat.reduceMod, Int.reduceMod, Int.reduceToNat, Int.reduceNeg, h11, h12, h14, h16, h20, h22, h24, h26, h28, h31, h34, eq_self, decide_true, hbig, hmany, hfew]
         refine hK22 _ ?_
         clear hK22 K22
         refine Tr.kp [11, 12, 13, 47, 48, 49, 56, 57, 60, 79] ?_
         simp only [pk_cons, pk_nil, ↓A_cons, ↓reduceIte, Nat.reduceEqDiff, reduceCtorEq]
         refine Tr.condG fun KT KF hT hF => ?_
         simp only [ev_tmp, ev_const, ↓A_cons, ↓reduceIte, Nat.reduceEqDiff, reduceCtorEq, condG_bool, GB_true, GB_false, decide_eq_true_eq]
         refine GB.dec (fun hc79 => hT ?_) (fun hc79 => hF ?_)
         ·
          clear hT hF KT KF
          subst hc79
          have hr1 := getB_beg s (by omega) j (by rw [← hk1]; exact hj1)
          rw [← hk1] at hr1
          -- region 15 (law.go:132)
          refine Tr.rg hcx [1000088] _ [] rfl rfl rfl ?_
          simp -implicitDefEqProofs (maxSteps := 2000000) (disch := first | omega | (simp only [go_sem, List.length_append, List.length_drop, List.length_take, hb1] <;> omega) | decide) only [go_sem, ↓reduceIte, Nat.reduceEqDiff, reduceCtorEq, Nat.reduceLT, Nat.reduceBEq, Nat.reduceAdd, Nat.reduceSub, Nat.reduceMul, Nat.reduceMod, Int.reduceMod, Int.reduceToNat, Int.reduceNeg, h11, h12, h14, h16, h20, h22, h24, h26, h28, h31, h34, eq_self, decide_true, hbig, hmany, hfew, hr1]
          refine hK18 _ ?_
          clear hK18 K18
          refine Tr.kp [11, 12, 14, 47, 48, 49, 56, 57] ?_
          simp only [pk_cons, pk_nil, ↓A_cons, ↓reduceIte, Nat.reduceEqDiff, reduceCtorEq]
          refine Tr.seqK fun K23 hK23 => ?_
          -- region 20 (law.go:140)
          refine Tr.rg hcx [] _ [] rfl rfl rfl ?_
          simp -implicitDefEqProofs (maxSteps := 2000000) (disch := first | omega | (simp only [go_sem, List.length_append, List.length_drop, List.length_take, hb1] <;> omega) | decide) only [go_sem, ↓reduceIte, Nat.reduceEqDiff, reduceCtorEq, Nat.reduceLT, Nat.reduceBEq, Nat.reduceAdd, Nat.reduceSub, Nat.reduceMul, Nat.reduceMod, Int.reduceMod, Int.reduceToNat, Int.reduceNeg, h11, h12, h14, h16, h20, h22, h24, h26, h28, h31, h34, eq_self, decide_true, hbig, hmany, hfew]
          refine hK23 _ ?_
          clear hK23 K23
          refine Tr.kp [11, 12, 47, 48, 49, 56, 57, 110] ?_
          simp only [pk_cons, pk_nil, ↓A_cons, ↓reduceIte, Nat.reduceEqDiff, reduceCtorEq]
          refine Tr.condG fun KT KF hT hF => ?_
          simp only [ev_tmp, ev_const, ↓A_cons, ↓reduceIte, Nat.reduceEqDiff, reduceCtorEq, condG_bool, GB_true, GB_false, decide_eq_true_eq]
          refine hF ?_
          clear hT hF KT KF
          refine Tr.skip ?_
          refine hK15 _ ?_
          clear hK15 K15
          refine Tr.kp [11, 12, 47, 48, 49, 56, 57] ?_
          simp only [pk_cons, pk_nil, ↓A_cons, ↓reduceIte, Nat.reduceEqDiff, reduceCtorEq]
          -- region 22 (law.go:126)
          refine Tr.rg hcx [] _ [] rfl rfl rfl ?_
          simp -implicitDefEqProofs (maxSteps := 2000000) (disch := first | omega | (simp only [go_sem, List.length_append, List.length_drop, List.length_take, hb1] <;> omega) | decide) only [go_sem, ↓reduceIte, Nat.reduceEqDiff, reduceCtorEq, Nat.reduceLT, Nat.reduceBEq, Nat.reduceAdd, Nat.reduceSub, Nat.reduceMul, Nat.reduceMod, Int.reduceMod, Int.reduceToNat, Int.reduceNeg, h11, h12, h14, h16, h20, h22, h24, h26, h28, h31, h34, eq_self, decide_true, hbig, hmany, hfew]
          refine ⟨j + 1, ⟨by omega, by first | omega | (simp only []; omega)⟩, ?_, rfl⟩
          (simp only [Le_nil, Le_cons, ↓A_cons, ↓reduceIte, Nat.reduceEqDiff, reduceCtorEq, CLe_refl, CLe_top, CLe_full, CLe_nil, CLe_own, and_true, true_and]; all_goals (repeat' first | exact CLe.refl _ | exact True.intro | (refine CLe_sln ?_; first | with_reducible rfl | (simp only [List.take_zero]; done) | (rfl; done)) | exact CLe_nI (by omega) | exact CLe_int (by omega) | exact CLe_inI (by omega) | exact CLe_nIi (by omega) | with_reducible apply And.intro))
         ·
          clear hT hF KT KF
          refine Tr.seqK fun K24 hK24 => ?_
          -- region 16 (law.go:133)
          refine Tr.rg hcx [1000090] _ [] rfl rfl rfl ?_
          simp -implicitDefEqProofs (maxSteps := 2000000) (disch := first | omega | (simp only [go_sem, List.length_append, List.length_drop, List.length_take, hb1] <;> omega) | decide) only [go_sem, ↓reduceIte, Nat.reduceEqDiff, reduceCtorEq, Nat.reduceLT, Nat.reduceBEq, Nat.reduceAdd, Nat.reduceSub, Nat.reduceMul, Nat.reduceMod, Int.reduceMod, Int.reduceToNat, Int.reduceNeg, h11, h12, h14, h16, h20, h22, h24, h26, h28, h31, h34, eq_self, decide_true, hbig, hmany, hfew]
          refine hK24 _ ?_
          clear hK24 K24
          refine Tr.kp [11, 12, 13, 47, 48, 49, 56, 57, 60, 89] ?_
          simp only [pk_cons, pk_nil, ↓A_cons, ↓reduceIte, Nat.reduceEqDiff, reduceCtorEq]
          refine Tr.condG fun KT KF hT hF => ?_
          simp only [ev_tmp, ev_const, ↓A_cons, ↓reduceIte, Nat.reduceEqDiff, reduceCtorEq, condG_bool, GB_true, GB_false, decide_eq_true_eq]
          refine GB.dec (fun hc89 => hT ?_) (fun hc89 => hF ?_)
          ·
           clear hT hF KT KF
           subst hc89
           have hr1 := getIs_beg l (by omega) hr j (by rw [← hk2]; exact hj1)
           rw [← hk2] at hr1
           -- region 17 (law.go:134)
           refine Tr.rg hcx [1000098] _ [] rfl rfl rfl ?_
           simp -implicitDefEqProofs (maxSteps := 2000000) (disch := first | omega | (simp only [go_sem, List.length_append, List.length_drop, List.length_take, hb1] <;> omega) | decide) only [go_sem, ↓reduceIte, Nat.reduceEqDiff, reduceCtorEq, Nat.reduceLT, Nat.reduceBEq, Nat.reduceAdd, Nat.reduceSub, Nat.reduceMul, Nat.reduceMod, Int.reduceMod, Int.reduceToNat, Int.reduceNeg, h11, h12, h14, h16, h20, h22, h24, h26, h28, h31, h34, eq_self, decide_true, hbig, hmany, hfew, hr1]
           refine hK18 _ ?_
           clear hK18 K18
           refine Tr.kp [11, 12, 14, 47, 48, 49, 56, 57] ?_
           simp only [pk_cons, pk_nil, ↓A_cons, ↓reduceIte, Nat.reduceEqDiff, reduceCtorEq]
           refine Tr.seqK fun K25 hK25 => ?_
           -- region 20 (law.go:140)
           refine Tr.rg hcx [] _ [] rfl rfl rfl ?_
           simp -implicitDefEqProofs (maxSteps := 2000000) (disch := first | omega | (simp only [go_sem, List.length_append, List.length_drop, List.length_take, hb1] <;> omega) | decide) only [go_sem, ↓reduceIte, Nat.reduceEqDiff, reduceCtorEq, Nat.reduceLT, Nat.reduceBEq, Nat.reduceAdd, Nat.reduceSub, Nat.reduceMul, Nat.reduceMod, Int.reduceMod, Int.reduceToNat, Int.reduceNeg, h11, h12, h14, h16, h20, h22, h24, h26, h28, h31, h34, eq_self, decide_true, hbig, hmany, hfew]
           refine hK25 _ ?_
           clear hK25 K25
           refine Tr.kp [11, 12, 47, 48, 49, 56, 57, 110] ?_
           simp only [pk_cons, pk_nil, ↓A_cons, ↓reduceIte, Nat.reduceEqDiff, reduceCtorEq]
           refine Tr.condG fun KT KF hT hF => ?_
           simp only [ev_tmp, ev_const, ↓A_cons, ↓reduceIte, Nat.reduceEqDiff, reduceCtorEq, condG_bool, GB_true, GB_false, decide_eq_true_eq]
           refine hF ?_
           clear hT hF KT KF
           refine Tr.skip ?_
           refine hK15 _ ?_
           clear hK15 K15
           refine Tr.kp [11, 12, 47, 48, 49, 56, 57] ?_
           simp only [pk_cons, pk_nil, ↓A_cons, ↓reduceIte, Nat.reduceEqDiff, reduceCtorEq]
           -- region 22 (law.go:126)
           refine Tr.rg hcx [] _ [] rfl rfl rfl ?_
           simp -implicitDefEqProofs (maxSteps := 2000000) (disch := first | omega | (simp only [go_sem, List.length_append, List.length_drop, List.length_take, hb1] <;> omega) | decide) only [go_sem, ↓reduceIte, Nat.reduceEqDiff, reduceCtorEq, Nat.reduceLT, Nat.reduceBEq, Nat.reduceAdd, Nat.reduceSub, Nat.reduceMul, Nat.reduceMod, Int.reduceMod, Int.reduceToNat, Int.reduceNeg, h11, h12, h14, h16, h20, h22, h24, h26, h28, h31, h34, eq_self, decide_true, hbig, hmany, hfew]
           refine ⟨j + 1, ⟨by omega, by first | omega | (simp only []; omega)⟩, ?_, rfl⟩
           (simp only [Le_nil, Le_cons, ↓A_cons, ↓reduceIte, Nat.reduceEqDiff, reduceCtorEq, CLe_refl, CLe_top, CLe_full, CLe_nil, CLe_own, and_true, true_and]; all_goals (repeat' first | exact CLe.refl _ | exact True.intro | (refine CLe_sln ?_; first | with_reducible rfl | (simp only [List.take_zero]; done) | (rfl; done)) | exact CLe_nI (by omega) | exact CLe_int (by omega) | exact CLe_inI (by omega) | exact CLe_nIi (by omega) | with_reducible apply And.intro))
          ·
           clear hT hF KT KF
           refine Tr.seqK fun K26 hK26 => ?_
           -- region 18 (law.go:135)
           refine Tr.rg hcx [1000100] _ [] rfl rfl rfl ?_
           simp -implicitDefEqProofs (maxSteps := 2000000) (disch := first | omega | (simp only [go_sem, List.length_append, List.length_drop, List.length_take, hb1] <;> omega) | decide) only [go_sem, ↓reduceIte, Nat.reduceEqDiff, reduceCtorEq, Nat.reduceLT, Nat.reduceBEq, Nat.reduceAdd, Nat.reduceSub, Nat.reduceMul, Nat.reduceMod, Int.reduceMod, Int.reduceToNat, Int.reduceNeg, h11, h12, h14, h16, h20, h22, h24, h26, h28, h31, h34, eq_self, decide_true, hbig, hmany, hfew]
           refine hK26 _ ?_
           clear hK26 K26
           refine Tr.kp [11, 12, 13, 47, 48, 49, 56, 57, 99] ?_
           simp only [pk_cons, pk_nil, ↓A_cons, ↓reduceIte, Nat.reduceEqDiff, reduceCtorEq]
           refine Tr.condG fun KT KF hT hF => ?_
           simp only [ev_tmp, ev_const, ↓A_cons, ↓reduceIte, Nat.reduceEqDiff, reduceCtorEq, condG_bool, GB_true, GB_false, decide_eq_true_eq]
           refine GB.dec (fun hc99 => hT ?_) (fun hc99 => hF ?_)
           ·
            clear hT hF KT KF
            subst hc99
            have hr1 := getSs_beg x (by omega) hf1 j (by rw [← hk3]; exact hj1)
            rw [← hk3] at hr1
            -- region 19 (law.go:136)
            refine Tr.rg hcx [1000108] _ [] rfl rfl rfl ?_
            simp -implicitDefEqProofs (maxSteps := 2000000) (disch := first | omega | (simp only [go_sem, List.length_append, List.length_drop, List.length_take, hb1] <;> omega) | decide) only [go_sem, ↓reduceIte, Nat.reduceEqDiff, reduceCtorEq, Nat.reduceLT, Nat.reduceBEq, Nat.reduceAdd, Nat.reduceSub, Nat.reduceMul, Nat.reduceMod, Int.reduceMod, Int.reduceToNat, Int.reduceNeg, h11, h12, h14, h16, h20, h22, h24, h26, h28, h31, h34, eq_self, decide_true, hbig, hmany, hfew, hr1]
            refine hK18 _ ?_
            clear hK18 K18
            refine Tr.kp [11, 12, 14, 47, 48, 49, 56, 57] ?_
            simp only [pk_cons, pk_nil, ↓A_cons, ↓reduceIte, Nat.reduceEqDiff, reduceCtorEq]
            refine Tr.seqK fun K27 hK27 => ?_
            -- region 20 (law.go:140)
            refine Tr.rg hcx [] _ [] rfl rfl rfl ?_
            simp -implicitDefEqProofs (maxSteps := 2000000) (disch := first | omega | (simp only [go_sem, List.length_append, List.length_drop, List.length_take, hb1] <;> omega) | decide) only [go_sem, ↓reduceIte, Nat.reduceEqDiff, reduceCtorEq, Nat.reduceLT, Nat.reduceBEq, Nat.reduceAdd, Nat.reduceSub, Nat.reduceMul, Nat.reduceMod, Int.reduceMod, Int.reduceToNat, Int.reduceNeg, h11, h12, h14, h16, h20, h22, h24, h26, h28, h31, h34, eq_self, decide_true, hbig, hmany, hfew]
            refine hK27 _ ?_
            clear hK27 K27
            refine Tr.kp [11, 12, 47, 48, 49, 56, 57, 110] ?_
            simp only [pk_cons, pk_nil, ↓A_cons, ↓reduceIte, Nat.reduceEqDiff, reduceCtorEq]
            refine Tr.condG fun KT KF hT hF => ?_
            simp only [ev_tmp, ev_const, ↓A_cons, ↓reduceIte, Nat.reduceEqDiff, reduceCtorEq, condG_bool, GB_true, GB_false, decide_eq_true_eq]
            refine hF ?_
            clear hT hF KT KF
            refine Tr.skip ?_
            refine hK15 _ ?_
            clear hK15 K15
            refine Tr.kp [11, 12, 47, 48, 49, 56, 57] ?_
            simp only [pk_cons, pk_nil, ↓A_cons, ↓reduceIte, Nat.reduceEqDiff, reduceCtorEq]
            -- region 22 (law.go:126)
            refine Tr.rg hcx [] _ [] rfl rfl rfl ?_
            simp -implicitDefEqProofs (maxSteps := 2000000) (disch := first | omega | (simp only [go_sem, List.length_append, List.length_drop, List.length_take, hb1] <;> omega) | decide) only [go_sem, ↓reduceIte, Nat.reduceEqDiff, reduceCtorEq, Nat.reduceLT, Nat.reduceBEq, Nat.reduceAdd, Nat.reduceSub, Nat.reduceMul, Nat.reduceMod, Int.reduceMod, Int.reduceToNat, Int.reduceNeg, h11, h12, h14, h16, h20, h22, h24, h26, h28, h31, h34, eq_self, decide_true, hbig, hmany, hfew]
            refine ⟨j + 1, ⟨by omega, by first | omega | (simp only []; omega)⟩, ?_, rfl⟩
            (simp only [Le_nil, Le_cons, ↓A_cons, ↓reduceIte, Nat.reduceEqDiff, reduceCtorEq, CLe_refl, CLe_top, CLe_full, CLe_nil, CLe_own, and_true, true_and]; all_goals (repeat' first | exact CLe.refl _ | exact True.intro | (refine CLe_sln ?_; first | with_reducible rfl | (simp only [List.take_zero]; done) | (rfl; done)) | exact CLe_nI (by omega) | exact CLe_int (by omega) | exact CLe_inI (by omega) | exact CLe_nIi (by omega) | with_reducible apply And.intro))
           ·
            clear hT hF KT KF
            obtain rfl : k = 4 := by omega
            have hr1 := getDs_beg d (by omega) j (by rw [← hk4]; exact hj1)
            rw [← hk4] at hr1
            -- region 11 (law.go:138)
            refine Tr.rg hcx [1000068] _ [] rfl rfl rfl ?_
            simp -implicitDefEqProofs (maxSteps := 2000000) (disch := first | omega | (simp only [go_sem, List.length_append, List.length_drop, List.length_take, hb1] <;> omega) | decide) only [go_sem, ↓reduceIte, Nat.reduceEqDiff, reduceCtorEq, Nat.reduceLT, Nat.reduceBEq, Nat.reduceAdd, Nat.reduceSub, Nat.reduceMul, Nat.reduceMod, Int.reduceMod, Int.reduceToNat, Int.reduceNeg, h11, h12, h14, h16, h20, h22, h24, h26, h28, h31, h34, eq_self, decide_true, hbig, hmany, hfew, hr1]
            refine hK18 _ ?_
            clear hK18 K18
            refine Tr.kp [11, 12, 14, 47, 48, 49, 56, 57] ?_
            simp only [pk_cons, pk_nil, ↓A_cons, ↓reduceIte, Nat.reduceEqDiff, reduceCtorEq]
            refine Tr.seqK fun K28 hK28 => ?_
            -- region 20 (law.go:140)
            refine Tr.rg hcx [] _ [] rfl rfl rfl ?_
            simp -implicitDefEqProofs (maxSteps := 2000000) (disch := first | omega | (simp only [go_sem, List.length_append, List.length_drop, List.length_take, hb1] <;> omega) | decide) only [go_sem, ↓reduceIte, Nat.reduceEqDiff, reduceCtorEq, Nat.reduceLT, Nat.reduceBEq, Nat.reduceAdd, Nat.reduceSub, Nat.reduceMul, Nat.reduceMod, Int.reduceMod, Int.reduceToNat, Int.reduceNeg, h11, h12, h14, h16, h20, h22, h24, h26, h28, h31, h34, eq_self, decide_true, hbig, hmany, hfew]
            refine hK28 _ ?_
            clear hK28 K28
            refine Tr.kp [11, 12, 47, 48, 49, 56, 57, 110] ?_
            simp only [pk_cons, pk_nil, ↓A_cons, ↓reduceIte, Nat.reduceEqDiff, reduceCtorEq]
            refine Tr.condG fun KT KF hT hF => ?_
            simp only [ev_tmp, ev_const, ↓A_cons, ↓reduceIte, Nat.reduceEqDiff, reduceCtorEq, condG_bool, GB_true, GB_false, decide_eq_true_eq]
            refine hF ?_
            clear hT hF KT KF
            refine Tr.skip ?_
            refine hK15 _ ?_
            clear hK15 K15
            refine Tr.kp [11, 12, 47, 48, 49, 56, 57] ?_
            simp only [pk_cons, pk_nil, ↓A_cons, ↓reduceIte, Nat.reduceEqDiff, reduceCtorEq]
            -- region 22 (law.go:126)
            refine Tr.rg hcx [] _ [] rfl rfl rfl ?_
            simp -implicitDefEqProofs (maxSteps := 2000000) (disch := first | omega | (simp only [go_sem, List.length_append, List.length_drop, List.length_take, hb1] <;> omega) | decide) only [go_sem, ↓reduceIte, Nat.reduceEqDiff, reduceCtorEq, Nat.reduceLT, Nat.reduceBEq, Nat.reduceAdd, Nat.reduceSub, Nat.reduceMul, Nat.reduceMod, Int.reduceMod, Int.reduceToNat, Int.reduceNeg, h11, h12, h14, h16, h20, h22, h24, h26, h28, h31, h34, eq_self, decide_true, hbig, hmany, hfew]
            refine ⟨j + 1, ⟨by omega, by first | omega | (simp only []; omega)⟩, ?_, rfl⟩
            (simp only [Le_nil, Le_cons, ↓A_cons, ↓reduceIte, Nat.reduceEqDiff, reduceCtorEq, CLe_refl, CLe_top, CLe_full, CLe_nil, CLe_own, and_true, true_and]; all_goals (repeat' first | exact CLe.refl _ | exact True.intro | (refine CLe_sln ?_; first | with_reducible rfl | (simp only [List.take_zero]; done) | (rfl; done)) | exact CLe_nI (by omega) | exact CLe_int (by omega) | exact CLe_inI (by omega) | exact CLe_nIi (by omega) | with_reducible apply And.intro))
       ·
        clear hT hF KT KF
        refine Tr.exit ?_
        refine hK10 _ ?_
        clear hK14 K14 hK10 K10
        refine Tr.kp [47, 48, 49] ?_
        simp only [pk_cons, pk_nil, ↓A_cons, ↓reduceIte, Nat.reduceEqDiff, reduceCtorEq]
        -- region 23 (law.go:125)
        refine Tr.rg hcx [] _ [] rfl rfl rfl ?_
        simp -implicitDefEqProofs (maxSteps := 2000000) (disch := first | omega | (simp only [go_sem, List.length_append, List.length_drop, List.length_take, hb1] <;> omega) | decide) only [go_sem, ↓reduceIte, Nat.reduceEqDiff, reduceCtorEq, Nat.reduceLT, Nat.reduceBEq, Nat.reduceAdd, Nat.reduceSub, Nat.reduceMul, Nat.reduceMod, Int.reduceMod, Int.reduceToNat, Int.reduceNeg, h11, h12, h14, h16, h20, h22, h24, h26, h28, h31, h34, eq_self, decide_true, hbig, hmany, hfew]
        refine ⟨k + 1, ⟨by omega, by first | omega | (simp only []; omega)⟩, ?_, rfl⟩
        (simp only [Le_nil, Le_cons, ↓A_cons, ↓reduceIte, Nat.reduceEqDiff, reduceCtorEq, CLe_refl, CLe_top, CLe_full, CLe_nil, CLe_own, and_true, true_and]; all_goals (repeat' first | exact CLe.refl _ | exact True.intro | (refine CLe_sln ?_; first | with_reducible rfl | (simp only [List.take_zero]; done) | (rfl; done)) | exact CLe_nI (by omega) | exact CLe_int (by omega) | exact CLe_inI (by omega) | exact CLe_nIi (by omega) | with_reducible apply And.intro))
     ·
      clear hT hF KT KF
      refine Tr.exit ?_
      refine hK6 _ ?_
      clear hK9 K9 hK6 K6
      refine Tr.kp [] ?_
      simp only [pk_cons, pk_nil, ↓A_cons, ↓reduceIte, Nat.reduceEqDiff, reduceCtorEq]
      refine Tr.seqK fun K29 hK29 => ?_
      -- region 24 (law.go:145)
      refine Tr.rg hcx [1000113] _ [] rfl rfl rfl ?_
      simp -implicitDefEqProofs (maxSteps := 2000000) (disch := first | omega | (simp only [go_sem, List.length_append, List.length_drop, List.length_take, hb1] <;> omega) | decide) only [go_sem, ↓reduceIte, Nat.reduceEqDiff, reduceCtorEq, Nat.reduceLT, Nat.reduceBEq, Nat.reduceAdd, Nat.reduceSub, Nat.reduceMul, Nat.reduceMod, Int.reduceMod, Int.reduceToNat, Int.reduceNeg, h11, h12, h14, h16, h20, h22, h24, h26, h28, h31, h34, eq_self, decide_true, hbig, hmany, hfew]
      refine hK29 _ ?_
      clear hK29 K29
      refine Tr.kp [10] ?_
      simp only [pk_cons, pk_nil, ↓A_cons, ↓reduceIte, Nat.reduceEqDiff, reduceCtorEq]
      refine Tr.ret ?_
      simp -implicitDefEqProofs (disch := first | omega | (simp only [go_sem, List.length_append, List.length_drop, List.length_take, hb1] <;> omega) | decide) only [go_sem, ↓reduceIte, Nat.reduceEqDiff, reduceCtorEq]
   ·
    have hb2 := True.intro
    -- region 1 (law.go:122)
    refine Tr.rg hcx [] [some 15, some 16, some 17, some 18, some 19, some 20, some 21, some 22, some 23, some 24, some 25, some 26, some 27, some 28, some 29, some 30, some 31, some 32, some 33, some 34, some 35] [] rfl rfl rfl ?_
    simp -implicitDefEqProofs (maxSteps := 2000000) (disch := first | omega | (simp only [go_sem, List.length_append, List.length_drop, List.length_take, hb1] <;> omega) | decide) only [go_sem, ↓reduceIte, Nat.reduceEqDiff, reduceCtorEq, Nat.reduceLT, Nat.reduceBEq, Nat.reduceAdd, Nat.reduceSub, Nat.reduceMul, Nat.reduceMod, Int.reduceMod, Int.reduceToNat, Int.reduceNeg, h11, h12, h14, h16, h20, h22, h24, h26, h28, h31, h34, eq_self, decide_true, hbig, hmany, hfew]
    refine hK3 _ ?_
    clear hK3 K3
    refine Tr.kp [0, 1, 2, 3, 4, 35] ?_
    simp only [pk_cons, pk_nil, ↓A_cons, ↓reduceIte, Nat.reduceEqDiff, reduceCtorEq]
    refine Tr.condG fun KT KF hT hF => ?_
    simp only [ev_tmp, ev_const, ↓A_cons, ↓reduceIte, Nat.reduceEqDiff, reduceCtorEq, condG_bool, GB_true, GB_false, decide_eq_true_eq]
    refine hT ?_
    clear hT hF KT KF
    refine Tr.seqK fun K30 hK30 => ?_
    -- region 2 (law.go:123)
    refine Tr.rg hcx [1000036] _ [] rfl rfl rfl ?_
    simp -implicitDefEqProofs (maxSteps := 2000000) (disch := first | omega | (simp only [go_sem, List.length_append, List.length_drop, List.length_take, hb1] <;> omega) | decide) only [go_sem, ↓reduceIte, Nat.reduceEqDiff, reduceCtorEq, Nat.reduceLT, Nat.reduceBEq, Nat.reduceAdd, Nat.reduceSub, Nat.reduceMul, Nat.reduceMod, Int.reduceMod, Int.reduceToNat, Int.reduceNeg, h11, h12, h14, h16, h20, h22, h24, h26, h28, h31, h34, eq_self, decide_true, hbig, hmany, hfew]
    refine hK30 _ ?_
    clear hK30 K30
    refine Tr.kp [10] ?_
    simp only [pk_cons, pk_nil, ↓A_cons, ↓reduceIte, Nat.reduceEqDiff, reduceCtorEq]
    refine Tr.ret ?_
    simp -implicitDefEqProofs (disch := first | omega | (simp only [go_sem, List.length_append, List.length_drop, List.length_take, hb1] <;> omega) | decide) only [go_sem, ↓reduceIte, Nat.reduceEqDiff, reduceCtorEq]

theorem fc37 {gl : Nat → C} {M : Nat} {pu : Nat → List C → Option C} (hcx : CxOK (cxP gl M pu)) (h13 : ∀ x y : List UInt8, x.length < 9223372036854775807 → pu 13 [sl bC .no x, sl bC .no y] = some (.val (.bool (decide (x = y))))) (c : List UInt8) (u e : Nat) (b : List UInt8) (hb : b.length < 1099511627776) (hc : c.length < 1099511627776) (hu : e = 0 → u ≤ b.length ∧ b.take u = c) :
    FC Try.prog gl 37 [sl bC .no c, .val (nI u), .val (nI e), .kp [sl bC .no b]] [] (.val (.bool true)) [] := by
  cases e with
  | zero => exact fc37a hcx h13 c u b hb hc (hu rfl).1 (hu rfl).2
  | succ k => exact fc37b hcx c u k b
end Go.Sx

namespace Go.Sx
open Go.RowKit Go.Proofs
abbrev D41 := Option {x : List UInt8 × Nat // x.1.length < 1099511627776 ∧ x.2 ≤ x.1.length}
def enc40 (x : List UInt8 × Nat) : List C × Hp := ([sl bC .no x.1, .val (nI x.2)], [])
def out40 (x : List UInt8 × Nat) : C × Hp := (.fn 41 [.bp 0 0, .bp 1 0], [some [sl bC .no x.1], some [.val (nI x.2)]])
def enc41 (x : D41) : List C × Hp := match x with
  | none => ([.bp 0 0, .bp 1 0], [])
  | some x => ([.bp 0 0, .bp 1 0], [some [sl bC .no x.1.1], some [.val (nI x.1.2)]])
def out41 (x : D41) : C × Hp := match x with
  | none => (.top, [])
  | some x => (.tup [.val (.int .i64 (getI (x.1.1.drop x.1.2)).1), .val (nI (x.1.2 + (getI (x.1.1.drop x.1.2)).2.1)), .val (nI (getI (x.1.1.drop x.1.2)).2.2)], [some [sl bC .no x.1.1], some [.val (nI (x.1.2 + (getI (x.1.1.drop x.1.2)).2.1))]])
noncomputable def hp28 : Nat → List C → Hp → Option (C × Hp) := Sx.extH (Sx.extH (fun _ _ _ => none) 40 (tabH enc40 out40)) 41 (tabH enc41 out41)
theorem ij40 (x y : List UInt8 × Nat) (h : enc40 x = enc40 y) : out40 x = out40 y := by
  simp only [enc40, Prod.mk.injEq, List.cons.injEq, sl_inj, C.val.injEq, nI_inj, and_true] at h
  unfold out40; rw [h.1, h.2]
theorem ij41 (x y : D41) (h : enc41 x = enc41 y) : out41 x = out41 y := by
  rcases x with _ | x <;> rcases y with _ | y
  · rfl
  · simp [enc41] at h
  · simp [enc41] at h
  · simp only [enc41, Prod.mk.injEq, List.cons.injEq, Option.some.injEq, sl_inj, C.val.injEq, nI_inj, and_true, true_and] at h
    unfold out41; simp only [h.1, h.2]
theorem hp28_40 (b : List UInt8) (p : Nat) : hp28 40 [sl bC .no b, .val (nI p)] [] = some (.fn 41 [.bp 0 0, .bp 1 0], [some [sl bC .no b], some [.val (nI p)]]) :=
  (extH_miss (by decide) _ _).trans ((extH_hit _ _).trans (tabH_enc ij40 (b, p)))
theorem hp28_41m : hp28 41 [.bp 0 0, .bp 1 0] [] = some (.top, []) := (extH_hit _ _).trans (tabH_enc ij41 none)
theorem hp28_41 (b : List UInt8) (p : Nat) (h : b.length < 1099511627776 ∧ p ≤ b.length) : hp28 41 [.bp 0 0, .bp 1 0] [some [sl bC .no b], some [.val (nI p)]] = some (.tup [.val (.int .i64 (getI (b.drop p)).1), .val (nI (p + (getI (b.drop p)).2.1)), .val (nI (getI (b.drop p)).2.2)], [some [sl bC .no b], some [.val (nI (p + (getI (b.drop p)).2.1))]]) :=
  (extH_hit _ _).trans (tabH_enc ij41 (some ⟨(b, p), h⟩))
theorem ent41 : Entered Try.prog 41 := ⟨_, Try.func41, rfl, rfl⟩
theorem hp28_ok {gl : Nat → C} {M : Nat} {pu : Nat → List C → Option C} (hcx : CxOK (cxP gl M pu)) (h24 : ∀ b : List UInt8, b.length < 1099511627776 → pu 24 [sl bC .no b] = some (.tup [.val (.int .i64 (getI b).1), .val (nI (getI b).2.1), .val (nI (getI b).2.2)])) :
    CxOK (cxH gl M pu hp28) := by
  have h1 : CxOK ⟨Try.prog, M, gl, pu, Sx.extH (fun _ _ _ => none) 40 (tabH enc40 out40)⟩ := CxOK.extH (N := M) hcx fun x => fc40 hcx x.1 x.2
  refine CxOK.extH (N := M) h1 fun x => ?_
  rcases x with _ | x
  · exact FC.vac ent41
  · exact fc41 hcx h24 x.1.1 x.1.2 x.2.1 x.2.2
theorem fc14 {gl : Nat → C} {M : Nat} {pu : Nat → List C → Option C} (hcx : CxOK (cxP gl M pu)) (n : Int) (hn : -9223372036854775808 ≤ n ∧ n ≤ 9223372036854775807) : FC Try.prog gl 14 [.val (.int .i64 n)] [] (sl bC (.own 1) (wint n)) [] := by
  by_cases h : 0 ≤ n
  · obtain ⟨m, rfl⟩ : ∃ m : Nat, n = m := ⟨n.toNat, by omega⟩
    rw [wint_pos]
    exact fc14p hcx m (by omega)
  · obtain ⟨m, rfl⟩ : ∃ m : Nat, n = -1 - (m : Int) := ⟨(-1 - n).toNat, by omega⟩
    rw [wint_neg m (le_len 8 m (by omega))]
    exact fc14n hcx m (by omega)
theorem fc15 {gl : Nat → C} {M : Nat} {pu : Nat → List C → Option C} (hcx : CxOK (cxP gl M pu)) (n : Int) (hn : -9223372036854775808 ≤ n ∧ n ≤ 9223372036854775807) : FC Try.prog gl 15 [.val (.int .i64 n)] [] (sl bC (.own 1) (wint n)) [] := by
  by_cases h : 0 ≤ n
  · obtain ⟨m, rfl⟩ : ∃ m : Nat, n = m := ⟨n.toNat, by omega⟩
    rw [wint_pos]
    exact fc15p hcx m (by omega)
  · obtain ⟨m, rfl⟩ : ∃ m : Nat, n = -1 - (m : Int) := ⟨(-1 - n).toNat, by omega⟩
    rw [wint_neg m (le_len 8 m (by omega))]
    exact fc15n hcx m (by omega)
theorem fc28x {gl : Nat → C} {M : Nat} {pu : Nat → List C → Option C} (hcx : CxOK (cxP gl M pu)) (hno : ∀ (g : Nat) (xs : List C), refy xs = true → pu g xs = none) (n40 : ∀ xs : List C, pu 40 xs = none) (h24 : ∀ b : List UInt8, b.length < 1099511627776 → pu 24 [sl bC .no b] = some (.tup [.val (.int .i64 (getI b).1), .val (nI (getI b).2.1), .val (nI (getI b).2.2)])) (h38 : ∀ (b : List UInt8) (s : Nat), b.length < 1099511627776 ∧ 0 < s ∧ s ≤ 16 ∧ cntE b s = 0 → pu 38 [sl bC .no b, .val (nI s)] = some (.tup [.val (nI (cn b)), .val (nI (ca b)), .val (nI 0)])) (h38e : ∀ (b : List UInt8) (s : Nat), b.length < 1099511627776 ∧ 0 < s ∧ s ≤ 16 ∧ ¬ cntE b s = 0 → pu 38 [sl bC .no b, .val (nI s)] = some (.tup [.val (.int .i64 (getI b).1), .val (nI (getI b).2.1), .val (nI (cntE b s))])) (b : List UInt8) (hb : b.length < 1099511627776) :
    FC Try.prog gl 28 [sl bC .no b] [] (.tup [sl iC .no (getL getI 1 b).1, .val (nI (getL getI 1 b).2.1), .val (nI (getL getI 1 b).2.2)]) [] :=
  fc28 (hp28_ok hcx h24) h38 h38e (fun _ _ => n40 _) (hno _ _ rfl) hp28_40 (.top, []) hp28_41m hp28_41 b hb
def r38 (b : List UInt8) (s : Nat) : C := if cntE b s = 0 then .tup [.val (nI (cn b)), .val (nI (ca b)), .val (nI 0)] else .tup [.val (.int .i64 (getI b).1), .val (nI (getI b).2.1), .val (nI (cntE b s))]
def r39 (b : List UInt8) (s : Nat) : C := if cntE b s = 0 then .tup [.val (nI (cn b)), .val (nI (ca b)), .val (nI 0)] else .tup [.val (nI 0), .val (nI 0), .val (nI (cntE b s))]
theorem fc38x {gl : Nat → C} {M : Nat} {pu : Nat → List C → Option C} (hcx : CxOK (cxP gl M pu)) (h24 : ∀ b : List UInt8, b.length < 1099511627776 → pu 24 [sl bC .no b] = some (.tup [.val (.int .i64 (getI b).1), .val (nI (getI b).2.1), .val (nI (getI b).2.2)])) (b : List UInt8) (s : Nat) (hb : b.length < 1099511627776) (hs : 0 < s ∧ s ≤ 16) : FC Try.prog gl 38 [sl bC .no b, .val (nI s)] [] (r38 b s) [] := by
  have h := fc38 hcx h24 b s hb hs
  unfold r38
  split
  · rename_i hE
    have h1 := cnt_ok hs.1 hE
    rw [hE, h1.2.1] at h
    exact h
  · exact h
theorem fc39x {gl : Nat → C} {M : Nat} {pu : Nat → List C → Option C} (hcx : CxOK (cxP gl M pu)) (h25 : ∀ b : List UInt8, b.length < 1099511627776 → pu 25 [sl bC .no b] = some (.tup [.val (.int .i64 (getI b).1), .val (nI (getI b).2.1), .val (nI (getI b).2.2)])) (b : List UInt8) (s : Nat) (hb : b.length < 1099511627776) (hs : 0 < s ∧ s ≤ 16) : FC Try.prog gl 39 [sl bC .no b, .val (nI s)] [] (r39 b s) [] := by
  unfold r39
  split
  · rename_i hE; exact fc39a hcx h25 b s hb hs hE
  · rename_i hE; exact fc39e hcx h25 b s hb hs hE
end Go.Sx

namespace Go.Sx
open Go.RowKit Go.Proofs


def pu0 : Nat → List C → Option C := fun _ _ => none
theorem ok0 {gl : Nat → C} (hgn : ∀ g, noRef 0 (gl g) = true)  (M : Nat) : CxOK (cxP gl M pu0) := CxOK.zero hgn
theorem hno0 : ∀ (g : Nat) (xs : List C), refy xs = true → pu0 g xs = none := hno_zero

abbrev D1 := {q0 : (List UInt8) × (List UInt8) // ((q0.1).length < 9223372036854775807)}
def enc1 (q0 : D1) : List C := [sl bC .no (q0.1.1), sl bC .no (q0.1.2)]
def out1 (q0 : D1) : C := .val (.bool (decide ((q0.1.1) = (q0.1.2))))
noncomputable def pu1 : Nat → List C → Option C := Sx.ext pu0 13 (tabOf enc1 out1)
theorem nr1 (x : D1) : noRefs 0 (enc1 x) = true := by
  simp only [enc1, noRef_val, noRef_agg, noRef_tup, noRef_kp, noRef_sl, noRefs_cl, noRefs_cons, noRefs_nil, noRefs_app, Bool.and_self, Bool.and_true]
theorem ij1 (x y : D1) (h : enc1 x = enc1 y) : out1 x = out1 y := by
  simp only [enc1, List.cons.injEq, C.val.injEq, C.agg.injEq, C.kp.injEq, str_inj, nI_inj, nU_inj, w8_inj, w32_inj, cl_inj, sl_inj, Value.int.injEq, Value.bool.injEq, true_and, and_true] at h; simp only [out1, h]
theorem ok1 {gl : Nat → C} (hgn : ∀ g, noRef 0 (gl g) = true)  (M : Nat) : CxOK (cxP gl M pu1) := CxOK.ext2 (N := 0) (ok0 hgn  0) nr1 fun q0 => fc13 (ok0 hgn  0)  ((q0.1.1)) ((q0.1.2)) q0.2
theorem hno1 : ∀ (g : Nat) (xs : List C), refy xs = true → pu1 g xs = none := hno_ext hno0 nr1
theorem hit1 (x : List UInt8) (y : List UInt8) (hc0 : x.length < 9223372036854775807) : pu1 13 [sl bC .no x, sl bC .no y] = some (.val (.bool (decide (x = y)))) :=
  (ext_hit _).trans (tabOf_enc ij1 ⟨(x, y), hc0⟩)

abbrev D2 := {q0 : Int // (-9223372036854775808 ≤ (q0) ∧ (q0) ≤ 9223372036854775807)}
def enc2 (q0 : D2) : List C := [.val (.int .i64 (q0.1))]
def out2 (q0 : D2) : C := sl bC (.own 1) (wint (q0.1))
noncomputable def pu2 : Nat → List C → Option C := Sx.ext pu1 14 (tabOf enc2 out2)
theorem nr2 (x : D2) : noRefs 0 (enc2 x) = true := by
  simp only [enc2, noRef_val, noRef_agg, noRef_tup, noRef_kp, noRef_sl, noRefs_cl, noRefs_cons, noRefs_nil, noRefs_app, Bool.and_self, Bool.and_true]
theorem ij2 (x y : D2) (h : enc2 x = enc2 y) : out2 x = out2 y := by
  simp only [enc2, List.cons.injEq, C.val.injEq, C.agg.injEq, C.kp.injEq, str_inj, nI_inj, nU_inj, w8_inj, w32_inj, cl_inj, sl_inj, Value.int.injEq, Value.bool.injEq, true_and, and_true] at h; simp only [out2, h]
theorem ok2 {gl : Nat → C} (hgn : ∀ g, noRef 0 (gl g) = true)  (M : Nat) : CxOK (cxP gl M pu2) := CxOK.ext2 (N := 0) (ok1 hgn  0) nr2 fun q0 => fc14 (ok1 hgn  0)  ((q0.1)) q0.2
theorem hno2 : ∀ (g : Nat) (xs : List C), refy xs = true → pu2 g xs = none := hno_ext hno1 nr2
theorem hit2 (n : Int) (hc0 : -9223372036854775808 ≤ n ∧ n ≤ 9223372036854775807) : pu2 14 [.val (.int .i64 n)] = some (sl bC (.own 1) (wint n)) :=
  (ext_hit _).trans (tabOf_enc ij2 ⟨(n), hc0⟩)

abbrev D3 := {q0 : Int // (-9223372036854775808 ≤ (q0) ∧ (q0) ≤ 9223372036854775807)}
def enc3 (q0 : D3) : List C := [.val (.int .i64 (q0.1))]
def out3 (q0 : D3) : C := sl bC (.own 1) (wint (q0.1))
noncomputable def pu3 : Nat → List C → Option C := Sx.ext pu2 15 (tabOf enc3 out3)
theorem nr3 (x : D3) : noRefs 0 (enc3 x) = true := by
  simp only [enc3, noRef_val, noRef_agg, noRef_tup, noRef_kp, noRef_sl, noRefs_cl, noRefs_cons, noRefs_nil, noRefs_app, Bool.and_self, Bool.and_true]
theorem ij3 (x y : D3) (h : enc3 x = enc3 y) : out3 x = out3 y := by
  simp only [enc3, List.cons.injEq, C.val.injEq, C.agg.injEq, C.kp.injEq, str_inj, nI_inj, nU_inj, w8_inj, w32_inj, cl_inj, sl_inj, Value.int.injEq, Value.bool.injEq, true_and, and_true] at h; simp only [out3, h]
theorem ok3 {gl : Nat → C} (hgn : ∀ g, noRef 0 (gl g) = true)  (M : Nat) : CxOK (cxP gl M pu3) := CxOK.ext2 (N := 0) (ok2 hgn  0) nr3 fun q0 => fc15 (ok2 hgn  0)  ((q0.1)) q0.2
theorem hno3 : ∀ (g : Nat) (xs : List C), refy xs = true → pu3 g xs = none := hno_ext hno2 nr3
theorem hit3 (n : Int) (hc0 : -9223372036854775808 ≤ n ∧ n ≤ 9223372036854775807) : pu3 15 [.val (.int .i64 n)] = some (sl bC (.own 1) (wint n)) :=
  (ext_hit _).trans (tabOf_enc ij3 ⟨(n), hc0⟩)

abbrev D4 := {q0 : (List UInt8) // ((q0).length < 70368744177664)}
def enc4 (q0 : D4) : List C := [.val (str (q0.1))]
def out4 (q0 : D4) : C := sl bC (.own 1) (wb (q0.1))
noncomputable def pu4 : Nat → List C → Option C := Sx.ext pu3 16 (tabOf enc4 out4)
theorem nr4 (x : D4) : noRefs 0 (enc4 x) = true := by
  simp only [enc4, noRef_val, noRef_agg, noRef_tup, noRef_kp, noRef_sl, noRefs_cl, noRefs_cons, noRefs_nil, noRefs_app, Bool.and_self, Bool.and_true]
theorem ij4 (x y : D4) (h : enc4 x = enc4 y) : out4 x = out4 y := by
  simp only [enc4, List.cons.injEq, C.val.injEq, C.agg.injEq, C.kp.injEq, str_inj, nI_inj, nU_inj, w8_inj, w32_inj, cl_inj, sl_inj, Value.int.injEq, Value.bool.injEq, true_and, and_true] at h; simp only [out4, h]
theorem ok4 {gl : Nat → C} (hgn : ∀ g, noRef 0 (gl g) = true)  (M : Nat) : CxOK (cxP gl M pu4) := CxOK.ext2 (N := 0) (ok3 hgn  0) nr4 fun q0 => fc16 (ok3 hgn  0) (show ∀ n : Int, -9223372036854775808 ≤ n ∧ n ≤ 9223372036854775807 → pu3 14 [.val (.int .i64 n)] = some (sl bC (.own 1) (wint n)) from by intros; rw [pu3, ext_miss (by decide)]; apply hit2 <;> (first | assumption | omega | (rename_i hh; first | exact hh.1 | exact hh.2 | exact hh.2.1 | exact hh.2.2 | exact hh.2.2.1 | exact hh.2.2.2 | exact hh.2.2.2.1 | exact hh.2.2.2.2))) ((q0.1)) q0.2
theorem hno4 : ∀ (g : Nat) (xs : List C), refy xs = true → pu4 g xs = none := hno_ext hno3 nr4
theorem hit4 (s : List UInt8) (hc0 : s.length < 70368744177664) : pu4 16 [.val (str s)] = some (sl bC (.own 1) (wb s)) :=
  (ext_hit _).trans (tabOf_enc ij4 ⟨(s), hc0⟩)

abbrev D5 := {q0 : (List UInt8) // ((q0).length < 70368744177664)}
def enc5 (q0 : D5) : List C := [.val (str (q0.1))]
def out5 (q0 : D5) : C := sl bC (.own 1) (wb (q0.1))
noncomputable def pu5 : Nat → List C → Option C := Sx.ext pu4 17 (tabOf enc5 out5)
theorem nr5 (x : D5) : noRefs 0 (enc5 x) = true := by
  simp only [enc5, noRef_val, noRef_agg, noRef_tup, noRef_kp, noRef_sl, noRefs_cl, noRefs_cons, noRefs_nil, noRefs_app, Bool.and_self, Bool.and_true]
theorem ij5 (x y : D5) (h : enc5 x = enc5 y) : out5 x = out5 y := by
  simp only [enc5, List.cons.injEq, C.val.injEq, C.agg.injEq, C.kp.injEq, str_inj, nI_inj, nU_inj, w8_inj, w32_inj, cl_inj, sl_inj, Value.int.injEq, Value.bool.injEq, true_and, and_true] at h; simp only [out5, h]
theorem ok5 {gl : Nat → C} (hgn : ∀ g, noRef 0 (gl g) = true)  (M : Nat) : CxOK (cxP gl M pu5) := CxOK.ext2 (N := 0) (ok4 hgn  0) nr5 fun q0 => fc17 (ok4 hgn  0) (show ∀ n : Int, -9223372036854775808 ≤ n ∧ n ≤ 9223372036854775807 → pu4 15 [.val (.int .i64 n)] = some (sl bC (.own 1) (wint n)) from by intros; rw [pu4, ext_miss (by decide)]; apply hit3 <;> (first | assumption | omega | (rename_i hh; first | exact hh.1 | exact hh.2 | exact hh.2.1 | exact hh.2.2 | exact hh.2.2.1 | exact hh.2.2.2 | exact hh.2.2.2.1 | exact hh.2.2.2.2))) ((q0.1)) q0.2
theorem hno5 : ∀ (g : Nat) (xs : List C), refy xs = true → pu5 g xs = none := hno_ext hno4 nr5
theorem hit5 (s : List UInt8) (hc0 : s.length < 70368744177664) : pu5 17 [.val (str s)] = some (sl bC (.own 1) (wb s)) :=
  (ext_hit _).trans (tabOf_enc ij5 ⟨(s), hc0⟩)

abbrev D6 := {q0 : (List Int) // ((q0).length < 1099511627776) ∧ (∀ x ∈ (q0), -9223372036854775808 ≤ x ∧ x ≤ 9223372036854775807)}
def enc6 (q0 : D6) : List C := [sl iC .no (q0.1)]
def out6 (q0 : D6) : C := sl bC (.own 1) (wInts (q0.1))
noncomputable def pu6 : Nat → List C → Option C := Sx.ext pu5 18 (tabOf enc6 out6)
theorem nr6 (x : D6) : noRefs 0 (enc6 x) = true := by
  simp only [enc6, noRef_val, noRef_agg, noRef_tup, noRef_kp, noRef_sl, noRefs_cl, noRefs_cons, noRefs_nil, noRefs_app, Bool.and_self, Bool.and_true]
theorem ij6 (x y : D6) (h : enc6 x = enc6 y) : out6 x = out6 y := by
  simp only [enc6, List.cons.injEq, C.val.injEq, C.agg.injEq, C.kp.injEq, str_inj, nI_inj, nU_inj, w8_inj, w32_inj, cl_inj, sl_inj, Value.int.injEq, Value.bool.injEq, true_and, and_true] at h; simp only [out6, h]
theorem ok6 {gl : Nat → C} (hgn : ∀ g, noRef 0 (gl g) = true)  (M : Nat) : CxOK (cxP gl M pu6) := CxOK.ext2 (N := 0) (ok5 hgn  0) nr6 fun q0 => fc18 (ok5 hgn  0) (show ∀ n : Int, -9223372036854775808 ≤ n ∧ n ≤ 9223372036854775807 → pu5 14 [.val (.int .i64 n)] = some (sl bC (.own 1) (wint n)) from by intros; rw [pu5, ext_miss (by decide), pu4, ext_miss (by decide), pu3, ext_miss (by decide)]; apply hit2 <;> (first | assumption | omega | (rename_i hh; first | exact hh.1 | exact hh.2 | exact hh.2.1 | exact hh.2.2 | exact hh.2.2.1 | exact hh.2.2.2 | exact hh.2.2.2.1 | exact hh.2.2.2.2))) ((q0.1)) q0.2.1 q0.2.2
theorem hno6 : ∀ (g : Nat) (xs : List C), refy xs = true → pu6 g xs = none := hno_ext hno5 nr6
theorem hit6 (l : List Int) (hc0 : l.length < 1099511627776) (hc1 : ∀ x ∈ l, -9223372036854775808 ≤ x ∧ x ≤ 9223372036854775807) : pu6 18 [sl iC .no l] = some (sl bC (.own 1) (wInts l)) :=
  (ext_hit _).trans (tabOf_enc ij6 ⟨(l), ⟨hc0, hc1⟩⟩)

abbrev D7 := {q0 : (List Int) // ((q0).length < 1099511627776) ∧ (∀ x ∈ (q0), -9223372036854775808 ≤ x ∧ x ≤ 9223372036854775807)}
def enc7 (q0 : D7) : List C := [sl iC .no (q0.1)]
def out7 (q0 : D7) : C := sl bC (.own 1) (wInts (q0.1))
noncomputable def pu7 : Nat → List C → Option C := Sx.ext pu6 19 (tabOf enc7 out7)
theorem nr7 (x : D7) : noRefs 0 (enc7 x) = true := by
  simp only [enc7, noRef_val, noRef_agg, noRef_tup, noRef_kp, noRef_sl, noRefs_cl, noRefs_cons, noRefs_nil, noRefs_app, Bool.and_self, Bool.and_true]
theorem ij7 (x y : D7) (h : enc7 x = enc7 y) : out7 x = out7 y := by
  simp only [enc7, List.cons.injEq, C.val.injEq, C.agg.injEq, C.kp.injEq, str_inj, nI_inj, nU_inj, w8_inj, w32_inj, cl_inj, sl_inj, Value.int.injEq, Value.bool.injEq, true_and, and_true] at h; simp only [out7, h]
theorem ok7 {gl : Nat → C} (hgn : ∀ g, noRef 0 (gl g) = true)  (M : Nat) : CxOK (cxP gl M pu7) := CxOK.ext2 (N := 0) (ok6 hgn  0) nr7 fun q0 => fc19 (ok6 hgn  0) (show ∀ n : Int, -9223372036854775808 ≤ n ∧ n ≤ 9223372036854775807 → pu6 15 [.val (.int .i64 n)] = some (sl bC (.own 1) (wint n)) from by intros; rw [pu6, ext_miss (by decide), pu5, ext_miss (by decide), pu4, ext_miss (by decide)]; apply hit3 <;> (first | assumption | omega | (rename_i hh; first | exact hh.1 | exact hh.2 | exact hh.2.1 | exact hh.2.2 | exact hh.2.2.1 | exact hh.2.2.2 | exact hh.2.2.2.1 | exact hh.2.2.2.2))) ((q0.1)) q0.2.1 q0.2.2
theorem hno7 : ∀ (g : Nat) (xs : List C), refy xs = true → pu7 g xs = none := hno_ext hno6 nr7
theorem hit7 (l : List Int) (hc0 : l.length < 1099511627776) (hc1 : ∀ x ∈ l, -9223372036854775808 ≤ x ∧ x ≤ 9223372036854775807) : pu7 19 [sl iC .no l] = some (sl bC (.own 1) (wInts l)) :=
  (ext_hit _).trans (tabOf_enc ij7 ⟨(l), ⟨hc0, hc1⟩⟩)

abbrev D8 := {q0 : (List (List UInt8)) // ((q0).length < 1099511627776) ∧ ((q0).flatten.length < 1099511627776)}
def enc8 (q0 : D8) : List C := [sl sC .no (q0.1)]
def out8 (q0 : D8) : C := sl bC (.own 1) (wStrs (q0.1))
noncomputable def pu8 : Nat → List C → Option C := Sx.ext pu7 20 (tabOf enc8 out8)
theorem nr8 (x : D8) : noRefs 0 (enc8 x) = true := by
  simp only [enc8, noRef_val, noRef_agg, noRef_tup, noRef_kp, noRef_sl, noRefs_cl, noRefs_cons, noRefs_nil, noRefs_app, Bool.and_self, Bool.and_true]
theorem ij8 (x y : D8) (h : enc8 x = enc8 y) : out8 x = out8 y := by
  simp only [enc8, List.cons.injEq, C.val.injEq, C.agg.injEq, C.kp.injEq, str_inj, nI_inj, nU_inj, w8_inj, w32_inj, cl_inj, sl_inj, Value.int.injEq, Value.bool.injEq, true_and, and_true] at h; simp only [out8, h]
theorem ok8 {gl : Nat → C} (hgn : ∀ g, noRef 0 (gl g) = true)  (M : Nat) : CxOK (cxP gl M pu8) := CxOK.ext2 (N := 0) (ok7 hgn  0) nr8 fun q0 => fc20 (ok7 hgn  0) (show ∀ n : Int, -9223372036854775808 ≤ n ∧ n ≤ 9223372036854775807 → pu7 14 [.val (.int .i64 n)] = some (sl bC (.own 1) (wint n)) from by intros; rw [pu7, ext_miss (by decide), pu6, ext_miss (by decide), pu5, ext_miss (by decide), pu4, ext_miss (by decide), pu3, ext_miss (by decide)]; apply hit2 <;> (first | assumption | omega | (rename_i hh; first | exact hh.1 | exact hh.2 | exact hh.2.1 | exact hh.2.2 | exact hh.2.2.1 | exact hh.2.2.2 | exact hh.2.2.2.1 | exact hh.2.2.2.2))) (show ∀ s : List UInt8, s.length < 70368744177664 → pu7 16 [.val (str s)] = some (sl bC (.own 1) (wb s)) from by intros; rw [pu7, ext_miss (by decide), pu6, ext_miss (by decide), pu5, ext_miss (by decide)]; apply hit4 <;> (first | assumption | omega | (rename_i hh; first | exact hh.1 | exact hh.2 | exact hh.2.1 | exact hh.2.2 | exact hh.2.2.1 | exact hh.2.2.2 | exact hh.2.2.2.1 | exact hh.2.2.2.2))) ((q0.1)) q0.2.1 q0.2.2
theorem hno8 : ∀ (g : Nat) (xs : List C), refy xs = true → pu8 g xs = none := hno_ext hno7 nr8
theorem hit8 (l : List (List UInt8)) (hc0 : l.length < 1099511627776) (hc1 : l.flatten.length < 1099511627776) : pu8 20 [sl sC .no l] = some (sl bC (.own 1) (wStrs l)) :=
  (ext_hit _).trans (tabOf_enc ij8 ⟨(l), ⟨hc0, hc1⟩⟩)

abbrev D9 := {q0 : (List (List UInt8)) // ((q0).length < 1099511627776) ∧ ((q0).flatten.length < 1099511627776)}
def enc9 (q0 : D9) : List C := [sl sC .no (q0.1)]
def out9 (q0 : D9) : C := sl bC (.own 1) (wStrs (q0.1))
noncomputable def pu9 : Nat → List C → Option C := Sx.ext pu8 21 (tabOf enc9 out9)
theorem nr9 (x : D9) : noRefs 0 (enc9 x) = true := by
  simp only [enc9, noRef_val, noRef_agg, noRef_tup, noRef_kp, noRef_sl, noRefs_cl, noRefs_cons, noRefs_nil, noRefs_app, Bool.and_self, Bool.and_true]
theorem ij9 (x y : D9) (h : enc9 x = enc9 y) : out9 x = out9 y := by
  simp only [enc9, List.cons.injEq, C.val.injEq, C.agg.injEq, C.kp.injEq, str_inj, nI_inj, nU_inj, w8_inj, w32_inj, cl_inj, sl_inj, Value.int.injEq, Value.bool.injEq, true_and, and_true] at h; simp only [out9, h]
theorem ok9 {gl : Nat → C} (hgn : ∀ g, noRef 0 (gl g) = true)  (M : Nat) : CxOK (cxP gl M pu9) := CxOK.ext2 (N := 0) (ok8 hgn  0) nr9 fun q0 => fc21 (ok8 hgn  0) (show ∀ n : Int, -9223372036854775808 ≤ n ∧ n ≤ 9223372036854775807 → pu8 15 [.val (.int .i64 n)] = some (sl bC (.own 1) (wint n)) from by intros; rw [pu8, ext_miss (by decide), pu7, ext_miss (by decide), pu6, ext_miss (by decide), pu5, ext_miss (by decide), pu4, ext_miss (by decide)]; apply hit3 <;> (first | assumption | omega | (rename_i hh; first | exact hh.1 | exact hh.2 | exact hh.2.1 | exact hh.2.2 | exact hh.2.2.1 | exact hh.2.2.2 | exact hh.2.2.2.1 | exact hh.2.2.2.2))) (show ∀ s : List UInt8, s.length < 70368744177664 → pu8 17 [.val (str s)] = some (sl bC (.own 1) (wb s)) from by intros; rw [pu8, ext_miss (by decide), pu7, ext_miss (by decide), pu6, ext_miss (by decide)]; apply hit5 <;> (first | assumption | omega | (rename_i hh; first | exact hh.1 | exact hh.2 | exact hh.2.1 | exact hh.2.2 | exact hh.2.2.1 | exact hh.2.2.2 | exact hh.2.2.2.1 | exact hh.2.2.2.2))) ((q0.1)) q0.2.1 q0.2.2
theorem hno9 : ∀ (g : Nat) (xs : List C), refy xs = true → pu9 g xs = none := hno_ext hno8 nr9
theorem hit9 (l : List (List UInt8)) (hc0 : l.length < 1099511627776) (hc1 : l.flatten.length < 1099511627776) : pu9 21 [sl sC .no l] = some (sl bC (.own 1) (wStrs l)) :=
  (ext_hit _).trans (tabOf_enc ij9 ⟨(l), ⟨hc0, hc1⟩⟩)

abbrev D10 := {q0 : (List Dig) // ((q0).length < 1099511627776)}
def enc10 (q0 : D10) : List C := [sl dC .no (q0.1)]
def out10 (q0 : D10) : C := sl bC (.own 1) (wDigs (q0.1))
noncomputable def pu10 : Nat → List C → Option C := Sx.ext pu9 22 (tabOf enc10 out10)
theorem nr10 (x : D10) : noRefs 0 (enc10 x) = true := by
  simp only [enc10, noRef_val, noRef_agg, noRef_tup, noRef_kp, noRef_sl, noRefs_cl, noRefs_cons, noRefs_nil, noRefs_app, Bool.and_self, Bool.and_true]
theorem ij10 (x y : D10) (h : enc10 x = enc10 y) : out10 x = out10 y := by
  simp only [enc10, List.cons.injEq, C.val.injEq, C.agg.injEq, C.kp.injEq, str_inj, nI_inj, nU_inj, w8_inj, w32_inj, cl_inj, sl_inj, Value.int.injEq, Value.bool.injEq, true_and, and_true] at h; simp only [out10, h]
theorem ok10 {gl : Nat → C} (hgn : ∀ g, noRef 0 (gl g) = true)  (M : Nat) : CxOK (cxP gl M pu10) := CxOK.ext2 (N := 0) (ok9 hgn  0) nr10 fun q0 => fc22 (ok9 hgn  0) (show ∀ n : Int, -9223372036854775808 ≤ n ∧ n ≤ 9223372036854775807 → pu9 14 [.val (.int .i64 n)] = some (sl bC (.own 1) (wint n)) from by intros; rw [pu9, ext_miss (by decide), pu8, ext_miss (by decide), pu7, ext_miss (by decide), pu6, ext_miss (by decide), pu5, ext_miss (by decide), pu4, ext_miss (by decide), pu3, ext_miss (by decide)]; apply hit2 <;> (first | assumption | omega | (rename_i hh; first | exact hh.1 | exact hh.2 | exact hh.2.1 | exact hh.2.2 | exact hh.2.2.1 | exact hh.2.2.2 | exact hh.2.2.2.1 | exact hh.2.2.2.2))) ((q0.1)) q0.2
theorem hno10 : ∀ (g : Nat) (xs : List C), refy xs = true → pu10 g xs = none := hno_ext hno9 nr10
theorem hit10 (l : List Dig) (hc0 : l.length < 1099511627776) : pu10 22 [sl dC .no l] = some (sl bC (.own 1) (wDigs l)) :=
  (ext_hit _).trans (tabOf_enc ij10 ⟨(l), hc0⟩)

abbrev D11 := {q0 : (List Dig) // ((q0).length < 1099511627776)}
def enc11 (q0 : D11) : List C := [sl dC .no (q0.1)]
def out11 (q0 : D11) : C := sl bC (.own 1) (wDigs (q0.1))
noncomputable def pu11 : Nat → List C → Option C := Sx.ext pu10 23 (tabOf enc11 out11)
theorem nr11 (x : D11) : noRefs 0 (enc11 x) = true := by
  simp only [enc11, noRef_val, noRef_agg, noRef_tup, noRef_kp, noRef_sl, noRefs_cl, noRefs_cons, noRefs_nil, noRefs_app, Bool.and_self, Bool.and_true]
theorem ij11 (x y : D11) (h : enc11 x = enc11 y) : out11 x = out11 y := by
  simp only [enc11, List.cons.injEq, C.val.injEq, C.agg.injEq, C.kp.injEq, str_inj, nI_inj, nU_inj, w8_inj, w32_inj, cl_inj, sl_inj, Value.int.injEq, Value.bool.injEq, true_and, and_true] at h; simp only [out11, h]
theorem ok11 {gl : Nat → C} (hgn : ∀ g, noRef 0 (gl g) = true)  (M : Nat) : CxOK (cxP gl M pu11) := CxOK.ext2 (N := 0) (ok10 hgn  0) nr11 fun q0 => fc23 (ok10 hgn  0) (show ∀ n : Int, -9223372036854775808 ≤ n ∧ n ≤ 9223372036854775807 → pu10 15 [.val (.int .i64 n)] = some (sl bC (.own 1) (wint n)) from by intros; rw [pu10, ext_miss (by decide), pu9, ext_miss (by decide), pu8, ext_miss (by decide), pu7, ext_miss (by decide), pu6, ext_miss (by decide), pu5, ext_miss (by decide), pu4, ext_miss (by decide)]; apply hit3 <;> (first | assumption | omega | (rename_i hh; first | exact hh.1 | exact hh.2 | exact hh.2.1 | exact hh.2.2 | exact hh.2.2.1 | exact hh.2.2.2 | exact hh.2.2.2.1 | exact hh.2.2.2.2))) ((q0.1)) q0.2
theorem hno11 : ∀ (g : Nat) (xs : List C), refy xs = true → pu11 g xs = none := hno_ext hno10 nr11
theorem hit11 (l : List Dig) (hc0 : l.length < 1099511627776) : pu11 23 [sl dC .no l] = some (sl bC (.own 1) (wDigs l)) :=
  (ext_hit _).trans (tabOf_enc ij11 ⟨(l), hc0⟩)

abbrev D12 := {q0 : (List UInt8) // ((q0).length < 9223372036854775807)}
def enc12 (q0 : D12) : List C := [sl bC .no (q0.1)]
def out12 (q0 : D12) : C := .tup [.val (.int .i64 (getI (q0.1)).1), .val (nI (getI (q0.1)).2.1), .val (nI (getI (q0.1)).2.2)]
noncomputable def pu12 : Nat → List C → Option C := Sx.ext pu11 24 (tabOf enc12 out12)
theorem nr12 (x : D12) : noRefs 0 (enc12 x) = true := by
  simp only [enc12, noRef_val, noRef_agg, noRef_tup, noRef_kp, noRef_sl, noRefs_cl, noRefs_cons, noRefs_nil, noRefs_app, Bool.and_self, Bool.and_true]
theorem ij12 (x y : D12) (h : enc12 x = enc12 y) : out12 x = out12 y := by
  simp only [enc12, List.cons.injEq, C.val.injEq, C.agg.injEq, C.kp.injEq, str_inj, nI_inj, nU_inj, w8_inj, w32_inj, cl_inj, sl_inj, Value.int.injEq, Value.bool.injEq, true_and, and_true] at h; simp only [out12, h]
theorem ok12 {gl : Nat → C} (hgn : ∀ g, noRef 0 (gl g) = true)  (M : Nat) : CxOK (cxP gl M pu12) := CxOK.ext2 (N := 0) (ok11 hgn  0) nr12 fun q0 => fc24 (ok11 hgn  0)  ((q0.1)) q0.2
theorem hno12 : ∀ (g : Nat) (xs : List C), refy xs = true → pu12 g xs = none := hno_ext hno11 nr12
theorem hit12 (b : List UInt8) (hc0 : b.length < 9223372036854775807) : pu12 24 [sl bC .no b] = some (.tup [.val (.int .i64 (getI b).1), .val (nI (getI b).2.1), .val (nI (getI b).2.2)]) :=
  (ext_hit _).trans (tabOf_enc ij12 ⟨(b), hc0⟩)

abbrev D13 := {q0 : (List UInt8) // ((q0).length < 9223372036854775807)}
def enc13 (q0 : D13) : List C := [sl bC .no (q0.1)]
def out13 (q0 : D13) : C := .tup [.val (.int .i64 (getI (q0.1)).1), .val (nI (getI (q0.1)).2.1), .val (nI (getI (q0.1)).2.2)]
noncomputable def pu13 : Nat → List C → Option C := Sx.ext pu12 25 (tabOf enc13 out13)
theorem nr13 (x : D13) : noRefs 0 (enc13 x) = true := by
  simp only [enc13, noRef_val, noRef_agg, noRef_tup, noRef_kp, noRef_sl, noRefs_cl, noRefs_cons, noRefs_nil, noRefs_app, Bool.and_self, Bool.and_true]
theorem ij13 (x y : D13) (h : enc13 x = enc13 y) : out13 x = out13 y := by
  simp only [enc13, List.cons.injEq, C.val.injEq, C.agg.injEq, C.kp.injEq, str_inj, nI_inj, nU_inj, w8_inj, w32_inj, cl_inj, sl_inj, Value.int.injEq, Value.bool.injEq, true_and, and_true] at h; simp only [out13, h]
theorem ok13 {gl : Nat → C} (hgn : ∀ g, noRef 0 (gl g) = true)  (M : Nat) : CxOK (cxP gl M pu13) := CxOK.ext2 (N := 0) (ok12 hgn  0) nr13 fun q0 => fc25 (ok12 hgn  0) (show ∀ n : Int, -9223372036854775808 ≤ n ∧ n ≤ 9223372036854775807 → pu12 15 [.val (.int .i64 n)] = some (sl bC (.own 1) (wint n)) from by intros; rw [pu12, ext_miss (by decide), pu11, ext_miss (by decide), pu10, ext_miss (by decide), pu9, ext_miss (by decide), pu8, ext_miss (by decide), pu7, ext_miss (by decide), pu6, ext_miss (by decide), pu5, ext_miss (by decide), pu4, ext_miss (by decide)]; apply hit3 <;> (first | assumption | omega | (rename_i hh; first | exact hh.1 | exact hh.2 | exact hh.2.1 | exact hh.2.2 | exact hh.2.2.1 | exact hh.2.2.2 | exact hh.2.2.2.1 | exact hh.2.2.2.2))) (show ∀ x y : List UInt8, x.length < 9223372036854775807 → pu12 13 [sl bC .no x, sl bC .no y] = some (.val (.bool (decide (x = y)))) from by intros; rw [pu12, ext_miss (by decide), pu11, ext_miss (by decide), pu10, ext_miss (by decide), pu9, ext_miss (by decide), pu8, ext_miss (by decide), pu7, ext_miss (by decide), pu6, ext_miss (by decide), pu5, ext_miss (by decide), pu4, ext_miss (by decide), pu3, ext_miss (by decide), pu2, ext_miss (by decide)]; apply hit1 <;> (first | assumption | omega | (rename_i hh; first | exact hh.1 | exact hh.2 | exact hh.2.1 | exact hh.2.2 | exact hh.2.2.1 | exact hh.2.2.2 | exact hh.2.2.2.1 | exact hh.2.2.2.2))) ((q0.1)) q0.2
theorem hno13 : ∀ (g : Nat) (xs : List C), refy xs = true → pu13 g xs = none := hno_ext hno12 nr13
theorem hit13 (b : List UInt8) (hc0 : b.length < 9223372036854775807) : pu13 25 [sl bC .no b] = some (.tup [.val (.int .i64 (getI b).1), .val (nI (getI b).2.1), .val (nI (getI b).2.2)]) :=
  (ext_hit _).trans (tabOf_enc ij13 ⟨(b), hc0⟩)

abbrev D14 := {q0 : (List UInt8) × Nat // ((q0.1).length < 1099511627776) ∧ (0 < (q0.2) ∧ (q0.2) ≤ 16)}
def enc14 (q0 : D14) : List C := [sl bC .no (q0.1.1), .val (nI (q0.1.2))]
def out14 (q0 : D14) : C := r38 (q0.1.1) (q0.1.2)
noncomputable def pu14 : Nat → List C → Option C := Sx.ext pu13 38 (tabOf enc14 out14)
theorem nr14 (x : D14) : noRefs 0 (enc14 x) = true := by
  simp only [enc14, noRef_val, noRef_agg, noRef_tup, noRef_kp, noRef_sl, noRefs_cl, noRefs_cons, noRefs_nil, noRefs_app, Bool.and_self, Bool.and_true]
theorem ij14 (x y : D14) (h : enc14 x = enc14 y) : out14 x = out14 y := by
  simp only [enc14, List.cons.injEq, C.val.injEq, C.agg.injEq, C.kp.injEq, str_inj, nI_inj, nU_inj, w8_inj, w32_inj, cl_inj, sl_inj, Value.int.injEq, Value.bool.injEq, true_and, and_true] at h; simp only [out14, h]
theorem ok14 {gl : Nat → C} (hgn : ∀ g, noRef 0 (gl g) = true)  (M : Nat) : CxOK (cxP gl M pu14) := CxOK.ext2 (N := 0) (ok13 hgn  0) nr14 fun q0 => fc38x (ok13 hgn  0) (show ∀ b : List UInt8, b.length < 1099511627776 → pu13 24 [sl bC .no b] = some (.tup [.val (.int .i64 (getI b).1), .val (nI (getI b).2.1), .val (nI (getI b).2.2)]) from by intros; rw [pu13, ext_miss (by decide)]; apply hit12 <;> (first | assumption | omega | (rename_i hh; first | exact hh.1 | exact hh.2 | exact hh.2.1 | exact hh.2.2 | exact hh.2.2.1 | exact hh.2.2.2 | exact hh.2.2.2.1 | exact hh.2.2.2.2))) ((q0.1.1)) ((q0.1.2)) q0.2.1 q0.2.2
theorem hno14 : ∀ (g : Nat) (xs : List C), refy xs = true → pu14 g xs = none := hno_ext hno13 nr14
theorem hit14 (b : List UInt8) (s : Nat) (hc0 : b.length < 1099511627776) (hc1 : 0 < s ∧ s ≤ 16) : pu14 38 [sl bC .no b, .val (nI s)] = some (r38 b s) :=
  (ext_hit _).trans (tabOf_enc ij14 ⟨(b, s), ⟨hc0, hc1⟩⟩)

abbrev D15 := {q0 : (List UInt8) × Nat // ((q0.1).length < 1099511627776) ∧ (0 < (q0.2) ∧ (q0.2) ≤ 16)}
def enc15 (q0 : D15) : List C := [sl bC .no (q0.1.1), .val (nI (q0.1.2))]
def out15 (q0 : D15) : C := r39 (q0.1.1) (q0.1.2)
noncomputable def pu15 : Nat → List C → Option C := Sx.ext pu14 39 (tabOf enc15 out15)
theorem nr15 (x : D15) : noRefs 0 (enc15 x) = true := by
  simp only [enc15, noRef_val, noRef_agg, noRef_tup, noRef_kp, noRef_sl, noRefs_cl, noRefs_cons, noRefs_nil, noRefs_app, Bool.and_self, Bool.and_true]
theorem ij15 (x y : D15) (h : enc15 x = enc15 y) : out15 x = out15 y := by
  simp only [enc15, List.cons.injEq, C.val.injEq, C.agg.injEq, C.kp.injEq, str_inj, nI_inj, nU_inj, w8_inj, w32_inj, cl_inj, sl_inj, Value.int.injEq, Value.bool.injEq, true_and, and_true] at h; simp only [out15, h]
theorem ok15 {gl : Nat → C} (hgn : ∀ g, noRef 0 (gl g) = true)  (M : Nat) : CxOK (cxP gl M pu15) := CxOK.ext2 (N := 0) (ok14 hgn  0) nr15 fun q0 => fc39x (ok14 hgn  0) (show ∀ b : List UInt8, b.length < 1099511627776 → pu14 25 [sl bC .no b] = some (.tup [.val (.int .i64 (getI b).1), .val (nI (getI b).2.1), .val (nI (getI b).2.2)]) from by intros; rw [pu14, ext_miss (by decide)]; apply hit13 <;> (first | assumption | omega | (rename_i hh; first | exact hh.1 | exact hh.2 | exact hh.2.1 | exact hh.2.2 | exact hh.2.2.1 | exact hh.2.2.2 | exact hh.2.2.2.1 | exact hh.2.2.2.2))) ((q0.1.1)) ((q0.1.2)) q0.2.1 q0.2.2
theorem hno15 : ∀ (g : Nat) (xs : List C), refy xs = true → pu15 g xs = none := hno_ext hno14 nr15
theorem hit15 (b : List UInt8) (s : Nat) (hc0 : b.length < 1099511627776) (hc1 : 0 < s ∧ s ≤ 16) : pu15 39 [sl bC .no b, .val (nI s)] = some (r39 b s) :=
  (ext_hit _).trans (tabOf_enc ij15 ⟨(b, s), ⟨hc0, hc1⟩⟩)

abbrev D16 := {q0 : (List UInt8) // ((q0).length < 1099511627776)}
def enc16 (q0 : D16) : List C := [sl bC .no (q0.1)]
def out16 (q0 : D16) : C := .tup [.val (str (getB (q0.1)).1), .val (nI (getB (q0.1)).2.1), .val (nI (getB (q0.1)).2.2)]
noncomputable def pu16 : Nat → List C → Option C := Sx.ext pu15 26 (tabOf enc16 out16)
theorem nr16 (x : D16) : noRefs 0 (enc16 x) = true := by
  simp only [enc16, noRef_val, noRef_agg, noRef_tup, noRef_kp, noRef_sl, noRefs_cl, noRefs_cons, noRefs_nil, noRefs_app, Bool.and_self, Bool.and_true]
theorem ij16 (x y : D16) (h : enc16 x = enc16 y) : out16 x = out16 y := by
  simp only [enc16, List.cons.injEq, C.val.injEq, C.agg.injEq, C.kp.injEq, str_inj, nI_inj, nU_inj, w8_inj, w32_inj, cl_inj, sl_inj, Value.int.injEq, Value.bool.injEq, true_and, and_true] at h; simp only [out16, h]
theorem ok16 {gl : Nat → C} (hgn : ∀ g, noRef 0 (gl g) = true)  (M : Nat) : CxOK (cxP gl M pu16) := CxOK.ext2 (N := 0) (ok15 hgn  0) nr16 fun q0 => fc26 (ok15 hgn  0) (by intros; rw [pu15, ext_miss (by decide)]; rename_i hh; exact (hit14 _ _ hh.1 ⟨hh.2.1, hh.2.2.1⟩).trans (congrArg some (if_pos hh.2.2.2))) (by intros; rw [pu15, ext_miss (by decide)]; rename_i hh; exact (hit14 _ _ hh.1 ⟨hh.2.1, hh.2.2.1⟩).trans (congrArg some (if_neg hh.2.2.2))) ((q0.1)) q0.2
theorem hno16 : ∀ (g : Nat) (xs : List C), refy xs = true → pu16 g xs = none := hno_ext hno15 nr16
theorem hit16 (b : List UInt8) (hc0 : b.length < 1099511627776) : pu16 26 [sl bC .no b] = some (.tup [.val (str (getB b).1), .val (nI (getB b).2.1), .val (nI (getB b).2.2)]) :=
  (ext_hit _).trans (tabOf_enc ij16 ⟨(b), hc0⟩)

abbrev D17 := {q0 : (List UInt8) // ((q0).length < 1099511627776)}
def enc17 (q0 : D17) : List C := [sl bC .no (q0.1)]
def out17 (q0 : D17) : C := .tup [.val (str (getB (q0.1)).1), .val (nI (getB (q0.1)).2.1), .val (nI (getB (q0.1)).2.2)]
noncomputable def pu17 : Nat → List C → Option C := Sx.ext pu16 27 (tabOf enc17 out17)
theorem nr17 (x : D17) : noRefs 0 (enc17 x) = true := by
  simp only [enc17, noRef_val, noRef_agg, noRef_tup, noRef_kp, noRef_sl, noRefs_cl, noRefs_cons, noRefs_nil, noRefs_app, Bool.and_self, Bool.and_true]
theorem ij17 (x y : D17) (h : enc17 x = enc17 y) : out17 x = out17 y := by
  simp only [enc17, List.cons.injEq, C.val.injEq, C.agg.injEq, C.kp.injEq, str_inj, nI_inj, nU_inj, w8_inj, w32_inj, cl_inj, sl_inj, Value.int.injEq, Value.bool.injEq, true_and, and_true] at h; simp only [out17, h]
theorem ok17 {gl : Nat → C} (hgn : ∀ g, noRef 0 (gl g) = true)  (M : Nat) : CxOK (cxP gl M pu17) := CxOK.ext2 (N := 0) (ok16 hgn  0) nr17 fun q0 => fc27 (ok16 hgn  0) (by intros; rw [pu16, ext_miss (by decide)]; rename_i hh; exact (hit15 _ _ hh.1 ⟨hh.2.1, hh.2.2.1⟩).trans (congrArg some (if_pos hh.2.2.2))) (by intros; rw [pu16, ext_miss (by decide)]; rename_i hh; exact (hit15 _ _ hh.1 ⟨hh.2.1, hh.2.2.1⟩).trans (congrArg some (if_neg hh.2.2.2))) ((q0.1)) q0.2
theorem hno17 : ∀ (g : Nat) (xs : List C), refy xs = true → pu17 g xs = none := hno_ext hno16 nr17
theorem hit17 (b : List UInt8) (hc0 : b.length < 1099511627776) : pu17 27 [sl bC .no b] = some (.tup [.val (str (getB b).1), .val (nI (getB b).2.1), .val (nI (getB b).2.2)]) :=
  (ext_hit _).trans (tabOf_enc ij17 ⟨(b), hc0⟩)

abbrev D18 := {q0 : (List UInt8) // ((q0).length < 1099511627776)}
def enc18 (q0 : D18) : List C := [sl bC .no (q0.1)]
def out18 (q0 : D18) : C := .tup [sl iC .no (getL getI 1 (q0.1)).1, .val (nI (getL getI 1 (q0.1)).2.1), .val (nI (getL getI 1 (q0.1)).2.2)]
noncomputable def pu18 : Nat → List C → Option C := Sx.ext pu17 28 (tabOf enc18 out18)
theorem nr18 (x : D18) : noRefs 0 (enc18 x) = true := by
  simp only [enc18, noRef_val, noRef_agg, noRef_tup, noRef_kp, noRef_sl, noRefs_cl, noRefs_cons, noRefs_nil, noRefs_app, Bool.and_self, Bool.and_true]
theorem ij18 (x y : D18) (h : enc18 x = enc18 y) : out18 x = out18 y := by
  simp only [enc18, List.cons.injEq, C.val.injEq, C.agg.injEq, C.kp.injEq, str_inj, nI_inj, nU_inj, w8_inj, w32_inj, cl_inj, sl_inj, Value.int.injEq, Value.bool.injEq, true_and, and_true] at h; simp only [out18, h]
theorem ok18 {gl : Nat → C} (hgn : ∀ g, noRef 0 (gl g) = true)  (M : Nat) : CxOK (cxP gl M pu18) := CxOK.ext2 (N := 0) (ok17 hgn  0) nr18 fun q0 => fc28x (ok17 hgn  0) hno17 (fun xs => by rw [pu17, ext_miss (by decide), pu16, ext_miss (by decide), pu15, ext_miss (by decide), pu14, ext_miss (by decide), pu13, ext_miss (by decide), pu12, ext_miss (by decide), pu11, ext_miss (by decide), pu10, ext_miss (by decide), pu9, ext_miss (by decide), pu8, ext_miss (by decide), pu7, ext_miss (by decide), pu6, ext_miss (by decide), pu5, ext_miss (by decide), pu4, ext_miss (by decide), pu3, ext_miss (by decide), pu2, ext_miss (by decide), pu1, ext_miss (by decide)]; rfl) (show ∀ b : List UInt8, b.length < 1099511627776 → pu17 24 [sl bC .no b] = some (.tup [.val (.int .i64 (getI b).1), .val (nI (getI b).2.1), .val (nI (getI b).2.2)]) from by intros; rw [pu17, ext_miss (by decide), pu16, ext_miss (by decide), pu15, ext_miss (by decide), pu14, ext_miss (by decide), pu13, ext_miss (by decide)]; apply hit12 <;> (first | assumption | omega | (rename_i hh; first | exact hh.1 | exact hh.2 | exact hh.2.1 | exact hh.2.2 | exact hh.2.2.1 | exact hh.2.2.2 | exact hh.2.2.2.1 | exact hh.2.2.2.2))) (by intros; rw [pu17, ext_miss (by decide), pu16, ext_miss (by decide), pu15, ext_miss (by decide)]; rename_i hh; exact (hit14 _ _ hh.1 ⟨hh.2.1, hh.2.2.1⟩).trans (congrArg some (if_pos hh.2.2.2))) (by intros; rw [pu17, ext_miss (by decide), pu16, ext_miss (by decide), pu15, ext_miss (by decide)]; rename_i hh; exact (hit14 _ _ hh.1 ⟨hh.2.1, hh.2.2.1⟩).trans (congrArg some (if_neg hh.2.2.2))) ((q0.1)) q0.2
theorem hno18 : ∀ (g : Nat) (xs : List C), refy xs = true → pu18 g xs = none := hno_ext hno17 nr18
theorem hit18 (b : List UInt8) (hc0 : b.length < 1099511627776) : pu18 28 [sl bC .no b] = some (.tup [sl iC .no (getL getI 1 b).1, .val (nI (getL getI 1 b).2.1), .val (nI (getL getI 1 b).2.2)]) :=
  (ext_hit _).trans (tabOf_enc ij18 ⟨(b), hc0⟩)

abbrev D19 := {q0 : (List UInt8) // ((q0).length < 1099511627776)}
def enc19 (q0 : D19) : List C := [sl bC .no (q0.1)]
def out19 (q0 : D19) : C := .tup [sl iC .no (getL getI 1 (q0.1)).1, .val (nI (getL getI 1 (q0.1)).2.1), .val (nI (getL getI 1 (q0.1)).2.2)]
noncomputable def pu19 : Nat → List C → Option C := Sx.ext pu18 29 (tabOf enc19 out19)
theorem nr19 (x : D19) : noRefs 0 (enc19 x) = true := by
  simp only [enc19, noRef_val, noRef_agg, noRef_tup, noRef_kp, noRef_sl, noRefs_cl, noRefs_cons, noRefs_nil, noRefs_app, Bool.and_self, Bool.and_true]
theorem ij19 (x y : D19) (h : enc19 x = enc19 y) : out19 x = out19 y := by
  simp only [enc19, List.cons.injEq, C.val.injEq, C.agg.injEq, C.kp.injEq, str_inj, nI_inj, nU_inj, w8_inj, w32_inj, cl_inj, sl_inj, Value.int.injEq, Value.bool.injEq, true_and, and_true] at h; simp only [out19, h]
theorem ok19 {gl : Nat → C} (hgn : ∀ g, noRef 0 (gl g) = true)  (M : Nat) : CxOK (cxP gl M pu19) := CxOK.ext2 (N := 0) (ok18 hgn  0) nr19 fun q0 => fc29 (ok18 hgn  0) (by intros; rw [pu18, ext_miss (by decide), pu17, ext_miss (by decide), pu16, ext_miss (by decide)]; rename_i hh; exact (hit15 _ _ hh.1 ⟨hh.2.1, hh.2.2.1⟩).trans (congrArg some (if_pos hh.2.2.2))) (by intros; rw [pu18, ext_miss (by decide), pu17, ext_miss (by decide), pu16, ext_miss (by decide)]; rename_i hh; exact (hit15 _ _ hh.1 ⟨hh.2.1, hh.2.2.1⟩).trans (congrArg some (if_neg hh.2.2.2))) (show ∀ b : List UInt8, b.length < 1099511627776 → pu18 25 [sl bC .no b] = some (.tup [.val (.int .i64 (getI b).1), .val (nI (getI b).2.1), .val (nI (getI b).2.2)]) from by intros; rw [pu18, ext_miss (by decide), pu17, ext_miss (by decide), pu16, ext_miss (by decide), pu15, ext_miss (by decide), pu14, ext_miss (by decide)]; apply hit13 <;> (first | assumption | omega | (rename_i hh; first | exact hh.1 | exact hh.2 | exact hh.2.1 | exact hh.2.2 | exact hh.2.2.1 | exact hh.2.2.2 | exact hh.2.2.2.1 | exact hh.2.2.2.2))) ((q0.1)) q0.2
theorem hno19 : ∀ (g : Nat) (xs : List C), refy xs = true → pu19 g xs = none := hno_ext hno18 nr19
theorem hit19 (b : List UInt8) (hc0 : b.length < 1099511627776) : pu19 29 [sl bC .no b] = some (.tup [sl iC .no (getL getI 1 b).1, .val (nI (getL getI 1 b).2.1), .val (nI (getL getI 1 b).2.2)]) :=
  (ext_hit _).trans (tabOf_enc ij19 ⟨(b), hc0⟩)

abbrev D20 := {q0 : (List Int) × (List Int) // ((q0.1).length < 9223372036854775807)}
def enc20 (q0 : D20) : List C := [sl iC .no (q0.1.1), sl iC .no (q0.1.2)]
def out20 (q0 : D20) : C := .val (.bool (decide ((q0.1.1) = (q0.1.2))))
noncomputable def pu20 : Nat → List C → Option C := Sx.ext pu19 30 (tabOf enc20 out20)
theorem nr20 (x : D20) : noRefs 0 (enc20 x) = true := by
  simp only [enc20, noRef_val, noRef_agg, noRef_tup, noRef_kp, noRef_sl, noRefs_cl, noRefs_cons, noRefs_nil, noRefs_app, Bool.and_self, Bool.and_true]
theorem ij20 (x y : D20) (h : enc20 x = enc20 y) : out20 x = out20 y := by
  simp only [enc20, List.cons.injEq, C.val.injEq, C.agg.injEq, C.kp.injEq, str_inj, nI_inj, nU_inj, w8_inj, w32_inj, cl_inj, sl_inj, Value.int.injEq, Value.bool.injEq, true_and, and_true] at h; simp only [out20, h]
theorem ok20 {gl : Nat → C} (hgn : ∀ g, noRef 0 (gl g) = true)  (M : Nat) : CxOK (cxP gl M pu20) := CxOK.ext2 (N := 0) (ok19 hgn  0) nr20 fun q0 => fc30 (ok19 hgn  0)  ((q0.1.1)) ((q0.1.2)) q0.2
theorem hno20 : ∀ (g : Nat) (xs : List C), refy xs = true → pu20 g xs = none := hno_ext hno19 nr20
theorem hit20 (x : List Int) (y : List Int) (hc0 : x.length < 9223372036854775807) : pu20 30 [sl iC .no x, sl iC .no y] = some (.val (.bool (decide (x = y)))) :=
  (ext_hit _).trans (tabOf_enc ij20 ⟨(x, y), hc0⟩)

abbrev D21 := {q0 : (List UInt8) // ((q0).length < 1099511627776)}
def enc21 (q0 : D21) : List C := [sl bC .no (q0.1)]
def out21 (q0 : D21) : C := .tup [sl sC .no (getL getB 1 (q0.1)).1, .val (nI (getL getB 1 (q0.1)).2.1), .val (nI (getL getB 1 (q0.1)).2.2)]
noncomputable def pu21 : Nat → List C → Option C := Sx.ext pu20 31 (tabOf enc21 out21)
theorem nr21 (x : D21) : noRefs 0 (enc21 x) = true := by
  simp only [enc21, noRef_val, noRef_agg, noRef_tup, noRef_kp, noRef_sl, noRefs_cl, noRefs_cons, noRefs_nil, noRefs_app, Bool.and_self, Bool.and_true]
theorem ij21 (x y : D21) (h : enc21 x = enc21 y) : out21 x = out21 y := by
  simp only [enc21, List.cons.injEq, C.val.injEq, C.agg.injEq, C.kp.injEq, str_inj, nI_inj, nU_inj, w8_inj, w32_inj, cl_inj, sl_inj, Value.int.injEq, Value.bool.injEq, true_and, and_true] at h; simp only [out21, h]
theorem ok21 {gl : Nat → C} (hgn : ∀ g, noRef 0 (gl g) = true)  (M : Nat) : CxOK (cxP gl M pu21) := CxOK.ext2 (N := 0) (ok20 hgn  0) nr21 fun q0 => fc31 (ok20 hgn  0) (by intros; rw [pu20, ext_miss (by decide), pu19, ext_miss (by decide), pu18, ext_miss (by decide), pu17, ext_miss (by decide), pu16, ext_miss (by decide), pu15, ext_miss (by decide)]; rename_i hh; exact (hit14 _ _ hh.1 ⟨hh.2.1, hh.2.2.1⟩).trans (congrArg some (if_pos hh.2.2.2))) (by intros; rw [pu20, ext_miss (by decide), pu19, ext_miss (by decide), pu18, ext_miss (by decide), pu17, ext_miss (by decide), pu16, ext_miss (by decide), pu15, ext_miss (by decide)]; rename_i hh; exact (hit14 _ _ hh.1 ⟨hh.2.1, hh.2.2.1⟩).trans (congrArg some (if_neg hh.2.2.2))) (show ∀ b : List UInt8, b.length < 1099511627776 → pu20 26 [sl bC .no b] = some (.tup [.val (str (getB b).1), .val (nI (getB b).2.1), .val (nI (getB b).2.2)]) from by intros; rw [pu20, ext_miss (by decide), pu19, ext_miss (by decide), pu18, ext_miss (by decide), pu17, ext_miss (by decide)]; apply hit16 <;> (first | assumption | omega | (rename_i hh; first | exact hh.1 | exact hh.2 | exact hh.2.1 | exact hh.2.2 | exact hh.2.2.1 | exact hh.2.2.2 | exact hh.2.2.2.1 | exact hh.2.2.2.2))) ((q0.1)) q0.2
theorem hno21 : ∀ (g : Nat) (xs : List C), refy xs = true → pu21 g xs = none := hno_ext hno20 nr21
theorem hit21 (b : List UInt8) (hc0 : b.length < 1099511627776) : pu21 31 [sl bC .no b] = some (.tup [sl sC .no (getL getB 1 b).1, .val (nI (getL getB 1 b).2.1), .val (nI (getL getB 1 b).2.2)]) :=
  (ext_hit _).trans (tabOf_enc ij21 ⟨(b), hc0⟩)

abbrev D22 := {q0 : (List UInt8) // ((q0).length < 1099511627776)}
def enc22 (q0 : D22) : List C := [sl bC .no (q0.1)]
def out22 (q0 : D22) : C := .tup [sl sC .no (getL getB 1 (q0.1)).1, .val (nI (getL getB 1 (q0.1)).2.1), .val (nI (getL getB 1 (q0.1)).2.2)]
noncomputable def pu22 : Nat → List C → Option C := Sx.ext pu21 32 (tabOf enc22 out22)
theorem nr22 (x : D22) : noRefs 0 (enc22 x) = true := by
  simp only [enc22, noRef_val, noRef_agg, noRef_tup, noRef_kp, noRef_sl, noRefs_cl, noRefs_cons, noRefs_nil, noRefs_app, Bool.and_self, Bool.and_true]
theorem ij22 (x y : D22) (h : enc22 x = enc22 y) : out22 x = out22 y := by
  simp only [enc22, List.cons.injEq, C.val.injEq, C.agg.injEq, C.kp.injEq, str_inj, nI_inj, nU_inj, w8_inj, w32_inj, cl_inj, sl_inj, Value.int.injEq, Value.bool.injEq, true_and, and_true] at h; simp only [out22, h]
theorem ok22 {gl : Nat → C} (hgn : ∀ g, noRef 0 (gl g) = true)  (M : Nat) : CxOK (cxP gl M pu22) := CxOK.ext2 (N := 0) (ok21 hgn  0) nr22 fun q0 => fc32 (ok21 hgn  0) (by intros; rw [pu21, ext_miss (by decide), pu20, ext_miss (by decide), pu19, ext_miss (by decide), pu18, ext_miss (by decide), pu17, ext_miss (by decide), pu16, ext_miss (by decide)]; rename_i hh; exact (hit15 _ _ hh.1 ⟨hh.2.1, hh.2.2.1⟩).trans (congrArg some (if_pos hh.2.2.2))) (by intros; rw [pu21, ext_miss (by decide), pu20, ext_miss (by decide), pu19, ext_miss (by decide), pu18, ext_miss (by decide), pu17, ext_miss (by decide), pu16, ext_miss (by decide)]; rename_i hh; exact (hit15 _ _ hh.1 ⟨hh.2.1, hh.2.2.1⟩).trans (congrArg some (if_neg hh.2.2.2))) (show ∀ b : List UInt8, b.length < 1099511627776 → pu21 27 [sl bC .no b] = some (.tup [.val (str (getB b).1), .val (nI (getB b).2.1), .val (nI (getB b).2.2)]) from by intros; rw [pu21, ext_miss (by decide), pu20, ext_miss (by decide), pu19, ext_miss (by decide), pu18, ext_miss (by decide)]; apply hit17 <;> (first | assumption | omega | (rename_i hh; first | exact hh.1 | exact hh.2 | exact hh.2.1 | exact hh.2.2 | exact hh.2.2.1 | exact hh.2.2.2 | exact hh.2.2.2.1 | exact hh.2.2.2.2))) ((q0.1)) q0.2
theorem hno22 : ∀ (g : Nat) (xs : List C), refy xs = true → pu22 g xs = none := hno_ext hno21 nr22
theorem hit22 (b : List UInt8) (hc0 : b.length < 1099511627776) : pu22 32 [sl bC .no b] = some (.tup [sl sC .no (getL getB 1 b).1, .val (nI (getL getB 1 b).2.1), .val (nI (getL getB 1 b).2.2)]) :=
  (ext_hit _).trans (tabOf_enc ij22 ⟨(b), hc0⟩)

abbrev D23 := {q0 : (List (List UInt8)) × (List (List UInt8)) // ((q0.1).length < 9223372036854775807)}
def enc23 (q0 : D23) : List C := [sl sC .no (q0.1.1), sl sC .no (q0.1.2)]
def out23 (q0 : D23) : C := .val (.bool (decide ((q0.1.1) = (q0.1.2))))
noncomputable def pu23 : Nat → List C → Option C := Sx.ext pu22 33 (tabOf enc23 out23)
theorem nr23 (x : D23) : noRefs 0 (enc23 x) = true := by
  simp only [enc23, noRef_val, noRef_agg, noRef_tup, noRef_kp, noRef_sl, noRefs_cl, noRefs_cons, noRefs_nil, noRefs_app, Bool.and_self, Bool.and_true]
theorem ij23 (x y : D23) (h : enc23 x = enc23 y) : out23 x = out23 y := by
  simp only [enc23, List.cons.injEq, C.val.injEq, C.agg.injEq, C.kp.injEq, str_inj, nI_inj, nU_inj, w8_inj, w32_inj, cl_inj, sl_inj, Value.int.injEq, Value.bool.injEq, true_and, and_true] at h; simp only [out23, h]
theorem ok23 {gl : Nat → C} (hgn : ∀ g, noRef 0 (gl g) = true)  (M : Nat) : CxOK (cxP gl M pu23) := CxOK.ext2 (N := 0) (ok22 hgn  0) nr23 fun q0 => fc33 (ok22 hgn  0)  ((q0.1.1)) ((q0.1.2)) q0.2
theorem hno23 : ∀ (g : Nat) (xs : List C), refy xs = true → pu23 g xs = none := hno_ext hno22 nr23
theorem hit23 (x : List (List UInt8)) (y : List (List UInt8)) (hc0 : x.length < 9223372036854775807) : pu23 33 [sl sC .no x, sl sC .no y] = some (.val (.bool (decide (x = y)))) :=
  (ext_hit _).trans (tabOf_enc ij23 ⟨(x, y), hc0⟩)

abbrev D24 := {q0 : (List UInt8) // ((q0).length < 1099511627776)}
def enc24 (q0 : D24) : List C := [sl bC .no (q0.1)]
def out24 (q0 : D24) : C := .tup [sl dC .no (getL getD1 16 (q0.1)).1, .val (nI (getL getD1 16 (q0.1)).2.1), .val (nI (getL getD1 16 (q0.1)).2.2)]
noncomputable def pu24 : Nat → List C → Option C := Sx.ext pu23 34 (tabOf enc24 out24)
theorem nr24 (x : D24) : noRefs 0 (enc24 x) = true := by
  simp only [enc24, noRef_val, noRef_agg, noRef_tup, noRef_kp, noRef_sl, noRefs_cl, noRefs_cons, noRefs_nil, noRefs_app, Bool.and_self, Bool.and_true]
theorem ij24 (x y : D24) (h : enc24 x = enc24 y) : out24 x = out24 y := by
  simp only [enc24, List.cons.injEq, C.val.injEq, C.agg.injEq, C.kp.injEq, str_inj, nI_inj, nU_inj, w8_inj, w32_inj, cl_inj, sl_inj, Value.int.injEq, Value.bool.injEq, true_and, and_true] at h; simp only [out24, h]
theorem ok24 {gl : Nat → C} (hgn : ∀ g, noRef 0 (gl g) = true)  (M : Nat) : CxOK (cxP gl M pu24) := CxOK.ext2 (N := 0) (ok23 hgn  0) nr24 fun q0 => fc34 (ok23 hgn  0) (by intros; rw [pu23, ext_miss (by decide), pu22, ext_miss (by decide), pu21, ext_miss (by decide), pu20, ext_miss (by decide), pu19, ext_miss (by decide), pu18, ext_miss (by decide), pu17, ext_miss (by decide), pu16, ext_miss (by decide), pu15, ext_miss (by decide)]; rename_i hh; exact (hit14 _ _ hh.1 ⟨hh.2.1, hh.2.2.1⟩).trans (congrArg some (if_pos hh.2.2.2))) (by intros; rw [pu23, ext_miss (by decide), pu22, ext_miss (by decide), pu21, ext_miss (by decide), pu20, ext_miss (by decide), pu19, ext_miss (by decide), pu18, ext_miss (by decide), pu17, ext_miss (by decide), pu16, ext_miss (by decide), pu15, ext_miss (by decide)]; rename_i hh; exact (hit14 _ _ hh.1 ⟨hh.2.1, hh.2.2.1⟩).trans (congrArg some (if_neg hh.2.2.2))) ((q0.1)) q0.2
theorem hno24 : ∀ (g : Nat) (xs : List C), refy xs = true → pu24 g xs = none := hno_ext hno23 nr24
theorem hit24 (b : List UInt8) (hc0 : b.length < 1099511627776) : pu24 34 [sl bC .no b] = some (.tup [sl dC .no (getL getD1 16 b).1, .val (nI (getL getD1 16 b).2.1), .val (nI (getL getD1 16 b).2.2)]) :=
  (ext_hit _).trans (tabOf_enc ij24 ⟨(b), hc0⟩)

abbrev D25 := {q0 : (List UInt8) // ((q0).length < 1099511627776)}
def enc25 (q0 : D25) : List C := [sl bC .no (q0.1)]
def out25 (q0 : D25) : C := .tup [sl dC .no (getL getD1 16 (q0.1)).1, .val (nI (getL getD1 16 (q0.1)).2.1), .val (nI (getL getD1 16 (q0.1)).2.2)]
noncomputable def pu25 : Nat → List C → Option C := Sx.ext pu24 35 (tabOf enc25 out25)
theorem nr25 (x : D25) : noRefs 0 (enc25 x) = true := by
  simp only [enc25, noRef_val, noRef_agg, noRef_tup, noRef_kp, noRef_sl, noRefs_cl, noRefs_cons, noRefs_nil, noRefs_app, Bool.and_self, Bool.and_true]
theorem ij25 (x y : D25) (h : enc25 x = enc25 y) : out25 x = out25 y := by
  simp only [enc25, List.cons.injEq, C.val.injEq, C.agg.injEq, C.kp.injEq, str_inj, nI_inj, nU_inj, w8_inj, w32_inj, cl_inj, sl_inj, Value.int.injEq, Value.bool.injEq, true_and, and_true] at h; simp only [out25, h]
theorem ok25 {gl : Nat → C} (hgn : ∀ g, noRef 0 (gl g) = true)  (M : Nat) : CxOK (cxP gl M pu25) := CxOK.ext2 (N := 0) (ok24 hgn  0) nr25 fun q0 => fc35 (ok24 hgn  0) (by intros; rw [pu24, ext_miss (by decide), pu23, ext_miss (by decide), pu22, ext_miss (by decide), pu21, ext_miss (by decide), pu20, ext_miss (by decide), pu19, ext_miss (by decide), pu18, ext_miss (by decide), pu17, ext_miss (by decide), pu16, ext_miss (by decide)]; rename_i hh; exact (hit15 _ _ hh.1 ⟨hh.2.1, hh.2.2.1⟩).trans (congrArg some (if_pos hh.2.2.2))) (by intros; rw [pu24, ext_miss (by decide), pu23, ext_miss (by decide), pu22, ext_miss (by decide), pu21, ext_miss (by decide), pu20, ext_miss (by decide), pu19, ext_miss (by decide), pu18, ext_miss (by decide), pu17, ext_miss (by decide), pu16, ext_miss (by decide)]; rename_i hh; exact (hit15 _ _ hh.1 ⟨hh.2.1, hh.2.2.1⟩).trans (congrArg some (if_neg hh.2.2.2))) ((q0.1)) q0.2
theorem hno25 : ∀ (g : Nat) (xs : List C), refy xs = true → pu25 g xs = none := hno_ext hno24 nr25
theorem hit25 (b : List UInt8) (hc0 : b.length < 1099511627776) : pu25 35 [sl bC .no b] = some (.tup [sl dC .no (getL getD1 16 b).1, .val (nI (getL getD1 16 b).2.1), .val (nI (getL getD1 16 b).2.2)]) :=
  (ext_hit _).trans (tabOf_enc ij25 ⟨(b), hc0⟩)

abbrev D26 := {q0 : (List Dig) × (List Dig) // ((q0.1).length < 9223372036854775807)}
def enc26 (q0 : D26) : List C := [sl dC .no (q0.1.1), sl dC .no (q0.1.2)]
def out26 (q0 : D26) : C := .val (.bool (decide ((q0.1.1) = (q0.1.2))))
noncomputable def pu26 : Nat → List C → Option C := Sx.ext pu25 36 (tabOf enc26 out26)
theorem nr26 (x : D26) : noRefs 0 (enc26 x) = true := by
  simp only [enc26, noRef_val, noRef_agg, noRef_tup, noRef_kp, noRef_sl, noRefs_cl, noRefs_cons, noRefs_nil, noRefs_app, Bool.and_self, Bool.and_true]
theorem ij26 (x y : D26) (h : enc26 x = enc26 y) : out26 x = out26 y := by
  simp only [enc26, List.cons.injEq, C.val.injEq, C.agg.injEq, C.kp.injEq, str_inj, nI_inj, nU_inj, w8_inj, w32_inj, cl_inj, sl_inj, Value.int.injEq, Value.bool.injEq, true_and, and_true] at h; simp only [out26, h]
theorem ok26 {gl : Nat → C} (hgn : ∀ g, noRef 0 (gl g) = true)  (M : Nat) : CxOK (cxP gl M pu26) := CxOK.ext2 (N := 0) (ok25 hgn  0) nr26 fun q0 => fc36 (ok25 hgn  0)  ((q0.1.1)) ((q0.1.2)) q0.2
theorem hno26 : ∀ (g : Nat) (xs : List C), refy xs = true → pu26 g xs = none := hno_ext hno25 nr26
theorem hit26 (x : List Dig) (y : List Dig) (hc0 : x.length < 9223372036854775807) : pu26 36 [sl dC .no x, sl dC .no y] = some (.val (.bool (decide (x = y)))) :=
  (ext_hit _).trans (tabOf_enc ij26 ⟨(x, y), hc0⟩)

abbrev D27 := {q0 : (List (List UInt8)) // ((q0).length + (q0).flatten.length < 9223372036854775807)}
def enc27 (q0 : D27) : List C := [sl sC .no (q0.1)]
def out27 (q0 : D27) : C := .val (.bool (decide ((q0.1).length + (q0.1).flatten.length ≤ 2000)))
noncomputable def pu27 : Nat → List C → Option C := Sx.ext pu26 11 (tabOf enc27 out27)
theorem nr27 (x : D27) : noRefs 0 (enc27 x) = true := by
  simp only [enc27, noRef_val, noRef_agg, noRef_tup, noRef_kp, noRef_sl, noRefs_cl, noRefs_cons, noRefs_nil, noRefs_app, Bool.and_self, Bool.and_true]
theorem ij27 (x y : D27) (h : enc27 x = enc27 y) : out27 x = out27 y := by
  simp only [enc27, List.cons.injEq, C.val.injEq, C.agg.injEq, C.kp.injEq, str_inj, nI_inj, nU_inj, w8_inj, w32_inj, cl_inj, sl_inj, Value.int.injEq, Value.bool.injEq, true_and, and_true] at h; simp only [out27, h]
theorem ok27 {gl : Nat → C} (hgn : ∀ g, noRef 0 (gl g) = true)  (M : Nat) : CxOK (cxP gl M pu27) := CxOK.ext2 (N := 0) (ok26 hgn  0) nr27 fun q0 => fc11 (ok26 hgn  0)  ((q0.1)) q0.2
theorem hno27 : ∀ (g : Nat) (xs : List C), refy xs = true → pu27 g xs = none := hno_ext hno26 nr27
theorem hit27 (l : List (List UInt8)) (hc0 : l.length + l.flatten.length < 9223372036854775807) : pu27 11 [sl sC .no l] = some (.val (.bool (decide (l.length + l.flatten.length ≤ 2000)))) :=
  (ext_hit _).trans (tabOf_enc ij27 ⟨(l), hc0⟩)

abbrev D28 := {q0 : Unit // True}
def enc28 (q0 : D28) : List C := []
def out28 (q0 : D28) : C := .val (.bool true)
noncomputable def pu28 : Nat → List C → Option C := Sx.ext pu27 12 (tabOf enc28 out28)
theorem nr28 (x : D28) : noRefs 0 (enc28 x) = true := by
  simp only [enc28, noRef_val, noRef_agg, noRef_tup, noRef_kp, noRef_sl, noRefs_cl, noRefs_cons, noRefs_nil, noRefs_app, Bool.and_self, Bool.and_true]
theorem ij28 (x y : D28) (h : enc28 x = enc28 y) : out28 x = out28 y := by
  rfl
theorem ok28 {gl : Nat → C} (hgn : ∀ g, noRef 0 (gl g) = true)  (M : Nat) : CxOK (cxP gl M pu28) := CxOK.ext2 (N := 0) (ok27 hgn  0) nr28 fun q0 => fc12 (ok27 hgn  0) (show ∀ b : List UInt8, b.length < 1099511627776 → pu27 24 [sl bC .no b] = some (.tup [.val (.int .i64 (getI b).1), .val (nI (getI b).2.1), .val (nI (getI b).2.2)]) from by intros; rw [pu27, ext_miss (by decide), pu26, ext_miss (by decide), pu25, ext_miss (by decide), pu24, ext_miss (by decide), pu23, ext_miss (by decide), pu22, ext_miss (by decide), pu21, ext_miss (by decide), pu20, ext_miss (by decide), pu19, ext_miss (by decide), pu18, ext_miss (by decide), pu17, ext_miss (by decide), pu16, ext_miss (by decide), pu15, ext_miss (by decide), pu14, ext_miss (by decide), pu13, ext_miss (by decide)]; apply hit12 <;> (first | assumption | omega | (rename_i hh; first | exact hh.1 | exact hh.2 | exact hh.2.1 | exact hh.2.2 | exact hh.2.2.1 | exact hh.2.2.2 | exact hh.2.2.2.1 | exact hh.2.2.2.2))) (show ∀ b : List UInt8, b.length < 1099511627776 → pu27 26 [sl bC .no b] = some (.tup [.val (str (getB b).1), .val (nI (getB b).2.1), .val (nI (getB b).2.2)]) from by intros; rw [pu27, ext_miss (by decide), pu26, ext_miss (by decide), pu25, ext_miss (by decide), pu24, ext_miss (by decide), pu23, ext_miss (by decide), pu22, ext_miss (by decide), pu21, ext_miss (by decide), pu20, ext_miss (by decide), pu19, ext_miss (by decide), pu18, ext_miss (by decide), pu17, ext_miss (by decide)]; apply hit16 <;> (first | assumption | omega | (rename_i hh; first | exact hh.1 | exact hh.2 | exact hh.2.1 | exact hh.2.2 | exact hh.2.2.1 | exact hh.2.2.2 | exact hh.2.2.2.1 | exact hh.2.2.2.2))) (show ∀ b : List UInt8, b.length < 1099511627776 → pu27 28 [sl bC .no b] = some (.tup [sl iC .no (getL getI 1 b).1, .val (nI (getL getI 1 b).2.1), .val (nI (getL getI 1 b).2.2)]) from by intros; rw [pu27, ext_miss (by decide), pu26, ext_miss (by decide), pu25, ext_miss (by decide), pu24, ext_miss (by decide), pu23, ext_miss (by decide), pu22, ext_miss (by decide), pu21, ext_miss (by decide), pu20, ext_miss (by decide), pu19, ext_miss (by decide)]; apply hit18 <;> (first | assumption | omega | (rename_i hh; first | exact hh.1 | exact hh.2 | exact hh.2.1 | exact hh.2.2 | exact hh.2.2.1 | exact hh.2.2.2 | exact hh.2.2.2.1 | exact hh.2.2.2.2))) (show ∀ l : List Dig, l.length < 1099511627776 → pu27 22 [sl dC .no l] = some (sl bC (.own 1) (wDigs l)) from by intros; rw [pu27, ext_miss (by decide), pu26, ext_miss (by decide), pu25, ext_miss (by decide), pu24, ext_miss (by decide), pu23, ext_miss (by decide), pu22, ext_miss (by decide), pu21, ext_miss (by decide), pu20, ext_miss (by decide), pu19, ext_miss (by decide), pu18, ext_miss (by decide), pu17, ext_miss (by decide), pu16, ext_miss (by decide), pu15, ext_miss (by decide), pu14, ext_miss (by decide), pu13, ext_miss (by decide), pu12, ext_miss (by decide), pu11, ext_miss (by decide)]; apply hit10 <;> (first | assumption | omega | (rename_i hh; first | exact hh.1 | exact hh.2 | exact hh.2.1 | exact hh.2.2 | exact hh.2.2.1 | exact hh.2.2.2 | exact hh.2.2.2.1 | exact hh.2.2.2.2))) (show ∀ b : List UInt8, b.length < 1099511627776 → pu27 34 [sl bC .no b] = some (.tup [sl dC .no (getL getD1 16 b).1, .val (nI (getL getD1 16 b).2.1), .val (nI (getL getD1 16 b).2.2)]) from by intros; rw [pu27, ext_miss (by decide), pu26, ext_miss (by decide), pu25, ext_miss (by decide)]; apply hit24 <;> (first | assumption | omega | (rename_i hh; first | exact hh.1 | exact hh.2 | exact hh.2.1 | exact hh.2.2 | exact hh.2.2.1 | exact hh.2.2.2 | exact hh.2.2.2.1 | exact hh.2.2.2.2))) (show ∀ b : List UInt8, b.length < 1099511627776 → pu27 31 [sl bC .no b] = some (.tup [sl sC .no (getL getB 1 b).1, .val (nI (getL getB 1 b).2.1), .val (nI (getL getB 1 b).2.2)]) from by intros; rw [pu27, ext_miss (by decide), pu26, ext_miss (by decide), pu25, ext_miss (by decide), pu24, ext_miss (by decide), pu23, ext_miss (by decide), pu22, ext_miss (by decide)]; apply hit21 <;> (first | assumption | omega | (rename_i hh; first | exact hh.1 | exact hh.2 | exact hh.2.1 | exact hh.2.2 | exact hh.2.2.1 | exact hh.2.2.2 | exact hh.2.2.2.1 | exact hh.2.2.2.2))) (show ∀ x y : List (List UInt8), x.length < 9223372036854775807 → pu27 33 [sl sC .no x, sl sC .no y] = some (.val (.bool (decide (x = y)))) from by intros; rw [pu27, ext_miss (by decide), pu26, ext_miss (by decide), pu25, ext_miss (by decide), pu24, ext_miss (by decide)]; apply hit23 <;> (first | assumption | omega | (rename_i hh; first | exact hh.1 | exact hh.2 | exact hh.2.1 | exact hh.2.2 | exact hh.2.2.1 | exact hh.2.2.2 | exact hh.2.2.2.1 | exact hh.2.2.2.2))) (show ∀ l : List (List UInt8), l.length < 1099511627776 ∧ l.flatten.length < 1099511627776 → pu27 20 [sl sC .no l] = some (sl bC (.own 1) (wStrs l)) from by intros; rw [pu27, ext_miss (by decide), pu26, ext_miss (by decide), pu25, ext_miss (by decide), pu24, ext_miss (by decide), pu23, ext_miss (by decide), pu22, ext_miss (by decide), pu21, ext_miss (by decide), pu20, ext_miss (by decide), pu19, ext_miss (by decide), pu18, ext_miss (by decide), pu17, ext_miss (by decide), pu16, ext_miss (by decide), pu15, ext_miss (by decide), pu14, ext_miss (by decide), pu13, ext_miss (by decide), pu12, ext_miss (by decide), pu11, ext_miss (by decide), pu10, ext_miss (by decide), pu9, ext_miss (by decide)]; apply hit8 <;> (first | assumption | omega | (rename_i hh; first | exact hh.1 | exact hh.2 | exact hh.2.1 | exact hh.2.2 | exact hh.2.2.1 | exact hh.2.2.2 | exact hh.2.2.2.1 | exact hh.2.2.2.2))) (show ∀ x y : List UInt8, x.length < 9223372036854775807 → pu27 13 [sl bC .no x, sl bC .no y] = some (.val (.bool (decide (x = y)))) from by intros; rw [pu27, ext_miss (by decide), pu26, ext_miss (by decide), pu25, ext_miss (by decide), pu24, ext_miss (by decide), pu23, ext_miss (by decide), pu22, ext_miss (by decide), pu21, ext_miss (by decide), pu20, ext_miss (by decide), pu19, ext_miss (by decide), pu18, ext_miss (by decide), pu17, ext_miss (by decide), pu16, ext_miss (by decide), pu15, ext_miss (by decide), pu14, ext_miss (by decide), pu13, ext_miss (by decide), pu12, ext_miss (by decide), pu11, ext_miss (by decide), pu10, ext_miss (by decide), pu9, ext_miss (by decide), pu8, ext_miss (by decide), pu7, ext_miss (by decide), pu6, ext_miss (by decide), pu5, ext_miss (by decide), pu4, ext_miss (by decide), pu3, ext_miss (by decide), pu2, ext_miss (by decide)]; apply hit1 <;> (first | assumption | omega | (rename_i hh; first | exact hh.1 | exact hh.2 | exact hh.2.1 | exact hh.2.2 | exact hh.2.2.1 | exact hh.2.2.2 | exact hh.2.2.2.1 | exact hh.2.2.2.2))) (show ∀ n : Int, -9223372036854775808 ≤ n ∧ n ≤ 9223372036854775807 → pu27 14 [.val (.int .i64 n)] = some (sl bC (.own 1) (wint n)) from by intros; rw [pu27, ext_miss (by decide), pu26, ext_miss (by decide), pu25, ext_miss (by decide), pu24, ext_miss (by decide), pu23, ext_miss (by decide), pu22, ext_miss (by decide), pu21, ext_miss (by decide), pu20, ext_miss (by decide), pu19, ext_miss (by decide), pu18, ext_miss (by decide), pu17, ext_miss (by decide), pu16, ext_miss (by decide), pu15, ext_miss (by decide), pu14, ext_miss (by decide), pu13, ext_miss (by decide), pu12, ext_miss (by decide), pu11, ext_miss (by decide), pu10, ext_miss (by decide), pu9, ext_miss (by decide), pu8, ext_miss (by decide), pu7, ext_miss (by decide), pu6, ext_miss (by decide), pu5, ext_miss (by decide), pu4, ext_miss (by decide), pu3, ext_miss (by decide)]; apply hit2 <;> (first | assumption | omega | (rename_i hh; first | exact hh.1 | exact hh.2 | exact hh.2.1 | exact hh.2.2 | exact hh.2.2.1 | exact hh.2.2.2 | exact hh.2.2.2.1 | exact hh.2.2.2.2))) (show ∀ s : List UInt8, s.length < 70368744177664 → pu27 16 [.val (str s)] = some (sl bC (.own 1) (wb s)) from by intros; rw [pu27, ext_miss (by decide), pu26, ext_miss (by decide), pu25, ext_miss (by decide), pu24, ext_miss (by decide), pu23, ext_miss (by decide), pu22, ext_miss (by decide), pu21, ext_miss (by decide), pu20, ext_miss (by decide), pu19, ext_miss (by decide), pu18, ext_miss (by decide), pu17, ext_miss (by decide), pu16, ext_miss (by decide), pu15, ext_miss (by decide), pu14, ext_miss (by decide), pu13, ext_miss (by decide), pu12, ext_miss (by decide), pu11, ext_miss (by decide), pu10, ext_miss (by decide), pu9, ext_miss (by decide), pu8, ext_miss (by decide), pu7, ext_miss (by decide), pu6, ext_miss (by decide), pu5, ext_miss (by decide)]; apply hit4 <;> (first | assumption | omega | (rename_i hh; first | exact hh.1 | exact hh.2 | exact hh.2.1 | exact hh.2.2 | exact hh.2.2.1 | exact hh.2.2.2 | exact hh.2.2.2.1 | exact hh.2.2.2.2))) (show ∀ l : List Int, l.length < 1099511627776 ∧ (∀ x ∈ l, -9223372036854775808 ≤ x ∧ x ≤ 9223372036854775807) → pu27 18 [sl iC .no l] = some (sl bC (.own 1) (wInts l)) from by intros; rw [pu27, ext_miss (by decide), pu26, ext_miss (by decide), pu25, ext_miss (by decide), pu24, ext_miss (by decide), pu23, ext_miss (by decide), pu22, ext_miss (by decide), pu21, ext_miss (by decide), pu20, ext_miss (by decide), pu19, ext_miss (by decide), pu18, ext_miss (by decide), pu17, ext_miss (by decide), pu16, ext_miss (by decide), pu15, ext_miss (by decide), pu14, ext_miss (by decide), pu13, ext_miss (by decide), pu12, ext_miss (by decide), pu11, ext_miss (by decide), pu10, ext_miss (by decide), pu9, ext_miss (by decide), pu8, ext_miss (by decide), pu7, ext_miss (by decide)]; apply hit6 <;> (first | assumption | omega | (rename_i hh; first | exact hh.1 | exact hh.2 | exact hh.2.1 | exact hh.2.2 | exact hh.2.2.1 | exact hh.2.2.2 | exact hh.2.2.2.1 | exact hh.2.2.2.2))) (show ∀ x y : List Int, x.length < 9223372036854775807 → pu27 30 [sl iC .no x, sl iC .no y] = some (.val (.bool (decide (x = y)))) from by intros; rw [pu27, ext_miss (by decide), pu26, ext_miss (by decide), pu25, ext_miss (by decide), pu24, ext_miss (by decide), pu23, ext_miss (by decide), pu22, ext_miss (by decide), pu21, ext_miss (by decide)]; apply hit20 <;> (first | assumption | omega | (rename_i hh; first | exact hh.1 | exact hh.2 | exact hh.2.1 | exact hh.2.2 | exact hh.2.2.1 | exact hh.2.2.2 | exact hh.2.2.2.1 | exact hh.2.2.2.2))) (show ∀ x y : List Dig, x.length < 9223372036854775807 → pu27 36 [sl dC .no x, sl dC .no y] = some (.val (.bool (decide (x = y)))) from by intros; rw [pu27, ext_miss (by decide)]; apply hit26 <;> (first | assumption | omega | (rename_i hh; first | exact hh.1 | exact hh.2 | exact hh.2.1 | exact hh.2.2 | exact hh.2.2.1 | exact hh.2.2.2 | exact hh.2.2.2.1 | exact hh.2.2.2.2))) 
theorem hno28 : ∀ (g : Nat) (xs : List C), refy xs = true → pu28 g xs = none := hno_ext hno27 nr28
theorem hit28   : pu28 12 [] = some (.val (.bool true)) :=
  (ext_hit _).trans (tabOf_enc ij28 ⟨(), trivial⟩)

abbrev D29 := {q0 : (List UInt8) × Nat × Nat × (List UInt8) // ((q0.2.2.2).length < 1099511627776) ∧ ((q0.1).length < 1099511627776) ∧ ((q0.2.2.1) = 0 → (q0.2.1) ≤ (q0.2.2.2).length ∧ (q0.2.2.2).take (q0.2.1) = (q0.1))}
def enc29 (q0 : D29) : List C := [sl bC .no (q0.1.1), .val (nI (q0.1.2.1)), .val (nI (q0.1.2.2.1)), .kp [sl bC .no (q0.1.2.2.2)]]
def out29 (q0 : D29) : C := .val (.bool true)
noncomputable def pu29 : Nat → List C → Option C := Sx.ext pu28 37 (tabOf enc29 out29)
theorem nr29 (x : D29) : noRefs 0 (enc29 x) = true := by
  simp only [enc29, noRef_val, noRef_agg, noRef_tup, noRef_kp, noRef_sl, noRefs_cl, noRefs_cons, noRefs_nil, noRefs_app, Bool.and_self, Bool.and_true]
theorem ij29 (x y : D29) (h : enc29 x = enc29 y) : out29 x = out29 y := by
  simp only [enc29, List.cons.injEq, C.val.injEq, C.agg.injEq, C.kp.injEq, str_inj, nI_inj, nU_inj, w8_inj, w32_inj, cl_inj, sl_inj, Value.int.injEq, Value.bool.injEq, true_and, and_true] at h; simp only [out29, h]
theorem ok29 {gl : Nat → C} (hgn : ∀ g, noRef 0 (gl g) = true)  (M : Nat) : CxOK (cxP gl M pu29) := CxOK.ext2 (N := 0) (ok28 hgn  0) nr29 fun q0 => fc37 (ok28 hgn  0) (show ∀ x y : List UInt8, x.length < 9223372036854775807 → pu28 13 [sl bC .no x, sl bC .no y] = some (.val (.bool (decide (x = y)))) from by intros; rw [pu28, ext_miss (by decide), pu27, ext_miss (by decide), pu26, ext_miss (by decide), pu25, ext_miss (by decide), pu24, ext_miss (by decide), pu23, ext_miss (by decide), pu22, ext_miss (by decide), pu21, ext_miss (by decide), pu20, ext_miss (by decide), pu19, ext_miss (by decide), pu18, ext_miss (by decide), pu17, ext_miss (by decide), pu16, ext_miss (by decide), pu15, ext_miss (by decide), pu14, ext_miss (by decide), pu13, ext_miss (by decide), pu12, ext_miss (by decide), pu11, ext_miss (by decide), pu10, ext_miss (by decide), pu9, ext_miss (by decide), pu8, ext_miss (by decide), pu7, ext_miss (by decide), pu6, ext_miss (by decide), pu5, ext_miss (by decide), pu4, ext_miss (by decide), pu3, ext_miss (by decide), pu2, ext_miss (by decide)]; apply hit1 <;> (first | assumption | omega | (rename_i hh; first | exact hh.1 | exact hh.2 | exact hh.2.1 | exact hh.2.2 | exact hh.2.2.1 | exact hh.2.2.2 | exact hh.2.2.2.1 | exact hh.2.2.2.2))) ((q0.1.1)) ((q0.1.2.1)) ((q0.1.2.2.1)) ((q0.1.2.2.2)) q0.2.1 q0.2.2.1 q0.2.2.2
theorem hno29 : ∀ (g : Nat) (xs : List C), refy xs = true → pu29 g xs = none := hno_ext hno28 nr29
theorem hit29 (c : List UInt8) (u : Nat) (e : Nat) (b : List UInt8) (hc0 : b.length < 1099511627776) (hc1 : c.length < 1099511627776) (hc2 : e = 0 → u ≤ b.length ∧ b.take u = c) : pu29 37 [sl bC .no c, .val (nI u), .val (nI e), .kp [sl bC .no b]] = some (.val (.bool true)) :=
  (ext_hit _).trans (tabOf_enc ij29 ⟨(c, u, e, b), ⟨hc0, hc1, hc2⟩⟩)

theorem law3 {gl : Nat → C} (hgn : ∀ g, noRef 0 (gl g) = true)  (n : Int) (s : List UInt8) (l : List Int) (x : List (List UInt8)) (d : List Dig) (hc0 : -9223372036854775808 ≤ n ∧ n ≤ 9223372036854775807) (hc1 : s.length < 1152921504606846976) (hc2 : l.length < 1152921504606846976) (hc3 : d.length < 1152921504606846976) (hc4 : x.length + x.flatten.length < 9223372036854775807) (hc5 : ∀ x ∈ l, -9223372036854775808 ≤ x ∧ x ≤ 9223372036854775807) : FC Try.prog gl 3 [.val (.int .i64 n), .val (str s), sl iC .no l, sl sC .no x, sl dC .no d] [] (.val (.bool true)) [] := fc3 (ok29 hgn  0) (show ∀ l : List (List UInt8), l.length + l.flatten.length < 9223372036854775807 → pu29 11 [sl sC .no l] = some (.val (.bool (decide (l.length + l.flatten.length ≤ 2000)))) from by intros; rw [pu29, ext_miss (by decide), pu28, ext_miss (by decide)]; apply hit27 <;> (first | assumption | omega | (rename_i hh; first | exact hh.1 | exact hh.2 | exact hh.2.1 | exact hh.2.2 | exact hh.2.2.1 | exact hh.2.2.2 | exact hh.2.2.2.1 | exact hh.2.2.2.2))) (show pu29 12 [] = some (.val (.bool true)) from by intros; rw [pu29, ext_miss (by decide)]; apply hit28 <;> (first | assumption | omega | (rename_i hh; first | exact hh.1 | exact hh.2 | exact hh.2.1 | exact hh.2.2 | exact hh.2.2.1 | exact hh.2.2.2 | exact hh.2.2.2.1 | exact hh.2.2.2.2))) (show ∀ x y : List UInt8, x.length < 9223372036854775807 → pu29 13 [sl bC .no x, sl bC .no y] = some (.val (.bool (decide (x = y)))) from by intros; rw [pu29, ext_miss (by decide), pu28, ext_miss (by decide), pu27, ext_miss (by decide), pu26, ext_miss (by decide), pu25, ext_miss (by decide), pu24, ext_miss (by decide), pu23, ext_miss (by decide), pu22, ext_miss (by decide), pu21, ext_miss (by decide), pu20, ext_miss (by decide), pu19, ext_miss (by decide), pu18, ext_miss (by decide), pu17, ext_miss (by decide), pu16, ext_miss (by decide), pu15, ext_miss (by decide), pu14, ext_miss (by decide), pu13, ext_miss (by decide), pu12, ext_miss (by decide), pu11, ext_miss (by decide), pu10, ext_miss (by decide), pu9, ext_miss (by decide), pu8, ext_miss (by decide), pu7, ext_miss (by decide), pu6, ext_miss (by decide), pu5, ext_miss (by decide), pu4, ext_miss (by decide), pu3, ext_miss (by decide), pu2, ext_miss (by decide)]; apply hit1 <;> (first | assumption | omega | (rename_i hh; first | exact hh.1 | exact hh.2 | exact hh.2.1 | exact hh.2.2 | exact hh.2.2.1 | exact hh.2.2.2 | exact hh.2.2.2.1 | exact hh.2.2.2.2))) (show ∀ n : Int, -9223372036854775808 ≤ n ∧ n ≤ 9223372036854775807 → pu29 14 [.val (.int .i64 n)] = some (sl bC (.own 1) (wint n)) from by intros; rw [pu29, ext_miss (by decide), pu28, ext_miss (by decide), pu27, ext_miss (by decide), pu26, ext_miss (by decide), pu25, ext_miss (by decide), pu24, ext_miss (by decide), pu23, ext_miss (by decide), pu22, ext_miss (by decide), pu21, ext_miss (by decide), pu20, ext_miss (by decide), pu19, ext_miss (by decide), pu18, ext_miss (by decide), pu17, ext_miss (by decide), pu16, ext_miss (by decide), pu15, ext_miss (by decide), pu14, ext_miss (by decide), pu13, ext_miss (by decide), pu12, ext_miss (by decide), pu11, ext_miss (by decide), pu10, ext_miss (by decide), pu9, ext_miss (by decide), pu8, ext_miss (by decide), pu7, ext_miss (by decide), pu6, ext_miss (by decide), pu5, ext_miss (by decide), pu4, ext_miss (by decide), pu3, ext_miss (by decide)]; apply hit2 <;> (first | assumption | omega | (rename_i hh; first | exact hh.1 | exact hh.2 | exact hh.2.1 | exact hh.2.2 | exact hh.2.2.1 | exact hh.2.2.2 | exact hh.2.2.2.1 | exact hh.2.2.2.2))) (show ∀ n : Int, -9223372036854775808 ≤ n ∧ n ≤ 9223372036854775807 → pu29 15 [.val (.int .i64 n)] = some (sl bC (.own 1) (wint n)) from by intros; rw [pu29, ext_miss (by decide), pu28, ext_miss (by decide), pu27, ext_miss (by decide), pu26, ext_miss (by decide), pu25, ext_miss (by decide), pu24, ext_miss (by decide), pu23, ext_miss (by decide), pu22, ext_miss (by decide), pu21, ext_miss (by decide), pu20, ext_miss (by decide), pu19, ext_miss (by decide), pu18, ext_miss (by decide), pu17, ext_miss (by decide), pu16, ext_miss (by decide), pu15, ext_miss (by decide), pu14, ext_miss (by decide), pu13, ext_miss (by decide), pu12, ext_miss (by decide), pu11, ext_miss (by decide), pu10, ext_miss (by decide), pu9, ext_miss (by decide), pu8, ext_miss (by decide), pu7, ext_miss (by decide), pu6, ext_miss (by decide), pu5, ext_miss (by decide), pu4, ext_miss (by decide)]; apply hit3 <;> (first | assumption | omega | (rename_i hh; first | exact hh.1 | exact hh.2 | exact hh.2.1 | exact hh.2.2 | exact hh.2.2.1 | exact hh.2.2.2 | exact hh.2.2.2.1 | exact hh.2.2.2.2))) (show ∀ s : List UInt8, s.length < 70368744177664 → pu29 16 [.val (str s)] = some (sl bC (.own 1) (wb s)) from by intros; rw [pu29, ext_miss (by decide), pu28, ext_miss (by decide), pu27, ext_miss (by decide), pu26, ext_miss (by decide), pu25, ext_miss (by decide), pu24, ext_miss (by decide), pu23, ext_miss (by decide), pu22, ext_miss (by decide), pu21, ext_miss (by decide), pu20, ext_miss (by decide), pu19, ext_miss (by decide), pu18, ext_miss (by decide), pu17, ext_miss (by decide), pu16, ext_miss (by decide), pu15, ext_miss (by decide), pu14, ext_miss (by decide), pu13, ext_miss (by decide), pu12, ext_miss (by decide), pu11, ext_miss (by decide), pu10, ext_miss (by decide), pu9, ext_miss (by decide), pu8, ext_miss (by decide), pu7, ext_miss (by decide), pu6, ext_miss (by decide), pu5, ext_miss (by decide)]; apply hit4 <;> (first | assumption | omega | (rename_i hh; first | exact hh.1 | exact hh.2 | exact hh.2.1 | exact hh.2.2 | exact hh.2.2.1 | exact hh.2.2.2 | exact hh.2.2.2.1 | exact hh.2.2.2.2))) (show ∀ s : List UInt8, s.length < 70368744177664 → pu29 17 [.val (str s)] = some (sl bC (.own 1) (wb s)) from by intros; rw [pu29, ext_miss (by decide), pu28, ext_miss (by decide), pu27, ext_miss (by decide), pu26, ext_miss (by decide), pu25, ext_miss (by decide), pu24, ext_miss (by decide), pu23, ext_miss (by decide), pu22, ext_miss (by decide), pu21, ext_miss (by decide), pu20, ext_miss (by decide), pu19, ext_miss (by decide), pu18, ext_miss (by decide), pu17, ext_miss (by decide), pu16, ext_miss (by decide), pu15, ext_miss (by decide), pu14, ext_miss (by decide), pu13, ext_miss (by decide), pu12, ext_miss (by decide), pu11, ext_miss (by decide), pu10, ext_miss (by decide), pu9, ext_miss (by decide), pu8, ext_miss (by decide), pu7, ext_miss (by decide), pu6, ext_miss (by decide)]; apply hit5 <;> (first | assumption | omega | (rename_i hh; first | exact hh.1 | exact hh.2 | exact hh.2.1 | exact hh.2.2 | exact hh.2.2.1 | exact hh.2.2.2 | exact hh.2.2.2.1 | exact hh.2.2.2.2))) (show ∀ l : List Int, l.length < 1099511627776 ∧ (∀ x ∈ l, -9223372036854775808 ≤ x ∧ x ≤ 9223372036854775807) → pu29 18 [sl iC .no l] = some (sl bC (.own 1) (wInts l)) from by intros; rw [pu29, ext_miss (by decide), pu28, ext_miss (by decide), pu27, ext_miss (by decide), pu26, ext_miss (by decide), pu25, ext_miss (by decide), pu24, ext_miss (by decide), pu23, ext_miss (by decide), pu22, ext_miss (by decide), pu21, ext_miss (by decide), pu20, ext_miss (by decide), pu19, ext_miss (by decide), pu18, ext_miss (by decide), pu17, ext_miss (by decide), pu16, ext_miss (by decide), pu15, ext_miss (by decide), pu14, ext_miss (by decide), pu13, ext_miss (by decide), pu12, ext_miss (by decide), pu11, ext_miss (by decide), pu10, ext_miss (by decide), pu9, ext_miss (by decide), pu8, ext_miss (by decide), pu7, ext_miss (by decide)]; apply hit6 <;> (first | assumption | omega | (rename_i hh; first | exact hh.1 | exact hh.2 | exact hh.2.1 | exact hh.2.2 | exact hh.2.2.1 | exact hh.2.2.2 | exact hh.2.2.2.1 | exact hh.2.2.2.2))) (show ∀ l : List Int, l.length < 1099511627776 ∧ (∀ x ∈ l, -9223372036854775808 ≤ x ∧ x ≤ 9223372036854775807) → pu29 19 [sl iC .no l] = some (sl bC (.own 1) (wInts l)) from by intros; rw [pu29, ext_miss (by decide), pu28, ext_miss (by decide), pu27, ext_miss (by decide), pu26, ext_miss (by decide), pu25, ext_miss (by decide), pu24, ext_miss (by decide), pu23, ext_miss (by decide), pu22, ext_miss (by decide), pu21, ext_miss (by decide), pu20, ext_miss (by decide), pu19, ext_miss (by decide), pu18, ext_miss (by decide), pu17, ext_miss (by decide), pu16, ext_miss (by decide), pu15, ext_miss (by decide), pu14, ext_miss (by decide), pu13, ext_miss (by decide), pu12, ext_miss (by decide), pu11, ext_miss (by decide), pu10, ext_miss (by decide), pu9, ext_miss (by decide), pu8, ext_miss (by decide)]; apply hit7 <;> (first | assumption | omega | (rename_i hh; first | exact hh.1 | exact hh.2 | exact hh.2.1 | exact hh.2.2 | exact hh.2.2.1 | exact hh.2.2.2 | exact hh.2.2.2.1 | exact hh.2.2.2.2))) (show ∀ l : List (List UInt8), l.length < 1099511627776 ∧ l.flatten.length < 1099511627776 → pu29 20 [sl sC .no l] = some (sl bC (.own 1) (wStrs l)) from by intros; rw [pu29, ext_miss (by decide), pu28, ext_miss (by decide), pu27, ext_miss (by decide), pu26, ext_miss (by decide), pu25, ext_miss (by decide), pu24, ext_miss (by decide), pu23, ext_miss (by decide), pu22, ext_miss (by decide), pu21, ext_miss (by decide), pu20, ext_miss (by decide), pu19, ext_miss (by decide), pu18, ext_miss (by decide), pu17, ext_miss (by decide), pu16, ext_miss (by decide), pu15, ext_miss (by decide), pu14, ext_miss (by decide), pu13, ext_miss (by decide), pu12, ext_miss (by decide), pu11, ext_miss (by decide), pu10, ext_miss (by decide), pu9, ext_miss (by decide)]; apply hit8 <;> (first | assumption | omega | (rename_i hh; first | exact hh.1 | exact hh.2 | exact hh.2.1 | exact hh.2.2 | exact hh.2.2.1 | exact hh.2.2.2 | exact hh.2.2.2.1 | exact hh.2.2.2.2))) (show ∀ l : List (List UInt8), l.length < 1099511627776 ∧ l.flatten.length < 1099511627776 → pu29 21 [sl sC .no l] = some (sl bC (.own 1) (wStrs l)) from by intros; rw [pu29, ext_miss (by decide), pu28, ext_miss (by decide), pu27, ext_miss (by decide), pu26, ext_miss (by decide), pu25, ext_miss (by decide), pu24, ext_miss (by decide), pu23, ext_miss (by decide), pu22, ext_miss (by decide), pu21, ext_miss (by decide), pu20, ext_miss (by decide), pu19, ext_miss (by decide), pu18, ext_miss (by decide), pu17, ext_miss (by decide), pu16, ext_miss (by decide), pu15, ext_miss (by decide), pu14, ext_miss (by decide), pu13, ext_miss (by decide), pu12, ext_miss (by decide), pu11, ext_miss (by decide), pu10, ext_miss (by decide)]; apply hit9 <;> (first | assumption | omega | (rename_i hh; first | exact hh.1 | exact hh.2 | exact hh.2.1 | exact hh.2.2 | exact hh.2.2.1 | exact hh.2.2.2 | exact hh.2.2.2.1 | exact hh.2.2.2.2))) (show ∀ l : List Dig, l.length < 1099511627776 → pu29 22 [sl dC .no l] = some (sl bC (.own 1) (wDigs l)) from by intros; rw [pu29, ext_miss (by decide), pu28, ext_miss (by decide), pu27, ext_miss (by decide), pu26, ext_miss (by decide), pu25, ext_miss (by decide), pu24, ext_miss (by decide), pu23, ext_miss (by decide), pu22, ext_miss (by decide), pu21, ext_miss (by decide), pu20, ext_miss (by decide), pu19, ext_miss (by decide), pu18, ext_miss (by decide), pu17, ext_miss (by decide), pu16, ext_miss (by decide), pu15, ext_miss (by decide), pu14, ext_miss (by decide), pu13, ext_miss (by decide), pu12, ext_miss (by decide), pu11, ext_miss (by decide)]; apply hit10 <;> (first | assumption | omega | (rename_i hh; first | exact hh.1 | exact hh.2 | exact hh.2.1 | exact hh.2.2 | exact hh.2.2.1 | exact hh.2.2.2 | exact hh.2.2.2.1 | exact hh.2.2.2.2))) (show ∀ l : List Dig, l.length < 1099511627776 → pu29 23 [sl dC .no l] = some (sl bC (.own 1) (wDigs l)) from by intros; rw [pu29, ext_miss (by decide), pu28, ext_miss (by decide), pu27, ext_miss (by decide), pu26, ext_miss (by decide), pu25, ext_miss (by decide), pu24, ext_miss (by decide), pu23, ext_miss (by decide), pu22, ext_miss (by decide), pu21, ext_miss (by decide), pu20, ext_miss (by decide), pu19, ext_miss (by decide), pu18, ext_miss (by decide), pu17, ext_miss (by decide), pu16, ext_miss (by decide), pu15, ext_miss (by decide), pu14, ext_miss (by decide), pu13, ext_miss (by decide), pu12, ext_miss (by decide)]; apply hit11 <;> (first | assumption | omega | (rename_i hh; first | exact hh.1 | exact hh.2 | exact hh.2.1 | exact hh.2.2 | exact hh.2.2.1 | exact hh.2.2.2 | exact hh.2.2.2.1 | exact hh.2.2.2.2))) (n) (s) (l) (x) (d) hc0 hc1 hc2 hc3 hc4 hc5

theorem law4 {gl : Nat → C} (hgn : ∀ g, noRef 0 (gl g) = true)  (b : List UInt8) (hc0 : b.length < 9223372036854775808) : FC Try.prog gl 4 [sl bC .no b] [] (.val (.bool true)) [] := fc4 (ok29 hgn  0) (show pu29 12 [] = some (.val (.bool true)) from by intros; rw [pu29, ext_miss (by decide)]; apply hit28 <;> (first | assumption | omega | (rename_i hh; first | exact hh.1 | exact hh.2 | exact hh.2.1 | exact hh.2.2 | exact hh.2.2.1 | exact hh.2.2.2 | exact hh.2.2.2.1 | exact hh.2.2.2.2))) (show ∀ b : List UInt8, b.length < 1099511627776 → pu29 24 [sl bC .no b] = some (.tup [.val (.int .i64 (getI b).1), .val (nI (getI b).2.1), .val (nI (getI b).2.2)]) from by intros; rw [pu29, ext_miss (by decide), pu28, ext_miss (by decide), pu27, ext_miss (by decide), pu26, ext_miss (by decide), pu25, ext_miss (by decide), pu24, ext_miss (by decide), pu23, ext_miss (by decide), pu22, ext_miss (by decide), pu21, ext_miss (by decide), pu20, ext_miss (by decide), pu19, ext_miss (by decide), pu18, ext_miss (by decide), pu17, ext_miss (by decide), pu16, ext_miss (by decide), pu15, ext_miss (by decide), pu14, ext_miss (by decide), pu13, ext_miss (by decide)]; apply hit12 <;> (first | assumption | omega | (rename_i hh; first | exact hh.1 | exact hh.2 | exact hh.2.1 | exact hh.2.2 | exact hh.2.2.1 | exact hh.2.2.2 | exact hh.2.2.2.1 | exact hh.2.2.2.2))) (show ∀ b : List UInt8, b.length < 1099511627776 → pu29 25 [sl bC .no b] = some (.tup [.val (.int .i64 (getI b).1), .val (nI (getI b).2.1), .val (nI (getI b).2.2)]) from by intros; rw [pu29, ext_miss (by decide), pu28, ext_miss (by decide), pu27, ext_miss (by decide), pu26, ext_miss (by decide), pu25, ext_miss (by decide), pu24, ext_miss (by decide), pu23, ext_miss (by decide), pu22, ext_miss (by decide), pu21, ext_miss (by decide), pu20, ext_miss (by decide), pu19, ext_miss (by decide), pu18, ext_miss (by decide), pu17, ext_miss (by decide), pu16, ext_miss (by decide), pu15, ext_miss (by decide), pu14, ext_miss (by decide)]; apply hit13 <;> (first | assumption | omega | (rename_i hh; first | exact hh.1 | exact hh.2 | exact hh.2.1 | exact hh.2.2 | exact hh.2.2.1 | exact hh.2.2.2 | exact hh.2.2.2.1 | exact hh.2.2.2.2))) (show ∀ b : List UInt8, b.length < 1099511627776 → pu29 26 [sl bC .no b] = some (.tup [.val (str (getB b).1), .val (nI (getB b).2.1), .val (nI (getB b).2.2)]) from by intros; rw [pu29, ext_miss (by decide), pu28, ext_miss (by decide), pu27, ext_miss (by decide), pu26, ext_miss (by decide), pu25, ext_miss (by decide), pu24, ext_miss (by decide), pu23, ext_miss (by decide), pu22, ext_miss (by decide), pu21, ext_miss (by decide), pu20, ext_miss (by decide), pu19, ext_miss (by decide), pu18, ext_miss (by decide), pu17, ext_miss (by decide)]; apply hit16 <;> (first | assumption | omega | (rename_i hh; first | exact hh.1 | exact hh.2 | exact hh.2.1 | exact hh.2.2 | exact hh.2.2.1 | exact hh.2.2.2 | exact hh.2.2.2.1 | exact hh.2.2.2.2))) (show ∀ b : List UInt8, b.length < 1099511627776 → pu29 27 [sl bC .no b] = some (.tup [.val (str (getB b).1), .val (nI (getB b).2.1), .val (nI (getB b).2.2)]) from by intros; rw [pu29, ext_miss (by decide), pu28, ext_miss (by decide), pu27, ext_miss (by decide), pu26, ext_miss (by decide), pu25, ext_miss (by decide), pu24, ext_miss (by decide), pu23, ext_miss (by decide), pu22, ext_miss (by decide), pu21, ext_miss (by decide), pu20, ext_miss (by decide), pu19, ext_miss (by decide), pu18, ext_miss (by decide)]; apply hit17 <;> (first | assumption | omega | (rename_i hh; first | exact hh.1 | exact hh.2 | exact hh.2.1 | exact hh.2.2 | exact hh.2.2.1 | exact hh.2.2.2 | exact hh.2.2.2.1 | exact hh.2.2.2.2))) (show ∀ b : List UInt8, b.length < 1099511627776 → pu29 28 [sl bC .no b] = some (.tup [sl iC .no (getL getI 1 b).1, .val (nI (getL getI 1 b).2.1), .val (nI (getL getI 1 b).2.2)]) from by intros; rw [pu29, ext_miss (by decide), pu28, ext_miss (by decide), pu27, ext_miss (by decide), pu26, ext_miss (by decide), pu25, ext_miss (by decide), pu24, ext_miss (by decide), pu23, ext_miss (by decide), pu22, ext_miss (by decide), pu21, ext_miss (by decide), pu20, ext_miss (by decide), pu19, ext_miss (by decide)]; apply hit18 <;> (first | assumption | omega | (rename_i hh; first | exact hh.1 | exact hh.2 | exact hh.2.1 | exact hh.2.2 | exact hh.2.2.1 | exact hh.2.2.2 | exact hh.2.2.2.1 | exact hh.2.2.2.2))) (show ∀ b : List UInt8, b.length < 1099511627776 → pu29 29 [sl bC .no b] = some (.tup [sl iC .no (getL getI 1 b).1, .val (nI (getL getI 1 b).2.1), .val (nI (getL getI 1 b).2.2)]) from by intros; rw [pu29, ext_miss (by decide), pu28, ext_miss (by decide), pu27, ext_miss (by decide), pu26, ext_miss (by decide), pu25, ext_miss (by decide), pu24, ext_miss (by decide), pu23, ext_miss (by decide), pu22, ext_miss (by decide), pu21, ext_miss (by decide), pu20, ext_miss (by decide)]; apply hit19 <;> (first | assumption | omega | (rename_i hh; first | exact hh.1 | exact hh.2 | exact hh.2.1 | exact hh.2.2 | exact hh.2.2.1 | exact hh.2.2.2 | exact hh.2.2.2.1 | exact hh.2.2.2.2))) (show ∀ x y : List Int, x.length < 9223372036854775807 → pu29 30 [sl iC .no x, sl iC .no y] = some (.val (.bool (decide (x = y)))) from by intros; rw [pu29, ext_miss (by decide), pu28, ext_miss (by decide), pu27, ext_miss (by decide), pu26, ext_miss (by decide), pu25, ext_miss (by decide), pu24, ext_miss (by decide), pu23, ext_miss (by decide), pu22, ext_miss (by decide), pu21, ext_miss (by decide)]; apply hit20 <;> (first | assumption | omega | (rename_i hh; first | exact hh.1 | exact hh.2 | exact hh.2.1 | exact hh.2.2 | exact hh.2.2.1 | exact hh.2.2.2 | exact hh.2.2.2.1 | exact hh.2.2.2.2))) (show ∀ b : List UInt8, b.length < 1099511627776 → pu29 31 [sl bC .no b] = some (.tup [sl sC .no (getL getB 1 b).1, .val (nI (getL getB 1 b).2.1), .val (nI (getL getB 1 b).2.2)]) from by intros; rw [pu29, ext_miss (by decide), pu28, ext_miss (by decide), pu27, ext_miss (by decide), pu26, ext_miss (by decide), pu25, ext_miss (by decide), pu24, ext_miss (by decide), pu23, ext_miss (by decide), pu22, ext_miss (by decide)]; apply hit21 <;> (first | assumption | omega | (rename_i hh; first | exact hh.1 | exact hh.2 | exact hh.2.1 | exact hh.2.2 | exact hh.2.2.1 | exact hh.2.2.2 | exact hh.2.2.2.1 | exact hh.2.2.2.2))) (show ∀ b : List UInt8, b.length < 1099511627776 → pu29 32 [sl bC .no b] = some (.tup [sl sC .no (getL getB 1 b).1, .val (nI (getL getB 1 b).2.1), .val (nI (getL getB 1 b).2.2)]) from by intros; rw [pu29, ext_miss (by decide), pu28, ext_miss (by decide), pu27, ext_miss (by decide), pu26, ext_miss (by decide), pu25, ext_miss (by decide), pu24, ext_miss (by decide), pu23, ext_miss (by decide)]; apply hit22 <;> (first | assumption | omega | (rename_i hh; first | exact hh.1 | exact hh.2 | exact hh.2.1 | exact hh.2.2 | exact hh.2.2.1 | exact hh.2.2.2 | exact hh.2.2.2.1 | exact hh.2.2.2.2))) (show ∀ x y : List (List UInt8), x.length < 9223372036854775807 → pu29 33 [sl sC .no x, sl sC .no y] = some (.val (.bool (decide (x = y)))) from by intros; rw [pu29, ext_miss (by decide), pu28, ext_miss (by decide), pu27, ext_miss (by decide), pu26, ext_miss (by decide), pu25, ext_miss (by decide), pu24, ext_miss (by decide)]; apply hit23 <;> (first | assumption | omega | (rename_i hh; first | exact hh.1 | exact hh.2 | exact hh.2.1 | exact hh.2.2 | exact hh.2.2.1 | exact hh.2.2.2 | exact hh.2.2.2.1 | exact hh.2.2.2.2))) (show ∀ b : List UInt8, b.length < 1099511627776 → pu29 34 [sl bC .no b] = some (.tup [sl dC .no (getL getD1 16 b).1, .val (nI (getL getD1 16 b).2.1), .val (nI (getL getD1 16 b).2.2)]) from by intros; rw [pu29, ext_miss (by decide), pu28, ext_miss (by decide), pu27, ext_miss (by decide), pu26, ext_miss (by decide), pu25, ext_miss (by decide)]; apply hit24 <;> (first | assumption | omega | (rename_i hh; first | exact hh.1 | exact hh.2 | exact hh.2.1 | exact hh.2.2 | exact hh.2.2.1 | exact hh.2.2.2 | exact hh.2.2.2.1 | exact hh.2.2.2.2))) (show ∀ b : List UInt8, b.length < 1099511627776 → pu29 35 [sl bC .no b] = some (.tup [sl dC .no (getL getD1 16 b).1, .val (nI (getL getD1 16 b).2.1), .val (nI (getL getD1 16 b).2.2)]) from by intros; rw [pu29, ext_miss (by decide), pu28, ext_miss (by decide), pu27, ext_miss (by decide), pu26, ext_miss (by decide)]; apply hit25 <;> (first | assumption | omega | (rename_i hh; first | exact hh.1 | exact hh.2 | exact hh.2.1 | exact hh.2.2 | exact hh.2.2.1 | exact hh.2.2.2 | exact hh.2.2.2.1 | exact hh.2.2.2.2))) (show ∀ x y : List Dig, x.length < 9223372036854775807 → pu29 36 [sl dC .no x, sl dC .no y] = some (.val (.bool (decide (x = y)))) from by intros; rw [pu29, ext_miss (by decide), pu28, ext_miss (by decide), pu27, ext_miss (by decide)]; apply hit26 <;> (first | assumption | omega | (rename_i hh; first | exact hh.1 | exact hh.2 | exact hh.2.1 | exact hh.2.2 | exact hh.2.2.1 | exact hh.2.2.2 | exact hh.2.2.2.1 | exact hh.2.2.2.2))) (b) hc0

theorem law5 {gl : Nat → C} (hgn : ∀ g, noRef 0 (gl g) = true)  (m : Int) (n : Int) (hc0 : -9223372036854775808 ≤ m ∧ m ≤ 9223372036854775807) (hc1 : -9223372036854775808 ≤ n ∧ n ≤ 9223372036854775807) : FC Try.prog gl 5 [.val (.int .i64 m), .val (.int .i64 n)] [] (.val (.bool true)) [] := fc5 (ok29 hgn  0) (show pu29 12 [] = some (.val (.bool true)) from by intros; rw [pu29, ext_miss (by decide)]; apply hit28 <;> (first | assumption | omega | (rename_i hh; first | exact hh.1 | exact hh.2 | exact hh.2.1 | exact hh.2.2 | exact hh.2.2.1 | exact hh.2.2.2 | exact hh.2.2.2.1 | exact hh.2.2.2.2))) (show ∀ n : Int, -9223372036854775808 ≤ n ∧ n ≤ 9223372036854775807 → pu29 14 [.val (.int .i64 n)] = some (sl bC (.own 1) (wint n)) from by intros; rw [pu29, ext_miss (by decide), pu28, ext_miss (by decide), pu27, ext_miss (by decide), pu26, ext_miss (by decide), pu25, ext_miss (by decide), pu24, ext_miss (by decide), pu23, ext_miss (by decide), pu22, ext_miss (by decide), pu21, ext_miss (by decide), pu20, ext_miss (by decide), pu19, ext_miss (by decide), pu18, ext_miss (by decide), pu17, ext_miss (by decide), pu16, ext_miss (by decide), pu15, ext_miss (by decide), pu14, ext_miss (by decide), pu13, ext_miss (by decide), pu12, ext_miss (by decide), pu11, ext_miss (by decide), pu10, ext_miss (by decide), pu9, ext_miss (by decide), pu8, ext_miss (by decide), pu7, ext_miss (by decide), pu6, ext_miss (by decide), pu5, ext_miss (by decide), pu4, ext_miss (by decide), pu3, ext_miss (by decide)]; apply hit2 <;> (first | assumption | omega | (rename_i hh; first | exact hh.1 | exact hh.2 | exact hh.2.1 | exact hh.2.2 | exact hh.2.2.1 | exact hh.2.2.2 | exact hh.2.2.2.1 | exact hh.2.2.2.2))) (m) (n) hc0 hc1

theorem law6 {gl : Nat → C} (hgn : ∀ g, noRef 0 (gl g) = true)  (n : Int) (t : List UInt8) (hc0 : -9223372036854775808 ≤ n ∧ n ≤ 9223372036854775807) (hc1 : t.length < 9223372036854775808) : FC Try.prog gl 6 [.val (.int .i64 n), sl bC .no t] [] (.val (.bool true)) [] := fc6 (ok29 hgn  0) (show pu29 12 [] = some (.val (.bool true)) from by intros; rw [pu29, ext_miss (by decide)]; apply hit28 <;> (first | assumption | omega | (rename_i hh; first | exact hh.1 | exact hh.2 | exact hh.2.1 | exact hh.2.2 | exact hh.2.2.1 | exact hh.2.2.2 | exact hh.2.2.2.1 | exact hh.2.2.2.2))) (show ∀ n : Int, -9223372036854775808 ≤ n ∧ n ≤ 9223372036854775807 → pu29 14 [.val (.int .i64 n)] = some (sl bC (.own 1) (wint n)) from by intros; rw [pu29, ext_miss (by decide), pu28, ext_miss (by decide), pu27, ext_miss (by decide), pu26, ext_miss (by decide), pu25, ext_miss (by decide), pu24, ext_miss (by decide), pu23, ext_miss (by decide), pu22, ext_miss (by decide), pu21, ext_miss (by decide), pu20, ext_miss (by decide), pu19, ext_miss (by decide), pu18, ext_miss (by decide), pu17, ext_miss (by decide), pu16, ext_miss (by decide), pu15, ext_miss (by decide), pu14, ext_miss (by decide), pu13, ext_miss (by decide), pu12, ext_miss (by decide), pu11, ext_miss (by decide), pu10, ext_miss (by decide), pu9, ext_miss (by decide), pu8, ext_miss (by decide), pu7, ext_miss (by decide), pu6, ext_miss (by decide), pu5, ext_miss (by decide), pu4, ext_miss (by decide), pu3, ext_miss (by decide)]; apply hit2 <;> (first | assumption | omega | (rename_i hh; first | exact hh.1 | exact hh.2 | exact hh.2.1 | exact hh.2.2 | exact hh.2.2.1 | exact hh.2.2.2 | exact hh.2.2.2.1 | exact hh.2.2.2.2))) (show ∀ b : List UInt8, b.length < 1099511627776 → pu29 24 [sl bC .no b] = some (.tup [.val (.int .i64 (getI b).1), .val (nI (getI b).2.1), .val (nI (getI b).2.2)]) from by intros; rw [pu29, ext_miss (by decide), pu28, ext_miss (by decide), pu27, ext_miss (by decide), pu26, ext_miss (by decide), pu25, ext_miss (by decide), pu24, ext_miss (by decide), pu23, ext_miss (by decide), pu22, ext_miss (by decide), pu21, ext_miss (by decide), pu20, ext_miss (by decide), pu19, ext_miss (by decide), pu18, ext_miss (by decide), pu17, ext_miss (by decide), pu16, ext_miss (by decide), pu15, ext_miss (by decide), pu14, ext_miss (by decide), pu13, ext_miss (by decide)]; apply hit12 <;> (first | assumption | omega | (rename_i hh; first | exact hh.1 | exact hh.2 | exact hh.2.1 | exact hh.2.2 | exact hh.2.2.1 | exact hh.2.2.2 | exact hh.2.2.2.1 | exact hh.2.2.2.2))) (n) (t) hc0 hc1

theorem law7 {gl : Nat → C} (hgn : ∀ g, noRef 0 (gl g) = true)  (b : List UInt8) (hc0 : b.length < 9223372036854775808) : FC Try.prog gl 7 [sl bC .no b] [] (.val (.bool true)) [] := fc7 (ok29 hgn  0) (show pu29 12 [] = some (.val (.bool true)) from by intros; rw [pu29, ext_miss (by decide)]; apply hit28 <;> (first | assumption | omega | (rename_i hh; first | exact hh.1 | exact hh.2 | exact hh.2.1 | exact hh.2.2 | exact hh.2.2.1 | exact hh.2.2.2 | exact hh.2.2.2.1 | exact hh.2.2.2.2))) (show ∀ n : Int, -9223372036854775808 ≤ n ∧ n ≤ 9223372036854775807 → pu29 14 [.val (.int .i64 n)] = some (sl bC (.own 1) (wint n)) from by intros; rw [pu29, ext_miss (by decide), pu28, ext_miss (by decide), pu27, ext_miss (by decide), pu26, ext_miss (by decide), pu25, ext_miss (by decide), pu24, ext_miss (by decide), pu23, ext_miss (by decide), pu22, ext_miss (by decide), pu21, ext_miss (by decide), pu20, ext_miss (by decide), pu19, ext_miss (by decide), pu18, ext_miss (by decide), pu17, ext_miss (by decide), pu16, ext_miss (by decide), pu15, ext_miss (by decide), pu14, ext_miss (by decide), pu13, ext_miss (by decide), pu12, ext_miss (by decide), pu11, ext_miss (by decide), pu10, ext_miss (by decide), pu9, ext_miss (by decide), pu8, ext_miss (by decide), pu7, ext_miss (by decide), pu6, ext_miss (by decide), pu5, ext_miss (by decide), pu4, ext_miss (by decide), pu3, ext_miss (by decide)]; apply hit2 <;> (first | assumption | omega | (rename_i hh; first | exact hh.1 | exact hh.2 | exact hh.2.1 | exact hh.2.2 | exact hh.2.2.1 | exact hh.2.2.2 | exact hh.2.2.2.1 | exact hh.2.2.2.2))) (show ∀ s : List UInt8, s.length < 70368744177664 → pu29 16 [.val (str s)] = some (sl bC (.own 1) (wb s)) from by intros; rw [pu29, ext_miss (by decide), pu28, ext_miss (by decide), pu27, ext_miss (by decide), pu26, ext_miss (by decide), pu25, ext_miss (by decide), pu24, ext_miss (by decide), pu23, ext_miss (by decide), pu22, ext_miss (by decide), pu21, ext_miss (by decide), pu20, ext_miss (by decide), pu19, ext_miss (by decide), pu18, ext_miss (by decide), pu17, ext_miss (by decide), pu16, ext_miss (by decide), pu15, ext_miss (by decide), pu14, ext_miss (by decide), pu13, ext_miss (by decide), pu12, ext_miss (by decide), pu11, ext_miss (by decide), pu10, ext_miss (by decide), pu9, ext_miss (by decide), pu8, ext_miss (by decide), pu7, ext_miss (by decide), pu6, ext_miss (by decide), pu5, ext_miss (by decide)]; apply hit4 <;> (first | assumption | omega | (rename_i hh; first | exact hh.1 | exact hh.2 | exact hh.2.1 | exact hh.2.2 | exact hh.2.2.1 | exact hh.2.2.2 | exact hh.2.2.2.1 | exact hh.2.2.2.2))) (show ∀ l : List Int, l.length < 1099511627776 ∧ (∀ x ∈ l, -9223372036854775808 ≤ x ∧ x ≤ 9223372036854775807) → pu29 18 [sl iC .no l] = some (sl bC (.own 1) (wInts l)) from by intros; rw [pu29, ext_miss (by decide), pu28, ext_miss (by decide), pu27, ext_miss (by decide), pu26, ext_miss (by decide), pu25, ext_miss (by decide), pu24, ext_miss (by decide), pu23, ext_miss (by decide), pu22, ext_miss (by decide), pu21, ext_miss (by decide), pu20, ext_miss (by decide), pu19, ext_miss (by decide), pu18, ext_miss (by decide), pu17, ext_miss (by decide), pu16, ext_miss (by decide), pu15, ext_miss (by decide), pu14, ext_miss (by decide), pu13, ext_miss (by decide), pu12, ext_miss (by decide), pu11, ext_miss (by decide), pu10, ext_miss (by decide), pu9, ext_miss (by decide), pu8, ext_miss (by decide), pu7, ext_miss (by decide)]; apply hit6 <;> (first | assumption | omega | (rename_i hh; first | exact hh.1 | exact hh.2 | exact hh.2.1 | exact hh.2.2 | exact hh.2.2.1 | exact hh.2.2.2 | exact hh.2.2.2.1 | exact hh.2.2.2.2))) (show ∀ l : List (List UInt8), l.length < 1099511627776 ∧ l.flatten.length < 1099511627776 → pu29 20 [sl sC .no l] = some (sl bC (.own 1) (wStrs l)) from by intros; rw [pu29, ext_miss (by decide), pu28, ext_miss (by decide), pu27, ext_miss (by decide), pu26, ext_miss (by decide), pu25, ext_miss (by decide), pu24, ext_miss (by decide), pu23, ext_miss (by decide), pu22, ext_miss (by decide), pu21, ext_miss (by decide), pu20, ext_miss (by decide), pu19, ext_miss (by decide), pu18, ext_miss (by decide), pu17, ext_miss (by decide), pu16, ext_miss (by decide), pu15, ext_miss (by decide), pu14, ext_miss (by decide), pu13, ext_miss (by decide), pu12, ext_miss (by decide), pu11, ext_miss (by decide), pu10, ext_miss (by decide), pu9, ext_miss (by decide)]; apply hit8 <;> (first | assumption | omega | (rename_i hh; first | exact hh.1 | exact hh.2 | exact hh.2.1 | exact hh.2.2 | exact hh.2.2.1 | exact hh.2.2.2 | exact hh.2.2.2.1 | exact hh.2.2.2.2))) (show ∀ l : List Dig, l.length < 1099511627776 → pu29 22 [sl dC .no l] = some (sl bC (.own 1) (wDigs l)) from by intros; rw [pu29, ext_miss (by decide), pu28, ext_miss (by decide), pu27, ext_miss (by decide), pu26, ext_miss (by decide), pu25, ext_miss (by decide), pu24, ext_miss (by decide), pu23, ext_miss (by decide), pu22, ext_miss (by decide), pu21, ext_miss (by decide), pu20, ext_miss (by decide), pu19, ext_miss (by decide), pu18, ext_miss (by decide), pu17, ext_miss (by decide), pu16, ext_miss (by decide), pu15, ext_miss (by decide), pu14, ext_miss (by decide), pu13, ext_miss (by decide), pu12, ext_miss (by decide), pu11, ext_miss (by decide)]; apply hit10 <;> (first | assumption | omega | (rename_i hh; first | exact hh.1 | exact hh.2 | exact hh.2.1 | exact hh.2.2 | exact hh.2.2.1 | exact hh.2.2.2 | exact hh.2.2.2.1 | exact hh.2.2.2.2))) (show ∀ b : List UInt8, b.length < 1099511627776 → pu29 24 [sl bC .no b] = some (.tup [.val (.int .i64 (getI b).1), .val (nI (getI b).2.1), .val (nI (getI b).2.2)]) from by intros; rw [pu29, ext_miss (by decide), pu28, ext_miss (by decide), pu27, ext_miss (by decide), pu26, ext_miss (by decide), pu25, ext_miss (by decide), pu24, ext_miss (by decide), pu23, ext_miss (by decide), pu22, ext_miss (by decide), pu21, ext_miss (by decide), pu20, ext_miss (by decide), pu19, ext_miss (by decide), pu18, ext_miss (by decide), pu17, ext_miss (by decide), pu16, ext_miss (by decide), pu15, ext_miss (by decide), pu14, ext_miss (by decide), pu13, ext_miss (by decide)]; apply hit12 <;> (first | assumption | omega | (rename_i hh; first | exact hh.1 | exact hh.2 | exact hh.2.1 | exact hh.2.2 | exact hh.2.2.1 | exact hh.2.2.2 | exact hh.2.2.2.1 | exact hh.2.2.2.2))) (show ∀ b : List UInt8, b.length < 1099511627776 → pu29 26 [sl bC .no b] = some (.tup [.val (str (getB b).1), .val (nI (getB b).2.1), .val (nI (getB b).2.2)]) from by intros; rw [pu29, ext_miss (by decide), pu28, ext_miss (by decide), pu27, ext_miss (by decide), pu26, ext_miss (by decide), pu25, ext_miss (by decide), pu24, ext_miss (by decide), pu23, ext_miss (by decide), pu22, ext_miss (by decide), pu21, ext_miss (by decide), pu20, ext_miss (by decide), pu19, ext_miss (by decide), pu18, ext_miss (by decide), pu17, ext_miss (by decide)]; apply hit16 <;> (first | assumption | omega | (rename_i hh; first | exact hh.1 | exact hh.2 | exact hh.2.1 | exact hh.2.2 | exact hh.2.2.1 | exact hh.2.2.2 | exact hh.2.2.2.1 | exact hh.2.2.2.2))) (show ∀ b : List UInt8, b.length < 1099511627776 → pu29 28 [sl bC .no b] = some (.tup [sl iC .no (getL getI 1 b).1, .val (nI (getL getI 1 b).2.1), .val (nI (getL getI 1 b).2.2)]) from by intros; rw [pu29, ext_miss (by decide), pu28, ext_miss (by decide), pu27, ext_miss (by decide), pu26, ext_miss (by decide), pu25, ext_miss (by decide), pu24, ext_miss (by decide), pu23, ext_miss (by decide), pu22, ext_miss (by decide), pu21, ext_miss (by decide), pu20, ext_miss (by decide), pu19, ext_miss (by decide)]; apply hit18 <;> (first | assumption | omega | (rename_i hh; first | exact hh.1 | exact hh.2 | exact hh.2.1 | exact hh.2.2 | exact hh.2.2.1 | exact hh.2.2.2 | exact hh.2.2.2.1 | exact hh.2.2.2.2))) (show ∀ b : List UInt8, b.length < 1099511627776 → pu29 31 [sl bC .no b] = some (.tup [sl sC .no (getL getB 1 b).1, .val (nI (getL getB 1 b).2.1), .val (nI (getL getB 1 b).2.2)]) from by intros; rw [pu29, ext_miss (by decide), pu28, ext_miss (by decide), pu27, ext_miss (by decide), pu26, ext_miss (by decide), pu25, ext_miss (by decide), pu24, ext_miss (by decide), pu23, ext_miss (by decide), pu22, ext_miss (by decide)]; apply hit21 <;> (first | assumption | omega | (rename_i hh; first | exact hh.1 | exact hh.2 | exact hh.2.1 | exact hh.2.2 | exact hh.2.2.1 | exact hh.2.2.2 | exact hh.2.2.2.1 | exact hh.2.2.2.2))) (show ∀ b : List UInt8, b.length < 1099511627776 → pu29 34 [sl bC .no b] = some (.tup [sl dC .no (getL getD1 16 b).1, .val (nI (getL getD1 16 b).2.1), .val (nI (getL getD1 16 b).2.2)]) from by intros; rw [pu29, ext_miss (by decide), pu28, ext_miss (by decide), pu27, ext_miss (by decide), pu26, ext_miss (by decide), pu25, ext_miss (by decide)]; apply hit24 <;> (first | assumption | omega | (rename_i hh; first | exact hh.1 | exact hh.2 | exact hh.2.1 | exact hh.2.2 | exact hh.2.2.1 | exact hh.2.2.2 | exact hh.2.2.2.1 | exact hh.2.2.2.2))) (show ∀ (c : List UInt8) (u e : Nat) (b : List UInt8), b.length < 1099511627776 ∧ c.length < 1099511627776 ∧ (e = 0 → u ≤ b.length ∧ b.take u = c) → pu29 37 [sl bC .no c, .val (nI u), .val (nI e), .kp [sl bC .no b]] = some (.val (.bool true)) from by intros; apply hit29 <;> (first | assumption | omega | (rename_i hh; first | exact hh.1 | exact hh.2 | exact hh.2.1 | exact hh.2.2 | exact hh.2.2.1 | exact hh.2.2.2 | exact hh.2.2.2.1 | exact hh.2.2.2.2))) hno29 (b) hc0

theorem law8 {gl : Nat → C} (hgn : ∀ g, noRef 0 (gl g) = true)  (s : List UInt8) (l : List Int) (x : List (List UInt8)) (d : List Dig) (t : List UInt8) (hc0 : s.length < 1152921504606846976) (hc1 : l.length < 1152921504606846976) (hc2 : d.length < 1152921504606846976) (hc3 : t.length < 1152921504606846976) (hc4 : x.length + x.flatten.length < 9223372036854775807) (hc5 : ∀ x ∈ l, -9223372036854775808 ≤ x ∧ x ≤ 9223372036854775807) : FC Try.prog gl 8 [.val (str s), sl iC .no l, sl sC .no x, sl dC .no d, sl bC .no t] [] (.val (.bool true)) [] := fc8 (ok29 hgn  0) (show ∀ l : List (List UInt8), l.length + l.flatten.length < 9223372036854775807 → pu29 11 [sl sC .no l] = some (.val (.bool (decide (l.length + l.flatten.length ≤ 2000)))) from by intros; rw [pu29, ext_miss (by decide), pu28, ext_miss (by decide)]; apply hit27 <;> (first | assumption | omega | (rename_i hh; first | exact hh.1 | exact hh.2 | exact hh.2.1 | exact hh.2.2 | exact hh.2.2.1 | exact hh.2.2.2 | exact hh.2.2.2.1 | exact hh.2.2.2.2))) (show pu29 12 [] = some (.val (.bool true)) from by intros; rw [pu29, ext_miss (by decide)]; apply hit28 <;> (first | assumption | omega | (rename_i hh; first | exact hh.1 | exact hh.2 | exact hh.2.1 | exact hh.2.2 | exact hh.2.2.1 | exact hh.2.2.2 | exact hh.2.2.2.1 | exact hh.2.2.2.2))) (show ∀ s : List UInt8, s.length < 70368744177664 → pu29 16 [.val (str s)] = some (sl bC (.own 1) (wb s)) from by intros; rw [pu29, ext_miss (by decide), pu28, ext_miss (by decide), pu27, ext_miss (by decide), pu26, ext_miss (by decide), pu25, ext_miss (by decide), pu24, ext_miss (by decide), pu23, ext_miss (by decide), pu22, ext_miss (by decide), pu21, ext_miss (by decide), pu20, ext_miss (by decide), pu19, ext_miss (by decide), pu18, ext_miss (by decide), pu17, ext_miss (by decide), pu16, ext_miss (by decide), pu15, ext_miss (by decide), pu14, ext_miss (by decide), pu13, ext_miss (by decide), pu12, ext_miss (by decide), pu11, ext_miss (by decide), pu10, ext_miss (by decide), pu9, ext_miss (by decide), pu8, ext_miss (by decide), pu7, ext_miss (by decide), pu6, ext_miss (by decide), pu5, ext_miss (by decide)]; apply hit4 <;> (first | assumption | omega | (rename_i hh; first | exact hh.1 | exact hh.2 | exact hh.2.1 | exact hh.2.2 | exact hh.2.2.1 | exact hh.2.2.2 | exact hh.2.2.2.1 | exact hh.2.2.2.2))) (show ∀ l : List Int, l.length < 1099511627776 ∧ (∀ x ∈ l, -9223372036854775808 ≤ x ∧ x ≤ 9223372036854775807) → pu29 18 [sl iC .no l] = some (sl bC (.own 1) (wInts l)) from by intros; rw [pu29, ext_miss (by decide), pu28, ext_miss (by decide), pu27, ext_miss (by decide), pu26, ext_miss (by decide), pu25, ext_miss (by decide), pu24, ext_miss (by decide), pu23, ext_miss (by decide), pu22, ext_miss (by decide), pu21, ext_miss (by decide), pu20, ext_miss (by decide), pu19, ext_miss (by decide), pu18, ext_miss (by decide), pu17, ext_miss (by decide), pu16, ext_miss (by decide), pu15, ext_miss (by decide), pu14, ext_miss (by decide), pu13, ext_miss (by decide), pu12, ext_miss (by decide), pu11, ext_miss (by decide), pu10, ext_miss (by decide), pu9, ext_miss (by decide), pu8, ext_miss (by decide), pu7, ext_miss (by decide)]; apply hit6 <;> (first | assumption | omega | (rename_i hh; first | exact hh.1 | exact hh.2 | exact hh.2.1 | exact hh.2.2 | exact hh.2.2.1 | exact hh.2.2.2 | exact hh.2.2.2.1 | exact hh.2.2.2.2))) (show ∀ l : List (List UInt8), l.length < 1099511627776 ∧ l.flatten.length < 1099511627776 → pu29 20 [sl sC .no l] = some (sl bC (.own 1) (wStrs l)) from by intros; rw [pu29, ext_miss (by decide), pu28, ext_miss (by decide), pu27, ext_miss (by decide), pu26, ext_miss (by decide), pu25, ext_miss (by decide), pu24, ext_miss (by decide), pu23, ext_miss (by decide), pu22, ext_miss (by decide), pu21, ext_miss (by decide), pu20, ext_miss (by decide), pu19, ext_miss (by decide), pu18, ext_miss (by decide), pu17, ext_miss (by decide), pu16, ext_miss (by decide), pu15, ext_miss (by decide), pu14, ext_miss (by decide), pu13, ext_miss (by decide), pu12, ext_miss (by decide), pu11, ext_miss (by decide), pu10, ext_miss (by decide), pu9, ext_miss (by decide)]; apply hit8 <;> (first | assumption | omega | (rename_i hh; first | exact hh.1 | exact hh.2 | exact hh.2.1 | exact hh.2.2 | exact hh.2.2.1 | exact hh.2.2.2 | exact hh.2.2.2.1 | exact hh.2.2.2.2))) (show ∀ l : List Dig, l.length < 1099511627776 → pu29 22 [sl dC .no l] = some (sl bC (.own 1) (wDigs l)) from by intros; rw [pu29, ext_miss (by decide), pu28, ext_miss (by decide), pu27, ext_miss (by decide), pu26, ext_miss (by decide), pu25, ext_miss (by decide), pu24, ext_miss (by decide), pu23, ext_miss (by decide), pu22, ext_miss (by decide), pu21, ext_miss (by decide), pu20, ext_miss (by decide), pu19, ext_miss (by decide), pu18, ext_miss (by decide), pu17, ext_miss (by decide), pu16, ext_miss (by decide), pu15, ext_miss (by decide), pu14, ext_miss (by decide), pu13, ext_miss (by decide), pu12, ext_miss (by decide), pu11, ext_miss (by decide)]; apply hit10 <;> (first | assumption | omega | (rename_i hh; first | exact hh.1 | exact hh.2 | exact hh.2.1 | exact hh.2.2 | exact hh.2.2.1 | exact hh.2.2.2 | exact hh.2.2.2.1 | exact hh.2.2.2.2))) (show ∀ b : List UInt8, b.length < 1099511627776 → pu29 26 [sl bC .no b] = some (.tup [.val (str (getB b).1), .val (nI (getB b).2.1), .val (nI (getB b).2.2)]) from by intros; rw [pu29, ext_miss (by decide), pu28, ext_miss (by decide), pu27, ext_miss (by decide), pu26, ext_miss (by decide), pu25, ext_miss (by decide), pu24, ext_miss (by decide), pu23, ext_miss (by decide), pu22, ext_miss (by decide), pu21, ext_miss (by decide), pu20, ext_miss (by decide), pu19, ext_miss (by decide), pu18, ext_miss (by decide), pu17, ext_miss (by decide)]; apply hit16 <;> (first | assumption | omega | (rename_i hh; first | exact hh.1 | exact hh.2 | exact hh.2.1 | exact hh.2.2 | exact hh.2.2.1 | exact hh.2.2.2 | exact hh.2.2.2.1 | exact hh.2.2.2.2))) (show ∀ b : List UInt8, b.length < 1099511627776 → pu29 28 [sl bC .no b] = some (.tup [sl iC .no (getL getI 1 b).1, .val (nI (getL getI 1 b).2.1), .val (nI (getL getI 1 b).2.2)]) from by intros; rw [pu29, ext_miss (by decide), pu28, ext_miss (by decide), pu27, ext_miss (by decide), pu26, ext_miss (by decide), pu25, ext_miss (by decide), pu24, ext_miss (by decide), pu23, ext_miss (by decide), pu22, ext_miss (by decide), pu21, ext_miss (by decide), pu20, ext_miss (by decide), pu19, ext_miss (by decide)]; apply hit18 <;> (first | assumption | omega | (rename_i hh; first | exact hh.1 | exact hh.2 | exact hh.2.1 | exact hh.2.2 | exact hh.2.2.1 | exact hh.2.2.2 | exact hh.2.2.2.1 | exact hh.2.2.2.2))) (show ∀ x y : List Int, x.length < 9223372036854775807 → pu29 30 [sl iC .no x, sl iC .no y] = some (.val (.bool (decide (x = y)))) from by intros; rw [pu29, ext_miss (by decide), pu28, ext_miss (by decide), pu27, ext_miss (by decide), pu26, ext_miss (by decide), pu25, ext_miss (by decide), pu24, ext_miss (by decide), pu23, ext_miss (by decide), pu22, ext_miss (by decide), pu21, ext_miss (by decide)]; apply hit20 <;> (first | assumption | omega | (rename_i hh; first | exact hh.1 | exact hh.2 | exact hh.2.1 | exact hh.2.2 | exact hh.2.2.1 | exact hh.2.2.2 | exact hh.2.2.2.1 | exact hh.2.2.2.2))) (show ∀ b : List UInt8, b.length < 1099511627776 → pu29 31 [sl bC .no b] = some (.tup [sl sC .no (getL getB 1 b).1, .val (nI (getL getB 1 b).2.1), .val (nI (getL getB 1 b).2.2)]) from by intros; rw [pu29, ext_miss (by decide), pu28, ext_miss (by decide), pu27, ext_miss (by decide), pu26, ext_miss (by decide), pu25, ext_miss (by decide), pu24, ext_miss (by decide), pu23, ext_miss (by decide), pu22, ext_miss (by decide)]; apply hit21 <;> (first | assumption | omega | (rename_i hh; first | exact hh.1 | exact hh.2 | exact hh.2.1 | exact hh.2.2 | exact hh.2.2.1 | exact hh.2.2.2 | exact hh.2.2.2.1 | exact hh.2.2.2.2))) (show ∀ x y : List (List UInt8), x.length < 9223372036854775807 → pu29 33 [sl sC .no x, sl sC .no y] = some (.val (.bool (decide (x = y)))) from by intros; rw [pu29, ext_miss (by decide), pu28, ext_miss (by decide), pu27, ext_miss (by decide), pu26, ext_miss (by decide), pu25, ext_miss (by decide), pu24, ext_miss (by decide)]; apply hit23 <;> (first | assumption | omega | (rename_i hh; first | exact hh.1 | exact hh.2 | exact hh.2.1 | exact hh.2.2 | exact hh.2.2.1 | exact hh.2.2.2 | exact hh.2.2.2.1 | exact hh.2.2.2.2))) (show ∀ b : List UInt8, b.length < 1099511627776 → pu29 34 [sl bC .no b] = some (.tup [sl dC .no (getL getD1 16 b).1, .val (nI (getL getD1 16 b).2.1), .val (nI (getL getD1 16 b).2.2)]) from by intros; rw [pu29, ext_miss (by decide), pu28, ext_miss (by decide), pu27, ext_miss (by decide), pu26, ext_miss (by decide), pu25, ext_miss (by decide)]; apply hit24 <;> (first | assumption | omega | (rename_i hh; first | exact hh.1 | exact hh.2 | exact hh.2.1 | exact hh.2.2 | exact hh.2.2.1 | exact hh.2.2.2 | exact hh.2.2.2.1 | exact hh.2.2.2.2))) (show ∀ x y : List Dig, x.length < 9223372036854775807 → pu29 36 [sl dC .no x, sl dC .no y] = some (.val (.bool (decide (x = y)))) from by intros; rw [pu29, ext_miss (by decide), pu28, ext_miss (by decide), pu27, ext_miss (by decide)]; apply hit26 <;> (first | assumption | omega | (rename_i hh; first | exact hh.1 | exact hh.2 | exact hh.2.1 | exact hh.2.2 | exact hh.2.2.1 | exact hh.2.2.2 | exact hh.2.2.2.1 | exact hh.2.2.2.2))) (s) (l) (x) (d) (t) hc0 hc1 hc2 hc3 hc4 hc5

theorem law9 {gl : Nat → C} (hgn : ∀ g, noRef 0 (gl g) = true)  (n : Int) (s : List UInt8) (l : List Int) (x : List (List UInt8)) (d : List Dig) (hc0 : -9223372036854775808 ≤ n ∧ n ≤ 9223372036854775807) (hc1 : s.length ≤ 140737488351232) (hc2 : l.length ≤ 140737488351232) (hc3 : d.length ≤ 140737488351232) (hc4 : x.length ≤ 40 → x.length + x.flatten.length < 9223372036854775807) (hc5 : ∀ x ∈ l, -9223372036854775808 ≤ x ∧ x ≤ 9223372036854775807) : FC Try.prog gl 9 [.val (.int .i64 n), .val (str s), sl iC .no l, sl sC .no x, sl dC .no d] [] (.val (.bool true)) [] := fc9 (ok29 hgn  0) (show ∀ l : List (List UInt8), l.length + l.flatten.length < 9223372036854775807 → pu29 11 [sl sC .no l] = some (.val (.bool (decide (l.length + l.flatten.length ≤ 2000)))) from by intros; rw [pu29, ext_miss (by decide), pu28, ext_miss (by decide)]; apply hit27 <;> (first | assumption | omega | (rename_i hh; first | exact hh.1 | exact hh.2 | exact hh.2.1 | exact hh.2.2 | exact hh.2.2.1 | exact hh.2.2.2 | exact hh.2.2.2.1 | exact hh.2.2.2.2))) (show pu29 12 [] = some (.val (.bool true)) from by intros; rw [pu29, ext_miss (by decide)]; apply hit28 <;> (first | assumption | omega | (rename_i hh; first | exact hh.1 | exact hh.2 | exact hh.2.1 | exact hh.2.2 | exact hh.2.2.1 | exact hh.2.2.2 | exact hh.2.2.2.1 | exact hh.2.2.2.2))) (show ∀ n : Int, -9223372036854775808 ≤ n ∧ n ≤ 9223372036854775807 → pu29 14 [.val (.int .i64 n)] = some (sl bC (.own 1) (wint n)) from by intros; rw [pu29, ext_miss (by decide), pu28, ext_miss (by decide), pu27, ext_miss (by decide), pu26, ext_miss (by decide), pu25, ext_miss (by decide), pu24, ext_miss (by decide), pu23, ext_miss (by decide), pu22, ext_miss (by decide), pu21, ext_miss (by decide), pu20, ext_miss (by decide), pu19, ext_miss (by decide), pu18, ext_miss (by decide), pu17, ext_miss (by decide), pu16, ext_miss (by decide), pu15, ext_miss (by decide), pu14, ext_miss (by decide), pu13, ext_miss (by decide), pu12, ext_miss (by decide), pu11, ext_miss (by decide), pu10, ext_miss (by decide), pu9, ext_miss (by decide), pu8, ext_miss (by decide), pu7, ext_miss (by decide), pu6, ext_miss (by decide), pu5, ext_miss (by decide), pu4, ext_miss (by decide), pu3, ext_miss (by decide)]; apply hit2 <;> (first | assumption | omega | (rename_i hh; first | exact hh.1 | exact hh.2 | exact hh.2.1 | exact hh.2.2 | exact hh.2.2.1 | exact hh.2.2.2 | exact hh.2.2.2.1 | exact hh.2.2.2.2))) (show ∀ s : List UInt8, s.length < 70368744177664 → pu29 16 [.val (str s)] = some (sl bC (.own 1) (wb s)) from by intros; rw [pu29, ext_miss (by decide), pu28, ext_miss (by decide), pu27, ext_miss (by decide), pu26, ext_miss (by decide), pu25, ext_miss (by decide), pu24, ext_miss (by decide), pu23, ext_miss (by decide), pu22, ext_miss (by decide), pu21, ext_miss (by decide), pu20, ext_miss (by decide), pu19, ext_miss (by decide), pu18, ext_miss (by decide), pu17, ext_miss (by decide), pu16, ext_miss (by decide), pu15, ext_miss (by decide), pu14, ext_miss (by decide), pu13, ext_miss (by decide), pu12, ext_miss (by decide), pu11, ext_miss (by decide), pu10, ext_miss (by decide), pu9, ext_miss (by decide), pu8, ext_miss (by decide), pu7, ext_miss (by decide), pu6, ext_miss (by decide), pu5, ext_miss (by decide)]; apply hit4 <;> (first | assumption | omega | (rename_i hh; first | exact hh.1 | exact hh.2 | exact hh.2.1 | exact hh.2.2 | exact hh.2.2.1 | exact hh.2.2.2 | exact hh.2.2.2.1 | exact hh.2.2.2.2))) (show ∀ l : List Int, l.length < 1099511627776 ∧ (∀ x ∈ l, -9223372036854775808 ≤ x ∧ x ≤ 9223372036854775807) → pu29 18 [sl iC .no l] = some (sl bC (.own 1) (wInts l)) from by intros; rw [pu29, ext_miss (by decide), pu28, ext_miss (by decide), pu27, ext_miss (by decide), pu26, ext_miss (by decide), pu25, ext_miss (by decide), pu24, ext_miss (by decide), pu23, ext_miss (by decide), pu22, ext_miss (by decide), pu21, ext_miss (by decide), pu20, ext_miss (by decide), pu19, ext_miss (by decide), pu18, ext_miss (by decide), pu17, ext_miss (by decide), pu16, ext_miss (by decide), pu15, ext_miss (by decide), pu14, ext_miss (by decide), pu13, ext_miss (by decide), pu12, ext_miss (by decide), pu11, ext_miss (by decide), pu10, ext_miss (by decide), pu9, ext_miss (by decide), pu8, ext_miss (by decide), pu7, ext_miss (by decide)]; apply hit6 <;> (first | assumption | omega | (rename_i hh; first | exact hh.1 | exact hh.2 | exact hh.2.1 | exact hh.2.2 | exact hh.2.2.1 | exact hh.2.2.2 | exact hh.2.2.2.1 | exact hh.2.2.2.2))) (show ∀ l : List (List UInt8), l.length < 1099511627776 ∧ l.flatten.length < 1099511627776 → pu29 20 [sl sC .no l] = some (sl bC (.own 1) (wStrs l)) from by intros; rw [pu29, ext_miss (by decide), pu28, ext_miss (by decide), pu27, ext_miss (by decide), pu26, ext_miss (by decide), pu25, ext_miss (by decide), pu24, ext_miss (by decide), pu23, ext_miss (by decide), pu22, ext_miss (by decide), pu21, ext_miss (by decide), pu20, ext_miss (by decide), pu19, ext_miss (by decide), pu18, ext_miss (by decide), pu17, ext_miss (by decide), pu16, ext_miss (by decide), pu15, ext_miss (by decide), pu14, ext_miss (by decide), pu13, ext_miss (by decide), pu12, ext_miss (by decide), pu11, ext_miss (by decide), pu10, ext_miss (by decide), pu9, ext_miss (by decide)]; apply hit8 <;> (first | assumption | omega | (rename_i hh; first | exact hh.1 | exact hh.2 | exact hh.2.1 | exact hh.2.2 | exact hh.2.2.1 | exact hh.2.2.2 | exact hh.2.2.2.1 | exact hh.2.2.2.2))) (show ∀ l : List Dig, l.length < 1099511627776 → pu29 22 [sl dC .no l] = some (sl bC (.own 1) (wDigs l)) from by intros; rw [pu29, ext_miss (by decide), pu28, ext_miss (by decide), pu27, ext_miss (by decide), pu26, ext_miss (by decide), pu25, ext_miss (by decide), pu24, ext_miss (by decide), pu23, ext_miss (by decide), pu22, ext_miss (by decide), pu21, ext_miss (by decide), pu20, ext_miss (by decide), pu19, ext_miss (by decide), pu18, ext_miss (by decide), pu17, ext_miss (by decide), pu16, ext_miss (by decide), pu15, ext_miss (by decide), pu14, ext_miss (by decide), pu13, ext_miss (by decide), pu12, ext_miss (by decide), pu11, ext_miss (by decide)]; apply hit10 <;> (first | assumption | omega | (rename_i hh; first | exact hh.1 | exact hh.2 | exact hh.2.1 | exact hh.2.2 | exact hh.2.2.1 | exact hh.2.2.2 | exact hh.2.2.2.1 | exact hh.2.2.2.2))) (show ∀ b : List UInt8, b.length < 1099511627776 → pu29 24 [sl bC .no b] = some (.tup [.val (.int .i64 (getI b).1), .val (nI (getI b).2.1), .val (nI (getI b).2.2)]) from by intros; rw [pu29, ext_miss (by decide), pu28, ext_miss (by decide), pu27, ext_miss (by decide), pu26, ext_miss (by decide), pu25, ext_miss (by decide), pu24, ext_miss (by decide), pu23, ext_miss (by decide), pu22, ext_miss (by decide), pu21, ext_miss (by decide), pu20, ext_miss (by decide), pu19, ext_miss (by decide), pu18, ext_miss (by decide), pu17, ext_miss (by decide), pu16, ext_miss (by decide), pu15, ext_miss (by decide), pu14, ext_miss (by decide), pu13, ext_miss (by decide)]; apply hit12 <;> (first | assumption | omega | (rename_i hh; first | exact hh.1 | exact hh.2 | exact hh.2.1 | exact hh.2.2 | exact hh.2.2.1 | exact hh.2.2.2 | exact hh.2.2.2.1 | exact hh.2.2.2.2))) (show ∀ b : List UInt8, b.length < 1099511627776 → pu29 26 [sl bC .no b] = some (.tup [.val (str (getB b).1), .val (nI (getB b).2.1), .val (nI (getB b).2.2)]) from by intros; rw [pu29, ext_miss (by decide), pu28, ext_miss (by decide), pu27, ext_miss (by decide), pu26, ext_miss (by decide), pu25, ext_miss (by decide), pu24, ext_miss (by decide), pu23, ext_miss (by decide), pu22, ext_miss (by decide), pu21, ext_miss (by decide), pu20, ext_miss (by decide), pu19, ext_miss (by decide), pu18, ext_miss (by decide), pu17, ext_miss (by decide)]; apply hit16 <;> (first | assumption | omega | (rename_i hh; first | exact hh.1 | exact hh.2 | exact hh.2.1 | exact hh.2.2 | exact hh.2.2.1 | exact hh.2.2.2 | exact hh.2.2.2.1 | exact hh.2.2.2.2))) (show ∀ b : List UInt8, b.length < 1099511627776 → pu29 28 [sl bC .no b] = some (.tup [sl iC .no (getL getI 1 b).1, .val (nI (getL getI 1 b).2.1), .val (nI (getL getI 1 b).2.2)]) from by intros; rw [pu29, ext_miss (by decide), pu28, ext_miss (by decide), pu27, ext_miss (by decide), pu26, ext_miss (by decide), pu25, ext_miss (by decide), pu24, ext_miss (by decide), pu23, ext_miss (by decide), pu22, ext_miss (by decide), pu21, ext_miss (by decide), pu20, ext_miss (by decide), pu19, ext_miss (by decide)]; apply hit18 <;> (first | assumption | omega | (rename_i hh; first | exact hh.1 | exact hh.2 | exact hh.2.1 | exact hh.2.2 | exact hh.2.2.1 | exact hh.2.2.2 | exact hh.2.2.2.1 | exact hh.2.2.2.2))) (show ∀ b : List UInt8, b.length < 1099511627776 → pu29 31 [sl bC .no b] = some (.tup [sl sC .no (getL getB 1 b).1, .val (nI (getL getB 1 b).2.1), .val (nI (getL getB 1 b).2.2)]) from by intros; rw [pu29, ext_miss (by decide), pu28, ext_miss (by decide), pu27, ext_miss (by decide), pu26, ext_miss (by decide), pu25, ext_miss (by decide), pu24, ext_miss (by decide), pu23, ext_miss (by decide), pu22, ext_miss (by decide)]; apply hit21 <;> (first | assumption | omega | (rename_i hh; first | exact hh.1 | exact hh.2 | exact hh.2.1 | exact hh.2.2 | exact hh.2.2.1 | exact hh.2.2.2 | exact hh.2.2.2.1 | exact hh.2.2.2.2))) (show ∀ b : List UInt8, b.length < 1099511627776 → pu29 34 [sl bC .no b] = some (.tup [sl dC .no (getL getD1 16 b).1, .val (nI (getL getD1 16 b).2.1), .val (nI (getL getD1 16 b).2.2)]) from by intros; rw [pu29, ext_miss (by decide), pu28, ext_miss (by decide), pu27, ext_miss (by decide), pu26, ext_miss (by decide), pu25, ext_miss (by decide)]; apply hit24 <;> (first | assumption | omega | (rename_i hh; first | exact hh.1 | exact hh.2 | exact hh.2.1 | exact hh.2.2 | exact hh.2.2.1 | exact hh.2.2.2 | exact hh.2.2.2.1 | exact hh.2.2.2.2))) (n) (s) (l) (x) (d) hc0 hc1 hc2 hc3 hc4 hc5

theorem law10 {gl : Nat → C} (hgn : ∀ g, noRef 0 (gl g) = true)  (s : List UInt8) (l : List Int) (hc0 : s.length < 4611686018427387904) (hc1 : l.length < 4611686018427387904) (hc2 : ∀ x ∈ l, -9223372036854775808 ≤ x ∧ x ≤ 9223372036854775807) : FC Try.prog gl 10 [.val (str s), sl iC .no l] [] (.val (.bool true)) [] := fc10 (ok29 hgn  0) (show pu29 12 [] = some (.val (.bool true)) from by intros; rw [pu29, ext_miss (by decide)]; apply hit28 <;> (first | assumption | omega | (rename_i hh; first | exact hh.1 | exact hh.2 | exact hh.2.1 | exact hh.2.2 | exact hh.2.2.1 | exact hh.2.2.2 | exact hh.2.2.2.1 | exact hh.2.2.2.2))) (show ∀ s : List UInt8, s.length < 70368744177664 → pu29 16 [.val (str s)] = some (sl bC (.own 1) (wb s)) from by intros; rw [pu29, ext_miss (by decide), pu28, ext_miss (by decide), pu27, ext_miss (by decide), pu26, ext_miss (by decide), pu25, ext_miss (by decide), pu24, ext_miss (by decide), pu23, ext_miss (by decide), pu22, ext_miss (by decide), pu21, ext_miss (by decide), pu20, ext_miss (by decide), pu19, ext_miss (by decide), pu18, ext_miss (by decide), pu17, ext_miss (by decide), pu16, ext_miss (by decide), pu15, ext_miss (by decide), pu14, ext_miss (by decide), pu13, ext_miss (by decide), pu12, ext_miss (by decide), pu11, ext_miss (by decide), pu10, ext_miss (by decide), pu9, ext_miss (by decide), pu8, ext_miss (by decide), pu7, ext_miss (by decide), pu6, ext_miss (by decide), pu5, ext_miss (by decide)]; apply hit4 <;> (first | assumption | omega | (rename_i hh; first | exact hh.1 | exact hh.2 | exact hh.2.1 | exact hh.2.2 | exact hh.2.2.1 | exact hh.2.2.2 | exact hh.2.2.2.1 | exact hh.2.2.2.2))) (show ∀ l : List Int, l.length < 1099511627776 ∧ (∀ x ∈ l, -9223372036854775808 ≤ x ∧ x ≤ 9223372036854775807) → pu29 18 [sl iC .no l] = some (sl bC (.own 1) (wInts l)) from by intros; rw [pu29, ext_miss (by decide), pu28, ext_miss (by decide), pu27, ext_miss (by decide), pu26, ext_miss (by decide), pu25, ext_miss (by decide), pu24, ext_miss (by decide), pu23, ext_miss (by decide), pu22, ext_miss (by decide), pu21, ext_miss (by decide), pu20, ext_miss (by decide), pu19, ext_miss (by decide), pu18, ext_miss (by decide), pu17, ext_miss (by decide), pu16, ext_miss (by decide), pu15, ext_miss (by decide), pu14, ext_miss (by decide), pu13, ext_miss (by decide), pu12, ext_miss (by decide), pu11, ext_miss (by decide), pu10, ext_miss (by decide), pu9, ext_miss (by decide), pu8, ext_miss (by decide), pu7, ext_miss (by decide)]; apply hit6 <;> (first | assumption | omega | (rename_i hh; first | exact hh.1 | exact hh.2 | exact hh.2.1 | exact hh.2.2 | exact hh.2.2.1 | exact hh.2.2.2 | exact hh.2.2.2.1 | exact hh.2.2.2.2))) (show ∀ b : List UInt8, b.length < 1099511627776 → pu29 26 [sl bC .no b] = some (.tup [.val (str (getB b).1), .val (nI (getB b).2.1), .val (nI (getB b).2.2)]) from by intros; rw [pu29, ext_miss (by decide), pu28, ext_miss (by decide), pu27, ext_miss (by decide), pu26, ext_miss (by decide), pu25, ext_miss (by decide), pu24, ext_miss (by decide), pu23, ext_miss (by decide), pu22, ext_miss (by decide), pu21, ext_miss (by decide), pu20, ext_miss (by decide), pu19, ext_miss (by decide), pu18, ext_miss (by decide), pu17, ext_miss (by decide)]; apply hit16 <;> (first | assumption | omega | (rename_i hh; first | exact hh.1 | exact hh.2 | exact hh.2.1 | exact hh.2.2 | exact hh.2.2.1 | exact hh.2.2.2 | exact hh.2.2.2.1 | exact hh.2.2.2.2))) (show ∀ b : List UInt8, b.length < 1099511627776 → pu29 28 [sl bC .no b] = some (.tup [sl iC .no (getL getI 1 b).1, .val (nI (getL getI 1 b).2.1), .val (nI (getL getI 1 b).2.2)]) from by intros; rw [pu29, ext_miss (by decide), pu28, ext_miss (by decide), pu27, ext_miss (by decide), pu26, ext_miss (by decide), pu25, ext_miss (by decide), pu24, ext_miss (by decide), pu23, ext_miss (by decide), pu22, ext_miss (by decide), pu21, ext_miss (by decide), pu20, ext_miss (by decide), pu19, ext_miss (by decide)]; apply hit18 <;> (first | assumption | omega | (rename_i hh; first | exact hh.1 | exact hh.2 | exact hh.2.1 | exact hh.2.2 | exact hh.2.2.1 | exact hh.2.2.2 | exact hh.2.2.2.1 | exact hh.2.2.2.2))) (show ∀ x y : List Int, x.length < 9223372036854775807 → pu29 30 [sl iC .no x, sl iC .no y] = some (.val (.bool (decide (x = y)))) from by intros; rw [pu29, ext_miss (by decide), pu28, ext_miss (by decide), pu27, ext_miss (by decide), pu26, ext_miss (by decide), pu25, ext_miss (by decide), pu24, ext_miss (by decide), pu23, ext_miss (by decide), pu22, ext_miss (by decide), pu21, ext_miss (by decide)]; apply hit20 <;> (first | assumption | omega | (rename_i hh; first | exact hh.1 | exact hh.2 | exact hh.2.1 | exact hh.2.2 | exact hh.2.2.1 | exact hh.2.2.2 | exact hh.2.2.2.1 | exact hh.2.2.2.2))) (s) (l) hc0 hc1 hc2

end Go.Sx
