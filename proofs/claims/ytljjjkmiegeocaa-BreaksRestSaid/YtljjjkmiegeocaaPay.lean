/-
  Package breaks: the law of the rest.
-/
import Derived.Test.YtljjjkmiegeocaaPax
set_option linter.unusedSimpArgs false
set_option linter.unusedVariables false
namespace Go.Sx
open Go.RowKit Go.Proofs
theorem LI_drop {l : List Int} (h : LI l) (k : Nat) : LI (l.drop k) := ⟨by have := h.1; rw [List.length_drop]; omega, fun i hi => by
  rw [List.length_drop] at hi
  have e : gt (l.drop k) i = gt l (i + k) := by simp [gt, List.getD, Nat.add_comm]
  rw [e]; exact h.2 _ (by omega)⟩
set_option maxRecDepth 100000 in
set_option maxHeartbeats 8000000 in
theorem fc7 {gl : Nat → C} {M : Nat} {pu : Nat → List C → Option C}  (hcx : CxOK (cxP gl M pu)) (h9 : ∀ b w : Int, (-9223372036854775808 ≤ b ∧ b ≤ 9223372036854775807) → (-9223372036854775808 ≤ w ∧ w ≤ 9223372036854775807) → pu 9 [.val (.int .i64 b), .val (.int .i64 w)] = some (.tup [.val (.int .i64 (pageB b)), .val (.int .i64 (pageW w))])) (h10 : ∀ l : List Int, LI l → pu 10 [sl iC .no l] = some (sl iC (.own 1) (widI l))) (h11 : ∀ (l : List Int) (b w : Int), LI l → (-9223372036854775808 ≤ b ∧ b ≤ 9223372036854775807) → (-9223372036854775808 ≤ w ∧ w ≤ 9223372036854775807) → pu 11 [sl iC .no l, .val (.int .i64 b), .val (.int .i64 w)] = some (.tup [.agg [sl iC .no (fillT l b w).1, sl iC .no (fillT l b w).2.1, sl iC .no (fillT l b w).2.2.1], .val (nI (fillT l b w).2.2.2)])) (h30 : ∀ (n : Int) (m : Nat), -9223372036854775808 ≤ n ∧ n ≤ 9223372036854775807 ∧ 0 < m ∧ m ≤ 9223372036854775807 → pu 30 [.val (.int .i64 n), .val (nI m)] = some (.val (nI (aroundI n m)))) (h17 : ∀ x y : List Int, x.length < 9223372036854775807 → pu 17 [sl iC .no x, sl iC .no y] = some (.val (.bool (decide (x = y))))) (h18 : pu 18 [] = some (.val (.bool true))) (l : List Int) (n m times wider : Int) (hl : LI l) (hn : -9223372036854775808 ≤ n ∧ n ≤ 9223372036854775807) (hm : -9223372036854775808 ≤ m ∧ m ≤ 9223372036854775807) (htimes : -9223372036854775808 ≤ times ∧ times ≤ 9223372036854775807) (hwider : -9223372036854775808 ≤ wider ∧ wider ≤ 9223372036854775807) : FC Try.prog gl 7 [sl iC .no l, .val (.int .i64 n), .val (.int .i64 m), .val (.int .i64 times), .val (.int .i64 wider)] [] (.val (.bool true)) [] := by
 replace hcx := hcx.reN (M := 222)
 refine FC.ofA (cx := cxP gl 222 pu) (rs := [.tmp 10]) rfl Try.func7 rfl rfl rfl (by simp only [List.length_cons, List.length_nil]; decide) (by simp only [go_sem]) ?_
 simp only [ini, go_sem]
 have h9' := h9 n m hn hm
 have h10' := h10 l hl
 have hl1 := hl.1
 have hpb := pageB_b n
 have hpw := pageW_b m
 have hwl := wid_LI l
 have hwn := wid_len l
 generalize pageB n = B at *
 generalize pageW m = W at *
 have hB : -9223372036854775808 ≤ B ∧ B ≤ 9223372036854775807 := by omega
 have hW : -9223372036854775808 ≤ W ∧ W ≤ 9223372036854775807 := by omega
 refine Tr.seqK fun K1 hK1 => ?_
 refine Tr.rg hcx [] _ [] rfl rfl rfl ?_
 simp -implicitDefEqProofs (maxSteps := 2000000) (disch := first | omega | (simp only [go_sem, List.length_append, List.length_drop, List.length_take] <;> omega) | decide) only [go_sem, ↓reduceIte, Nat.reduceEqDiff, reduceCtorEq, Nat.reduceLT, Nat.reduceBEq, Nat.reduceAdd, Nat.reduceSub, Nat.reduceMul, Nat.reduceMod]
 refine hK1 _ ?_
 clear hK1 K1
 refine Tr.kp [0, 1, 2, 3, 4] ?_
 simp only [pk_cons, pk_nil, ↓A_cons, ↓reduceIte, Nat.reduceEqDiff]
 refine Tr.seqK fun K2 hK2 => ?_
 refine Tr.rg hcx [1000031, 1000032] _ [] rfl rfl rfl ?_
 simp -implicitDefEqProofs (maxSteps := 2000000) (disch := first | omega | (simp only [go_sem, List.length_append, List.length_drop, List.length_take] <;> omega) | decide) only [go_sem, ↓reduceIte, Nat.reduceEqDiff, reduceCtorEq, Nat.reduceLT, Nat.reduceBEq, Nat.reduceAdd, Nat.reduceSub, Nat.reduceMul, Nat.reduceMod, h9']
 refine hK2 _ ?_
 clear hK2 K2
 refine Tr.kp [0, 3, 4, 11, 12] ?_
 simp only [pk_cons, pk_nil, ↓A_cons, ↓reduceIte, Nat.reduceEqDiff]
 refine Tr.seqK fun K3 hK3 => ?_
 refine Tr.rg hcx [1000034] _ [] rfl rfl rfl ?_
 simp -implicitDefEqProofs (maxSteps := 2000000) (disch := first | omega | (simp only [go_sem, List.length_append, List.length_drop, List.length_take] <;> omega) | decide) only [go_sem, ↓reduceIte, Nat.reduceEqDiff, reduceCtorEq, Nat.reduceLT, Nat.reduceBEq, Nat.reduceAdd, Nat.reduceSub, Nat.reduceMul, Nat.reduceMod, h10']
 refine hK3 _ ?_
 clear hK3 K3
 refine Tr.kp [3, 4, 11, 12, 13] ?_
 simp only [pk_cons, pk_nil, ↓A_cons, ↓reduceIte, Nat.reduceEqDiff]
 refine Tr.seqK fun K4 hK4 => ?_
 by_cases z0 : errE (widI l) B W = 0
 ·
  have z0o := z0
  by_cases z1 : wideW (widI l) W = false
  ·
   have hfo := fill_ok (widI l) B W
   have hfe := fill_0 (l := (widI l)) (b := B) (w := W) z0o (fun i hi => wideW_n z1 i hi)
   rw [hfe] at hfo
   have hfl1 : (endF (widI l) B W).length ≤ 257 := hfo.1.1
   have hfl2 : (dp (widI l) B W (widI l).length).1.length = (widI l).length + 1 := (dp_len _ _ _ _).1
   have hfl3 : (dp (widI l) B W (widI l).length).2.length = (widI l).length + 1 := (dp_len _ _ _ _).2
   have hfq1 : LI (endF (widI l) B W) := hfo.1.li (by decide)
   have e11 : pu 11 [sl iC .no (widI l), .val (.int .i64 B), .val (.int .i64 W)] = some (.tup [.agg [sl iC .no (endF (widI l) B W), sl iC .no (dp (widI l) B W (widI l).length).1, sl iC .no (dp (widI l) B W (widI l).length).2], .val (nI 0)]) := (h11 (widI l) B W hwl (by omega) (by omega)).trans (by rw [hfe])
   have hF := errE_0.1 z0o
   have hFb := hF.2.1
   have hFw := hF.2.2.1
   by_cases z3 : (widI l).length = 0
   ·
    have z3o := z3
    replace z3 := eq_true z3
    refine Tr.rg hcx [1000041] _ [none] rfl rfl rfl ?_
    simp -implicitDefEqProofs (maxSteps := 2000000) (disch := first | omega | (simp only [go_sem, List.length_append, List.length_drop, List.length_take] <;> omega) | decide) only [go_sem, ↓reduceIte, Nat.reduceEqDiff, reduceCtorEq, Nat.reduceLT, Nat.reduceBEq, Nat.reduceAdd, Nat.reduceSub, Nat.reduceMul, Nat.reduceMod, z0, z1, z3, e11]
    refine hK4 _ ?_
    clear hK4 K4
    refine Tr.kp [3, 4, 11, 12, 13, 14, 15] ?_
    simp only [pk_cons, pk_nil, ↓A_cons, ↓reduceIte, Nat.reduceEqDiff]
    refine Tr.seqK fun K5 hK5 => ?_
    refine Tr.seqK fun K6 hK6 => ?_
    refine Tr.rg hcx [] [some 42, some 43, some 44, some 45, some 46, some 47, some 48, some 49, some 50, some 51, some 52, some 53, some 54, some 55, some 56] [] rfl rfl rfl ?_
    simp -implicitDefEqProofs (maxSteps := 2000000) (disch := first | omega | (simp only [go_sem, List.length_append, List.length_drop, List.length_take] <;> omega) | decide) only [go_sem, ↓reduceIte, Nat.reduceEqDiff, reduceCtorEq, Nat.reduceLT, Nat.reduceBEq, Nat.reduceAdd, Nat.reduceSub, Nat.reduceMul, Nat.reduceMod, z0, z1, z3]
    refine hK6 _ ?_
    clear hK6 K6
    refine Tr.kp [3, 4, 11, 12, 13, 14, 56] ?_
    simp only [pk_cons, pk_nil, ↓A_cons, ↓reduceIte, Nat.reduceEqDiff]
    refine Tr.condG fun KT KF hT hF => ?_
    simp only [ev_tmp, ev_const, ↓A_cons, ↓reduceIte, Nat.reduceEqDiff, reduceCtorEq, condG_bool, GB_true, GB_false, decide_eq_true_eq]
    refine hT ?_
    clear hT hF KT KF
    refine Tr.seqK fun K7 hK7 => ?_
    refine Tr.rg hcx [1000057] _ [] rfl rfl rfl ?_
    simp -implicitDefEqProofs (maxSteps := 2000000) (disch := first | omega | (simp only [go_sem, List.length_append, List.length_drop, List.length_take] <;> omega) | decide) only [go_sem, ↓reduceIte, Nat.reduceEqDiff, reduceCtorEq, Nat.reduceLT, Nat.reduceBEq, Nat.reduceAdd, Nat.reduceSub, Nat.reduceMul, Nat.reduceMod, z0, z1, z3, h18]
    refine hK7 _ ?_
    clear hK7 K7
    refine Tr.kp [10] ?_
    simp only [pk_cons, pk_nil, ↓A_cons, ↓reduceIte, Nat.reduceEqDiff]
    refine Tr.ret ?_
    simp -implicitDefEqProofs (disch := first | omega | (simp only [go_sem, List.length_append, List.length_drop, List.length_take] <;> omega) | decide) only [go_sem, ↓reduceIte, Nat.reduceEqDiff, reduceCtorEq]
    all_goals (rfl)
   ·
    have z3o := z3
    replace z3 := eq_false z3
    by_cases z4 : ((40 : Nat) : Int) < W
    ·
     have z4o := z4
     replace z4 := eq_true z4
     refine Tr.rg hcx [1000041] _ [none] rfl rfl rfl ?_
     simp -implicitDefEqProofs (maxSteps := 2000000) (disch := first | omega | (simp only [go_sem, List.length_append, List.length_drop, List.length_take] <;> omega) | decide) only [go_sem, ↓reduceIte, Nat.reduceEqDiff, reduceCtorEq, Nat.reduceLT, Nat.reduceBEq, Nat.reduceAdd, Nat.reduceSub, Nat.reduceMul, Nat.reduceMod, z0, z1, z3, z4, e11]
     refine hK4 _ ?_
     clear hK4 K4
     refine Tr.kp [3, 4, 11, 12, 13, 14, 15] ?_
     simp only [pk_cons, pk_nil, ↓A_cons, ↓reduceIte, Nat.reduceEqDiff]
     refine Tr.seqK fun K8 hK8 => ?_
     refine Tr.seqK fun K9 hK9 => ?_
     refine Tr.rg hcx [] [some 42, some 43, some 44, some 45, some 46, some 47, some 48, some 49, some 50, some 51, some 52, some 53, some 54, some 55, some 56] [] rfl rfl rfl ?_
     simp -implicitDefEqProofs (maxSteps := 2000000) (disch := first | omega | (simp only [go_sem, List.length_append, List.length_drop, List.length_take] <;> omega) | decide) only [go_sem, ↓reduceIte, Nat.reduceEqDiff, reduceCtorEq, Nat.reduceLT, Nat.reduceBEq, Nat.reduceAdd, Nat.reduceSub, Nat.reduceMul, Nat.reduceMod, z0, z1, z3, z4]
     refine hK9 _ ?_
     clear hK9 K9
     refine Tr.kp [3, 4, 11, 12, 13, 14, 56] ?_
     simp only [pk_cons, pk_nil, ↓A_cons, ↓reduceIte, Nat.reduceEqDiff]
     refine Tr.condG fun KT KF hT hF => ?_
     simp only [ev_tmp, ev_const, ↓A_cons, ↓reduceIte, Nat.reduceEqDiff, reduceCtorEq, condG_bool, GB_true, GB_false, decide_eq_true_eq]
     refine hT ?_
     clear hT hF KT KF
     refine Tr.seqK fun K10 hK10 => ?_
     refine Tr.rg hcx [1000057] _ [] rfl rfl rfl ?_
     simp -implicitDefEqProofs (maxSteps := 2000000) (disch := first | omega | (simp only [go_sem, List.length_append, List.length_drop, List.length_take] <;> omega) | decide) only [go_sem, ↓reduceIte, Nat.reduceEqDiff, reduceCtorEq, Nat.reduceLT, Nat.reduceBEq, Nat.reduceAdd, Nat.reduceSub, Nat.reduceMul, Nat.reduceMod, z0, z1, z3, z4, h18]
     refine hK10 _ ?_
     clear hK10 K10
     refine Tr.kp [10] ?_
     simp only [pk_cons, pk_nil, ↓A_cons, ↓reduceIte, Nat.reduceEqDiff]
     refine Tr.ret ?_
     simp -implicitDefEqProofs (disch := first | omega | (simp only [go_sem, List.length_append, List.length_drop, List.length_take] <;> omega) | decide) only [go_sem, ↓reduceIte, Nat.reduceEqDiff, reduceCtorEq]
     all_goals (rfl)
    ·
     have z4o := z4
     replace z4 := eq_false z4
     by_cases z5 : ((40 : Nat) : Int) < B
     ·
      have z5o := z5
      replace z5 := eq_true z5
      refine Tr.rg hcx [1000041] _ [none] rfl rfl rfl ?_
      simp -implicitDefEqProofs (maxSteps := 2000000) (disch := first | omega | (simp only [go_sem, List.length_append, List.length_drop, List.length_take] <;> omega) | decide) only [go_sem, ↓reduceIte, Nat.reduceEqDiff, reduceCtorEq, Nat.reduceLT, Nat.reduceBEq, Nat.reduceAdd, Nat.reduceSub, Nat.reduceMul, Nat.reduceMod, z0, z1, z3, z4, z5, e11]
      refine hK4 _ ?_
      clear hK4 K4
      refine Tr.kp [3, 4, 11, 12, 13, 14, 15] ?_
      simp only [pk_cons, pk_nil, ↓A_cons, ↓reduceIte, Nat.reduceEqDiff]
      refine Tr.seqK fun K11 hK11 => ?_
      refine Tr.seqK fun K12 hK12 => ?_
      refine Tr.rg hcx [] [some 42, some 43, some 44, some 45, some 46, some 47, some 48, some 49, some 50, some 51, some 52, some 53, some 54, some 55, some 56] [] rfl rfl rfl ?_
      simp -implicitDefEqProofs (maxSteps := 2000000) (disch := first | omega | (simp only [go_sem, List.length_append, List.length_drop, List.length_take] <;> omega) | decide) only [go_sem, ↓reduceIte, Nat.reduceEqDiff, reduceCtorEq, Nat.reduceLT, Nat.reduceBEq, Nat.reduceAdd, Nat.reduceSub, Nat.reduceMul, Nat.reduceMod, z0, z1, z3, z4, z5]
      refine hK12 _ ?_
      clear hK12 K12
      refine Tr.kp [3, 4, 11, 12, 13, 14, 56] ?_
      simp only [pk_cons, pk_nil, ↓A_cons, ↓reduceIte, Nat.reduceEqDiff]
      refine Tr.condG fun KT KF hT hF => ?_
      simp only [ev_tmp, ev_const, ↓A_cons, ↓reduceIte, Nat.reduceEqDiff, reduceCtorEq, condG_bool, GB_true, GB_false, decide_eq_true_eq]
      refine hT ?_
      clear hT hF KT KF
      refine Tr.seqK fun K13 hK13 => ?_
      refine Tr.rg hcx [1000057] _ [] rfl rfl rfl ?_
      simp -implicitDefEqProofs (maxSteps := 2000000) (disch := first | omega | (simp only [go_sem, List.length_append, List.length_drop, List.length_take] <;> omega) | decide) only [go_sem, ↓reduceIte, Nat.reduceEqDiff, reduceCtorEq, Nat.reduceLT, Nat.reduceBEq, Nat.reduceAdd, Nat.reduceSub, Nat.reduceMul, Nat.reduceMod, z0, z1, z3, z4, z5, h18]
      refine hK13 _ ?_
      clear hK13 K13
      refine Tr.kp [10] ?_
      simp only [pk_cons, pk_nil, ↓A_cons, ↓reduceIte, Nat.reduceEqDiff]
      refine Tr.ret ?_
      simp -implicitDefEqProofs (disch := first | omega | (simp only [go_sem, List.length_append, List.length_drop, List.length_take] <;> omega) | decide) only [go_sem, ↓reduceIte, Nat.reduceEqDiff, reduceCtorEq]
      all_goals (rfl)
     ·
      have z5o := z5
      replace z5 := eq_false z5
      have hnp : 0 < (widI l).length := by omega
      have hrest := endF_rest z0o z1 hnp
      have hdf := drop_fine (nxt (widI l) B W 0) z0o z1
      have hfor := fill_ok ((widI l).drop (nxt (widI l) B W 0)) B W
      have hfer := fill_0 (l := ((widI l).drop (nxt (widI l) B W 0))) (b := B) (w := W) hdf.1 (fun i hi => wideW_n hdf.2 i hi)
      rw [hfer] at hfor
      have hfl1r : (endF ((widI l).drop (nxt (widI l) B W 0)) B W).length ≤ 257 := hfor.1.1
      have hfl2r : (dp ((widI l).drop (nxt (widI l) B W 0)) B W ((widI l).drop (nxt (widI l) B W 0)).length).1.length = ((widI l).drop (nxt (widI l) B W 0)).length + 1 := (dp_len _ _ _ _).1
      have hfl3r : (dp ((widI l).drop (nxt (widI l) B W 0)) B W ((widI l).drop (nxt (widI l) B W 0)).length).2.length = ((widI l).drop (nxt (widI l) B W 0)).length + 1 := (dp_len _ _ _ _).2
      have hfq1r : LI (endF ((widI l).drop (nxt (widI l) B W 0)) B W) := hfor.1.li (by decide)
      have e11r : pu 11 [sl iC .no ((widI l).drop (nxt (widI l) B W 0)), .val (.int .i64 B), .val (.int .i64 W)] = some (.tup [.agg [sl iC .no (endF ((widI l).drop (nxt (widI l) B W 0)) B W), sl iC .no (dp ((widI l).drop (nxt (widI l) B W 0)) B W ((widI l).drop (nxt (widI l) B W 0)).length).1, sl iC .no (dp ((widI l).drop (nxt (widI l) B W 0)) B W ((widI l).drop (nxt (widI l) B W 0)).length).2], .val (nI 0)]) := (h11 ((widI l).drop (nxt (widI l) B W 0)) B W (LI_drop hwl _) (by omega) (by omega)).trans (by rw [hfer])
      have hTr : 1 ≤ ((((1 + aroundI times 50)) : Nat) : Int) ∧ ((((1 + aroundI times 50)) : Nat) : Int) ≤ 50 := by have := around_lt times (m := 50) (by decide); omega
      have hTn : (1 + aroundI times 50) ≤ 50 := by have := around_lt times (m := 50) (by decide); omega
      have hTT := tt_b hTn
      have hd40 := around_lt wider (m := 40) (by decide)
      have hsf := scale_fine hTr z0o z1 (by omega) (by omega)
      have hmb := mul_b hTr (x := B) (m := 40) ⟨by omega, by omega⟩
      have hmw := mul_b hTr (x := W) (m := 40) ⟨by omega, by omega⟩
      have hbigLI : LI ((widI l).map (((((1 + aroundI times 50)) : Nat) : Int) * ·)) := ⟨by rw [List.length_map]; omega, fun i hi => by have hq := (errE_0.1 hsf.1).2.2.2 i hi; omega⟩
      have hfob := fill_ok ((widI l).map (((((1 + aroundI times 50)) : Nat) : Int) * ·)) (((((1 + aroundI times 50)) : Nat) : Int) * B) (((((1 + aroundI times 50)) : Nat) : Int) * W)
      have hfeb := fill_0 (l := ((widI l).map (((((1 + aroundI times 50)) : Nat) : Int) * ·))) (b := (((((1 + aroundI times 50)) : Nat) : Int) * B)) (w := (((((1 + aroundI times 50)) : Nat) : Int) * W)) hsf.1 (fun i hi => wideW_n hsf.2 i hi)
      rw [hfeb] at hfob
      have hfl1b : (endF ((widI l).map (((((1 + aroundI times 50)) : Nat) : Int) * ·)) (((((1 + aroundI times 50)) : Nat) : Int) * B) (((((1 + aroundI times 50)) : Nat) : Int) * W)).length ≤ 257 := hfob.1.1
      have hfl2b : (dp ((widI l).map (((((1 + aroundI times 50)) : Nat) : Int) * ·)) (((((1 + aroundI times 50)) : Nat) : Int) * B) (((((1 + aroundI times 50)) : Nat) : Int) * W) ((widI l).map (((((1 + aroundI times 50)) : Nat) : Int) * ·)).length).1.length = ((widI l).map (((((1 + aroundI times 50)) : Nat) : Int) * ·)).length + 1 := (dp_len _ _ _ _).1
      have hfl3b : (dp ((widI l).map (((((1 + aroundI times 50)) : Nat) : Int) * ·)) (((((1 + aroundI times 50)) : Nat) : Int) * B) (((((1 + aroundI times 50)) : Nat) : Int) * W) ((widI l).map (((((1 + aroundI times 50)) : Nat) : Int) * ·)).length).2.length = ((widI l).map (((((1 + aroundI times 50)) : Nat) : Int) * ·)).length + 1 := (dp_len _ _ _ _).2
      have hfq1b : LI (endF ((widI l).map (((((1 + aroundI times 50)) : Nat) : Int) * ·)) (((((1 + aroundI times 50)) : Nat) : Int) * B) (((((1 + aroundI times 50)) : Nat) : Int) * W)) := hfob.1.li (by decide)
      have e11b : pu 11 [sl iC .no ((widI l).map (((((1 + aroundI times 50)) : Nat) : Int) * ·)), .val (.int .i64 (((((1 + aroundI times 50)) : Nat) : Int) * B)), .val (.int .i64 (((((1 + aroundI times 50)) : Nat) : Int) * W))] = some (.tup [.agg [sl iC .no (endF ((widI l).map (((((1 + aroundI times 50)) : Nat) : Int) * ·)) (((((1 + aroundI times 50)) : Nat) : Int) * B) (((((1 + aroundI times 50)) : Nat) : Int) * W)), sl iC .no (dp ((widI l).map (((((1 + aroundI times 50)) : Nat) : Int) * ·)) (((((1 + aroundI times 50)) : Nat) : Int) * B) (((((1 + aroundI times 50)) : Nat) : Int) * W) ((widI l).map (((((1 + aroundI times 50)) : Nat) : Int) * ·)).length).1, sl iC .no (dp ((widI l).map (((((1 + aroundI times 50)) : Nat) : Int) * ·)) (((((1 + aroundI times 50)) : Nat) : Int) * B) (((((1 + aroundI times 50)) : Nat) : Int) * W) ((widI l).map (((((1 + aroundI times 50)) : Nat) : Int) * ·)).length).2], .val (nI 0)]) := (h11 ((widI l).map (((((1 + aroundI times 50)) : Nat) : Int) * ·)) (((((1 + aroundI times 50)) : Nat) : Int) * B) (((((1 + aroundI times 50)) : Nat) : Int) * W) hbigLI (by omega) (by omega)).trans (by rw [hfeb])
      have hwf := wider_fine hd40 z0o z1 (by omega)
      have hfoy := fill_ok (widI l) B (W + (aroundI wider 40 : Int))
      have hfey := fill_0 (l := (widI l)) (b := B) (w := (W + (aroundI wider 40 : Int))) hwf.1 (fun i hi => wideW_n hwf.2 i hi)
      rw [hfey] at hfoy
      have hfl1y : (endF (widI l) B (W + (aroundI wider 40 : Int))).length ≤ 257 := hfoy.1.1
      have hfl2y : (dp (widI l) B (W + (aroundI wider 40 : Int)) (widI l).length).1.length = (widI l).length + 1 := (dp_len _ _ _ _).1
      have hfl3y : (dp (widI l) B (W + (aroundI wider 40 : Int)) (widI l).length).2.length = (widI l).length + 1 := (dp_len _ _ _ _).2
      have hfq1y : LI (endF (widI l) B (W + (aroundI wider 40 : Int))) := hfoy.1.li (by decide)
      have e11y : pu 11 [sl iC .no (widI l), .val (.int .i64 B), .val (.int .i64 (W + (aroundI wider 40 : Int)))] = some (.tup [.agg [sl iC .no (endF (widI l) B (W + (aroundI wider 40 : Int))), sl iC .no (dp (widI l) B (W + (aroundI wider 40 : Int)) (widI l).length).1, sl iC .no (dp (widI l) B (W + (aroundI wider 40 : Int)) (widI l).length).2], .val (nI 0)]) := (h11 (widI l) B (W + (aroundI wider 40 : Int)) hwl (by omega) (by omega)).trans (by rw [hfey])
      have hsame := scale_same (t := ((((1 + aroundI times 50)) : Nat) : Int)) (by omega) z0o z1 hsf.1 hsf.2
      have hwle := wider_le (w' := (W + (aroundI wider 40 : Int))) (by omega) z0o z1 hwf.1 hwf.2
      have hEl : (endF (widI l) B W).length = (endF ((widI l).drop (nxt (widI l) B W 0)) B W).length + 1 := by rw [hrest.1]; simp
      have hk0 : gt (endF (widI l) B W) 0 = (((nxt (widI l) B W 0) : Nat) : Int) := by rw [hrest.1]; rfl
      have hE0 : ((endF (widI l) B W).length = 0) = False := eq_false (by omega)
      have hD10 : ((dp (widI l) B W (widI l).length).1.length = 0) = False := eq_false (by omega)
      have hD20 : ((dp (widI l) B W (widI l).length).2.length = 0) = False := eq_false (by omega)
      have hkl : (nxt (widI l) B W 0) ≤ (widI l).length := hrest.2.2
      have hkp : 0 < (nxt (widI l) B W 0) := hrest.2.1
      have hk1 : ((nxt (widI l) B W 0) < 1) = False := eq_false (by omega)
      have hk2 : ((widI l).length < (nxt (widI l) B W 0)) = False := eq_false (by omega)
      have hl1' : ((endF ((widI l).drop (nxt (widI l) B W 0)) B W).length + 1 = (endF (widI l) B W).length) = True := eq_true hEl.symm
      have e30t := h30 times 50 ⟨htimes.1, htimes.2, by decide, by decide⟩
      have e30w := h30 wider 40 ⟨hwider.1, hwider.2, by decide, by decide⟩
      have hbl : ((widI l).map (((((1 + aroundI times 50)) : Nat) : Int) * ·)).length = (widI l).length := List.length_map _
      have hDb := dK_b z0o z1
      have hpb := prod_b (z := (((1 + aroundI times 50) * (1 + aroundI times 50) : Nat) : Int)) (x := (dK (widI l) B W 0)) ⟨by omega, by omega⟩ hDb
      have hyl : ((dp (widI l) B (W + (aroundI wider 40 : Int)) (widI l).length).1.length = 0) = False := eq_false (by omega)
      have hcl : ((dp ((widI l).map (((((1 + aroundI times 50)) : Nat) : Int) * ·)) (((((1 + aroundI times 50)) : Nat) : Int) * B) (((((1 + aroundI times 50)) : Nat) : Int) * W) ((widI l).map (((((1 + aroundI times 50)) : Nat) : Int) * ·)).length).2.length = (dp (widI l) B W (widI l).length).2.length) = True := eq_true (by omega)
      have e17 : pu 17 [sl iC .no (endF ((widI l).map (((((1 + aroundI times 50)) : Nat) : Int) * ·)) (((((1 + aroundI times 50)) : Nat) : Int) * B) (((((1 + aroundI times 50)) : Nat) : Int) * W)), sl iC .no (endF (widI l) B W)] = some (.val (.bool true)) := (h17 _ _ (by omega)).trans (by rw [hsame.1, decide_eq_true rfl])
      have hD2e : gt (dp (widI l) B W (widI l).length).2 0 = (dK (widI l) B W 0) := rfl
      have hxk : (gt (dp ((widI l).map (((((1 + aroundI times 50)) : Nat) : Int) * ·)) (((((1 + aroundI times 50)) : Nat) : Int) * B) (((((1 + aroundI times 50)) : Nat) : Int) * W) ((widI l).map (((((1 + aroundI times 50)) : Nat) : Int) * ·)).length).2 0 = (((1 + aroundI times 50) * (1 + aroundI times 50) : Nat) : Int) * (dK (widI l) B W 0)) = True := eq_true (by
        show dK ((widI l).map (((((1 + aroundI times 50)) : Nat) : Int) * ·)) (((((1 + aroundI times 50)) : Nat) : Int) * B) (((((1 + aroundI times 50)) : Nat) : Int) * W) 0 = _
        rw [hsame.2]; push_cast; rfl)
      have hyk : (gt (dp (widI l) B (W + (aroundI wider 40 : Int)) (widI l).length).1 0 ≤ gt (dp (widI l) B W (widI l).length).1 0) = True := eq_true hwle
      refine Tr.rg hcx [1000041] _ [none] rfl rfl rfl ?_
      simp -implicitDefEqProofs (maxSteps := 2000000) (disch := first | omega | (simp only [go_sem, List.length_append, List.length_drop, List.length_take] <;> omega) | decide) only [go_sem, ↓reduceIte, Nat.reduceEqDiff, reduceCtorEq, Nat.reduceLT, Nat.reduceBEq, Nat.reduceAdd, Nat.reduceSub, Nat.reduceMul, Nat.reduceMod, z0, z1, z3, z4, z5, e11]
      refine hK4 _ ?_
      clear hK4 K4
      refine Tr.kp [3, 4, 11, 12, 13, 14, 15] ?_
      simp only [pk_cons, pk_nil, ↓A_cons, ↓reduceIte, Nat.reduceEqDiff]
      refine Tr.seqK fun K14 hK14 => ?_
      refine Tr.seqK fun K15 hK15 => ?_
      refine Tr.rg hcx [] [some 42, some 43, some 44, some 45, some 46, some 47, some 48, some 49, some 50, some 51, some 52, some 53, some 54, some 55, some 56] [] rfl rfl rfl ?_
      simp -implicitDefEqProofs (maxSteps := 2000000) (disch := first | omega | (simp only [go_sem, List.length_append, List.length_drop, List.length_take] <;> omega) | decide) only [go_sem, ↓reduceIte, Nat.reduceEqDiff, reduceCtorEq, Nat.reduceLT, Nat.reduceBEq, Nat.reduceAdd, Nat.reduceSub, Nat.reduceMul, Nat.reduceMod, z0, z1, z3, z4, z5]
      refine hK15 _ ?_
      clear hK15 K15
      refine Tr.kp [3, 4, 11, 12, 13, 14, 56] ?_
      simp only [pk_cons, pk_nil, ↓A_cons, ↓reduceIte, Nat.reduceEqDiff]
      refine Tr.condG fun KT KF hT hF => ?_
      simp only [ev_tmp, ev_const, ↓A_cons, ↓reduceIte, Nat.reduceEqDiff, reduceCtorEq, condG_bool, GB_true, GB_false, decide_eq_true_eq]
      refine hF ?_
      clear hT hF KT KF
      refine Tr.skip ?_
      refine hK14 _ ?_
      clear hK14 K14
      refine Tr.kp [3, 4, 11, 12, 13, 14] ?_
      simp only [pk_cons, pk_nil, ↓A_cons, ↓reduceIte, Nat.reduceEqDiff]
      refine Tr.seqK fun K16 hK16 => ?_
      refine Tr.seqK fun K17 hK17 => ?_
      refine Tr.rg hcx [] [some 58, some 59, some 60, some 61, some 62, some 63, some 64, some 65, some 66, some 67, some 68, some 69, some 70, some 71, some 72, some 73] [] rfl rfl rfl ?_
      simp -implicitDefEqProofs (maxSteps := 2000000) (disch := first | omega | (simp only [go_sem, List.length_append, List.length_drop, List.length_take] <;> omega) | decide) only [go_sem, ↓reduceIte, Nat.reduceEqDiff, reduceCtorEq, Nat.reduceLT, Nat.reduceBEq, Nat.reduceAdd, Nat.reduceSub, Nat.reduceMul, Nat.reduceMod, z0, z1, z3, z4, z5, hE0, hD10, hD20]
      refine hK17 _ ?_
      clear hK17 K17
      refine Tr.kp [3, 4, 11, 12, 13, 14, 73] ?_
      simp only [pk_cons, pk_nil, ↓A_cons, ↓reduceIte, Nat.reduceEqDiff]
      refine Tr.condG fun KT KF hT hF => ?_
      simp only [ev_tmp, ev_const, ↓A_cons, ↓reduceIte, Nat.reduceEqDiff, reduceCtorEq, condG_bool, GB_true, GB_false, decide_eq_true_eq]
      refine hF ?_
      clear hT hF KT KF
      refine Tr.skip ?_
      refine hK16 _ ?_
      clear hK16 K16
      refine Tr.kp [3, 4, 11, 12, 13, 14] ?_
      simp only [pk_cons, pk_nil, ↓A_cons, ↓reduceIte, Nat.reduceEqDiff]
      refine Tr.seqK fun K18 hK18 => ?_
      refine Tr.rg hcx [1000077] _ [] rfl rfl rfl ?_
      simp -implicitDefEqProofs (maxSteps := 2000000) (disch := first | omega | (simp only [go_sem, List.length_append, List.length_drop, List.length_take] <;> omega) | decide) only [go_sem, ↓reduceIte, Nat.reduceEqDiff, reduceCtorEq, Nat.reduceLT, Nat.reduceBEq, Nat.reduceAdd, Nat.reduceSub, Nat.reduceMul, Nat.reduceMod, z0, z1, z3, z4, z5, hk0, int_nI]
      refine hK18 _ ?_
      clear hK18 K18
      refine Tr.kp [3, 4, 11, 12, 13, 14, 16] ?_
      simp only [pk_cons, pk_nil, ↓A_cons, ↓reduceIte, Nat.reduceEqDiff]
      refine Tr.seqK fun K19 hK19 => ?_
      refine Tr.seqK fun K20 hK20 => ?_
      refine Tr.rg hcx [] [some 78, some 79, some 80, some 81, some 82, some 83, some 84, some 85] [] rfl rfl rfl ?_
      simp -implicitDefEqProofs (maxSteps := 2000000) (disch := first | omega | (simp only [go_sem, List.length_append, List.length_drop, List.length_take] <;> omega) | decide) only [go_sem, ↓reduceIte, Nat.reduceEqDiff, reduceCtorEq, Nat.reduceLT, Nat.reduceBEq, Nat.reduceAdd, Nat.reduceSub, Nat.reduceMul, Nat.reduceMod, z0, z1, z3, z4, z5, hk1, hk2]
      refine hK20 _ ?_
      clear hK20 K20
      refine Tr.kp [3, 4, 11, 12, 13, 14, 16, 85] ?_
      simp only [pk_cons, pk_nil, ↓A_cons, ↓reduceIte, Nat.reduceEqDiff]
      refine Tr.condG fun KT KF hT hF => ?_
      simp only [ev_tmp, ev_const, ↓A_cons, ↓reduceIte, Nat.reduceEqDiff, reduceCtorEq, condG_bool, GB_true, GB_false, decide_eq_true_eq]
      refine hF ?_
      clear hT hF KT KF
      refine Tr.skip ?_
      refine hK19 _ ?_
      clear hK19 K19
      refine Tr.kp [3, 4, 11, 12, 13, 14, 16] ?_
      simp only [pk_cons, pk_nil, ↓A_cons, ↓reduceIte, Nat.reduceEqDiff]
      refine Tr.seqK fun K21 hK21 => ?_
      refine Tr.rg hcx [1000094] _ [none] rfl rfl rfl ?_
      simp -implicitDefEqProofs (maxSteps := 2000000) (disch := first | omega | (simp only [go_sem, List.length_append, List.length_drop, List.length_take] <;> omega) | decide) only [go_sem, ↓reduceIte, Nat.reduceEqDiff, reduceCtorEq, Nat.reduceLT, Nat.reduceBEq, Nat.reduceAdd, Nat.reduceSub, Nat.reduceMul, Nat.reduceMod, z0, z1, z3, z4, z5, e11r]
      refine hK21 _ ?_
      clear hK21 K21
      refine Tr.kp [3, 4, 11, 12, 13, 14, 16, 17, 18] ?_
      simp only [pk_cons, pk_nil, ↓A_cons, ↓reduceIte, Nat.reduceEqDiff]
      refine Tr.seqK fun K22 hK22 => ?_
      refine Tr.seqK fun K23 hK23 => ?_
      refine Tr.rg hcx [] [some 95, some 96, some 97, some 98, some 99, some 100, some 101, some 102, some 103, some 104, some 105, some 106] [] rfl rfl rfl ?_
      simp -implicitDefEqProofs (maxSteps := 2000000) (disch := first | omega | (simp only [go_sem, List.length_append, List.length_drop, List.length_take] <;> omega) | decide) only [go_sem, ↓reduceIte, Nat.reduceEqDiff, reduceCtorEq, Nat.reduceLT, Nat.reduceBEq, Nat.reduceAdd, Nat.reduceSub, Nat.reduceMul, Nat.reduceMod, z0, z1, z3, z4, z5, hl1']
      refine hK23 _ ?_
      clear hK23 K23
      refine Tr.kp [3, 4, 11, 12, 13, 14, 16, 17, 106] ?_
      simp only [pk_cons, pk_nil, ↓A_cons, ↓reduceIte, Nat.reduceEqDiff]
      refine Tr.condG fun KT KF hT hF => ?_
      simp only [ev_tmp, ev_const, ↓A_cons, ↓reduceIte, Nat.reduceEqDiff, reduceCtorEq, condG_bool, GB_true, GB_false, decide_eq_true_eq]
      refine hF ?_
      clear hT hF KT KF
      refine Tr.skip ?_
      refine hK22 _ ?_
      clear hK22 K22
      refine Tr.kp [3, 4, 11, 12, 13, 14, 16, 17] ?_
      simp only [pk_cons, pk_nil, ↓A_cons, ↓reduceIte, Nat.reduceEqDiff]
      refine Tr.seqK fun K24 hK24 => ?_
      refine Tr.seqK fun K25 hK25 => ?_
      refine Tr.rg hcx [] _ [] rfl rfl rfl ?_
      simp -implicitDefEqProofs (maxSteps := 2000000) (disch := first | omega | (simp only [go_sem, List.length_append, List.length_drop, List.length_take] <;> omega) | decide) only [go_sem, ↓reduceIte, Nat.reduceEqDiff, reduceCtorEq, Nat.reduceLT, Nat.reduceBEq, Nat.reduceAdd, Nat.reduceSub, Nat.reduceMul, Nat.reduceMod, z0, z1, z3, z4, z5]
      refine hK25 _ ?_
      clear hK25 K25
      refine Tr.kp [3, 4, 11, 12, 13, 14, 16, 17, 19] ?_
      simp only [pk_cons, pk_nil, ↓A_cons, ↓reduceIte, Nat.reduceEqDiff]
      refine Tr.blk ?_
      refine Tr.loopI (α := Nat) (fun a => [(3, ?v3_48), (4, ?v4_48), (11, ?v11_48), (12, ?v12_48), (13, ?v13_48), (14, ?v14_48), (16, ?v16_48), (17, ?v17_48), (19, .val (nI a))]) (fun a => [some [sl iC .no (endF (widI l) B W), sl iC .no (dp (widI l) B W (widI l).length).1, sl iC .no (dp (widI l) B W (widI l).length).2], some [sl iC .no (endF ((widI l).drop (nxt (widI l) B W 0)) B W), sl iC .no (dp ((widI l).drop (nxt (widI l) B W 0)) B W ((widI l).drop (nxt (widI l) B W 0)).length).1, sl iC .no (dp ((widI l).drop (nxt (widI l) B W 0)) B W ((widI l).drop (nxt (widI l) B W 0)).length).2]]) (fun a => a ≤ (endF ((widI l).drop (nxt (widI l) B W 0)) B W).length) (fun a => (endF ((widI l).drop (nxt (widI l) B W 0)) B W).length - a) (0) (Nat.zero_le _) ?le_48 ?hh_48 ?bd_48
      case hh_48 => exact rfl
      case le_48 => (simp only [Le_nil, Le_cons, ↓A_cons, ↓reduceIte, Nat.reduceEqDiff, reduceCtorEq, CLe_refl, CLe_top, CLe_full, CLe_nil, CLe_own, and_true, true_and]; all_goals (repeat' first | exact CLe.refl _ | exact True.intro | (refine CLe_sln ?_; first | with_reducible rfl | (simp only [List.take_zero]; done) | (rfl; done)) | exact CLe_nI (by omega) | exact CLe_int (by omega) | exact CLe_inI (by omega) | exact CLe_nIi (by omega) | with_reducible apply And.intro))
      case bd_48 =>
       rintro i hi
       refine Tr.seqK fun K26 hK26 => ?_
       refine Tr.seqK fun K27 hK27 => ?_
       refine Tr.rg hcx [] _ [] rfl rfl rfl ?_
       simp -implicitDefEqProofs (maxSteps := 2000000) (disch := first | omega | (simp only [go_sem, List.length_append, List.length_drop, List.length_take] <;> omega) | decide) only [go_sem, ↓reduceIte, Nat.reduceEqDiff, reduceCtorEq, Nat.reduceLT, Nat.reduceBEq, Nat.reduceAdd, Nat.reduceSub, Nat.reduceMul, Nat.reduceMod, z0, z1, z3, z4, z5]
       refine hK27 _ ?_
       clear hK27 K27
       refine Tr.kp [3, 4, 11, 12, 13, 14, 16, 17, 19, 111] ?_
       simp only [pk_cons, pk_nil, ↓A_cons, ↓reduceIte, Nat.reduceEqDiff]
       refine Tr.condG fun KT KF hT hF => ?_
       simp only [ev_tmp, ev_const, ↓A_cons, ↓reduceIte, Nat.reduceEqDiff, reduceCtorEq, condG_bool, GB_true, GB_false, decide_eq_true_eq]
       refine GB.dec (fun hc111 => hT ?_) (fun hc111 => hF ?_)
       ·
        clear hT hF KT KF
        refine Tr.skip ?_
        refine hK26 _ ?_
        clear hK26 K26
        refine Tr.kp [3, 4, 11, 12, 13, 14, 16, 17, 19] ?_
        simp only [pk_cons, pk_nil, ↓A_cons, ↓reduceIte, Nat.reduceEqDiff]
        refine Tr.seqK fun K28 hK28 => ?_
        refine Tr.blk ?_
        refine Tr.seqK fun K29 hK29 => ?_
        have hgi := hfq1r.2 i (by omega)
        have hgi2 : gt (endF (widI l) B W) (i + 1) = gt (endF ((widI l).drop (nxt (widI l) B W 0)) B W) i + (((nxt (widI l) B W 0) : Nat) : Int) := by rw [hrest.1]; exact map_gt_add _ _ _ (by omega) _
        have hgj := hfq1.2 (i + 1) (by omega)
        refine Tr.rgD hcx hMO [] _ [] rfl rfl rfl rfl ?_
        simp -implicitDefEqProofs (maxSteps := 2000000) (disch := first | omega | (simp only [go_sem, List.length_append, List.length_drop, List.length_take] <;> omega) | decide) only [go_sem, ↓reduceIte, Nat.reduceEqDiff, reduceCtorEq, Nat.reduceLT, Nat.reduceBEq, Nat.reduceAdd, Nat.reduceSub, Nat.reduceMul, Nat.reduceMod, z0, z1, z3, z4, z5, hgi2]
        with_reducible refine And.intro ?_ ?_
        · exact rfl
        refine hK29 _ ?_
        clear hK29 K29
        refine Tr.kp [3, 4, 11, 12, 13, 14, 16, 17, 19, 127] ?_
        simp only [pk_cons, pk_nil, ↓A_cons, ↓reduceIte, Nat.reduceEqDiff]
        refine Tr.condG fun KT KF hT hF => ?_
        simp only [ev_tmp, ev_const, ↓A_cons, ↓reduceIte, Nat.reduceEqDiff, reduceCtorEq, condG_bool, GB_true, GB_false, decide_eq_true_eq]
        refine hF ?_
        clear hT hF KT KF
        refine Tr.skip ?_
        refine hK28 _ ?_
        clear hK28 K28
        refine Tr.kp [3, 4, 11, 12, 13, 14, 16, 17, 19] ?_
        simp only [pk_cons, pk_nil, ↓A_cons, ↓reduceIte, Nat.reduceEqDiff]
        refine Tr.rg hcx [1000113] _ [] rfl rfl rfl ?_
        simp -implicitDefEqProofs (maxSteps := 2000000) (disch := first | omega | (simp only [go_sem, List.length_append, List.length_drop, List.length_take] <;> omega) | decide) only [go_sem, ↓reduceIte, Nat.reduceEqDiff, reduceCtorEq, Nat.reduceLT, Nat.reduceBEq, Nat.reduceAdd, Nat.reduceSub, Nat.reduceMul, Nat.reduceMod, z0, z1, z3, z4, z5]
        refine ⟨i + 1, ⟨by omega, by first | omega | (simp only []; omega)⟩, ?_, rfl⟩
        (simp only [Le_nil, Le_cons, ↓A_cons, ↓reduceIte, Nat.reduceEqDiff, reduceCtorEq, CLe_refl, CLe_top, CLe_full, CLe_nil, CLe_own, and_true, true_and]; all_goals (repeat' first | exact CLe.refl _ | exact True.intro | (refine CLe_sln ?_; first | with_reducible rfl | (simp only [List.take_zero]; done) | (rfl; done)) | exact CLe_nI (by omega) | exact CLe_int (by omega) | exact CLe_inI (by omega) | exact CLe_nIi (by omega) | with_reducible apply And.intro))
       ·
        clear hT hF KT KF
        refine Tr.exit ?_
        refine hK24 _ ?_
        clear hK26 K26 hK24 K24
        refine Tr.kp [3, 4, 11, 12, 13, 14] ?_
        simp only [pk_cons, pk_nil, ↓A_cons, ↓reduceIte, Nat.reduceEqDiff]
        refine Tr.seqK fun K30 hK30 => ?_
        refine Tr.rg hcx [1000130] _ [] rfl rfl rfl ?_
        simp -implicitDefEqProofs (maxSteps := 2000000) (disch := first | omega | (simp only [go_sem, List.length_append, List.length_drop, List.length_take] <;> omega) | decide) only [go_sem, ↓reduceIte, Nat.reduceEqDiff, reduceCtorEq, Nat.reduceLT, Nat.reduceBEq, Nat.reduceAdd, Nat.reduceSub, Nat.reduceMul, Nat.reduceMod, z0, z1, z3, z4, z5, e30t]
        refine hK30 _ ?_
        clear hK30 K30
        refine Tr.kp [4, 11, 12, 13, 14, 20] ?_
        simp only [pk_cons, pk_nil, ↓A_cons, ↓reduceIte, Nat.reduceEqDiff]
        refine Tr.seqK fun K31 hK31 => ?_
        refine Tr.rg hcx [] _ [] rfl rfl rfl ?_
        simp -implicitDefEqProofs (maxSteps := 2000000) (disch := first | omega | (simp only [go_sem, List.length_append, List.length_drop, List.length_take] <;> omega) | decide) only [go_sem, ↓reduceIte, Nat.reduceEqDiff, reduceCtorEq, Nat.reduceLT, Nat.reduceBEq, Nat.reduceAdd, Nat.reduceSub, Nat.reduceMul, Nat.reduceMod, z0, z1, z3, z4, z5]
        refine hK31 _ ?_
        clear hK31 K31
        refine Tr.kp [4, 11, 12, 13, 14, 20, 21] ?_
        simp only [pk_cons, pk_nil, ↓A_cons, ↓reduceIte, Nat.reduceEqDiff]
        refine Tr.seqK fun K32 hK32 => ?_
        refine Tr.seqK fun K33 hK33 => ?_
        refine Tr.rg hcx [] _ [] rfl rfl rfl ?_
        simp -implicitDefEqProofs (maxSteps := 2000000) (disch := first | omega | (simp only [go_sem, List.length_append, List.length_drop, List.length_take] <;> omega) | decide) only [go_sem, ↓reduceIte, Nat.reduceEqDiff, reduceCtorEq, Nat.reduceLT, Nat.reduceBEq, Nat.reduceAdd, Nat.reduceSub, Nat.reduceMul, Nat.reduceMod, z0, z1, z3, z4, z5]
        refine hK33 _ ?_
        clear hK33 K33
        refine Tr.kp [4, 11, 12, 13, 14, 20, 21, 22] ?_
        simp only [pk_cons, pk_nil, ↓A_cons, ↓reduceIte, Nat.reduceEqDiff]
        refine Tr.blk ?_
        refine Tr.loopI (α := Nat) (fun a => [(4, ?v4_73), (11, ?v11_73), (12, ?v12_73), (13, ?v13_73), (14, ?v14_73), (20, ?v20_73), (21, sl iC (.own 1) (((widI l).map (((((1 + aroundI times 50)) : Nat) : Int) * ·)).take a)), (22, .val (nI a))]) (fun a => ?h_73) (fun a => a ≤ (widI l).length) (fun a => (widI l).length - a) (0) (Nat.zero_le _) ?le_73 ?hh_73 ?bd_73
        case hh_73 => exact rfl
        case le_73 => (simp only [Le_nil, Le_cons, ↓A_cons, ↓reduceIte, Nat.reduceEqDiff, reduceCtorEq, CLe_refl, CLe_top, CLe_full, CLe_nil, CLe_own, and_true, true_and]; all_goals (repeat' first | exact CLe.refl _ | exact True.intro | (refine CLe_sln ?_; first | with_reducible rfl | (simp only [List.take_zero]; done) | (rfl; done)) | exact CLe_nI (by omega) | exact CLe_int (by omega) | exact CLe_inI (by omega) | exact CLe_nIi (by omega) | with_reducible apply And.intro)); all_goals exact CLe_sln rfl
        case bd_73 =>
         rintro j hj
         refine Tr.seqK fun K34 hK34 => ?_
         refine Tr.seqK fun K35 hK35 => ?_
         refine Tr.rg hcx [] _ [] rfl rfl rfl ?_
         simp -implicitDefEqProofs (maxSteps := 2000000) (disch := first | omega | (simp only [go_sem, List.length_append, List.length_drop, List.length_take] <;> omega) | decide) only [go_sem, ↓reduceIte, Nat.reduceEqDiff, reduceCtorEq, Nat.reduceLT, Nat.reduceBEq, Nat.reduceAdd, Nat.reduceSub, Nat.reduceMul, Nat.reduceMod, z0, z1, z3, z4, z5]
         refine hK35 _ ?_
         clear hK35 K35
         refine Tr.kp [4, 11, 12, 13, 14, 20, 21, 22, 134] ?_
         simp only [pk_cons, pk_nil, ↓A_cons, ↓reduceIte, Nat.reduceEqDiff]
         refine Tr.condG fun KT KF hT hF => ?_
         simp only [ev_tmp, ev_const, ↓A_cons, ↓reduceIte, Nat.reduceEqDiff, reduceCtorEq, condG_bool, GB_true, GB_false, decide_eq_true_eq]
         refine GB.dec (fun hc134 => hT ?_) (fun hc134 => hF ?_)
         ·
          clear hT hF KT KF
          refine Tr.skip ?_
          refine hK34 _ ?_
          clear hK34 K34
          refine Tr.kp [4, 11, 12, 13, 14, 20, 21, 22] ?_
          simp only [pk_cons, pk_nil, ↓A_cons, ↓reduceIte, Nat.reduceEqDiff]
          refine Tr.seqK fun K36 hK36 => ?_
          refine Tr.blk ?_
          have hgw := wid_b l j (by omega)
          have hmg := mul_b hTr (x := gt (widI l) j) (m := 9) ⟨by omega, by omega⟩
          refine Tr.rg hcx [137, 1000145] _ [] rfl rfl rfl ?_
          simp -implicitDefEqProofs (maxSteps := 2000000) (disch := first | omega | (simp only [go_sem, List.length_append, List.length_drop, List.length_take] <;> omega) | decide) only [go_sem, ↓reduceIte, Nat.reduceEqDiff, reduceCtorEq, Nat.reduceLT, Nat.reduceBEq, Nat.reduceAdd, Nat.reduceSub, Nat.reduceMul, Nat.reduceMod, z0, z1, z3, z4, z5]
          refine hK36 _ ?_
          clear hK36 K36
          refine Tr.kp [4, 11, 12, 13, 14, 20, 21, 22] ?_
          simp only [pk_cons, pk_nil, ↓A_cons, ↓reduceIte, Nat.reduceEqDiff]
          refine Tr.rg hcx [1000136] _ [] rfl rfl rfl ?_
          simp -implicitDefEqProofs (maxSteps := 2000000) (disch := first | omega | (simp only [go_sem, List.length_append, List.length_drop, List.length_take] <;> omega) | decide) only [go_sem, ↓reduceIte, Nat.reduceEqDiff, reduceCtorEq, Nat.reduceLT, Nat.reduceBEq, Nat.reduceAdd, Nat.reduceSub, Nat.reduceMul, Nat.reduceMod, z0, z1, z3, z4, z5]
          refine ⟨j + 1, ⟨by omega, by first | omega | (simp only []; omega)⟩, ?_, rfl⟩
          (simp only [Le_nil, Le_cons, ↓A_cons, ↓reduceIte, Nat.reduceEqDiff, reduceCtorEq, CLe_refl, CLe_top, CLe_full, CLe_nil, CLe_own, and_true, true_and]; all_goals (repeat' first | exact CLe.refl _ | exact True.intro | (refine CLe_sln ?_; first | with_reducible rfl | (simp only [List.take_zero]; done) | (rfl; done)) | exact CLe_nI (by omega) | exact CLe_int (by omega) | exact CLe_inI (by omega) | exact CLe_nIi (by omega) | with_reducible apply And.intro))
          all_goals (rw [big_S _ _ _ (by omega)]; exact CLe.refl _)
         ·
          clear hT hF KT KF
          obtain rfl : j = (widI l).length := by omega
          have htk : ((widI l).map (((((1 + aroundI times 50)) : Nat) : Int) * ·)).take (widI l).length = ((widI l).map (((((1 + aroundI times 50)) : Nat) : Int) * ·)) := List.take_of_length_le (by omega)
          refine Tr.exit ?_
          refine hK32 _ ?_
          clear hK34 K34 hK32 K32
          refine Tr.kp [4, 11, 12, 13, 14, 20, 21] ?_
          simp only [pk_cons, pk_nil, ↓A_cons, ↓reduceIte, Nat.reduceEqDiff]
          refine Tr.seqK fun K37 hK37 => ?_
          refine Tr.rg hcx [1000156] _ [none] rfl rfl rfl ?_
          simp -implicitDefEqProofs (maxSteps := 2000000) (disch := first | omega | (simp only [go_sem, List.length_append, List.length_drop, List.length_take] <;> omega) | decide) only [go_sem, ↓reduceIte, Nat.reduceEqDiff, reduceCtorEq, Nat.reduceLT, Nat.reduceBEq, Nat.reduceAdd, Nat.reduceSub, Nat.reduceMul, Nat.reduceMod, z0, z1, z3, z4, z5, htk, e11b]
          refine hK37 _ ?_
          clear hK37 K37
          refine Tr.kp [4, 11, 12, 13, 14, 20, 23, 24] ?_
          simp only [pk_cons, pk_nil, ↓A_cons, ↓reduceIte, Nat.reduceEqDiff]
          refine Tr.seqK fun K38 hK38 => ?_
          refine Tr.rg hcx [1000166] _ [none] rfl rfl rfl ?_
          simp -implicitDefEqProofs (maxSteps := 2000000) (disch := first | omega | (simp only [go_sem, List.length_append, List.length_drop, List.length_take] <;> omega) | decide) only [go_sem, ↓reduceIte, Nat.reduceEqDiff, reduceCtorEq, Nat.reduceLT, Nat.reduceBEq, Nat.reduceAdd, Nat.reduceSub, Nat.reduceMul, Nat.reduceMod, z0, z1, z3, z4, z5, e30w, e11y]
          refine hK38 _ ?_
          clear hK38 K38
          refine Tr.kp [14, 20, 23, 24, 25, 26] ?_
          simp only [pk_cons, pk_nil, ↓A_cons, ↓reduceIte, Nat.reduceEqDiff]
          refine Tr.seqK fun K39 hK39 => ?_
          refine Tr.seqK fun K40 hK40 => ?_
          refine Tr.rg hcx [] [some 167, some 168, some 169, some 170, some 171, some 172, some 173, some 174, some 175, some 176, some 177, some 178, some 179, some 180, some 181, some 182, some 183, some 184, some 185, some 186, some 187] [] rfl rfl rfl ?_
          simp -implicitDefEqProofs (maxSteps := 2000000) (disch := first | omega | (simp only [go_sem, List.length_append, List.length_drop, List.length_take] <;> omega) | decide) only [go_sem, ↓reduceIte, Nat.reduceEqDiff, reduceCtorEq, Nat.reduceLT, Nat.reduceBEq, Nat.reduceAdd, Nat.reduceSub, Nat.reduceMul, Nat.reduceMod, z0, z1, z3, z4, z5, hcl, hyl]
          refine hK40 _ ?_
          clear hK40 K40
          refine Tr.kp [14, 20, 23, 25, 187] ?_
          simp only [pk_cons, pk_nil, ↓A_cons, ↓reduceIte, Nat.reduceEqDiff]
          refine Tr.condG fun KT KF hT hF => ?_
          simp only [ev_tmp, ev_const, ↓A_cons, ↓reduceIte, Nat.reduceEqDiff, reduceCtorEq, condG_bool, GB_true, GB_false, decide_eq_true_eq]
          refine hF ?_
          clear hT hF KT KF
          refine Tr.skip ?_
          refine hK39 _ ?_
          clear hK39 K39
          refine Tr.kp [14, 20, 23, 25] ?_
          simp only [pk_cons, pk_nil, ↓A_cons, ↓reduceIte, Nat.reduceEqDiff]
          refine Tr.seqK fun K41 hK41 => ?_
          refine Tr.rgD hcx hMO [1000221] [some 188, some 189, some 190, some 191, some 192, some 193, some 194, some 195, some 196, some 197, some 198, some 199, some 200, some 201, some 202, some 203, some 204, some 205, some 206, some 207, some 208, some 209, some 210, some 211, some 212, some 213, some 214, some 215, some 216, some 217, some 218, some 219, some 220, some 221, some 10] [] rfl rfl rfl rfl ?_
          simp -implicitDefEqProofs (maxSteps := 2000000) (disch := first | omega | (simp only [go_sem, List.length_append, List.length_drop, List.length_take] <;> omega) | decide) only [go_sem, ↓reduceIte, Nat.reduceEqDiff, reduceCtorEq, Nat.reduceLT, Nat.reduceBEq, Nat.reduceAdd, Nat.reduceSub, Nat.reduceMul, Nat.reduceMod, z0, z1, z3, z4, z5, e17, hD2e, hxk, hyk, h18]
          with_reducible refine And.intro ?_ ?_
          · exact rfl
          refine hK41 _ ?_
          clear hK41 K41
          refine Tr.kp [10] ?_
          simp only [pk_cons, pk_nil, ↓A_cons, ↓reduceIte, Nat.reduceEqDiff]
          refine Tr.ret ?_
          simp -implicitDefEqProofs (disch := first | omega | (simp only [go_sem, List.length_append, List.length_drop, List.length_take] <;> omega) | decide) only [go_sem, ↓reduceIte, Nat.reduceEqDiff, reduceCtorEq]
          all_goals (rfl)
  ·
   replace z1 : wideW (widI l) W = true := by simpa using z1
   have e11 : pu 11 [sl iC .no (widI l), .val (.int .i64 B), .val (.int .i64 W)] = some (.tup [.agg [sl iC .no [], sl iC .no [], sl iC .no []], .val (nI 21)]) := (h11 (widI l) B W hwl hB hW).trans (by rw [fill_w z0o z1])
   refine Tr.rg hcx [1000041] _ [none] rfl rfl rfl ?_
   simp -implicitDefEqProofs (maxSteps := 2000000) (disch := first | omega | (simp only [go_sem, List.length_append, List.length_drop, List.length_take] <;> omega) | decide) only [go_sem, ↓reduceIte, Nat.reduceEqDiff, reduceCtorEq, Nat.reduceLT, Nat.reduceBEq, Nat.reduceAdd, Nat.reduceSub, Nat.reduceMul, Nat.reduceMod, z0, z1, e11]
   refine hK4 _ ?_
   clear hK4 K4
   refine Tr.kp [3, 4, 11, 12, 13, 14, 15] ?_
   simp only [pk_cons, pk_nil, ↓A_cons, ↓reduceIte, Nat.reduceEqDiff]
   refine Tr.seqK fun K42 hK42 => ?_
   refine Tr.seqK fun K43 hK43 => ?_
   refine Tr.rg hcx [] [some 42, some 43, some 44, some 45, some 46, some 47, some 48, some 49, some 50, some 51, some 52, some 53, some 54, some 55, some 56] [] rfl rfl rfl ?_
   simp -implicitDefEqProofs (maxSteps := 2000000) (disch := first | omega | (simp only [go_sem, List.length_append, List.length_drop, List.length_take] <;> omega) | decide) only [go_sem, ↓reduceIte, Nat.reduceEqDiff, reduceCtorEq, Nat.reduceLT, Nat.reduceBEq, Nat.reduceAdd, Nat.reduceSub, Nat.reduceMul, Nat.reduceMod, z0, z1]
   refine hK43 _ ?_
   clear hK43 K43
   refine Tr.kp [3, 4, 11, 12, 13, 14, 56] ?_
   simp only [pk_cons, pk_nil, ↓A_cons, ↓reduceIte, Nat.reduceEqDiff]
   refine Tr.condG fun KT KF hT hF => ?_
   simp only [ev_tmp, ev_const, ↓A_cons, ↓reduceIte, Nat.reduceEqDiff, reduceCtorEq, condG_bool, GB_true, GB_false, decide_eq_true_eq]
   refine hT ?_
   clear hT hF KT KF
   refine Tr.seqK fun K44 hK44 => ?_
   refine Tr.rg hcx [1000057] _ [] rfl rfl rfl ?_
   simp -implicitDefEqProofs (maxSteps := 2000000) (disch := first | omega | (simp only [go_sem, List.length_append, List.length_drop, List.length_take] <;> omega) | decide) only [go_sem, ↓reduceIte, Nat.reduceEqDiff, reduceCtorEq, Nat.reduceLT, Nat.reduceBEq, Nat.reduceAdd, Nat.reduceSub, Nat.reduceMul, Nat.reduceMod, z0, z1, h18]
   refine hK44 _ ?_
   clear hK44 K44
   refine Tr.kp [10] ?_
   simp only [pk_cons, pk_nil, ↓A_cons, ↓reduceIte, Nat.reduceEqDiff]
   refine Tr.ret ?_
   simp -implicitDefEqProofs (disch := first | omega | (simp only [go_sem, List.length_append, List.length_drop, List.length_take] <;> omega) | decide) only [go_sem, ↓reduceIte, Nat.reduceEqDiff, reduceCtorEq]
   all_goals (rfl)
 ·
  have z0o := z0
  have e11 : pu 11 [sl iC .no (widI l), .val (.int .i64 B), .val (.int .i64 W)] = some (.tup [.agg [sl iC .no [], sl iC .no [], sl iC .no []], .val (nI (errE (widI l) B W))]) := (h11 (widI l) B W hwl hB hW).trans (by rw [fill_e z0])
  replace z0 := eq_false z0
  refine Tr.rg hcx [1000041] _ [none] rfl rfl rfl ?_
  simp -implicitDefEqProofs (maxSteps := 2000000) (disch := first | omega | (simp only [go_sem, List.length_append, List.length_drop, List.length_take] <;> omega) | decide) only [go_sem, ↓reduceIte, Nat.reduceEqDiff, reduceCtorEq, Nat.reduceLT, Nat.reduceBEq, Nat.reduceAdd, Nat.reduceSub, Nat.reduceMul, Nat.reduceMod, z0, e11]
  refine hK4 _ ?_
  clear hK4 K4
  refine Tr.kp [3, 4, 11, 12, 13, 14, 15] ?_
  simp only [pk_cons, pk_nil, ↓A_cons, ↓reduceIte, Nat.reduceEqDiff]
  refine Tr.seqK fun K45 hK45 => ?_
  refine Tr.seqK fun K46 hK46 => ?_
  refine Tr.rg hcx [] [some 42, some 43, some 44, some 45, some 46, some 47, some 48, some 49, some 50, some 51, some 52, some 53, some 54, some 55, some 56] [] rfl rfl rfl ?_
  simp -implicitDefEqProofs (maxSteps := 2000000) (disch := first | omega | (simp only [go_sem, List.length_append, List.length_drop, List.length_take] <;> omega) | decide) only [go_sem, ↓reduceIte, Nat.reduceEqDiff, reduceCtorEq, Nat.reduceLT, Nat.reduceBEq, Nat.reduceAdd, Nat.reduceSub, Nat.reduceMul, Nat.reduceMod, z0]
  refine hK46 _ ?_
  clear hK46 K46
  refine Tr.kp [3, 4, 11, 12, 13, 14, 56] ?_
  simp only [pk_cons, pk_nil, ↓A_cons, ↓reduceIte, Nat.reduceEqDiff]
  refine Tr.condG fun KT KF hT hF => ?_
  simp only [ev_tmp, ev_const, ↓A_cons, ↓reduceIte, Nat.reduceEqDiff, reduceCtorEq, condG_bool, GB_true, GB_false, decide_eq_true_eq]
  refine hT ?_
  clear hT hF KT KF
  refine Tr.seqK fun K47 hK47 => ?_
  refine Tr.rg hcx [1000057] _ [] rfl rfl rfl ?_
  simp -implicitDefEqProofs (maxSteps := 2000000) (disch := first | omega | (simp only [go_sem, List.length_append, List.length_drop, List.length_take] <;> omega) | decide) only [go_sem, ↓reduceIte, Nat.reduceEqDiff, reduceCtorEq, Nat.reduceLT, Nat.reduceBEq, Nat.reduceAdd, Nat.reduceSub, Nat.reduceMul, Nat.reduceMod, z0, h18]
  refine hK47 _ ?_
  clear hK47 K47
  refine Tr.kp [10] ?_
  simp only [pk_cons, pk_nil, ↓A_cons, ↓reduceIte, Nat.reduceEqDiff]
  refine Tr.ret ?_
  simp -implicitDefEqProofs (disch := first | omega | (simp only [go_sem, List.length_append, List.length_drop, List.length_take] <;> omega) | decide) only [go_sem, ↓reduceIte, Nat.reduceEqDiff, reduceCtorEq]
  all_goals (rfl)
end Go.Sx
