/-
  Package breaks: the law of the best division. And what follows.
-/
import Derived.Test.YtljjjkmiegeocaaPax
set_option linter.unusedSimpArgs false
set_option linter.unusedVariables false
namespace Go.Sx
open Go.RowKit Go.Proofs
set_option maxRecDepth 100000 in
set_option maxHeartbeats 8000000 in
theorem fc6 {gl : Nat → C} {M : Nat} {pu : Nat → List C → Option C}  (hcx : CxOK (cxP gl M pu)) (h9 : ∀ b w : Int, (-9223372036854775808 ≤ b ∧ b ≤ 9223372036854775807) → (-9223372036854775808 ≤ w ∧ w ≤ 9223372036854775807) → pu 9 [.val (.int .i64 b), .val (.int .i64 w)] = some (.tup [.val (.int .i64 (pageB b)), .val (.int .i64 (pageW w))])) (h10 : ∀ l : List Int, LI l → pu 10 [sl iC .no l] = some (sl iC (.own 1) (widI l))) (h11 : ∀ (l : List Int) (b w : Int), LI l → (-9223372036854775808 ≤ b ∧ b ≤ 9223372036854775807) → (-9223372036854775808 ≤ w ∧ w ≤ 9223372036854775807) → pu 11 [sl iC .no l, .val (.int .i64 b), .val (.int .i64 w)] = some (.tup [.agg [sl iC .no (fillT l b w).1, sl iC .no (fillT l b w).2.1, sl iC .no (fillT l b w).2.2.1], .val (nI (fillT l b w).2.2.2)])) (h26 : ∀ (l : List Int) (w : Int), LI l → pu 26 [sl iC .no l, .val (.int .i64 w)] = some (.val (.bool (wideW l w)))) (h27 : ∀ (l : List Int) (b w : Int), LI l → (-9223372036854775808 ≤ b ∧ b ≤ 9223372036854775807) → (-9223372036854775808 ≤ w ∧ w ≤ 9223372036854775807) → pu 27 [sl iC .no l, .val (.int .i64 b), .val (.int .i64 w)] = some (.val (nI (errE l b w)))) (h21 : ∀ (l : List Int) (b w : Int) (e : List Int), LI l → (-9223372036854775808 ≤ b ∧ b ≤ 9223372036854775807) → (-9223372036854775808 ≤ w ∧ w ≤ 9223372036854775807) → LI e → pu 21 [sl iC .no l, .val (.int .i64 b), .val (.int .i64 w), sl iC .no e] = some (.tup [.val (nI (costT l b w e).1), .val (.int .i64 (costT l b w e).2.1), .val (nI (costT l b w e).2.2)])) (h23 : ∀ (l : List Int) (b w : Int) (E L K : List Int), LI l → (-9223372036854775808 ≤ b ∧ b ≤ 9223372036854775807) → (-9223372036854775808 ≤ w ∧ w ≤ 9223372036854775807) → LI E → LI L → LI K → pu 23 [sl iC .no l, .val (.int .i64 b), .val (.int .i64 w), .agg [sl iC .no E, sl iC .no L, sl iC .no K]] = some (.val (nI (chkT l b w E L K)))) (h16 : ∀ (x1 x2 x3 : List Int), pu 16 [.agg [sl iC .no x1, sl iC .no x2, sl iC .no x3]] = some (.agg [sl iC .no x1, sl iC .no x2, sl iC .no x3])) (h20 : ∀ (E L K : List Int) (h p : Int), LI E → LI L → LI K → E.length ≤ 1000000 → L.length ≤ 1000000 → K.length ≤ 1000000 → (-9223372036854775808 ≤ h ∧ h ≤ 9223372036854775807) → (-9223372036854775808 ≤ p ∧ p ≤ 9223372036854775807) → pu 20 [.agg [sl iC .no E, sl iC .no L, sl iC .no K], .val (.int .i64 h), .val (.int .i64 p)] = some (.agg [sl iC .no (bentT E L K h p).1, sl iC .no (bentT E L K h p).2.1, sl iC .no (bentT E L K h p).2.2])) (h19 : ∀ (n : Nat) (x : Int), n ≤ 1000000 → (-9223372036854775808 ≤ x ∧ x ≤ 9223372036854775807) → pu 19 [.val (nI n), .val (.int .i64 x)] = some (sl iC (.own 1) (endsI n x))) (h28 : ∀ x y z w : Int, pu 28 [.val (.int .i64 x), .val (.int .i64 y), .val (.int .i64 z), .val (.int .i64 w)] = some (.val (.bool (befI x y z w)))) (h29 : ∀ x y : List Int, LI x → LI y → pu 29 [sl iC .no x, sl iC .no y] = some (.val (.bool (smaL x y)))) (h13 : ∀ (l : List Int) (b w : Int), LI l → (-9223372036854775808 ≤ b ∧ b ≤ 9223372036854775807) → (-9223372036854775808 ≤ w ∧ w ≤ 9223372036854775807) → pu 13 [sl iC .no l, .val (.int .i64 b), .val (.int .i64 w)] = some (.tup [sl iC .no (greT l b w).1, .val (nI (greT l b w).2)])) (h18 : pu 18 [] = some (.val (.bool true))) (l : List Int) (n m how by_ : Int) (hl : LI l) (hn : -9223372036854775808 ≤ n ∧ n ≤ 9223372036854775807) (hm : -9223372036854775808 ≤ m ∧ m ≤ 9223372036854775807) (hhow : -9223372036854775808 ≤ how ∧ how ≤ 9223372036854775807) (hby : -9223372036854775808 ≤ by_ ∧ by_ ≤ 9223372036854775807) : FC Try.prog gl 6 [sl iC .no l, .val (.int .i64 n), .val (.int .i64 m), .val (.int .i64 how), .val (.int .i64 by_)] [] (.val (.bool true)) [] := by
 replace hcx := hcx.reN (M := 182)
 refine FC.ofA (cx := cxP gl 182 pu) (rs := [.tmp 10]) rfl Try.func6 rfl rfl rfl (by simp only [List.length_cons, List.length_nil]; decide) (by simp only [go_sem]) ?_
 simp only [ini, go_sem]
 have h9' := h9 n m hn hm
 have h10' := h10 l hl
 have hl1 := hl.1
 have hpb := pageB_b n
 have hpw := pageW_b m
 have hwl := wid_LI l
 have hwn := wid_len l
 generalize pageB n = B at *
 generalize pageW m = W at *
 have hB : -9223372036854775808 ≤ B ∧ B ≤ 9223372036854775807 := by omega
 have hW : -9223372036854775808 ≤ W ∧ W ≤ 9223372036854775807 := by omega
 have h26' := h26 (widI l) W hwl
 have h27' := h27 (widI l) B W hwl hB hW
 refine Tr.seqK fun K1 hK1 => ?_
 refine Tr.rg hcx [] _ [] rfl rfl rfl ?_
 simp -implicitDefEqProofs (maxSteps := 2000000) (disch := first | omega | (simp only [go_sem, List.length_append, List.length_drop, List.length_take] <;> omega) | decide) only [go_sem, ↓reduceIte, Nat.reduceEqDiff, reduceCtorEq, Nat.reduceLT, Nat.reduceBEq, Nat.reduceAdd, Nat.reduceSub, Nat.reduceMul, Nat.reduceMod]
 refine hK1 _ ?_
 clear hK1 K1
 refine Tr.kp [0, 1, 2, 3, 4] ?_
 simp only [pk_cons, pk_nil, ↓A_cons, ↓reduceIte, Nat.reduceEqDiff]
 refine Tr.seqK fun K2 hK2 => ?_
 refine Tr.rg hcx [1000036, 1000037] _ [] rfl rfl rfl ?_
 simp -implicitDefEqProofs (maxSteps := 2000000) (disch := first | omega | (simp only [go_sem, List.length_append, List.length_drop, List.length_take] <;> omega) | decide) only [go_sem, ↓reduceIte, Nat.reduceEqDiff, reduceCtorEq, Nat.reduceLT, Nat.reduceBEq, Nat.reduceAdd, Nat.reduceSub, Nat.reduceMul, Nat.reduceMod, h9']
 refine hK2 _ ?_
 clear hK2 K2
 refine Tr.kp [0, 3, 4, 11, 12] ?_
 simp only [pk_cons, pk_nil, ↓A_cons, ↓reduceIte, Nat.reduceEqDiff]
 refine Tr.seqK fun K3 hK3 => ?_
 refine Tr.rg hcx [1000039] _ [] rfl rfl rfl ?_
 simp -implicitDefEqProofs (maxSteps := 2000000) (disch := first | omega | (simp only [go_sem, List.length_append, List.length_drop, List.length_take] <;> omega) | decide) only [go_sem, ↓reduceIte, Nat.reduceEqDiff, reduceCtorEq, Nat.reduceLT, Nat.reduceBEq, Nat.reduceAdd, Nat.reduceSub, Nat.reduceMul, Nat.reduceMod, h10']
 refine hK3 _ ?_
 clear hK3 K3
 refine Tr.kp [3, 4, 11, 12, 13] ?_
 simp only [pk_cons, pk_nil, ↓A_cons, ↓reduceIte, Nat.reduceEqDiff]
 refine Tr.seqK fun K4 hK4 => ?_
 by_cases z0 : errE (widI l) B W = 0
 ·
  have z0o := z0
  by_cases z1 : wideW (widI l) W = false
  ·
   have hfo := fill_ok (widI l) B W
   have hfe := fill_0 (l := (widI l)) (b := B) (w := W) z0o (fun i hi => wideW_n z1 i hi)
   rw [hfe] at hfo
   have hf1 : LI (endF (widI l) B W) := hfo.1.li (by decide)
   have hf2 : LI (dp (widI l) B W (widI l).length).1 := hfo.2.1.li (by decide)
   have hf3 : LI (dp (widI l) B W (widI l).length).2 := hfo.2.2.li (by decide)
   have hfl1 : (endF (widI l) B W).length ≤ 257 := hfo.1.1
   have hfl2 : (dp (widI l) B W (widI l).length).1.length ≤ 257 := hfo.2.1.1
   have hfl3 : (dp (widI l) B W (widI l).length).2.length ≤ 257 := hfo.2.2.1
   have e11 : pu 11 [sl iC .no (widI l), .val (.int .i64 B), .val (.int .i64 W)] = some (.tup [.agg [sl iC .no (endF (widI l) B W), sl iC .no (dp (widI l) B W (widI l).length).1, sl iC .no (dp (widI l) B W (widI l).length).2], .val (nI 0)]) := (h11 (widI l) B W hwl hB hW).trans (by rw [hfe])
   have e21 : pu 21 [sl iC .no (widI l), .val (.int .i64 B), .val (.int .i64 W), sl iC .no (endF (widI l) B W)] = some (.tup [.val (nI (endF (widI l) B W).length), .val (.int .i64 (dK (widI l) B W 0)), .val (nI 0)]) := (h21 (widI l) B W (endF (widI l) B W) hwl hB hW hf1).trans (by rw [best_cost z0o z1])
   have e23 : pu 23 [sl iC .no (widI l), .val (.int .i64 B), .val (.int .i64 W), .agg [sl iC .no (endF (widI l) B W), sl iC .no (dp (widI l) B W (widI l).length).1, sl iC .no (dp (widI l) B W (widI l).length).2]] = some (.val (nI 0)) := (h23 (widI l) B W (endF (widI l) B W) (dp (widI l) B W (widI l).length).1 (dp (widI l) B W (widI l).length).2 hwl hB hW hf1 hf2 hf3).trans (by rw [best_chk z0o z1])
   have e16 := h16 (endF (widI l) B W) (dp (widI l) B W (widI l).length).1 (dp (widI l) B W (widI l).length).2
   have e20 := h20 (endF (widI l) B W) (dp (widI l) B W (widI l).length).1 (dp (widI l) B W (widI l).length).2 how by_ hf1 hf2 hf3 (by omega) (by omega) (by omega) hhow hby
   have hb1 := bent_ok (n := 257) (E := (endF (widI l) B W)) (L := (dp (widI l) B W (widI l).length).1) (K := (dp (widI l) B W (widI l).length).2) hfo.1 hfo.2.1 hfo.2.2 how by_
   have hbl := best_greedy z0o z1
   have hgo := gre_ok (widI l) B W
   rw [hbl.1] at hgo
   have e13 : pu 13 [sl iC .no (widI l), .val (.int .i64 B), .val (.int .i64 W)] = some (.tup [sl iC .no (greL (widI l) B W), .val (nI 0)]) := (h13 (widI l) B W hwl hB hW).trans (by rw [hbl.1])
   have e21g : pu 21 [sl iC .no (widI l), .val (.int .i64 B), .val (.int .i64 W), sl iC .no (greL (widI l) B W)] = some (.tup [.val (nI (endF (widI l) B W).length), .val (.int .i64 (costT (widI l) B W (greL (widI l) B W)).2.1), .val (nI 0)]) := (h21 (widI l) B W (greL (widI l) B W) hwl hB hW (hgo.li (by decide))).trans (by rw [hbl.2.1, hbl.2.2.1])
   have hge := eq_true hbl.2.2.2
   refine Tr.rg hcx [1000046] _ [none] rfl rfl rfl ?_
   simp -implicitDefEqProofs (maxSteps := 2000000) (disch := first | omega | (simp only [go_sem, List.length_append, List.length_drop, List.length_take] <;> omega) | decide) only [go_sem, ↓reduceIte, Nat.reduceEqDiff, reduceCtorEq, Nat.reduceLT, Nat.reduceBEq, Nat.reduceAdd, Nat.reduceSub, Nat.reduceMul, Nat.reduceMod, z0, z1, e11]
   refine hK4 _ ?_
   clear hK4 K4
   refine Tr.kp [3, 4, 11, 12, 13, 14, 15] ?_
   simp only [pk_cons, pk_nil, ↓A_cons, ↓reduceIte, Nat.reduceEqDiff]
   refine Tr.seqK fun K5 hK5 => ?_
   refine Tr.seqK fun K6 hK6 => ?_
   refine Tr.rg hcx [] _ [] rfl rfl rfl ?_
   simp -implicitDefEqProofs (maxSteps := 2000000) (disch := first | omega | (simp only [go_sem, List.length_append, List.length_drop, List.length_take] <;> omega) | decide) only [go_sem, ↓reduceIte, Nat.reduceEqDiff, reduceCtorEq, Nat.reduceLT, Nat.reduceBEq, Nat.reduceAdd, Nat.reduceSub, Nat.reduceMul, Nat.reduceMod, z0, z1]
   refine hK6 _ ?_
   clear hK6 K6
   refine Tr.kp [3, 4, 11, 12, 13, 14, 48] ?_
   simp only [pk_cons, pk_nil, ↓A_cons, ↓reduceIte, Nat.reduceEqDiff]
   refine Tr.condG fun KT KF hT hF => ?_
   simp only [ev_tmp, ev_const, ↓A_cons, ↓reduceIte, Nat.reduceEqDiff, reduceCtorEq, condG_bool, GB_true, GB_false, decide_eq_true_eq]
   refine hF ?_
   clear hT hF KT KF
   refine Tr.skip ?_
   refine hK5 _ ?_
   clear hK5 K5
   refine Tr.kp [3, 4, 11, 12, 13, 14] ?_
   simp only [pk_cons, pk_nil, ↓A_cons, ↓reduceIte, Nat.reduceEqDiff]
   refine Tr.seqK fun K7 hK7 => ?_
   refine Tr.rg hcx [1000069, 1000070, 1000071] _ [] rfl rfl rfl ?_
   simp -implicitDefEqProofs (maxSteps := 2000000) (disch := first | omega | (simp only [go_sem, List.length_append, List.length_drop, List.length_take] <;> omega) | decide) only [go_sem, ↓reduceIte, Nat.reduceEqDiff, reduceCtorEq, Nat.reduceLT, Nat.reduceBEq, Nat.reduceAdd, Nat.reduceSub, Nat.reduceMul, Nat.reduceMod, z0, z1, e21]
   refine hK7 _ ?_
   clear hK7 K7
   refine Tr.kp [3, 4, 11, 12, 13, 14, 16, 17, 18] ?_
   simp only [pk_cons, pk_nil, ↓A_cons, ↓reduceIte, Nat.reduceEqDiff]
   refine Tr.seqK fun K8 hK8 => ?_
   refine Tr.seqK fun K9 hK9 => ?_
   refine Tr.rg hcx [] [some 72, some 73, some 74, some 75, some 76, some 77, some 78, some 79, some 80, some 81] [] rfl rfl rfl ?_
   simp -implicitDefEqProofs (maxSteps := 2000000) (disch := first | omega | (simp only [go_sem, List.length_append, List.length_drop, List.length_take] <;> omega) | decide) only [go_sem, ↓reduceIte, Nat.reduceEqDiff, reduceCtorEq, Nat.reduceLT, Nat.reduceBEq, Nat.reduceAdd, Nat.reduceSub, Nat.reduceMul, Nat.reduceMod, z0, z1, e23]
   refine hK9 _ ?_
   clear hK9 K9
   refine Tr.kp [3, 4, 11, 12, 13, 14, 16, 17, 81] ?_
   simp only [pk_cons, pk_nil, ↓A_cons, ↓reduceIte, Nat.reduceEqDiff]
   refine Tr.condG fun KT KF hT hF => ?_
   simp only [ev_tmp, ev_const, ↓A_cons, ↓reduceIte, Nat.reduceEqDiff, reduceCtorEq, condG_bool, GB_true, GB_false, decide_eq_true_eq]
   refine hF ?_
   clear hT hF KT KF
   refine Tr.skip ?_
   refine hK8 _ ?_
   clear hK8 K8
   refine Tr.kp [3, 4, 11, 12, 13, 14, 16, 17] ?_
   simp only [pk_cons, pk_nil, ↓A_cons, ↓reduceIte, Nat.reduceEqDiff]
   refine Tr.seqK fun K10 hK10 => ?_
   refine Tr.rg hcx [] _ [none] rfl rfl rfl ?_
   simp -implicitDefEqProofs (maxSteps := 2000000) (disch := first | omega | (simp only [go_sem, List.length_append, List.length_drop, List.length_take] <;> omega) | decide) only [go_sem, ↓reduceIte, Nat.reduceEqDiff, reduceCtorEq, Nat.reduceLT, Nat.reduceBEq, Nat.reduceAdd, Nat.reduceSub, Nat.reduceMul, Nat.reduceMod, z0, z1, e16, e20]
   refine hK10 _ ?_
   clear hK10 K10
   refine Tr.kp [11, 12, 13, 14, 16, 17, 19] ?_
   simp only [pk_cons, pk_nil, ↓A_cons, ↓reduceIte, Nat.reduceEqDiff]
   refine Tr.seqK fun K11 hK11 => ?_
   refine Tr.seqK fun K12 hK12 => ?_
   refine Tr.rg hcx [] _ [] rfl rfl rfl ?_
   simp -implicitDefEqProofs (maxSteps := 2000000) (disch := first | omega | (simp only [go_sem, List.length_append, List.length_drop, List.length_take] <;> omega) | decide) only [go_sem, ↓reduceIte, Nat.reduceEqDiff, reduceCtorEq, Nat.reduceLT, Nat.reduceBEq, Nat.reduceAdd, Nat.reduceSub, Nat.reduceMul, Nat.reduceMod, z0, z1]
   refine hK12 _ ?_
   clear hK12 K12
   refine Tr.kp [11, 12, 13, 14, 16, 17, 19, 20] ?_
   simp only [pk_cons, pk_nil, ↓A_cons, ↓reduceIte, Nat.reduceEqDiff]
   refine Tr.blk ?_
   refine Tr.loopI (α := Nat) (fun a => [(11, ?v11_32), (12, ?v12_32), (13, ?v13_32), (14, ?v14_32), (16, ?v16_32), (17, ?v17_32), (19, ?v19_32), (20, .val (nI (2 * a)))]) (fun a => [some [sl iC .no (endF (widI l) B W), sl iC .no (dp (widI l) B W (widI l).length).1, sl iC .no (dp (widI l) B W (widI l).length).2], some [sl iC .no (bentT (endF (widI l) B W) (dp (widI l) B W (widI l).length).1 (dp (widI l) B W (widI l).length).2 how by_).1, sl iC .no (bentT (endF (widI l) B W) (dp (widI l) B W (widI l).length).1 (dp (widI l) B W (widI l).length).2 how by_).2.1, sl iC .no (bentT (endF (widI l) B W) (dp (widI l) B W (widI l).length).1 (dp (widI l) B W (widI l).length).2 how by_).2.2]]) (fun a => a ≤ 256) (fun a => 256 - a) (0) (by decide) ?le_32 ?hh_32 ?bd_32
   case hh_32 => exact rfl
   case le_32 => (simp only [Le_nil, Le_cons, ↓A_cons, ↓reduceIte, Nat.reduceEqDiff, reduceCtorEq, CLe_refl, CLe_top, CLe_full, CLe_nil, CLe_own, and_true, true_and]; all_goals (repeat' first | exact CLe.refl _ | exact True.intro | (refine CLe_sln ?_; first | with_reducible rfl | (simp only [List.take_zero]; done) | (rfl; done)) | exact CLe_nI (by omega) | exact CLe_int (by omega) | exact CLe_inI (by omega) | exact CLe_nIi (by omega) | with_reducible apply And.intro))
   case bd_32 =>
    rintro k hk
    refine Tr.seqK fun K13 hK13 => ?_
    refine Tr.seqK fun K14 hK14 => ?_
    refine Tr.rg hcx [] _ [] rfl rfl rfl ?_
    simp -implicitDefEqProofs (maxSteps := 2000000) (disch := first | omega | (simp only [go_sem, List.length_append, List.length_drop, List.length_take] <;> omega) | decide) only [go_sem, ↓reduceIte, Nat.reduceEqDiff, reduceCtorEq, Nat.reduceLT, Nat.reduceBEq, Nat.reduceAdd, Nat.reduceSub, Nat.reduceMul, Nat.reduceMod, z0, z1]
    refine hK14 _ ?_
    clear hK14 K14
    refine Tr.kp [11, 12, 13, 14, 16, 17, 19, 20, 88] ?_
    simp only [pk_cons, pk_nil, ↓A_cons, ↓reduceIte, Nat.reduceEqDiff]
    refine Tr.condG fun KT KF hT hF => ?_
    simp only [ev_tmp, ev_const, ↓A_cons, ↓reduceIte, Nat.reduceEqDiff, reduceCtorEq, condG_bool, GB_true, GB_false, decide_eq_true_eq]
    refine GB.dec (fun hc88 => hT ?_) (fun hc88 => hF ?_)
    ·
     clear hT hF KT KF
     refine Tr.skip ?_
     refine hK13 _ ?_
     clear hK13 K13
     refine Tr.kp [11, 12, 13, 14, 16, 17, 19, 20] ?_
     simp only [pk_cons, pk_nil, ↓A_cons, ↓reduceIte, Nat.reduceEqDiff]
     refine Tr.seqK fun K15 hK15 => ?_
     refine Tr.blk ?_
     refine Tr.seqK fun K16 hK16 => ?_
     have hEB := ends_LI (widI l).length ((2 * k : Nat) : Int) (by omega)
     have e19 : pu 19 [.val (nI (widI l).length), .val (nI (2 * k))] = some (sl iC (.own 1) (endsI (widI l).length ((2 * k : Nat) : Int))) := h19 (widI l).length ((2 * k : Nat) : Int) (by omega) (by omega)
     refine Tr.rg hcx [1000094] _ [] rfl rfl rfl ?_
     simp -implicitDefEqProofs (maxSteps := 2000000) (disch := first | omega | (simp only [go_sem, List.length_append, List.length_drop, List.length_take] <;> omega) | decide) only [go_sem, ↓reduceIte, Nat.reduceEqDiff, reduceCtorEq, Nat.reduceLT, Nat.reduceBEq, Nat.reduceAdd, Nat.reduceSub, Nat.reduceMul, Nat.reduceMod, z0, z1, e19]
     refine hK16 _ ?_
     clear hK16 K16
     refine Tr.kp [11, 12, 13, 14, 16, 17, 19, 20, 21] ?_
     simp only [pk_cons, pk_nil, ↓A_cons, ↓reduceIte, Nat.reduceEqDiff]
     refine Tr.seqK fun K17 hK17 => ?_
     by_cases g0 : (costT (widI l) B W (endsI (widI l).length ((2 * k : Nat) : Int))).2.2 = 0
     ·
      have g0o := g0
      have e21k : pu 21 [sl iC .no (widI l), .val (.int .i64 B), .val (.int .i64 W), sl iC .no (endsI (widI l).length ((2 * k : Nat) : Int))] = some (.tup [.val (nI (costT (widI l) B W (endsI (widI l).length ((2 * k : Nat) : Int))).1), .val (.int .i64 (costT (widI l) B W (endsI (widI l).length ((2 * k : Nat) : Int))).2.1), .val (nI 0)]) := (h21 (widI l) B W (endsI (widI l).length ((2 * k : Nat) : Int)) hwl hB hW hEB).trans (by rw [g0])
      have hle := best_least z0o z1 g0o
      have e28 : pu 28 [.val (nI (costT (widI l) B W (endsI (widI l).length ((2 * k : Nat) : Int))).1), .val (.int .i64 (costT (widI l) B W (endsI (widI l).length ((2 * k : Nat) : Int))).2.1), .val (nI (endF (widI l) B W).length), .val (.int .i64 (dK (widI l) B W 0))] = some (.val (.bool false)) := (h28 _ _ _ _).trans (by rw [befI_F.2 hle.1])
      have e28b : pu 28 [.val (nI (endF (widI l) B W).length), .val (.int .i64 (dK (widI l) B W 0)), .val (nI (costT (widI l) B W (endsI (widI l).length ((2 * k : Nat) : Int))).1), .val (.int .i64 (costT (widI l) B W (endsI (widI l).length ((2 * k : Nat) : Int))).2.1)] = some (.val (.bool (befI ((endF (widI l) B W).length : Int) (dK (widI l) B W 0) ((costT (widI l) B W (endsI (widI l).length ((2 * k : Nat) : Int))).1 : Int) (costT (widI l) B W (endsI (widI l).length ((2 * k : Nat) : Int))).2.1))) := h28 _ _ _ _
      have e29 := h29 (endsI (widI l).length ((2 * k : Nat) : Int)) (endF (widI l) B W) hEB hf1
      have e23k := h23 (widI l) B W (endsI (widI l).length ((2 * k : Nat) : Int)) (bentT (endF (widI l) B W) (dp (widI l) B W (widI l).length).1 (dp (widI l) B W (widI l).length).2 how by_).2.1 (bentT (endF (widI l) B W) (dp (widI l) B W (widI l).length).1 (dp (widI l) B W (widI l).length).2 how by_).2.2 hwl hB hW hEB (hb1.2.1.li (by decide)) (hb1.2.2.li (by decide))
      replace g0 := eq_true g0
      refine Tr.rg hcx [1000101, 1000102, 1000103] _ [] rfl rfl rfl ?_
      simp -implicitDefEqProofs (maxSteps := 2000000) (disch := first | omega | (simp only [go_sem, List.length_append, List.length_drop, List.length_take] <;> omega) | decide) only [go_sem, ↓reduceIte, Nat.reduceEqDiff, reduceCtorEq, Nat.reduceLT, Nat.reduceBEq, Nat.reduceAdd, Nat.reduceSub, Nat.reduceMul, Nat.reduceMod, z0, z1, g0, e21k]
      refine hK17 _ ?_
      clear hK17 K17
      refine Tr.kp [11, 12, 13, 14, 16, 17, 19, 20, 21, 22, 23, 24] ?_
      simp only [pk_cons, pk_nil, ↓A_cons, ↓reduceIte, Nat.reduceEqDiff]
      refine Tr.seqK fun K18 hK18 => ?_
      refine Tr.seqK fun K19 hK19 => ?_
      refine Tr.rg hcx [] _ [] rfl rfl rfl ?_
      simp -implicitDefEqProofs (maxSteps := 2000000) (disch := first | omega | (simp only [go_sem, List.length_append, List.length_drop, List.length_take] <;> omega) | decide) only [go_sem, ↓reduceIte, Nat.reduceEqDiff, reduceCtorEq, Nat.reduceLT, Nat.reduceBEq, Nat.reduceAdd, Nat.reduceSub, Nat.reduceMul, Nat.reduceMod, z0, z1, g0]
      refine hK19 _ ?_
      clear hK19 K19
      refine Tr.kp [11, 12, 13, 14, 16, 17, 19, 20, 21, 22, 23, 105] ?_
      simp only [pk_cons, pk_nil, ↓A_cons, ↓reduceIte, Nat.reduceEqDiff]
      refine Tr.condG fun KT KF hT hF => ?_
      simp only [ev_tmp, ev_const, ↓A_cons, ↓reduceIte, Nat.reduceEqDiff, reduceCtorEq, condG_bool, GB_true, GB_false, decide_eq_true_eq]
      refine hF ?_
      clear hT hF KT KF
      refine Tr.skip ?_
      refine hK18 _ ?_
      clear hK18 K18
      refine Tr.kp [11, 12, 13, 14, 16, 17, 19, 20, 21, 22, 23] ?_
      simp only [pk_cons, pk_nil, ↓A_cons, ↓reduceIte, Nat.reduceEqDiff]
      refine Tr.seqK fun K20 hK20 => ?_
      refine Tr.rg hcx [1000110] _ [] rfl rfl rfl ?_
      simp -implicitDefEqProofs (maxSteps := 2000000) (disch := first | omega | (simp only [go_sem, List.length_append, List.length_drop, List.length_take] <;> omega) | decide) only [go_sem, ↓reduceIte, Nat.reduceEqDiff, reduceCtorEq, Nat.reduceLT, Nat.reduceBEq, Nat.reduceAdd, Nat.reduceSub, Nat.reduceMul, Nat.reduceMod, z0, z1, g0, e28]
      refine hK20 _ ?_
      clear hK20 K20
      refine Tr.kp [11, 12, 13, 14, 16, 17, 19, 20, 21, 22, 23, 25] ?_
      simp only [pk_cons, pk_nil, ↓A_cons, ↓reduceIte, Nat.reduceEqDiff]
      refine Tr.seqK fun K21 hK21 => ?_
      refine Tr.seqK fun K22 hK22 => ?_
      by_cases g1 : (costT (widI l) B W (endsI (widI l).length ((2 * k : Nat) : Int))).1 = (endF (widI l) B W).length
      ·
       have g1o := g1
       replace g1 := eq_true g1
       by_cases g2 : (costT (widI l) B W (endsI (widI l).length ((2 * k : Nat) : Int))).2.1 = (dK (widI l) B W 0)
       ·
        have hsm := hle.2 (by omega) g2
        have g2o := g2
        replace g2 := eq_true g2
        refine Tr.rg hcx [] [some 111, some 112, some 113, some 114, some 115, some 116, some 117, some 118, some 119, some 120, some 121, some 122, some 123, some 124, some 125, some 126, some 127] [] rfl rfl rfl ?_
        simp -implicitDefEqProofs (maxSteps := 2000000) (disch := first | omega | (simp only [go_sem, List.length_append, List.length_drop, List.length_take] <;> omega) | decide) only [go_sem, ↓reduceIte, Nat.reduceEqDiff, reduceCtorEq, Nat.reduceLT, Nat.reduceBEq, Nat.reduceAdd, Nat.reduceSub, Nat.reduceMul, Nat.reduceMod, z0, z1, g0, g1, g2, e29, hsm]
        refine hK22 _ ?_
        clear hK22 K22
        refine Tr.kp [11, 12, 13, 14, 16, 17, 19, 20, 21, 22, 23, 127] ?_
        simp only [pk_cons, pk_nil, ↓A_cons, ↓reduceIte, Nat.reduceEqDiff]
        refine Tr.condG fun KT KF hT hF => ?_
        simp only [ev_tmp, ev_const, ↓A_cons, ↓reduceIte, Nat.reduceEqDiff, reduceCtorEq, condG_bool, GB_true, GB_false, decide_eq_true_eq]
        refine hF ?_
        clear hT hF KT KF
        refine Tr.skip ?_
        refine hK21 _ ?_
        clear hK21 K21
        refine Tr.kp [11, 12, 13, 14, 16, 17, 19, 20, 21, 22, 23] ?_
        simp only [pk_cons, pk_nil, ↓A_cons, ↓reduceIte, Nat.reduceEqDiff]
        refine Tr.seqK fun K23 hK23 => ?_
        refine Tr.rg hcx [1000132] _ [] rfl rfl rfl ?_
        simp -implicitDefEqProofs (maxSteps := 2000000) (disch := first | omega | (simp only [go_sem, List.length_append, List.length_drop, List.length_take] <;> omega) | decide) only [go_sem, ↓reduceIte, Nat.reduceEqDiff, reduceCtorEq, Nat.reduceLT, Nat.reduceBEq, Nat.reduceAdd, Nat.reduceSub, Nat.reduceMul, Nat.reduceMod, z0, z1, g0, g1, g2, e28b]
        refine hK23 _ ?_
        clear hK23 K23
        refine Tr.kp [11, 12, 13, 14, 16, 17, 19, 20, 21, 26] ?_
        simp only [pk_cons, pk_nil, ↓A_cons, ↓reduceIte, Nat.reduceEqDiff]
        refine Tr.seqK fun K24 hK24 => ?_
        by_cases g3 : befI ((endF (widI l) B W).length : Int) (dK (widI l) B W 0) ((costT (widI l) B W (endsI (widI l).length ((2 * k : Nat) : Int))).1 : Int) (costT (widI l) B W (endsI (widI l).length ((2 * k : Nat) : Int))).2.1 = true
        ·
         have hnk := eq_false (best_worse (L := (bentT (endF (widI l) B W) (dp (widI l) B W (widI l).length).1 (dp (widI l) B W (widI l).length).2 how by_).2.1) (K := (bentT (endF (widI l) B W) (dp (widI l) B W (widI l).length).1 (dp (widI l) B W (widI l).length).2 how by_).2.2) z0o z1 (befI_T.1 g3))
         refine Tr.rg hcx [] [some 133, some 134, some 135, some 136, some 137, some 138, some 139, some 140, some 141, some 142, some 143, some 144, some 145, some 146] [] rfl rfl rfl ?_
         simp -implicitDefEqProofs (maxSteps := 2000000) (disch := first | omega | (simp only [go_sem, List.length_append, List.length_drop, List.length_take] <;> omega) | decide) only [go_sem, ↓reduceIte, Nat.reduceEqDiff, reduceCtorEq, Nat.reduceLT, Nat.reduceBEq, Nat.reduceAdd, Nat.reduceSub, Nat.reduceMul, Nat.reduceMod, z0, z1, g0, g1, g2, g3, e23k, hnk]
         refine hK24 _ ?_
         clear hK24 K24
         refine Tr.kp [11, 12, 13, 14, 16, 17, 19, 20, 146] ?_
         simp only [pk_cons, pk_nil, ↓A_cons, ↓reduceIte, Nat.reduceEqDiff]
         refine Tr.condG fun KT KF hT hF => ?_
         simp only [ev_tmp, ev_const, ↓A_cons, ↓reduceIte, Nat.reduceEqDiff, reduceCtorEq, condG_bool, GB_true, GB_false, decide_eq_true_eq]
         refine hF ?_
         clear hT hF KT KF
         refine Tr.skip ?_
         refine hK15 _ ?_
         clear hK15 K15
         refine Tr.kp [11, 12, 13, 14, 16, 17, 19, 20] ?_
         simp only [pk_cons, pk_nil, ↓A_cons, ↓reduceIte, Nat.reduceEqDiff]
         refine Tr.rg hcx [1000090] _ [] rfl rfl rfl ?_
         simp -implicitDefEqProofs (maxSteps := 2000000) (disch := first | omega | (simp only [go_sem, List.length_append, List.length_drop, List.length_take] <;> omega) | decide) only [go_sem, ↓reduceIte, Nat.reduceEqDiff, reduceCtorEq, Nat.reduceLT, Nat.reduceBEq, Nat.reduceAdd, Nat.reduceSub, Nat.reduceMul, Nat.reduceMod, z0, z1, g0, g1, g2, g3]
         refine ⟨k + 1, ⟨by omega, by first | omega | (simp only []; omega)⟩, ?_, rfl⟩
         (simp only [Le_nil, Le_cons, ↓A_cons, ↓reduceIte, Nat.reduceEqDiff, reduceCtorEq, CLe_refl, CLe_top, CLe_full, CLe_nil, CLe_own, and_true, true_and]; all_goals (repeat' first | exact CLe.refl _ | exact True.intro | (refine CLe_sln ?_; first | with_reducible rfl | (simp only [List.take_zero]; done) | (rfl; done)) | exact CLe_nI (by omega) | exact CLe_int (by omega) | exact CLe_inI (by omega) | exact CLe_nIi (by omega) | with_reducible apply And.intro))
         all_goals exact CLe_nI (by omega)
        ·
         have hnk := True.intro
         replace g3 : befI ((endF (widI l) B W).length : Int) (dK (widI l) B W 0) ((costT (widI l) B W (endsI (widI l).length ((2 * k : Nat) : Int))).1 : Int) (costT (widI l) B W (endsI (widI l).length ((2 * k : Nat) : Int))).2.1 = false := by simpa using g3
         refine Tr.rg hcx [] [some 133, some 134, some 135, some 136, some 137, some 138, some 139, some 140, some 141, some 142, some 143, some 144, some 145, some 146] [] rfl rfl rfl ?_
         simp -implicitDefEqProofs (maxSteps := 2000000) (disch := first | omega | (simp only [go_sem, List.length_append, List.length_drop, List.length_take] <;> omega) | decide) only [go_sem, ↓reduceIte, Nat.reduceEqDiff, reduceCtorEq, Nat.reduceLT, Nat.reduceBEq, Nat.reduceAdd, Nat.reduceSub, Nat.reduceMul, Nat.reduceMod, z0, z1, g0, g1, g2, g3]
         refine hK24 _ ?_
         clear hK24 K24
         refine Tr.kp [11, 12, 13, 14, 16, 17, 19, 20, 146] ?_
         simp only [pk_cons, pk_nil, ↓A_cons, ↓reduceIte, Nat.reduceEqDiff]
         refine Tr.condG fun KT KF hT hF => ?_
         simp only [ev_tmp, ev_const, ↓A_cons, ↓reduceIte, Nat.reduceEqDiff, reduceCtorEq, condG_bool, GB_true, GB_false, decide_eq_true_eq]
         refine hF ?_
         clear hT hF KT KF
         refine Tr.skip ?_
         refine hK15 _ ?_
         clear hK15 K15
         refine Tr.kp [11, 12, 13, 14, 16, 17, 19, 20] ?_
         simp only [pk_cons, pk_nil, ↓A_cons, ↓reduceIte, Nat.reduceEqDiff]
         refine Tr.rg hcx [1000090] _ [] rfl rfl rfl ?_
         simp -implicitDefEqProofs (maxSteps := 2000000) (disch := first | omega | (simp only [go_sem, List.length_append, List.length_drop, List.length_take] <;> omega) | decide) only [go_sem, ↓reduceIte, Nat.reduceEqDiff, reduceCtorEq, Nat.reduceLT, Nat.reduceBEq, Nat.reduceAdd, Nat.reduceSub, Nat.reduceMul, Nat.reduceMod, z0, z1, g0, g1, g2, g3]
         refine ⟨k + 1, ⟨by omega, by first | omega | (simp only []; omega)⟩, ?_, rfl⟩
         (simp only [Le_nil, Le_cons, ↓A_cons, ↓reduceIte, Nat.reduceEqDiff, reduceCtorEq, CLe_refl, CLe_top, CLe_full, CLe_nil, CLe_own, and_true, true_and]; all_goals (repeat' first | exact CLe.refl _ | exact True.intro | (refine CLe_sln ?_; first | with_reducible rfl | (simp only [List.take_zero]; done) | (rfl; done)) | exact CLe_nI (by omega) | exact CLe_int (by omega) | exact CLe_inI (by omega) | exact CLe_nIi (by omega) | with_reducible apply And.intro))
         all_goals exact CLe_nI (by omega)
       ·
        have g2o := g2
        replace g2 := eq_false g2
        refine Tr.rg hcx [] [some 111, some 112, some 113, some 114, some 115, some 116, some 117, some 118, some 119, some 120, some 121, some 122, some 123, some 124, some 125, some 126, some 127] [] rfl rfl rfl ?_
        simp -implicitDefEqProofs (maxSteps := 2000000) (disch := first | omega | (simp only [go_sem, List.length_append, List.length_drop, List.length_take] <;> omega) | decide) only [go_sem, ↓reduceIte, Nat.reduceEqDiff, reduceCtorEq, Nat.reduceLT, Nat.reduceBEq, Nat.reduceAdd, Nat.reduceSub, Nat.reduceMul, Nat.reduceMod, z0, z1, g0, g1, g2]
        refine hK22 _ ?_
        clear hK22 K22
        refine Tr.kp [11, 12, 13, 14, 16, 17, 19, 20, 21, 22, 23, 127] ?_
        simp only [pk_cons, pk_nil, ↓A_cons, ↓reduceIte, Nat.reduceEqDiff]
        refine Tr.condG fun KT KF hT hF => ?_
        simp only [ev_tmp, ev_const, ↓A_cons, ↓reduceIte, Nat.reduceEqDiff, reduceCtorEq, condG_bool, GB_true, GB_false, decide_eq_true_eq]
        refine hF ?_
        clear hT hF KT KF
        refine Tr.skip ?_
        refine hK21 _ ?_
        clear hK21 K21
        refine Tr.kp [11, 12, 13, 14, 16, 17, 19, 20, 21, 22, 23] ?_
        simp only [pk_cons, pk_nil, ↓A_cons, ↓reduceIte, Nat.reduceEqDiff]
        refine Tr.seqK fun K25 hK25 => ?_
        refine Tr.rg hcx [1000132] _ [] rfl rfl rfl ?_
        simp -implicitDefEqProofs (maxSteps := 2000000) (disch := first | omega | (simp only [go_sem, List.length_append, List.length_drop, List.length_take] <;> omega) | decide) only [go_sem, ↓reduceIte, Nat.reduceEqDiff, reduceCtorEq, Nat.reduceLT, Nat.reduceBEq, Nat.reduceAdd, Nat.reduceSub, Nat.reduceMul, Nat.reduceMod, z0, z1, g0, g1, g2, e28b]
        refine hK25 _ ?_
        clear hK25 K25
        refine Tr.kp [11, 12, 13, 14, 16, 17, 19, 20, 21, 26] ?_
        simp only [pk_cons, pk_nil, ↓A_cons, ↓reduceIte, Nat.reduceEqDiff]
        refine Tr.seqK fun K26 hK26 => ?_
        by_cases g3 : befI ((endF (widI l) B W).length : Int) (dK (widI l) B W 0) ((costT (widI l) B W (endsI (widI l).length ((2 * k : Nat) : Int))).1 : Int) (costT (widI l) B W (endsI (widI l).length ((2 * k : Nat) : Int))).2.1 = true
        ·
         have hnk := eq_false (best_worse (L := (bentT (endF (widI l) B W) (dp (widI l) B W (widI l).length).1 (dp (widI l) B W (widI l).length).2 how by_).2.1) (K := (bentT (endF (widI l) B W) (dp (widI l) B W (widI l).length).1 (dp (widI l) B W (widI l).length).2 how by_).2.2) z0o z1 (befI_T.1 g3))
         refine Tr.rg hcx [] [some 133, some 134, some 135, some 136, some 137, some 138, some 139, some 140, some 141, some 142, some 143, some 144, some 145, some 146] [] rfl rfl rfl ?_
         simp -implicitDefEqProofs (maxSteps := 2000000) (disch := first | omega | (simp only [go_sem, List.length_append, List.length_drop, List.length_take] <;> omega) | decide) only [go_sem, ↓reduceIte, Nat.reduceEqDiff, reduceCtorEq, Nat.reduceLT, Nat.reduceBEq, Nat.reduceAdd, Nat.reduceSub, Nat.reduceMul, Nat.reduceMod, z0, z1, g0, g1, g2, g3, e23k, hnk]
         refine hK26 _ ?_
         clear hK26 K26
         refine Tr.kp [11, 12, 13, 14, 16, 17, 19, 20, 146] ?_
         simp only [pk_cons, pk_nil, ↓A_cons, ↓reduceIte, Nat.reduceEqDiff]
         refine Tr.condG fun KT KF hT hF => ?_
         simp only [ev_tmp, ev_const, ↓A_cons, ↓reduceIte, Nat.reduceEqDiff, reduceCtorEq, condG_bool, GB_true, GB_false, decide_eq_true_eq]
         refine hF ?_
         clear hT hF KT KF
         refine Tr.skip ?_
         refine hK15 _ ?_
         clear hK15 K15
         refine Tr.kp [11, 12, 13, 14, 16, 17, 19, 20] ?_
         simp only [pk_cons, pk_nil, ↓A_cons, ↓reduceIte, Nat.reduceEqDiff]
         refine Tr.rg hcx [1000090] _ [] rfl rfl rfl ?_
         simp -implicitDefEqProofs (maxSteps := 2000000) (disch := first | omega | (simp only [go_sem, List.length_append, List.length_drop, List.length_take] <;> omega) | decide) only [go_sem, ↓reduceIte, Nat.reduceEqDiff, reduceCtorEq, Nat.reduceLT, Nat.reduceBEq, Nat.reduceAdd, Nat.reduceSub, Nat.reduceMul, Nat.reduceMod, z0, z1, g0, g1, g2, g3]
         refine ⟨k + 1, ⟨by omega, by first | omega | (simp only []; omega)⟩, ?_, rfl⟩
         (simp only [Le_nil, Le_cons, ↓A_cons, ↓reduceIte, Nat.reduceEqDiff, reduceCtorEq, CLe_refl, CLe_top, CLe_full, CLe_nil, CLe_own, and_true, true_and]; all_goals (repeat' first | exact CLe.refl _ | exact True.intro | (refine CLe_sln ?_; first | with_reducible rfl | (simp only [List.take_zero]; done) | (rfl; done)) | exact CLe_nI (by omega) | exact CLe_int (by omega) | exact CLe_inI (by omega) | exact CLe_nIi (by omega) | with_reducible apply And.intro))
         all_goals exact CLe_nI (by omega)
        ·
         have hnk := True.intro
         replace g3 : befI ((endF (widI l) B W).length : Int) (dK (widI l) B W 0) ((costT (widI l) B W (endsI (widI l).length ((2 * k : Nat) : Int))).1 : Int) (costT (widI l) B W (endsI (widI l).length ((2 * k : Nat) : Int))).2.1 = false := by simpa using g3
         refine Tr.rg hcx [] [some 133, some 134, some 135, some 136, some 137, some 138, some 139, some 140, some 141, some 142, some 143, some 144, some 145, some 146] [] rfl rfl rfl ?_
         simp -implicitDefEqProofs (maxSteps := 2000000) (disch := first | omega | (simp only [go_sem, List.length_append, List.length_drop, List.length_take] <;> omega) | decide) only [go_sem, ↓reduceIte, Nat.reduceEqDiff, reduceCtorEq, Nat.reduceLT, Nat.reduceBEq, Nat.reduceAdd, Nat.reduceSub, Nat.reduceMul, Nat.reduceMod, z0, z1, g0, g1, g2, g3]
         refine hK26 _ ?_
         clear hK26 K26
         refine Tr.kp [11, 12, 13, 14, 16, 17, 19, 20, 146] ?_
         simp only [pk_cons, pk_nil, ↓A_cons, ↓reduceIte, Nat.reduceEqDiff]
         refine Tr.condG fun KT KF hT hF => ?_
         simp only [ev_tmp, ev_const, ↓A_cons, ↓reduceIte, Nat.reduceEqDiff, reduceCtorEq, condG_bool, GB_true, GB_false, decide_eq_true_eq]
         refine hF ?_
         clear hT hF KT KF
         refine Tr.skip ?_
         refine hK15 _ ?_
         clear hK15 K15
         refine Tr.kp [11, 12, 13, 14, 16, 17, 19, 20] ?_
         simp only [pk_cons, pk_nil, ↓A_cons, ↓reduceIte, Nat.reduceEqDiff]
         refine Tr.rg hcx [1000090] _ [] rfl rfl rfl ?_
         simp -implicitDefEqProofs (maxSteps := 2000000) (disch := first | omega | (simp only [go_sem, List.length_append, List.length_drop, List.length_take] <;> omega) | decide) only [go_sem, ↓reduceIte, Nat.reduceEqDiff, reduceCtorEq, Nat.reduceLT, Nat.reduceBEq, Nat.reduceAdd, Nat.reduceSub, Nat.reduceMul, Nat.reduceMod, z0, z1, g0, g1, g2, g3]
         refine ⟨k + 1, ⟨by omega, by first | omega | (simp only []; omega)⟩, ?_, rfl⟩
         (simp only [Le_nil, Le_cons, ↓A_cons, ↓reduceIte, Nat.reduceEqDiff, reduceCtorEq, CLe_refl, CLe_top, CLe_full, CLe_nil, CLe_own, and_true, true_and]; all_goals (repeat' first | exact CLe.refl _ | exact True.intro | (refine CLe_sln ?_; first | with_reducible rfl | (simp only [List.take_zero]; done) | (rfl; done)) | exact CLe_nI (by omega) | exact CLe_int (by omega) | exact CLe_inI (by omega) | exact CLe_nIi (by omega) | with_reducible apply And.intro))
         all_goals exact CLe_nI (by omega)
      ·
       have g1o := g1
       replace g1 := eq_false g1
       refine Tr.rg hcx [] [some 111, some 112, some 113, some 114, some 115, some 116, some 117, some 118, some 119, some 120, some 121, some 122, some 123, some 124, some 125, some 126, some 127] [] rfl rfl rfl ?_
       simp -implicitDefEqProofs (maxSteps := 2000000) (disch := first | omega | (simp only [go_sem, List.length_append, List.length_drop, List.length_take] <;> omega) | decide) only [go_sem, ↓reduceIte, Nat.reduceEqDiff, reduceCtorEq, Nat.reduceLT, Nat.reduceBEq, Nat.reduceAdd, Nat.reduceSub, Nat.reduceMul, Nat.reduceMod, z0, z1, g0, g1]
       refine hK22 _ ?_
       clear hK22 K22
       refine Tr.kp [11, 12, 13, 14, 16, 17, 19, 20, 21, 22, 23, 127] ?_
       simp only [pk_cons, pk_nil, ↓A_cons, ↓reduceIte, Nat.reduceEqDiff]
       refine Tr.condG fun KT KF hT hF => ?_
       simp only [ev_tmp, ev_const, ↓A_cons, ↓reduceIte, Nat.reduceEqDiff, reduceCtorEq, condG_bool, GB_true, GB_false, decide_eq_true_eq]
       refine hF ?_
       clear hT hF KT KF
       refine Tr.skip ?_
       refine hK21 _ ?_
       clear hK21 K21
       refine Tr.kp [11, 12, 13, 14, 16, 17, 19, 20, 21, 22, 23] ?_
       simp only [pk_cons, pk_nil, ↓A_cons, ↓reduceIte, Nat.reduceEqDiff]
       refine Tr.seqK fun K27 hK27 => ?_
       refine Tr.rg hcx [1000132] _ [] rfl rfl rfl ?_
       simp -implicitDefEqProofs (maxSteps := 2000000) (disch := first | omega | (simp only [go_sem, List.length_append, List.length_drop, List.length_take] <;> omega) | decide) only [go_sem, ↓reduceIte, Nat.reduceEqDiff, reduceCtorEq, Nat.reduceLT, Nat.reduceBEq, Nat.reduceAdd, Nat.reduceSub, Nat.reduceMul, Nat.reduceMod, z0, z1, g0, g1, e28b]
       refine hK27 _ ?_
       clear hK27 K27
       refine Tr.kp [11, 12, 13, 14, 16, 17, 19, 20, 21, 26] ?_
       simp only [pk_cons, pk_nil, ↓A_cons, ↓reduceIte, Nat.reduceEqDiff]
       refine Tr.seqK fun K28 hK28 => ?_
       by_cases g3 : befI ((endF (widI l) B W).length : Int) (dK (widI l) B W 0) ((costT (widI l) B W (endsI (widI l).length ((2 * k : Nat) : Int))).1 : Int) (costT (widI l) B W (endsI (widI l).length ((2 * k : Nat) : Int))).2.1 = true
       ·
        have hnk := eq_false (best_worse (L := (bentT (endF (widI l) B W) (dp (widI l) B W (widI l).length).1 (dp (widI l) B W (widI l).length).2 how by_).2.1) (K := (bentT (endF (widI l) B W) (dp (widI l) B W (widI l).length).1 (dp (widI l) B W (widI l).length).2 how by_).2.2) z0o z1 (befI_T.1 g3))
        refine Tr.rg hcx [] [some 133, some 134, some 135, some 136, some 137, some 138, some 139, some 140, some 141, some 142, some 143, some 144, some 145, some 146] [] rfl rfl rfl ?_
        simp -implicitDefEqProofs (maxSteps := 2000000) (disch := first | omega | (simp only [go_sem, List.length_append, List.length_drop, List.length_take] <;> omega) | decide) only [go_sem, ↓reduceIte, Nat.reduceEqDiff, reduceCtorEq, Nat.reduceLT, Nat.reduceBEq, Nat.reduceAdd, Nat.reduceSub, Nat.reduceMul, Nat.reduceMod, z0, z1, g0, g1, g3, e23k, hnk]
        refine hK28 _ ?_
        clear hK28 K28
        refine Tr.kp [11, 12, 13, 14, 16, 17, 19, 20, 146] ?_
        simp only [pk_cons, pk_nil, ↓A_cons, ↓reduceIte, Nat.reduceEqDiff]
        refine Tr.condG fun KT KF hT hF => ?_
        simp only [ev_tmp, ev_const, ↓A_cons, ↓reduceIte, Nat.reduceEqDiff, reduceCtorEq, condG_bool, GB_true, GB_false, decide_eq_true_eq]
        refine hF ?_
        clear hT hF KT KF
        refine Tr.skip ?_
        refine hK15 _ ?_
        clear hK15 K15
        refine Tr.kp [11, 12, 13, 14, 16, 17, 19, 20] ?_
        simp only [pk_cons, pk_nil, ↓A_cons, ↓reduceIte, Nat.reduceEqDiff]
        refine Tr.rg hcx [1000090] _ [] rfl rfl rfl ?_
        simp -implicitDefEqProofs (maxSteps := 2000000) (disch := first | omega | (simp only [go_sem, List.length_append, List.length_drop, List.length_take] <;> omega) | decide) only [go_sem, ↓reduceIte, Nat.reduceEqDiff, reduceCtorEq, Nat.reduceLT, Nat.reduceBEq, Nat.reduceAdd, Nat.reduceSub, Nat.reduceMul, Nat.reduceMod, z0, z1, g0, g1, g3]
        refine ⟨k + 1, ⟨by omega, by first | omega | (simp only []; omega)⟩, ?_, rfl⟩
        (simp only [Le_nil, Le_cons, ↓A_cons, ↓reduceIte, Nat.reduceEqDiff, reduceCtorEq, CLe_refl, CLe_top, CLe_full, CLe_nil, CLe_own, and_true, true_and]; all_goals (repeat' first | exact CLe.refl _ | exact True.intro | (refine CLe_sln ?_; first | with_reducible rfl | (simp only [List.take_zero]; done) | (rfl; done)) | exact CLe_nI (by omega) | exact CLe_int (by omega) | exact CLe_inI (by omega) | exact CLe_nIi (by omega) | with_reducible apply And.intro))
        all_goals exact CLe_nI (by omega)
       ·
        have hnk := True.intro
        replace g3 : befI ((endF (widI l) B W).length : Int) (dK (widI l) B W 0) ((costT (widI l) B W (endsI (widI l).length ((2 * k : Nat) : Int))).1 : Int) (costT (widI l) B W (endsI (widI l).length ((2 * k : Nat) : Int))).2.1 = false := by simpa using g3
        refine Tr.rg hcx [] [some 133, some 134, some 135, some 136, some 137, some 138, some 139, some 140, some 141, some 142, some 143, some 144, some 145, some 146] [] rfl rfl rfl ?_
        simp -implicitDefEqProofs (maxSteps := 2000000) (disch := first | omega | (simp only [go_sem, List.length_append, List.length_drop, List.length_take] <;> omega) | decide) only [go_sem, ↓reduceIte, Nat.reduceEqDiff, reduceCtorEq, Nat.reduceLT, Nat.reduceBEq, Nat.reduceAdd, Nat.reduceSub, Nat.reduceMul, Nat.reduceMod, z0, z1, g0, g1, g3]
        refine hK28 _ ?_
        clear hK28 K28
        refine Tr.kp [11, 12, 13, 14, 16, 17, 19, 20, 146] ?_
        simp only [pk_cons, pk_nil, ↓A_cons, ↓reduceIte, Nat.reduceEqDiff]
        refine Tr.condG fun KT KF hT hF => ?_
        simp only [ev_tmp, ev_const, ↓A_cons, ↓reduceIte, Nat.reduceEqDiff, reduceCtorEq, condG_bool, GB_true, GB_false, decide_eq_true_eq]
        refine hF ?_
        clear hT hF KT KF
        refine Tr.skip ?_
        refine hK15 _ ?_
        clear hK15 K15
        refine Tr.kp [11, 12, 13, 14, 16, 17, 19, 20] ?_
        simp only [pk_cons, pk_nil, ↓A_cons, ↓reduceIte, Nat.reduceEqDiff]
        refine Tr.rg hcx [1000090] _ [] rfl rfl rfl ?_
        simp -implicitDefEqProofs (maxSteps := 2000000) (disch := first | omega | (simp only [go_sem, List.length_append, List.length_drop, List.length_take] <;> omega) | decide) only [go_sem, ↓reduceIte, Nat.reduceEqDiff, reduceCtorEq, Nat.reduceLT, Nat.reduceBEq, Nat.reduceAdd, Nat.reduceSub, Nat.reduceMul, Nat.reduceMod, z0, z1, g0, g1, g3]
        refine ⟨k + 1, ⟨by omega, by first | omega | (simp only []; omega)⟩, ?_, rfl⟩
        (simp only [Le_nil, Le_cons, ↓A_cons, ↓reduceIte, Nat.reduceEqDiff, reduceCtorEq, CLe_refl, CLe_top, CLe_full, CLe_nil, CLe_own, and_true, true_and]; all_goals (repeat' first | exact CLe.refl _ | exact True.intro | (refine CLe_sln ?_; first | with_reducible rfl | (simp only [List.take_zero]; done) | (rfl; done)) | exact CLe_nI (by omega) | exact CLe_int (by omega) | exact CLe_inI (by omega) | exact CLe_nIi (by omega) | with_reducible apply And.intro))
        all_goals exact CLe_nI (by omega)
     ·
      have g0o := g0
      have e21k := h21 (widI l) B W (endsI (widI l).length ((2 * k : Nat) : Int)) hwl hB hW hEB
      replace g0 := eq_false g0
      have e28 := True.intro
      have e28b := True.intro
      have e29 := True.intro
      have e23k := True.intro
      refine Tr.rg hcx [1000101, 1000102, 1000103] _ [] rfl rfl rfl ?_
      simp -implicitDefEqProofs (maxSteps := 2000000) (disch := first | omega | (simp only [go_sem, List.length_append, List.length_drop, List.length_take] <;> omega) | decide) only [go_sem, ↓reduceIte, Nat.reduceEqDiff, reduceCtorEq, Nat.reduceLT, Nat.reduceBEq, Nat.reduceAdd, Nat.reduceSub, Nat.reduceMul, Nat.reduceMod, z0, z1, g0, e21k]
      refine hK17 _ ?_
      clear hK17 K17
      refine Tr.kp [11, 12, 13, 14, 16, 17, 19, 20, 21, 22, 23, 24] ?_
      simp only [pk_cons, pk_nil, ↓A_cons, ↓reduceIte, Nat.reduceEqDiff]
      refine Tr.seqK fun K29 hK29 => ?_
      refine Tr.seqK fun K30 hK30 => ?_
      refine Tr.rg hcx [] _ [] rfl rfl rfl ?_
      simp -implicitDefEqProofs (maxSteps := 2000000) (disch := first | omega | (simp only [go_sem, List.length_append, List.length_drop, List.length_take] <;> omega) | decide) only [go_sem, ↓reduceIte, Nat.reduceEqDiff, reduceCtorEq, Nat.reduceLT, Nat.reduceBEq, Nat.reduceAdd, Nat.reduceSub, Nat.reduceMul, Nat.reduceMod, z0, z1, g0]
      refine hK30 _ ?_
      clear hK30 K30
      refine Tr.kp [11, 12, 13, 14, 16, 17, 19, 20, 21, 22, 23, 105] ?_
      simp only [pk_cons, pk_nil, ↓A_cons, ↓reduceIte, Nat.reduceEqDiff]
      refine Tr.condG fun KT KF hT hF => ?_
      simp only [ev_tmp, ev_const, ↓A_cons, ↓reduceIte, Nat.reduceEqDiff, reduceCtorEq, condG_bool, GB_true, GB_false, decide_eq_true_eq]
      refine hT ?_
      clear hT hF KT KF
      refine Tr.exit ?_
      refine hK15 _ ?_
      clear hK29 K29 hK15 K15
      refine Tr.kp [11, 12, 13, 14, 16, 17, 19, 20] ?_
      simp only [pk_cons, pk_nil, ↓A_cons, ↓reduceIte, Nat.reduceEqDiff]
      refine Tr.rg hcx [1000090] _ [] rfl rfl rfl ?_
      simp -implicitDefEqProofs (maxSteps := 2000000) (disch := first | omega | (simp only [go_sem, List.length_append, List.length_drop, List.length_take] <;> omega) | decide) only [go_sem, ↓reduceIte, Nat.reduceEqDiff, reduceCtorEq, Nat.reduceLT, Nat.reduceBEq, Nat.reduceAdd, Nat.reduceSub, Nat.reduceMul, Nat.reduceMod, z0, z1, g0]
      refine ⟨k + 1, ⟨by omega, by first | omega | (simp only []; omega)⟩, ?_, rfl⟩
      (simp only [Le_nil, Le_cons, ↓A_cons, ↓reduceIte, Nat.reduceEqDiff, reduceCtorEq, CLe_refl, CLe_top, CLe_full, CLe_nil, CLe_own, and_true, true_and]; all_goals (repeat' first | exact CLe.refl _ | exact True.intro | (refine CLe_sln ?_; first | with_reducible rfl | (simp only [List.take_zero]; done) | (rfl; done)) | exact CLe_nI (by omega) | exact CLe_int (by omega) | exact CLe_inI (by omega) | exact CLe_nIi (by omega) | with_reducible apply And.intro))
      all_goals exact CLe_nI (by omega)
    ·
     clear hT hF KT KF
     refine Tr.exit ?_
     refine hK11 _ ?_
     clear hK13 K13 hK11 K11
     refine Tr.kp [11, 12, 13, 16, 17] ?_
     simp only [pk_cons, pk_nil, ↓A_cons, ↓reduceIte, Nat.reduceEqDiff]
     refine Tr.seqK fun K31 hK31 => ?_
     refine Tr.rg hcx [1000152, 1000153] _ [] rfl rfl rfl ?_
     simp -implicitDefEqProofs (maxSteps := 2000000) (disch := first | omega | (simp only [go_sem, List.length_append, List.length_drop, List.length_take] <;> omega) | decide) only [go_sem, ↓reduceIte, Nat.reduceEqDiff, reduceCtorEq, Nat.reduceLT, Nat.reduceBEq, Nat.reduceAdd, Nat.reduceSub, Nat.reduceMul, Nat.reduceMod, z0, z1, e13]
     refine hK31 _ ?_
     clear hK31 K31
     refine Tr.kp [11, 12, 13, 16, 17, 27, 28] ?_
     simp only [pk_cons, pk_nil, ↓A_cons, ↓reduceIte, Nat.reduceEqDiff]
     refine Tr.seqK fun K32 hK32 => ?_
     refine Tr.rg hcx [1000160, 1000161, 1000162] _ [] rfl rfl rfl ?_
     simp -implicitDefEqProofs (maxSteps := 2000000) (disch := first | omega | (simp only [go_sem, List.length_append, List.length_drop, List.length_take] <;> omega) | decide) only [go_sem, ↓reduceIte, Nat.reduceEqDiff, reduceCtorEq, Nat.reduceLT, Nat.reduceBEq, Nat.reduceAdd, Nat.reduceSub, Nat.reduceMul, Nat.reduceMod, z0, z1, e21g]
     refine hK32 _ ?_
     clear hK32 K32
     refine Tr.kp [16, 17, 28, 29, 30, 31] ?_
     simp only [pk_cons, pk_nil, ↓A_cons, ↓reduceIte, Nat.reduceEqDiff]
     refine Tr.seqK fun K33 hK33 => ?_
     refine Tr.rg hcx [1000181] [some 163, some 164, some 165, some 166, some 167, some 168, some 169, some 170, some 171, some 172, some 173, some 174, some 175, some 176, some 177, some 178, some 179, some 180, some 181, some 10] [] rfl rfl rfl ?_
     simp -implicitDefEqProofs (maxSteps := 2000000) (disch := first | omega | (simp only [go_sem, List.length_append, List.length_drop, List.length_take] <;> omega) | decide) only [go_sem, ↓reduceIte, Nat.reduceEqDiff, reduceCtorEq, Nat.reduceLT, Nat.reduceBEq, Nat.reduceAdd, Nat.reduceSub, Nat.reduceMul, Nat.reduceMod, z0, z1, h18, hge]
     refine hK33 _ ?_
     clear hK33 K33
     refine Tr.kp [10] ?_
     simp only [pk_cons, pk_nil, ↓A_cons, ↓reduceIte, Nat.reduceEqDiff]
     refine Tr.ret ?_
     simp -implicitDefEqProofs (disch := first | omega | (simp only [go_sem, List.length_append, List.length_drop, List.length_take] <;> omega) | decide) only [go_sem, ↓reduceIte, Nat.reduceEqDiff, reduceCtorEq]
     all_goals (rfl)
  ·
   replace z1 : wideW (widI l) W = true := by simpa using z1
   have e11 : pu 11 [sl iC .no (widI l), .val (.int .i64 B), .val (.int .i64 W)] = some (.tup [.agg [sl iC .no [], sl iC .no [], sl iC .no []], .val (nI 21)]) := (h11 (widI l) B W hwl hB hW).trans (by rw [fill_w z0o z1])
   refine Tr.rg hcx [1000046] _ [none] rfl rfl rfl ?_
   simp -implicitDefEqProofs (maxSteps := 2000000) (disch := first | omega | (simp only [go_sem, List.length_append, List.length_drop, List.length_take] <;> omega) | decide) only [go_sem, ↓reduceIte, Nat.reduceEqDiff, reduceCtorEq, Nat.reduceLT, Nat.reduceBEq, Nat.reduceAdd, Nat.reduceSub, Nat.reduceMul, Nat.reduceMod, z0, z1, e11]
   refine hK4 _ ?_
   clear hK4 K4
   refine Tr.kp [3, 4, 11, 12, 13, 14, 15] ?_
   simp only [pk_cons, pk_nil, ↓A_cons, ↓reduceIte, Nat.reduceEqDiff]
   refine Tr.seqK fun K34 hK34 => ?_
   refine Tr.seqK fun K35 hK35 => ?_
   refine Tr.rg hcx [] _ [] rfl rfl rfl ?_
   simp -implicitDefEqProofs (maxSteps := 2000000) (disch := first | omega | (simp only [go_sem, List.length_append, List.length_drop, List.length_take] <;> omega) | decide) only [go_sem, ↓reduceIte, Nat.reduceEqDiff, reduceCtorEq, Nat.reduceLT, Nat.reduceBEq, Nat.reduceAdd, Nat.reduceSub, Nat.reduceMul, Nat.reduceMod, z0, z1]
   refine hK35 _ ?_
   clear hK35 K35
   refine Tr.kp [3, 4, 11, 12, 13, 14, 48] ?_
   simp only [pk_cons, pk_nil, ↓A_cons, ↓reduceIte, Nat.reduceEqDiff]
   refine Tr.condG fun KT KF hT hF => ?_
   simp only [ev_tmp, ev_const, ↓A_cons, ↓reduceIte, Nat.reduceEqDiff, reduceCtorEq, condG_bool, GB_true, GB_false, decide_eq_true_eq]
   refine hT ?_
   clear hT hF KT KF
   refine Tr.seqK fun K36 hK36 => ?_
   refine Tr.rg hcx [1000061] [some 49, some 50, some 51, some 52, some 53, some 54, some 55, some 56, some 57, some 58, some 59, some 60, some 61, some 10] [] rfl rfl rfl ?_
   simp -implicitDefEqProofs (maxSteps := 2000000) (disch := first | omega | (simp only [go_sem, List.length_append, List.length_drop, List.length_take] <;> omega) | decide) only [go_sem, ↓reduceIte, Nat.reduceEqDiff, reduceCtorEq, Nat.reduceLT, Nat.reduceBEq, Nat.reduceAdd, Nat.reduceSub, Nat.reduceMul, Nat.reduceMod, z0, z1, h26', h27', h18]
   refine hK36 _ ?_
   clear hK36 K36
   refine Tr.kp [10] ?_
   simp only [pk_cons, pk_nil, ↓A_cons, ↓reduceIte, Nat.reduceEqDiff]
   refine Tr.ret ?_
   simp -implicitDefEqProofs (disch := first | omega | (simp only [go_sem, List.length_append, List.length_drop, List.length_take] <;> omega) | decide) only [go_sem, ↓reduceIte, Nat.reduceEqDiff, reduceCtorEq]
   all_goals (rfl)
 ·
  have z0o := z0
  have e11 : pu 11 [sl iC .no (widI l), .val (.int .i64 B), .val (.int .i64 W)] = some (.tup [.agg [sl iC .no [], sl iC .no [], sl iC .no []], .val (nI (errE (widI l) B W))]) := (h11 (widI l) B W hwl hB hW).trans (by rw [fill_e z0])
  replace z0 := eq_false z0
  by_cases z2 : wideW (widI l) W = true
  ·
   refine Tr.rg hcx [1000046] _ [none] rfl rfl rfl ?_
   simp -implicitDefEqProofs (maxSteps := 2000000) (disch := first | omega | (simp only [go_sem, List.length_append, List.length_drop, List.length_take] <;> omega) | decide) only [go_sem, ↓reduceIte, Nat.reduceEqDiff, reduceCtorEq, Nat.reduceLT, Nat.reduceBEq, Nat.reduceAdd, Nat.reduceSub, Nat.reduceMul, Nat.reduceMod, z0, z2, e11]
   refine hK4 _ ?_
   clear hK4 K4
   refine Tr.kp [3, 4, 11, 12, 13, 14, 15] ?_
   simp only [pk_cons, pk_nil, ↓A_cons, ↓reduceIte, Nat.reduceEqDiff]
   refine Tr.seqK fun K37 hK37 => ?_
   refine Tr.seqK fun K38 hK38 => ?_
   refine Tr.rg hcx [] _ [] rfl rfl rfl ?_
   simp -implicitDefEqProofs (maxSteps := 2000000) (disch := first | omega | (simp only [go_sem, List.length_append, List.length_drop, List.length_take] <;> omega) | decide) only [go_sem, ↓reduceIte, Nat.reduceEqDiff, reduceCtorEq, Nat.reduceLT, Nat.reduceBEq, Nat.reduceAdd, Nat.reduceSub, Nat.reduceMul, Nat.reduceMod, z0, z2]
   refine hK38 _ ?_
   clear hK38 K38
   refine Tr.kp [3, 4, 11, 12, 13, 14, 48] ?_
   simp only [pk_cons, pk_nil, ↓A_cons, ↓reduceIte, Nat.reduceEqDiff]
   refine Tr.condG fun KT KF hT hF => ?_
   simp only [ev_tmp, ev_const, ↓A_cons, ↓reduceIte, Nat.reduceEqDiff, reduceCtorEq, condG_bool, GB_true, GB_false, decide_eq_true_eq]
   refine hT ?_
   clear hT hF KT KF
   refine Tr.seqK fun K39 hK39 => ?_
   refine Tr.rg hcx [1000061] [some 49, some 50, some 51, some 52, some 53, some 54, some 55, some 56, some 57, some 58, some 59, some 60, some 61, some 10] [] rfl rfl rfl ?_
   simp -implicitDefEqProofs (maxSteps := 2000000) (disch := first | omega | (simp only [go_sem, List.length_append, List.length_drop, List.length_take] <;> omega) | decide) only [go_sem, ↓reduceIte, Nat.reduceEqDiff, reduceCtorEq, Nat.reduceLT, Nat.reduceBEq, Nat.reduceAdd, Nat.reduceSub, Nat.reduceMul, Nat.reduceMod, z0, z2, h26', h27', h18]
   refine hK39 _ ?_
   clear hK39 K39
   refine Tr.kp [10] ?_
   simp only [pk_cons, pk_nil, ↓A_cons, ↓reduceIte, Nat.reduceEqDiff]
   refine Tr.ret ?_
   simp -implicitDefEqProofs (disch := first | omega | (simp only [go_sem, List.length_append, List.length_drop, List.length_take] <;> omega) | decide) only [go_sem, ↓reduceIte, Nat.reduceEqDiff, reduceCtorEq]
   all_goals (rfl)
  ·
   replace z2 : wideW (widI l) W = false := by simpa using z2
   refine Tr.rg hcx [1000046] _ [none] rfl rfl rfl ?_
   simp -implicitDefEqProofs (maxSteps := 2000000) (disch := first | omega | (simp only [go_sem, List.length_append, List.length_drop, List.length_take] <;> omega) | decide) only [go_sem, ↓reduceIte, Nat.reduceEqDiff, reduceCtorEq, Nat.reduceLT, Nat.reduceBEq, Nat.reduceAdd, Nat.reduceSub, Nat.reduceMul, Nat.reduceMod, z0, z2, e11]
   refine hK4 _ ?_
   clear hK4 K4
   refine Tr.kp [3, 4, 11, 12, 13, 14, 15] ?_
   simp only [pk_cons, pk_nil, ↓A_cons, ↓reduceIte, Nat.reduceEqDiff]
   refine Tr.seqK fun K40 hK40 => ?_
   refine Tr.seqK fun K41 hK41 => ?_
   refine Tr.rg hcx [] _ [] rfl rfl rfl ?_
   simp -implicitDefEqProofs (maxSteps := 2000000) (disch := first | omega | (simp only [go_sem, List.length_append, List.length_drop, List.length_take] <;> omega) | decide) only [go_sem, ↓reduceIte, Nat.reduceEqDiff, reduceCtorEq, Nat.reduceLT, Nat.reduceBEq, Nat.reduceAdd, Nat.reduceSub, Nat.reduceMul, Nat.reduceMod, z0, z2]
   refine hK41 _ ?_
   clear hK41 K41
   refine Tr.kp [3, 4, 11, 12, 13, 14, 48] ?_
   simp only [pk_cons, pk_nil, ↓A_cons, ↓reduceIte, Nat.reduceEqDiff]
   refine Tr.condG fun KT KF hT hF => ?_
   simp only [ev_tmp, ev_const, ↓A_cons, ↓reduceIte, Nat.reduceEqDiff, reduceCtorEq, condG_bool, GB_true, GB_false, decide_eq_true_eq]
   refine hT ?_
   clear hT hF KT KF
   refine Tr.seqK fun K42 hK42 => ?_
   refine Tr.rg hcx [1000061] [some 49, some 50, some 51, some 52, some 53, some 54, some 55, some 56, some 57, some 58, some 59, some 60, some 61, some 10] [] rfl rfl rfl ?_
   simp -implicitDefEqProofs (maxSteps := 2000000) (disch := first | omega | (simp only [go_sem, List.length_append, List.length_drop, List.length_take] <;> omega) | decide) only [go_sem, ↓reduceIte, Nat.reduceEqDiff, reduceCtorEq, Nat.reduceLT, Nat.reduceBEq, Nat.reduceAdd, Nat.reduceSub, Nat.reduceMul, Nat.reduceMod, z0, z2, h26', h27', h18]
   refine hK42 _ ?_
   clear hK42 K42
   refine Tr.kp [10] ?_
   simp only [pk_cons, pk_nil, ↓A_cons, ↓reduceIte, Nat.reduceEqDiff]
   refine Tr.ret ?_
   simp -implicitDefEqProofs (disch := first | omega | (simp only [go_sem, List.length_append, List.length_drop, List.length_take] <;> omega) | decide) only [go_sem, ↓reduceIte, Nat.reduceEqDiff, reduceCtorEq]
   all_goals (rfl)
end Go.Sx
namespace Go.Sx
end Go.Sx
namespace Go.Sx
open Go.RowKit Go.Proofs
end Go.Sx
