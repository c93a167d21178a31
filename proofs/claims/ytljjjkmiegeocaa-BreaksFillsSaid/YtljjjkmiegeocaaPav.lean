/-
  Package breaks: the law of Fill. And what follows.
-/
import Derived.Test.YtljjjkmiegeocaaPau
set_option linter.unusedSimpArgs false
set_option linter.unusedVariables false
namespace Go.Sx
open Go.RowKit Go.Proofs
theorem liv_a (K : List Int) : liveC (some (cl iC K)) = some (cl iC K) := by
  cases K with
  | nil => rfl
  | cons a K => rfl
theorem bsA_m5 (u : TypeDesc) (y b b' : Nat) (w m : List Int) : bsA (some ⟨u, 1, y, [.slice none 0 0]⟩) 5 [(0, sl iC .no w), (1, .val (.slice none 0 0)), (2, sl iC .no m), (3, .sv b 0 256), (4, .sv b' 0 257)] = some (vp (.sl .full 5 [sl iC .no w, .val (.slice none 0 0), sl iC .no m, .sv b 0 256, .sv b' 0 257])) := by
  rw [bsA_one _ _ _ _ _ rfl (by decide)]; rfl
theorem LI_take {l : List Int} (h : LI l) (n : Nat) : LI (l.take n) := LI_of (by have := h.1; rw [List.length_take]; omega) fun x hx => by
  obtain ⟨i, hi, e⟩ := List.getElem_of_mem (List.mem_of_mem_take hx)
  have := h.2 i hi
  rw [show gt l i = x from by rw [← e]; simp [gt, List.getD, List.getElem?_eq_getElem hi]] at this
  exact this
theorem len_raw (a1 b1 : Nat) (z1 : List Value) (e : TypeId) (r : Rt) (n : Nat) (xs : List C) : lenP (some ⟨.slice e, a1, b1, z1⟩) (.sl r n xs) = some (vp (.val (nI n))) := rfl
theorem ixa_r5 (P : Program) (a1 b1 : Nat) (z1 : List Value) (u : TypeDesc) (y : Nat) (z : List Value) (e : TypeId) (c0 c1 c2 c3 c4 : C) (k : Nat) (hk : k < 5) (he : td P e = some ⟨u, 1, y, z⟩) : ixaP P (some ⟨.slice e, a1, b1, z1⟩) (.sl .full 5 [c0, c1, c2, c3, c4]) (.val (nI k)) = some (vp (.kp ([c0, c1, c2, c3, c4].drop k))) := by
  have h0 : ixaP P (some ⟨.slice e, a1, b1, z1⟩) (.sl .full 5 [c0, c1, c2, c3, c4]) (.val (nI k)) = ixS (td P e) (idx? (.val (nI k)) 5) fun s k => if [c0, c1, c2, c3, c4].length = 5 * s ∧ [c0, c1, c2, c3, c4] ≠ [] then some (vp (.kp ([c0, c1, c2, c3, c4].drop (k * s)))) else none := rfl
  rw [h0, he, idx_nI k 5 hk, ixS_some, if_pos ⟨rfl, by simp⟩, Nat.mul_one]
theorem ixa_m5 (k : Nat) (hk : k < 5) (c0 c1 c2 c3 c4 : C) : ixaP Try.prog (some ⟨.slice 22, 1, 24, [.slice none 0 0]⟩) (.sl .full 5 [c0, c1, c2, c3, c4]) (.val (nI k)) = some (vp (.kp ([c0, c1, c2, c3, c4].drop k))) := ixa_r5 _ _ _ _ _ _ _ _ _ _ _ _ _ _ hk td22
theorem fzC_raw (ok : Nat → Bool) (b : Nat) (ys : List C) (r : Rt) (n : Nat) (xs : List C) : fzC ok b ys (.sl r n xs) = .sl r n (fzCs ok b ys xs) := by simp only [fzC]
theorem fzCs_dead (ok : Nat → Bool) (b : Nat) (ys : List C) : fzCs ok b ys deadC = deadC := by simp only [deadC, fzCs, fzC]
theorem sv_all (l : List Int) (m : Nat) (h : m = l.length) : (if 0 + m ≤ (cl iC l).length then C.sl .no m (((cl iC l).drop 0).take m) else .top) = sl iC .no l := sv_full l m h
theorem len256 : (List.replicate 256 (0 : Int)).length = 256 := List.length_replicate
theorem len257 : (List.replicate 257 (0 : Int)).length = 257 := List.length_replicate
theorem noRef_r5 (n : Nat) (a m x y : List Int) : noRef n (.sl .full 5 [sl iC .no a, .val (.slice none 0 0), sl iC .no m, sl iC .no x, sl iC .no y]) = true := by
  show noRefs n [sl iC .no a, .val (.slice none 0 0), sl iC .no m, sl iC .no x, sl iC .no y] = true
  simp only [noRefs_cons, noRefs_nil, noRef_sl, noRef_val, Bool.true_and, Bool.and_true]
attribute [local go_sem high] noRef_r5 bsA_m5 len_raw ixa_m5
set_option maxRecDepth 100000 in
set_option maxHeartbeats 8000000 in
theorem fc3 {gl : Nat → C} {M : Nat} {pu : Nat → List C → Option C}  (hcx : CxOK (cxP gl M pu)) (h9 : ∀ b w : Int, (-9223372036854775808 ≤ b ∧ b ≤ 9223372036854775807) → (-9223372036854775808 ≤ w ∧ w ≤ 9223372036854775807) → pu 9 [.val (.int .i64 b), .val (.int .i64 w)] = some (.tup [.val (.int .i64 (pageB b)), .val (.int .i64 (pageW w))])) (h10 : ∀ l : List Int, LI l → pu 10 [sl iC .no l] = some (sl iC (.own 1) (widI l))) (h11 : ∀ (l : List Int) (b w : Int), LI l → (-9223372036854775808 ≤ b ∧ b ≤ 9223372036854775807) → (-9223372036854775808 ≤ w ∧ w ≤ 9223372036854775807) → pu 11 [sl iC .no l, .val (.int .i64 b), .val (.int .i64 w)] = some (.tup [.agg [sl iC .no (fillT l b w).1, sl iC .no (fillT l b w).2.1, sl iC .no (fillT l b w).2.2.1], .val (nI (fillT l b w).2.2.2)])) (h12 : ∀ (l : List Int) (b w : Int), LI l → (-9223372036854775808 ≤ b ∧ b ≤ 9223372036854775807) → (-9223372036854775808 ≤ w ∧ w ≤ 9223372036854775807) → pu 12 [sl iC .no l, .val (.int .i64 b), .val (.int .i64 w)] = some (.tup [.agg [sl iC .no (fillT l b w).1, sl iC .no (fillT l b w).2.1, sl iC .no (fillT l b w).2.2.1], .val (nI (fillT l b w).2.2.2)])) (h13 : ∀ (l : List Int) (b w : Int), LI l → (-9223372036854775808 ≤ b ∧ b ≤ 9223372036854775807) → (-9223372036854775808 ≤ w ∧ w ≤ 9223372036854775807) → pu 13 [sl iC .no l, .val (.int .i64 b), .val (.int .i64 w)] = some (.tup [sl iC .no (greT l b w).1, .val (nI (greT l b w).2)])) (h14 : ∀ (l : List Int) (b w : Int), LI l → (-9223372036854775808 ≤ b ∧ b ≤ 9223372036854775807) → (-9223372036854775808 ≤ w ∧ w ≤ 9223372036854775807) → pu 14 [sl iC .no l, .val (.int .i64 b), .val (.int .i64 w)] = some (.tup [sl iC .no (greT l b w).1, .val (nI (greT l b w).2)])) (h16 : ∀ (x1 x2 x3 : List Int), pu 16 [.agg [sl iC .no x1, sl iC .no x2, sl iC .no x3]] = some (.agg [sl iC .no x1, sl iC .no x2, sl iC .no x3])) (h15 : ∀ (x1 x2 x3 y1 y2 y3 : List Int), x1.length < 9223372036854775807 → x2.length < 9223372036854775807 → x3.length < 9223372036854775807 → pu 15 [.agg [sl iC .no x1, sl iC .no x2, sl iC .no x3], .agg [sl iC .no y1, sl iC .no y2, sl iC .no y3]] = some (.val (.bool (decide ((x1, x2, x3) = (y1, y2, y3)))))) (h17 : ∀ x y : List Int, x.length < 9223372036854775807 → pu 17 [sl iC .no x, sl iC .no y] = some (.val (.bool (decide (x = y))))) (h18 : pu 18 [] = some (.val (.bool true))) (l : List Int) (b w : Int) (mo : List Int) (hl : LI l) (hb : -9223372036854775808 ≤ b ∧ b ≤ 9223372036854775807) (hw : -9223372036854775808 ≤ w ∧ w ≤ 9223372036854775807) (hm : LI mo) : FC Try.prog gl 3 [sl iC .no l, .val (.int .i64 b), .val (.int .i64 w), sl iC .no mo] [] (.val (.bool true)) [] := by
 replace hcx := hcx.reN (M := 105)
 refine FC.ofA (cx := cxP gl 105 pu) (rs := [.tmp 8]) rfl Try.func3 rfl rfl rfl (by simp only [List.length_cons, List.length_nil]; decide) (by simp only [go_sem]) ?_
 simp only [ini, go_sem]
 have h9' := h9 b w hb hw
 have h10' := h10 l hl
 have hl1 := hl.1
 have hm1 := hm.1
 have hpb := pageB_b b
 have hpw := pageW_b w
 have hmt : LI (mo.take (min mo.length 300)) := LI_take hm _
 generalize pageB b = B at *
 generalize pageW w = W at *
 have hB : -9223372036854775808 ≤ B ∧ B ≤ 9223372036854775807 := by omega
 have hW : -9223372036854775808 ≤ W ∧ W ≤ 9223372036854775807 := by omega
 refine Tr.seqK fun K1 hK1 => ?_
 refine Tr.rg hcx [] _ [] rfl rfl rfl ?_
 simp -implicitDefEqProofs (maxSteps := 2000000) (disch := first | omega | (simp only [go_sem, List.length_append, List.length_drop, List.length_take] <;> omega) | decide) only [go_sem, ↓reduceIte, Nat.reduceEqDiff, reduceCtorEq, Nat.reduceLT, Nat.reduceBEq, Nat.reduceAdd, Nat.reduceSub, Nat.reduceMul, Nat.reduceMod, Int.reduceMod, Int.reduceToNat, Int.reduceNeg, eq_self, decide_true, decide_false, not_true_eq_false, not_false_eq_true]
 refine hK1 _ ?_
 clear hK1 K1
 refine Tr.kp [0, 1, 2, 3] ?_
 simp only [pk_cons, pk_nil, ↓A_cons, ↓reduceIte, Nat.reduceEqDiff, reduceCtorEq]
 refine Tr.seqK fun K2 hK2 => ?_
 refine Tr.rg hcx [1000025, 1000026] _ [] rfl rfl rfl ?_
 simp -implicitDefEqProofs (maxSteps := 2000000) (disch := first | omega | (simp only [go_sem, List.length_append, List.length_drop, List.length_take] <;> omega) | decide) only [go_sem, ↓reduceIte, Nat.reduceEqDiff, reduceCtorEq, Nat.reduceLT, Nat.reduceBEq, Nat.reduceAdd, Nat.reduceSub, Nat.reduceMul, Nat.reduceMod, Int.reduceMod, Int.reduceToNat, Int.reduceNeg, eq_self, decide_true, decide_false, not_true_eq_false, not_false_eq_true, h9']
 refine hK2 _ ?_
 clear hK2 K2
 refine Tr.kp [0, 3, 9, 10] ?_
 simp only [pk_cons, pk_nil, ↓A_cons, ↓reduceIte, Nat.reduceEqDiff, reduceCtorEq]
 refine Tr.seqK fun K3 hK3 => ?_
 refine Tr.rgD hcx hMO [1000036] _ [none, none] rfl rfl rfl rfl ?_
 simp -implicitDefEqProofs (maxSteps := 2000000) (disch := first | omega | (simp only [go_sem, List.length_append, List.length_drop, List.length_take] <;> omega) | decide) only [go_sem, ↓reduceIte, Nat.reduceEqDiff, reduceCtorEq, Nat.reduceLT, Nat.reduceBEq, Nat.reduceAdd, Nat.reduceSub, Nat.reduceMul, Nat.reduceMod, Int.reduceMod, Int.reduceToNat, Int.reduceNeg, eq_self, decide_true, decide_false, not_true_eq_false, not_false_eq_true, h10']
 with_reducible refine And.intro ?_ ?_
 · exact rfl
 refine hK3 _ ?_
 clear hK3 K3
 refine Tr.kp [9, 10, 11] ?_
 simp only [pk_cons, pk_nil, ↓A_cons, ↓reduceIte, Nat.reduceEqDiff, reduceCtorEq]
 refine Tr.seqK fun K4 hK4 => ?_
 refine Tr.seqK fun K5 hK5 => ?_
 refine Tr.fzA hcx 0 (cl iC (List.replicate 256 0)) (by simp only [at_consS, at_cons0, liv_a]) (Nat.zero_le _) (fun j hj => absurd hj (Nat.not_lt_zero j)) ?_
 simp only [mapE_cons, mapE_nil, fzY_cl, fzH, List.map_cons, List.map_nil, Option.map_some, Option.map_none, fzCs_cons, fzCs_nil, fzCs_cl, fzCs_dead, fzC_sl, fzC_raw, fzC_val, fzC_bp, fzC_sv, okF_eq, at_cons0, at_consS, liv_a, List.set_cons_succ, List.set_cons_zero, ↓reduceIte, Nat.reduceEqDiff, Option.isSome_some, Option.isSome_none, Bool.true_and, reduceCtorEq, Nat.reduceBNe, sv_all (List.replicate 256 0) 256 len256.symm, show ((0 : Nat) != 1) = true from rfl, show ((1 : Nat) != 0) = true from rfl]
 refine Tr.fzA hcx 1 (cl iC (List.replicate 257 0)) (by simp only [at_consS, at_cons0, liv_a]) (Nat.zero_le _) (fun j hj => absurd hj (Nat.not_lt_zero j)) ?_
 simp only [mapE_cons, mapE_nil, fzY_cl, fzH, List.map_cons, List.map_nil, Option.map_some, Option.map_none, fzCs_cons, fzCs_nil, fzCs_cl, fzCs_dead, fzC_sl, fzC_raw, fzC_val, fzC_bp, fzC_sv, okF_eq, at_cons0, at_consS, liv_a, List.set_cons_succ, List.set_cons_zero, ↓reduceIte, Nat.reduceEqDiff, Option.isSome_some, Option.isSome_none, Bool.true_and, reduceCtorEq, Nat.reduceBNe, sv_all (List.replicate 257 0) 257 len257.symm, show ((0 : Nat) != 1) = true from rfl, show ((1 : Nat) != 0) = true from rfl]
 refine Tr.rg hcx [] _ [] rfl rfl rfl ?_
 simp -implicitDefEqProofs (maxSteps := 2000000) (disch := first | omega | (simp only [go_sem, List.length_append, List.length_drop, List.length_take] <;> omega) | decide) only [go_sem, ↓reduceIte, Nat.reduceEqDiff, reduceCtorEq, Nat.reduceLT, Nat.reduceBEq, Nat.reduceAdd, Nat.reduceSub, Nat.reduceMul, Nat.reduceMod, Int.reduceMod, Int.reduceToNat, Int.reduceNeg, eq_self, decide_true, decide_false, not_true_eq_false, not_false_eq_true]
 refine hK5 _ ?_
 clear hK5 K5
 refine Tr.kp [9, 10, 11, 12] ?_
 simp only [pk_cons, pk_nil, ↓A_cons, ↓reduceIte, Nat.reduceEqDiff, reduceCtorEq]
 refine Tr.blk ?_
 refine Tr.loopI (α := Nat) (fun a => [(9, ?v9_10), (10, ?v10_10), (11, ?v11_10), (12, .val (nI a))]) (fun a => [some deadC, some deadC]) (fun a => a ≤ 5) (fun a => 5 - a) (0) (by decide) ?le_10 ?hh_10 ?bd_10
 case hh_10 => exact rfl
 case le_10 => (simp only [Le_nil, Le_cons, ↓A_cons, ↓reduceIte, Nat.reduceEqDiff, reduceCtorEq, CLe_refl, CLe_top, CLe_full, CLe_nil, CLe_own, and_true, true_and]; all_goals (repeat' first | exact CLe.refl _ | exact True.intro | (refine CLe_sln ?_; first | with_reducible rfl | (simp only [List.take_zero]; done) | (rfl; done)) | exact CLe_nI (by omega) | exact CLe_int (by omega) | exact CLe_inI (by omega) | exact CLe_nIi (by omega) | with_reducible apply And.intro))
 case bd_10 =>
  rintro k hk
  obtain ⟨k0, hk0⟩ : ∃ k0, k0 = k := ⟨k, rfl⟩
  refine Tr.seqK fun K6 hK6 => ?_
  refine Tr.seqK fun K7 hK7 => ?_
  by_cases q0 : k = 0
  ·
   subst q0
   have q0 := True.intro
   have hX : LI (widI l) := wid_LI l
   have e11 := h11 (widI l) B W hX hB hW
   have e12 := h12 (widI l) B W hX hB hW
   have e13 := h13 (widI l) B W hX hB hW
   have e14 := h14 (widI l) B W hX hB hW
   have hfo := fill_ok (widI l) B W
   have hgo := gre_ok (widI l) B W
   have hf1 := hfo.1.1
   have hf2 := hfo.2.1.1
   have hf3 := hfo.2.2.1
   have hg1 := hgo.1
   have e15 := (h15 (fillT (widI l) B W).1 (fillT (widI l) B W).2.1 (fillT (widI l) B W).2.2.1 (fillT (widI l) B W).1 (fillT (widI l) B W).2.1 (fillT (widI l) B W).2.2.1 (by omega) (by omega) (by omega)).trans (congrArg (fun z => some (C.val (.bool z))) (decide_eq_true rfl))
   have e17 := (h17 (greT (widI l) B W).1 (greT (widI l) B W).1 (by omega)).trans (congrArg (fun z => some (C.val (.bool z))) (decide_eq_true rfl))
   refine Tr.rg hcx [] _ [] rfl rfl rfl ?_
   simp -implicitDefEqProofs (maxSteps := 2000000) (disch := first | omega | (simp only [go_sem, List.length_append, List.length_drop, List.length_take] <;> omega) | decide) only [go_sem, ↓reduceIte, Nat.reduceEqDiff, reduceCtorEq, Nat.reduceLT, Nat.reduceBEq, Nat.reduceAdd, Nat.reduceSub, Nat.reduceMul, Nat.reduceMod, Int.reduceMod, Int.reduceToNat, Int.reduceNeg, eq_self, decide_true, decide_false, not_true_eq_false, not_false_eq_true, q0]
   refine hK7 _ ?_
   clear hK7 K7
   refine Tr.kp [9, 10, 11, 12, 40] ?_
   simp only [pk_cons, pk_nil, ↓A_cons, ↓reduceIte, Nat.reduceEqDiff, reduceCtorEq]
   refine Tr.condG fun KT KF hT hF => ?_
   simp only [ev_tmp, ev_const, ↓A_cons, ↓reduceIte, Nat.reduceEqDiff, reduceCtorEq, condG_bool, GB_true, GB_false, decide_eq_true_eq]
   refine hT ?_
   clear hT hF KT KF
   refine Tr.skip ?_
   refine hK6 _ ?_
   clear hK6 K6
   refine Tr.kp [9, 10, 11, 12] ?_
   simp only [pk_cons, pk_nil, ↓A_cons, ↓reduceIte, Nat.reduceEqDiff, reduceCtorEq]
   refine Tr.seqK fun K8 hK8 => ?_
   refine Tr.blk ?_
   refine Tr.seqK fun K9 hK9 => ?_
   refine Tr.rg hcx [1000052] _ [none] rfl rfl rfl ?_
   simp -implicitDefEqProofs (maxSteps := 2000000) (disch := first | omega | (simp only [go_sem, List.length_append, List.length_drop, List.length_take] <;> omega) | decide) only [go_sem, ↓reduceIte, Nat.reduceEqDiff, reduceCtorEq, Nat.reduceLT, Nat.reduceBEq, Nat.reduceAdd, Nat.reduceSub, Nat.reduceMul, Nat.reduceMod, Int.reduceMod, Int.reduceToNat, Int.reduceNeg, eq_self, decide_true, decide_false, not_true_eq_false, not_false_eq_true, q0, e11]
   refine hK9 _ ?_
   clear hK9 K9
   refine Tr.kp [9, 10, 11, 12, 13, 14] ?_
   simp only [pk_cons, pk_nil, ↓A_cons, ↓reduceIte, Nat.reduceEqDiff, reduceCtorEq]
   refine Tr.seqK fun K10 hK10 => ?_
   refine Tr.rg hcx [1000062] _ [none] rfl rfl rfl ?_
   simp -implicitDefEqProofs (maxSteps := 2000000) (disch := first | omega | (simp only [go_sem, List.length_append, List.length_drop, List.length_take] <;> omega) | decide) only [go_sem, ↓reduceIte, Nat.reduceEqDiff, reduceCtorEq, Nat.reduceLT, Nat.reduceBEq, Nat.reduceAdd, Nat.reduceSub, Nat.reduceMul, Nat.reduceMod, Int.reduceMod, Int.reduceToNat, Int.reduceNeg, eq_self, decide_true, decide_false, not_true_eq_false, not_false_eq_true, q0, e12]
   refine hK10 _ ?_
   clear hK10 K10
   refine Tr.kp [9, 10, 11, 12, 13, 14, 15, 16] ?_
   simp only [pk_cons, pk_nil, ↓A_cons, ↓reduceIte, Nat.reduceEqDiff, reduceCtorEq]
   refine Tr.seqK fun K11 hK11 => ?_
   refine Tr.rg hcx [1000071, 1000072] _ [] rfl rfl rfl ?_
   simp -implicitDefEqProofs (maxSteps := 2000000) (disch := first | omega | (simp only [go_sem, List.length_append, List.length_drop, List.length_take] <;> omega) | decide) only [go_sem, ↓reduceIte, Nat.reduceEqDiff, reduceCtorEq, Nat.reduceLT, Nat.reduceBEq, Nat.reduceAdd, Nat.reduceSub, Nat.reduceMul, Nat.reduceMod, Int.reduceMod, Int.reduceToNat, Int.reduceNeg, eq_self, decide_true, decide_false, not_true_eq_false, not_false_eq_true, q0, e13]
   refine hK11 _ ?_
   clear hK11 K11
   refine Tr.kp [9, 10, 11, 12, 13, 14, 15, 16, 17, 18] ?_
   simp only [pk_cons, pk_nil, ↓A_cons, ↓reduceIte, Nat.reduceEqDiff, reduceCtorEq]
   refine Tr.seqK fun K12 hK12 => ?_
   refine Tr.rg hcx [1000081, 1000082] _ [] rfl rfl rfl ?_
   simp -implicitDefEqProofs (maxSteps := 2000000) (disch := first | omega | (simp only [go_sem, List.length_append, List.length_drop, List.length_take] <;> omega) | decide) only [go_sem, ↓reduceIte, Nat.reduceEqDiff, reduceCtorEq, Nat.reduceLT, Nat.reduceBEq, Nat.reduceAdd, Nat.reduceSub, Nat.reduceMul, Nat.reduceMod, Int.reduceMod, Int.reduceToNat, Int.reduceNeg, eq_self, decide_true, decide_false, not_true_eq_false, not_false_eq_true, q0, e14]
   refine hK12 _ ?_
   clear hK12 K12
   refine Tr.kp [9, 10, 11, 12, 13, 14, 15, 16, 17, 18, 19, 20] ?_
   simp only [pk_cons, pk_nil, ↓A_cons, ↓reduceIte, Nat.reduceEqDiff, reduceCtorEq]
   refine Tr.seqK fun K13 hK13 => ?_
   refine Tr.rgD hcx hMO [] [some 83, some 84, some 85, some 86, some 87, some 88, some 89, some 90, some 91, some 92, some 93, some 94, some 95, some 96, some 97, some 98, some 99, some 100, some 101, some 102, some 103] [] rfl rfl rfl rfl ?_
   simp -implicitDefEqProofs (maxSteps := 2000000) (disch := first | omega | (simp only [go_sem, List.length_append, List.length_drop, List.length_take] <;> omega) | decide) only [go_sem, ↓reduceIte, Nat.reduceEqDiff, reduceCtorEq, Nat.reduceLT, Nat.reduceBEq, Nat.reduceAdd, Nat.reduceSub, Nat.reduceMul, Nat.reduceMod, Int.reduceMod, Int.reduceToNat, Int.reduceNeg, eq_self, decide_true, decide_false, not_true_eq_false, not_false_eq_true, q0, h16, e15, e17]
   with_reducible refine And.intro ?_ ?_
   · exact rfl
   refine hK13 _ ?_
   clear hK13 K13
   refine Tr.kp [9, 10, 11, 12, 103] ?_
   simp only [pk_cons, pk_nil, ↓A_cons, ↓reduceIte, Nat.reduceEqDiff, reduceCtorEq]
   refine Tr.condG fun KT KF hT hF => ?_
   simp only [ev_tmp, ev_const, ↓A_cons, ↓reduceIte, Nat.reduceEqDiff, reduceCtorEq, condG_bool, GB_true, GB_false, decide_eq_true_eq]
   refine hF ?_
   clear hT hF KT KF
   refine Tr.skip ?_
   refine hK8 _ ?_
   clear hK8 K8
   refine Tr.kp [9, 10, 11, 12] ?_
   simp only [pk_cons, pk_nil, ↓A_cons, ↓reduceIte, Nat.reduceEqDiff, reduceCtorEq]
   refine Tr.cutA hcx 2 (by decide) ?_ ?_ ?_
   · simp only [noRefE_nil, noRefE_cons, go_sem, Bool.true_and] <;> decide
   · simp only [List.take_succ_cons, List.take_zero, noRefH_nil, noRefH_none, noRefH_some, go_sem, Bool.true_and] <;> decide
   simp only [List.take_succ_cons, List.take_zero]
   refine Tr.rg hcx [1000042] _ [] rfl rfl rfl ?_
   simp -implicitDefEqProofs (maxSteps := 2000000) (disch := first | omega | (simp only [go_sem, List.length_append, List.length_drop, List.length_take] <;> omega) | decide) only [go_sem, ↓reduceIte, Nat.reduceEqDiff, reduceCtorEq, Nat.reduceLT, Nat.reduceBEq, Nat.reduceAdd, Nat.reduceSub, Nat.reduceMul, Nat.reduceMod, Int.reduceMod, Int.reduceToNat, Int.reduceNeg, eq_self, decide_true, decide_false, not_true_eq_false, not_false_eq_true, q0]
   refine ⟨k0 + 1, ⟨by omega, by first | omega | (simp only []; omega)⟩, ?_, rfl⟩
   (simp only [Le_nil, Le_cons, ↓A_cons, ↓reduceIte, Nat.reduceEqDiff, reduceCtorEq, CLe_refl, CLe_top, CLe_full, CLe_nil, CLe_own, and_true, true_and]; all_goals (repeat' first | exact CLe.refl _ | exact True.intro | (refine CLe_sln ?_; first | with_reducible rfl | (simp only [List.take_zero]; done) | (rfl; done)) | exact CLe_nI (by omega) | exact CLe_int (by omega) | exact CLe_inI (by omega) | exact CLe_nIi (by omega) | with_reducible apply And.intro))
   all_goals exact CLe_nI (by omega)
  ·
   have q0o := q0
   replace q0 := eq_false q0
   by_cases q1 : k = 1
   ·
    subst q1
    have q1 := True.intro
    have hX : LI [] := LI_of (by decide) (by decide)
    have e11 : pu 11 [C.sl .no 0 [], C.val (.int .i64 B), C.val (.int .i64 W)] = _ := h11 [] B W hX hB hW
    have e12 : pu 12 [C.sl .no 0 [], C.val (.int .i64 B), C.val (.int .i64 W)] = _ := h12 [] B W hX hB hW
    have e13 : pu 13 [C.sl .no 0 [], C.val (.int .i64 B), C.val (.int .i64 W)] = _ := h13 [] B W hX hB hW
    have e14 : pu 14 [C.sl .no 0 [], C.val (.int .i64 B), C.val (.int .i64 W)] = _ := h14 [] B W hX hB hW
    have hfo := fill_ok [] B W
    have hgo := gre_ok [] B W
    have hf1 := hfo.1.1
    have hf2 := hfo.2.1.1
    have hf3 := hfo.2.2.1
    have hg1 := hgo.1
    have e15 := (h15 (fillT [] B W).1 (fillT [] B W).2.1 (fillT [] B W).2.2.1 (fillT [] B W).1 (fillT [] B W).2.1 (fillT [] B W).2.2.1 (by omega) (by omega) (by omega)).trans (congrArg (fun z => some (C.val (.bool z))) (decide_eq_true rfl))
    have e17 := (h17 (greT [] B W).1 (greT [] B W).1 (by omega)).trans (congrArg (fun z => some (C.val (.bool z))) (decide_eq_true rfl))
    refine Tr.rg hcx [] _ [] rfl rfl rfl ?_
    simp -implicitDefEqProofs (maxSteps := 2000000) (disch := first | omega | (simp only [go_sem, List.length_append, List.length_drop, List.length_take] <;> omega) | decide) only [go_sem, ↓reduceIte, Nat.reduceEqDiff, reduceCtorEq, Nat.reduceLT, Nat.reduceBEq, Nat.reduceAdd, Nat.reduceSub, Nat.reduceMul, Nat.reduceMod, Int.reduceMod, Int.reduceToNat, Int.reduceNeg, eq_self, decide_true, decide_false, not_true_eq_false, not_false_eq_true, q0, q1]
    refine hK7 _ ?_
    clear hK7 K7
    refine Tr.kp [9, 10, 11, 12, 40] ?_
    simp only [pk_cons, pk_nil, ↓A_cons, ↓reduceIte, Nat.reduceEqDiff, reduceCtorEq]
    refine Tr.condG fun KT KF hT hF => ?_
    simp only [ev_tmp, ev_const, ↓A_cons, ↓reduceIte, Nat.reduceEqDiff, reduceCtorEq, condG_bool, GB_true, GB_false, decide_eq_true_eq]
    refine hT ?_
    clear hT hF KT KF
    refine Tr.skip ?_
    refine hK6 _ ?_
    clear hK6 K6
    refine Tr.kp [9, 10, 11, 12] ?_
    simp only [pk_cons, pk_nil, ↓A_cons, ↓reduceIte, Nat.reduceEqDiff, reduceCtorEq]
    refine Tr.seqK fun K14 hK14 => ?_
    refine Tr.blk ?_
    refine Tr.seqK fun K15 hK15 => ?_
    refine Tr.rg hcx [1000052] _ [none] rfl rfl rfl ?_
    simp -implicitDefEqProofs (maxSteps := 2000000) (disch := first | omega | (simp only [go_sem, List.length_append, List.length_drop, List.length_take] <;> omega) | decide) only [go_sem, ↓reduceIte, Nat.reduceEqDiff, reduceCtorEq, Nat.reduceLT, Nat.reduceBEq, Nat.reduceAdd, Nat.reduceSub, Nat.reduceMul, Nat.reduceMod, Int.reduceMod, Int.reduceToNat, Int.reduceNeg, eq_self, decide_true, decide_false, not_true_eq_false, not_false_eq_true, q0, q1, e11]
    refine hK15 _ ?_
    clear hK15 K15
    refine Tr.kp [9, 10, 11, 12, 13, 14] ?_
    simp only [pk_cons, pk_nil, ↓A_cons, ↓reduceIte, Nat.reduceEqDiff, reduceCtorEq]
    refine Tr.seqK fun K16 hK16 => ?_
    refine Tr.rg hcx [1000062] _ [none] rfl rfl rfl ?_
    simp -implicitDefEqProofs (maxSteps := 2000000) (disch := first | omega | (simp only [go_sem, List.length_append, List.length_drop, List.length_take] <;> omega) | decide) only [go_sem, ↓reduceIte, Nat.reduceEqDiff, reduceCtorEq, Nat.reduceLT, Nat.reduceBEq, Nat.reduceAdd, Nat.reduceSub, Nat.reduceMul, Nat.reduceMod, Int.reduceMod, Int.reduceToNat, Int.reduceNeg, eq_self, decide_true, decide_false, not_true_eq_false, not_false_eq_true, q0, q1, e12]
    refine hK16 _ ?_
    clear hK16 K16
    refine Tr.kp [9, 10, 11, 12, 13, 14, 15, 16] ?_
    simp only [pk_cons, pk_nil, ↓A_cons, ↓reduceIte, Nat.reduceEqDiff, reduceCtorEq]
    refine Tr.seqK fun K17 hK17 => ?_
    refine Tr.rg hcx [1000071, 1000072] _ [] rfl rfl rfl ?_
    simp -implicitDefEqProofs (maxSteps := 2000000) (disch := first | omega | (simp only [go_sem, List.length_append, List.length_drop, List.length_take] <;> omega) | decide) only [go_sem, ↓reduceIte, Nat.reduceEqDiff, reduceCtorEq, Nat.reduceLT, Nat.reduceBEq, Nat.reduceAdd, Nat.reduceSub, Nat.reduceMul, Nat.reduceMod, Int.reduceMod, Int.reduceToNat, Int.reduceNeg, eq_self, decide_true, decide_false, not_true_eq_false, not_false_eq_true, q0, q1, e13]
    refine hK17 _ ?_
    clear hK17 K17
    refine Tr.kp [9, 10, 11, 12, 13, 14, 15, 16, 17, 18] ?_
    simp only [pk_cons, pk_nil, ↓A_cons, ↓reduceIte, Nat.reduceEqDiff, reduceCtorEq]
    refine Tr.seqK fun K18 hK18 => ?_
    refine Tr.rg hcx [1000081, 1000082] _ [] rfl rfl rfl ?_
    simp -implicitDefEqProofs (maxSteps := 2000000) (disch := first | omega | (simp only [go_sem, List.length_append, List.length_drop, List.length_take] <;> omega) | decide) only [go_sem, ↓reduceIte, Nat.reduceEqDiff, reduceCtorEq, Nat.reduceLT, Nat.reduceBEq, Nat.reduceAdd, Nat.reduceSub, Nat.reduceMul, Nat.reduceMod, Int.reduceMod, Int.reduceToNat, Int.reduceNeg, eq_self, decide_true, decide_false, not_true_eq_false, not_false_eq_true, q0, q1, e14]
    refine hK18 _ ?_
    clear hK18 K18
    refine Tr.kp [9, 10, 11, 12, 13, 14, 15, 16, 17, 18, 19, 20] ?_
    simp only [pk_cons, pk_nil, ↓A_cons, ↓reduceIte, Nat.reduceEqDiff, reduceCtorEq]
    refine Tr.seqK fun K19 hK19 => ?_
    refine Tr.rgD hcx hMO [] [some 83, some 84, some 85, some 86, some 87, some 88, some 89, some 90, some 91, some 92, some 93, some 94, some 95, some 96, some 97, some 98, some 99, some 100, some 101, some 102, some 103] [] rfl rfl rfl rfl ?_
    simp -implicitDefEqProofs (maxSteps := 2000000) (disch := first | omega | (simp only [go_sem, List.length_append, List.length_drop, List.length_take] <;> omega) | decide) only [go_sem, ↓reduceIte, Nat.reduceEqDiff, reduceCtorEq, Nat.reduceLT, Nat.reduceBEq, Nat.reduceAdd, Nat.reduceSub, Nat.reduceMul, Nat.reduceMod, Int.reduceMod, Int.reduceToNat, Int.reduceNeg, eq_self, decide_true, decide_false, not_true_eq_false, not_false_eq_true, q0, q1, h16, e15, e17]
    with_reducible refine And.intro ?_ ?_
    · exact rfl
    refine hK19 _ ?_
    clear hK19 K19
    refine Tr.kp [9, 10, 11, 12, 103] ?_
    simp only [pk_cons, pk_nil, ↓A_cons, ↓reduceIte, Nat.reduceEqDiff, reduceCtorEq]
    refine Tr.condG fun KT KF hT hF => ?_
    simp only [ev_tmp, ev_const, ↓A_cons, ↓reduceIte, Nat.reduceEqDiff, reduceCtorEq, condG_bool, GB_true, GB_false, decide_eq_true_eq]
    refine hF ?_
    clear hT hF KT KF
    refine Tr.skip ?_
    refine hK14 _ ?_
    clear hK14 K14
    refine Tr.kp [9, 10, 11, 12] ?_
    simp only [pk_cons, pk_nil, ↓A_cons, ↓reduceIte, Nat.reduceEqDiff, reduceCtorEq]
    refine Tr.cutA hcx 2 (by decide) ?_ ?_ ?_
    · simp only [noRefE_nil, noRefE_cons, go_sem, Bool.true_and] <;> decide
    · simp only [List.take_succ_cons, List.take_zero, noRefH_nil, noRefH_none, noRefH_some, go_sem, Bool.true_and] <;> decide
    simp only [List.take_succ_cons, List.take_zero]
    refine Tr.rg hcx [1000042] _ [] rfl rfl rfl ?_
    simp -implicitDefEqProofs (maxSteps := 2000000) (disch := first | omega | (simp only [go_sem, List.length_append, List.length_drop, List.length_take] <;> omega) | decide) only [go_sem, ↓reduceIte, Nat.reduceEqDiff, reduceCtorEq, Nat.reduceLT, Nat.reduceBEq, Nat.reduceAdd, Nat.reduceSub, Nat.reduceMul, Nat.reduceMod, Int.reduceMod, Int.reduceToNat, Int.reduceNeg, eq_self, decide_true, decide_false, not_true_eq_false, not_false_eq_true, q0, q1]
    refine ⟨k0 + 1, ⟨by omega, by first | omega | (simp only []; omega)⟩, ?_, rfl⟩
    (simp only [Le_nil, Le_cons, ↓A_cons, ↓reduceIte, Nat.reduceEqDiff, reduceCtorEq, CLe_refl, CLe_top, CLe_full, CLe_nil, CLe_own, and_true, true_and]; all_goals (repeat' first | exact CLe.refl _ | exact True.intro | (refine CLe_sln ?_; first | with_reducible rfl | (simp only [List.take_zero]; done) | (rfl; done)) | exact CLe_nI (by omega) | exact CLe_int (by omega) | exact CLe_inI (by omega) | exact CLe_nIi (by omega) | with_reducible apply And.intro))
    all_goals exact CLe_nI (by omega)
   ·
    have q1o := q1
    replace q1 := eq_false q1
    by_cases q2 : k = 2
    ·
     subst q2
     have q2 := True.intro
     have hX : LI (mo.take (min mo.length 300)) := hmt
     have e11 := h11 (mo.take (min mo.length 300)) B W hX hB hW
     have e12 := h12 (mo.take (min mo.length 300)) B W hX hB hW
     have e13 := h13 (mo.take (min mo.length 300)) B W hX hB hW
     have e14 := h14 (mo.take (min mo.length 300)) B W hX hB hW
     have hfo := fill_ok (mo.take (min mo.length 300)) B W
     have hgo := gre_ok (mo.take (min mo.length 300)) B W
     have hf1 := hfo.1.1
     have hf2 := hfo.2.1.1
     have hf3 := hfo.2.2.1
     have hg1 := hgo.1
     have e15 := (h15 (fillT (mo.take (min mo.length 300)) B W).1 (fillT (mo.take (min mo.length 300)) B W).2.1 (fillT (mo.take (min mo.length 300)) B W).2.2.1 (fillT (mo.take (min mo.length 300)) B W).1 (fillT (mo.take (min mo.length 300)) B W).2.1 (fillT (mo.take (min mo.length 300)) B W).2.2.1 (by omega) (by omega) (by omega)).trans (congrArg (fun z => some (C.val (.bool z))) (decide_eq_true rfl))
     have e17 := (h17 (greT (mo.take (min mo.length 300)) B W).1 (greT (mo.take (min mo.length 300)) B W).1 (by omega)).trans (congrArg (fun z => some (C.val (.bool z))) (decide_eq_true rfl))
     refine Tr.rg hcx [] _ [] rfl rfl rfl ?_
     simp -implicitDefEqProofs (maxSteps := 2000000) (disch := first | omega | (simp only [go_sem, List.length_append, List.length_drop, List.length_take] <;> omega) | decide) only [go_sem, ↓reduceIte, Nat.reduceEqDiff, reduceCtorEq, Nat.reduceLT, Nat.reduceBEq, Nat.reduceAdd, Nat.reduceSub, Nat.reduceMul, Nat.reduceMod, Int.reduceMod, Int.reduceToNat, Int.reduceNeg, eq_self, decide_true, decide_false, not_true_eq_false, not_false_eq_true, q0, q1, q2]
     refine hK7 _ ?_
     clear hK7 K7
     refine Tr.kp [9, 10, 11, 12, 40] ?_
     simp only [pk_cons, pk_nil, ↓A_cons, ↓reduceIte, Nat.reduceEqDiff, reduceCtorEq]
     refine Tr.condG fun KT KF hT hF => ?_
     simp only [ev_tmp, ev_const, ↓A_cons, ↓reduceIte, Nat.reduceEqDiff, reduceCtorEq, condG_bool, GB_true, GB_false, decide_eq_true_eq]
     refine hT ?_
     clear hT hF KT KF
     refine Tr.skip ?_
     refine hK6 _ ?_
     clear hK6 K6
     refine Tr.kp [9, 10, 11, 12] ?_
     simp only [pk_cons, pk_nil, ↓A_cons, ↓reduceIte, Nat.reduceEqDiff, reduceCtorEq]
     refine Tr.seqK fun K20 hK20 => ?_
     refine Tr.blk ?_
     refine Tr.seqK fun K21 hK21 => ?_
     refine Tr.rg hcx [1000052] _ [none] rfl rfl rfl ?_
     simp -implicitDefEqProofs (maxSteps := 2000000) (disch := first | omega | (simp only [go_sem, List.length_append, List.length_drop, List.length_take] <;> omega) | decide) only [go_sem, ↓reduceIte, Nat.reduceEqDiff, reduceCtorEq, Nat.reduceLT, Nat.reduceBEq, Nat.reduceAdd, Nat.reduceSub, Nat.reduceMul, Nat.reduceMod, Int.reduceMod, Int.reduceToNat, Int.reduceNeg, eq_self, decide_true, decide_false, not_true_eq_false, not_false_eq_true, q0, q1, q2, e11]
     refine hK21 _ ?_
     clear hK21 K21
     refine Tr.kp [9, 10, 11, 12, 13, 14] ?_
     simp only [pk_cons, pk_nil, ↓A_cons, ↓reduceIte, Nat.reduceEqDiff, reduceCtorEq]
     refine Tr.seqK fun K22 hK22 => ?_
     refine Tr.rg hcx [1000062] _ [none] rfl rfl rfl ?_
     simp -implicitDefEqProofs (maxSteps := 2000000) (disch := first | omega | (simp only [go_sem, List.length_append, List.length_drop, List.length_take] <;> omega) | decide) only [go_sem, ↓reduceIte, Nat.reduceEqDiff, reduceCtorEq, Nat.reduceLT, Nat.reduceBEq, Nat.reduceAdd, Nat.reduceSub, Nat.reduceMul, Nat.reduceMod, Int.reduceMod, Int.reduceToNat, Int.reduceNeg, eq_self, decide_true, decide_false, not_true_eq_false, not_false_eq_true, q0, q1, q2, e12]
     refine hK22 _ ?_
     clear hK22 K22
     refine Tr.kp [9, 10, 11, 12, 13, 14, 15, 16] ?_
     simp only [pk_cons, pk_nil, ↓A_cons, ↓reduceIte, Nat.reduceEqDiff, reduceCtorEq]
     refine Tr.seqK fun K23 hK23 => ?_
     refine Tr.rg hcx [1000071, 1000072] _ [] rfl rfl rfl ?_
     simp -implicitDefEqProofs (maxSteps := 2000000) (disch := first | omega | (simp only [go_sem, List.length_append, List.length_drop, List.length_take] <;> omega) | decide) only [go_sem, ↓reduceIte, Nat.reduceEqDiff, reduceCtorEq, Nat.reduceLT, Nat.reduceBEq, Nat.reduceAdd, Nat.reduceSub, Nat.reduceMul, Nat.reduceMod, Int.reduceMod, Int.reduceToNat, Int.reduceNeg, eq_self, decide_true, decide_false, not_true_eq_false, not_false_eq_true, q0, q1, q2, e13]
     refine hK23 _ ?_
     clear hK23 K23
     refine Tr.kp [9, 10, 11, 12, 13, 14, 15, 16, 17, 18] ?_
     simp only [pk_cons, pk_nil, ↓A_cons, ↓reduceIte, Nat.reduceEqDiff, reduceCtorEq]
     refine Tr.seqK fun K24 hK24 => ?_
     refine Tr.rg hcx [1000081, 1000082] _ [] rfl rfl rfl ?_
     simp -implicitDefEqProofs (maxSteps := 2000000) (disch := first | omega | (simp only [go_sem, List.length_append, List.length_drop, List.length_take] <;> omega) | decide) only [go_sem, ↓reduceIte, Nat.reduceEqDiff, reduceCtorEq, Nat.reduceLT, Nat.reduceBEq, Nat.reduceAdd, Nat.reduceSub, Nat.reduceMul, Nat.reduceMod, Int.reduceMod, Int.reduceToNat, Int.reduceNeg, eq_self, decide_true, decide_false, not_true_eq_false, not_false_eq_true, q0, q1, q2, e14]
     refine hK24 _ ?_
     clear hK24 K24
     refine Tr.kp [9, 10, 11, 12, 13, 14, 15, 16, 17, 18, 19, 20] ?_
     simp only [pk_cons, pk_nil, ↓A_cons, ↓reduceIte, Nat.reduceEqDiff, reduceCtorEq]
     refine Tr.seqK fun K25 hK25 => ?_
     refine Tr.rgD hcx hMO [] [some 83, some 84, some 85, some 86, some 87, some 88, some 89, some 90, some 91, some 92, some 93, some 94, some 95, some 96, some 97, some 98, some 99, some 100, some 101, some 102, some 103] [] rfl rfl rfl rfl ?_
     simp -implicitDefEqProofs (maxSteps := 2000000) (disch := first | omega | (simp only [go_sem, List.length_append, List.length_drop, List.length_take] <;> omega) | decide) only [go_sem, ↓reduceIte, Nat.reduceEqDiff, reduceCtorEq, Nat.reduceLT, Nat.reduceBEq, Nat.reduceAdd, Nat.reduceSub, Nat.reduceMul, Nat.reduceMod, Int.reduceMod, Int.reduceToNat, Int.reduceNeg, eq_self, decide_true, decide_false, not_true_eq_false, not_false_eq_true, q0, q1, q2, h16, e15, e17]
     with_reducible refine And.intro ?_ ?_
     · exact rfl
     refine hK25 _ ?_
     clear hK25 K25
     refine Tr.kp [9, 10, 11, 12, 103] ?_
     simp only [pk_cons, pk_nil, ↓A_cons, ↓reduceIte, Nat.reduceEqDiff, reduceCtorEq]
     refine Tr.condG fun KT KF hT hF => ?_
     simp only [ev_tmp, ev_const, ↓A_cons, ↓reduceIte, Nat.reduceEqDiff, reduceCtorEq, condG_bool, GB_true, GB_false, decide_eq_true_eq]
     refine hF ?_
     clear hT hF KT KF
     refine Tr.skip ?_
     refine hK20 _ ?_
     clear hK20 K20
     refine Tr.kp [9, 10, 11, 12] ?_
     simp only [pk_cons, pk_nil, ↓A_cons, ↓reduceIte, Nat.reduceEqDiff, reduceCtorEq]
     refine Tr.cutA hcx 2 (by decide) ?_ ?_ ?_
     · simp only [noRefE_nil, noRefE_cons, go_sem, Bool.true_and] <;> decide
     · simp only [List.take_succ_cons, List.take_zero, noRefH_nil, noRefH_none, noRefH_some, go_sem, Bool.true_and] <;> decide
     simp only [List.take_succ_cons, List.take_zero]
     refine Tr.rg hcx [1000042] _ [] rfl rfl rfl ?_
     simp -implicitDefEqProofs (maxSteps := 2000000) (disch := first | omega | (simp only [go_sem, List.length_append, List.length_drop, List.length_take] <;> omega) | decide) only [go_sem, ↓reduceIte, Nat.reduceEqDiff, reduceCtorEq, Nat.reduceLT, Nat.reduceBEq, Nat.reduceAdd, Nat.reduceSub, Nat.reduceMul, Nat.reduceMod, Int.reduceMod, Int.reduceToNat, Int.reduceNeg, eq_self, decide_true, decide_false, not_true_eq_false, not_false_eq_true, q0, q1, q2]
     refine ⟨k0 + 1, ⟨by omega, by first | omega | (simp only []; omega)⟩, ?_, rfl⟩
     (simp only [Le_nil, Le_cons, ↓A_cons, ↓reduceIte, Nat.reduceEqDiff, reduceCtorEq, CLe_refl, CLe_top, CLe_full, CLe_nil, CLe_own, and_true, true_and]; all_goals (repeat' first | exact CLe.refl _ | exact True.intro | (refine CLe_sln ?_; first | with_reducible rfl | (simp only [List.take_zero]; done) | (rfl; done)) | exact CLe_nI (by omega) | exact CLe_int (by omega) | exact CLe_inI (by omega) | exact CLe_nIi (by omega) | with_reducible apply And.intro))
     all_goals exact CLe_nI (by omega)
    ·
     have q2o := q2
     replace q2 := eq_false q2
     by_cases q3 : k = 3
     ·
      subst q3
      have q3 := True.intro
      have hX : LI (List.replicate 256 0) := LI_of (by decide) (by decide)
      have e11 := h11 (List.replicate 256 0) B W hX hB hW
      have e12 := h12 (List.replicate 256 0) B W hX hB hW
      have e13 := h13 (List.replicate 256 0) B W hX hB hW
      have e14 := h14 (List.replicate 256 0) B W hX hB hW
      have hfo := fill_ok (List.replicate 256 0) B W
      have hgo := gre_ok (List.replicate 256 0) B W
      have hf1 := hfo.1.1
      have hf2 := hfo.2.1.1
      have hf3 := hfo.2.2.1
      have hg1 := hgo.1
      have e15 := (h15 (fillT (List.replicate 256 0) B W).1 (fillT (List.replicate 256 0) B W).2.1 (fillT (List.replicate 256 0) B W).2.2.1 (fillT (List.replicate 256 0) B W).1 (fillT (List.replicate 256 0) B W).2.1 (fillT (List.replicate 256 0) B W).2.2.1 (by omega) (by omega) (by omega)).trans (congrArg (fun z => some (C.val (.bool z))) (decide_eq_true rfl))
      have e17 := (h17 (greT (List.replicate 256 0) B W).1 (greT (List.replicate 256 0) B W).1 (by omega)).trans (congrArg (fun z => some (C.val (.bool z))) (decide_eq_true rfl))
      refine Tr.rg hcx [] _ [] rfl rfl rfl ?_
      simp -implicitDefEqProofs (maxSteps := 2000000) (disch := first | omega | (simp only [go_sem, List.length_append, List.length_drop, List.length_take] <;> omega) | decide) only [go_sem, ↓reduceIte, Nat.reduceEqDiff, reduceCtorEq, Nat.reduceLT, Nat.reduceBEq, Nat.reduceAdd, Nat.reduceSub, Nat.reduceMul, Nat.reduceMod, Int.reduceMod, Int.reduceToNat, Int.reduceNeg, eq_self, decide_true, decide_false, not_true_eq_false, not_false_eq_true, q0, q1, q2, q3]
      refine hK7 _ ?_
      clear hK7 K7
      refine Tr.kp [9, 10, 11, 12, 40] ?_
      simp only [pk_cons, pk_nil, ↓A_cons, ↓reduceIte, Nat.reduceEqDiff, reduceCtorEq]
      refine Tr.condG fun KT KF hT hF => ?_
      simp only [ev_tmp, ev_const, ↓A_cons, ↓reduceIte, Nat.reduceEqDiff, reduceCtorEq, condG_bool, GB_true, GB_false, decide_eq_true_eq]
      refine hT ?_
      clear hT hF KT KF
      refine Tr.skip ?_
      refine hK6 _ ?_
      clear hK6 K6
      refine Tr.kp [9, 10, 11, 12] ?_
      simp only [pk_cons, pk_nil, ↓A_cons, ↓reduceIte, Nat.reduceEqDiff, reduceCtorEq]
      refine Tr.seqK fun K26 hK26 => ?_
      refine Tr.blk ?_
      refine Tr.seqK fun K27 hK27 => ?_
      refine Tr.rg hcx [1000052] _ [none] rfl rfl rfl ?_
      simp -implicitDefEqProofs (maxSteps := 2000000) (disch := first | omega | (simp only [go_sem, List.length_append, List.length_drop, List.length_take] <;> omega) | decide) only [go_sem, ↓reduceIte, Nat.reduceEqDiff, reduceCtorEq, Nat.reduceLT, Nat.reduceBEq, Nat.reduceAdd, Nat.reduceSub, Nat.reduceMul, Nat.reduceMod, Int.reduceMod, Int.reduceToNat, Int.reduceNeg, eq_self, decide_true, decide_false, not_true_eq_false, not_false_eq_true, q0, q1, q2, q3, e11]
      refine hK27 _ ?_
      clear hK27 K27
      refine Tr.kp [9, 10, 11, 12, 13, 14] ?_
      simp only [pk_cons, pk_nil, ↓A_cons, ↓reduceIte, Nat.reduceEqDiff, reduceCtorEq]
      refine Tr.seqK fun K28 hK28 => ?_
      refine Tr.rg hcx [1000062] _ [none] rfl rfl rfl ?_
      simp -implicitDefEqProofs (maxSteps := 2000000) (disch := first | omega | (simp only [go_sem, List.length_append, List.length_drop, List.length_take] <;> omega) | decide) only [go_sem, ↓reduceIte, Nat.reduceEqDiff, reduceCtorEq, Nat.reduceLT, Nat.reduceBEq, Nat.reduceAdd, Nat.reduceSub, Nat.reduceMul, Nat.reduceMod, Int.reduceMod, Int.reduceToNat, Int.reduceNeg, eq_self, decide_true, decide_false, not_true_eq_false, not_false_eq_true, q0, q1, q2, q3, e12]
      refine hK28 _ ?_
      clear hK28 K28
      refine Tr.kp [9, 10, 11, 12, 13, 14, 15, 16] ?_
      simp only [pk_cons, pk_nil, ↓A_cons, ↓reduceIte, Nat.reduceEqDiff, reduceCtorEq]
      refine Tr.seqK fun K29 hK29 => ?_
      refine Tr.rg hcx [1000071, 1000072] _ [] rfl rfl rfl ?_
      simp -implicitDefEqProofs (maxSteps := 2000000) (disch := first | omega | (simp only [go_sem, List.length_append, List.length_drop, List.length_take] <;> omega) | decide) only [go_sem, ↓reduceIte, Nat.reduceEqDiff, reduceCtorEq, Nat.reduceLT, Nat.reduceBEq, Nat.reduceAdd, Nat.reduceSub, Nat.reduceMul, Nat.reduceMod, Int.reduceMod, Int.reduceToNat, Int.reduceNeg, eq_self, decide_true, decide_false, not_true_eq_false, not_false_eq_true, q0, q1, q2, q3, e13]
      refine hK29 _ ?_
      clear hK29 K29
      refine Tr.kp [9, 10, 11, 12, 13, 14, 15, 16, 17, 18] ?_
      simp only [pk_cons, pk_nil, ↓A_cons, ↓reduceIte, Nat.reduceEqDiff, reduceCtorEq]
      refine Tr.seqK fun K30 hK30 => ?_
      refine Tr.rg hcx [1000081, 1000082] _ [] rfl rfl rfl ?_
      simp -implicitDefEqProofs (maxSteps := 2000000) (disch := first | omega | (simp only [go_sem, List.length_append, List.length_drop, List.length_take] <;> omega) | decide) only [go_sem, ↓reduceIte, Nat.reduceEqDiff, reduceCtorEq, Nat.reduceLT, Nat.reduceBEq, Nat.reduceAdd, Nat.reduceSub, Nat.reduceMul, Nat.reduceMod, Int.reduceMod, Int.reduceToNat, Int.reduceNeg, eq_self, decide_true, decide_false, not_true_eq_false, not_false_eq_true, q0, q1, q2, q3, e14]
      refine hK30 _ ?_
      clear hK30 K30
      refine Tr.kp [9, 10, 11, 12, 13, 14, 15, 16, 17, 18, 19, 20] ?_
      simp only [pk_cons, pk_nil, ↓A_cons, ↓reduceIte, Nat.reduceEqDiff, reduceCtorEq]
      refine Tr.seqK fun K31 hK31 => ?_
      refine Tr.rgD hcx hMO [] [some 83, some 84, some 85, some 86, some 87, some 88, some 89, some 90, some 91, some 92, some 93, some 94, some 95, some 96, some 97, some 98, some 99, some 100, some 101, some 102, some 103] [] rfl rfl rfl rfl ?_
      simp -implicitDefEqProofs (maxSteps := 2000000) (disch := first | omega | (simp only [go_sem, List.length_append, List.length_drop, List.length_take] <;> omega) | decide) only [go_sem, ↓reduceIte, Nat.reduceEqDiff, reduceCtorEq, Nat.reduceLT, Nat.reduceBEq, Nat.reduceAdd, Nat.reduceSub, Nat.reduceMul, Nat.reduceMod, Int.reduceMod, Int.reduceToNat, Int.reduceNeg, eq_self, decide_true, decide_false, not_true_eq_false, not_false_eq_true, q0, q1, q2, q3, h16, e15, e17]
      with_reducible refine And.intro ?_ ?_
      · exact rfl
      refine hK31 _ ?_
      clear hK31 K31
      refine Tr.kp [9, 10, 11, 12, 103] ?_
      simp only [pk_cons, pk_nil, ↓A_cons, ↓reduceIte, Nat.reduceEqDiff, reduceCtorEq]
      refine Tr.condG fun KT KF hT hF => ?_
      simp only [ev_tmp, ev_const, ↓A_cons, ↓reduceIte, Nat.reduceEqDiff, reduceCtorEq, condG_bool, GB_true, GB_false, decide_eq_true_eq]
      refine hF ?_
      clear hT hF KT KF
      refine Tr.skip ?_
      refine hK26 _ ?_
      clear hK26 K26
      refine Tr.kp [9, 10, 11, 12] ?_
      simp only [pk_cons, pk_nil, ↓A_cons, ↓reduceIte, Nat.reduceEqDiff, reduceCtorEq]
      refine Tr.cutA hcx 2 (by decide) ?_ ?_ ?_
      · simp only [noRefE_nil, noRefE_cons, go_sem, Bool.true_and] <;> decide
      · simp only [List.take_succ_cons, List.take_zero, noRefH_nil, noRefH_none, noRefH_some, go_sem, Bool.true_and] <;> decide
      simp only [List.take_succ_cons, List.take_zero]
      refine Tr.rg hcx [1000042] _ [] rfl rfl rfl ?_
      simp -implicitDefEqProofs (maxSteps := 2000000) (disch := first | omega | (simp only [go_sem, List.length_append, List.length_drop, List.length_take] <;> omega) | decide) only [go_sem, ↓reduceIte, Nat.reduceEqDiff, reduceCtorEq, Nat.reduceLT, Nat.reduceBEq, Nat.reduceAdd, Nat.reduceSub, Nat.reduceMul, Nat.reduceMod, Int.reduceMod, Int.reduceToNat, Int.reduceNeg, eq_self, decide_true, decide_false, not_true_eq_false, not_false_eq_true, q0, q1, q2, q3]
      refine ⟨k0 + 1, ⟨by omega, by first | omega | (simp only []; omega)⟩, ?_, rfl⟩
      (simp only [Le_nil, Le_cons, ↓A_cons, ↓reduceIte, Nat.reduceEqDiff, reduceCtorEq, CLe_refl, CLe_top, CLe_full, CLe_nil, CLe_own, and_true, true_and]; all_goals (repeat' first | exact CLe.refl _ | exact True.intro | (refine CLe_sln ?_; first | with_reducible rfl | (simp only [List.take_zero]; done) | (rfl; done)) | exact CLe_nI (by omega) | exact CLe_int (by omega) | exact CLe_inI (by omega) | exact CLe_nIi (by omega) | with_reducible apply And.intro))
      all_goals exact CLe_nI (by omega)
     ·
      have q3o := q3
      replace q3 := eq_false q3
      by_cases q4 : k = 4
      ·
       subst q4
       have q4 := True.intro
       have hX : LI (List.replicate 257 0) := LI_of (by decide) (by decide)
       have e11 := h11 (List.replicate 257 0) B W hX hB hW
       have e12 := h12 (List.replicate 257 0) B W hX hB hW
       have e13 := h13 (List.replicate 257 0) B W hX hB hW
       have e14 := h14 (List.replicate 257 0) B W hX hB hW
       have hfo := fill_ok (List.replicate 257 0) B W
       have hgo := gre_ok (List.replicate 257 0) B W
       have hf1 := hfo.1.1
       have hf2 := hfo.2.1.1
       have hf3 := hfo.2.2.1
       have hg1 := hgo.1
       have e15 := (h15 (fillT (List.replicate 257 0) B W).1 (fillT (List.replicate 257 0) B W).2.1 (fillT (List.replicate 257 0) B W).2.2.1 (fillT (List.replicate 257 0) B W).1 (fillT (List.replicate 257 0) B W).2.1 (fillT (List.replicate 257 0) B W).2.2.1 (by omega) (by omega) (by omega)).trans (congrArg (fun z => some (C.val (.bool z))) (decide_eq_true rfl))
       have e17 := (h17 (greT (List.replicate 257 0) B W).1 (greT (List.replicate 257 0) B W).1 (by omega)).trans (congrArg (fun z => some (C.val (.bool z))) (decide_eq_true rfl))
       refine Tr.rg hcx [] _ [] rfl rfl rfl ?_
       simp -implicitDefEqProofs (maxSteps := 2000000) (disch := first | omega | (simp only [go_sem, List.length_append, List.length_drop, List.length_take] <;> omega) | decide) only [go_sem, ↓reduceIte, Nat.reduceEqDiff, reduceCtorEq, Nat.reduceLT, Nat.reduceBEq, Nat.reduceAdd, Nat.reduceSub, Nat.reduceMul, Nat.reduceMod, Int.reduceMod, Int.reduceToNat, Int.reduceNeg, eq_self, decide_true, decide_false, not_true_eq_false, not_false_eq_true, q0, q1, q2, q3, q4]
       refine hK7 _ ?_
       clear hK7 K7
       refine Tr.kp [9, 10, 11, 12, 40] ?_
       simp only [pk_cons, pk_nil, ↓A_cons, ↓reduceIte, Nat.reduceEqDiff, reduceCtorEq]
       refine Tr.condG fun KT KF hT hF => ?_
       simp only [ev_tmp, ev_const, ↓A_cons, ↓reduceIte, Nat.reduceEqDiff, reduceCtorEq, condG_bool, GB_true, GB_false, decide_eq_true_eq]
       refine hT ?_
       clear hT hF KT KF
       refine Tr.skip ?_
       refine hK6 _ ?_
       clear hK6 K6
       refine Tr.kp [9, 10, 11, 12] ?_
       simp only [pk_cons, pk_nil, ↓A_cons, ↓reduceIte, Nat.reduceEqDiff, reduceCtorEq]
       refine Tr.seqK fun K32 hK32 => ?_
       refine Tr.blk ?_
       refine Tr.seqK fun K33 hK33 => ?_
       refine Tr.rg hcx [1000052] _ [none] rfl rfl rfl ?_
       simp -implicitDefEqProofs (maxSteps := 2000000) (disch := first | omega | (simp only [go_sem, List.length_append, List.length_drop, List.length_take] <;> omega) | decide) only [go_sem, ↓reduceIte, Nat.reduceEqDiff, reduceCtorEq, Nat.reduceLT, Nat.reduceBEq, Nat.reduceAdd, Nat.reduceSub, Nat.reduceMul, Nat.reduceMod, Int.reduceMod, Int.reduceToNat, Int.reduceNeg, eq_self, decide_true, decide_false, not_true_eq_false, not_false_eq_true, q0, q1, q2, q3, q4, e11]
       refine hK33 _ ?_
       clear hK33 K33
       refine Tr.kp [9, 10, 11, 12, 13, 14] ?_
       simp only [pk_cons, pk_nil, ↓A_cons, ↓reduceIte, Nat.reduceEqDiff, reduceCtorEq]
       refine Tr.seqK fun K34 hK34 => ?_
       refine Tr.rg hcx [1000062] _ [none] rfl rfl rfl ?_
       simp -implicitDefEqProofs (maxSteps := 2000000) (disch := first | omega | (simp only [go_sem, List.length_append, List.length_drop, List.length_take] <;> omega) | decide) only [go_sem, ↓reduceIte, Nat.reduceEqDiff, reduceCtorEq, Nat.reduceLT, Nat.reduceBEq, Nat.reduceAdd, Nat.reduceSub, Nat.reduceMul, Nat.reduceMod, Int.reduceMod, Int.reduceToNat, Int.reduceNeg, eq_self, decide_true, decide_false, not_true_eq_false, not_false_eq_true, q0, q1, q2, q3, q4, e12]
       refine hK34 _ ?_
       clear hK34 K34
       refine Tr.kp [9, 10, 11, 12, 13, 14, 15, 16] ?_
       simp only [pk_cons, pk_nil, ↓A_cons, ↓reduceIte, Nat.reduceEqDiff, reduceCtorEq]
       refine Tr.seqK fun K35 hK35 => ?_
       refine Tr.rg hcx [1000071, 1000072] _ [] rfl rfl rfl ?_
       simp -implicitDefEqProofs (maxSteps := 2000000) (disch := first | omega | (simp only [go_sem, List.length_append, List.length_drop, List.length_take] <;> omega) | decide) only [go_sem, ↓reduceIte, Nat.reduceEqDiff, reduceCtorEq, Nat.reduceLT, Nat.reduceBEq, Nat.reduceAdd, Nat.reduceSub, Nat.reduceMul, Nat.reduceMod, Int.reduceMod, Int.reduceToNat, Int.reduceNeg, eq_self, decide_true, decide_false, not_true_eq_false, not_false_eq_true, q0, q1, q2, q3, q4, e13]
       refine hK35 _ ?_
       clear hK35 K35
       refine Tr.kp [9, 10, 11, 12, 13, 14, 15, 16, 17, 18] ?_
       simp only [pk_cons, pk_nil, ↓A_cons, ↓reduceIte, Nat.reduceEqDiff, reduceCtorEq]
       refine Tr.seqK fun K36 hK36 => ?_
       refine Tr.rg hcx [1000081, 1000082] _ [] rfl rfl rfl ?_
       simp -implicitDefEqProofs (maxSteps := 2000000) (disch := first | omega | (simp only [go_sem, List.length_append, List.length_drop, List.length_take] <;> omega) | decide) only [go_sem, ↓reduceIte, Nat.reduceEqDiff, reduceCtorEq, Nat.reduceLT, Nat.reduceBEq, Nat.reduceAdd, Nat.reduceSub, Nat.reduceMul, Nat.reduceMod, Int.reduceMod, Int.reduceToNat, Int.reduceNeg, eq_self, decide_true, decide_false, not_true_eq_false, not_false_eq_true, q0, q1, q2, q3, q4, e14]
       refine hK36 _ ?_
       clear hK36 K36
       refine Tr.kp [9, 10, 11, 12, 13, 14, 15, 16, 17, 18, 19, 20] ?_
       simp only [pk_cons, pk_nil, ↓A_cons, ↓reduceIte, Nat.reduceEqDiff, reduceCtorEq]
       refine Tr.seqK fun K37 hK37 => ?_
       refine Tr.rgD hcx hMO [] [some 83, some 84, some 85, some 86, some 87, some 88, some 89, some 90, some 91, some 92, some 93, some 94, some 95, some 96, some 97, some 98, some 99, some 100, some 101, some 102, some 103] [] rfl rfl rfl rfl ?_
       simp -implicitDefEqProofs (maxSteps := 2000000) (disch := first | omega | (simp only [go_sem, List.length_append, List.length_drop, List.length_take] <;> omega) | decide) only [go_sem, ↓reduceIte, Nat.reduceEqDiff, reduceCtorEq, Nat.reduceLT, Nat.reduceBEq, Nat.reduceAdd, Nat.reduceSub, Nat.reduceMul, Nat.reduceMod, Int.reduceMod, Int.reduceToNat, Int.reduceNeg, eq_self, decide_true, decide_false, not_true_eq_false, not_false_eq_true, q0, q1, q2, q3, q4, h16, e15, e17]
       with_reducible refine And.intro ?_ ?_
       · exact rfl
       refine hK37 _ ?_
       clear hK37 K37
       refine Tr.kp [9, 10, 11, 12, 103] ?_
       simp only [pk_cons, pk_nil, ↓A_cons, ↓reduceIte, Nat.reduceEqDiff, reduceCtorEq]
       refine Tr.condG fun KT KF hT hF => ?_
       simp only [ev_tmp, ev_const, ↓A_cons, ↓reduceIte, Nat.reduceEqDiff, reduceCtorEq, condG_bool, GB_true, GB_false, decide_eq_true_eq]
       refine hF ?_
       clear hT hF KT KF
       refine Tr.skip ?_
       refine hK32 _ ?_
       clear hK32 K32
       refine Tr.kp [9, 10, 11, 12] ?_
       simp only [pk_cons, pk_nil, ↓A_cons, ↓reduceIte, Nat.reduceEqDiff, reduceCtorEq]
       refine Tr.cutA hcx 2 (by decide) ?_ ?_ ?_
       · simp only [noRefE_nil, noRefE_cons, go_sem, Bool.true_and] <;> decide
       · simp only [List.take_succ_cons, List.take_zero, noRefH_nil, noRefH_none, noRefH_some, go_sem, Bool.true_and] <;> decide
       simp only [List.take_succ_cons, List.take_zero]
       refine Tr.rg hcx [1000042] _ [] rfl rfl rfl ?_
       simp -implicitDefEqProofs (maxSteps := 2000000) (disch := first | omega | (simp only [go_sem, List.length_append, List.length_drop, List.length_take] <;> omega) | decide) only [go_sem, ↓reduceIte, Nat.reduceEqDiff, reduceCtorEq, Nat.reduceLT, Nat.reduceBEq, Nat.reduceAdd, Nat.reduceSub, Nat.reduceMul, Nat.reduceMod, Int.reduceMod, Int.reduceToNat, Int.reduceNeg, eq_self, decide_true, decide_false, not_true_eq_false, not_false_eq_true, q0, q1, q2, q3, q4]
       refine ⟨k0 + 1, ⟨by omega, by first | omega | (simp only []; omega)⟩, ?_, rfl⟩
       (simp only [Le_nil, Le_cons, ↓A_cons, ↓reduceIte, Nat.reduceEqDiff, reduceCtorEq, CLe_refl, CLe_top, CLe_full, CLe_nil, CLe_own, and_true, true_and]; all_goals (repeat' first | exact CLe.refl _ | exact True.intro | (refine CLe_sln ?_; first | with_reducible rfl | (simp only [List.take_zero]; done) | (rfl; done)) | exact CLe_nI (by omega) | exact CLe_int (by omega) | exact CLe_inI (by omega) | exact CLe_nIi (by omega) | with_reducible apply And.intro))
       all_goals exact CLe_nI (by omega)
      ·
       have q4o := q4
       replace q4 := eq_false q4
       refine Tr.rg hcx [] _ [] rfl rfl rfl ?_
       simp -implicitDefEqProofs (maxSteps := 2000000) (disch := first | omega | (simp only [go_sem, List.length_append, List.length_drop, List.length_take] <;> omega) | decide) only [go_sem, ↓reduceIte, Nat.reduceEqDiff, reduceCtorEq, Nat.reduceLT, Nat.reduceBEq, Nat.reduceAdd, Nat.reduceSub, Nat.reduceMul, Nat.reduceMod, Int.reduceMod, Int.reduceToNat, Int.reduceNeg, eq_self, decide_true, decide_false, not_true_eq_false, not_false_eq_true, q0, q1, q2, q3, q4]
       refine hK7 _ ?_
       clear hK7 K7
       refine Tr.kp [9, 10, 11, 12, 40] ?_
       simp only [pk_cons, pk_nil, ↓A_cons, ↓reduceIte, Nat.reduceEqDiff, reduceCtorEq]
       refine Tr.condG fun KT KF hT hF => ?_
       simp only [ev_tmp, ev_const, ↓A_cons, ↓reduceIte, Nat.reduceEqDiff, reduceCtorEq, condG_bool, GB_true, GB_false, decide_eq_true_eq]
       refine GB.neg ((decide_eq_false (by omega))) (hF ?_)
       clear hT hF KT KF
       refine Tr.exit ?_
       refine hK4 _ ?_
       clear hK6 K6 hK4 K4
       refine Tr.kp [] ?_
       simp only [pk_cons, pk_nil, ↓A_cons, ↓reduceIte, Nat.reduceEqDiff, reduceCtorEq]
       refine Tr.seqK fun K38 hK38 => ?_
       refine Tr.rg hcx [1000104] _ [] rfl rfl rfl ?_
       simp -implicitDefEqProofs (maxSteps := 2000000) (disch := first | omega | (simp only [go_sem, List.length_append, List.length_drop, List.length_take] <;> omega) | decide) only [go_sem, ↓reduceIte, Nat.reduceEqDiff, reduceCtorEq, Nat.reduceLT, Nat.reduceBEq, Nat.reduceAdd, Nat.reduceSub, Nat.reduceMul, Nat.reduceMod, Int.reduceMod, Int.reduceToNat, Int.reduceNeg, eq_self, decide_true, decide_false, not_true_eq_false, not_false_eq_true, q0, q1, q2, q3, q4, h18]
       refine hK38 _ ?_
       clear hK38 K38
       refine Tr.kp [8] ?_
       simp only [pk_cons, pk_nil, ↓A_cons, ↓reduceIte, Nat.reduceEqDiff, reduceCtorEq]
       refine Tr.ret ?_
       simp -implicitDefEqProofs (disch := first | omega | (simp only [go_sem, List.length_append, List.length_drop, List.length_take] <;> omega) | decide) only [go_sem, ↓reduceIte, Nat.reduceEqDiff, reduceCtorEq]
       all_goals (rfl)
end Go.Sx
namespace Go.Sx
open Go.RowKit Go.Proofs
def res37 (l : List Int) (b w : Int) : C := if errE l b w = 0 then .tup [.agg [sl iC .no (sumsL l b l.length), .val (.int .i64 b), .val (.int .i64 w)], .val (nI 0)] else .tup [.agg [.val (.slice none 0 0), .val (nI 0), .val (nI 0)], .val (nI (errE l b w))]
theorem fc37c {gl : Nat → C} {M : Nat} {pu : Nat → List C → Option C} (hcx : CxOK (cxP gl M pu)) (h53 : ∀ n : Int, -9223372036854775808 ≤ n ∧ n ≤ 9223372036854775807 → pu 53 [.val (.int .i64 n)] = some (.val (.bool (proI n)))) (l : List Int) (b w : Int) (hl : LI l) (hb : -9223372036854775808 ≤ b ∧ b ≤ 9223372036854775807) (hw : -9223372036854775808 ≤ w ∧ w ≤ 9223372036854775807) :
    FC Try.prog gl 37 [sl iC .no l, .val (.int .i64 b), .val (.int .i64 w)] [] (res37 l b w) [] := by
  unfold res37
  by_cases hE : errE l b w = 0
  · rw [if_pos hE]; exact fc37 hcx h53 l b w hl hb hw (errE_0.1 hE)
  · rw [if_neg hE]; exact fc37e hcx h53 l b w hl hb hw hE
def yF (z : Bool) (y1 y2 y3 : List Int) : C := if z = true then .agg [.val (.slice none 0 0), sl iC .full y2, sl iC .full y3] else .agg [sl iC .no y1, sl iC .no y2, sl iC .no y3]
theorem noRef_yF (n : Nat) (z : Bool) (y1 y2 y3 : List Int) : noRef n (yF z y1 y2 y3) = true := by
  unfold yF; split <;> simp only [noRef_agg, noRefs_cons, noRefs_nil, noRef_sl, noRef_val, Bool.true_and, Bool.and_true]
theorem yF_inj {z z' : Bool} {y1 y2 y3 y1' y2' y3' : List Int} (h : yF z y1 y2 y3 = yF z' y1' y2' y3') (h1 : z = true → y1 = []) (h2 : z' = true → y1' = []) : y1 = y1' ∧ y2 = y2' ∧ y3 = y3' := by
  unfold yF at h
  cases z <;> cases z' <;> simp only [if_true, if_false, reduceCtorEq, Bool.false_eq_true, C.agg.injEq, List.cons.injEq, and_true] at h
  · exact ⟨sl_inj.1 h.1, sl_inj.1 h.2.1, sl_inj.1 h.2.2⟩
  · exact absurd h.1 (by simp [sl])
  · exact absurd h.1 (by simp [sl])
  · exact ⟨(h1 rfl).trans (h2 rfl).symm, sl_inj.1 h.2.1, sl_inj.1 h.2.2⟩
theorem fc15z {gl : Nat → C} {M : Nat} {pu : Nat → List C → Option C} (hcx : CxOK (cxP gl M pu)) (h17 : ∀ x y : List Int, x.length < 9223372036854775807 → pu 17 [sl iC .no x, sl iC .no y] = some (.val (.bool (decide (x = y))))) (z : Bool) (x1 x2 x3 y1 y2 y3 : List Int) (hz : z = true → y1 = []) (hx1 : x1.length < 9223372036854775807) (hx2 : x2.length < 9223372036854775807) (hx3 : x3.length < 9223372036854775807) :
    FC Try.prog gl 15 [.agg [sl iC .no x1, sl iC .no x2, sl iC .no x3], yF z y1 y2 y3] [] (.val (.bool (decide ((x1, x2, x3) = (y1, y2, y3))))) [] := by
  unfold yF
  cases z with
  | true => rw [if_pos rfl, hz rfl]; exact fc15f hcx h17 x1 x2 x3 y2 y3 hx1 hx2 hx3
  | false => rw [if_neg (by simp)]; exact fc15 hcx h17 x1 x2 x3 y1 y2 y3 hx1 hx2 hx3
end Go.Sx
