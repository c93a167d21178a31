/-
  Package wire: contracts of functions. And what follows.
-/
import Derived.Test.YtclpbgpclnipcaaWa
import Derived.Test.YtclpbgpclnipcaaWc
set_option linter.unusedSimpArgs false
set_option linter.unusedVariables false
namespace Go.Sx
open Go.RowKit Go.Proofs


set_option maxRecDepth 100000 in
set_option maxHeartbeats 8000000 in
theorem fc34 {gl : Nat → C} {M : Nat} {pu : Nat → List C → Option C}  (hcx : CxOK (cxP gl M pu)) (h38 : ∀ (b : List UInt8) (s : Nat), b.length < 1099511627776 ∧ 0 < s ∧ s ≤ 16 ∧ cntE b s = 0 → pu 38 [sl bC .no b, .val (nI s)] = some (.tup [.val (nI (cn b)), .val (nI (ca b)), .val (nI 0)])) (h38e : ∀ (b : List UInt8) (s : Nat), b.length < 1099511627776 ∧ 0 < s ∧ s ≤ 16 ∧ ¬ cntE b s = 0 → pu 38 [sl bC .no b, .val (nI s)] = some (.tup [.val (.int .i64 (getI b).1), .val (nI (getI b).2.1), .val (nI (cntE b s))])) (b : List UInt8) (hb : b.length < 1099511627776) : FC Try.prog gl 34 [sl bC .no b] [] (.tup [sl dC .no (getL getD1 16 b).1, .val (nI (getL getD1 16 b).2.1), .val (nI (getL getD1 16 b).2.2)]) [] := by
 replace hcx := hcx.reN (M := 36)
 refine FC.ofA (cx := cxP gl 36 pu) (rs := [.tmp 2, .tmp 3, .tmp 4]) rfl Try.func34 rfl rfl rfl (by simp only [List.length_cons, List.length_nil]; decide) (by simp only [go_sem]) ?_
 simp only [ini, go_sem]
 have hgb := getI_bd b
 have hcl := cnt_le b 16
 refine Tr.seqK fun K1 hK1 => ?_
 -- region 0 (wire.go:160)
 refine Tr.rg hcx [] _ [] rfl rfl rfl ?_
 simp -implicitDefEqProofs (maxSteps := 2000000) (disch := first | omega | (simp only [go_sem, List.length_append, List.length_drop, List.length_take, hgb, hcl] <;> omega) | decide) only [go_sem, ↓reduceIte, Nat.reduceEqDiff, reduceCtorEq, Nat.reduceLT, Nat.reduceBEq, Nat.reduceAdd, Nat.reduceSub, Nat.reduceMul, Nat.reduceMod, Int.reduceMod, Int.reduceToNat, Int.reduceNeg, h38, h38e, Nat.add_sub_cancel_left]
 refine hK1 _ ?_
 clear hK1 K1
 refine Tr.kp [0] ?_
 simp only [pk_cons, pk_nil, ↓A_cons, ↓reduceIte, Nat.reduceEqDiff, reduceCtorEq]
 refine Tr.seqK fun K2 hK2 => ?_
 by_cases hcE : cntE b 16 = 0
 ·
  have hok := cnt_ok (by decide) hcE
  -- region 1 (wire.go:161)
  refine Tr.rg hcx [1000012, 1000013, 1000014] _ [] rfl rfl rfl ?_
  simp -implicitDefEqProofs (maxSteps := 2000000) (disch := first | omega | (simp only [go_sem, List.length_append, List.length_drop, List.length_take, hgb, hcl] <;> omega) | decide) only [go_sem, ↓reduceIte, Nat.reduceEqDiff, reduceCtorEq, Nat.reduceLT, Nat.reduceBEq, Nat.reduceAdd, Nat.reduceSub, Nat.reduceMul, Nat.reduceMod, Int.reduceMod, Int.reduceToNat, Int.reduceNeg, h38, h38e, Nat.add_sub_cancel_left, hcE]
  refine hK2 _ ?_
  clear hK2 K2
  refine Tr.kp [0, 5, 6, 7] ?_
  simp only [pk_cons, pk_nil, ↓A_cons, ↓reduceIte, Nat.reduceEqDiff, reduceCtorEq]
  refine Tr.seqK fun K3 hK3 => ?_
  refine Tr.seqK fun K4 hK4 => ?_
  -- region 2 (wire.go:162)
  refine Tr.rg hcx [] _ [] rfl rfl rfl ?_
  simp -implicitDefEqProofs (maxSteps := 2000000) (disch := first | omega | (simp only [go_sem, List.length_append, List.length_drop, List.length_take, hgb, hcl] <;> omega) | decide) only [go_sem, ↓reduceIte, Nat.reduceEqDiff, reduceCtorEq, Nat.reduceLT, Nat.reduceBEq, Nat.reduceAdd, Nat.reduceSub, Nat.reduceMul, Nat.reduceMod, Int.reduceMod, Int.reduceToNat, Int.reduceNeg, h38, h38e, Nat.add_sub_cancel_left, hcE]
  refine hK4 _ ?_
  clear hK4 K4
  refine Tr.kp [0, 5, 6, 7, 16] ?_
  simp only [pk_cons, pk_nil, ↓A_cons, ↓reduceIte, Nat.reduceEqDiff, reduceCtorEq]
  refine Tr.condG fun KT KF hT hF => ?_
  simp only [ev_tmp, ev_const, ↓A_cons, ↓reduceIte, Nat.reduceEqDiff, reduceCtorEq, condG_bool, GB_true, GB_false, decide_eq_true_eq]
  refine hF ?_
  clear hT hF KT KF
  refine Tr.skip ?_
  refine hK3 _ ?_
  clear hK3 K3
  refine Tr.kp [0, 5, 6] ?_
  simp only [pk_cons, pk_nil, ↓A_cons, ↓reduceIte, Nat.reduceEqDiff, reduceCtorEq]
  refine Tr.seqK fun K5 hK5 => ?_
  -- region 4 (wire.go:165)
  refine Tr.rg hcx [] _ [] rfl rfl rfl ?_
  simp -implicitDefEqProofs (maxSteps := 2000000) (disch := first | omega | (simp only [go_sem, List.length_append, List.length_drop, List.length_take, hgb, hcl] <;> omega) | decide) only [go_sem, ↓reduceIte, Nat.reduceEqDiff, reduceCtorEq, Nat.reduceLT, Nat.reduceBEq, Nat.reduceAdd, Nat.reduceSub, Nat.reduceMul, Nat.reduceMod, Int.reduceMod, Int.reduceToNat, Int.reduceNeg, h38, h38e, Nat.add_sub_cancel_left, hcE]
  refine hK5 _ ?_
  clear hK5 K5
  refine Tr.kp [0, 5, 6, 8] ?_
  simp only [pk_cons, pk_nil, ↓A_cons, ↓reduceIte, Nat.reduceEqDiff, reduceCtorEq]
  refine Tr.seqK fun K6 hK6 => ?_
  refine Tr.seqK fun K7 hK7 => ?_
  -- region 5 (wire.go:166)
  refine Tr.rg hcx [] _ [] rfl rfl rfl ?_
  simp -implicitDefEqProofs (maxSteps := 2000000) (disch := first | omega | (simp only [go_sem, List.length_append, List.length_drop, List.length_take, hgb, hcl] <;> omega) | decide) only [go_sem, ↓reduceIte, Nat.reduceEqDiff, reduceCtorEq, Nat.reduceLT, Nat.reduceBEq, Nat.reduceAdd, Nat.reduceSub, Nat.reduceMul, Nat.reduceMod, Int.reduceMod, Int.reduceToNat, Int.reduceNeg, h38, h38e, Nat.add_sub_cancel_left, hcE]
  refine hK7 _ ?_
  clear hK7 K7
  refine Tr.kp [0, 6, 8, 18, 19] ?_
  simp only [pk_cons, pk_nil, ↓A_cons, ↓reduceIte, Nat.reduceEqDiff, reduceCtorEq]
  refine Tr.blk ?_
  refine Tr.loopI (α := (Nat × List Dig)) (fun a => [(0, ?v0_18), (6, .val (nI (ca b + 16 * a.1))), (8, sl dC (.own 16) a.2), (18, ?v18_18), (19, .val (nI a.1))]) (fun a => ?h_18) (fun a => a.1 ≤ cn b ∧ a.2.length = a.1 ∧ lst getD1 b (cn b - a.1) (ca b + 16 * a.1) a.2 = lst getD1 b (cn b) (ca b) []) (fun a => cn b - a.1) ((0, [])) ?_ ?le_18 ?hh_18 ?bd_18
  case hh_18 => exact rfl
  case le_18 => (simp only [Le_nil, Le_cons, ↓A_cons, ↓reduceIte, Nat.reduceEqDiff, reduceCtorEq, CLe_refl, CLe_top, CLe_full, CLe_nil, CLe_own, and_true, true_and]; all_goals (repeat' first | exact CLe.refl _ | exact True.intro | (refine CLe_sln ?_; first | with_reducible rfl | (simp only [List.take_zero]; done) | (rfl; done)) | exact CLe_nI (by omega) | exact CLe_int (by omega) | exact CLe_inI (by omega) | exact CLe_nIi (by omega) | with_reducible apply And.intro))
  · exact ⟨Nat.zero_le _, rfl, rfl⟩
  case bd_18 =>
   rintro ⟨i, l⟩ ⟨hi, hll, hst⟩
   dsimp only at *
   refine Tr.seqK fun K8 hK8 => ?_
   -- region 6 (wire.go:166)
   refine Tr.rg hcx [] _ [] rfl rfl rfl ?_
   simp -implicitDefEqProofs (maxSteps := 2000000) (disch := first | omega | (simp only [go_sem, List.length_append, List.length_drop, List.length_take, hgb, hcl] <;> omega) | decide) only [go_sem, ↓reduceIte, Nat.reduceEqDiff, reduceCtorEq, Nat.reduceLT, Nat.reduceBEq, Nat.reduceAdd, Nat.reduceSub, Nat.reduceMul, Nat.reduceMod, Int.reduceMod, Int.reduceToNat, Int.reduceNeg, h38, h38e, Nat.add_sub_cancel_left, hcE]
   refine hK8 _ ?_
   clear hK8 K8
   refine Tr.kp [0, 6, 8, 18, 19, 20] ?_
   simp only [pk_cons, pk_nil, ↓A_cons, ↓reduceIte, Nat.reduceEqDiff, reduceCtorEq]
   refine Tr.seqK fun K9 hK9 => ?_
   refine Tr.condG fun KT KF hT hF => ?_
   simp only [ev_tmp, ev_const, ↓A_cons, ↓reduceIte, Nat.reduceEqDiff, reduceCtorEq, condG_bool, GB_true, GB_false, decide_eq_true_eq]
   refine GB.dec (fun hc20 => hT ?_) (fun hc20 => hF ?_)
   ·
    clear hT hF KT KF
    have hpb : ca b + 16 * i + 16 ≤ b.length := by omega
    have hg16 := gd_take b _ hpb
    refine Tr.skip ?_
    refine hK9 _ ?_
    clear hK9 K9
    refine Tr.kp [0, 6, 8, 18, 19] ?_
    simp only [pk_cons, pk_nil, ↓A_cons, ↓reduceIte, Nat.reduceEqDiff, reduceCtorEq]
    refine Tr.seqK fun K10 hK10 => ?_
    refine Tr.blk ?_
    refine Tr.seqK fun K11 hK11 => ?_
    -- region 7 (wire.go:167)
    refine Tr.rg hcx [21, 1000030] _ [] rfl rfl rfl ?_
    simp -implicitDefEqProofs (maxSteps := 2000000) (disch := first | omega | (simp only [go_sem, List.length_append, List.length_drop, List.length_take, hgb, hcl] <;> omega) | decide) only [go_sem, ↓reduceIte, Nat.reduceEqDiff, reduceCtorEq, Nat.reduceLT, Nat.reduceBEq, Nat.reduceAdd, Nat.reduceSub, Nat.reduceMul, Nat.reduceMod, Int.reduceMod, Int.reduceToNat, Int.reduceNeg, h38, h38e, Nat.add_sub_cancel_left, hcE]
    refine hK11 _ ?_
    clear hK11 K11
    refine Tr.kp [0, 6, 8, 18, 19] ?_
    simp only [pk_cons, pk_nil, ↓A_cons, ↓reduceIte, Nat.reduceEqDiff, reduceCtorEq]
    -- region 8 (wire.go:168)
    refine Tr.rg hcx [1000032] _ [] rfl rfl rfl ?_
    simp -implicitDefEqProofs (maxSteps := 2000000) (disch := first | omega | (simp only [go_sem, List.length_append, List.length_drop, List.length_take, hgb, hcl] <;> omega) | decide) only [go_sem, ↓reduceIte, Nat.reduceEqDiff, reduceCtorEq, Nat.reduceLT, Nat.reduceBEq, Nat.reduceAdd, Nat.reduceSub, Nat.reduceMul, Nat.reduceMod, Int.reduceMod, Int.reduceToNat, Int.reduceNeg, h38, h38e, Nat.add_sub_cancel_left, hcE]
    refine hK10 _ ?_
    clear hK10 K10
    refine Tr.kp [0, 6, 8, 18, 19] ?_
    simp only [pk_cons, pk_nil, ↓A_cons, ↓reduceIte, Nat.reduceEqDiff, reduceCtorEq]
    -- region 9 (wire.go:166)
    refine Tr.rg hcx [] _ [] rfl rfl rfl ?_
    simp -implicitDefEqProofs (maxSteps := 2000000) (disch := first | omega | (simp only [go_sem, List.length_append, List.length_drop, List.length_take, hgb, hcl] <;> omega) | decide) only [go_sem, ↓reduceIte, Nat.reduceEqDiff, reduceCtorEq, Nat.reduceLT, Nat.reduceBEq, Nat.reduceAdd, Nat.reduceSub, Nat.reduceMul, Nat.reduceMod, Int.reduceMod, Int.reduceToNat, Int.reduceNeg, h38, h38e, Nat.add_sub_cancel_left, hcE]
    refine ⟨(i + 1, l ++ [mkD ((b.drop (ca b + 16 * i)).take 16)]), ⟨⟨by show i + 1 ≤ cn b; omega, by show (l ++ [mkD ((b.drop (ca b + 16 * i)).take 16)]).length = i + 1; rw [List.length_append, hll]; rfl, (lst_d (ca b) hc20).symm.trans hst⟩, by first | omega | (simp only []; omega)⟩, ?_, rfl⟩
    (simp only [Le_nil, Le_cons, ↓A_cons, ↓reduceIte, Nat.reduceEqDiff, reduceCtorEq, CLe_refl, CLe_top, CLe_full, CLe_nil, CLe_own, and_true, true_and]; all_goals (repeat' first | exact CLe.refl _ | exact True.intro | (refine CLe_sln ?_; first | with_reducible rfl | (simp only [List.take_zero]; done) | (rfl; done)) | exact CLe_nI (by omega) | exact CLe_int (by omega) | exact CLe_inI (by omega) | exact CLe_nIi (by omega) | with_reducible apply And.intro))
    all_goals (first | exact CLe_nI (by omega) | (refine CLe_sl ?_; rw [mkD_eq _ (gd_take b _ (by omega))]; try (exact congrArg (fun d => l ++ [d]) (Subtype.ext (by simp)))))
   ·
    clear hT hF KT KF
    have hie : i = cn b := by omega
    rw [hie, Nat.sub_self, lst_0] at hst
    refine Tr.exit ?_
    refine hK6 _ ?_
    clear hK9 K9 hK6 K6
    refine Tr.kp [6, 8] ?_
    simp only [pk_cons, pk_nil, ↓A_cons, ↓reduceIte, Nat.reduceEqDiff, reduceCtorEq]
    refine Tr.seqK fun K12 hK12 => ?_
    -- region 10 (wire.go:170)
    refine Tr.rg hcx [1000034, 1000035] _ [] rfl rfl rfl ?_
    simp -implicitDefEqProofs (maxSteps := 2000000) (disch := first | omega | (simp only [go_sem, List.length_append, List.length_drop, List.length_take, hgb, hcl] <;> omega) | decide) only [go_sem, ↓reduceIte, Nat.reduceEqDiff, reduceCtorEq, Nat.reduceLT, Nat.reduceBEq, Nat.reduceAdd, Nat.reduceSub, Nat.reduceMul, Nat.reduceMod, Int.reduceMod, Int.reduceToNat, Int.reduceNeg, h38, h38e, Nat.add_sub_cancel_left, hcE]
    refine hK12 _ ?_
    clear hK12 K12
    refine Tr.kp [2, 3, 4] ?_
    simp only [pk_cons, pk_nil, ↓A_cons, ↓reduceIte, Nat.reduceEqDiff, reduceCtorEq]
    first | refine Tr.nil3 dC .no (by decide) (by decide) (by decide) ?_ | skip
    refine Tr.ret ?_
    simp -implicitDefEqProofs (disch := first | omega | (simp only [go_sem, List.length_append, List.length_drop, List.length_take, hgb, hcl] <;> omega) | decide) only [go_sem, ↓reduceIte, Nat.reduceEqDiff, reduceCtorEq]
    all_goals (first | (rw [getL_1 hcE, ← hst, hie]; try rfl) | (rw [getL_2 hcE]; try rfl))
 ·
  have hok := True.intro
  -- region 1 (wire.go:161)
  refine Tr.rg hcx [1000012, 1000013, 1000014] _ [] rfl rfl rfl ?_
  simp -implicitDefEqProofs (maxSteps := 2000000) (disch := first | omega | (simp only [go_sem, List.length_append, List.length_drop, List.length_take, hgb, hcl] <;> omega) | decide) only [go_sem, ↓reduceIte, Nat.reduceEqDiff, reduceCtorEq, Nat.reduceLT, Nat.reduceBEq, Nat.reduceAdd, Nat.reduceSub, Nat.reduceMul, Nat.reduceMod, Int.reduceMod, Int.reduceToNat, Int.reduceNeg, h38, h38e, Nat.add_sub_cancel_left, hcE]
  refine hK2 _ ?_
  clear hK2 K2
  refine Tr.kp [0, 5, 6, 7] ?_
  simp only [pk_cons, pk_nil, ↓A_cons, ↓reduceIte, Nat.reduceEqDiff, reduceCtorEq]
  refine Tr.seqK fun K13 hK13 => ?_
  refine Tr.seqK fun K14 hK14 => ?_
  -- region 2 (wire.go:162)
  refine Tr.rg hcx [] _ [] rfl rfl rfl ?_
  simp -implicitDefEqProofs (maxSteps := 2000000) (disch := first | omega | (simp only [go_sem, List.length_append, List.length_drop, List.length_take, hgb, hcl] <;> omega) | decide) only [go_sem, ↓reduceIte, Nat.reduceEqDiff, reduceCtorEq, Nat.reduceLT, Nat.reduceBEq, Nat.reduceAdd, Nat.reduceSub, Nat.reduceMul, Nat.reduceMod, Int.reduceMod, Int.reduceToNat, Int.reduceNeg, h38, h38e, Nat.add_sub_cancel_left, hcE]
  refine hK14 _ ?_
  clear hK14 K14
  refine Tr.kp [0, 5, 6, 7, 16] ?_
  simp only [pk_cons, pk_nil, ↓A_cons, ↓reduceIte, Nat.reduceEqDiff, reduceCtorEq]
  refine Tr.condG fun KT KF hT hF => ?_
  simp only [ev_tmp, ev_const, ↓A_cons, ↓reduceIte, Nat.reduceEqDiff, reduceCtorEq, condG_bool, GB_true, GB_false, decide_eq_true_eq]
  refine hT ?_
  clear hT hF KT KF
  refine Tr.seqK fun K15 hK15 => ?_
  -- region 3 (wire.go:163)
  refine Tr.rg hcx [1000017] _ [] rfl rfl rfl ?_
  simp -implicitDefEqProofs (maxSteps := 2000000) (disch := first | omega | (simp only [go_sem, List.length_append, List.length_drop, List.length_take, hgb, hcl] <;> omega) | decide) only [go_sem, ↓reduceIte, Nat.reduceEqDiff, reduceCtorEq, Nat.reduceLT, Nat.reduceBEq, Nat.reduceAdd, Nat.reduceSub, Nat.reduceMul, Nat.reduceMod, Int.reduceMod, Int.reduceToNat, Int.reduceNeg, h38, h38e, Nat.add_sub_cancel_left, hcE]
  refine hK15 _ ?_
  clear hK15 K15
  refine Tr.kp [2, 3, 4] ?_
  simp only [pk_cons, pk_nil, ↓A_cons, ↓reduceIte, Nat.reduceEqDiff, reduceCtorEq]
  first | refine Tr.nil3 dC .no (by decide) (by decide) (by decide) ?_ | skip
  refine Tr.ret ?_
  simp -implicitDefEqProofs (disch := first | omega | (simp only [go_sem, List.length_append, List.length_drop, List.length_take, hgb, hcl] <;> omega) | decide) only [go_sem, ↓reduceIte, Nat.reduceEqDiff, reduceCtorEq]
  all_goals (first | (rw [getL_1 hcE, ← hst, hie]; try rfl) | (rw [getL_2 hcE]; try rfl))

set_option maxRecDepth 100000 in
set_option maxHeartbeats 8000000 in
theorem fc35 {gl : Nat → C} {M : Nat} {pu : Nat → List C → Option C}  (hcx : CxOK (cxP gl M pu)) (h39 : ∀ (b : List UInt8) (s : Nat), b.length < 1099511627776 ∧ 0 < s ∧ s ≤ 16 ∧ cntE b s = 0 → pu 39 [sl bC .no b, .val (nI s)] = some (.tup [.val (nI (cn b)), .val (nI (ca b)), .val (nI 0)])) (h39e : ∀ (b : List UInt8) (s : Nat), b.length < 1099511627776 ∧ 0 < s ∧ s ≤ 16 ∧ ¬ cntE b s = 0 → pu 39 [sl bC .no b, .val (nI s)] = some (.tup [.val (nI 0), .val (nI 0), .val (nI (cntE b s))])) (b : List UInt8) (hb : b.length < 1099511627776) : FC Try.prog gl 35 [sl bC .no b] [] (.tup [sl dC .no (getL getD1 16 b).1, .val (nI (getL getD1 16 b).2.1), .val (nI (getL getD1 16 b).2.2)]) [] := by
 replace hcx := hcx.reN (M := 46)
 refine FC.ofA (cx := cxP gl 46 pu) (rs := [.tmp 2, .tmp 3, .tmp 4]) rfl Try.func35 rfl rfl rfl (by simp only [List.length_cons, List.length_nil]; decide) (by simp only [go_sem]) ?_
 simp only [ini, go_sem]
 have hgb := getI_bd b
 have hcl := cnt_le b 16
 refine Tr.seqK fun K1 hK1 => ?_
 -- region 0 (ref.go:179)
 refine Tr.rg hcx [] _ [] rfl rfl rfl ?_
 simp -implicitDefEqProofs (maxSteps := 2000000) (disch := first | omega | (simp only [go_sem, List.length_append, List.length_drop, List.length_take, hgb, hcl] <;> omega) | decide) only [go_sem, ↓reduceIte, Nat.reduceEqDiff, reduceCtorEq, Nat.reduceLT, Nat.reduceBEq, Nat.reduceAdd, Nat.reduceSub, Nat.reduceMul, Nat.reduceMod, Int.reduceMod, Int.reduceToNat, Int.reduceNeg, h39, h39e, Nat.add_sub_cancel_left]
 refine hK1 _ ?_
 clear hK1 K1
 refine Tr.kp [0] ?_
 simp only [pk_cons, pk_nil, ↓A_cons, ↓reduceIte, Nat.reduceEqDiff, reduceCtorEq]
 refine Tr.seqK fun K2 hK2 => ?_
 by_cases hcE : cntE b 16 = 0
 ·
  have hok := cnt_ok (by decide) hcE
  -- region 1 (ref.go:180)
  refine Tr.rg hcx [1000015, 1000016, 1000017] _ [] rfl rfl rfl ?_
  simp -implicitDefEqProofs (maxSteps := 2000000) (disch := first | omega | (simp only [go_sem, List.length_append, List.length_drop, List.length_take, hgb, hcl] <;> omega) | decide) only [go_sem, ↓reduceIte, Nat.reduceEqDiff, reduceCtorEq, Nat.reduceLT, Nat.reduceBEq, Nat.reduceAdd, Nat.reduceSub, Nat.reduceMul, Nat.reduceMod, Int.reduceMod, Int.reduceToNat, Int.reduceNeg, h39, h39e, Nat.add_sub_cancel_left, hcE]
  refine hK2 _ ?_
  clear hK2 K2
  refine Tr.kp [0, 5, 6, 7] ?_
  simp only [pk_cons, pk_nil, ↓A_cons, ↓reduceIte, Nat.reduceEqDiff, reduceCtorEq]
  refine Tr.seqK fun K3 hK3 => ?_
  refine Tr.seqK fun K4 hK4 => ?_
  -- region 2 (ref.go:181)
  refine Tr.rg hcx [] _ [] rfl rfl rfl ?_
  simp -implicitDefEqProofs (maxSteps := 2000000) (disch := first | omega | (simp only [go_sem, List.length_append, List.length_drop, List.length_take, hgb, hcl] <;> omega) | decide) only [go_sem, ↓reduceIte, Nat.reduceEqDiff, reduceCtorEq, Nat.reduceLT, Nat.reduceBEq, Nat.reduceAdd, Nat.reduceSub, Nat.reduceMul, Nat.reduceMod, Int.reduceMod, Int.reduceToNat, Int.reduceNeg, h39, h39e, Nat.add_sub_cancel_left, hcE]
  refine hK4 _ ?_
  clear hK4 K4
  refine Tr.kp [0, 5, 6, 7, 19] ?_
  simp only [pk_cons, pk_nil, ↓A_cons, ↓reduceIte, Nat.reduceEqDiff, reduceCtorEq]
  refine Tr.condG fun KT KF hT hF => ?_
  simp only [ev_tmp, ev_const, ↓A_cons, ↓reduceIte, Nat.reduceEqDiff, reduceCtorEq, condG_bool, GB_true, GB_false, decide_eq_true_eq]
  refine hF ?_
  clear hT hF KT KF
  refine Tr.skip ?_
  refine hK3 _ ?_
  clear hK3 K3
  refine Tr.kp [0, 5, 6] ?_
  simp only [pk_cons, pk_nil, ↓A_cons, ↓reduceIte, Nat.reduceEqDiff, reduceCtorEq]
  refine Tr.seqK fun K5 hK5 => ?_
  -- region 4 (ref.go:184)
  refine Tr.rg hcx [] _ [] rfl rfl rfl ?_
  simp -implicitDefEqProofs (maxSteps := 2000000) (disch := first | omega | (simp only [go_sem, List.length_append, List.length_drop, List.length_take, hgb, hcl] <;> omega) | decide) only [go_sem, ↓reduceIte, Nat.reduceEqDiff, reduceCtorEq, Nat.reduceLT, Nat.reduceBEq, Nat.reduceAdd, Nat.reduceSub, Nat.reduceMul, Nat.reduceMod, Int.reduceMod, Int.reduceToNat, Int.reduceNeg, h39, h39e, Nat.add_sub_cancel_left, hcE]
  refine hK5 _ ?_
  clear hK5 K5
  refine Tr.kp [0, 5, 6, 8] ?_
  simp only [pk_cons, pk_nil, ↓A_cons, ↓reduceIte, Nat.reduceEqDiff, reduceCtorEq]
  refine Tr.seqK fun K6 hK6 => ?_
  refine Tr.seqK fun K7 hK7 => ?_
  -- region 5 (ref.go:185)
  refine Tr.rg hcx [] _ [] rfl rfl rfl ?_
  simp -implicitDefEqProofs (maxSteps := 2000000) (disch := first | omega | (simp only [go_sem, List.length_append, List.length_drop, List.length_take, hgb, hcl] <;> omega) | decide) only [go_sem, ↓reduceIte, Nat.reduceEqDiff, reduceCtorEq, Nat.reduceLT, Nat.reduceBEq, Nat.reduceAdd, Nat.reduceSub, Nat.reduceMul, Nat.reduceMod, Int.reduceMod, Int.reduceToNat, Int.reduceNeg, h39, h39e, Nat.add_sub_cancel_left, hcE]
  refine hK7 _ ?_
  clear hK7 K7
  refine Tr.kp [0, 5, 6, 8, 9] ?_
  simp only [pk_cons, pk_nil, ↓A_cons, ↓reduceIte, Nat.reduceEqDiff, reduceCtorEq]
  refine Tr.blk ?_
  refine Tr.loopI (α := (Nat × List Dig)) (fun a => [(0, ?v0_52), (5, ?v5_52), (6, .val (nI (ca b + 16 * a.1))), (8, sl dC (.own 16) a.2), (9, .val (nI a.1))]) (fun a => []) (fun a => a.1 ≤ cn b ∧ a.2.length = a.1 ∧ lst getD1 b (cn b - a.1) (ca b + 16 * a.1) a.2 = lst getD1 b (cn b) (ca b) []) (fun a => cn b - a.1) ((0, [])) ?_ ?le_52 ?hh_52 ?bd_52
  case hh_52 => exact rfl
  case le_52 => (simp only [Le_nil, Le_cons, ↓A_cons, ↓reduceIte, Nat.reduceEqDiff, reduceCtorEq, CLe_refl, CLe_top, CLe_full, CLe_nil, CLe_own, and_true, true_and]; all_goals (repeat' first | exact CLe.refl _ | exact True.intro | (refine CLe_sln ?_; first | with_reducible rfl | (simp only [List.take_zero]; done) | (rfl; done)) | exact CLe_nI (by omega) | exact CLe_int (by omega) | exact CLe_inI (by omega) | exact CLe_nIi (by omega) | with_reducible apply And.intro))
  · exact ⟨Nat.zero_le _, rfl, rfl⟩
  case bd_52 =>
   rintro ⟨i, l⟩ ⟨hi, hll, hst⟩
   dsimp only at *
   refine Tr.seqK fun K8 hK8 => ?_
   refine Tr.seqK fun K9 hK9 => ?_
   -- region 6 (ref.go:185)
   refine Tr.rg hcx [] _ [] rfl rfl rfl ?_
   simp -implicitDefEqProofs (maxSteps := 2000000) (disch := first | omega | (simp only [go_sem, List.length_append, List.length_drop, List.length_take, hgb, hcl] <;> omega) | decide) only [go_sem, ↓reduceIte, Nat.reduceEqDiff, reduceCtorEq, Nat.reduceLT, Nat.reduceBEq, Nat.reduceAdd, Nat.reduceSub, Nat.reduceMul, Nat.reduceMod, Int.reduceMod, Int.reduceToNat, Int.reduceNeg, h39, h39e, Nat.add_sub_cancel_left, hcE]
   refine hK9 _ ?_
   clear hK9 K9
   refine Tr.kp [0, 5, 6, 8, 9, 23] ?_
   simp only [pk_cons, pk_nil, ↓A_cons, ↓reduceIte, Nat.reduceEqDiff, reduceCtorEq]
   refine Tr.condG fun KT KF hT hF => ?_
   simp only [ev_tmp, ev_const, ↓A_cons, ↓reduceIte, Nat.reduceEqDiff, reduceCtorEq, condG_bool, GB_true, GB_false, decide_eq_true_eq]
   refine GB.dec (fun hc23 => hT ?_) (fun hc23 => hF ?_)
   ·
    clear hT hF KT KF
    have hpb : ca b + 16 * i + 16 ≤ b.length := by omega
    have hg16 := gd_take b _ hpb
    refine Tr.skip ?_
    refine hK8 _ ?_
    clear hK8 K8
    refine Tr.kp [0, 5, 6, 8, 9] ?_
    simp only [pk_cons, pk_nil, ↓A_cons, ↓reduceIte, Nat.reduceEqDiff, reduceCtorEq]
    refine Tr.seqK fun K10 hK10 => ?_
    refine Tr.blk ?_
    refine Tr.seqK fun K11 hK11 => ?_
    -- region 8 (ref.go:186)
    refine Tr.rg hcx [] _ [none] rfl rfl rfl ?_
    simp -implicitDefEqProofs (maxSteps := 2000000) (disch := first | omega | (simp only [go_sem, List.length_append, List.length_drop, List.length_take, hgb, hcl] <;> omega) | decide) only [go_sem, ↓reduceIte, Nat.reduceEqDiff, reduceCtorEq, Nat.reduceLT, Nat.reduceBEq, Nat.reduceAdd, Nat.reduceSub, Nat.reduceMul, Nat.reduceMod, Int.reduceMod, Int.reduceToNat, Int.reduceNeg, h39, h39e, Nat.add_sub_cancel_left, hcE]
    refine hK11 _ ?_
    clear hK11 K11
    refine Tr.kp [0, 5, 6, 8, 9, 10] ?_
    simp only [pk_cons, pk_nil, ↓A_cons, ↓reduceIte, Nat.reduceEqDiff, reduceCtorEq]
    refine Tr.seqK fun K12 hK12 => ?_
    refine Tr.seqK fun K13 hK13 => ?_
    -- region 9 (ref.go:187)
    refine Tr.rg hcx [] _ [] rfl rfl rfl ?_
    simp -implicitDefEqProofs (maxSteps := 2000000) (disch := first | omega | (simp only [go_sem, List.length_append, List.length_drop, List.length_take, hgb, hcl] <;> omega) | decide) only [go_sem, ↓reduceIte, Nat.reduceEqDiff, reduceCtorEq, Nat.reduceLT, Nat.reduceBEq, Nat.reduceAdd, Nat.reduceSub, Nat.reduceMul, Nat.reduceMod, Int.reduceMod, Int.reduceToNat, Int.reduceNeg, h39, h39e, Nat.add_sub_cancel_left, hcE]
    refine hK13 _ ?_
    clear hK13 K13
    refine Tr.kp [0, 5, 6, 8, 9, 10, 11] ?_
    simp only [pk_cons, pk_nil, ↓A_cons, ↓reduceIte, Nat.reduceEqDiff, reduceCtorEq]
    refine Tr.blk ?_
    refine Tr.loopI (α := Nat) (fun a => [(0, ?v0_67), (5, ?v5_67), (6, ?v6_67), (8, ?v8_67), (9, ?v9_67), (10, ?v10_67), (11, .val (nI a))]) (fun a => [some (cl bC ((b.drop (ca b + 16 * i)).take a ++ List.replicate (16 - a) 0))]) (fun a => a ≤ 16) (fun a => 16 - a) (0) ?_ ?le_67 ?hh_67 ?bd_67
    case hh_67 => exact rfl
    case le_67 => (simp only [Le_nil, Le_cons, ↓A_cons, ↓reduceIte, Nat.reduceEqDiff, reduceCtorEq, CLe_refl, CLe_top, CLe_full, CLe_nil, CLe_own, and_true, true_and]; all_goals (repeat' first | exact CLe.refl _ | exact True.intro | (refine CLe_sln ?_; first | with_reducible rfl | (simp only [List.take_zero]; done) | (rfl; done)) | exact CLe_nI (by omega) | exact CLe_int (by omega) | exact CLe_inI (by omega) | exact CLe_nIi (by omega) | with_reducible apply And.intro))
    · omega
    case bd_67 =>
     rintro j hj
     refine Tr.seqK fun K14 hK14 => ?_
     refine Tr.seqK fun K15 hK15 => ?_
     -- region 10 (ref.go:187)
     refine Tr.rg hcx [] _ [] rfl rfl rfl ?_
     simp -implicitDefEqProofs (maxSteps := 2000000) (disch := first | omega | (simp only [go_sem, List.length_append, List.length_drop, List.length_take, hgb, hcl] <;> omega) | decide) only [go_sem, ↓reduceIte, Nat.reduceEqDiff, reduceCtorEq, Nat.reduceLT, Nat.reduceBEq, Nat.reduceAdd, Nat.reduceSub, Nat.reduceMul, Nat.reduceMod, Int.reduceMod, Int.reduceToNat, Int.reduceNeg, h39, h39e, Nat.add_sub_cancel_left, hcE]
     refine hK15 _ ?_
     clear hK15 K15
     refine Tr.kp [0, 5, 6, 8, 9, 10, 11, 27] ?_
     simp only [pk_cons, pk_nil, ↓A_cons, ↓reduceIte, Nat.reduceEqDiff, reduceCtorEq]
     refine Tr.condG fun KT KF hT hF => ?_
     simp only [ev_tmp, ev_const, ↓A_cons, ↓reduceIte, Nat.reduceEqDiff, reduceCtorEq, condG_bool, GB_true, GB_false, decide_eq_true_eq]
     refine GB.dec (fun hc27 => hT ?_) (fun hc27 => hF ?_)
     ·
      clear hT hF KT KF
      refine Tr.skip ?_
      refine hK14 _ ?_
      clear hK14 K14
      refine Tr.kp [0, 5, 6, 8, 9, 10, 11] ?_
      simp only [pk_cons, pk_nil, ↓A_cons, ↓reduceIte, Nat.reduceEqDiff, reduceCtorEq]
      refine Tr.seqK fun K16 hK16 => ?_
      refine Tr.blk ?_
      -- region 12 (ref.go:188)
      refine Tr.rg hcx [] _ [] rfl rfl rfl ?_
      simp -implicitDefEqProofs (maxSteps := 2000000) (disch := first | omega | (simp only [go_sem, List.length_append, List.length_drop, List.length_take, hgb, hcl] <;> omega) | decide) only [go_sem, ↓reduceIte, Nat.reduceEqDiff, reduceCtorEq, Nat.reduceLT, Nat.reduceBEq, Nat.reduceAdd, Nat.reduceSub, Nat.reduceMul, Nat.reduceMod, Int.reduceMod, Int.reduceToNat, Int.reduceNeg, h39, h39e, Nat.add_sub_cancel_left, hcE]
      refine hK16 _ ?_
      clear hK16 K16
      refine Tr.kp [0, 5, 6, 8, 9, 10, 11] ?_
      simp only [pk_cons, pk_nil, ↓A_cons, ↓reduceIte, Nat.reduceEqDiff, reduceCtorEq]
      -- region 11 (ref.go:187)
      refine Tr.rg hcx [1000029] _ [] rfl rfl rfl ?_
      simp -implicitDefEqProofs (maxSteps := 2000000) (disch := first | omega | (simp only [go_sem, List.length_append, List.length_drop, List.length_take, hgb, hcl] <;> omega) | decide) only [go_sem, ↓reduceIte, Nat.reduceEqDiff, reduceCtorEq, Nat.reduceLT, Nat.reduceBEq, Nat.reduceAdd, Nat.reduceSub, Nat.reduceMul, Nat.reduceMod, Int.reduceMod, Int.reduceToNat, Int.reduceNeg, h39, h39e, Nat.add_sub_cancel_left, hcE]
      refine ⟨j + 1, ⟨by omega, by first | omega | (simp only []; omega)⟩, ?_, by rw [dbuf_set _ j _ (by rw [List.length_take, List.length_drop]; omega) hc27, dtake_next b _ j hc27 hpb]⟩
      (simp only [Le_nil, Le_cons, ↓A_cons, ↓reduceIte, Nat.reduceEqDiff, reduceCtorEq, CLe_refl, CLe_top, CLe_full, CLe_nil, CLe_own, and_true, true_and]; all_goals (repeat' first | exact CLe.refl _ | exact True.intro | (refine CLe_sln ?_; first | with_reducible rfl | (simp only [List.take_zero]; done) | (rfl; done)) | exact CLe_nI (by omega) | exact CLe_int (by omega) | exact CLe_inI (by omega) | exact CLe_nIi (by omega) | with_reducible apply And.intro))
     ·
      clear hT hF KT KF
      obtain rfl : j = 16 := by omega
      refine Tr.exit ?_
      refine hK12 _ ?_
      clear hK14 K14 hK12 K12
      refine Tr.kp [0, 5, 6, 8, 9, 10] ?_
      simp only [pk_cons, pk_nil, ↓A_cons, ↓reduceIte, Nat.reduceEqDiff, reduceCtorEq]
      refine Tr.seqK fun K17 hK17 => ?_
      -- region 13 (ref.go:190)
      refine Tr.rg hcx [38, 1000041] _ [] rfl rfl rfl ?_
      simp -implicitDefEqProofs (maxSteps := 2000000) (disch := first | omega | (simp only [go_sem, List.length_append, List.length_drop, List.length_take, hgb, hcl] <;> omega) | decide) only [go_sem, ↓reduceIte, Nat.reduceEqDiff, reduceCtorEq, Nat.reduceLT, Nat.reduceBEq, Nat.reduceAdd, Nat.reduceSub, Nat.reduceMul, Nat.reduceMod, Int.reduceMod, Int.reduceToNat, Int.reduceNeg, h39, h39e, Nat.add_sub_cancel_left, hcE]
      refine hK17 _ ?_
      clear hK17 K17
      refine Tr.kp [0, 5, 6, 8, 9] ?_
      simp only [pk_cons, pk_nil, ↓A_cons, ↓reduceIte, Nat.reduceEqDiff, reduceCtorEq]
      -- region 14 (ref.go:191)
      refine Tr.cutA hcx 0 (by decide) ?_ ?_ ?_
      · simp only [noRefE_nil, noRefE_cons, go_sem, Bool.true_and] <;> decide
      · simp only [List.take_succ_cons, List.take_zero, noRefH_nil, noRefH_none, noRefH_some, go_sem, Bool.true_and] <;> decide
      simp only [List.take_succ_cons, List.take_zero]
      refine Tr.rg hcx [1000043] _ [] rfl rfl rfl ?_
      simp -implicitDefEqProofs (maxSteps := 2000000) (disch := first | omega | (simp only [go_sem, List.length_append, List.length_drop, List.length_take, hgb, hcl] <;> omega) | decide) only [go_sem, ↓reduceIte, Nat.reduceEqDiff, reduceCtorEq, Nat.reduceLT, Nat.reduceBEq, Nat.reduceAdd, Nat.reduceSub, Nat.reduceMul, Nat.reduceMod, Int.reduceMod, Int.reduceToNat, Int.reduceNeg, h39, h39e, Nat.add_sub_cancel_left, hcE]
      refine hK10 _ ?_
      clear hK10 K10
      refine Tr.kp [0, 5, 6, 8, 9] ?_
      simp only [pk_cons, pk_nil, ↓A_cons, ↓reduceIte, Nat.reduceEqDiff, reduceCtorEq]
      -- region 7 (ref.go:185)
      refine Tr.rg hcx [1000025] _ [] rfl rfl rfl ?_
      simp -implicitDefEqProofs (maxSteps := 2000000) (disch := first | omega | (simp only [go_sem, List.length_append, List.length_drop, List.length_take, hgb, hcl] <;> omega) | decide) only [go_sem, ↓reduceIte, Nat.reduceEqDiff, reduceCtorEq, Nat.reduceLT, Nat.reduceBEq, Nat.reduceAdd, Nat.reduceSub, Nat.reduceMul, Nat.reduceMod, Int.reduceMod, Int.reduceToNat, Int.reduceNeg, h39, h39e, Nat.add_sub_cancel_left, hcE]
      refine ⟨(i + 1, l ++ [mkD ((b.drop (ca b + 16 * i)).take 16)]), ⟨⟨by show i + 1 ≤ cn b; omega, by show (l ++ [mkD ((b.drop (ca b + 16 * i)).take 16)]).length = i + 1; rw [List.length_append, hll]; rfl, (lst_d (ca b) hc23).symm.trans hst⟩, by first | omega | (simp only []; omega)⟩, ?_, rfl⟩
      (simp only [Le_nil, Le_cons, ↓A_cons, ↓reduceIte, Nat.reduceEqDiff, reduceCtorEq, CLe_refl, CLe_top, CLe_full, CLe_nil, CLe_own, and_true, true_and]; all_goals (repeat' first | exact CLe.refl _ | exact True.intro | (refine CLe_sln ?_; first | with_reducible rfl | (simp only [List.take_zero]; done) | (rfl; done)) | exact CLe_nI (by omega) | exact CLe_int (by omega) | exact CLe_inI (by omega) | exact CLe_nIi (by omega) | with_reducible apply And.intro))
      all_goals (first | exact CLe_nI (by omega) | (refine CLe_sl ?_; rw [mkD_eq _ (gd_take b _ (by omega))]; try (exact congrArg (fun d => l ++ [d]) (Subtype.ext (by simp)))))
   ·
    clear hT hF KT KF
    have hie : i = cn b := by omega
    rw [hie, Nat.sub_self, lst_0] at hst
    refine Tr.exit ?_
    refine hK6 _ ?_
    clear hK8 K8 hK6 K6
    refine Tr.kp [6, 8] ?_
    simp only [pk_cons, pk_nil, ↓A_cons, ↓reduceIte, Nat.reduceEqDiff, reduceCtorEq]
    refine Tr.seqK fun K18 hK18 => ?_
    -- region 15 (ref.go:193)
    refine Tr.rg hcx [1000044, 1000045] _ [] rfl rfl rfl ?_
    simp -implicitDefEqProofs (maxSteps := 2000000) (disch := first | omega | (simp only [go_sem, List.length_append, List.length_drop, List.length_take, hgb, hcl] <;> omega) | decide) only [go_sem, ↓reduceIte, Nat.reduceEqDiff, reduceCtorEq, Nat.reduceLT, Nat.reduceBEq, Nat.reduceAdd, Nat.reduceSub, Nat.reduceMul, Nat.reduceMod, Int.reduceMod, Int.reduceToNat, Int.reduceNeg, h39, h39e, Nat.add_sub_cancel_left, hcE]
    refine hK18 _ ?_
    clear hK18 K18
    refine Tr.kp [2, 3, 4] ?_
    simp only [pk_cons, pk_nil, ↓A_cons, ↓reduceIte, Nat.reduceEqDiff, reduceCtorEq]
    first | refine Tr.nil3 dC .no (by decide) (by decide) (by decide) ?_ | skip
    refine Tr.ret ?_
    simp -implicitDefEqProofs (disch := first | omega | (simp only [go_sem, List.length_append, List.length_drop, List.length_take, hgb, hcl] <;> omega) | decide) only [go_sem, ↓reduceIte, Nat.reduceEqDiff, reduceCtorEq]
    all_goals (first | (rw [getL_1 hcE, ← hst, hie]; try rfl) | (rw [getL_2 hcE]; try rfl))
 ·
  have hok := True.intro
  -- region 1 (ref.go:180)
  refine Tr.rg hcx [1000015, 1000016, 1000017] _ [] rfl rfl rfl ?_
  simp -implicitDefEqProofs (maxSteps := 2000000) (disch := first | omega | (simp only [go_sem, List.length_append, List.length_drop, List.length_take, hgb, hcl] <;> omega) | decide) only [go_sem, ↓reduceIte, Nat.reduceEqDiff, reduceCtorEq, Nat.reduceLT, Nat.reduceBEq, Nat.reduceAdd, Nat.reduceSub, Nat.reduceMul, Nat.reduceMod, Int.reduceMod, Int.reduceToNat, Int.reduceNeg, h39, h39e, Nat.add_sub_cancel_left, hcE]
  refine hK2 _ ?_
  clear hK2 K2
  refine Tr.kp [0, 5, 6, 7] ?_
  simp only [pk_cons, pk_nil, ↓A_cons, ↓reduceIte, Nat.reduceEqDiff, reduceCtorEq]
  refine Tr.seqK fun K19 hK19 => ?_
  refine Tr.seqK fun K20 hK20 => ?_
  -- region 2 (ref.go:181)
  refine Tr.rg hcx [] _ [] rfl rfl rfl ?_
  simp -implicitDefEqProofs (maxSteps := 2000000) (disch := first | omega | (simp only [go_sem, List.length_append, List.length_drop, List.length_take, hgb, hcl] <;> omega) | decide) only [go_sem, ↓reduceIte, Nat.reduceEqDiff, reduceCtorEq, Nat.reduceLT, Nat.reduceBEq, Nat.reduceAdd, Nat.reduceSub, Nat.reduceMul, Nat.reduceMod, Int.reduceMod, Int.reduceToNat, Int.reduceNeg, h39, h39e, Nat.add_sub_cancel_left, hcE]
  refine hK20 _ ?_
  clear hK20 K20
  refine Tr.kp [0, 5, 6, 7, 19] ?_
  simp only [pk_cons, pk_nil, ↓A_cons, ↓reduceIte, Nat.reduceEqDiff, reduceCtorEq]
  refine Tr.condG fun KT KF hT hF => ?_
  simp only [ev_tmp, ev_const, ↓A_cons, ↓reduceIte, Nat.reduceEqDiff, reduceCtorEq, condG_bool, GB_true, GB_false, decide_eq_true_eq]
  refine hT ?_
  clear hT hF KT KF
  refine Tr.seqK fun K21 hK21 => ?_
  -- region 3 (ref.go:182)
  refine Tr.rg hcx [1000020] _ [] rfl rfl rfl ?_
  simp -implicitDefEqProofs (maxSteps := 2000000) (disch := first | omega | (simp only [go_sem, List.length_append, List.length_drop, List.length_take, hgb, hcl] <;> omega) | decide) only [go_sem, ↓reduceIte, Nat.reduceEqDiff, reduceCtorEq, Nat.reduceLT, Nat.reduceBEq, Nat.reduceAdd, Nat.reduceSub, Nat.reduceMul, Nat.reduceMod, Int.reduceMod, Int.reduceToNat, Int.reduceNeg, h39, h39e, Nat.add_sub_cancel_left, hcE]
  refine hK21 _ ?_
  clear hK21 K21
  refine Tr.kp [2, 3, 4] ?_
  simp only [pk_cons, pk_nil, ↓A_cons, ↓reduceIte, Nat.reduceEqDiff, reduceCtorEq]
  first | refine Tr.nil3 dC .no (by decide) (by decide) (by decide) ?_ | skip
  refine Tr.ret ?_
  simp -implicitDefEqProofs (disch := first | omega | (simp only [go_sem, List.length_append, List.length_drop, List.length_take, hgb, hcl] <;> omega) | decide) only [go_sem, ↓reduceIte, Nat.reduceEqDiff, reduceCtorEq]
  all_goals (first | (rw [getL_1 hcE, ← hst, hie]; try rfl) | (rw [getL_2 hcE]; try rfl))

end Go.Sx

namespace Go.Sx
open Go.RowKit Go.Proofs


set_option maxRecDepth 100000 in
set_option maxHeartbeats 8000000 in
theorem fc40 {gl : Nat → C} {M : Nat} {pu : Nat → List C → Option C}  (hcx : CxOK (cxP gl M pu)) (b : List UInt8) (p : Nat) : FC Try.prog gl 40 [sl bC .no b, .val (nI p)] [] (.fn 41 [.bp 0 0, .bp 1 0]) [some [sl bC .no b], some [.val (nI (p))]] := by
 replace hcx := hcx.reN (M := 6)
 refine FC.ofH (cx := cxP gl 6 pu) (rs := [.tmp 4]) rfl Try.func40 rfl rfl rfl (by simp only [List.length_cons, List.length_nil]; decide)  ?_
 simp only [ini, go_sem]
 refine Tr.seqK fun K1 hK1 => ?_
 -- region 0 (wire.go:98)
 refine Tr.rg hcx [] _ [none, none] rfl rfl rfl ?_
 simp -implicitDefEqProofs (maxSteps := 2000000) (disch := first | omega | (simp only [go_sem, List.length_append, List.length_drop, List.length_take] <;> omega) | decide) only [go_sem, ↓reduceIte, Nat.reduceEqDiff, reduceCtorEq, Nat.reduceLT, Nat.reduceBEq, Nat.reduceAdd, Nat.reduceSub, Nat.reduceMul, Nat.reduceMod, Int.reduceMod, Int.reduceToNat, Int.reduceNeg]
 refine hK1 _ ?_
 clear hK1 K1
 refine Tr.kp [2, 3] ?_
 simp only [pk_cons, pk_nil, ↓A_cons, ↓reduceIte, Nat.reduceEqDiff, reduceCtorEq]
 refine Tr.seqK fun K2 hK2 => ?_
 -- region 1 (wire.go:99)
 refine Tr.rg hcx [1000005] _ [] rfl rfl rfl ?_
 simp -implicitDefEqProofs (maxSteps := 2000000) (disch := first | omega | (simp only [go_sem, List.length_append, List.length_drop, List.length_take] <;> omega) | decide) only [go_sem, ↓reduceIte, Nat.reduceEqDiff, reduceCtorEq, Nat.reduceLT, Nat.reduceBEq, Nat.reduceAdd, Nat.reduceSub, Nat.reduceMul, Nat.reduceMod, Int.reduceMod, Int.reduceToNat, Int.reduceNeg]
 refine hK2 _ ?_
 clear hK2 K2
 refine Tr.kp [4] ?_
 simp only [pk_cons, pk_nil, ↓A_cons, ↓reduceIte, Nat.reduceEqDiff, reduceCtorEq]
 refine Tr.ret ?_
 simp -implicitDefEqProofs (disch := first | omega | (simp only [go_sem, List.length_append, List.length_drop, List.length_take] <;> omega) | decide) only [go_sem, ↓reduceIte, Nat.reduceEqDiff, reduceCtorEq]
 all_goals (first | exact ⟨trivial, trivial⟩ | trivial | rfl)

set_option maxRecDepth 100000 in
set_option maxHeartbeats 8000000 in
theorem fc41 {gl : Nat → C} {M : Nat} {pu : Nat → List C → Option C}  (hcx : CxOK (cxP gl M pu)) (h24 : ∀ b : List UInt8, b.length < 1099511627776 → pu 24 [sl bC .no b] = some (.tup [.val (.int .i64 (getI b).1), .val (nI (getI b).2.1), .val (nI (getI b).2.2)])) (b : List UInt8) (p : Nat) (hb : b.length < 1099511627776) (hp : p ≤ b.length) : FC Try.prog gl 41 [.bp 0 0, .bp 1 0] [some [sl bC .no b], some [.val (nI (p))]] (.tup [.val (.int .i64 (getI (b.drop p)).1), .val (nI (p + (getI (b.drop p)).2.1)), .val (nI (getI (b.drop p)).2.2)]) [some [sl bC .no b], some [.val (nI (p + (getI (b.drop p)).2.1))]] := by
 replace hcx := hcx.reN (M := 22)
 refine FC.ofH (cx := cxP gl 22 pu) (rs := [.tmp 2, .tmp 3, .tmp 4]) rfl Try.func41 rfl rfl rfl (by simp only [List.length_cons, List.length_nil]; decide)  ?_
 simp only [ini, go_sem]
 have hgb := getI_bd (b.drop p)
 rw [List.length_drop] at hgb
 refine Tr.seqK fun K1 hK1 => ?_
 -- region 0 (wire.go:99)
 refine Tr.rg hcx [] _ [] rfl rfl rfl ?_
 simp -implicitDefEqProofs (maxSteps := 2000000) (disch := first | omega | (simp only [go_sem, List.length_append, List.length_drop, List.length_take, hgb] <;> omega) | decide) only [go_sem, ↓reduceIte, Nat.reduceEqDiff, reduceCtorEq, Nat.reduceLT, Nat.reduceBEq, Nat.reduceAdd, Nat.reduceSub, Nat.reduceMul, Nat.reduceMod, Int.reduceMod, Int.reduceToNat, Int.reduceNeg, h24]
 refine hK1 _ ?_
 clear hK1 K1
 refine Tr.kp [0, 1] ?_
 simp only [pk_cons, pk_nil, ↓A_cons, ↓reduceIte, Nat.reduceEqDiff, reduceCtorEq]
 refine Tr.seqK fun K2 hK2 => ?_
 -- region 1 (wire.go:100)
 refine Tr.rg hcx [1000013, 1000014, 1000015] _ [] rfl rfl rfl ?_
 simp -implicitDefEqProofs (maxSteps := 2000000) (disch := first | omega | (simp only [go_sem, List.length_append, List.length_drop, List.length_take, hgb] <;> omega) | decide) only [go_sem, ↓reduceIte, Nat.reduceEqDiff, reduceCtorEq, Nat.reduceLT, Nat.reduceBEq, Nat.reduceAdd, Nat.reduceSub, Nat.reduceMul, Nat.reduceMod, Int.reduceMod, Int.reduceToNat, Int.reduceNeg, h24]
 refine hK2 _ ?_
 clear hK2 K2
 refine Tr.kp [1, 5, 6, 7] ?_
 simp only [pk_cons, pk_nil, ↓A_cons, ↓reduceIte, Nat.reduceEqDiff, reduceCtorEq]
 refine Tr.seqK fun K3 hK3 => ?_
 -- region 2 (wire.go:101)
 refine Tr.rg hcx [] _ [] rfl rfl rfl ?_
 simp -implicitDefEqProofs (maxSteps := 2000000) (disch := first | omega | (simp only [go_sem, List.length_append, List.length_drop, List.length_take, hgb] <;> omega) | decide) only [go_sem, ↓reduceIte, Nat.reduceEqDiff, reduceCtorEq, Nat.reduceLT, Nat.reduceBEq, Nat.reduceAdd, Nat.reduceSub, Nat.reduceMul, Nat.reduceMod, Int.reduceMod, Int.reduceToNat, Int.reduceNeg, h24]
 refine hK3 _ ?_
 clear hK3 K3
 refine Tr.kp [1, 5, 7] ?_
 simp only [pk_cons, pk_nil, ↓A_cons, ↓reduceIte, Nat.reduceEqDiff, reduceCtorEq]
 refine Tr.seqK fun K4 hK4 => ?_
 -- region 3 (wire.go:102)
 refine Tr.rgD hcx hMO [1000019, 1000020, 1000021] _ [] rfl rfl rfl rfl ?_
 simp -implicitDefEqProofs (maxSteps := 2000000) (disch := first | omega | (simp only [go_sem, List.length_append, List.length_drop, List.length_take, hgb] <;> omega) | decide) only [go_sem, ↓reduceIte, Nat.reduceEqDiff, reduceCtorEq, Nat.reduceLT, Nat.reduceBEq, Nat.reduceAdd, Nat.reduceSub, Nat.reduceMul, Nat.reduceMod, Int.reduceMod, Int.reduceToNat, Int.reduceNeg, h24]
 with_reducible refine And.intro ?_ ?_
 · exact rfl
 refine hK4 _ ?_
 clear hK4 K4
 refine Tr.kp [2, 3, 4] ?_
 simp only [pk_cons, pk_nil, ↓A_cons, ↓reduceIte, Nat.reduceEqDiff, reduceCtorEq]
 refine Tr.ret ?_
 simp -implicitDefEqProofs (disch := first | omega | (simp only [go_sem, List.length_append, List.length_drop, List.length_take, hgb] <;> omega) | decide) only [go_sem, ↓reduceIte, Nat.reduceEqDiff, reduceCtorEq]
 all_goals (first | exact ⟨trivial, trivial⟩ | trivial | rfl)

set_option maxRecDepth 100000 in
set_option maxHeartbeats 8000000 in
theorem fc28 {gl : Nat → C} {M : Nat} {pu : Nat → List C → Option C} {hp : Nat → List C → Hp → Option (C × Hp)} (hcx : CxOK (cxH gl M pu hp)) (h38 : ∀ (b : List UInt8) (s : Nat), b.length < 1099511627776 ∧ 0 < s ∧ s ≤ 16 ∧ cntE b s = 0 → pu 38 [sl bC .no b, .val (nI s)] = some (.tup [.val (nI (cn b)), .val (nI (ca b)), .val (nI 0)])) (h38e : ∀ (b : List UInt8) (s : Nat), b.length < 1099511627776 ∧ 0 < s ∧ s ≤ 16 ∧ ¬ cntE b s = 0 → pu 38 [sl bC .no b, .val (nI s)] = some (.tup [.val (.int .i64 (getI b).1), .val (nI (getI b).2.1), .val (nI (cntE b s))])) (p40 : ∀ (b : List UInt8) (p : Nat), pu 40 [sl bC .no b, .val (nI p)] = none) (p41 : pu 41 [.bp 0 0, .bp 1 0] = none) (q40 : ∀ (b : List UInt8) (p : Nat), hp 40 [sl bC .no b, .val (nI p)] [] = some (.fn 41 [.bp 0 0, .bp 1 0], [some [sl bC .no b], some [.val (nI (p))]])) (m41 : C × Hp) (q41m : hp 41 [.bp 0 0, .bp 1 0] [] = some m41) (q41 : ∀ (b : List UInt8) (p : Nat), b.length < 1099511627776 ∧ p ≤ b.length → hp 41 [.bp 0 0, .bp 1 0] [some [sl bC .no b], some [.val (nI (p))]] = some (.tup [.val (.int .i64 (getI (b.drop p)).1), .val (nI (p + (getI (b.drop p)).2.1)), .val (nI (getI (b.drop p)).2.2)], [some [sl bC .no b], some [.val (nI (p + (getI (b.drop p)).2.1))]])) (b : List UInt8) (hb : b.length < 1099511627776) : FC Try.prog gl 28 [sl bC .no b] [] (.tup [sl iC .no (getL getI 1 b).1, .val (nI (getL getI 1 b).2.1), .val (nI (getL getI 1 b).2.2)]) [] := by
 replace hcx := hcx.reN (M := 45)
 refine FC.ofA (cx := cxH gl 45 pu hp) (rs := [.tmp 2, .tmp 3, .tmp 4]) rfl Try.func28 rfl rfl rfl (by simp only [List.length_cons, List.length_nil]; decide) (by simp only [go_sem]) ?_
 simp only [ini, go_sem]
 have hgb := getI_bd b
 have hcl := cnt_le b 1
 refine Tr.seqK fun K1 hK1 => ?_
 -- region 0 (wire.go:107)
 refine Tr.rg hcx [] _ [] rfl rfl rfl ?_
 simp -implicitDefEqProofs (maxSteps := 2000000) (disch := first | omega | (simp only [go_sem, List.length_append, List.length_drop, List.length_take, hgb, hcl] <;> omega) | decide) only [go_sem, ↓reduceIte, Nat.reduceEqDiff, reduceCtorEq, Nat.reduceLT, Nat.reduceBEq, Nat.reduceAdd, Nat.reduceSub, Nat.reduceMul, Nat.reduceMod, Int.reduceMod, Int.reduceToNat, Int.reduceNeg, h38, h38e, p40, p41, q40, q41m, q41]
 refine hK1 _ ?_
 clear hK1 K1
 refine Tr.kp [0] ?_
 simp only [pk_cons, pk_nil, ↓A_cons, ↓reduceIte, Nat.reduceEqDiff, reduceCtorEq]
 refine Tr.seqK fun K2 hK2 => ?_
 by_cases hcE : cntE b 1 = 0
 ·
  have hok := cnt_ok (by decide) hcE
  -- region 1 (wire.go:108)
  refine Tr.rg hcx [1000016, 1000017, 1000018] _ [] rfl rfl rfl ?_
  simp -implicitDefEqProofs (maxSteps := 2000000) (disch := first | omega | (simp only [go_sem, List.length_append, List.length_drop, List.length_take, hgb, hcl] <;> omega) | decide) only [go_sem, ↓reduceIte, Nat.reduceEqDiff, reduceCtorEq, Nat.reduceLT, Nat.reduceBEq, Nat.reduceAdd, Nat.reduceSub, Nat.reduceMul, Nat.reduceMod, Int.reduceMod, Int.reduceToNat, Int.reduceNeg, h38, h38e, p40, p41, q40, q41m, q41, hcE]
  refine hK2 _ ?_
  clear hK2 K2
  refine Tr.kp [0, 5, 6, 7] ?_
  simp only [pk_cons, pk_nil, ↓A_cons, ↓reduceIte, Nat.reduceEqDiff, reduceCtorEq]
  refine Tr.seqK fun K3 hK3 => ?_
  refine Tr.seqK fun K4 hK4 => ?_
  -- region 2 (wire.go:109)
  refine Tr.rg hcx [] _ [] rfl rfl rfl ?_
  simp -implicitDefEqProofs (maxSteps := 2000000) (disch := first | omega | (simp only [go_sem, List.length_append, List.length_drop, List.length_take, hgb, hcl] <;> omega) | decide) only [go_sem, ↓reduceIte, Nat.reduceEqDiff, reduceCtorEq, Nat.reduceLT, Nat.reduceBEq, Nat.reduceAdd, Nat.reduceSub, Nat.reduceMul, Nat.reduceMod, Int.reduceMod, Int.reduceToNat, Int.reduceNeg, h38, h38e, p40, p41, q40, q41m, q41, hcE]
  refine hK4 _ ?_
  clear hK4 K4
  refine Tr.kp [0, 5, 6, 7, 20] ?_
  simp only [pk_cons, pk_nil, ↓A_cons, ↓reduceIte, Nat.reduceEqDiff, reduceCtorEq]
  refine Tr.condG fun KT KF hT hF => ?_
  simp only [ev_tmp, ev_const, ↓A_cons, ↓reduceIte, Nat.reduceEqDiff, reduceCtorEq, condG_bool, GB_true, GB_false, decide_eq_true_eq]
  refine hF ?_
  clear hT hF KT KF
  refine Tr.skip ?_
  refine hK3 _ ?_
  clear hK3 K3
  refine Tr.kp [0, 5, 6] ?_
  simp only [pk_cons, pk_nil, ↓A_cons, ↓reduceIte, Nat.reduceEqDiff, reduceCtorEq]
  refine Tr.seqK fun K5 hK5 => ?_
  -- region 4 (wire.go:112)
  refine Tr.rg hcx [1000024] _ [] rfl rfl rfl ?_
  simp -implicitDefEqProofs (maxSteps := 2000000) (disch := first | omega | (simp only [go_sem, List.length_append, List.length_drop, List.length_take, hgb, hcl] <;> omega) | decide) only [go_sem, ↓reduceIte, Nat.reduceEqDiff, reduceCtorEq, Nat.reduceLT, Nat.reduceBEq, Nat.reduceAdd, Nat.reduceSub, Nat.reduceMul, Nat.reduceMod, Int.reduceMod, Int.reduceToNat, Int.reduceNeg, h38, h38e, p40, p41, q40, q41m, q41, hcE]
  refine hK5 _ ?_
  clear hK5 K5
  refine Tr.kp [5, 6, 8] ?_
  simp only [pk_cons, pk_nil, ↓A_cons, ↓reduceIte, Nat.reduceEqDiff, reduceCtorEq]
  refine Tr.seqK fun K6 hK6 => ?_
  -- region 5 (wire.go:113)
  refine Tr.rg hcx [] _ [] rfl rfl rfl ?_
  simp -implicitDefEqProofs (maxSteps := 2000000) (disch := first | omega | (simp only [go_sem, List.length_append, List.length_drop, List.length_take, hgb, hcl] <;> omega) | decide) only [go_sem, ↓reduceIte, Nat.reduceEqDiff, reduceCtorEq, Nat.reduceLT, Nat.reduceBEq, Nat.reduceAdd, Nat.reduceSub, Nat.reduceMul, Nat.reduceMod, Int.reduceMod, Int.reduceToNat, Int.reduceNeg, h38, h38e, p40, p41, q40, q41m, q41, hcE]
  refine hK6 _ ?_
  clear hK6 K6
  refine Tr.kp [5, 6, 8, 9] ?_
  simp only [pk_cons, pk_nil, ↓A_cons, ↓reduceIte, Nat.reduceEqDiff, reduceCtorEq]
  refine Tr.seqK fun K7 hK7 => ?_
  refine Tr.seqK fun K8 hK8 => ?_
  -- region 6 (wire.go:114)
  refine Tr.rg hcx [] _ [] rfl rfl rfl ?_
  simp -implicitDefEqProofs (maxSteps := 2000000) (disch := first | omega | (simp only [go_sem, List.length_append, List.length_drop, List.length_take, hgb, hcl] <;> omega) | decide) only [go_sem, ↓reduceIte, Nat.reduceEqDiff, reduceCtorEq, Nat.reduceLT, Nat.reduceBEq, Nat.reduceAdd, Nat.reduceSub, Nat.reduceMul, Nat.reduceMod, Int.reduceMod, Int.reduceToNat, Int.reduceNeg, h38, h38e, p40, p41, q40, q41m, q41, hcE]
  refine hK8 _ ?_
  clear hK8 K8
  refine Tr.kp [6, 8, 9, 25, 26] ?_
  simp only [pk_cons, pk_nil, ↓A_cons, ↓reduceIte, Nat.reduceEqDiff, reduceCtorEq]
  refine Tr.blk ?_
  refine Tr.loopI (α := (Nat × Nat × List Int)) (fun a => [(6, .val (nI a.2.1)), (8, ?v8_34), (9, sl iC (.own 1) a.2.2), (25, ?v25_34), (26, .val (nI a.1))]) (fun a => [some [sl bC .no b], some [.val (nI (a.2.1))]]) (fun a => a.1 ≤ cn b ∧ a.2.1 ≤ b.length ∧ a.2.2.length = a.1 ∧ lst getI b (cn b - a.1) a.2.1 a.2.2 = lst getI b (cn b) (ca b) []) (fun a => cn b - a.1) ((0, ca b, [])) ?_ ?le_34 ?hh_34 ?bd_34
  case hh_34 => exact rfl
  case le_34 => (simp only [Le_nil, Le_cons, ↓A_cons, ↓reduceIte, Nat.reduceEqDiff, reduceCtorEq, CLe_refl, CLe_top, CLe_full, CLe_nil, CLe_own, and_true, true_and]; all_goals (repeat' first | exact CLe.refl _ | exact True.intro | (refine CLe_sln ?_; first | with_reducible rfl | (simp only [List.take_zero]; done) | (rfl; done)) | exact CLe_nI (by omega) | exact CLe_int (by omega) | exact CLe_inI (by omega) | exact CLe_nIi (by omega) | with_reducible apply And.intro))
  · exact ⟨Nat.zero_le _, hok.2.2.2.2.1, rfl, rfl⟩
  case bd_34 =>
   rintro ⟨i, p, l⟩ ⟨hi, hp, hll, hst⟩
   dsimp only at *
   have hbd := getI_bd (b.drop p)
   rw [List.length_drop] at hbd
   refine Tr.seqK fun K9 hK9 => ?_
   -- region 7 (wire.go:114)
   refine Tr.rg hcx [] _ [] rfl rfl rfl ?_
   simp -implicitDefEqProofs (maxSteps := 2000000) (disch := first | omega | (simp only [go_sem, List.length_append, List.length_drop, List.length_take, hgb, hcl] <;> omega) | decide) only [go_sem, ↓reduceIte, Nat.reduceEqDiff, reduceCtorEq, Nat.reduceLT, Nat.reduceBEq, Nat.reduceAdd, Nat.reduceSub, Nat.reduceMul, Nat.reduceMod, Int.reduceMod, Int.reduceToNat, Int.reduceNeg, h38, h38e, p40, p41, q40, q41m, q41, hcE]
   refine hK9 _ ?_
   clear hK9 K9
   refine Tr.kp [6, 8, 9, 25, 26, 27] ?_
   simp only [pk_cons, pk_nil, ↓A_cons, ↓reduceIte, Nat.reduceEqDiff, reduceCtorEq]
   refine Tr.seqK fun K10 hK10 => ?_
   refine Tr.condG fun KT KF hT hF => ?_
   simp only [ev_tmp, ev_const, ↓A_cons, ↓reduceIte, Nat.reduceEqDiff, reduceCtorEq, condG_bool, GB_true, GB_false, decide_eq_true_eq]
   refine GB.dec (fun hc27 => hT ?_) (fun hc27 => hF ?_)
   ·
    clear hT hF KT KF
    refine Tr.skip ?_
    refine hK10 _ ?_
    clear hK10 K10
    refine Tr.kp [8, 9, 25, 26] ?_
    simp only [pk_cons, pk_nil, ↓A_cons, ↓reduceIte, Nat.reduceEqDiff, reduceCtorEq]
    refine Tr.seqK fun K11 hK11 => ?_
    refine Tr.blk ?_
    refine Tr.seqK fun K12 hK12 => ?_
    -- region 8 (wire.go:115)
    refine Tr.rg hcx [1000031, 1000032, 1000033] _ [] rfl rfl rfl ?_
    simp -implicitDefEqProofs (maxSteps := 2000000) (disch := first | omega | (simp only [go_sem, List.length_append, List.length_drop, List.length_take, hgb, hcl] <;> omega) | decide) only [go_sem, ↓reduceIte, Nat.reduceEqDiff, reduceCtorEq, Nat.reduceLT, Nat.reduceBEq, Nat.reduceAdd, Nat.reduceSub, Nat.reduceMul, Nat.reduceMod, Int.reduceMod, Int.reduceToNat, Int.reduceNeg, h38, h38e, p40, p41, q40, q41m, q41, hcE]
    refine hK12 _ ?_
    clear hK12 K12
    refine Tr.kp [8, 9, 10, 11, 12, 25, 26] ?_
    simp only [pk_cons, pk_nil, ↓A_cons, ↓reduceIte, Nat.reduceEqDiff, reduceCtorEq]
    refine Tr.seqK fun K13 hK13 => ?_
    refine Tr.seqK fun K14 hK14 => ?_
    -- region 9 (wire.go:116)
    refine Tr.rg hcx [] _ [] rfl rfl rfl ?_
    simp -implicitDefEqProofs (maxSteps := 2000000) (disch := first | omega | (simp only [go_sem, List.length_append, List.length_drop, List.length_take, hgb, hcl] <;> omega) | decide) only [go_sem, ↓reduceIte, Nat.reduceEqDiff, reduceCtorEq, Nat.reduceLT, Nat.reduceBEq, Nat.reduceAdd, Nat.reduceSub, Nat.reduceMul, Nat.reduceMod, Int.reduceMod, Int.reduceToNat, Int.reduceNeg, h38, h38e, p40, p41, q40, q41m, q41, hcE]
    refine hK14 _ ?_
    clear hK14 K14
    refine Tr.kp [8, 9, 10, 11, 12, 25, 26, 35] ?_
    simp only [pk_cons, pk_nil, ↓A_cons, ↓reduceIte, Nat.reduceEqDiff, reduceCtorEq]
    refine Tr.condG fun KT KF hT hF => ?_
    simp only [ev_tmp, ev_const, ↓A_cons, ↓reduceIte, Nat.reduceEqDiff, reduceCtorEq, condG_bool, GB_true, GB_false, decide_eq_true_eq]
    refine GB.dec (fun hc35 => hT ?_) (fun hc35 => hF ?_)
    ·
     clear hT hF KT KF
     refine Tr.seqK fun K15 hK15 => ?_
     -- region 10 (wire.go:117)
     refine Tr.rg hcx [1000036] _ [] rfl rfl rfl ?_
     simp -implicitDefEqProofs (maxSteps := 2000000) (disch := first | omega | (simp only [go_sem, List.length_append, List.length_drop, List.length_take, hgb, hcl] <;> omega) | decide) only [go_sem, ↓reduceIte, Nat.reduceEqDiff, reduceCtorEq, Nat.reduceLT, Nat.reduceBEq, Nat.reduceAdd, Nat.reduceSub, Nat.reduceMul, Nat.reduceMod, Int.reduceMod, Int.reduceToNat, Int.reduceNeg, h38, h38e, p40, p41, q40, q41m, q41, hcE]
     refine hK15 _ ?_
     clear hK15 K15
     refine Tr.kp [2, 3, 4] ?_
     simp only [pk_cons, pk_nil, ↓A_cons, ↓reduceIte, Nat.reduceEqDiff, reduceCtorEq]
     first | refine Tr.nil3 iC .no (by decide) (by decide) (by decide) ?_ | skip
     refine Tr.ret ?_
     simp -implicitDefEqProofs (disch := first | omega | (simp only [go_sem, List.length_append, List.length_drop, List.length_take, hgb, hcl] <;> omega) | decide) only [go_sem, ↓reduceIte, Nat.reduceEqDiff, reduceCtorEq]
     all_goals (first | (rw [getL_1 hcE, ← hst, lst_e (by omega) hc35]; try rfl) | (rw [getL_1 hcE, ← hst]; try rfl) | (rw [getL_2 hcE]; try rfl))
    ·
     clear hT hF KT KF
     refine Tr.skip ?_
     refine hK13 _ ?_
     clear hK13 K13
     refine Tr.kp [8, 9, 10, 11, 25, 26] ?_
     simp only [pk_cons, pk_nil, ↓A_cons, ↓reduceIte, Nat.reduceEqDiff, reduceCtorEq]
     -- region 11 (wire.go:119)
     refine Tr.rg hcx [37, 1000040, 1000041] _ [] rfl rfl rfl ?_
     simp -implicitDefEqProofs (maxSteps := 2000000) (disch := first | omega | (simp only [go_sem, List.length_append, List.length_drop, List.length_take, hgb, hcl] <;> omega) | decide) only [go_sem, ↓reduceIte, Nat.reduceEqDiff, reduceCtorEq, Nat.reduceLT, Nat.reduceBEq, Nat.reduceAdd, Nat.reduceSub, Nat.reduceMul, Nat.reduceMod, Int.reduceMod, Int.reduceToNat, Int.reduceNeg, h38, h38e, p40, p41, q40, q41m, q41, hcE]
     refine hK11 _ ?_
     clear hK11 K11
     refine Tr.kp [6, 8, 9, 25, 26] ?_
     simp only [pk_cons, pk_nil, ↓A_cons, ↓reduceIte, Nat.reduceEqDiff, reduceCtorEq]
     -- region 12 (wire.go:114)
     refine Tr.rg hcx [] _ [] rfl rfl rfl ?_
     simp -implicitDefEqProofs (maxSteps := 2000000) (disch := first | omega | (simp only [go_sem, List.length_append, List.length_drop, List.length_take, hgb, hcl] <;> omega) | decide) only [go_sem, ↓reduceIte, Nat.reduceEqDiff, reduceCtorEq, Nat.reduceLT, Nat.reduceBEq, Nat.reduceAdd, Nat.reduceSub, Nat.reduceMul, Nat.reduceMod, Int.reduceMod, Int.reduceToNat, Int.reduceNeg, h38, h38e, p40, p41, q40, q41m, q41, hcE]
     refine ⟨(i + 1, p + (getI (b.drop p)).2.1, l ++ [(getI (b.drop p)).1]), ⟨⟨by show i + 1 ≤ cn b; omega, by show p + (getI (b.drop p)).2.1 ≤ b.length; omega, by show (l ++ [(getI (b.drop p)).1]).length = i + 1; rw [List.length_append, hll]; rfl, (lst_s hc27 (Classical.not_not.1 hc35)).symm.trans hst⟩, by first | omega | (simp only []; omega)⟩, ?_, rfl⟩
     (simp only [Le_nil, Le_cons, ↓A_cons, ↓reduceIte, Nat.reduceEqDiff, reduceCtorEq, CLe_refl, CLe_top, CLe_full, CLe_nil, CLe_own, and_true, true_and]; all_goals (repeat' first | exact CLe.refl _ | exact True.intro | (refine CLe_sln ?_; first | with_reducible rfl | (simp only [List.take_zero]; done) | (rfl; done)) | exact CLe_nI (by omega) | exact CLe_int (by omega) | exact CLe_inI (by omega) | exact CLe_nIi (by omega) | with_reducible apply And.intro))
   ·
    clear hT hF KT KF
    have hie : i = cn b := by omega
    rw [hie, Nat.sub_self, lst_0] at hst
    refine Tr.exit ?_
    refine hK7 _ ?_
    clear hK10 K10 hK7 K7
    refine Tr.kp [6, 9] ?_
    simp only [pk_cons, pk_nil, ↓A_cons, ↓reduceIte, Nat.reduceEqDiff, reduceCtorEq]
    refine Tr.seqK fun K16 hK16 => ?_
    -- region 13 (wire.go:121)
    refine Tr.rg hcx [1000043, 1000044] _ [] rfl rfl rfl ?_
    simp -implicitDefEqProofs (maxSteps := 2000000) (disch := first | omega | (simp only [go_sem, List.length_append, List.length_drop, List.length_take, hgb, hcl] <;> omega) | decide) only [go_sem, ↓reduceIte, Nat.reduceEqDiff, reduceCtorEq, Nat.reduceLT, Nat.reduceBEq, Nat.reduceAdd, Nat.reduceSub, Nat.reduceMul, Nat.reduceMod, Int.reduceMod, Int.reduceToNat, Int.reduceNeg, h38, h38e, p40, p41, q40, q41m, q41, hcE]
    refine hK16 _ ?_
    clear hK16 K16
    refine Tr.kp [2, 3, 4] ?_
    simp only [pk_cons, pk_nil, ↓A_cons, ↓reduceIte, Nat.reduceEqDiff, reduceCtorEq]
    first | refine Tr.nil3 iC .no (by decide) (by decide) (by decide) ?_ | skip
    refine Tr.ret ?_
    simp -implicitDefEqProofs (disch := first | omega | (simp only [go_sem, List.length_append, List.length_drop, List.length_take, hgb, hcl] <;> omega) | decide) only [go_sem, ↓reduceIte, Nat.reduceEqDiff, reduceCtorEq]
    all_goals (first | (rw [getL_1 hcE, ← hst, lst_e (by omega) hc35]; try rfl) | (rw [getL_1 hcE, ← hst]; try rfl) | (rw [getL_2 hcE]; try rfl))
 ·
  have hok := True.intro
  -- region 1 (wire.go:108)
  refine Tr.rg hcx [1000016, 1000017, 1000018] _ [] rfl rfl rfl ?_
  simp -implicitDefEqProofs (maxSteps := 2000000) (disch := first | omega | (simp only [go_sem, List.length_append, List.length_drop, List.length_take, hgb, hcl] <;> omega) | decide) only [go_sem, ↓reduceIte, Nat.reduceEqDiff, reduceCtorEq, Nat.reduceLT, Nat.reduceBEq, Nat.reduceAdd, Nat.reduceSub, Nat.reduceMul, Nat.reduceMod, Int.reduceMod, Int.reduceToNat, Int.reduceNeg, h38, h38e, p40, p41, q40, q41m, q41, hcE]
  refine hK2 _ ?_
  clear hK2 K2
  refine Tr.kp [0, 5, 6, 7] ?_
  simp only [pk_cons, pk_nil, ↓A_cons, ↓reduceIte, Nat.reduceEqDiff, reduceCtorEq]
  refine Tr.seqK fun K17 hK17 => ?_
  refine Tr.seqK fun K18 hK18 => ?_
  -- region 2 (wire.go:109)
  refine Tr.rg hcx [] _ [] rfl rfl rfl ?_
  simp -implicitDefEqProofs (maxSteps := 2000000) (disch := first | omega | (simp only [go_sem, List.length_append, List.length_drop, List.length_take, hgb, hcl] <;> omega) | decide) only [go_sem, ↓reduceIte, Nat.reduceEqDiff, reduceCtorEq, Nat.reduceLT, Nat.reduceBEq, Nat.reduceAdd, Nat.reduceSub, Nat.reduceMul, Nat.reduceMod, Int.reduceMod, Int.reduceToNat, Int.reduceNeg, h38, h38e, p40, p41, q40, q41m, q41, hcE]
  refine hK18 _ ?_
  clear hK18 K18
  refine Tr.kp [0, 5, 6, 7, 20] ?_
  simp only [pk_cons, pk_nil, ↓A_cons, ↓reduceIte, Nat.reduceEqDiff, reduceCtorEq]
  refine Tr.condG fun KT KF hT hF => ?_
  simp only [ev_tmp, ev_const, ↓A_cons, ↓reduceIte, Nat.reduceEqDiff, reduceCtorEq, condG_bool, GB_true, GB_false, decide_eq_true_eq]
  refine hT ?_
  clear hT hF KT KF
  refine Tr.seqK fun K19 hK19 => ?_
  -- region 3 (wire.go:110)
  refine Tr.rg hcx [1000021] _ [] rfl rfl rfl ?_
  simp -implicitDefEqProofs (maxSteps := 2000000) (disch := first | omega | (simp only [go_sem, List.length_append, List.length_drop, List.length_take, hgb, hcl] <;> omega) | decide) only [go_sem, ↓reduceIte, Nat.reduceEqDiff, reduceCtorEq, Nat.reduceLT, Nat.reduceBEq, Nat.reduceAdd, Nat.reduceSub, Nat.reduceMul, Nat.reduceMod, Int.reduceMod, Int.reduceToNat, Int.reduceNeg, h38, h38e, p40, p41, q40, q41m, q41, hcE]
  refine hK19 _ ?_
  clear hK19 K19
  refine Tr.kp [2, 3, 4] ?_
  simp only [pk_cons, pk_nil, ↓A_cons, ↓reduceIte, Nat.reduceEqDiff, reduceCtorEq]
  first | refine Tr.nil3 iC .no (by decide) (by decide) (by decide) ?_ | skip
  refine Tr.ret ?_
  simp -implicitDefEqProofs (disch := first | omega | (simp only [go_sem, List.length_append, List.length_drop, List.length_take, hgb, hcl] <;> omega) | decide) only [go_sem, ↓reduceIte, Nat.reduceEqDiff, reduceCtorEq]
  all_goals (first | (rw [getL_1 hcE, ← hst, lst_e (by omega) hc35]; try rfl) | (rw [getL_1 hcE, ← hst]; try rfl) | (rw [getL_2 hcE]; try rfl))

end Go.Sx

namespace Go.Sx
open Go.RowKit Go.Proofs


set_option maxRecDepth 100000 in
set_option maxHeartbeats 8000000 in
theorem fc12 {gl : Nat → C} {M : Nat} {pu : Nat → List C → Option C}  (hcx : CxOK (cxP gl M pu)) (h24 : ∀ b : List UInt8, b.length < 1099511627776 → pu 24 [sl bC .no b] = some (.tup [.val (.int .i64 (getI b).1), .val (nI (getI b).2.1), .val (nI (getI b).2.2)])) (h26 : ∀ b : List UInt8, b.length < 1099511627776 → pu 26 [sl bC .no b] = some (.tup [.val (str (getB b).1), .val (nI (getB b).2.1), .val (nI (getB b).2.2)])) (h28 : ∀ b : List UInt8, b.length < 1099511627776 → pu 28 [sl bC .no b] = some (.tup [sl iC .no (getL getI 1 b).1, .val (nI (getL getI 1 b).2.1), .val (nI (getL getI 1 b).2.2)])) (h22 : ∀ l : List Dig, l.length < 1099511627776 → pu 22 [sl dC .no l] = some (sl bC (.own 1) (wDigs l))) (h34 : ∀ b : List UInt8, b.length < 1099511627776 → pu 34 [sl bC .no b] = some (.tup [sl dC .no (getL getD1 16 b).1, .val (nI (getL getD1 16 b).2.1), .val (nI (getL getD1 16 b).2.2)])) (h31 : ∀ b : List UInt8, b.length < 1099511627776 → pu 31 [sl bC .no b] = some (.tup [sl sC .no (getL getB 1 b).1, .val (nI (getL getB 1 b).2.1), .val (nI (getL getB 1 b).2.2)])) (h33 : ∀ x y : List (List UInt8), x.length < 9223372036854775807 → pu 33 [sl sC .no x, sl sC .no y] = some (.val (.bool (decide (x = y))))) (h20 : ∀ l : List (List UInt8), l.length < 1099511627776 ∧ l.flatten.length < 1099511627776 → pu 20 [sl sC .no l] = some (sl bC (.own 1) (wStrs l))) (h13 : ∀ x y : List UInt8, x.length < 9223372036854775807 → pu 13 [sl bC .no x, sl bC .no y] = some (.val (.bool (decide (x = y))))) (h14 : ∀ n : Int, -9223372036854775808 ≤ n ∧ n ≤ 9223372036854775807 → pu 14 [.val (.int .i64 n)] = some (sl bC (.own 1) (wint n))) (h16 : ∀ s : List UInt8, s.length < 70368744177664 → pu 16 [.val (str s)] = some (sl bC (.own 1) (wb s))) (h18 : ∀ l : List Int, l.length < 1099511627776 ∧ (∀ x ∈ l, -9223372036854775808 ≤ x ∧ x ≤ 9223372036854775807) → pu 18 [sl iC .no l] = some (sl bC (.own 1) (wInts l))) (h30 : ∀ x y : List Int, x.length < 9223372036854775807 → pu 30 [sl iC .no x, sl iC .no y] = some (.val (.bool (decide (x = y))))) (h36 : ∀ x y : List Dig, x.length < 9223372036854775807 → pu 36 [sl dC .no x, sl dC .no y] = some (.val (.bool (decide (x = y)))))  : FC Try.prog gl 12 [] [] (.val (.bool true)) [] := by
 replace hcx := hcx.reN (M := 162)
 refine FC.ofA (cx := cxP gl 162 pu) (rs := [.tmp 0]) rfl Try.func12 rfl rfl rfl (by simp only [List.length_cons, List.length_nil]; decide) (by simp only [go_sem]) ?_
 simp only [ini, go_sem]
 have hb1 := True.intro
 refine Tr.seqK fun K1 hK1 => ?_
 -- region 0 (law.go:14)
 refine Tr.rg hcx [] _ [] rfl rfl rfl ?_
 simp -implicitDefEqProofs (maxSteps := 2000000) (disch := first | omega | (simp only [go_sem, List.length_append, List.length_drop, List.length_take, hb1] <;> omega) | decide) only [go_sem, ↓reduceIte, Nat.reduceEqDiff, reduceCtorEq, Nat.reduceLT, Nat.reduceBEq, Nat.reduceAdd, Nat.reduceSub, Nat.reduceMul, Nat.reduceMod, Int.reduceMod, Int.reduceToNat, Int.reduceNeg, h24, h26, h28, h22, h34, h31, h33, h20, h13, h14, h16, h18, h30, h36, List.append_eq, List.cons_append, List.nil_append, sn1, sn2, sn3, sn4, sn5, sn6, sn7, sn7l, sn8x, sn9, sn10, sn11, sn12, sn13, sn14, lay1s_nn, sn15, eq_self, decide_true]
 refine hK1 _ ?_
 clear hK1 K1
 refine Tr.kp [] ?_
 simp only [pk_cons, pk_nil, ↓A_cons, ↓reduceIte, Nat.reduceEqDiff, reduceCtorEq]
 refine Tr.seqK fun K2 hK2 => ?_
 -- region 1 (law.go:15)
 refine Tr.rg hcx [1000027, 1000028, 1000029] _ [] rfl rfl rfl ?_
 simp -implicitDefEqProofs (maxSteps := 2000000) (disch := first | omega | (simp only [go_sem, List.length_append, List.length_drop, List.length_take, hb1] <;> omega) | decide) only [go_sem, ↓reduceIte, Nat.reduceEqDiff, reduceCtorEq, Nat.reduceLT, Nat.reduceBEq, Nat.reduceAdd, Nat.reduceSub, Nat.reduceMul, Nat.reduceMod, Int.reduceMod, Int.reduceToNat, Int.reduceNeg, h24, h26, h28, h22, h34, h31, h33, h20, h13, h14, h16, h18, h30, h36, List.append_eq, List.cons_append, List.nil_append, sn1, sn2, sn3, sn4, sn5, sn6, sn7, sn7l, sn8x, sn9, sn10, sn11, sn12, sn13, sn14, lay1s_nn, sn15, eq_self, decide_true]
 refine hK2 _ ?_
 clear hK2 K2
 refine Tr.kp [1, 2, 3] ?_
 simp only [pk_cons, pk_nil, ↓A_cons, ↓reduceIte, Nat.reduceEqDiff, reduceCtorEq]
 refine Tr.seqK fun K3 hK3 => ?_
 -- region 2 (law.go:16)
 refine Tr.rg hcx [1000033, 1000034, 1000035] _ [] rfl rfl rfl ?_
 simp -implicitDefEqProofs (maxSteps := 2000000) (disch := first | omega | (simp only [go_sem, List.length_append, List.length_drop, List.length_take, hb1] <;> omega) | decide) only [go_sem, ↓reduceIte, Nat.reduceEqDiff, reduceCtorEq, Nat.reduceLT, Nat.reduceBEq, Nat.reduceAdd, Nat.reduceSub, Nat.reduceMul, Nat.reduceMod, Int.reduceMod, Int.reduceToNat, Int.reduceNeg, h24, h26, h28, h22, h34, h31, h33, h20, h13, h14, h16, h18, h30, h36, List.append_eq, List.cons_append, List.nil_append, sn1, sn2, sn3, sn4, sn5, sn6, sn7, sn7l, sn8x, sn9, sn10, sn11, sn12, sn13, sn14, lay1s_nn, sn15, eq_self, decide_true]
 refine hK3 _ ?_
 clear hK3 K3
 refine Tr.kp [1, 2, 3, 6] ?_
 simp only [pk_cons, pk_nil, ↓A_cons, ↓reduceIte, Nat.reduceEqDiff, reduceCtorEq]
 refine Tr.seqK fun K4 hK4 => ?_
 -- region 3 (law.go:17)
 refine Tr.rg hcx [1000039, 1000040, 1000041] _ [] rfl rfl rfl ?_
 simp -implicitDefEqProofs (maxSteps := 2000000) (disch := first | omega | (simp only [go_sem, List.length_append, List.length_drop, List.length_take, hb1] <;> omega) | decide) only [go_sem, ↓reduceIte, Nat.reduceEqDiff, reduceCtorEq, Nat.reduceLT, Nat.reduceBEq, Nat.reduceAdd, Nat.reduceSub, Nat.reduceMul, Nat.reduceMod, Int.reduceMod, Int.reduceToNat, Int.reduceNeg, h24, h26, h28, h22, h34, h31, h33, h20, h13, h14, h16, h18, h30, h36, List.append_eq, List.cons_append, List.nil_append, sn1, sn2, sn3, sn4, sn5, sn6, sn7, sn7l, sn8x, sn9, sn10, sn11, sn12, sn13, sn14, lay1s_nn, sn15, eq_self, decide_true]
 refine hK4 _ ?_
 clear hK4 K4
 refine Tr.kp [1, 2, 3, 6, 9] ?_
 simp only [pk_cons, pk_nil, ↓A_cons, ↓reduceIte, Nat.reduceEqDiff, reduceCtorEq]
 refine Tr.seqK fun K5 hK5 => ?_
 -- region 4 (law.go:18)
 refine Tr.rg hcx [1000045, 1000046, 1000047] _ [] rfl rfl rfl ?_
 simp -implicitDefEqProofs (maxSteps := 2000000) (disch := first | omega | (simp only [go_sem, List.length_append, List.length_drop, List.length_take, hb1] <;> omega) | decide) only [go_sem, ↓reduceIte, Nat.reduceEqDiff, reduceCtorEq, Nat.reduceLT, Nat.reduceBEq, Nat.reduceAdd, Nat.reduceSub, Nat.reduceMul, Nat.reduceMod, Int.reduceMod, Int.reduceToNat, Int.reduceNeg, h24, h26, h28, h22, h34, h31, h33, h20, h13, h14, h16, h18, h30, h36, List.append_eq, List.cons_append, List.nil_append, sn1, sn2, sn3, sn4, sn5, sn6, sn7, sn7l, sn8x, sn9, sn10, sn11, sn12, sn13, sn14, lay1s_nn, sn15, eq_self, decide_true]
 refine hK5 _ ?_
 clear hK5 K5
 refine Tr.kp [1, 2, 3, 6, 9, 10, 11, 12] ?_
 simp only [pk_cons, pk_nil, ↓A_cons, ↓reduceIte, Nat.reduceEqDiff, reduceCtorEq]
 refine Tr.seqK fun K6 hK6 => ?_
 -- region 5 (law.go:19)
 refine Tr.rg hcx [1000051, 1000052, 1000053] _ [] rfl rfl rfl ?_
 simp -implicitDefEqProofs (maxSteps := 2000000) (disch := first | omega | (simp only [go_sem, List.length_append, List.length_drop, List.length_take, hb1] <;> omega) | decide) only [go_sem, ↓reduceIte, Nat.reduceEqDiff, reduceCtorEq, Nat.reduceLT, Nat.reduceBEq, Nat.reduceAdd, Nat.reduceSub, Nat.reduceMul, Nat.reduceMod, Int.reduceMod, Int.reduceToNat, Int.reduceNeg, h24, h26, h28, h22, h34, h31, h33, h20, h13, h14, h16, h18, h30, h36, List.append_eq, List.cons_append, List.nil_append, sn1, sn2, sn3, sn4, sn5, sn6, sn7, sn7l, sn8x, sn9, sn10, sn11, sn12, sn13, sn14, lay1s_nn, sn15, eq_self, decide_true]
 refine hK6 _ ?_
 clear hK6 K6
 refine Tr.kp [1, 2, 3, 6, 9, 10, 11, 12, 13, 14, 15] ?_
 simp only [pk_cons, pk_nil, ↓A_cons, ↓reduceIte, Nat.reduceEqDiff, reduceCtorEq]
 refine Tr.seqK fun K7 hK7 => ?_
 -- region 6 (law.go:20)
 refine Tr.rg hcx [] _ [none] rfl rfl rfl ?_
 simp -implicitDefEqProofs (maxSteps := 2000000) (disch := first | omega | (simp only [go_sem, List.length_append, List.length_drop, List.length_take, hb1] <;> omega) | decide) only [go_sem, ↓reduceIte, Nat.reduceEqDiff, reduceCtorEq, Nat.reduceLT, Nat.reduceBEq, Nat.reduceAdd, Nat.reduceSub, Nat.reduceMul, Nat.reduceMod, Int.reduceMod, Int.reduceToNat, Int.reduceNeg, h24, h26, h28, h22, h34, h31, h33, h20, h13, h14, h16, h18, h30, h36, List.append_eq, List.cons_append, List.nil_append, sn1, sn2, sn3, sn4, sn5, sn6, sn7, sn7l, sn8x, sn9, sn10, sn11, sn12, sn13, sn14, lay1s_nn, sn15, eq_self, decide_true]
 refine hK7 _ ?_
 clear hK7 K7
 refine Tr.kp [1, 2, 3, 6, 9, 10, 11, 12, 13, 14, 15, 16] ?_
 simp only [pk_cons, pk_nil, ↓A_cons, ↓reduceIte, Nat.reduceEqDiff, reduceCtorEq]
 refine Tr.seqK fun K8 hK8 => ?_
 -- region 7 (law.go:21)
 refine Tr.rg hcx [1000060, 1000061, 1000062] _ [] rfl rfl rfl ?_
 simp -implicitDefEqProofs (maxSteps := 2000000) (disch := first | omega | (simp only [go_sem, List.length_append, List.length_drop, List.length_take, hb1] <;> omega) | decide) only [go_sem, ↓reduceIte, Nat.reduceEqDiff, reduceCtorEq, Nat.reduceLT, Nat.reduceBEq, Nat.reduceAdd, Nat.reduceSub, Nat.reduceMul, Nat.reduceMod, Int.reduceMod, Int.reduceToNat, Int.reduceNeg, h24, h26, h28, h22, h34, h31, h33, h20, h13, h14, h16, h18, h30, h36, List.append_eq, List.cons_append, List.nil_append, sn1, sn2, sn3, sn4, sn5, sn6, sn7, sn7l, sn8x, sn9, sn10, sn11, sn12, sn13, sn14, lay1s_nn, sn15, eq_self, decide_true]
 refine hK8 _ ?_
 clear hK8 K8
 refine Tr.kp [1, 2, 3, 6, 9, 10, 11, 12, 13, 14, 15, 16, 17, 18, 19] ?_
 simp only [pk_cons, pk_nil, ↓A_cons, ↓reduceIte, Nat.reduceEqDiff, reduceCtorEq]
 refine Tr.seqK fun K9 hK9 => ?_
 -- region 8 (law.go:22)
 refine Tr.rg hcx [1000066, 1000067, 1000068] _ [] rfl rfl rfl ?_
 simp -implicitDefEqProofs (maxSteps := 2000000) (disch := first | omega | (simp only [go_sem, List.length_append, List.length_drop, List.length_take, hb1] <;> omega) | decide) only [go_sem, ↓reduceIte, Nat.reduceEqDiff, reduceCtorEq, Nat.reduceLT, Nat.reduceBEq, Nat.reduceAdd, Nat.reduceSub, Nat.reduceMul, Nat.reduceMod, Int.reduceMod, Int.reduceToNat, Int.reduceNeg, h24, h26, h28, h22, h34, h31, h33, h20, h13, h14, h16, h18, h30, h36, List.append_eq, List.cons_append, List.nil_append, sn1, sn2, sn3, sn4, sn5, sn6, sn7, sn7l, sn8x, sn9, sn10, sn11, sn12, sn13, sn14, lay1s_nn, sn15, eq_self, decide_true]
 refine hK9 _ ?_
 clear hK9 K9
 refine Tr.kp [1, 2, 3, 6, 9, 10, 11, 12, 13, 14, 15, 16, 17, 18, 19, 20, 21, 22] ?_
 simp only [pk_cons, pk_nil, ↓A_cons, ↓reduceIte, Nat.reduceEqDiff, reduceCtorEq]
 refine Tr.seqK fun K10 hK10 => ?_
 -- region 9 (law.go:23)
 refine Tr.rg hcx [1000085] [some 69, some 70, some 71, some 72, some 73, some 74, some 75, some 76, some 77, some 78, some 79, some 80, some 81, some 82, some 83, some 84, some 85, some 23] [] rfl rfl rfl ?_
 simp -implicitDefEqProofs (maxSteps := 2000000) (disch := first | omega | (simp only [go_sem, List.length_append, List.length_drop, List.length_take, hb1] <;> omega) | decide) only [go_sem, ↓reduceIte, Nat.reduceEqDiff, reduceCtorEq, Nat.reduceLT, Nat.reduceBEq, Nat.reduceAdd, Nat.reduceSub, Nat.reduceMul, Nat.reduceMod, Int.reduceMod, Int.reduceToNat, Int.reduceNeg, h24, h26, h28, h22, h34, h31, h33, h20, h13, h14, h16, h18, h30, h36, List.append_eq, List.cons_append, List.nil_append, sn1, sn2, sn3, sn4, sn5, sn6, sn7, sn7l, sn8x, sn9, sn10, sn11, sn12, sn13, sn14, lay1s_nn, sn15, eq_self, decide_true]
 refine hK10 _ ?_
 clear hK10 K10
 refine Tr.kp [1, 2, 3, 6, 9, 10, 11, 12, 13, 14, 15, 16, 17, 18, 19, 23] ?_
 simp only [pk_cons, pk_nil, ↓A_cons, ↓reduceIte, Nat.reduceEqDiff, reduceCtorEq]
 refine Tr.seqK fun K11 hK11 => ?_
 -- region 10 (law.go:24)
 refine Tr.rg hcx [1000161] [some 86, some 87, some 88, some 89, some 90, some 91, some 92, some 93, some 94, some 95, some 96, some 97, some 98, some 99, some 100, some 101, some 102, some 103, some 104, some 105, some 106, some 107, some 108, some 109, some 110, some 111, some 112, some 113, some 114, some 115, some 116, some 117, some 118, some 119, some 120, some 121, some 122, some 123, some 124, some 125, some 126, some 127, some 128, some 129, some 130, some 131, some 132, some 133, some 134, some 135, some 136, some 137, some 138, some 139, some 140, some 141, some 142, some 143, some 144, some 145, some 146, some 147, some 148, some 149, some 150, some 151, some 152, some 153, some 154, some 155, some 156, some 157, some 158, some 159, some 160, some 161, some 0] [] rfl rfl rfl ?_
 simp -implicitDefEqProofs (maxSteps := 2000000) (disch := first | omega | (simp only [go_sem, List.length_append, List.length_drop, List.length_take, hb1] <;> omega) | decide) only [go_sem, ↓reduceIte, Nat.reduceEqDiff, reduceCtorEq, Nat.reduceLT, Nat.reduceBEq, Nat.reduceAdd, Nat.reduceSub, Nat.reduceMul, Nat.reduceMod, Int.reduceMod, Int.reduceToNat, Int.reduceNeg, h24, h26, h28, h22, h34, h31, h33, h20, h13, h14, h16, h18, h30, h36, List.append_eq, List.cons_append, List.nil_append, sn1, sn2, sn3, sn4, sn5, sn6, sn7, sn7l, sn8x, sn9, sn10, sn11, sn12, sn13, sn14, lay1s_nn, sn15, eq_self, decide_true]
 refine hK11 _ ?_
 clear hK11 K11
 refine Tr.kp [0] ?_
 simp only [pk_cons, pk_nil, ↓A_cons, ↓reduceIte, Nat.reduceEqDiff, reduceCtorEq]
 refine Tr.ret ?_
 simp -implicitDefEqProofs (disch := first | omega | (simp only [go_sem, List.length_append, List.length_drop, List.length_take, hb1] <;> omega) | decide) only [go_sem, ↓reduceIte, Nat.reduceEqDiff, reduceCtorEq]

end Go.Sx

namespace Go.Sx
open Go.RowKit Go.Proofs


set_option maxRecDepth 100000 in
set_option maxHeartbeats 8000000 in
theorem fc4 {gl : Nat → C} {M : Nat} {pu : Nat → List C → Option C}  (hcx : CxOK (cxP gl M pu)) (h12 : pu 12 [] = some (.val (.bool true))) (h24 : ∀ b : List UInt8, b.length < 1099511627776 → pu 24 [sl bC .no b] = some (.tup [.val (.int .i64 (getI b).1), .val (nI (getI b).2.1), .val (nI (getI b).2.2)])) (h25 : ∀ b : List UInt8, b.length < 1099511627776 → pu 25 [sl bC .no b] = some (.tup [.val (.int .i64 (getI b).1), .val (nI (getI b).2.1), .val (nI (getI b).2.2)])) (h26 : ∀ b : List UInt8, b.length < 1099511627776 → pu 26 [sl bC .no b] = some (.tup [.val (str (getB b).1), .val (nI (getB b).2.1), .val (nI (getB b).2.2)])) (h27 : ∀ b : List UInt8, b.length < 1099511627776 → pu 27 [sl bC .no b] = some (.tup [.val (str (getB b).1), .val (nI (getB b).2.1), .val (nI (getB b).2.2)])) (h28 : ∀ b : List UInt8, b.length < 1099511627776 → pu 28 [sl bC .no b] = some (.tup [sl iC .no (getL getI 1 b).1, .val (nI (getL getI 1 b).2.1), .val (nI (getL getI 1 b).2.2)])) (h29 : ∀ b : List UInt8, b.length < 1099511627776 → pu 29 [sl bC .no b] = some (.tup [sl iC .no (getL getI 1 b).1, .val (nI (getL getI 1 b).2.1), .val (nI (getL getI 1 b).2.2)])) (h30 : ∀ x y : List Int, x.length < 9223372036854775807 → pu 30 [sl iC .no x, sl iC .no y] = some (.val (.bool (decide (x = y))))) (h31 : ∀ b : List UInt8, b.length < 1099511627776 → pu 31 [sl bC .no b] = some (.tup [sl sC .no (getL getB 1 b).1, .val (nI (getL getB 1 b).2.1), .val (nI (getL getB 1 b).2.2)])) (h32 : ∀ b : List UInt8, b.length < 1099511627776 → pu 32 [sl bC .no b] = some (.tup [sl sC .no (getL getB 1 b).1, .val (nI (getL getB 1 b).2.1), .val (nI (getL getB 1 b).2.2)])) (h33 : ∀ x y : List (List UInt8), x.length < 9223372036854775807 → pu 33 [sl sC .no x, sl sC .no y] = some (.val (.bool (decide (x = y))))) (h34 : ∀ b : List UInt8, b.length < 1099511627776 → pu 34 [sl bC .no b] = some (.tup [sl dC .no (getL getD1 16 b).1, .val (nI (getL getD1 16 b).2.1), .val (nI (getL getD1 16 b).2.2)])) (h35 : ∀ b : List UInt8, b.length < 1099511627776 → pu 35 [sl bC .no b] = some (.tup [sl dC .no (getL getD1 16 b).1, .val (nI (getL getD1 16 b).2.1), .val (nI (getL getD1 16 b).2.2)])) (h36 : ∀ x y : List Dig, x.length < 9223372036854775807 → pu 36 [sl dC .no x, sl dC .no y] = some (.val (.bool (decide (x = y))))) (b : List UInt8) (hb : b.length < 9223372036854775808) : FC Try.prog gl 4 [sl bC .no b] [] (.val (.bool true)) [] := by
 replace hcx := hcx.reN (M := 167)
 refine FC.ofA (cx := cxP gl 167 pu) (rs := [.tmp 2]) rfl Try.func4 rfl rfl rfl (by simp only [List.length_cons, List.length_nil]; decide) (by simp only [go_sem]) ?_
 simp only [ini, go_sem]
 have hb1 := True.intro
 refine Tr.seqK fun K1 hK1 => ?_
 -- region 0 (law.go:45)
 refine Tr.rg hcx [] _ [] rfl rfl rfl ?_
 simp -implicitDefEqProofs (maxSteps := 2000000) (disch := first | omega | (simp only [go_sem, List.length_append, List.length_drop, List.length_take, hb1] <;> omega) | decide) only [go_sem, ↓reduceIte, Nat.reduceEqDiff, reduceCtorEq, Nat.reduceLT, Nat.reduceBEq, Nat.reduceAdd, Nat.reduceSub, Nat.reduceMul, Nat.reduceMod, Int.reduceMod, Int.reduceToNat, Int.reduceNeg, h12, h24, h25, h26, h27, h28, h29, h30, h31, h32, h33, h34, h35, h36, eq_self, decide_true, ne_eq, not_true_eq_false, decide_false, not_false_eq_true]
 refine hK1 _ ?_
 clear hK1 K1
 refine Tr.kp [0] ?_
 simp only [pk_cons, pk_nil, ↓A_cons, ↓reduceIte, Nat.reduceEqDiff, reduceCtorEq]
 refine Tr.seqK fun K2 hK2 => ?_
 refine Tr.seqK fun K3 hK3 => ?_
 -- region 1 (law.go:46)
 refine Tr.rg hcx [] _ [] rfl rfl rfl ?_
 simp -implicitDefEqProofs (maxSteps := 2000000) (disch := first | omega | (simp only [go_sem, List.length_append, List.length_drop, List.length_take, hb1] <;> omega) | decide) only [go_sem, ↓reduceIte, Nat.reduceEqDiff, reduceCtorEq, Nat.reduceLT, Nat.reduceBEq, Nat.reduceAdd, Nat.reduceSub, Nat.reduceMul, Nat.reduceMod, Int.reduceMod, Int.reduceToNat, Int.reduceNeg, h12, h24, h25, h26, h27, h28, h29, h30, h31, h32, h33, h34, h35, h36, eq_self, decide_true, ne_eq, not_true_eq_false, decide_false, not_false_eq_true]
 refine hK3 _ ?_
 clear hK3 K3
 refine Tr.kp [0, 35] ?_
 simp only [pk_cons, pk_nil, ↓A_cons, ↓reduceIte, Nat.reduceEqDiff, reduceCtorEq]
 refine Tr.condG fun KT KF hT hF => ?_
 simp only [ev_tmp, ev_const, ↓A_cons, ↓reduceIte, Nat.reduceEqDiff, reduceCtorEq, condG_bool, GB_true, GB_false, decide_eq_true_eq]
 refine GB.dec (fun hc35 => hT ?_) (fun hc35 => hF ?_)
 ·
  clear hT hF KT KF
  refine Tr.seqK fun K4 hK4 => ?_
  -- region 2 (law.go:47)
  refine Tr.rg hcx [1000036] _ [] rfl rfl rfl ?_
  simp -implicitDefEqProofs (maxSteps := 2000000) (disch := first | omega | (simp only [go_sem, List.length_append, List.length_drop, List.length_take, hb1] <;> omega) | decide) only [go_sem, ↓reduceIte, Nat.reduceEqDiff, reduceCtorEq, Nat.reduceLT, Nat.reduceBEq, Nat.reduceAdd, Nat.reduceSub, Nat.reduceMul, Nat.reduceMod, Int.reduceMod, Int.reduceToNat, Int.reduceNeg, h12, h24, h25, h26, h27, h28, h29, h30, h31, h32, h33, h34, h35, h36, eq_self, decide_true, ne_eq, not_true_eq_false, decide_false, not_false_eq_true]
  refine hK4 _ ?_
  clear hK4 K4
  refine Tr.kp [2] ?_
  simp only [pk_cons, pk_nil, ↓A_cons, ↓reduceIte, Nat.reduceEqDiff, reduceCtorEq]
  refine Tr.ret ?_
  simp -implicitDefEqProofs (disch := first | omega | (simp only [go_sem, List.length_append, List.length_drop, List.length_take, hb1] <;> omega) | decide) only [go_sem, ↓reduceIte, Nat.reduceEqDiff, reduceCtorEq]
 ·
  clear hT hF KT KF
  have hl1 := getL_len getI 1 b (by omega)
  have hl2 := getL_len getB 1 b (by omega)
  have hl3 := getL_len getD1 16 b (by omega)
  have hgb := getI_bd b
  refine Tr.skip ?_
  refine hK2 _ ?_
  clear hK2 K2
  refine Tr.kp [0] ?_
  simp only [pk_cons, pk_nil, ↓A_cons, ↓reduceIte, Nat.reduceEqDiff, reduceCtorEq]
  refine Tr.seqK fun K5 hK5 => ?_
  -- region 3 (law.go:49)
  refine Tr.rg hcx [1000040, 1000041, 1000042] _ [] rfl rfl rfl ?_
  simp -implicitDefEqProofs (maxSteps := 2000000) (disch := first | omega | (simp only [go_sem, List.length_append, List.length_drop, List.length_take, hb1] <;> omega) | decide) only [go_sem, ↓reduceIte, Nat.reduceEqDiff, reduceCtorEq, Nat.reduceLT, Nat.reduceBEq, Nat.reduceAdd, Nat.reduceSub, Nat.reduceMul, Nat.reduceMod, Int.reduceMod, Int.reduceToNat, Int.reduceNeg, h12, h24, h25, h26, h27, h28, h29, h30, h31, h32, h33, h34, h35, h36, eq_self, decide_true, ne_eq, not_true_eq_false, decide_false, not_false_eq_true]
  refine hK5 _ ?_
  clear hK5 K5
  refine Tr.kp [0, 3, 4, 5] ?_
  simp only [pk_cons, pk_nil, ↓A_cons, ↓reduceIte, Nat.reduceEqDiff, reduceCtorEq]
  refine Tr.seqK fun K6 hK6 => ?_
  -- region 4 (law.go:50)
  refine Tr.rg hcx [1000046, 1000047, 1000048] _ [] rfl rfl rfl ?_
  simp -implicitDefEqProofs (maxSteps := 2000000) (disch := first | omega | (simp only [go_sem, List.length_append, List.length_drop, List.length_take, hb1] <;> omega) | decide) only [go_sem, ↓reduceIte, Nat.reduceEqDiff, reduceCtorEq, Nat.reduceLT, Nat.reduceBEq, Nat.reduceAdd, Nat.reduceSub, Nat.reduceMul, Nat.reduceMod, Int.reduceMod, Int.reduceToNat, Int.reduceNeg, h12, h24, h25, h26, h27, h28, h29, h30, h31, h32, h33, h34, h35, h36, eq_self, decide_true, ne_eq, not_true_eq_false, decide_false, not_false_eq_true]
  refine hK6 _ ?_
  clear hK6 K6
  refine Tr.kp [0, 3, 4, 5, 6, 7, 8] ?_
  simp only [pk_cons, pk_nil, ↓A_cons, ↓reduceIte, Nat.reduceEqDiff, reduceCtorEq]
  refine Tr.seqK fun K7 hK7 => ?_
  refine Tr.seqK fun K8 hK8 => ?_
  -- region 5 (law.go:51)
  refine Tr.rg hcx [] [some 49, some 50, some 51, some 52, some 53, some 54, some 55, some 56, some 57, some 58, some 59, some 60, some 61] [] rfl rfl rfl ?_
  simp -implicitDefEqProofs (maxSteps := 2000000) (disch := first | omega | (simp only [go_sem, List.length_append, List.length_drop, List.length_take, hb1] <;> omega) | decide) only [go_sem, ↓reduceIte, Nat.reduceEqDiff, reduceCtorEq, Nat.reduceLT, Nat.reduceBEq, Nat.reduceAdd, Nat.reduceSub, Nat.reduceMul, Nat.reduceMod, Int.reduceMod, Int.reduceToNat, Int.reduceNeg, h12, h24, h25, h26, h27, h28, h29, h30, h31, h32, h33, h34, h35, h36, eq_self, decide_true, ne_eq, not_true_eq_false, decide_false, not_false_eq_true]
  refine hK8 _ ?_
  clear hK8 K8
  refine Tr.kp [0, 61] ?_
  simp only [pk_cons, pk_nil, ↓A_cons, ↓reduceIte, Nat.reduceEqDiff, reduceCtorEq]
  refine Tr.condG fun KT KF hT hF => ?_
  simp only [ev_tmp, ev_const, ↓A_cons, ↓reduceIte, Nat.reduceEqDiff, reduceCtorEq, condG_bool, GB_true, GB_false, decide_eq_true_eq]
  refine hF ?_
  clear hT hF KT KF
  refine Tr.skip ?_
  refine hK7 _ ?_
  clear hK7 K7
  refine Tr.kp [0] ?_
  simp only [pk_cons, pk_nil, ↓A_cons, ↓reduceIte, Nat.reduceEqDiff, reduceCtorEq]
  refine Tr.seqK fun K9 hK9 => ?_
  -- region 7 (law.go:54)
  refine Tr.rg hcx [1000065, 1000066, 1000067] _ [] rfl rfl rfl ?_
  simp -implicitDefEqProofs (maxSteps := 2000000) (disch := first | omega | (simp only [go_sem, List.length_append, List.length_drop, List.length_take, hb1] <;> omega) | decide) only [go_sem, ↓reduceIte, Nat.reduceEqDiff, reduceCtorEq, Nat.reduceLT, Nat.reduceBEq, Nat.reduceAdd, Nat.reduceSub, Nat.reduceMul, Nat.reduceMod, Int.reduceMod, Int.reduceToNat, Int.reduceNeg, h12, h24, h25, h26, h27, h28, h29, h30, h31, h32, h33, h34, h35, h36, eq_self, decide_true, ne_eq, not_true_eq_false, decide_false, not_false_eq_true]
  refine hK9 _ ?_
  clear hK9 K9
  refine Tr.kp [0, 9, 10, 11] ?_
  simp only [pk_cons, pk_nil, ↓A_cons, ↓reduceIte, Nat.reduceEqDiff, reduceCtorEq]
  refine Tr.seqK fun K10 hK10 => ?_
  -- region 8 (law.go:55)
  refine Tr.rg hcx [1000071, 1000072, 1000073] _ [] rfl rfl rfl ?_
  simp -implicitDefEqProofs (maxSteps := 2000000) (disch := first | omega | (simp only [go_sem, List.length_append, List.length_drop, List.length_take, hb1] <;> omega) | decide) only [go_sem, ↓reduceIte, Nat.reduceEqDiff, reduceCtorEq, Nat.reduceLT, Nat.reduceBEq, Nat.reduceAdd, Nat.reduceSub, Nat.reduceMul, Nat.reduceMod, Int.reduceMod, Int.reduceToNat, Int.reduceNeg, h12, h24, h25, h26, h27, h28, h29, h30, h31, h32, h33, h34, h35, h36, eq_self, decide_true, ne_eq, not_true_eq_false, decide_false, not_false_eq_true]
  refine hK10 _ ?_
  clear hK10 K10
  refine Tr.kp [0, 9, 10, 11, 12, 13, 14] ?_
  simp only [pk_cons, pk_nil, ↓A_cons, ↓reduceIte, Nat.reduceEqDiff, reduceCtorEq]
  refine Tr.seqK fun K11 hK11 => ?_
  refine Tr.seqK fun K12 hK12 => ?_
  -- region 9 (law.go:56)
  refine Tr.rg hcx [] [some 74, some 75, some 76, some 77, some 78, some 79, some 80, some 81, some 82, some 83, some 84, some 85, some 86] [] rfl rfl rfl ?_
  simp -implicitDefEqProofs (maxSteps := 2000000) (disch := first | omega | (simp only [go_sem, List.length_append, List.length_drop, List.length_take, hb1] <;> omega) | decide) only [go_sem, ↓reduceIte, Nat.reduceEqDiff, reduceCtorEq, Nat.reduceLT, Nat.reduceBEq, Nat.reduceAdd, Nat.reduceSub, Nat.reduceMul, Nat.reduceMod, Int.reduceMod, Int.reduceToNat, Int.reduceNeg, h12, h24, h25, h26, h27, h28, h29, h30, h31, h32, h33, h34, h35, h36, eq_self, decide_true, ne_eq, not_true_eq_false, decide_false, not_false_eq_true]
  refine hK12 _ ?_
  clear hK12 K12
  refine Tr.kp [0, 86] ?_
  simp only [pk_cons, pk_nil, ↓A_cons, ↓reduceIte, Nat.reduceEqDiff, reduceCtorEq]
  refine Tr.condG fun KT KF hT hF => ?_
  simp only [ev_tmp, ev_const, ↓A_cons, ↓reduceIte, Nat.reduceEqDiff, reduceCtorEq, condG_bool, GB_true, GB_false, decide_eq_true_eq]
  refine hF ?_
  clear hT hF KT KF
  refine Tr.skip ?_
  refine hK11 _ ?_
  clear hK11 K11
  refine Tr.kp [0] ?_
  simp only [pk_cons, pk_nil, ↓A_cons, ↓reduceIte, Nat.reduceEqDiff, reduceCtorEq]
  refine Tr.seqK fun K13 hK13 => ?_
  -- region 11 (law.go:59)
  refine Tr.rg hcx [1000090, 1000091, 1000092] _ [] rfl rfl rfl ?_
  simp -implicitDefEqProofs (maxSteps := 2000000) (disch := first | omega | (simp only [go_sem, List.length_append, List.length_drop, List.length_take, hb1] <;> omega) | decide) only [go_sem, ↓reduceIte, Nat.reduceEqDiff, reduceCtorEq, Nat.reduceLT, Nat.reduceBEq, Nat.reduceAdd, Nat.reduceSub, Nat.reduceMul, Nat.reduceMod, Int.reduceMod, Int.reduceToNat, Int.reduceNeg, h12, h24, h25, h26, h27, h28, h29, h30, h31, h32, h33, h34, h35, h36, eq_self, decide_true, ne_eq, not_true_eq_false, decide_false, not_false_eq_true]
  refine hK13 _ ?_
  clear hK13 K13
  refine Tr.kp [0, 15, 16, 17] ?_
  simp only [pk_cons, pk_nil, ↓A_cons, ↓reduceIte, Nat.reduceEqDiff, reduceCtorEq]
  refine Tr.seqK fun K14 hK14 => ?_
  -- region 12 (law.go:60)
  refine Tr.rg hcx [1000096, 1000097, 1000098] _ [] rfl rfl rfl ?_
  simp -implicitDefEqProofs (maxSteps := 2000000) (disch := first | omega | (simp only [go_sem, List.length_append, List.length_drop, List.length_take, hb1] <;> omega) | decide) only [go_sem, ↓reduceIte, Nat.reduceEqDiff, reduceCtorEq, Nat.reduceLT, Nat.reduceBEq, Nat.reduceAdd, Nat.reduceSub, Nat.reduceMul, Nat.reduceMod, Int.reduceMod, Int.reduceToNat, Int.reduceNeg, h12, h24, h25, h26, h27, h28, h29, h30, h31, h32, h33, h34, h35, h36, eq_self, decide_true, ne_eq, not_true_eq_false, decide_false, not_false_eq_true]
  refine hK14 _ ?_
  clear hK14 K14
  refine Tr.kp [0, 15, 16, 17, 18, 19, 20] ?_
  simp only [pk_cons, pk_nil, ↓A_cons, ↓reduceIte, Nat.reduceEqDiff, reduceCtorEq]
  refine Tr.seqK fun K15 hK15 => ?_
  refine Tr.seqK fun K16 hK16 => ?_
  -- region 13 (law.go:61)
  refine Tr.rg hcx [] [some 99, some 100, some 101, some 102, some 103, some 104, some 105, some 106, some 107, some 108, some 109, some 110, some 111, some 112] [] rfl rfl rfl ?_
  simp -implicitDefEqProofs (maxSteps := 2000000) (disch := first | omega | (simp only [go_sem, List.length_append, List.length_drop, List.length_take, hb1] <;> omega) | decide) only [go_sem, ↓reduceIte, Nat.reduceEqDiff, reduceCtorEq, Nat.reduceLT, Nat.reduceBEq, Nat.reduceAdd, Nat.reduceSub, Nat.reduceMul, Nat.reduceMod, Int.reduceMod, Int.reduceToNat, Int.reduceNeg, h12, h24, h25, h26, h27, h28, h29, h30, h31, h32, h33, h34, h35, h36, eq_self, decide_true, ne_eq, not_true_eq_false, decide_false, not_false_eq_true]
  refine hK16 _ ?_
  clear hK16 K16
  refine Tr.kp [0, 112] ?_
  simp only [pk_cons, pk_nil, ↓A_cons, ↓reduceIte, Nat.reduceEqDiff, reduceCtorEq]
  refine Tr.condG fun KT KF hT hF => ?_
  simp only [ev_tmp, ev_const, ↓A_cons, ↓reduceIte, Nat.reduceEqDiff, reduceCtorEq, condG_bool, GB_true, GB_false, decide_eq_true_eq]
  refine hF ?_
  clear hT hF KT KF
  refine Tr.skip ?_
  refine hK15 _ ?_
  clear hK15 K15
  refine Tr.kp [0] ?_
  simp only [pk_cons, pk_nil, ↓A_cons, ↓reduceIte, Nat.reduceEqDiff, reduceCtorEq]
  refine Tr.seqK fun K17 hK17 => ?_
  -- region 15 (law.go:64)
  refine Tr.rg hcx [1000116, 1000117, 1000118] _ [] rfl rfl rfl ?_
  simp -implicitDefEqProofs (maxSteps := 2000000) (disch := first | omega | (simp only [go_sem, List.length_append, List.length_drop, List.length_take, hb1] <;> omega) | decide) only [go_sem, ↓reduceIte, Nat.reduceEqDiff, reduceCtorEq, Nat.reduceLT, Nat.reduceBEq, Nat.reduceAdd, Nat.reduceSub, Nat.reduceMul, Nat.reduceMod, Int.reduceMod, Int.reduceToNat, Int.reduceNeg, h12, h24, h25, h26, h27, h28, h29, h30, h31, h32, h33, h34, h35, h36, eq_self, decide_true, ne_eq, not_true_eq_false, decide_false, not_false_eq_true]
  refine hK17 _ ?_
  clear hK17 K17
  refine Tr.kp [0, 21, 22, 23] ?_
  simp only [pk_cons, pk_nil, ↓A_cons, ↓reduceIte, Nat.reduceEqDiff, reduceCtorEq]
  refine Tr.seqK fun K18 hK18 => ?_
  -- region 16 (law.go:65)
  refine Tr.rg hcx [1000122, 1000123, 1000124] _ [] rfl rfl rfl ?_
  simp -implicitDefEqProofs (maxSteps := 2000000) (disch := first | omega | (simp only [go_sem, List.length_append, List.length_drop, List.length_take, hb1] <;> omega) | decide) only [go_sem, ↓reduceIte, Nat.reduceEqDiff, reduceCtorEq, Nat.reduceLT, Nat.reduceBEq, Nat.reduceAdd, Nat.reduceSub, Nat.reduceMul, Nat.reduceMod, Int.reduceMod, Int.reduceToNat, Int.reduceNeg, h12, h24, h25, h26, h27, h28, h29, h30, h31, h32, h33, h34, h35, h36, eq_self, decide_true, ne_eq, not_true_eq_false, decide_false, not_false_eq_true]
  refine hK18 _ ?_
  clear hK18 K18
  refine Tr.kp [0, 21, 22, 23, 24, 25, 26] ?_
  simp only [pk_cons, pk_nil, ↓A_cons, ↓reduceIte, Nat.reduceEqDiff, reduceCtorEq]
  refine Tr.seqK fun K19 hK19 => ?_
  refine Tr.seqK fun K20 hK20 => ?_
  -- region 17 (law.go:66)
  refine Tr.rg hcx [] [some 125, some 126, some 127, some 128, some 129, some 130, some 131, some 132, some 133, some 134, some 135, some 136, some 137, some 138] [] rfl rfl rfl ?_
  simp -implicitDefEqProofs (maxSteps := 2000000) (disch := first | omega | (simp only [go_sem, List.length_append, List.length_drop, List.length_take, hb1] <;> omega) | decide) only [go_sem, ↓reduceIte, Nat.reduceEqDiff, reduceCtorEq, Nat.reduceLT, Nat.reduceBEq, Nat.reduceAdd, Nat.reduceSub, Nat.reduceMul, Nat.reduceMod, Int.reduceMod, Int.reduceToNat, Int.reduceNeg, h12, h24, h25, h26, h27, h28, h29, h30, h31, h32, h33, h34, h35, h36, eq_self, decide_true, ne_eq, not_true_eq_false, decide_false, not_false_eq_true]
  refine hK20 _ ?_
  clear hK20 K20
  refine Tr.kp [0, 138] ?_
  simp only [pk_cons, pk_nil, ↓A_cons, ↓reduceIte, Nat.reduceEqDiff, reduceCtorEq]
  refine Tr.condG fun KT KF hT hF => ?_
  simp only [ev_tmp, ev_const, ↓A_cons, ↓reduceIte, Nat.reduceEqDiff, reduceCtorEq, condG_bool, GB_true, GB_false, decide_eq_true_eq]
  refine hF ?_
  clear hT hF KT KF
  refine Tr.skip ?_
  refine hK19 _ ?_
  clear hK19 K19
  refine Tr.kp [0] ?_
  simp only [pk_cons, pk_nil, ↓A_cons, ↓reduceIte, Nat.reduceEqDiff, reduceCtorEq]
  refine Tr.seqK fun K21 hK21 => ?_
  -- region 19 (law.go:69)
  refine Tr.rg hcx [1000142, 1000143, 1000144] _ [] rfl rfl rfl ?_
  simp -implicitDefEqProofs (maxSteps := 2000000) (disch := first | omega | (simp only [go_sem, List.length_append, List.length_drop, List.length_take, hb1] <;> omega) | decide) only [go_sem, ↓reduceIte, Nat.reduceEqDiff, reduceCtorEq, Nat.reduceLT, Nat.reduceBEq, Nat.reduceAdd, Nat.reduceSub, Nat.reduceMul, Nat.reduceMod, Int.reduceMod, Int.reduceToNat, Int.reduceNeg, h12, h24, h25, h26, h27, h28, h29, h30, h31, h32, h33, h34, h35, h36, eq_self, decide_true, ne_eq, not_true_eq_false, decide_false, not_false_eq_true]
  refine hK21 _ ?_
  clear hK21 K21
  refine Tr.kp [0, 27, 28, 29] ?_
  simp only [pk_cons, pk_nil, ↓A_cons, ↓reduceIte, Nat.reduceEqDiff, reduceCtorEq]
  refine Tr.seqK fun K22 hK22 => ?_
  -- region 20 (law.go:70)
  refine Tr.rg hcx [1000148, 1000149, 1000150] _ [] rfl rfl rfl ?_
  simp -implicitDefEqProofs (maxSteps := 2000000) (disch := first | omega | (simp only [go_sem, List.length_append, List.length_drop, List.length_take, hb1] <;> omega) | decide) only [go_sem, ↓reduceIte, Nat.reduceEqDiff, reduceCtorEq, Nat.reduceLT, Nat.reduceBEq, Nat.reduceAdd, Nat.reduceSub, Nat.reduceMul, Nat.reduceMod, Int.reduceMod, Int.reduceToNat, Int.reduceNeg, h12, h24, h25, h26, h27, h28, h29, h30, h31, h32, h33, h34, h35, h36, eq_self, decide_true, ne_eq, not_true_eq_false, decide_false, not_false_eq_true]
  refine hK22 _ ?_
  clear hK22 K22
  refine Tr.kp [27, 28, 29, 30, 31, 32] ?_
  simp only [pk_cons, pk_nil, ↓A_cons, ↓reduceIte, Nat.reduceEqDiff, reduceCtorEq]
  refine Tr.seqK fun K23 hK23 => ?_
  -- region 21 (law.go:71)
  refine Tr.rg hcx [1000166] [some 151, some 152, some 153, some 154, some 155, some 156, some 157, some 158, some 159, some 160, some 161, some 162, some 163, some 164, some 165, some 166, some 2] [] rfl rfl rfl ?_
  simp -implicitDefEqProofs (maxSteps := 2000000) (disch := first | omega | (simp only [go_sem, List.length_append, List.length_drop, List.length_take, hb1] <;> omega) | decide) only [go_sem, ↓reduceIte, Nat.reduceEqDiff, reduceCtorEq, Nat.reduceLT, Nat.reduceBEq, Nat.reduceAdd, Nat.reduceSub, Nat.reduceMul, Nat.reduceMod, Int.reduceMod, Int.reduceToNat, Int.reduceNeg, h12, h24, h25, h26, h27, h28, h29, h30, h31, h32, h33, h34, h35, h36, eq_self, decide_true, ne_eq, not_true_eq_false, decide_false, not_false_eq_true]
  refine hK23 _ ?_
  clear hK23 K23
  refine Tr.kp [2] ?_
  simp only [pk_cons, pk_nil, ↓A_cons, ↓reduceIte, Nat.reduceEqDiff, reduceCtorEq]
  refine Tr.ret ?_
  simp -implicitDefEqProofs (disch := first | omega | (simp only [go_sem, List.length_append, List.length_drop, List.length_take, hb1] <;> omega) | decide) only [go_sem, ↓reduceIte, Nat.reduceEqDiff, reduceCtorEq]

end Go.Sx

namespace Go.Sx
open Go.RowKit Go.Proofs


set_option maxRecDepth 100000 in
set_option maxHeartbeats 8000000 in
theorem fc6 {gl : Nat → C} {M : Nat} {pu : Nat → List C → Option C}  (hcx : CxOK (cxP gl M pu)) (h12 : pu 12 [] = some (.val (.bool true))) (h14 : ∀ n : Int, -9223372036854775808 ≤ n ∧ n ≤ 9223372036854775807 → pu 14 [.val (.int .i64 n)] = some (sl bC (.own 1) (wint n))) (h24 : ∀ b : List UInt8, b.length < 1099511627776 → pu 24 [sl bC .no b] = some (.tup [.val (.int .i64 (getI b).1), .val (nI (getI b).2.1), .val (nI (getI b).2.2)])) (n : Int) (t : List UInt8) (hn : -9223372036854775808 ≤ n ∧ n ≤ 9223372036854775807) (hb : t.length < 9223372036854775808) : FC Try.prog gl 6 [.val (.int .i64 n), sl bC .no t] [] (.val (.bool true)) [] := by
 replace hcx := hcx.reN (M := 52)
 refine FC.ofA (cx := cxP gl 52 pu) (rs := [.tmp 4]) rfl Try.func6 rfl rfl rfl (by simp only [List.length_cons, List.length_nil]; decide) (by simp only [go_sem]) ?_
 simp only [ini, go_sem]
 have hw := wint_len n hn
 have hrt := getI_wint n hn t
 have hw1 : decide (1 ≤ (wint n).length) = true := decide_eq_true (by unfold wint; split <;> simp)
 have hw2 : decide ((wint n).length ≤ 9) = true := decide_eq_true hw
 have hw3 := True.intro
 refine Tr.seqK fun K1 hK1 => ?_
 -- region 0 (law.go:82)
 refine Tr.rg hcx [] _ [] rfl rfl rfl ?_
 simp -implicitDefEqProofs (maxSteps := 2000000) (disch := first | omega | (simp only [go_sem, List.length_append, List.length_drop, List.length_take, hw] <;> omega) | decide) only [go_sem, ↓reduceIte, Nat.reduceEqDiff, reduceCtorEq, Nat.reduceLT, Nat.reduceBEq, Nat.reduceAdd, Nat.reduceSub, Nat.reduceMul, Nat.reduceMod, Int.reduceMod, Int.reduceToNat, Int.reduceNeg, h12, h14, h24, hrt, eq_self, decide_true, hw1, hw2, hw3, List.take_length, slf28]
 refine hK1 _ ?_
 clear hK1 K1
 refine Tr.kp [0, 1] ?_
 simp only [pk_cons, pk_nil, ↓A_cons, ↓reduceIte, Nat.reduceEqDiff, reduceCtorEq]
 refine Tr.seqK fun K2 hK2 => ?_
 refine Tr.seqK fun K3 hK3 => ?_
 -- region 1 (law.go:83)
 refine Tr.rg hcx [] _ [] rfl rfl rfl ?_
 simp -implicitDefEqProofs (maxSteps := 2000000) (disch := first | omega | (simp only [go_sem, List.length_append, List.length_drop, List.length_take, hw] <;> omega) | decide) only [go_sem, ↓reduceIte, Nat.reduceEqDiff, reduceCtorEq, Nat.reduceLT, Nat.reduceBEq, Nat.reduceAdd, Nat.reduceSub, Nat.reduceMul, Nat.reduceMod, Int.reduceMod, Int.reduceToNat, Int.reduceNeg, h12, h14, h24, hrt, eq_self, decide_true, hw1, hw2, hw3, List.take_length, slf28]
 refine hK3 _ ?_
 clear hK3 K3
 refine Tr.kp [0, 1, 11] ?_
 simp only [pk_cons, pk_nil, ↓A_cons, ↓reduceIte, Nat.reduceEqDiff, reduceCtorEq]
 refine Tr.condG fun KT KF hT hF => ?_
 simp only [ev_tmp, ev_const, ↓A_cons, ↓reduceIte, Nat.reduceEqDiff, reduceCtorEq, condG_bool, GB_true, GB_false, decide_eq_true_eq]
 refine GB.dec (fun hc11 => hT ?_) (fun hc11 => hF ?_)
 ·
  clear hT hF KT KF
  refine Tr.seqK fun K4 hK4 => ?_
  -- region 2 (law.go:84)
  refine Tr.rg hcx [1000012] _ [] rfl rfl rfl ?_
  simp -implicitDefEqProofs (maxSteps := 2000000) (disch := first | omega | (simp only [go_sem, List.length_append, List.length_drop, List.length_take, hw] <;> omega) | decide) only [go_sem, ↓reduceIte, Nat.reduceEqDiff, reduceCtorEq, Nat.reduceLT, Nat.reduceBEq, Nat.reduceAdd, Nat.reduceSub, Nat.reduceMul, Nat.reduceMod, Int.reduceMod, Int.reduceToNat, Int.reduceNeg, h12, h14, h24, hrt, eq_self, decide_true, hw1, hw2, hw3, List.take_length, slf28]
  refine hK4 _ ?_
  clear hK4 K4
  refine Tr.kp [4] ?_
  simp only [pk_cons, pk_nil, ↓A_cons, ↓reduceIte, Nat.reduceEqDiff, reduceCtorEq]
  refine Tr.ret ?_
  simp -implicitDefEqProofs (disch := first | omega | (simp only [go_sem, List.length_append, List.length_drop, List.length_take, hw] <;> omega) | decide) only [go_sem, ↓reduceIte, Nat.reduceEqDiff, reduceCtorEq]
 ·
  clear hT hF KT KF
  refine Tr.skip ?_
  refine hK2 _ ?_
  clear hK2 K2
  refine Tr.kp [0, 1] ?_
  simp only [pk_cons, pk_nil, ↓A_cons, ↓reduceIte, Nat.reduceEqDiff, reduceCtorEq]
  refine Tr.seqK fun K5 hK5 => ?_
  -- region 3 (law.go:86)
  refine Tr.rg hcx [1000014] _ [] rfl rfl rfl ?_
  simp -implicitDefEqProofs (maxSteps := 2000000) (disch := first | omega | (simp only [go_sem, List.length_append, List.length_drop, List.length_take, hw] <;> omega) | decide) only [go_sem, ↓reduceIte, Nat.reduceEqDiff, reduceCtorEq, Nat.reduceLT, Nat.reduceBEq, Nat.reduceAdd, Nat.reduceSub, Nat.reduceMul, Nat.reduceMod, Int.reduceMod, Int.reduceToNat, Int.reduceNeg, h12, h14, h24, hrt, eq_self, decide_true, hw1, hw2, hw3, List.take_length, slf28]
  refine hK5 _ ?_
  clear hK5 K5
  refine Tr.kp [0, 1, 5] ?_
  simp only [pk_cons, pk_nil, ↓A_cons, ↓reduceIte, Nat.reduceEqDiff, reduceCtorEq]
  refine Tr.seqK fun K6 hK6 => ?_
  -- region 4 (law.go:87)
  refine Tr.rg hcx [21, 1000025, 1000026, 1000027] _ [] rfl rfl rfl ?_
  simp -implicitDefEqProofs (maxSteps := 2000000) (disch := first | omega | (simp only [go_sem, List.length_append, List.length_drop, List.length_take, hw] <;> omega) | decide) only [go_sem, ↓reduceIte, Nat.reduceEqDiff, reduceCtorEq, Nat.reduceLT, Nat.reduceBEq, Nat.reduceAdd, Nat.reduceSub, Nat.reduceMul, Nat.reduceMod, Int.reduceMod, Int.reduceToNat, Int.reduceNeg, h12, h14, h24, hrt, eq_self, decide_true, hw1, hw2, hw3, List.take_length, slf28]
  refine hK6 _ ?_
  clear hK6 K6
  refine Tr.kp [0, 5, 6, 7, 8] ?_
  simp only [pk_cons, pk_nil, ↓A_cons, ↓reduceIte, Nat.reduceEqDiff, reduceCtorEq]
  refine Tr.seqK fun K7 hK7 => ?_
  -- region 5 (law.go:88)
  refine Tr.rg hcx [1000051] [some 28, some 29, some 30, some 31, some 32, some 33, some 34, some 35, some 36, some 37, some 38, some 39, some 40, some 41, some 42, some 43, some 44, some 45, some 46, some 47, some 48, some 49, some 50, some 51, some 4] [] rfl rfl rfl ?_
  simp -implicitDefEqProofs (maxSteps := 2000000) (disch := first | omega | (simp only [go_sem, List.length_append, List.length_drop, List.length_take, hw] <;> omega) | decide) only [go_sem, ↓reduceIte, Nat.reduceEqDiff, reduceCtorEq, Nat.reduceLT, Nat.reduceBEq, Nat.reduceAdd, Nat.reduceSub, Nat.reduceMul, Nat.reduceMod, Int.reduceMod, Int.reduceToNat, Int.reduceNeg, h12, h14, h24, hrt, eq_self, decide_true, hw1, hw2, hw3, List.take_length, slf28]
  refine hK7 _ ?_
  clear hK7 K7
  refine Tr.kp [4] ?_
  simp only [pk_cons, pk_nil, ↓A_cons, ↓reduceIte, Nat.reduceEqDiff, reduceCtorEq]
  refine Tr.ret ?_
  simp -implicitDefEqProofs (disch := first | omega | (simp only [go_sem, List.length_append, List.length_drop, List.length_take, hw] <;> omega) | decide) only [go_sem, ↓reduceIte, Nat.reduceEqDiff, reduceCtorEq]

end Go.Sx

namespace Go.Sx
open Go.RowKit Go.Proofs


set_option maxRecDepth 100000 in
set_option maxHeartbeats 8000000 in
theorem fc10 {gl : Nat → C} {M : Nat} {pu : Nat → List C → Option C}  (hcx : CxOK (cxP gl M pu)) (h12 : pu 12 [] = some (.val (.bool true))) (h16 : ∀ s : List UInt8, s.length < 70368744177664 → pu 16 [.val (str s)] = some (sl bC (.own 1) (wb s))) (h18 : ∀ l : List Int, l.length < 1099511627776 ∧ (∀ x ∈ l, -9223372036854775808 ≤ x ∧ x ≤ 9223372036854775807) → pu 18 [sl iC .no l] = some (sl bC (.own 1) (wInts l))) (h26 : ∀ b : List UInt8, b.length < 1099511627776 → pu 26 [sl bC .no b] = some (.tup [.val (str (getB b).1), .val (nI (getB b).2.1), .val (nI (getB b).2.2)])) (h28 : ∀ b : List UInt8, b.length < 1099511627776 → pu 28 [sl bC .no b] = some (.tup [sl iC .no (getL getI 1 b).1, .val (nI (getL getI 1 b).2.1), .val (nI (getL getI 1 b).2.2)])) (h30 : ∀ x y : List Int, x.length < 9223372036854775807 → pu 30 [sl iC .no x, sl iC .no y] = some (.val (.bool (decide (x = y))))) (s : List UInt8) (l : List Int) (hs : s.length < 4611686018427387904) (hl : l.length < 4611686018427387904) (hr : ∀ x ∈ l, -9223372036854775808 ≤ x ∧ x ≤ 9223372036854775807) : FC Try.prog gl 10 [.val (str s), sl iC .no l] [] (.val (.bool true)) [] := by
 replace hcx := hcx.reN (M := 75)
 refine FC.ofA (cx := cxP gl 75 pu) (rs := [.tmp 4]) rfl Try.func10 rfl rfl rfl (by simp only [List.length_cons, List.length_nil]; decide) (by simp only [go_sem]) ?_
 simp only [ini, go_sem]
 have hb1 := True.intro
 refine Tr.seqK fun K1 hK1 => ?_
 -- region 0 (law.go:149)
 refine Tr.rg hcx [] _ [] rfl rfl rfl ?_
 simp -implicitDefEqProofs (maxSteps := 2000000) (disch := first | omega | (simp only [go_sem, List.length_append, List.length_drop, List.length_take, hb1] <;> omega) | decide) only [go_sem, ↓reduceIte, Nat.reduceEqDiff, reduceCtorEq, Nat.reduceLT, Nat.reduceBEq, Nat.reduceAdd, Nat.reduceSub, Nat.reduceMul, Nat.reduceMod, Int.reduceMod, Int.reduceToNat, Int.reduceNeg, h12, h16, h18, h26, h28, h30, eq_self, decide_true]
 refine hK1 _ ?_
 clear hK1 K1
 refine Tr.kp [0, 1] ?_
 simp only [pk_cons, pk_nil, ↓A_cons, ↓reduceIte, Nat.reduceEqDiff, reduceCtorEq]
 refine Tr.seqK fun K2 hK2 => ?_
 refine Tr.seqK fun K3 hK3 => ?_
 -- region 1 (law.go:150)
 refine Tr.rg hcx [] _ [] rfl rfl rfl ?_
 simp -implicitDefEqProofs (maxSteps := 2000000) (disch := first | omega | (simp only [go_sem, List.length_append, List.length_drop, List.length_take, hb1] <;> omega) | decide) only [go_sem, ↓reduceIte, Nat.reduceEqDiff, reduceCtorEq, Nat.reduceLT, Nat.reduceBEq, Nat.reduceAdd, Nat.reduceSub, Nat.reduceMul, Nat.reduceMod, Int.reduceMod, Int.reduceToNat, Int.reduceNeg, h12, h16, h18, h26, h28, h30, eq_self, decide_true]
 refine hK3 _ ?_
 clear hK3 K3
 refine Tr.kp [0, 1, 17] ?_
 simp only [pk_cons, pk_nil, ↓A_cons, ↓reduceIte, Nat.reduceEqDiff, reduceCtorEq]
 refine Tr.condG fun KT KF hT hF => ?_
 simp only [ev_tmp, ev_const, ↓A_cons, ↓reduceIte, Nat.reduceEqDiff, reduceCtorEq, condG_bool, GB_true, GB_false, decide_eq_true_eq]
 refine GB.dec (fun hc17 => hT ?_) (fun hc17 => hF ?_)
 ·
  clear hT hF KT KF
  refine Tr.seqK fun K4 hK4 => ?_
  -- region 2 (law.go:151)
  refine Tr.rg hcx [1000018] _ [] rfl rfl rfl ?_
  simp -implicitDefEqProofs (maxSteps := 2000000) (disch := first | omega | (simp only [go_sem, List.length_append, List.length_drop, List.length_take, hb1] <;> omega) | decide) only [go_sem, ↓reduceIte, Nat.reduceEqDiff, reduceCtorEq, Nat.reduceLT, Nat.reduceBEq, Nat.reduceAdd, Nat.reduceSub, Nat.reduceMul, Nat.reduceMod, Int.reduceMod, Int.reduceToNat, Int.reduceNeg, h12, h16, h18, h26, h28, h30, eq_self, decide_true]
  refine hK4 _ ?_
  clear hK4 K4
  refine Tr.kp [4] ?_
  simp only [pk_cons, pk_nil, ↓A_cons, ↓reduceIte, Nat.reduceEqDiff, reduceCtorEq]
  refine Tr.ret ?_
  simp -implicitDefEqProofs (disch := first | omega | (simp only [go_sem, List.length_append, List.length_drop, List.length_take, hb1] <;> omega) | decide) only [go_sem, ↓reduceIte, Nat.reduceEqDiff, reduceCtorEq]
 ·
  clear hT hF KT KF
  have hw := wb_len s (by omega)
  have hw2 := ints_le l hr l.length (Nat.le_refl _)
  rw [List.take_length] at hw2
  have hw3 : (wInts l).length ≤ 9 * l.length + 9 := by unfold wInts; rw [List.length_append]; have := wint_len l.length (by omega); omega
  have hg1 := getB_wb s (wInts l) (by omega)
  have hg2 := getIs_enc l [] (by omega) hr
  rw [List.append_nil] at hg2
  have hz : ((wb s ++ wInts l).length < (wb s).length) = False := by rw [List.length_append]; simp
  have h18i := h18 l ⟨by omega, hr⟩
  have hd1 : (wb s ++ wInts l).drop (wb s).length = wInts l := List.drop_left
  refine Tr.skip ?_
  refine hK2 _ ?_
  clear hK2 K2
  refine Tr.kp [0, 1] ?_
  simp only [pk_cons, pk_nil, ↓A_cons, ↓reduceIte, Nat.reduceEqDiff, reduceCtorEq]
  refine Tr.seqK fun K5 hK5 => ?_
  -- region 3 (law.go:153)
  refine Tr.rg hcx [19, 22, 1000025] _ [] rfl rfl rfl ?_
  simp -implicitDefEqProofs (maxSteps := 2000000) (disch := first | omega | (simp only [go_sem, List.length_append, List.length_drop, List.length_take, hb1] <;> omega) | decide) only [go_sem, ↓reduceIte, Nat.reduceEqDiff, reduceCtorEq, Nat.reduceLT, Nat.reduceBEq, Nat.reduceAdd, Nat.reduceSub, Nat.reduceMul, Nat.reduceMod, Int.reduceMod, Int.reduceToNat, Int.reduceNeg, h12, h16, h18, h26, h28, h30, eq_self, decide_true, h16, h18i, List.nil_append, List.replicate_zero]
  refine hK5 _ ?_
  clear hK5 K5
  refine Tr.kp [0, 1, 5] ?_
  simp only [pk_cons, pk_nil, ↓A_cons, ↓reduceIte, Nat.reduceEqDiff, reduceCtorEq]
  refine Tr.seqK fun K6 hK6 => ?_
  -- region 4 (law.go:154)
  refine Tr.rg hcx [1000029, 1000030, 1000031] _ [] rfl rfl rfl ?_
  simp -implicitDefEqProofs (maxSteps := 2000000) (disch := first | omega | (simp only [go_sem, List.length_append, List.length_drop, List.length_take, hb1] <;> omega) | decide) only [go_sem, ↓reduceIte, Nat.reduceEqDiff, reduceCtorEq, Nat.reduceLT, Nat.reduceBEq, Nat.reduceAdd, Nat.reduceSub, Nat.reduceMul, Nat.reduceMod, Int.reduceMod, Int.reduceToNat, Int.reduceNeg, h12, h16, h18, h26, h28, h30, eq_self, decide_true, hg1]
  refine hK6 _ ?_
  clear hK6 K6
  refine Tr.kp [0, 1, 5, 6, 7, 8] ?_
  simp only [pk_cons, pk_nil, ↓A_cons, ↓reduceIte, Nat.reduceEqDiff, reduceCtorEq]
  refine Tr.seqK fun K7 hK7 => ?_
  refine Tr.seqK fun K8 hK8 => ?_
  -- region 5 (law.go:155)
  refine Tr.rg hcx [] [some 32, some 33, some 34, some 35, some 36, some 37, some 38, some 39, some 40, some 41, some 42, some 43] [] rfl rfl rfl ?_
  simp -implicitDefEqProofs (maxSteps := 2000000) (disch := first | omega | (simp only [go_sem, List.length_append, List.length_drop, List.length_take, hb1] <;> omega) | decide) only [go_sem, ↓reduceIte, Nat.reduceEqDiff, reduceCtorEq, Nat.reduceLT, Nat.reduceBEq, Nat.reduceAdd, Nat.reduceSub, Nat.reduceMul, Nat.reduceMod, Int.reduceMod, Int.reduceToNat, Int.reduceNeg, h12, h16, h18, h26, h28, h30, eq_self, decide_true, hg1, Nat.not_lt_zero, decide_false, hz]
  refine hK8 _ ?_
  clear hK8 K8
  refine Tr.kp [0, 1, 5, 6, 7, 43] ?_
  simp only [pk_cons, pk_nil, ↓A_cons, ↓reduceIte, Nat.reduceEqDiff, reduceCtorEq]
  refine Tr.condG fun KT KF hT hF => ?_
  simp only [ev_tmp, ev_const, ↓A_cons, ↓reduceIte, Nat.reduceEqDiff, reduceCtorEq, condG_bool, GB_true, GB_false, decide_eq_true_eq]
  refine hF ?_
  clear hT hF KT KF
  refine Tr.skip ?_
  refine hK7 _ ?_
  clear hK7 K7
  refine Tr.kp [0, 1, 5, 6, 7] ?_
  simp only [pk_cons, pk_nil, ↓A_cons, ↓reduceIte, Nat.reduceEqDiff, reduceCtorEq]
  refine Tr.seqK fun K9 hK9 => ?_
  -- region 7 (law.go:158)
  refine Tr.rg hcx [1000049, 1000050, 1000051] _ [] rfl rfl rfl ?_
  simp -implicitDefEqProofs (maxSteps := 2000000) (disch := first | omega | (simp only [go_sem, List.length_append, List.length_drop, List.length_take, hb1] <;> omega) | decide) only [go_sem, ↓reduceIte, Nat.reduceEqDiff, reduceCtorEq, Nat.reduceLT, Nat.reduceBEq, Nat.reduceAdd, Nat.reduceSub, Nat.reduceMul, Nat.reduceMod, Int.reduceMod, Int.reduceToNat, Int.reduceNeg, h12, h16, h18, h26, h28, h30, eq_self, decide_true, hd1, List.take_length, hg2]
  refine hK9 _ ?_
  clear hK9 K9
  refine Tr.kp [0, 1, 5, 6, 7, 9, 10, 11] ?_
  simp only [pk_cons, pk_nil, ↓A_cons, ↓reduceIte, Nat.reduceEqDiff, reduceCtorEq]
  refine Tr.seqK fun K10 hK10 => ?_
  -- region 8 (law.go:159)
  refine Tr.rg hcx [1000074] [some 52, some 53, some 54, some 55, some 56, some 57, some 58, some 59, some 60, some 61, some 62, some 63, some 64, some 65, some 66, some 67, some 68, some 69, some 70, some 71, some 72, some 73, some 74, some 4] [] rfl rfl rfl ?_
  simp -implicitDefEqProofs (maxSteps := 2000000) (disch := first | omega | (simp only [go_sem, List.length_append, List.length_drop, List.length_take, hb1] <;> omega) | decide) only [go_sem, ↓reduceIte, Nat.reduceEqDiff, reduceCtorEq, Nat.reduceLT, Nat.reduceBEq, Nat.reduceAdd, Nat.reduceSub, Nat.reduceMul, Nat.reduceMod, Int.reduceMod, Int.reduceToNat, Int.reduceNeg, h12, h16, h18, h26, h28, h30, eq_self, decide_true, List.take_length, hg2, List.length_append]
  refine hK10 _ ?_
  clear hK10 K10
  refine Tr.kp [4] ?_
  simp only [pk_cons, pk_nil, ↓A_cons, ↓reduceIte, Nat.reduceEqDiff, reduceCtorEq]
  refine Tr.ret ?_
  simp -implicitDefEqProofs (disch := first | omega | (simp only [go_sem, List.length_append, List.length_drop, List.length_take, hb1] <;> omega) | decide) only [go_sem, ↓reduceIte, Nat.reduceEqDiff, reduceCtorEq]

end Go.Sx

namespace Go.Sx
open Go.RowKit Go.Proofs


set_option maxRecDepth 100000 in
set_option maxHeartbeats 8000000 in
theorem fc3 {gl : Nat → C} {M : Nat} {pu : Nat → List C → Option C}  (hcx : CxOK (cxP gl M pu)) (h11 : ∀ l : List (List UInt8), l.length + l.flatten.length < 9223372036854775807 → pu 11 [sl sC .no l] = some (.val (.bool (decide (l.length + l.flatten.length ≤ 2000))))) (h12 : pu 12 [] = some (.val (.bool true))) (h13 : ∀ x y : List UInt8, x.length < 9223372036854775807 → pu 13 [sl bC .no x, sl bC .no y] = some (.val (.bool (decide (x = y))))) (h14 : ∀ n : Int, -9223372036854775808 ≤ n ∧ n ≤ 9223372036854775807 → pu 14 [.val (.int .i64 n)] = some (sl bC (.own 1) (wint n))) (h15 : ∀ n : Int, -9223372036854775808 ≤ n ∧ n ≤ 9223372036854775807 → pu 15 [.val (.int .i64 n)] = some (sl bC (.own 1) (wint n))) (h16 : ∀ s : List UInt8, s.length < 70368744177664 → pu 16 [.val (str s)] = some (sl bC (.own 1) (wb s))) (h17 : ∀ s : List UInt8, s.length < 70368744177664 → pu 17 [.val (str s)] = some (sl bC (.own 1) (wb s))) (h18 : ∀ l : List Int, l.length < 1099511627776 ∧ (∀ x ∈ l, -9223372036854775808 ≤ x ∧ x ≤ 9223372036854775807) → pu 18 [sl iC .no l] = some (sl bC (.own 1) (wInts l))) (h19 : ∀ l : List Int, l.length < 1099511627776 ∧ (∀ x ∈ l, -9223372036854775808 ≤ x ∧ x ≤ 9223372036854775807) → pu 19 [sl iC .no l] = some (sl bC (.own 1) (wInts l))) (h20 : ∀ l : List (List UInt8), l.length < 1099511627776 ∧ l.flatten.length < 1099511627776 → pu 20 [sl sC .no l] = some (sl bC (.own 1) (wStrs l))) (h21 : ∀ l : List (List UInt8), l.length < 1099511627776 ∧ l.flatten.length < 1099511627776 → pu 21 [sl sC .no l] = some (sl bC (.own 1) (wStrs l))) (h22 : ∀ l : List Dig, l.length < 1099511627776 → pu 22 [sl dC .no l] = some (sl bC (.own 1) (wDigs l))) (h23 : ∀ l : List Dig, l.length < 1099511627776 → pu 23 [sl dC .no l] = some (sl bC (.own 1) (wDigs l))) (n : Int) (s : List UInt8) (l : List Int) (x : List (List UInt8)) (d : List Dig) (hn : -9223372036854775808 ≤ n ∧ n ≤ 9223372036854775807) (hs : s.length < 1152921504606846976) (hl : l.length < 1152921504606846976) (hd : d.length < 1152921504606846976) (hx : x.length + x.flatten.length < 9223372036854775807) (hr : ∀ x ∈ l, -9223372036854775808 ≤ x ∧ x ≤ 9223372036854775807) : FC Try.prog gl 3 [.val (.int .i64 n), .val (str s), sl iC .no l, sl sC .no x, sl dC .no d] [] (.val (.bool true)) [] := by
 replace hcx := hcx.reN (M := 62)
 refine FC.ofA (cx := cxP gl 62 pu) (rs := [.tmp 10]) rfl Try.func3 rfl rfl rfl (by simp only [List.length_cons, List.length_nil]; decide) (by simp only [go_sem]) ?_
 simp only [ini, go_sem]
 have hb1 := True.intro
 refine Tr.seqK fun K1 hK1 => ?_
 -- region 0 (law.go:37)
 refine Tr.rg hcx [] _ [] rfl rfl rfl ?_
 simp -implicitDefEqProofs (maxSteps := 2000000) (disch := first | omega | (simp only [go_sem, List.length_append, List.length_drop, List.length_take, hb1] <;> omega) | decide) only [go_sem, ↓reduceIte, Nat.reduceEqDiff, reduceCtorEq, Nat.reduceLT, Nat.reduceBEq, Nat.reduceAdd, Nat.reduceSub, Nat.reduceMul, Nat.reduceMod, Int.reduceMod, Int.reduceToNat, Int.reduceNeg, h11, h12, h13, h14, h15, h16, h17, h20, h21, h22, h23, eq_self, decide_true]
 refine hK1 _ ?_
 clear hK1 K1
 refine Tr.kp [0, 1, 2, 3, 4] ?_
 simp only [pk_cons, pk_nil, ↓A_cons, ↓reduceIte, Nat.reduceEqDiff, reduceCtorEq]
 refine Tr.seqK fun K2 hK2 => ?_
 refine Tr.seqK fun K3 hK3 => ?_
 by_cases hbig : 2000 < s.length + l.length + d.length
 ·
  -- region 1 (law.go:38)
  refine Tr.rg hcx [] [some 11, some 12, some 13, some 14, some 15, some 16, some 17, some 18, some 19, some 20, some 21, some 22, some 23, some 24] [] rfl rfl rfl ?_
  simp -implicitDefEqProofs (maxSteps := 2000000) (disch := first | omega | (simp only [go_sem, List.length_append, List.length_drop, List.length_take, hb1] <;> omega) | decide) only [go_sem, ↓reduceIte, Nat.reduceEqDiff, reduceCtorEq, Nat.reduceLT, Nat.reduceBEq, Nat.reduceAdd, Nat.reduceSub, Nat.reduceMul, Nat.reduceMod, Int.reduceMod, Int.reduceToNat, Int.reduceNeg, h11, h12, h13, h14, h15, h16, h17, h20, h21, h22, h23, eq_self, decide_true, hbig]
  refine hK3 _ ?_
  clear hK3 K3
  refine Tr.kp [0, 1, 2, 3, 4, 24] ?_
  simp only [pk_cons, pk_nil, ↓A_cons, ↓reduceIte, Nat.reduceEqDiff, reduceCtorEq]
  refine Tr.condG fun KT KF hT hF => ?_
  simp only [ev_tmp, ev_const, ↓A_cons, ↓reduceIte, Nat.reduceEqDiff, reduceCtorEq, condG_bool, GB_true, GB_false, decide_eq_true_eq]
  refine hT ?_
  clear hT hF KT KF
  refine Tr.seqK fun K4 hK4 => ?_
  -- region 2 (law.go:39)
  refine Tr.rg hcx [1000025] _ [] rfl rfl rfl ?_
  simp -implicitDefEqProofs (maxSteps := 2000000) (disch := first | omega | (simp only [go_sem, List.length_append, List.length_drop, List.length_take, hb1] <;> omega) | decide) only [go_sem, ↓reduceIte, Nat.reduceEqDiff, reduceCtorEq, Nat.reduceLT, Nat.reduceBEq, Nat.reduceAdd, Nat.reduceSub, Nat.reduceMul, Nat.reduceMod, Int.reduceMod, Int.reduceToNat, Int.reduceNeg, h11, h12, h13, h14, h15, h16, h17, h20, h21, h22, h23, eq_self, decide_true, hbig]
  refine hK4 _ ?_
  clear hK4 K4
  refine Tr.kp [10] ?_
  simp only [pk_cons, pk_nil, ↓A_cons, ↓reduceIte, Nat.reduceEqDiff, reduceCtorEq]
  refine Tr.ret ?_
  simp -implicitDefEqProofs (disch := first | omega | (simp only [go_sem, List.length_append, List.length_drop, List.length_take, hb1] <;> omega) | decide) only [go_sem, ↓reduceIte, Nat.reduceEqDiff, reduceCtorEq]
 ·
  by_cases hfew : x.length + x.flatten.length ≤ 2000
  ·
   have hw := wb_len s (by omega)
   have hwn := wint_len n hn
   have hw2 := ints_le l hr l.length (Nat.le_refl _)
   rw [List.take_length] at hw2
   have hw3 : (wInts l).length ≤ 9 * l.length + 9 := by unfold wInts; rw [List.length_append]; have := wint_len l.length (by omega); omega
   have hw4 := strs_le x (by omega) x.length (Nat.le_refl _)
   rw [List.take_length] at hw4
   have hw5 : (wStrs x).length ≤ 9 * x.length + x.flatten.length + 9 := by unfold wStrs; rw [List.length_append]; have := wint_len x.length (by omega); omega
   have hw6 := digs_le d d.length (Nat.le_refl _)
   rw [List.take_length] at hw6
   have hw7 : (wDigs d).length ≤ 16 * d.length + 9 := by unfold wDigs; rw [List.length_append]; have := wint_len d.length (by omega); omega
   have h18i := h18 l ⟨by omega, hr⟩
   have h19i := h19 l ⟨by omega, hr⟩
   -- region 1 (law.go:38)
   refine Tr.rg hcx [] [some 11, some 12, some 13, some 14, some 15, some 16, some 17, some 18, some 19, some 20, some 21, some 22, some 23, some 24] [] rfl rfl rfl ?_
   simp -implicitDefEqProofs (maxSteps := 2000000) (disch := first | omega | (simp only [go_sem, List.length_append, List.length_drop, List.length_take, hb1] <;> omega) | decide) only [go_sem, ↓reduceIte, Nat.reduceEqDiff, reduceCtorEq, Nat.reduceLT, Nat.reduceBEq, Nat.reduceAdd, Nat.reduceSub, Nat.reduceMul, Nat.reduceMod, Int.reduceMod, Int.reduceToNat, Int.reduceNeg, h11, h12, h13, h14, h15, h16, h17, h20, h21, h22, h23, eq_self, decide_true, hbig, hfew]
   refine hK3 _ ?_
   clear hK3 K3
   refine Tr.kp [0, 1, 2, 3, 4, 24] ?_
   simp only [pk_cons, pk_nil, ↓A_cons, ↓reduceIte, Nat.reduceEqDiff, reduceCtorEq]
   refine Tr.condG fun KT KF hT hF => ?_
   simp only [ev_tmp, ev_const, ↓A_cons, ↓reduceIte, Nat.reduceEqDiff, reduceCtorEq, condG_bool, GB_true, GB_false, decide_eq_true_eq]
   refine hF ?_
   clear hT hF KT KF
   refine Tr.skip ?_
   refine hK2 _ ?_
   clear hK2 K2
   refine Tr.kp [0, 1, 2, 3, 4] ?_
   simp only [pk_cons, pk_nil, ↓A_cons, ↓reduceIte, Nat.reduceEqDiff, reduceCtorEq]
   refine Tr.seqK fun K5 hK5 => ?_
   -- region 3 (law.go:41)
   refine Tr.rg hcx [1000061] [some 26, some 27, some 28, some 29, some 30, some 31, some 32, some 33, some 34, some 35, some 36, some 37, some 38, some 39, some 40, some 41, some 42, some 43, some 44, some 45, some 46, some 47, some 48, some 49, some 50, some 51, some 52, some 53, some 54, some 55, some 56, some 57, some 58, some 59, some 60, some 61, some 10] [] rfl rfl rfl ?_
   simp -implicitDefEqProofs (maxSteps := 2000000) (disch := first | omega | (simp only [go_sem, List.length_append, List.length_drop, List.length_take, hb1] <;> omega) | decide) only [go_sem, ↓reduceIte, Nat.reduceEqDiff, reduceCtorEq, Nat.reduceLT, Nat.reduceBEq, Nat.reduceAdd, Nat.reduceSub, Nat.reduceMul, Nat.reduceMod, Int.reduceMod, Int.reduceToNat, Int.reduceNeg, h11, h12, h13, h14, h15, h16, h17, h20, h21, h22, h23, eq_self, decide_true, hbig, hfew, h18i, h19i]
   refine hK5 _ ?_
   clear hK5 K5
   refine Tr.kp [10] ?_
   simp only [pk_cons, pk_nil, ↓A_cons, ↓reduceIte, Nat.reduceEqDiff, reduceCtorEq]
   refine Tr.ret ?_
   simp -implicitDefEqProofs (disch := first | omega | (simp only [go_sem, List.length_append, List.length_drop, List.length_take, hb1] <;> omega) | decide) only [go_sem, ↓reduceIte, Nat.reduceEqDiff, reduceCtorEq]
  ·
   have hb2 := True.intro
   -- region 1 (law.go:38)
   refine Tr.rg hcx [] [some 11, some 12, some 13, some 14, some 15, some 16, some 17, some 18, some 19, some 20, some 21, some 22, some 23, some 24] [] rfl rfl rfl ?_
   simp -implicitDefEqProofs (maxSteps := 2000000) (disch := first | omega | (simp only [go_sem, List.length_append, List.length_drop, List.length_take, hb1] <;> omega) | decide) only [go_sem, ↓reduceIte, Nat.reduceEqDiff, reduceCtorEq, Nat.reduceLT, Nat.reduceBEq, Nat.reduceAdd, Nat.reduceSub, Nat.reduceMul, Nat.reduceMod, Int.reduceMod, Int.reduceToNat, Int.reduceNeg, h11, h12, h13, h14, h15, h16, h17, h20, h21, h22, h23, eq_self, decide_true, hbig, hfew]
   refine hK3 _ ?_
   clear hK3 K3
   refine Tr.kp [0, 1, 2, 3, 4, 24] ?_
   simp only [pk_cons, pk_nil, ↓A_cons, ↓reduceIte, Nat.reduceEqDiff, reduceCtorEq]
   refine Tr.condG fun KT KF hT hF => ?_
   simp only [ev_tmp, ev_const, ↓A_cons, ↓reduceIte, Nat.reduceEqDiff, reduceCtorEq, condG_bool, GB_true, GB_false, decide_eq_true_eq]
   refine hT ?_
   clear hT hF KT KF
   refine Tr.seqK fun K6 hK6 => ?_
   -- region 2 (law.go:39)
   refine Tr.rg hcx [1000025] _ [] rfl rfl rfl ?_
   simp -implicitDefEqProofs (maxSteps := 2000000) (disch := first | omega | (simp only [go_sem, List.length_append, List.length_drop, List.length_take, hb1] <;> omega) | decide) only [go_sem, ↓reduceIte, Nat.reduceEqDiff, reduceCtorEq, Nat.reduceLT, Nat.reduceBEq, Nat.reduceAdd, Nat.reduceSub, Nat.reduceMul, Nat.reduceMod, Int.reduceMod, Int.reduceToNat, Int.reduceNeg, h11, h12, h13, h14, h15, h16, h17, h20, h21, h22, h23, eq_self, decide_true, hbig, hfew]
   refine hK6 _ ?_
   clear hK6 K6
   refine Tr.kp [10] ?_
   simp only [pk_cons, pk_nil, ↓A_cons, ↓reduceIte, Nat.reduceEqDiff, reduceCtorEq]
   refine Tr.ret ?_
   simp -implicitDefEqProofs (disch := first | omega | (simp only [go_sem, List.length_append, List.length_drop, List.length_take, hb1] <;> omega) | decide) only [go_sem, ↓reduceIte, Nat.reduceEqDiff, reduceCtorEq]

end Go.Sx

namespace Go.Sx
open Go.RowKit Go.Proofs


set_option maxRecDepth 100000 in
set_option maxHeartbeats 8000000 in
theorem fc8 {gl : Nat → C} {M : Nat} {pu : Nat → List C → Option C}  (hcx : CxOK (cxP gl M pu)) (h11 : ∀ l : List (List UInt8), l.length + l.flatten.length < 9223372036854775807 → pu 11 [sl sC .no l] = some (.val (.bool (decide (l.length + l.flatten.length ≤ 2000))))) (h12 : pu 12 [] = some (.val (.bool true))) (h16 : ∀ s : List UInt8, s.length < 70368744177664 → pu 16 [.val (str s)] = some (sl bC (.own 1) (wb s))) (h18 : ∀ l : List Int, l.length < 1099511627776 ∧ (∀ x ∈ l, -9223372036854775808 ≤ x ∧ x ≤ 9223372036854775807) → pu 18 [sl iC .no l] = some (sl bC (.own 1) (wInts l))) (h20 : ∀ l : List (List UInt8), l.length < 1099511627776 ∧ l.flatten.length < 1099511627776 → pu 20 [sl sC .no l] = some (sl bC (.own 1) (wStrs l))) (h22 : ∀ l : List Dig, l.length < 1099511627776 → pu 22 [sl dC .no l] = some (sl bC (.own 1) (wDigs l))) (h26 : ∀ b : List UInt8, b.length < 1099511627776 → pu 26 [sl bC .no b] = some (.tup [.val (str (getB b).1), .val (nI (getB b).2.1), .val (nI (getB b).2.2)])) (h28 : ∀ b : List UInt8, b.length < 1099511627776 → pu 28 [sl bC .no b] = some (.tup [sl iC .no (getL getI 1 b).1, .val (nI (getL getI 1 b).2.1), .val (nI (getL getI 1 b).2.2)])) (h30 : ∀ x y : List Int, x.length < 9223372036854775807 → pu 30 [sl iC .no x, sl iC .no y] = some (.val (.bool (decide (x = y))))) (h31 : ∀ b : List UInt8, b.length < 1099511627776 → pu 31 [sl bC .no b] = some (.tup [sl sC .no (getL getB 1 b).1, .val (nI (getL getB 1 b).2.1), .val (nI (getL getB 1 b).2.2)])) (h33 : ∀ x y : List (List UInt8), x.length < 9223372036854775807 → pu 33 [sl sC .no x, sl sC .no y] = some (.val (.bool (decide (x = y))))) (h34 : ∀ b : List UInt8, b.length < 1099511627776 → pu 34 [sl bC .no b] = some (.tup [sl dC .no (getL getD1 16 b).1, .val (nI (getL getD1 16 b).2.1), .val (nI (getL getD1 16 b).2.2)])) (h36 : ∀ x y : List Dig, x.length < 9223372036854775807 → pu 36 [sl dC .no x, sl dC .no y] = some (.val (.bool (decide (x = y))))) (s : List UInt8) (l : List Int) (x : List (List UInt8)) (d : List Dig) (t : List UInt8) (hs : s.length < 1152921504606846976) (hl : l.length < 1152921504606846976) (hd : d.length < 1152921504606846976) (ht : t.length < 1152921504606846976) (hx : x.length + x.flatten.length < 9223372036854775807) (hr : ∀ x ∈ l, -9223372036854775808 ≤ x ∧ x ≤ 9223372036854775807) : FC Try.prog gl 8 [.val (str s), sl iC .no l, sl sC .no x, sl dC .no d, sl bC .no t] [] (.val (.bool true)) [] := by
 replace hcx := hcx.reN (M := 166)
 refine FC.ofA (cx := cxP gl 166 pu) (rs := [.tmp 10]) rfl Try.func8 rfl rfl rfl (by simp only [List.length_cons, List.length_nil]; decide) (by simp only [go_sem]) ?_
 simp only [ini, go_sem]
 have hb1 := True.intro
 refine Tr.seqK fun K1 hK1 => ?_
 -- region 0 (law.go:108)
 refine Tr.rg hcx [] _ [] rfl rfl rfl ?_
 simp -implicitDefEqProofs (maxSteps := 2000000) (disch := first | omega | (simp only [go_sem, List.length_append, List.length_drop, List.length_take, hb1] <;> omega) | decide) only [go_sem, ↓reduceIte, Nat.reduceEqDiff, reduceCtorEq, Nat.reduceLT, Nat.reduceBEq, Nat.reduceAdd, Nat.reduceSub, Nat.reduceMul, Nat.reduceMod, Int.reduceMod, Int.reduceToNat, Int.reduceNeg, h11, h12, h16, h20, h22, h26, h28, h30, h31, h33, h34, h36, eq_self, decide_true, slf28]
 refine hK1 _ ?_
 clear hK1 K1
 refine Tr.kp [0, 1, 2, 3, 4] ?_
 simp only [pk_cons, pk_nil, ↓A_cons, ↓reduceIte, Nat.reduceEqDiff, reduceCtorEq]
 refine Tr.seqK fun K2 hK2 => ?_
 refine Tr.seqK fun K3 hK3 => ?_
 by_cases hbig : 2000 < s.length + l.length + d.length + t.length
 ·
  -- region 1 (law.go:109)
  refine Tr.rg hcx [] [some 27, some 28, some 29, some 30, some 31, some 32, some 33, some 34, some 35, some 36, some 37, some 38, some 39, some 40, some 41, some 42, some 43] [] rfl rfl rfl ?_
  simp -implicitDefEqProofs (maxSteps := 2000000) (disch := first | omega | (simp only [go_sem, List.length_append, List.length_drop, List.length_take, hb1] <;> omega) | decide) only [go_sem, ↓reduceIte, Nat.reduceEqDiff, reduceCtorEq, Nat.reduceLT, Nat.reduceBEq, Nat.reduceAdd, Nat.reduceSub, Nat.reduceMul, Nat.reduceMod, Int.reduceMod, Int.reduceToNat, Int.reduceNeg, h11, h12, h16, h20, h22, h26, h28, h30, h31, h33, h34, h36, eq_self, decide_true, slf28, hbig]
  refine hK3 _ ?_
  clear hK3 K3
  refine Tr.kp [0, 1, 2, 3, 4, 43] ?_
  simp only [pk_cons, pk_nil, ↓A_cons, ↓reduceIte, Nat.reduceEqDiff, reduceCtorEq]
  refine Tr.condG fun KT KF hT hF => ?_
  simp only [ev_tmp, ev_const, ↓A_cons, ↓reduceIte, Nat.reduceEqDiff, reduceCtorEq, condG_bool, GB_true, GB_false, decide_eq_true_eq]
  refine hT ?_
  clear hT hF KT KF
  refine Tr.seqK fun K4 hK4 => ?_
  -- region 2 (law.go:110)
  refine Tr.rg hcx [1000044] _ [] rfl rfl rfl ?_
  simp -implicitDefEqProofs (maxSteps := 2000000) (disch := first | omega | (simp only [go_sem, List.length_append, List.length_drop, List.length_take, hb1] <;> omega) | decide) only [go_sem, ↓reduceIte, Nat.reduceEqDiff, reduceCtorEq, Nat.reduceLT, Nat.reduceBEq, Nat.reduceAdd, Nat.reduceSub, Nat.reduceMul, Nat.reduceMod, Int.reduceMod, Int.reduceToNat, Int.reduceNeg, h11, h12, h16, h20, h22, h26, h28, h30, h31, h33, h34, h36, eq_self, decide_true, slf28, hbig]
  refine hK4 _ ?_
  clear hK4 K4
  refine Tr.kp [10] ?_
  simp only [pk_cons, pk_nil, ↓A_cons, ↓reduceIte, Nat.reduceEqDiff, reduceCtorEq]
  refine Tr.ret ?_
  simp -implicitDefEqProofs (disch := first | omega | (simp only [go_sem, List.length_append, List.length_drop, List.length_take, hb1] <;> omega) | decide) only [go_sem, ↓reduceIte, Nat.reduceEqDiff, reduceCtorEq]
 ·
  by_cases hfew : x.length + x.flatten.length ≤ 2000
  ·
   have hw := wb_len s (by omega)
   have hw2 := ints_le l hr l.length (Nat.le_refl _)
   rw [List.take_length] at hw2
   have hw3 : (wInts l).length ≤ 9 * l.length + 9 := by unfold wInts; rw [List.length_append]; have := wint_len l.length (by omega); omega
   have hw4 := strs_le x (by omega) x.length (Nat.le_refl _)
   rw [List.take_length] at hw4
   have hw5 : (wStrs x).length ≤ 9 * x.length + x.flatten.length + 9 := by unfold wStrs; rw [List.length_append]; have := wint_len x.length (by omega); omega
   have hw6 := digs_le d d.length (Nat.le_refl _)
   rw [List.take_length] at hw6
   have hw7 : (wDigs d).length ≤ 16 * d.length + 9 := by unfold wDigs; rw [List.length_append]; have := wint_len d.length (by omega); omega
   have h18i := h18 l ⟨by omega, hr⟩
   have hg1 := getB_wb s t (by omega)
   have hg2 := getIs_enc l t (by omega) hr
   have hg3 := getSs_enc x t (by omega) (fun y hy => Nat.lt_of_le_of_lt (mem_flat x y hy) (by omega))
   have hg4 := getDs_enc d t (by omega)
   -- region 1 (law.go:109)
   refine Tr.rg hcx [] [some 27, some 28, some 29, some 30, some 31, some 32, some 33, some 34, some 35, some 36, some 37, some 38, some 39, some 40, some 41, some 42, some 43] [] rfl rfl rfl ?_
   simp -implicitDefEqProofs (maxSteps := 2000000) (disch := first | omega | (simp only [go_sem, List.length_append, List.length_drop, List.length_take, hb1] <;> omega) | decide) only [go_sem, ↓reduceIte, Nat.reduceEqDiff, reduceCtorEq, Nat.reduceLT, Nat.reduceBEq, Nat.reduceAdd, Nat.reduceSub, Nat.reduceMul, Nat.reduceMod, Int.reduceMod, Int.reduceToNat, Int.reduceNeg, h11, h12, h16, h20, h22, h26, h28, h30, h31, h33, h34, h36, eq_self, decide_true, slf28, hbig, hfew]
   refine hK3 _ ?_
   clear hK3 K3
   refine Tr.kp [0, 1, 2, 3, 4, 43] ?_
   simp only [pk_cons, pk_nil, ↓A_cons, ↓reduceIte, Nat.reduceEqDiff, reduceCtorEq]
   refine Tr.condG fun KT KF hT hF => ?_
   simp only [ev_tmp, ev_const, ↓A_cons, ↓reduceIte, Nat.reduceEqDiff, reduceCtorEq, condG_bool, GB_true, GB_false, decide_eq_true_eq]
   refine hF ?_
   clear hT hF KT KF
   refine Tr.skip ?_
   refine hK2 _ ?_
   clear hK2 K2
   refine Tr.kp [0, 1, 2, 3, 4] ?_
   simp only [pk_cons, pk_nil, ↓A_cons, ↓reduceIte, Nat.reduceEqDiff, reduceCtorEq]
   refine Tr.seqK fun K5 hK5 => ?_
   -- region 3 (law.go:112)
   refine Tr.rg hcx [1000046, 1000048, 1000050, 1000052] _ [] rfl rfl rfl ?_
   simp -implicitDefEqProofs (maxSteps := 2000000) (disch := first | omega | (simp only [go_sem, List.length_append, List.length_drop, List.length_take, hb1] <;> omega) | decide) only [go_sem, ↓reduceIte, Nat.reduceEqDiff, reduceCtorEq, Nat.reduceLT, Nat.reduceBEq, Nat.reduceAdd, Nat.reduceSub, Nat.reduceMul, Nat.reduceMod, Int.reduceMod, Int.reduceToNat, Int.reduceNeg, h11, h12, h16, h20, h22, h26, h28, h30, h31, h33, h34, h36, eq_self, decide_true, slf28, hbig, hfew, h18i]
   refine hK5 _ ?_
   clear hK5 K5
   refine Tr.kp [0, 1, 2, 3, 4, 11, 12, 13, 14] ?_
   simp only [pk_cons, pk_nil, ↓A_cons, ↓reduceIte, Nat.reduceEqDiff, reduceCtorEq]
   refine Tr.seqK fun K6 hK6 => ?_
   -- region 4 (law.go:113)
   refine Tr.rg hcx [59, 1000063, 1000064, 1000065] _ [] rfl rfl rfl ?_
   simp -implicitDefEqProofs (maxSteps := 2000000) (disch := first | omega | (simp only [go_sem, List.length_append, List.length_drop, List.length_take, hb1] <;> omega) | decide) only [go_sem, ↓reduceIte, Nat.reduceEqDiff, reduceCtorEq, Nat.reduceLT, Nat.reduceBEq, Nat.reduceAdd, Nat.reduceSub, Nat.reduceMul, Nat.reduceMod, Int.reduceMod, Int.reduceToNat, Int.reduceNeg, h11, h12, h16, h20, h22, h26, h28, h30, h31, h33, h34, h36, eq_self, decide_true, slf28, hbig, hfew, hg1]
   refine hK6 _ ?_
   clear hK6 K6
   refine Tr.kp [0, 1, 2, 3, 4, 11, 12, 13, 14, 15, 16, 17] ?_
   simp only [pk_cons, pk_nil, ↓A_cons, ↓reduceIte, Nat.reduceEqDiff, reduceCtorEq]
   refine Tr.seqK fun K7 hK7 => ?_
   -- region 5 (law.go:114)
   refine Tr.rg hcx [72, 1000076, 1000077, 1000078] _ [] rfl rfl rfl ?_
   simp -implicitDefEqProofs (maxSteps := 2000000) (disch := first | omega | (simp only [go_sem, List.length_append, List.length_drop, List.length_take, hb1] <;> omega) | decide) only [go_sem, ↓reduceIte, Nat.reduceEqDiff, reduceCtorEq, Nat.reduceLT, Nat.reduceBEq, Nat.reduceAdd, Nat.reduceSub, Nat.reduceMul, Nat.reduceMod, Int.reduceMod, Int.reduceToNat, Int.reduceNeg, h11, h12, h16, h20, h22, h26, h28, h30, h31, h33, h34, h36, eq_self, decide_true, slf28, hbig, hfew, hg2]
   refine hK7 _ ?_
   clear hK7 K7
   refine Tr.kp [0, 1, 2, 3, 4, 11, 12, 13, 14, 15, 16, 17, 18, 19, 20] ?_
   simp only [pk_cons, pk_nil, ↓A_cons, ↓reduceIte, Nat.reduceEqDiff, reduceCtorEq]
   refine Tr.seqK fun K8 hK8 => ?_
   -- region 6 (law.go:115)
   refine Tr.rg hcx [85, 1000089, 1000090, 1000091] _ [] rfl rfl rfl ?_
   simp -implicitDefEqProofs (maxSteps := 2000000) (disch := first | omega | (simp only [go_sem, List.length_append, List.length_drop, List.length_take, hb1] <;> omega) | decide) only [go_sem, ↓reduceIte, Nat.reduceEqDiff, reduceCtorEq, Nat.reduceLT, Nat.reduceBEq, Nat.reduceAdd, Nat.reduceSub, Nat.reduceMul, Nat.reduceMod, Int.reduceMod, Int.reduceToNat, Int.reduceNeg, h11, h12, h16, h20, h22, h26, h28, h30, h31, h33, h34, h36, eq_self, decide_true, slf28, hbig, hfew, hg4]
   refine hK8 _ ?_
   clear hK8 K8
   refine Tr.kp [0, 1, 2, 3, 4, 11, 12, 13, 14, 15, 16, 17, 18, 19, 20, 21, 22, 23] ?_
   simp only [pk_cons, pk_nil, ↓A_cons, ↓reduceIte, Nat.reduceEqDiff, reduceCtorEq]
   refine Tr.seqK fun K9 hK9 => ?_
   -- region 7 (law.go:116)
   refine Tr.rg hcx [98, 1000102, 1000103, 1000104] _ [] rfl rfl rfl ?_
   simp -implicitDefEqProofs (maxSteps := 2000000) (disch := first | omega | (simp only [go_sem, List.length_append, List.length_drop, List.length_take, hb1] <;> omega) | decide) only [go_sem, ↓reduceIte, Nat.reduceEqDiff, reduceCtorEq, Nat.reduceLT, Nat.reduceBEq, Nat.reduceAdd, Nat.reduceSub, Nat.reduceMul, Nat.reduceMod, Int.reduceMod, Int.reduceToNat, Int.reduceNeg, h11, h12, h16, h20, h22, h26, h28, h30, h31, h33, h34, h36, eq_self, decide_true, slf28, hbig, hfew, hg3]
   refine hK9 _ ?_
   clear hK9 K9
   refine Tr.kp [0, 1, 2, 3, 11, 12, 13, 14, 15, 16, 17, 18, 19, 20, 21, 22, 23, 24, 25, 26] ?_
   simp only [pk_cons, pk_nil, ↓A_cons, ↓reduceIte, Nat.reduceEqDiff, reduceCtorEq]
   refine Tr.seqK fun K10 hK10 => ?_
   -- region 8 (law.go:117)
   refine Tr.rg hcx [1000165] [some 105, some 106, some 107, some 108, some 109, some 110, some 111, some 112, some 113, some 114, some 115, some 116, some 117, some 118, some 119, some 120, some 121, some 122, some 123, some 124, some 125, some 126, some 127, some 128, some 129, some 130, some 131, some 132, some 133, some 134, some 135, some 136, some 137, some 138, some 139, some 140, some 141, some 142, some 143, some 144, some 145, some 146, some 147, some 148, some 149, some 150, some 151, some 152, some 153, some 154, some 155, some 156, some 157, some 158, some 159, some 160, some 161, some 162, some 163, some 164, some 165, some 10] [] rfl rfl rfl ?_
   simp -implicitDefEqProofs (maxSteps := 2000000) (disch := first | omega | (simp only [go_sem, List.length_append, List.length_drop, List.length_take, hb1] <;> omega) | decide) only [go_sem, ↓reduceIte, Nat.reduceEqDiff, reduceCtorEq, Nat.reduceLT, Nat.reduceBEq, Nat.reduceAdd, Nat.reduceSub, Nat.reduceMul, Nat.reduceMod, Int.reduceMod, Int.reduceToNat, Int.reduceNeg, h11, h12, h16, h20, h22, h26, h28, h30, h31, h33, h34, h36, eq_self, decide_true, slf28, hbig, hfew]
   refine hK10 _ ?_
   clear hK10 K10
   refine Tr.kp [10] ?_
   simp only [pk_cons, pk_nil, ↓A_cons, ↓reduceIte, Nat.reduceEqDiff, reduceCtorEq]
   refine Tr.ret ?_
   simp -implicitDefEqProofs (disch := first | omega | (simp only [go_sem, List.length_append, List.length_drop, List.length_take, hb1] <;> omega) | decide) only [go_sem, ↓reduceIte, Nat.reduceEqDiff, reduceCtorEq]
  ·
   have hb2 := True.intro
   -- region 1 (law.go:109)
   refine Tr.rg hcx [] [some 27, some 28, some 29, some 30, some 31, some 32, some 33, some 34, some 35, some 36, some 37, some 38, some 39, some 40, some 41, some 42, some 43] [] rfl rfl rfl ?_
   simp -implicitDefEqProofs (maxSteps := 2000000) (disch := first | omega | (simp only [go_sem, List.length_append, List.length_drop, List.length_take, hb1] <;> omega) | decide) only [go_sem, ↓reduceIte, Nat.reduceEqDiff, reduceCtorEq, Nat.reduceLT, Nat.reduceBEq, Nat.reduceAdd, Nat.reduceSub, Nat.reduceMul, Nat.reduceMod, Int.reduceMod, Int.reduceToNat, Int.reduceNeg, h11, h12, h16, h20, h22, h26, h28, h30, h31, h33, h34, h36, eq_self, decide_true, slf28, hbig, hfew]
   refine hK3 _ ?_
   clear hK3 K3
   refine Tr.kp [0, 1, 2, 3, 4, 43] ?_
   simp only [pk_cons, pk_nil, ↓A_cons, ↓reduceIte, Nat.reduceEqDiff, reduceCtorEq]
   refine Tr.condG fun KT KF hT hF => ?_
   simp only [ev_tmp, ev_const, ↓A_cons, ↓reduceIte, Nat.reduceEqDiff, reduceCtorEq, condG_bool, GB_true, GB_false, decide_eq_true_eq]
   refine hT ?_
   clear hT hF KT KF
   refine Tr.seqK fun K11 hK11 => ?_
   -- region 2 (law.go:110)
   refine Tr.rg hcx [1000044] _ [] rfl rfl rfl ?_
   simp -implicitDefEqProofs (maxSteps := 2000000) (disch := first | omega | (simp only [go_sem, List.length_append, List.length_drop, List.length_take, hb1] <;> omega) | decide) only [go_sem, ↓reduceIte, Nat.reduceEqDiff, reduceCtorEq, Nat.reduceLT, Nat.reduceBEq, Nat.reduceAdd, Nat.reduceSub, Nat.reduceMul, Nat.reduceMod, Int.reduceMod, Int.reduceToNat, Int.reduceNeg, h11, h12, h16, h20, h22, h26, h28, h30, h31, h33, h34, h36, eq_self, decide_true, slf28, hbig, hfew]
   refine hK11 _ ?_
   clear hK11 K11
   refine Tr.kp [10] ?_
   simp only [pk_cons, pk_nil, ↓A_cons, ↓reduceIte, Nat.reduceEqDiff, reduceCtorEq]
   refine Tr.ret ?_
   simp -implicitDefEqProofs (disch := first | omega | (simp only [go_sem, List.length_append, List.length_drop, List.length_take, hb1] <;> omega) | decide) only [go_sem, ↓reduceIte, Nat.reduceEqDiff, reduceCtorEq]

end Go.Sx

namespace Go.Sx
open Go.RowKit Go.Proofs


set_option maxRecDepth 100000 in
set_option maxHeartbeats 8000000 in
theorem fc37a {gl : Nat → C} {M : Nat} {pu : Nat → List C → Option C}  (hcx : CxOK (cxP gl M pu)) (h13 : ∀ x y : List UInt8, x.length < 9223372036854775807 → pu 13 [sl bC .no x, sl bC .no y] = some (.val (.bool (decide (x = y))))) (c : List UInt8) (u : Nat) (b : List UInt8) (hb : b.length < 1099511627776) (hc : c.length < 1099511627776) (hu : u ≤ b.length) (hcu : b.take u = c) : FC Try.prog gl 37 [sl bC .no c, .val (nI u), .val (nI 0), .kp [sl bC .no b]] [] (.val (.bool true)) [] := by
 replace hcx := hcx.reN (M := 31)
 refine FC.ofA (cx := cxP gl 31 pu) (rs := [.tmp 7]) rfl Try.func37 rfl rfl rfl (by simp only [List.length_cons, List.length_nil]; decide) (by simp only [go_sem]) ?_
 simp only [ini, go_sem]
 have hb1 := True.intro
 have hmx : min u b.length = u := Nat.min_eq_left hu
 have hk : max 0 u = u := Nat.max_eq_right (Nat.zero_le _)
 have hu1 : decide (u ≤ b.length) = true := decide_eq_true hu
 refine Tr.seqK fun K1 hK1 => ?_
 -- region 0 (law.go:96)
 refine Tr.rg hcx [] _ [] rfl rfl rfl ?_
 simp -implicitDefEqProofs (maxSteps := 2000000) (disch := first | omega | (simp only [go_sem, List.length_append, List.length_drop, List.length_take, hb1] <;> omega) | decide) only [go_sem, ↓reduceIte, Nat.reduceEqDiff, reduceCtorEq, Nat.reduceLT, Nat.reduceBEq, Nat.reduceAdd, Nat.reduceSub, Nat.reduceMul, Nat.reduceMod, Int.reduceMod, Int.reduceToNat, Int.reduceNeg, h13, eq_self, decide_true, Nat.zero_le, hmx, hk, hu1, hcu, ne_eq, not_true_eq_false, decide_false]
 refine hK1 _ ?_
 clear hK1 K1
 refine Tr.kp [0, 1, 2, 3] ?_
 simp only [pk_cons, pk_nil, ↓A_cons, ↓reduceIte, Nat.reduceEqDiff, reduceCtorEq]
 refine Tr.seqK fun K2 hK2 => ?_
 -- region 1 (law.go:97)
 refine Tr.rg hcx [1000030] [some 8, some 9, some 10, some 11, some 12, some 13, some 14, some 15, some 16, some 17, some 18, some 19, some 20, some 21, some 22, some 23, some 24, some 25, some 26, some 27, some 28, some 29, some 30, some 7] [] rfl rfl rfl ?_
 simp -implicitDefEqProofs (maxSteps := 2000000) (disch := first | omega | (simp only [go_sem, List.length_append, List.length_drop, List.length_take, hb1] <;> omega) | decide) only [go_sem, ↓reduceIte, Nat.reduceEqDiff, reduceCtorEq, Nat.reduceLT, Nat.reduceBEq, Nat.reduceAdd, Nat.reduceSub, Nat.reduceMul, Nat.reduceMod, Int.reduceMod, Int.reduceToNat, Int.reduceNeg, h13, eq_self, decide_true, Nat.zero_le, hmx, hk, hu1, hcu, ne_eq, not_true_eq_false, decide_false]
 refine hK2 _ ?_
 clear hK2 K2
 refine Tr.kp [7] ?_
 simp only [pk_cons, pk_nil, ↓A_cons, ↓reduceIte, Nat.reduceEqDiff, reduceCtorEq]
 refine Tr.ret ?_
 simp -implicitDefEqProofs (disch := first | omega | (simp only [go_sem, List.length_append, List.length_drop, List.length_take, hb1] <;> omega) | decide) only [go_sem, ↓reduceIte, Nat.reduceEqDiff, reduceCtorEq]

set_option maxRecDepth 100000 in
set_option maxHeartbeats 8000000 in
theorem fc37b {gl : Nat → C} {M : Nat} {pu : Nat → List C → Option C}  (hcx : CxOK (cxP gl M pu)) (c : List UInt8) (u k : Nat) (b : List UInt8) : FC Try.prog gl 37 [sl bC .no c, .val (nI u), .val (nI (k + 1)), .kp [sl bC .no b]] [] (.val (.bool true)) [] := by
 replace hcx := hcx.reN (M := 31)
 refine FC.ofA (cx := cxP gl 31 pu) (rs := [.tmp 7]) rfl Try.func37 rfl rfl rfl (by simp only [List.length_cons, List.length_nil]; decide) (by simp only [go_sem]) ?_
 simp only [ini, go_sem]
 have hb1 := True.intro
 have hd1 : (k + 1 = 0) = False := eq_false (Nat.succ_ne_zero k)
 refine Tr.seqK fun K1 hK1 => ?_
 -- region 0 (law.go:96)
 refine Tr.rg hcx [] _ [] rfl rfl rfl ?_
 simp -implicitDefEqProofs (maxSteps := 2000000) (disch := first | omega | (simp only [go_sem, List.length_append, List.length_drop, List.length_take, hb1] <;> omega) | decide) only [go_sem, ↓reduceIte, Nat.reduceEqDiff, reduceCtorEq, Nat.reduceLT, Nat.reduceBEq, Nat.reduceAdd, Nat.reduceSub, Nat.reduceMul, Nat.reduceMod, Int.reduceMod, Int.reduceToNat, Int.reduceNeg, hd1, not_false_eq_true, decide_true, not_true_eq_false, decide_false]
 refine hK1 _ ?_
 clear hK1 K1
 refine Tr.kp [0, 1, 2, 3] ?_
 simp only [pk_cons, pk_nil, ↓A_cons, ↓reduceIte, Nat.reduceEqDiff, reduceCtorEq]
 refine Tr.seqK fun K2 hK2 => ?_
 -- region 1 (law.go:97)
 refine Tr.rg hcx [1000030] [some 8, some 9, some 10, some 11, some 12, some 13, some 14, some 15, some 16, some 17, some 18, some 19, some 20, some 21, some 22, some 23, some 24, some 25, some 26, some 27, some 28, some 29, some 30, some 7] [] rfl rfl rfl ?_
 simp -implicitDefEqProofs (maxSteps := 2000000) (disch := first | omega | (simp only [go_sem, List.length_append, List.length_drop, List.length_take, hb1] <;> omega) | decide) only [go_sem, ↓reduceIte, Nat.reduceEqDiff, reduceCtorEq, Nat.reduceLT, Nat.reduceBEq, Nat.reduceAdd, Nat.reduceSub, Nat.reduceMul, Nat.reduceMod, Int.reduceMod, Int.reduceToNat, Int.reduceNeg, hd1, not_false_eq_true, decide_true, not_true_eq_false, decide_false]
 refine hK2 _ ?_
 clear hK2 K2
 refine Tr.kp [7] ?_
 simp only [pk_cons, pk_nil, ↓A_cons, ↓reduceIte, Nat.reduceEqDiff, reduceCtorEq]
 refine Tr.ret ?_
 simp -implicitDefEqProofs (disch := first | omega | (simp only [go_sem, List.length_append, List.length_drop, List.length_take, hb1] <;> omega) | decide) only [go_sem, ↓reduceIte, Nat.reduceEqDiff, reduceCtorEq]

end Go.Sx
