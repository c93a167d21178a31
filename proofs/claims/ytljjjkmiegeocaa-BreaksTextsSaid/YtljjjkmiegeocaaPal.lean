/-
  Package breaks: Cost. And what follows.
-/
import Derived.Test.YtljjjkmiegeocaaPak
set_option linter.unusedSimpArgs false
set_option linter.unusedVariables false
namespace Go.Sx
open Go.RowKit Go.Proofs
theorem sl3_22 (l : List Int) : slicePlan Try.prog 22 (sl iC .no l) none (some (.val (nI l.length))) (some (.val (nI l.length))) = some (vp (sl iC .full l)) := by
  have hl := cl_len (f := iC) l
  have e : (C.val (nI l.length)).int? = some (.i64, (l.length : Int)) := rfl
  unfold slicePlan
  rw [td22]
  simp only [sl, C.sl?, td3]
  rw [if_pos ⟨hl, .inr rfl⟩]
  simp only [bound?, e, Int.natCast_nonneg, Int.le_refl, true_and, and_self, if_true, Int.toNat_natCast, Option.isSome_some, Nat.sub_zero, Nat.zero_mul, List.drop_zero, Nat.mul_one]
  rw [List.take_of_length_le (by omega)]
  rfl
set_option maxRecDepth 100000 in
set_option maxHeartbeats 8000000 in
theorem fc21 {gl : Nat → C} {M : Nat} {pu : Nat → List C → Option C}  (hcx : CxOK (cxP gl M pu)) (h37 : ∀ (l : List Int) (b w : Int), LI l → (-9223372036854775808 ≤ b ∧ b ≤ 9223372036854775807) → (-9223372036854775808 ≤ w ∧ w ≤ 9223372036854775807) → Fine l b w → pu 37 [sl iC .no l, .val (.int .i64 b), .val (.int .i64 w)] = some (.tup [.agg [sl iC .no (sumsL l b l.length), .val (.int .i64 b), .val (.int .i64 w)], .val (nI 0)])) (h37e : ∀ (l : List Int) (b w : Int), LI l → (-9223372036854775808 ≤ b ∧ b ≤ 9223372036854775807) → (-9223372036854775808 ≤ w ∧ w ≤ 9223372036854775807) → errE l b w ≠ 0 → pu 37 [sl iC .no l, .val (.int .i64 b), .val (.int .i64 w)] = some (.tup [.agg [.val (.slice none 0 0), .val (nI 0), .val (nI 0)], .val (nI (errE l b w))])) (h38 : ∀ (S : List Int) (b w : Int), Col S b w → pu 38 [.agg [sl iC .no S, .val (.int .i64 b), .val (.int .i64 w)]] = some (.val (nI (S.length - 1)))) (h39 : ∀ (S : List Int) (b w i j : Int), Col S b w → 0 ≤ i ∧ i < S.length ∧ 0 ≤ j ∧ j < S.length → pu 39 [.agg [sl iC .no S, .val (.int .i64 b), .val (.int .i64 w)], .val (.int .i64 i), .val (.int .i64 j)] = some (.val (.int .i64 (freS S b w i j)))) (h40 : ∀ (S : List Int) (b w i j : Int), Col S b w → 0 ≤ i ∧ i < S.length ∧ 0 ≤ j ∧ j < S.length → pu 40 [.agg [sl iC .no S, .val (.int .i64 b), .val (.int .i64 w)], .val (.int .i64 i), .val (.int .i64 j)] = some (.val (.int .i64 (priS S b w i j)))) (l : List Int) (b w : Int) (hl : LI l) (hb : -9223372036854775808 ≤ b ∧ b ≤ 9223372036854775807) (hw : -9223372036854775808 ≤ w ∧ w ≤ 9223372036854775807) (e : List Int) (he : LI e) : FC Try.prog gl 21 [sl iC .no l, .val (.int .i64 b), .val (.int .i64 w), sl iC .no e] [] (.tup [.val (nI (costT l b w e).1), .val (.int .i64 (costT l b w e).2.1), .val (nI (costT l b w e).2.2)]) [] := by
 replace hcx := hcx.reN (M := 72)
 refine FC.ofA (cx := cxP gl 72 pu) (rs := [.tmp 8, .tmp 9, .tmp 10]) rfl Try.func21 rfl rfl rfl (by simp only [List.length_cons, List.length_nil]; decide) (by simp only [go_sem]) ?_
 simp only [ini, go_sem]
 have hl1 := hl.1
 have he1 := he.1
 refine Tr.seqK fun K1 hK1 => ?_
 refine Tr.rg hcx [] _ [] rfl rfl rfl ?_
 simp -implicitDefEqProofs (maxSteps := 2000000) (disch := first | omega | (simp only [go_sem, List.length_append, List.length_drop, List.length_take] <;> omega) | decide) only [go_sem, ↓reduceIte, Nat.reduceEqDiff, reduceCtorEq, Nat.reduceLT, Nat.reduceBEq, Nat.reduceAdd, Nat.reduceSub, Nat.reduceMul, Nat.reduceMod, sl3_22]
 refine hK1 _ ?_
 clear hK1 K1
 refine Tr.kp [0, 1, 2, 3] ?_
 simp only [pk_cons, pk_nil, ↓A_cons, ↓reduceIte, Nat.reduceEqDiff]
 refine Tr.seqK fun K2 hK2 => ?_
 by_cases b0 : errE l b w = 0
 ·
  have hF := errE_0.1 b0
  have h37' := h37 l b w hl hb hw hF
  have hF1 := hF.1
  have hcol := fine_col hF
  have hSl := sumsL_len l b l.length
  have h38' := h38 (sumsL l b l.length) b w hcol
  refine Tr.rg hcx [1000026] _ [none] rfl rfl rfl ?_
  simp -implicitDefEqProofs (maxSteps := 2000000) (disch := first | omega | (simp only [go_sem, List.length_append, List.length_drop, List.length_take] <;> omega) | decide) only [go_sem, ↓reduceIte, Nat.reduceEqDiff, reduceCtorEq, Nat.reduceLT, Nat.reduceBEq, Nat.reduceAdd, Nat.reduceSub, Nat.reduceMul, Nat.reduceMod, sl3_22, b0, h37']
  refine hK2 _ ?_
  clear hK2 K2
  refine Tr.kp [3, 11, 12] ?_
  simp only [pk_cons, pk_nil, ↓A_cons, ↓reduceIte, Nat.reduceEqDiff]
  refine Tr.seqK fun K3 hK3 => ?_
  refine Tr.seqK fun K4 hK4 => ?_
  refine Tr.rg hcx [] _ [] rfl rfl rfl ?_
  simp -implicitDefEqProofs (maxSteps := 2000000) (disch := first | omega | (simp only [go_sem, List.length_append, List.length_drop, List.length_take] <;> omega) | decide) only [go_sem, ↓reduceIte, Nat.reduceEqDiff, reduceCtorEq, Nat.reduceLT, Nat.reduceBEq, Nat.reduceAdd, Nat.reduceSub, Nat.reduceMul, Nat.reduceMod, sl3_22, b0]
  refine hK4 _ ?_
  clear hK4 K4
  refine Tr.kp [3, 11, 12, 28] ?_
  simp only [pk_cons, pk_nil, ↓A_cons, ↓reduceIte, Nat.reduceEqDiff]
  refine Tr.condG fun KT KF hT hF => ?_
  simp only [ev_tmp, ev_const, ↓A_cons, ↓reduceIte, Nat.reduceEqDiff, reduceCtorEq, condG_bool, GB_true, GB_false, decide_eq_true_eq]
  refine hF ?_
  clear hT hF KT KF
  refine Tr.skip ?_
  refine hK3 _ ?_
  clear hK3 K3
  refine Tr.kp [3, 11] ?_
  simp only [pk_cons, pk_nil, ↓A_cons, ↓reduceIte, Nat.reduceEqDiff]
  refine Tr.seqK fun K5 hK5 => ?_
  refine Tr.rg hcx [] _ [] rfl rfl rfl ?_
  simp -implicitDefEqProofs (maxSteps := 2000000) (disch := first | omega | (simp only [go_sem, List.length_append, List.length_drop, List.length_take] <;> omega) | decide) only [go_sem, ↓reduceIte, Nat.reduceEqDiff, reduceCtorEq, Nat.reduceLT, Nat.reduceBEq, Nat.reduceAdd, Nat.reduceSub, Nat.reduceMul, Nat.reduceMod, sl3_22, b0]
  refine hK5 _ ?_
  clear hK5 K5
  refine Tr.kp [3, 11, 13] ?_
  simp only [pk_cons, pk_nil, ↓A_cons, ↓reduceIte, Nat.reduceEqDiff]
  refine Tr.seqK fun K6 hK6 => ?_
  refine Tr.seqK fun K7 hK7 => ?_
  refine Tr.rg hcx [] _ [] rfl rfl rfl ?_
  simp -implicitDefEqProofs (maxSteps := 2000000) (disch := first | omega | (simp only [go_sem, List.length_append, List.length_drop, List.length_take] <;> omega) | decide) only [go_sem, ↓reduceIte, Nat.reduceEqDiff, reduceCtorEq, Nat.reduceLT, Nat.reduceBEq, Nat.reduceAdd, Nat.reduceSub, Nat.reduceMul, Nat.reduceMod, sl3_22, b0]
  refine hK7 _ ?_
  clear hK7 K7
  refine Tr.kp [3, 11, 13, 30, 31, 32] ?_
  simp only [pk_cons, pk_nil, ↓A_cons, ↓reduceIte, Nat.reduceEqDiff]
  refine Tr.blk ?_
  refine Tr.loopI (α := Nat) (fun a => [(3, ?v3_18), (11, ?v11_18), (13, .val (.int .i64 (prevE e a))), (30, ?v30_18), (31, ?v31_18), (32, .val (nI a))]) (fun a => ?h_18) (fun a => a ≤ e.length ∧ ∀ j, j < a → prevE e j < gt e j) (fun a => e.length - a) (0) ⟨Nat.zero_le _, fun j hj => absurd hj (Nat.not_lt_zero j)⟩ ?le_18 ?hh_18 ?bd_18
  case hh_18 => exact rfl
  case le_18 => (simp only [Le_nil, Le_cons, ↓A_cons, ↓reduceIte, Nat.reduceEqDiff, reduceCtorEq, CLe_refl, CLe_top, CLe_full, CLe_nil, CLe_own, and_true, true_and]; all_goals (repeat' first | exact CLe.refl _ | exact True.intro | (refine CLe_sln ?_; first | with_reducible rfl | (simp only [List.take_zero]; done) | (rfl; done)) | exact CLe_nI (by omega) | exact CLe_int (by omega) | exact CLe_inI (by omega) | exact CLe_nIi (by omega) | with_reducible apply And.intro)); all_goals exact CLe.refl _
  case bd_18 =>
   rintro i ⟨hi, hA⟩
   refine Tr.seqK fun K8 hK8 => ?_
   refine Tr.rg hcx [] _ [] rfl rfl rfl ?_
   simp -implicitDefEqProofs (maxSteps := 2000000) (disch := first | omega | (simp only [go_sem, List.length_append, List.length_drop, List.length_take] <;> omega) | decide) only [go_sem, ↓reduceIte, Nat.reduceEqDiff, reduceCtorEq, Nat.reduceLT, Nat.reduceBEq, Nat.reduceAdd, Nat.reduceSub, Nat.reduceMul, Nat.reduceMod, sl3_22, b0]
   refine hK8 _ ?_
   clear hK8 K8
   refine Tr.kp [3, 11, 13, 30, 31, 32, 33] ?_
   simp only [pk_cons, pk_nil, ↓A_cons, ↓reduceIte, Nat.reduceEqDiff]
   refine Tr.seqK fun K9 hK9 => ?_
   refine Tr.condG fun KT KF hT hF => ?_
   simp only [ev_tmp, ev_const, ↓A_cons, ↓reduceIte, Nat.reduceEqDiff, reduceCtorEq, condG_bool, GB_true, GB_false, decide_eq_true_eq]
   refine GB.dec (fun hc33 => hT ?_) (fun hc33 => hF ?_)
   ·
    clear hT hF KT KF
    have heb := he.2 i hc33
    refine Tr.skip ?_
    refine hK9 _ ?_
    clear hK9 K9
    refine Tr.kp [3, 11, 13, 30, 31, 32] ?_
    simp only [pk_cons, pk_nil, ↓A_cons, ↓reduceIte, Nat.reduceEqDiff]
    refine Tr.seqK fun K10 hK10 => ?_
    refine Tr.blk ?_
    refine Tr.seqK fun K11 hK11 => ?_
    refine Tr.rg hcx [1000035] _ [] rfl rfl rfl ?_
    simp -implicitDefEqProofs (maxSteps := 2000000) (disch := first | omega | (simp only [go_sem, List.length_append, List.length_drop, List.length_take] <;> omega) | decide) only [go_sem, ↓reduceIte, Nat.reduceEqDiff, reduceCtorEq, Nat.reduceLT, Nat.reduceBEq, Nat.reduceAdd, Nat.reduceSub, Nat.reduceMul, Nat.reduceMod, sl3_22, b0]
    refine hK11 _ ?_
    clear hK11 K11
    refine Tr.kp [3, 11, 13, 15, 30, 31, 32] ?_
    simp only [pk_cons, pk_nil, ↓A_cons, ↓reduceIte, Nat.reduceEqDiff]
    refine Tr.seqK fun K12 hK12 => ?_
    refine Tr.seqK fun K13 hK13 => ?_
    refine Tr.rg hcx [] _ [] rfl rfl rfl ?_
    simp -implicitDefEqProofs (maxSteps := 2000000) (disch := first | omega | (simp only [go_sem, List.length_append, List.length_drop, List.length_take] <;> omega) | decide) only [go_sem, ↓reduceIte, Nat.reduceEqDiff, reduceCtorEq, Nat.reduceLT, Nat.reduceBEq, Nat.reduceAdd, Nat.reduceSub, Nat.reduceMul, Nat.reduceMod, sl3_22, b0]
    refine hK13 _ ?_
    clear hK13 K13
    refine Tr.kp [3, 11, 15, 30, 31, 32, 38] ?_
    simp only [pk_cons, pk_nil, ↓A_cons, ↓reduceIte, Nat.reduceEqDiff]
    refine Tr.condG fun KT KF hT hF => ?_
    simp only [ev_tmp, ev_const, ↓A_cons, ↓reduceIte, Nat.reduceEqDiff, reduceCtorEq, condG_bool, GB_true, GB_false, decide_eq_true_eq]
    refine GB.dec (fun hc38 => hT ?_) (fun hc38 => hF ?_)
    ·
     clear hT hF KT KF
     have hcL := hc33
     have hcE := hc38
     refine Tr.seqK fun K14 hK14 => ?_
     refine Tr.rg hcx [] _ [] rfl rfl rfl ?_
     simp -implicitDefEqProofs (maxSteps := 2000000) (disch := first | omega | (simp only [go_sem, List.length_append, List.length_drop, List.length_take] <;> omega) | decide) only [go_sem, ↓reduceIte, Nat.reduceEqDiff, reduceCtorEq, Nat.reduceLT, Nat.reduceBEq, Nat.reduceAdd, Nat.reduceSub, Nat.reduceMul, Nat.reduceMod, sl3_22, b0]
     refine hK14 _ ?_
     clear hK14 K14
     refine Tr.kp [8, 9, 10] ?_
     simp only [pk_cons, pk_nil, ↓A_cons, ↓reduceIte, Nat.reduceEqDiff]
     refine Tr.ret ?_
     simp -implicitDefEqProofs (disch := first | omega | (simp only [go_sem, List.length_append, List.length_drop, List.length_take] <;> omega) | decide) only [go_sem, ↓reduceIte, Nat.reduceEqDiff, reduceCtorEq]
     all_goals (first | (rw [costT_e b0]; rfl) | (rw [costT_5a b0 hcL hcE]; rfl) | (rw [costT_5b b0 (by omega)]; rfl) | (rw [costT_21 b0 hA (by omega) hcM hcW]; rfl) | (rw [costT_0 b0 hA (by omega) hB]; done) | (rw [costT_0 b0 hA (by omega) hB]; rfl))
    ·
     clear hT hF KT KF
     refine Tr.skip ?_
     refine hK12 _ ?_
     clear hK12 K12
     refine Tr.kp [3, 11, 15, 30, 31, 32] ?_
     simp only [pk_cons, pk_nil, ↓A_cons, ↓reduceIte, Nat.reduceEqDiff]
     refine Tr.rg hcx [1000039] _ [] rfl rfl rfl ?_
     simp -implicitDefEqProofs (maxSteps := 2000000) (disch := first | omega | (simp only [go_sem, List.length_append, List.length_drop, List.length_take] <;> omega) | decide) only [go_sem, ↓reduceIte, Nat.reduceEqDiff, reduceCtorEq, Nat.reduceLT, Nat.reduceBEq, Nat.reduceAdd, Nat.reduceSub, Nat.reduceMul, Nat.reduceMod, sl3_22, b0]
     refine hK10 _ ?_
     clear hK10 K10
     refine Tr.kp [3, 11, 13, 30, 31, 32] ?_
     simp only [pk_cons, pk_nil, ↓A_cons, ↓reduceIte, Nat.reduceEqDiff]
     refine Tr.rg hcx [] _ [] rfl rfl rfl ?_
     simp -implicitDefEqProofs (maxSteps := 2000000) (disch := first | omega | (simp only [go_sem, List.length_append, List.length_drop, List.length_take] <;> omega) | decide) only [go_sem, ↓reduceIte, Nat.reduceEqDiff, reduceCtorEq, Nat.reduceLT, Nat.reduceBEq, Nat.reduceAdd, Nat.reduceSub, Nat.reduceMul, Nat.reduceMod, sl3_22, b0]
     refine ⟨i + 1, ⟨⟨by omega, fun j hj => (Nat.lt_or_eq_of_le (Nat.le_of_lt_succ hj)).elim (hA j) (fun q => q ▸ (by omega))⟩, by first | omega | (simp only []; omega)⟩, ?_, rfl⟩
     (simp only [Le_nil, Le_cons, ↓A_cons, ↓reduceIte, Nat.reduceEqDiff, reduceCtorEq, CLe_refl, CLe_top, CLe_full, CLe_nil, CLe_own, and_true, true_and]; all_goals (repeat' first | exact CLe.refl _ | exact True.intro | (refine CLe_sln ?_; first | with_reducible rfl | (simp only [List.take_zero]; done) | (rfl; done)) | exact CLe_nI (by omega) | exact CLe_int (by omega) | exact CLe_inI (by omega) | exact CLe_nIi (by omega) | with_reducible apply And.intro))
     all_goals (rw [prevE_S]; exact CLe.refl _)
   ·
    clear hT hF KT KF
    obtain rfl : i = e.length := by omega
    refine Tr.exit ?_
    refine hK6 _ ?_
    clear hK9 K9 hK6 K6
    refine Tr.kp [3, 11, 13] ?_
    simp only [pk_cons, pk_nil, ↓A_cons, ↓reduceIte, Nat.reduceEqDiff]
    refine Tr.seqK fun K15 hK15 => ?_
    refine Tr.seqK fun K16 hK16 => ?_
    refine Tr.rg hcx [] _ [] rfl rfl rfl ?_
    simp -implicitDefEqProofs (maxSteps := 2000000) (disch := first | omega | (simp only [go_sem, List.length_append, List.length_drop, List.length_take] <;> omega) | decide) only [go_sem, ↓reduceIte, Nat.reduceEqDiff, reduceCtorEq, Nat.reduceLT, Nat.reduceBEq, Nat.reduceAdd, Nat.reduceSub, Nat.reduceMul, Nat.reduceMod, sl3_22, b0, h38']
    refine hK16 _ ?_
    clear hK16 K16
    refine Tr.kp [3, 11, 44] ?_
    simp only [pk_cons, pk_nil, ↓A_cons, ↓reduceIte, Nat.reduceEqDiff]
    refine Tr.condG fun KT KF hT hF => ?_
    simp only [ev_tmp, ev_const, ↓A_cons, ↓reduceIte, Nat.reduceEqDiff, reduceCtorEq, condG_bool, GB_true, GB_false, decide_eq_true_eq]
    refine GB.dec (fun hc44 => hT ?_) (fun hc44 => hF ?_)
    ·
     clear hT hF KT KF
     refine Tr.seqK fun K17 hK17 => ?_
     refine Tr.rg hcx [] _ [] rfl rfl rfl ?_
     simp -implicitDefEqProofs (maxSteps := 2000000) (disch := first | omega | (simp only [go_sem, List.length_append, List.length_drop, List.length_take] <;> omega) | decide) only [go_sem, ↓reduceIte, Nat.reduceEqDiff, reduceCtorEq, Nat.reduceLT, Nat.reduceBEq, Nat.reduceAdd, Nat.reduceSub, Nat.reduceMul, Nat.reduceMod, sl3_22, b0]
     refine hK17 _ ?_
     clear hK17 K17
     refine Tr.kp [8, 9, 10] ?_
     simp only [pk_cons, pk_nil, ↓A_cons, ↓reduceIte, Nat.reduceEqDiff]
     refine Tr.ret ?_
     simp -implicitDefEqProofs (disch := first | omega | (simp only [go_sem, List.length_append, List.length_drop, List.length_take] <;> omega) | decide) only [go_sem, ↓reduceIte, Nat.reduceEqDiff, reduceCtorEq]
     all_goals (first | (rw [costT_e b0]; rfl) | (rw [costT_5a b0 hcL hcE]; rfl) | (rw [costT_5b b0 (by omega)]; rfl) | (rw [costT_21 b0 hA (by omega) hcM hcW]; rfl) | (rw [costT_0 b0 hA (by omega) hB]; done) | (rw [costT_0 b0 hA (by omega) hB]; rfl))
    ·
     clear hT hF KT KF
     have hlast : prevE e e.length = (l.length : Int) := by omega
     refine Tr.skip ?_
     refine hK15 _ ?_
     clear hK15 K15
     refine Tr.kp [3, 11] ?_
     simp only [pk_cons, pk_nil, ↓A_cons, ↓reduceIte, Nat.reduceEqDiff]
     refine Tr.seqK fun K18 hK18 => ?_
     refine Tr.rg hcx [] _ [] rfl rfl rfl ?_
     simp -implicitDefEqProofs (maxSteps := 2000000) (disch := first | omega | (simp only [go_sem, List.length_append, List.length_drop, List.length_take] <;> omega) | decide) only [go_sem, ↓reduceIte, Nat.reduceEqDiff, reduceCtorEq, Nat.reduceLT, Nat.reduceBEq, Nat.reduceAdd, Nat.reduceSub, Nat.reduceMul, Nat.reduceMod, sl3_22, b0]
     refine hK18 _ ?_
     clear hK18 K18
     refine Tr.kp [3, 11, 16, 17] ?_
     simp only [pk_cons, pk_nil, ↓A_cons, ↓reduceIte, Nat.reduceEqDiff]
     refine Tr.seqK fun K19 hK19 => ?_
     refine Tr.seqK fun K20 hK20 => ?_
     refine Tr.rg hcx [] _ [] rfl rfl rfl ?_
     simp -implicitDefEqProofs (maxSteps := 2000000) (disch := first | omega | (simp only [go_sem, List.length_append, List.length_drop, List.length_take] <;> omega) | decide) only [go_sem, ↓reduceIte, Nat.reduceEqDiff, reduceCtorEq, Nat.reduceLT, Nat.reduceBEq, Nat.reduceAdd, Nat.reduceSub, Nat.reduceMul, Nat.reduceMod, sl3_22, b0]
     refine hK20 _ ?_
     clear hK20 K20
     refine Tr.kp [3, 11, 16, 17, 50, 51, 52] ?_
     simp only [pk_cons, pk_nil, ↓A_cons, ↓reduceIte, Nat.reduceEqDiff]
     refine Tr.blk ?_
     refine Tr.loopI (α := Nat) (fun a => [(3, ?v3_53), (11, ?v11_53), (16, .val (.int .i64 (sumC l b w e a))), (17, .val (.int .i64 (prevE e a))), (50, ?v50_53), (51, ?v51_53), (52, .val (nI a))]) (fun a => ?h_53) (fun a => a ≤ e.length ∧ ∀ j, j < a → 0 ≤ freR l b w (prevE e j) (gt e j)) (fun a => e.length - a) (0) ⟨Nat.zero_le _, fun j hj => absurd hj (Nat.not_lt_zero j)⟩ ?le_53 ?hh_53 ?bd_53
     case hh_53 => exact rfl
     case le_53 => (simp only [Le_nil, Le_cons, ↓A_cons, ↓reduceIte, Nat.reduceEqDiff, reduceCtorEq, CLe_refl, CLe_top, CLe_full, CLe_nil, CLe_own, and_true, true_and]; all_goals (repeat' first | exact CLe.refl _ | exact True.intro | (refine CLe_sln ?_; first | with_reducible rfl | (simp only [List.take_zero]; done) | (rfl; done)) | exact CLe_nI (by omega) | exact CLe_int (by omega) | exact CLe_inI (by omega) | exact CLe_nIi (by omega) | with_reducible apply And.intro)); all_goals exact CLe.refl _
     case bd_53 =>
      rintro i ⟨hi, hB⟩
      refine Tr.seqK fun K21 hK21 => ?_
      refine Tr.rg hcx [] _ [] rfl rfl rfl ?_
      simp -implicitDefEqProofs (maxSteps := 2000000) (disch := first | omega | (simp only [go_sem, List.length_append, List.length_drop, List.length_take] <;> omega) | decide) only [go_sem, ↓reduceIte, Nat.reduceEqDiff, reduceCtorEq, Nat.reduceLT, Nat.reduceBEq, Nat.reduceAdd, Nat.reduceSub, Nat.reduceMul, Nat.reduceMod, sl3_22, b0]
      refine hK21 _ ?_
      clear hK21 K21
      refine Tr.kp [3, 11, 16, 17, 50, 51, 52, 53] ?_
      simp only [pk_cons, pk_nil, ↓A_cons, ↓reduceIte, Nat.reduceEqDiff]
      refine Tr.seqK fun K22 hK22 => ?_
      refine Tr.condG fun KT KF hT hF => ?_
      simp only [ev_tmp, ev_const, ↓A_cons, ↓reduceIte, Nat.reduceEqDiff, reduceCtorEq, condG_bool, GB_true, GB_false, decide_eq_true_eq]
      refine GB.dec (fun hc53 => hT ?_) (fun hc53 => hF ?_)
      ·
       clear hT hF KT KF
       obtain ⟨q1, q2, q3, q4⟩ := ends_in hA hlast i hc53
       have heb := he.2 i hc53
       have h39' := (h39 (sumsL l b l.length) b w (prevE e i) (gt e i) hcol ⟨by omega, by omega, by omega, by omega⟩).trans (congrArg (fun z => some (C.val (.int .i64 z))) (freS_R q1 q2 q3))
       have h40' := (h40 (sumsL l b l.length) b w (prevE e i) (gt e i) hcol ⟨by omega, by omega, by omega, by omega⟩).trans (congrArg (fun z => some (C.val (.int .i64 z))) (priS_R q1 q2 q3))
       have hpb := priR_b hF q1 q3
       have hsb := sumC_b hF hA hlast i hi
       refine Tr.skip ?_
       refine hK22 _ ?_
       clear hK22 K22
       refine Tr.kp [3, 11, 16, 17, 50, 51, 52] ?_
       simp only [pk_cons, pk_nil, ↓A_cons, ↓reduceIte, Nat.reduceEqDiff]
       refine Tr.seqK fun K23 hK23 => ?_
       refine Tr.blk ?_
       refine Tr.seqK fun K24 hK24 => ?_
       refine Tr.rg hcx [1000055] _ [] rfl rfl rfl ?_
       simp -implicitDefEqProofs (maxSteps := 2000000) (disch := first | omega | (simp only [go_sem, List.length_append, List.length_drop, List.length_take] <;> omega) | decide) only [go_sem, ↓reduceIte, Nat.reduceEqDiff, reduceCtorEq, Nat.reduceLT, Nat.reduceBEq, Nat.reduceAdd, Nat.reduceSub, Nat.reduceMul, Nat.reduceMod, sl3_22, b0]
       refine hK24 _ ?_
       clear hK24 K24
       refine Tr.kp [3, 11, 16, 17, 19, 50, 51, 52] ?_
       simp only [pk_cons, pk_nil, ↓A_cons, ↓reduceIte, Nat.reduceEqDiff]
       refine Tr.seqK fun K25 hK25 => ?_
       refine Tr.seqK fun K26 hK26 => ?_
       refine Tr.rg hcx [] _ [] rfl rfl rfl ?_
       simp -implicitDefEqProofs (maxSteps := 2000000) (disch := first | omega | (simp only [go_sem, List.length_append, List.length_drop, List.length_take] <;> omega) | decide) only [go_sem, ↓reduceIte, Nat.reduceEqDiff, reduceCtorEq, Nat.reduceLT, Nat.reduceBEq, Nat.reduceAdd, Nat.reduceSub, Nat.reduceMul, Nat.reduceMod, sl3_22, b0, h39']
       refine hK26 _ ?_
       clear hK26 K26
       refine Tr.kp [3, 11, 16, 17, 19, 50, 51, 52, 60] ?_
       simp only [pk_cons, pk_nil, ↓A_cons, ↓reduceIte, Nat.reduceEqDiff]
       refine Tr.condG fun KT KF hT hF => ?_
       simp only [ev_tmp, ev_const, ↓A_cons, ↓reduceIte, Nat.reduceEqDiff, reduceCtorEq, condG_bool, GB_true, GB_false, decide_eq_true_eq]
       refine GB.dec (fun hc60 => hT ?_) (fun hc60 => hF ?_)
       ·
        clear hT hF KT KF
        have hcM := hc53
        have hcW : freR l b w (prevE e i) (gt e i) < 0 := by omega
        refine Tr.seqK fun K27 hK27 => ?_
        refine Tr.rg hcx [] _ [] rfl rfl rfl ?_
        simp -implicitDefEqProofs (maxSteps := 2000000) (disch := first | omega | (simp only [go_sem, List.length_append, List.length_drop, List.length_take] <;> omega) | decide) only [go_sem, ↓reduceIte, Nat.reduceEqDiff, reduceCtorEq, Nat.reduceLT, Nat.reduceBEq, Nat.reduceAdd, Nat.reduceSub, Nat.reduceMul, Nat.reduceMod, sl3_22, b0]
        refine hK27 _ ?_
        clear hK27 K27
        refine Tr.kp [8, 9, 10] ?_
        simp only [pk_cons, pk_nil, ↓A_cons, ↓reduceIte, Nat.reduceEqDiff]
        refine Tr.ret ?_
        simp -implicitDefEqProofs (disch := first | omega | (simp only [go_sem, List.length_append, List.length_drop, List.length_take] <;> omega) | decide) only [go_sem, ↓reduceIte, Nat.reduceEqDiff, reduceCtorEq]
        all_goals (first | (rw [costT_e b0]; rfl) | (rw [costT_5a b0 hcL hcE]; rfl) | (rw [costT_5b b0 (by omega)]; rfl) | (rw [costT_21 b0 hA (by omega) hcM hcW]; rfl) | (rw [costT_0 b0 hA (by omega) hB]; done) | (rw [costT_0 b0 hA (by omega) hB]; rfl))
       ·
        clear hT hF KT KF
        refine Tr.skip ?_
        refine hK25 _ ?_
        clear hK25 K25
        refine Tr.kp [3, 11, 16, 17, 19, 50, 51, 52] ?_
        simp only [pk_cons, pk_nil, ↓A_cons, ↓reduceIte, Nat.reduceEqDiff]
        refine Tr.seqK fun K28 hK28 => ?_
        refine Tr.rg hcx [1000066] _ [] rfl rfl rfl ?_
        simp -implicitDefEqProofs (maxSteps := 2000000) (disch := first | omega | (simp only [go_sem, List.length_append, List.length_drop, List.length_take] <;> omega) | decide) only [go_sem, ↓reduceIte, Nat.reduceEqDiff, reduceCtorEq, Nat.reduceLT, Nat.reduceBEq, Nat.reduceAdd, Nat.reduceSub, Nat.reduceMul, Nat.reduceMod, sl3_22, b0, h40']
        refine hK28 _ ?_
        clear hK28 K28
        refine Tr.kp [3, 11, 16, 19, 50, 51, 52] ?_
        simp only [pk_cons, pk_nil, ↓A_cons, ↓reduceIte, Nat.reduceEqDiff]
        refine Tr.rg hcx [1000067] _ [] rfl rfl rfl ?_
        simp -implicitDefEqProofs (maxSteps := 2000000) (disch := first | omega | (simp only [go_sem, List.length_append, List.length_drop, List.length_take] <;> omega) | decide) only [go_sem, ↓reduceIte, Nat.reduceEqDiff, reduceCtorEq, Nat.reduceLT, Nat.reduceBEq, Nat.reduceAdd, Nat.reduceSub, Nat.reduceMul, Nat.reduceMod, sl3_22, b0]
        refine hK23 _ ?_
        clear hK23 K23
        refine Tr.kp [3, 11, 16, 17, 50, 51, 52] ?_
        simp only [pk_cons, pk_nil, ↓A_cons, ↓reduceIte, Nat.reduceEqDiff]
        refine Tr.rg hcx [] _ [] rfl rfl rfl ?_
        simp -implicitDefEqProofs (maxSteps := 2000000) (disch := first | omega | (simp only [go_sem, List.length_append, List.length_drop, List.length_take] <;> omega) | decide) only [go_sem, ↓reduceIte, Nat.reduceEqDiff, reduceCtorEq, Nat.reduceLT, Nat.reduceBEq, Nat.reduceAdd, Nat.reduceSub, Nat.reduceMul, Nat.reduceMod, sl3_22, b0]
        refine ⟨i + 1, ⟨⟨by omega, fun j hj => (Nat.lt_or_eq_of_le (Nat.le_of_lt_succ hj)).elim (hB j) (fun q => q ▸ (by omega))⟩, by first | omega | (simp only []; omega)⟩, ?_, rfl⟩
        (simp only [Le_nil, Le_cons, ↓A_cons, ↓reduceIte, Nat.reduceEqDiff, reduceCtorEq, CLe_refl, CLe_top, CLe_full, CLe_nil, CLe_own, and_true, true_and]; all_goals (repeat' first | exact CLe.refl _ | exact True.intro | (refine CLe_sln ?_; first | with_reducible rfl | (simp only [List.take_zero]; done) | (rfl; done)) | exact CLe_nI (by omega) | exact CLe_int (by omega) | exact CLe_inI (by omega) | exact CLe_nIi (by omega) | with_reducible apply And.intro))
        all_goals first | exact CLe.refl _ | (rw [prevE_S]; exact CLe.refl _)
      ·
       clear hT hF KT KF
       obtain rfl : i = e.length := by omega
       refine Tr.exit ?_
       refine hK19 _ ?_
       clear hK22 K22 hK19 K19
       refine Tr.kp [3, 16] ?_
       simp only [pk_cons, pk_nil, ↓A_cons, ↓reduceIte, Nat.reduceEqDiff]
       refine Tr.seqK fun K29 hK29 => ?_
       refine Tr.rg hcx [1000070, 1000071] _ [] rfl rfl rfl ?_
       simp -implicitDefEqProofs (maxSteps := 2000000) (disch := first | omega | (simp only [go_sem, List.length_append, List.length_drop, List.length_take] <;> omega) | decide) only [go_sem, ↓reduceIte, Nat.reduceEqDiff, reduceCtorEq, Nat.reduceLT, Nat.reduceBEq, Nat.reduceAdd, Nat.reduceSub, Nat.reduceMul, Nat.reduceMod, sl3_22, b0]
       refine hK29 _ ?_
       clear hK29 K29
       refine Tr.kp [8, 9, 10] ?_
       simp only [pk_cons, pk_nil, ↓A_cons, ↓reduceIte, Nat.reduceEqDiff]
       refine Tr.ret ?_
       simp -implicitDefEqProofs (disch := first | omega | (simp only [go_sem, List.length_append, List.length_drop, List.length_take] <;> omega) | decide) only [go_sem, ↓reduceIte, Nat.reduceEqDiff, reduceCtorEq]
       all_goals (first | (rw [costT_e b0]; rfl) | (rw [costT_5a b0 hcL hcE]; rfl) | (rw [costT_5b b0 (by omega)]; rfl) | (rw [costT_21 b0 hA (by omega) hcM hcW]; rfl) | (rw [costT_0 b0 hA (by omega) hB]; done) | (rw [costT_0 b0 hA (by omega) hB]; rfl))
 ·
  have h37' := h37e l b w hl hb hw b0
  refine Tr.rg hcx [1000026] _ [none] rfl rfl rfl ?_
  simp -implicitDefEqProofs (maxSteps := 2000000) (disch := first | omega | (simp only [go_sem, List.length_append, List.length_drop, List.length_take] <;> omega) | decide) only [go_sem, ↓reduceIte, Nat.reduceEqDiff, reduceCtorEq, Nat.reduceLT, Nat.reduceBEq, Nat.reduceAdd, Nat.reduceSub, Nat.reduceMul, Nat.reduceMod, sl3_22, b0, h37']
  refine hK2 _ ?_
  clear hK2 K2
  refine Tr.kp [3, 11, 12] ?_
  simp only [pk_cons, pk_nil, ↓A_cons, ↓reduceIte, Nat.reduceEqDiff]
  refine Tr.seqK fun K30 hK30 => ?_
  refine Tr.seqK fun K31 hK31 => ?_
  refine Tr.rg hcx [] _ [] rfl rfl rfl ?_
  simp -implicitDefEqProofs (maxSteps := 2000000) (disch := first | omega | (simp only [go_sem, List.length_append, List.length_drop, List.length_take] <;> omega) | decide) only [go_sem, ↓reduceIte, Nat.reduceEqDiff, reduceCtorEq, Nat.reduceLT, Nat.reduceBEq, Nat.reduceAdd, Nat.reduceSub, Nat.reduceMul, Nat.reduceMod, sl3_22, b0]
  refine hK31 _ ?_
  clear hK31 K31
  refine Tr.kp [3, 11, 12, 28] ?_
  simp only [pk_cons, pk_nil, ↓A_cons, ↓reduceIte, Nat.reduceEqDiff]
  refine Tr.condG fun KT KF hT hF => ?_
  simp only [ev_tmp, ev_const, ↓A_cons, ↓reduceIte, Nat.reduceEqDiff, reduceCtorEq, condG_bool, GB_true, GB_false, decide_eq_true_eq]
  refine hT ?_
  clear hT hF KT KF
  refine Tr.seqK fun K32 hK32 => ?_
  refine Tr.rg hcx [1000029] _ [] rfl rfl rfl ?_
  simp -implicitDefEqProofs (maxSteps := 2000000) (disch := first | omega | (simp only [go_sem, List.length_append, List.length_drop, List.length_take] <;> omega) | decide) only [go_sem, ↓reduceIte, Nat.reduceEqDiff, reduceCtorEq, Nat.reduceLT, Nat.reduceBEq, Nat.reduceAdd, Nat.reduceSub, Nat.reduceMul, Nat.reduceMod, sl3_22, b0]
  refine hK32 _ ?_
  clear hK32 K32
  refine Tr.kp [8, 9, 10] ?_
  simp only [pk_cons, pk_nil, ↓A_cons, ↓reduceIte, Nat.reduceEqDiff]
  refine Tr.ret ?_
  simp -implicitDefEqProofs (disch := first | omega | (simp only [go_sem, List.length_append, List.length_drop, List.length_take] <;> omega) | decide) only [go_sem, ↓reduceIte, Nat.reduceEqDiff, reduceCtorEq]
  all_goals (first | (rw [costT_e b0]; rfl) | (rw [costT_5a b0 hcL hcE]; rfl) | (rw [costT_5b b0 (by omega)]; rfl) | (rw [costT_21 b0 hA (by omega) hcM hcW]; rfl) | (rw [costT_0 b0 hA (by omega) hB]; done) | (rw [costT_0 b0 hA (by omega) hB]; rfl))
end Go.Sx
namespace Go.Sx
def cmpI (a b : Int) : Int := if a < b then -1 else if b < a then 1 else 0
def cmpL (x y : List Int) : Int := if gt x 0 = gt y 0 then cmpI (gt x 1) (gt y 1) else cmpI (gt x 0) (gt y 0)
def befI (a1 a2 b1 b2 : Int) : Bool := decide (a1 < b1 ∨ a1 = b1 ∧ a2 < b2)
theorem cmpI_0 {a b : Int} (h : ¬ cmpI a b = 0) : ¬ a = b := by
  rintro rfl; simp [cmpI] at h
theorem cmpI_e {a b : Int} (h : cmpI a b = 0) : a = b := by
  unfold cmpI at h; split at h
  · cases h
  · split at h
    · cases h
    · omega
theorem cmpL_at {x y : List Int} {i : Nat} (hi : i < 2) (h : ∀ j, j < i → gt x j = gt y j) (hc : ¬ cmpI (gt x i) (gt y i) = 0) : cmpL x y = cmpI (gt x i) (gt y i) := by
  unfold cmpL
  match i, hi with
  | 0, _ => rw [if_neg (cmpI_0 hc)]
  | 1, _ => rw [if_pos (h 0 (by omega))]
theorem cmpL_end {x y : List Int} (h : ∀ j, j < 2 → gt x j = gt y j) : cmpL x y = 0 := by
  unfold cmpL
  rw [if_pos (h 0 (by omega)), h 1 (by omega)]; simp [cmpI]
theorem cmpL_bef (a1 a2 b1 b2 : Int) : decide (cmpL [a1, a2] [b1, b2] < 0) = befI a1 a2 b1 b2 := by
  unfold befI
  rw [decide_eq_decide]
  unfold cmpL cmpI
  simp only [gt_cons0, gt_consS]
  repeat' split
  all_goals omega
def wideW (l : List Int) (w : Int) : Bool := (List.range l.length).any fun i => decide (w < gt l i)
theorem wideW_T {l : List Int} {w : Int} {i : Nat} (hi : i < l.length) (h : w < gt l i) : wideW l w = true := List.any_eq_true.2 ⟨i, List.mem_range.2 hi, decide_eq_true h⟩
theorem wideW_F {l : List Int} {w : Int} (h : ∀ i, i < l.length → gt l i ≤ w) : wideW l w = false := by
  cases hw : wideW l w with
  | false => rfl
  | true =>
    obtain ⟨i, hi, hx⟩ := List.any_eq_true.1 hw
    have := h i (List.mem_range.1 hi)
    have := of_decide_eq_true hx
    omega
theorem wideW_n {l : List Int} {w : Int} (h : wideW l w = false) (i : Nat) (hi : i < l.length) : gt l i ≤ w := by
  rcases Int.lt_or_le w (gt l i) with h1 | h1
  · rw [wideW_T hi h1] at h; cases h
  · exact h1
/-- The greedy division, word by word: where the line begins, and the ends so far. -/
def greR (l : List Int) (b w : Int) : Nat → Int × List Int
  | 0 => (0, [])
  | k + 1 => if freR l b w (greR l b w k).1 ((k : Int) + 1) < 0 then ((k : Int), (greR l b w k).2 ++ [(k : Int)]) else greR l b w k
def greL (l : List Int) (b w : Int) : List Int := if l.length = 0 then [] else (greR l b w l.length).2 ++ [(l.length : Int)]
def greT (l : List Int) (b w : Int) : List Int × Nat := if errE l b w ≠ 0 then ([], errE l b w) else if wideW l w = true then ([], 21) else (greL l b w, 0)
theorem greR_T {l : List Int} {b w : Int} {k : Nat} (h : freR l b w (greR l b w k).1 ((k : Int) + 1) < 0) : greR l b w (k + 1) = ((k : Int), (greR l b w k).2 ++ [(k : Int)]) := if_pos h
theorem greR_F {l : List Int} {b w : Int} {k : Nat} (h : ¬ freR l b w (greR l b w k).1 ((k : Int) + 1) < 0) : greR l b w (k + 1) = greR l b w k := if_neg h
theorem greR_in (l : List Int) (b w : Int) : ∀ k, 0 ≤ (greR l b w k).1 ∧ (greR l b w k).1 ≤ (k : Int) ∧ (0 < k → (greR l b w k).1 < (k : Int)) ∧ (greR l b w k).2.length ≤ k
  | 0 => ⟨Int.le_refl _, Int.le_refl _, fun h => absurd h (Nat.lt_irrefl 0), Nat.le_refl _⟩
  | k + 1 => by
    obtain ⟨h1, h2, h3, h4⟩ := greR_in l b w k
    by_cases h : freR l b w (greR l b w k).1 ((k : Int) + 1) < 0
    · rw [greR_T h]; simp; omega
    · rw [greR_F h]; refine ⟨h1, by omega, fun _ => ?_, by omega⟩
      rcases Nat.eq_zero_or_pos k with h0 | h0
      · subst h0; show (0 : Int) < _; omega
      · have := h3 h0; omega
end Go.Sx
namespace Go.Sx
open Go.RowKit Go.Proofs
set_option maxRecDepth 100000 in
set_option maxHeartbeats 8000000 in
theorem fc59 {gl : Nat → C} {M : Nat} {pu : Nat → List C → Option C}  (hcx : CxOK (cxP gl M pu)) (n : Int) : FC Try.prog gl 59 [.val (.int .i64 n)] [] (.val (.bool false)) [] := by
 replace hcx := hcx.reN (M := 6)
 refine FC.ofA (cx := cxP gl 6 pu) (rs := [.tmp 2]) rfl Try.func59 rfl rfl rfl (by simp only [List.length_cons, List.length_nil]; decide) (by simp only [go_sem]) ?_
 simp only [ini, go_sem]
 refine Tr.seqK fun K1 hK1 => ?_
 refine Tr.rg hcx [] _ [] rfl rfl rfl ?_
 simp -implicitDefEqProofs (maxSteps := 2000000) (disch := first | omega | (simp only [go_sem, List.length_append, List.length_drop, List.length_take] <;> omega) | decide) only [go_sem, ↓reduceIte, Nat.reduceEqDiff, reduceCtorEq, Nat.reduceLT, Nat.reduceBEq, Nat.reduceAdd, Nat.reduceSub, Nat.reduceMul, Nat.reduceMod]
 refine hK1 _ ?_
 clear hK1 K1
 refine Tr.kp [0] ?_
 simp only [pk_cons, pk_nil, ↓A_cons, ↓reduceIte, Nat.reduceEqDiff]
 refine Tr.seqK fun K2 hK2 => ?_
 refine Tr.rg hcx [1000005] _ [] rfl rfl rfl ?_
 simp -implicitDefEqProofs (maxSteps := 2000000) (disch := first | omega | (simp only [go_sem, List.length_append, List.length_drop, List.length_take] <;> omega) | decide) only [go_sem, ↓reduceIte, Nat.reduceEqDiff, reduceCtorEq, Nat.reduceLT, Nat.reduceBEq, Nat.reduceAdd, Nat.reduceSub, Nat.reduceMul, Nat.reduceMod]
 refine hK2 _ ?_
 clear hK2 K2
 refine Tr.kp [2] ?_
 simp only [pk_cons, pk_nil, ↓A_cons, ↓reduceIte, Nat.reduceEqDiff]
 refine Tr.ret ?_
 simp -implicitDefEqProofs (disch := first | omega | (simp only [go_sem, List.length_append, List.length_drop, List.length_take] <;> omega) | decide) only [go_sem, ↓reduceIte, Nat.reduceEqDiff, reduceCtorEq]
 all_goals (rfl)
set_option maxRecDepth 100000 in
set_option maxHeartbeats 8000000 in
theorem fc58 {gl : Nat → C} {M : Nat} {pu : Nat → List C → Option C}  (hcx : CxOK (cxP gl M pu)) (h59 : ∀ n : Int, pu 59 [.val (.int .i64 n)] = some (.val (.bool false))) (a b : Int) : FC Try.prog gl 58 [.val (.int .i64 a), .val (.int .i64 b)] [] (.val (.int .i64 (cmpI a b))) [] := by
 replace hcx := hcx.reN (M := 20)
 refine FC.ofA (cx := cxP gl 20 pu) (rs := [.tmp 4]) rfl Try.func58 rfl rfl rfl (by simp only [List.length_cons, List.length_nil]; decide) (by simp only [go_sem]) ?_
 simp only [ini, go_sem]
 refine Tr.seqK fun K1 hK1 => ?_
 refine Tr.rg hcx [] _ [] rfl rfl rfl ?_
 simp -implicitDefEqProofs (maxSteps := 2000000) (disch := first | omega | (simp only [go_sem, List.length_append, List.length_drop, List.length_take] <;> omega) | decide) only [go_sem, ↓reduceIte, Nat.reduceEqDiff, reduceCtorEq, Nat.reduceLT, Nat.reduceBEq, Nat.reduceAdd, Nat.reduceSub, Nat.reduceMul, Nat.reduceMod, h59]
 refine hK1 _ ?_
 clear hK1 K1
 refine Tr.kp [0, 1] ?_
 simp only [pk_cons, pk_nil, ↓A_cons, ↓reduceIte, Nat.reduceEqDiff]
 refine Tr.seqK fun K2 hK2 => ?_
 refine Tr.rg hcx [1000008] _ [] rfl rfl rfl ?_
 simp -implicitDefEqProofs (maxSteps := 2000000) (disch := first | omega | (simp only [go_sem, List.length_append, List.length_drop, List.length_take] <;> omega) | decide) only [go_sem, ↓reduceIte, Nat.reduceEqDiff, reduceCtorEq, Nat.reduceLT, Nat.reduceBEq, Nat.reduceAdd, Nat.reduceSub, Nat.reduceMul, Nat.reduceMod, h59]
 refine hK2 _ ?_
 clear hK2 K2
 refine Tr.kp [0, 1, 5] ?_
 simp only [pk_cons, pk_nil, ↓A_cons, ↓reduceIte, Nat.reduceEqDiff]
 refine Tr.seqK fun K3 hK3 => ?_
 refine Tr.rg hcx [1000010] _ [] rfl rfl rfl ?_
 simp -implicitDefEqProofs (maxSteps := 2000000) (disch := first | omega | (simp only [go_sem, List.length_append, List.length_drop, List.length_take] <;> omega) | decide) only [go_sem, ↓reduceIte, Nat.reduceEqDiff, reduceCtorEq, Nat.reduceLT, Nat.reduceBEq, Nat.reduceAdd, Nat.reduceSub, Nat.reduceMul, Nat.reduceMod, h59]
 refine hK3 _ ?_
 clear hK3 K3
 refine Tr.kp [0, 1, 5, 6] ?_
 simp only [pk_cons, pk_nil, ↓A_cons, ↓reduceIte, Nat.reduceEqDiff]
 refine Tr.seqK fun K4 hK4 => ?_
 refine Tr.seqK fun K5 hK5 => ?_
 refine Tr.rg hcx [] _ [] rfl rfl rfl ?_
 simp -implicitDefEqProofs (maxSteps := 2000000) (disch := first | omega | (simp only [go_sem, List.length_append, List.length_drop, List.length_take] <;> omega) | decide) only [go_sem, ↓reduceIte, Nat.reduceEqDiff, reduceCtorEq, Nat.reduceLT, Nat.reduceBEq, Nat.reduceAdd, Nat.reduceSub, Nat.reduceMul, Nat.reduceMod, h59]
 refine hK5 _ ?_
 clear hK5 K5
 refine Tr.kp [0, 1, 6, 11] ?_
 simp only [pk_cons, pk_nil, ↓A_cons, ↓reduceIte, Nat.reduceEqDiff]
 refine Tr.condG fun KT KF hT hF => ?_
 simp only [ev_tmp, ev_const, ↓A_cons, ↓reduceIte, Nat.reduceEqDiff, reduceCtorEq, condG_bool, GB_true, GB_false, decide_eq_true_eq]
 refine hF ?_
 clear hT hF KT KF
 refine Tr.skip ?_
 refine hK4 _ ?_
 clear hK4 K4
 refine Tr.kp [0, 1, 6] ?_
 simp only [pk_cons, pk_nil, ↓A_cons, ↓reduceIte, Nat.reduceEqDiff]
 refine Tr.seqK fun K6 hK6 => ?_
 refine Tr.seqK fun K7 hK7 => ?_
 refine Tr.rg hcx [] _ [] rfl rfl rfl ?_
 simp -implicitDefEqProofs (maxSteps := 2000000) (disch := first | omega | (simp only [go_sem, List.length_append, List.length_drop, List.length_take] <;> omega) | decide) only [go_sem, ↓reduceIte, Nat.reduceEqDiff, reduceCtorEq, Nat.reduceLT, Nat.reduceBEq, Nat.reduceAdd, Nat.reduceSub, Nat.reduceMul, Nat.reduceMod, h59]
 refine hK7 _ ?_
 clear hK7 K7
 refine Tr.kp [0, 1, 13] ?_
 simp only [pk_cons, pk_nil, ↓A_cons, ↓reduceIte, Nat.reduceEqDiff]
 refine Tr.condG fun KT KF hT hF => ?_
 simp only [ev_tmp, ev_const, ↓A_cons, ↓reduceIte, Nat.reduceEqDiff, reduceCtorEq, condG_bool, GB_true, GB_false, decide_eq_true_eq]
 refine hF ?_
 clear hT hF KT KF
 refine Tr.skip ?_
 refine hK6 _ ?_
 clear hK6 K6
 refine Tr.kp [0, 1] ?_
 simp only [pk_cons, pk_nil, ↓A_cons, ↓reduceIte, Nat.reduceEqDiff]
 refine Tr.seqK fun K8 hK8 => ?_
 refine Tr.seqK fun K9 hK9 => ?_
 refine Tr.rg hcx [] _ [] rfl rfl rfl ?_
 simp -implicitDefEqProofs (maxSteps := 2000000) (disch := first | omega | (simp only [go_sem, List.length_append, List.length_drop, List.length_take] <;> omega) | decide) only [go_sem, ↓reduceIte, Nat.reduceEqDiff, reduceCtorEq, Nat.reduceLT, Nat.reduceBEq, Nat.reduceAdd, Nat.reduceSub, Nat.reduceMul, Nat.reduceMod, h59]
 refine hK9 _ ?_
 clear hK9 K9
 refine Tr.kp [0, 1, 16] ?_
 simp only [pk_cons, pk_nil, ↓A_cons, ↓reduceIte, Nat.reduceEqDiff]
 refine Tr.condG fun KT KF hT hF => ?_
 simp only [ev_tmp, ev_const, ↓A_cons, ↓reduceIte, Nat.reduceEqDiff, reduceCtorEq, condG_bool, GB_true, GB_false, decide_eq_true_eq]
 refine GB.dec (fun hc16 => hT ?_) (fun hc16 => hF ?_)
 ·
  clear hT hF KT KF
  refine Tr.seqK fun K10 hK10 => ?_
  refine Tr.rg hcx [] _ [] rfl rfl rfl ?_
  simp -implicitDefEqProofs (maxSteps := 2000000) (disch := first | omega | (simp only [go_sem, List.length_append, List.length_drop, List.length_take] <;> omega) | decide) only [go_sem, ↓reduceIte, Nat.reduceEqDiff, reduceCtorEq, Nat.reduceLT, Nat.reduceBEq, Nat.reduceAdd, Nat.reduceSub, Nat.reduceMul, Nat.reduceMod, h59]
  refine hK10 _ ?_
  clear hK10 K10
  refine Tr.kp [4] ?_
  simp only [pk_cons, pk_nil, ↓A_cons, ↓reduceIte, Nat.reduceEqDiff]
  refine Tr.ret ?_
  simp -implicitDefEqProofs (disch := first | omega | (simp only [go_sem, List.length_append, List.length_drop, List.length_take] <;> omega) | decide) only [go_sem, ↓reduceIte, Nat.reduceEqDiff, reduceCtorEq]
  all_goals (first | exact congrArg (fun z => some (C.val (.int .i64 z))) (if_pos hc16).symm | exact congrArg (fun z => some (C.val (.int .i64 z))) ((if_neg hc16).trans (if_pos hc19)).symm | exact congrArg (fun z => some (C.val (.int .i64 z))) ((if_neg hc16).trans (if_neg hc19)).symm)
 ·
  clear hT hF KT KF
  refine Tr.skip ?_
  refine hK8 _ ?_
  clear hK8 K8
  refine Tr.kp [0, 1] ?_
  simp only [pk_cons, pk_nil, ↓A_cons, ↓reduceIte, Nat.reduceEqDiff]
  refine Tr.seqK fun K11 hK11 => ?_
  refine Tr.seqK fun K12 hK12 => ?_
  refine Tr.rg hcx [] _ [] rfl rfl rfl ?_
  simp -implicitDefEqProofs (maxSteps := 2000000) (disch := first | omega | (simp only [go_sem, List.length_append, List.length_drop, List.length_take] <;> omega) | decide) only [go_sem, ↓reduceIte, Nat.reduceEqDiff, reduceCtorEq, Nat.reduceLT, Nat.reduceBEq, Nat.reduceAdd, Nat.reduceSub, Nat.reduceMul, Nat.reduceMod, h59]
  refine hK12 _ ?_
  clear hK12 K12
  refine Tr.kp [19] ?_
  simp only [pk_cons, pk_nil, ↓A_cons, ↓reduceIte, Nat.reduceEqDiff]
  refine Tr.condG fun KT KF hT hF => ?_
  simp only [ev_tmp, ev_const, ↓A_cons, ↓reduceIte, Nat.reduceEqDiff, reduceCtorEq, condG_bool, GB_true, GB_false, decide_eq_true_eq]
  refine GB.dec (fun hc19 => hT ?_) (fun hc19 => hF ?_)
  ·
   clear hT hF KT KF
   refine Tr.seqK fun K13 hK13 => ?_
   refine Tr.rg hcx [] _ [] rfl rfl rfl ?_
   simp -implicitDefEqProofs (maxSteps := 2000000) (disch := first | omega | (simp only [go_sem, List.length_append, List.length_drop, List.length_take] <;> omega) | decide) only [go_sem, ↓reduceIte, Nat.reduceEqDiff, reduceCtorEq, Nat.reduceLT, Nat.reduceBEq, Nat.reduceAdd, Nat.reduceSub, Nat.reduceMul, Nat.reduceMod, h59]
   refine hK13 _ ?_
   clear hK13 K13
   refine Tr.kp [4] ?_
   simp only [pk_cons, pk_nil, ↓A_cons, ↓reduceIte, Nat.reduceEqDiff]
   refine Tr.ret ?_
   simp -implicitDefEqProofs (disch := first | omega | (simp only [go_sem, List.length_append, List.length_drop, List.length_take] <;> omega) | decide) only [go_sem, ↓reduceIte, Nat.reduceEqDiff, reduceCtorEq]
   all_goals (first | exact congrArg (fun z => some (C.val (.int .i64 z))) (if_pos hc16).symm | exact congrArg (fun z => some (C.val (.int .i64 z))) ((if_neg hc16).trans (if_pos hc19)).symm | exact congrArg (fun z => some (C.val (.int .i64 z))) ((if_neg hc16).trans (if_neg hc19)).symm)
  ·
   clear hT hF KT KF
   refine Tr.skip ?_
   refine hK11 _ ?_
   clear hK11 K11
   refine Tr.kp [] ?_
   simp only [pk_cons, pk_nil, ↓A_cons, ↓reduceIte, Nat.reduceEqDiff]
   refine Tr.seqK fun K14 hK14 => ?_
   refine Tr.rg hcx [] _ [] rfl rfl rfl ?_
   simp -implicitDefEqProofs (maxSteps := 2000000) (disch := first | omega | (simp only [go_sem, List.length_append, List.length_drop, List.length_take] <;> omega) | decide) only [go_sem, ↓reduceIte, Nat.reduceEqDiff, reduceCtorEq, Nat.reduceLT, Nat.reduceBEq, Nat.reduceAdd, Nat.reduceSub, Nat.reduceMul, Nat.reduceMod, h59]
   refine hK14 _ ?_
   clear hK14 K14
   refine Tr.kp [4] ?_
   simp only [pk_cons, pk_nil, ↓A_cons, ↓reduceIte, Nat.reduceEqDiff]
   refine Tr.ret ?_
   simp -implicitDefEqProofs (disch := first | omega | (simp only [go_sem, List.length_append, List.length_drop, List.length_take] <;> omega) | decide) only [go_sem, ↓reduceIte, Nat.reduceEqDiff, reduceCtorEq]
   all_goals (first | exact congrArg (fun z => some (C.val (.int .i64 z))) (if_pos hc16).symm | exact congrArg (fun z => some (C.val (.int .i64 z))) ((if_neg hc16).trans (if_pos hc19)).symm | exact congrArg (fun z => some (C.val (.int .i64 z))) ((if_neg hc16).trans (if_neg hc19)).symm)
set_option maxRecDepth 100000 in
set_option maxHeartbeats 8000000 in
theorem fc54 {gl : Nat → C} {M : Nat} {pu : Nat → List C → Option C}  (hcx : CxOK (cxP gl M pu)) (h58 : ∀ a b : Int, pu 58 [.val (.int .i64 a), .val (.int .i64 b)] = some (.val (.int .i64 (cmpI a b)))) (a1 a2 b1 b2 : Int) : FC Try.prog gl 54 [sl iC .no [a1, a2], sl iC .no [b1, b2]] [] (.val (.int .i64 (cmpL [a1, a2] [b1, b2]))) [] := by
 replace hcx := hcx.reN (M := 36)
 refine FC.ofA (cx := cxP gl 36 pu) (rs := [.tmp 4]) rfl Try.func54 rfl rfl rfl (by simp only [List.length_cons, List.length_nil]; decide) (by simp only [go_sem]) ?_
 simp only [ini, go_sem]
 obtain ⟨x, hx⟩ : ∃ x, x = [a1, a2] := ⟨_, rfl⟩
 obtain ⟨y, hy⟩ : ∃ y, y = [b1, b2] := ⟨_, rfl⟩
 rw [← hx, ← hy]
 have hx2 : x.length = 2 := by rw [hx]; rfl
 have hy2 : y.length = 2 := by rw [hy]; rfl
 clear hx hy a1 a2 b1 b2
 refine Tr.seqK fun K1 hK1 => ?_
 refine Tr.rg hcx [] _ [] rfl rfl rfl ?_
 simp -implicitDefEqProofs (maxSteps := 2000000) (disch := first | omega | (simp only [go_sem, List.length_append, List.length_drop, List.length_take, hx2, hy2] <;> omega) | decide) only [go_sem, ↓reduceIte, Nat.reduceEqDiff, reduceCtorEq, Nat.reduceLT, Nat.reduceBEq, Nat.reduceAdd, Nat.reduceSub, Nat.reduceMul, Nat.reduceMod, h58]
 refine hK1 _ ?_
 clear hK1 K1
 refine Tr.kp [0, 1] ?_
 simp only [pk_cons, pk_nil, ↓A_cons, ↓reduceIte, Nat.reduceEqDiff]
 refine Tr.seqK fun K2 hK2 => ?_
 refine Tr.seqK fun K3 hK3 => ?_
 refine Tr.rg hcx [] _ [] rfl rfl rfl ?_
 simp -implicitDefEqProofs (maxSteps := 2000000) (disch := first | omega | (simp only [go_sem, List.length_append, List.length_drop, List.length_take, hx2, hy2] <;> omega) | decide) only [go_sem, ↓reduceIte, Nat.reduceEqDiff, reduceCtorEq, Nat.reduceLT, Nat.reduceBEq, Nat.reduceAdd, Nat.reduceSub, Nat.reduceMul, Nat.reduceMod, h58]
 refine hK3 _ ?_
 clear hK3 K3
 refine Tr.kp [0, 1, 9, 10, 11] ?_
 simp only [pk_cons, pk_nil, ↓A_cons, ↓reduceIte, Nat.reduceEqDiff]
 refine Tr.blk ?_
 refine Tr.loopI (α := Nat) (fun a => [(0, ?v0_60), (1, ?v1_60), (9, ?v9_60), (10, ?v10_60), (11, .val (nI a))]) (fun a => ?h_60) (fun a => a ≤ x.length ∧ ∀ j, j < a → gt x j = gt y j) (fun a => x.length - a) (0) ⟨Nat.zero_le _, fun j hj => absurd hj (Nat.not_lt_zero j)⟩ ?le_60 ?hh_60 ?bd_60
 case hh_60 => exact rfl
 case le_60 => (simp only [Le_nil, Le_cons, ↓A_cons, ↓reduceIte, Nat.reduceEqDiff, reduceCtorEq, CLe_refl, CLe_top, CLe_full, CLe_nil, CLe_own, and_true, true_and]; all_goals (repeat' first | exact CLe.refl _ | exact True.intro | (refine CLe_sln ?_; first | with_reducible rfl | (simp only [List.take_zero]; done) | (rfl; done)) | exact CLe_nI (by omega) | exact CLe_int (by omega) | exact CLe_inI (by omega) | exact CLe_nIi (by omega) | with_reducible apply And.intro))
 case bd_60 =>
  rintro i ⟨hi, hA⟩
  refine Tr.seqK fun K4 hK4 => ?_
  refine Tr.rg hcx [] _ [] rfl rfl rfl ?_
  simp -implicitDefEqProofs (maxSteps := 2000000) (disch := first | omega | (simp only [go_sem, List.length_append, List.length_drop, List.length_take, hx2, hy2] <;> omega) | decide) only [go_sem, ↓reduceIte, Nat.reduceEqDiff, reduceCtorEq, Nat.reduceLT, Nat.reduceBEq, Nat.reduceAdd, Nat.reduceSub, Nat.reduceMul, Nat.reduceMod, h58]
  refine hK4 _ ?_
  clear hK4 K4
  refine Tr.kp [0, 1, 9, 10, 11, 12] ?_
  simp only [pk_cons, pk_nil, ↓A_cons, ↓reduceIte, Nat.reduceEqDiff]
  refine Tr.seqK fun K5 hK5 => ?_
  refine Tr.condG fun KT KF hT hF => ?_
  simp only [ev_tmp, ev_const, ↓A_cons, ↓reduceIte, Nat.reduceEqDiff, reduceCtorEq, condG_bool, GB_true, GB_false, decide_eq_true_eq]
  refine GB.dec (fun hc12 => hT ?_) (fun hc12 => hF ?_)
  ·
   clear hT hF KT KF
   have hge : (y.length ≤ i) = False := eq_false (by omega)
   refine Tr.skip ?_
   refine hK5 _ ?_
   clear hK5 K5
   refine Tr.kp [0, 1, 9, 10, 11] ?_
   simp only [pk_cons, pk_nil, ↓A_cons, ↓reduceIte, Nat.reduceEqDiff]
   refine Tr.seqK fun K6 hK6 => ?_
   refine Tr.blk ?_
   refine Tr.seqK fun K7 hK7 => ?_
   refine Tr.rg hcx [1000013, 1000015] _ [] rfl rfl rfl ?_
   simp -implicitDefEqProofs (maxSteps := 2000000) (disch := first | omega | (simp only [go_sem, List.length_append, List.length_drop, List.length_take, hx2, hy2] <;> omega) | decide) only [go_sem, ↓reduceIte, Nat.reduceEqDiff, reduceCtorEq, Nat.reduceLT, Nat.reduceBEq, Nat.reduceAdd, Nat.reduceSub, Nat.reduceMul, Nat.reduceMod, h58]
   refine hK7 _ ?_
   clear hK7 K7
   refine Tr.kp [0, 1, 5, 6, 9, 10, 11] ?_
   simp only [pk_cons, pk_nil, ↓A_cons, ↓reduceIte, Nat.reduceEqDiff]
   refine Tr.seqK fun K8 hK8 => ?_
   refine Tr.seqK fun K9 hK9 => ?_
   refine Tr.rg hcx [] _ [] rfl rfl rfl ?_
   simp -implicitDefEqProofs (maxSteps := 2000000) (disch := first | omega | (simp only [go_sem, List.length_append, List.length_drop, List.length_take, hx2, hy2] <;> omega) | decide) only [go_sem, ↓reduceIte, Nat.reduceEqDiff, reduceCtorEq, Nat.reduceLT, Nat.reduceBEq, Nat.reduceAdd, Nat.reduceSub, Nat.reduceMul, Nat.reduceMod, h58, hge]
   refine hK9 _ ?_
   clear hK9 K9
   refine Tr.kp [0, 1, 5, 6, 9, 10, 11, 19] ?_
   simp only [pk_cons, pk_nil, ↓A_cons, ↓reduceIte, Nat.reduceEqDiff]
   refine Tr.condG fun KT KF hT hF => ?_
   simp only [ev_tmp, ev_const, ↓A_cons, ↓reduceIte, Nat.reduceEqDiff, reduceCtorEq, condG_bool, GB_true, GB_false, decide_eq_true_eq]
   refine hF ?_
   clear hT hF KT KF
   refine Tr.skip ?_
   refine hK8 _ ?_
   clear hK8 K8
   refine Tr.kp [0, 1, 5, 6, 9, 10, 11] ?_
   simp only [pk_cons, pk_nil, ↓A_cons, ↓reduceIte, Nat.reduceEqDiff]
   refine Tr.seqK fun K10 hK10 => ?_
   refine Tr.rg hcx [1000023] _ [] rfl rfl rfl ?_
   simp -implicitDefEqProofs (maxSteps := 2000000) (disch := first | omega | (simp only [go_sem, List.length_append, List.length_drop, List.length_take, hx2, hy2] <;> omega) | decide) only [go_sem, ↓reduceIte, Nat.reduceEqDiff, reduceCtorEq, Nat.reduceLT, Nat.reduceBEq, Nat.reduceAdd, Nat.reduceSub, Nat.reduceMul, Nat.reduceMod, h58]
   refine hK10 _ ?_
   clear hK10 K10
   refine Tr.kp [0, 1, 6, 7, 9, 10, 11] ?_
   simp only [pk_cons, pk_nil, ↓A_cons, ↓reduceIte, Nat.reduceEqDiff]
   refine Tr.seqK fun K11 hK11 => ?_
   refine Tr.rg hcx [1000026] _ [] rfl rfl rfl ?_
   simp -implicitDefEqProofs (maxSteps := 2000000) (disch := first | omega | (simp only [go_sem, List.length_append, List.length_drop, List.length_take, hx2, hy2] <;> omega) | decide) only [go_sem, ↓reduceIte, Nat.reduceEqDiff, reduceCtorEq, Nat.reduceLT, Nat.reduceBEq, Nat.reduceAdd, Nat.reduceSub, Nat.reduceMul, Nat.reduceMod, h58]
   refine hK11 _ ?_
   clear hK11 K11
   refine Tr.kp [0, 1, 8, 9, 10, 11] ?_
   simp only [pk_cons, pk_nil, ↓A_cons, ↓reduceIte, Nat.reduceEqDiff]
   refine Tr.seqK fun K12 hK12 => ?_
   refine Tr.rg hcx [] _ [] rfl rfl rfl ?_
   simp -implicitDefEqProofs (maxSteps := 2000000) (disch := first | omega | (simp only [go_sem, List.length_append, List.length_drop, List.length_take, hx2, hy2] <;> omega) | decide) only [go_sem, ↓reduceIte, Nat.reduceEqDiff, reduceCtorEq, Nat.reduceLT, Nat.reduceBEq, Nat.reduceAdd, Nat.reduceSub, Nat.reduceMul, Nat.reduceMod, h58]
   refine hK12 _ ?_
   clear hK12 K12
   refine Tr.kp [0, 1, 8, 9, 10, 11, 28] ?_
   simp only [pk_cons, pk_nil, ↓A_cons, ↓reduceIte, Nat.reduceEqDiff]
   refine Tr.condG fun KT KF hT hF => ?_
   simp only [ev_tmp, ev_const, ↓A_cons, ↓reduceIte, Nat.reduceEqDiff, reduceCtorEq, condG_bool, GB_true, GB_false, decide_eq_true_eq]
   refine GB.dec (fun hc28 => hT ?_) (fun hc28 => hF ?_)
   ·
    clear hT hF KT KF
    refine Tr.seqK fun K13 hK13 => ?_
    refine Tr.rg hcx [1000029] _ [] rfl rfl rfl ?_
    simp -implicitDefEqProofs (maxSteps := 2000000) (disch := first | omega | (simp only [go_sem, List.length_append, List.length_drop, List.length_take, hx2, hy2] <;> omega) | decide) only [go_sem, ↓reduceIte, Nat.reduceEqDiff, reduceCtorEq, Nat.reduceLT, Nat.reduceBEq, Nat.reduceAdd, Nat.reduceSub, Nat.reduceMul, Nat.reduceMod, h58]
    refine hK13 _ ?_
    clear hK13 K13
    refine Tr.kp [4] ?_
    simp only [pk_cons, pk_nil, ↓A_cons, ↓reduceIte, Nat.reduceEqDiff]
    refine Tr.ret ?_
    simp -implicitDefEqProofs (disch := first | omega | (simp only [go_sem, List.length_append, List.length_drop, List.length_take, hx2, hy2] <;> omega) | decide) only [go_sem, ↓reduceIte, Nat.reduceEqDiff, reduceCtorEq]
    all_goals (first | exact congrArg (fun z => some (C.val (.int .i64 z))) (cmpL_at (by omega) hA (by omega)).symm | exact congrArg (fun z => some (C.val (.int .i64 z))) (cmpL_end (fun j hj => hA j (by omega))).symm)
   ·
    clear hT hF KT KF
    refine Tr.skip ?_
    refine hK6 _ ?_
    clear hK6 K6
    refine Tr.kp [0, 1, 9, 10, 11] ?_
    simp only [pk_cons, pk_nil, ↓A_cons, ↓reduceIte, Nat.reduceEqDiff]
    refine Tr.rg hcx [] _ [] rfl rfl rfl ?_
    simp -implicitDefEqProofs (maxSteps := 2000000) (disch := first | omega | (simp only [go_sem, List.length_append, List.length_drop, List.length_take, hx2, hy2] <;> omega) | decide) only [go_sem, ↓reduceIte, Nat.reduceEqDiff, reduceCtorEq, Nat.reduceLT, Nat.reduceBEq, Nat.reduceAdd, Nat.reduceSub, Nat.reduceMul, Nat.reduceMod, h58]
    refine ⟨i + 1, ⟨⟨by omega, fun j hj => (Nat.lt_or_eq_of_le (Nat.le_of_lt_succ hj)).elim (hA j) (fun q => q ▸ cmpI_e (by omega))⟩, by first | omega | (simp only []; omega)⟩, ?_, rfl⟩
    (simp only [Le_nil, Le_cons, ↓A_cons, ↓reduceIte, Nat.reduceEqDiff, reduceCtorEq, CLe_refl, CLe_top, CLe_full, CLe_nil, CLe_own, and_true, true_and]; all_goals (repeat' first | exact CLe.refl _ | exact True.intro | (refine CLe_sln ?_; first | with_reducible rfl | (simp only [List.take_zero]; done) | (rfl; done)) | exact CLe_nI (by omega) | exact CLe_int (by omega) | exact CLe_inI (by omega) | exact CLe_nIi (by omega) | with_reducible apply And.intro))
  ·
   clear hT hF KT KF
   obtain rfl : i = x.length := by omega
   refine Tr.exit ?_
   refine hK2 _ ?_
   clear hK5 K5 hK2 K2
   refine Tr.kp [0, 1] ?_
   simp only [pk_cons, pk_nil, ↓A_cons, ↓reduceIte, Nat.reduceEqDiff]
   refine Tr.seqK fun K14 hK14 => ?_
   refine Tr.seqK fun K15 hK15 => ?_
   refine Tr.rg hcx [] _ [] rfl rfl rfl ?_
   simp -implicitDefEqProofs (maxSteps := 2000000) (disch := first | omega | (simp only [go_sem, List.length_append, List.length_drop, List.length_take, hx2, hy2] <;> omega) | decide) only [go_sem, ↓reduceIte, Nat.reduceEqDiff, reduceCtorEq, Nat.reduceLT, Nat.reduceBEq, Nat.reduceAdd, Nat.reduceSub, Nat.reduceMul, Nat.reduceMod, h58, hx2, hy2, Nat.lt_irrefl, decide_false]
   refine hK15 _ ?_
   clear hK15 K15
   refine Tr.kp [35] ?_
   simp only [pk_cons, pk_nil, ↓A_cons, ↓reduceIte, Nat.reduceEqDiff]
   refine Tr.condG fun KT KF hT hF => ?_
   simp only [ev_tmp, ev_const, ↓A_cons, ↓reduceIte, Nat.reduceEqDiff, reduceCtorEq, condG_bool, GB_true, GB_false, decide_eq_true_eq]
   refine hF ?_
   clear hT hF KT KF
   refine Tr.skip ?_
   refine hK14 _ ?_
   clear hK14 K14
   refine Tr.kp [] ?_
   simp only [pk_cons, pk_nil, ↓A_cons, ↓reduceIte, Nat.reduceEqDiff]
   refine Tr.seqK fun K16 hK16 => ?_
   refine Tr.rg hcx [] _ [] rfl rfl rfl ?_
   simp -implicitDefEqProofs (maxSteps := 2000000) (disch := first | omega | (simp only [go_sem, List.length_append, List.length_drop, List.length_take, hx2, hy2] <;> omega) | decide) only [go_sem, ↓reduceIte, Nat.reduceEqDiff, reduceCtorEq, Nat.reduceLT, Nat.reduceBEq, Nat.reduceAdd, Nat.reduceSub, Nat.reduceMul, Nat.reduceMod, h58]
   refine hK16 _ ?_
   clear hK16 K16
   refine Tr.kp [4] ?_
   simp only [pk_cons, pk_nil, ↓A_cons, ↓reduceIte, Nat.reduceEqDiff]
   refine Tr.ret ?_
   simp -implicitDefEqProofs (disch := first | omega | (simp only [go_sem, List.length_append, List.length_drop, List.length_take, hx2, hy2] <;> omega) | decide) only [go_sem, ↓reduceIte, Nat.reduceEqDiff, reduceCtorEq]
   all_goals (first | exact congrArg (fun z => some (C.val (.int .i64 z))) (cmpL_at (by omega) hA (by omega)).symm | exact congrArg (fun z => some (C.val (.int .i64 z))) (cmpL_end (fun j hj => hA j (by omega))).symm)
set_option maxRecDepth 100000 in
set_option maxHeartbeats 8000000 in
theorem fc41 {gl : Nat → C} {M : Nat} {pu : Nat → List C → Option C}  (hcx : CxOK (cxP gl M pu)) (h54 : ∀ a1 a2 b1 b2 : Int, pu 54 [sl iC .no [a1, a2], sl iC .no [b1, b2]] = some (.val (.int .i64 (cmpL [a1, a2] [b1, b2])))) (a1 a2 b1 b2 : Int) : FC Try.prog gl 41 [sl iC .no [a1, a2], sl iC .no [b1, b2]] [] (.val (.bool (befI a1 a2 b1 b2))) [] := by
 replace hcx := hcx.reN (M := 9)
 refine FC.ofA (cx := cxP gl 9 pu) (rs := [.tmp 4]) rfl Try.func41 rfl rfl rfl (by simp only [List.length_cons, List.length_nil]; decide) (by simp only [go_sem]) ?_
 simp only [ini, go_sem]
 refine Tr.seqK fun K1 hK1 => ?_
 refine Tr.rg hcx [] _ [] rfl rfl rfl ?_
 simp -implicitDefEqProofs (maxSteps := 2000000) (disch := first | omega | (simp only [go_sem, List.length_append, List.length_drop, List.length_take] <;> omega) | decide) only [go_sem, ↓reduceIte, Nat.reduceEqDiff, reduceCtorEq, Nat.reduceLT, Nat.reduceBEq, Nat.reduceAdd, Nat.reduceSub, Nat.reduceMul, Nat.reduceMod, h54]
 refine hK1 _ ?_
 clear hK1 K1
 refine Tr.kp [0, 1] ?_
 simp only [pk_cons, pk_nil, ↓A_cons, ↓reduceIte, Nat.reduceEqDiff]
 refine Tr.seqK fun K2 hK2 => ?_
 refine Tr.rg hcx [1000008] _ [] rfl rfl rfl ?_
 simp -implicitDefEqProofs (maxSteps := 2000000) (disch := first | omega | (simp only [go_sem, List.length_append, List.length_drop, List.length_take] <;> omega) | decide) only [go_sem, ↓reduceIte, Nat.reduceEqDiff, reduceCtorEq, Nat.reduceLT, Nat.reduceBEq, Nat.reduceAdd, Nat.reduceSub, Nat.reduceMul, Nat.reduceMod, h54]
 refine hK2 _ ?_
 clear hK2 K2
 refine Tr.kp [4] ?_
 simp only [pk_cons, pk_nil, ↓A_cons, ↓reduceIte, Nat.reduceEqDiff]
 refine Tr.ret ?_
 simp -implicitDefEqProofs (disch := first | omega | (simp only [go_sem, List.length_append, List.length_drop, List.length_take] <;> omega) | decide) only [go_sem, ↓reduceIte, Nat.reduceEqDiff, reduceCtorEq]
 all_goals (exact congrArg (fun z => some (C.val (.bool z))) (cmpL_bef a1 a2 b1 b2))
end Go.Sx
