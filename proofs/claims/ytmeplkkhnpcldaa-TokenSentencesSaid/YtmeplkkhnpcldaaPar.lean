/-
  Package token: Valid. And what follows.
-/
import Derived.Test.YtmeplkkhnpcldaaPaq
set_option linter.unusedSimpArgs false
set_option linter.unusedVariables false
namespace Go.Sx
open Go.RowKit Go.Proofs
theorem bad_T {s : List UInt8} {i : Nat} (h : i < s.length) (hb : badAt s i = true) : bad s = true := List.any_eq_true.2 ⟨i, List.mem_range.2 h, hb⟩
theorem bad_F {s : List UInt8} (h : ∀ j, j < s.length → badAt s j = false) : ¬ bad s = true := by
  intro hb
  obtain ⟨i, h1, h2⟩ := List.any_eq_true.1 hb
  rw [h i (List.mem_range.1 h1)] at h2; cases h2
set_option maxRecDepth 100000 in
set_option maxHeartbeats 8000000 in
theorem fc12 {gl : Nat → C} {M : Nat} {pu : Nat → List C → Option C}  (hcx : CxOK (cxP gl M pu)) (h18 : ∀ s : List UInt8, s.length ≤ 1000000 → pu 18 [.val (str s)] = some (sl tC (.own 3) (toks s))) (h43 : ∀ (s : List UInt8) (i : Nat), i < s.length ∧ s.length ≤ 1000000 → pu 43 [.val (nI i), .kp [.val (str s)]] = some (.val (.bool (badAt s i)))) (hno : ∀ (g : Nat) (xs : List C), refy xs = true → pu g xs = none) (s : List UInt8) (hs : s.length ≤ 1000000) : FC Try.prog gl 12 [.val (str s)] [] (.val (nI (validE s))) [] := by
 replace hcx := hcx.reN (M := 26)
 refine FC.ofA (cx := cxP gl 26 pu) (rs := [.tmp 2]) rfl Try.func12 rfl rfl rfl (by simp only [List.length_cons, List.length_nil]; decide) (by simp only [go_sem]) ?_
 simp only [ini, go_sem]
 have hT := toks_len s
 refine Tr.seqK fun K1 hK1 => ?_
 refine Tr.rg hcx [] _ [none] rfl rfl rfl ?_
 simp -implicitDefEqProofs (maxSteps := 2000000) (disch := first | omega | (simp only [go_sem, List.length_append, List.length_drop, List.length_take] <;> omega) | decide) only [go_sem, ↓reduceIte, Nat.reduceEqDiff, reduceCtorEq, Nat.reduceLT, Nat.reduceBEq, Nat.reduceAdd, Nat.reduceSub, Nat.reduceMul, Nat.reduceMod, h18, h43, hno]
 refine hK1 _ ?_
 clear hK1 K1
 refine Tr.kp [1] ?_
 simp only [pk_cons, pk_nil, ↓A_cons, ↓reduceIte, Nat.reduceEqDiff]
 refine Tr.seqK fun K2 hK2 => ?_
 refine Tr.seqK fun K3 hK3 => ?_
 refine Tr.rg hcx [] _ [] rfl rfl rfl ?_
 simp -implicitDefEqProofs (maxSteps := 2000000) (disch := first | omega | (simp only [go_sem, List.length_append, List.length_drop, List.length_take] <;> omega) | decide) only [go_sem, ↓reduceIte, Nat.reduceEqDiff, reduceCtorEq, Nat.reduceLT, Nat.reduceBEq, Nat.reduceAdd, Nat.reduceSub, Nat.reduceMul, Nat.reduceMod, h18, h43, hno]
 refine hK3 _ ?_
 clear hK3 K3
 refine Tr.kp [1, 7] ?_
 simp only [pk_cons, pk_nil, ↓A_cons, ↓reduceIte, Nat.reduceEqDiff]
 refine Tr.condG fun KT KF hT hF => ?_
 simp only [ev_tmp, ev_const, ↓A_cons, ↓reduceIte, Nat.reduceEqDiff, reduceCtorEq, condG_bool, GB_true, GB_false, decide_eq_true_eq]
 refine GB.dec (fun hc7 => hT ?_) (fun hc7 => hF ?_)
 ·
  clear hT hF KT KF
  refine Tr.seqK fun K4 hK4 => ?_
  refine Tr.rg hcx [] _ [] rfl rfl rfl ?_
  simp -implicitDefEqProofs (maxSteps := 2000000) (disch := first | omega | (simp only [go_sem, List.length_append, List.length_drop, List.length_take] <;> omega) | decide) only [go_sem, ↓reduceIte, Nat.reduceEqDiff, reduceCtorEq, Nat.reduceLT, Nat.reduceBEq, Nat.reduceAdd, Nat.reduceSub, Nat.reduceMul, Nat.reduceMod, h18, h43, hno]
  refine hK4 _ ?_
  clear hK4 K4
  refine Tr.kp [2] ?_
  simp only [pk_cons, pk_nil, ↓A_cons, ↓reduceIte, Nat.reduceEqDiff]
  refine Tr.ret ?_
  simp -implicitDefEqProofs (disch := first | omega | (simp only [go_sem, List.length_append, List.length_drop, List.length_take] <;> omega) | decide) only [go_sem, ↓reduceIte, Nat.reduceEqDiff, reduceCtorEq]
  all_goals (exact congrArg (fun z => some (C.val (nI z))) (by unfold validE; first | rw [if_pos hc7] | rw [if_neg hc7, if_pos (bad_T hc12 hc16)] | rw [if_neg hc7, if_neg (bad_F hA), if_pos hc18] | rw [if_neg hc7, if_neg (bad_F hA), if_neg hc18, if_pos hc21] | rw [if_neg hc7, if_neg (bad_F hA), if_neg hc18, if_neg hc21]))
 ·
  clear hT hF KT KF
  refine Tr.skip ?_
  refine hK2 _ ?_
  clear hK2 K2
  refine Tr.kp [1] ?_
  simp only [pk_cons, pk_nil, ↓A_cons, ↓reduceIte, Nat.reduceEqDiff]
  refine Tr.seqK fun K5 hK5 => ?_
  refine Tr.rg hcx [1000008] _ [] rfl rfl rfl ?_
  simp -implicitDefEqProofs (maxSteps := 2000000) (disch := first | omega | (simp only [go_sem, List.length_append, List.length_drop, List.length_take] <;> omega) | decide) only [go_sem, ↓reduceIte, Nat.reduceEqDiff, reduceCtorEq, Nat.reduceLT, Nat.reduceBEq, Nat.reduceAdd, Nat.reduceSub, Nat.reduceMul, Nat.reduceMod, h18, h43, hno]
  refine hK5 _ ?_
  clear hK5 K5
  refine Tr.kp [1, 3] ?_
  simp only [pk_cons, pk_nil, ↓A_cons, ↓reduceIte, Nat.reduceEqDiff]
  refine Tr.seqK fun K6 hK6 => ?_
  refine Tr.seqK fun K7 hK7 => ?_
  refine Tr.rg hcx [] _ [] rfl rfl rfl ?_
  simp -implicitDefEqProofs (maxSteps := 2000000) (disch := first | omega | (simp only [go_sem, List.length_append, List.length_drop, List.length_take] <;> omega) | decide) only [go_sem, ↓reduceIte, Nat.reduceEqDiff, reduceCtorEq, Nat.reduceLT, Nat.reduceBEq, Nat.reduceAdd, Nat.reduceSub, Nat.reduceMul, Nat.reduceMod, h18, h43, hno]
  refine hK7 _ ?_
  clear hK7 K7
  refine Tr.kp [1, 3, 10, 11] ?_
  simp only [pk_cons, pk_nil, ↓A_cons, ↓reduceIte, Nat.reduceEqDiff]
  refine Tr.blk ?_
  refine Tr.loopI (α := Nat) (fun a => [(1, ?v1_16), (3, ?v3_16), (10, ?v10_16), (11, .val (nI a))]) (fun a => [some [.val (str s)]]) (fun a => a ≤ s.length ∧ ∀ j, j < a → badAt s j = false) (fun a => s.length - a) (0) ⟨Nat.zero_le _, fun j hj => absurd hj (Nat.not_lt_zero j)⟩ ?le_16 ?hh_16 ?bd_16
  case hh_16 => exact rfl
  case le_16 => (simp only [Le_nil, Le_cons, ↓A_cons, ↓reduceIte, Nat.reduceEqDiff, reduceCtorEq, CLe_refl, CLe_top, CLe_full, CLe_nil, CLe_own, and_true, true_and]; all_goals (repeat' first | exact CLe.refl _ | exact True.intro | (refine CLe_sln ?_; first | with_reducible rfl | (simp only [List.take_zero]; done) | (rfl; done)) | exact CLe_nI (by omega) | exact CLe_int (by omega) | exact CLe_inI (by omega) | exact CLe_nIi (by omega) | with_reducible apply And.intro))
  case bd_16 =>
   rintro i ⟨hi, hA⟩
   refine Tr.seqK fun K8 hK8 => ?_
   refine Tr.rg hcx [] _ [] rfl rfl rfl ?_
   simp -implicitDefEqProofs (maxSteps := 2000000) (disch := first | omega | (simp only [go_sem, List.length_append, List.length_drop, List.length_take] <;> omega) | decide) only [go_sem, ↓reduceIte, Nat.reduceEqDiff, reduceCtorEq, Nat.reduceLT, Nat.reduceBEq, Nat.reduceAdd, Nat.reduceSub, Nat.reduceMul, Nat.reduceMod, h18, h43, hno]
   refine hK8 _ ?_
   clear hK8 K8
   refine Tr.kp [1, 3, 10, 11, 12] ?_
   simp only [pk_cons, pk_nil, ↓A_cons, ↓reduceIte, Nat.reduceEqDiff]
   refine Tr.seqK fun K9 hK9 => ?_
   refine Tr.condG fun KT KF hT hF => ?_
   simp only [ev_tmp, ev_const, ↓A_cons, ↓reduceIte, Nat.reduceEqDiff, reduceCtorEq, condG_bool, GB_true, GB_false, decide_eq_true_eq]
   refine GB.dec (fun hc12 => hT ?_) (fun hc12 => hF ?_)
   ·
    clear hT hF KT KF
    refine Tr.skip ?_
    refine hK9 _ ?_
    clear hK9 K9
    refine Tr.kp [1, 3, 10, 11] ?_
    simp only [pk_cons, pk_nil, ↓A_cons, ↓reduceIte, Nat.reduceEqDiff]
    refine Tr.seqK fun K10 hK10 => ?_
    refine Tr.blk ?_
    refine Tr.seqK fun K11 hK11 => ?_
    refine Tr.rg hcx [1000013] _ [] rfl rfl rfl ?_
    simp -implicitDefEqProofs (maxSteps := 2000000) (disch := first | omega | (simp only [go_sem, List.length_append, List.length_drop, List.length_take] <;> omega) | decide) only [go_sem, ↓reduceIte, Nat.reduceEqDiff, reduceCtorEq, Nat.reduceLT, Nat.reduceBEq, Nat.reduceAdd, Nat.reduceSub, Nat.reduceMul, Nat.reduceMod, h18, h43, hno]
    refine hK11 _ ?_
    clear hK11 K11
    refine Tr.kp [1, 3, 4, 10, 11] ?_
    simp only [pk_cons, pk_nil, ↓A_cons, ↓reduceIte, Nat.reduceEqDiff]
    refine Tr.seqK fun K12 hK12 => ?_
    refine Tr.rg hcx [] _ [] rfl rfl rfl ?_
    simp -implicitDefEqProofs (maxSteps := 2000000) (disch := first | omega | (simp only [go_sem, List.length_append, List.length_drop, List.length_take] <;> omega) | decide) only [go_sem, ↓reduceIte, Nat.reduceEqDiff, reduceCtorEq, Nat.reduceLT, Nat.reduceBEq, Nat.reduceAdd, Nat.reduceSub, Nat.reduceMul, Nat.reduceMod, h18, h43, hno]
    refine hK12 _ ?_
    clear hK12 K12
    refine Tr.kp [1, 3, 10, 11, 16] ?_
    simp only [pk_cons, pk_nil, ↓A_cons, ↓reduceIte, Nat.reduceEqDiff]
    refine Tr.condG fun KT KF hT hF => ?_
    simp only [ev_tmp, ev_const, ↓A_cons, ↓reduceIte, Nat.reduceEqDiff, reduceCtorEq, condG_bool, GB_true, GB_false, decide_eq_true_eq]
    refine GB.mk (fun hc16 => hT ?_) (fun hc16 => hF ?_)
    ·
     clear hT hF KT KF
     refine Tr.seqK fun K13 hK13 => ?_
     refine Tr.rg hcx [] _ [] rfl rfl rfl ?_
     simp -implicitDefEqProofs (maxSteps := 2000000) (disch := first | omega | (simp only [go_sem, List.length_append, List.length_drop, List.length_take] <;> omega) | decide) only [go_sem, ↓reduceIte, Nat.reduceEqDiff, reduceCtorEq, Nat.reduceLT, Nat.reduceBEq, Nat.reduceAdd, Nat.reduceSub, Nat.reduceMul, Nat.reduceMod, h18, h43, hno]
     refine hK13 _ ?_
     clear hK13 K13
     refine Tr.kp [2] ?_
     simp only [pk_cons, pk_nil, ↓A_cons, ↓reduceIte, Nat.reduceEqDiff]
     refine Tr.ret ?_
     simp -implicitDefEqProofs (disch := first | omega | (simp only [go_sem, List.length_append, List.length_drop, List.length_take] <;> omega) | decide) only [go_sem, ↓reduceIte, Nat.reduceEqDiff, reduceCtorEq]
     all_goals (exact congrArg (fun z => some (C.val (nI z))) (by unfold validE; first | rw [if_pos hc7] | rw [if_neg hc7, if_pos (bad_T hc12 hc16)] | rw [if_neg hc7, if_neg (bad_F hA), if_pos hc18] | rw [if_neg hc7, if_neg (bad_F hA), if_neg hc18, if_pos hc21] | rw [if_neg hc7, if_neg (bad_F hA), if_neg hc18, if_neg hc21]))
    ·
     clear hT hF KT KF
     refine Tr.skip ?_
     refine hK10 _ ?_
     clear hK10 K10
     refine Tr.kp [1, 3, 10, 11] ?_
     simp only [pk_cons, pk_nil, ↓A_cons, ↓reduceIte, Nat.reduceEqDiff]
     refine Tr.rg hcx [] _ [] rfl rfl rfl ?_
     simp -implicitDefEqProofs (maxSteps := 2000000) (disch := first | omega | (simp only [go_sem, List.length_append, List.length_drop, List.length_take] <;> omega) | decide) only [go_sem, ↓reduceIte, Nat.reduceEqDiff, reduceCtorEq, Nat.reduceLT, Nat.reduceBEq, Nat.reduceAdd, Nat.reduceSub, Nat.reduceMul, Nat.reduceMod, h18, h43, hno]
     refine ⟨i + 1, ⟨⟨by omega, fun j hj => (Nat.lt_or_eq_of_le (Nat.le_of_lt_succ hj)).elim (hA j) (fun e => e ▸ hc16)⟩, by first | omega | (simp only []; omega)⟩, ?_, rfl⟩
     (simp only [Le_nil, Le_cons, ↓A_cons, ↓reduceIte, Nat.reduceEqDiff, reduceCtorEq, CLe_refl, CLe_top, CLe_full, CLe_nil, CLe_own, and_true, true_and]; all_goals (repeat' first | exact CLe.refl _ | exact True.intro | (refine CLe_sln ?_; first | with_reducible rfl | (simp only [List.take_zero]; done) | (rfl; done)) | exact CLe_nI (by omega) | exact CLe_int (by omega) | exact CLe_inI (by omega) | exact CLe_nIi (by omega) | with_reducible apply And.intro))
   ·
    clear hT hF KT KF
    obtain rfl : i = s.length := by omega
    refine Tr.exit ?_
    refine hK6 _ ?_
    clear hK9 K9 hK6 K6
    refine Tr.kp [1] ?_
    simp only [pk_cons, pk_nil, ↓A_cons, ↓reduceIte, Nat.reduceEqDiff]
    refine Tr.seqK fun K14 hK14 => ?_
    refine Tr.blk ?_
    refine Tr.seqK fun K15 hK15 => ?_
    refine Tr.rg hcx [1000020] _ [] rfl rfl rfl ?_
    simp -implicitDefEqProofs (maxSteps := 2000000) (disch := first | omega | (simp only [go_sem, List.length_append, List.length_drop, List.length_take] <;> omega) | decide) only [go_sem, ↓reduceIte, Nat.reduceEqDiff, reduceCtorEq, Nat.reduceLT, Nat.reduceBEq, Nat.reduceAdd, Nat.reduceSub, Nat.reduceMul, Nat.reduceMod, h18, h43, hno]
    refine hK15 _ ?_
    clear hK15 K15
    refine Tr.kp [1, 18] ?_
    simp only [pk_cons, pk_nil, ↓A_cons, ↓reduceIte, Nat.reduceEqDiff]
    refine Tr.condG fun KT KF hT hF => ?_
    simp only [ev_tmp, ev_const, ↓A_cons, ↓reduceIte, Nat.reduceEqDiff, reduceCtorEq, condG_bool, GB_true, GB_false, decide_eq_true_eq]
    refine GB.dec (fun hc18 => hT ?_) (fun hc18 => hF ?_)
    ·
     clear hT hF KT KF
     refine Tr.seqK fun K16 hK16 => ?_
     refine Tr.rg hcx [] _ [] rfl rfl rfl ?_
     simp -implicitDefEqProofs (maxSteps := 2000000) (disch := first | omega | (simp only [go_sem, List.length_append, List.length_drop, List.length_take] <;> omega) | decide) only [go_sem, ↓reduceIte, Nat.reduceEqDiff, reduceCtorEq, Nat.reduceLT, Nat.reduceBEq, Nat.reduceAdd, Nat.reduceSub, Nat.reduceMul, Nat.reduceMod, h18, h43, hno]
     refine hK16 _ ?_
     clear hK16 K16
     refine Tr.kp [2] ?_
     simp only [pk_cons, pk_nil, ↓A_cons, ↓reduceIte, Nat.reduceEqDiff]
     refine Tr.ret ?_
     simp -implicitDefEqProofs (disch := first | omega | (simp only [go_sem, List.length_append, List.length_drop, List.length_take] <;> omega) | decide) only [go_sem, ↓reduceIte, Nat.reduceEqDiff, reduceCtorEq]
     all_goals (exact congrArg (fun z => some (C.val (nI z))) (by unfold validE; first | rw [if_pos hc7] | rw [if_neg hc7, if_pos (bad_T hc12 hc16)] | rw [if_neg hc7, if_neg (bad_F hA), if_pos hc18] | rw [if_neg hc7, if_neg (bad_F hA), if_neg hc18, if_pos hc21] | rw [if_neg hc7, if_neg (bad_F hA), if_neg hc18, if_neg hc21]))
    ·
     clear hT hF KT KF
     refine Tr.seqK fun K17 hK17 => ?_
     refine Tr.rg hcx [1000025] _ [] rfl rfl rfl ?_
     simp -implicitDefEqProofs (maxSteps := 2000000) (disch := first | omega | (simp only [go_sem, List.length_append, List.length_drop, List.length_take] <;> omega) | decide) only [go_sem, ↓reduceIte, Nat.reduceEqDiff, reduceCtorEq, Nat.reduceLT, Nat.reduceBEq, Nat.reduceAdd, Nat.reduceSub, Nat.reduceMul, Nat.reduceMod, h18, h43, hno]
     refine hK17 _ ?_
     clear hK17 K17
     refine Tr.kp [21] ?_
     simp only [pk_cons, pk_nil, ↓A_cons, ↓reduceIte, Nat.reduceEqDiff]
     refine Tr.condG fun KT KF hT hF => ?_
     simp only [ev_tmp, ev_const, ↓A_cons, ↓reduceIte, Nat.reduceEqDiff, reduceCtorEq, condG_bool, GB_true, GB_false, decide_eq_true_eq]
     refine GB.dec (fun hc21 => hT ?_) (fun hc21 => hF ?_)
     ·
      clear hT hF KT KF
      refine Tr.seqK fun K18 hK18 => ?_
      refine Tr.rg hcx [] _ [] rfl rfl rfl ?_
      simp -implicitDefEqProofs (maxSteps := 2000000) (disch := first | omega | (simp only [go_sem, List.length_append, List.length_drop, List.length_take] <;> omega) | decide) only [go_sem, ↓reduceIte, Nat.reduceEqDiff, reduceCtorEq, Nat.reduceLT, Nat.reduceBEq, Nat.reduceAdd, Nat.reduceSub, Nat.reduceMul, Nat.reduceMod, h18, h43, hno]
      refine hK18 _ ?_
      clear hK18 K18
      refine Tr.kp [2] ?_
      simp only [pk_cons, pk_nil, ↓A_cons, ↓reduceIte, Nat.reduceEqDiff]
      refine Tr.ret ?_
      simp -implicitDefEqProofs (disch := first | omega | (simp only [go_sem, List.length_append, List.length_drop, List.length_take] <;> omega) | decide) only [go_sem, ↓reduceIte, Nat.reduceEqDiff, reduceCtorEq]
      all_goals (exact congrArg (fun z => some (C.val (nI z))) (by unfold validE; first | rw [if_pos hc7] | rw [if_neg hc7, if_pos (bad_T hc12 hc16)] | rw [if_neg hc7, if_neg (bad_F hA), if_pos hc18] | rw [if_neg hc7, if_neg (bad_F hA), if_neg hc18, if_pos hc21] | rw [if_neg hc7, if_neg (bad_F hA), if_neg hc18, if_neg hc21]))
     ·
      clear hT hF KT KF
      refine Tr.skip ?_
      refine hK14 _ ?_
      clear hK14 K14
      refine Tr.kp [] ?_
      simp only [pk_cons, pk_nil, ↓A_cons, ↓reduceIte, Nat.reduceEqDiff]
      refine Tr.seqK fun K19 hK19 => ?_
      refine Tr.rg hcx [] _ [] rfl rfl rfl ?_
      simp -implicitDefEqProofs (maxSteps := 2000000) (disch := first | omega | (simp only [go_sem, List.length_append, List.length_drop, List.length_take] <;> omega) | decide) only [go_sem, ↓reduceIte, Nat.reduceEqDiff, reduceCtorEq, Nat.reduceLT, Nat.reduceBEq, Nat.reduceAdd, Nat.reduceSub, Nat.reduceMul, Nat.reduceMod, h18, h43, hno]
      refine hK19 _ ?_
      clear hK19 K19
      refine Tr.kp [2] ?_
      simp only [pk_cons, pk_nil, ↓A_cons, ↓reduceIte, Nat.reduceEqDiff]
      refine Tr.ret ?_
      simp -implicitDefEqProofs (disch := first | omega | (simp only [go_sem, List.length_append, List.length_drop, List.length_take] <;> omega) | decide) only [go_sem, ↓reduceIte, Nat.reduceEqDiff, reduceCtorEq]
      all_goals (exact congrArg (fun z => some (C.val (nI z))) (by unfold validE; first | rw [if_pos hc7] | rw [if_neg hc7, if_pos (bad_T hc12 hc16)] | rw [if_neg hc7, if_neg (bad_F hA), if_pos hc18] | rw [if_neg hc7, if_neg (bad_F hA), if_neg hc18, if_pos hc21] | rw [if_neg hc7, if_neg (bad_F hA), if_neg hc18, if_neg hc21]))
end Go.Sx
namespace Go.Sx
open Go.RowKit Go.Proofs
theorem badAt_F {s : List UInt8} {i : Nat} (hi : i < s.length) (d2 : ¬ gt s 0 = 32) (d3 : ¬ gt s (s.length - 1) = 32) (b1 : ¬ gt s i < 32) (b2 : ¬ 126 < gt s i) (b : ¬ (gt s i = 32 ∧ 0 < i ∧ gt s (i - 1) = 32)) : badAt s i = false := by
  unfold badAt
  rw [decide_eq_false b1, decide_eq_false b2, Bool.false_or, Bool.false_or]
  by_cases h : gt s i = 32
  · rw [decide_eq_true h, Bool.true_and]
    by_cases h0 : i = 0
    · subst h0; exact absurd h d2
    · by_cases h1 : i + 1 = s.length
      · rw [← h1, Nat.add_sub_cancel] at d3; exact absurd h d3
      · rw [decide_eq_false h0, decide_eq_false h1, decide_eq_false (fun q => b ⟨h, by omega, q⟩)]; rfl
  · rw [decide_eq_false h, Bool.false_and]
theorem badAt_1 {s : List UInt8} {i : Nat} (h : gt s i < 32) : badAt s i = true := by unfold badAt; rw [decide_eq_true h]; rfl
theorem badAt_2 {s : List UInt8} {i : Nat} (h : 126 < gt s i) : badAt s i = true := by unfold badAt; rw [decide_eq_true h]; simp
theorem badAt_3 {s : List UInt8} {i : Nat} (h : gt s i = 32) (h2 : gt s (i - 1) = 32) : badAt s i = true := by unfold badAt; rw [decide_eq_true h, decide_eq_true h2]; simp
theorem badAt_0 {s : List UInt8} (h : gt s 0 = 32) : badAt s 0 = true := by unfold badAt; rw [decide_eq_true h]; simp
theorem badAt_l {s : List UInt8} (h0 : ¬ s.length = 0) (h : gt s (s.length - 1) = 32) : badAt s (s.length - 1) = true := by
  unfold badAt; rw [decide_eq_true h, decide_eq_true (show s.length - 1 + 1 = s.length by omega)]; simp
theorem val_2 {s : List UInt8} (h7 : ¬ 4096 < s.length) (h : bad s = true) : validE s = 2 := by unfold validE; rw [if_neg h7, if_pos h]
theorem val_0 {s : List UInt8} (h : s.length = 0) : validE s = 2 := by
  have : s = [] := List.eq_nil_of_length_eq_zero h
  subst this; rfl
set_option maxRecDepth 100000 in
set_option maxHeartbeats 8000000 in
theorem fc13 {gl : Nat → C} {M : Nat} {pu : Nat → List C → Option C}  (hcx : CxOK (cxP gl M pu)) (h15 : ∀ s : List UInt8, s.length ≤ 1000000 → pu 15 [.val (str s)] = some (sl tC .no (toks s))) (s : List UInt8) (hs : s.length ≤ 1000000) : FC Try.prog gl 13 [.val (str s)] [] (.val (nI (validE s))) [] := by
 replace hcx := hcx.reN (M := 60)
 refine FC.ofA (cx := cxP gl 60 pu) (rs := [.tmp 2]) rfl Try.func13 rfl rfl rfl (by simp only [List.length_cons, List.length_nil]; decide) (by simp only [go_sem]) ?_
 simp only [ini, go_sem]
 have hT := toks_len s
 refine Tr.seqK fun K1 hK1 => ?_
 refine Tr.rg hcx [] _ [] rfl rfl rfl ?_
 simp -implicitDefEqProofs (maxSteps := 2000000) (disch := first | omega | (simp only [go_sem, List.length_append, List.length_drop, List.length_take] <;> omega) | decide) only [go_sem, ↓reduceIte, Nat.reduceEqDiff, reduceCtorEq, Nat.reduceLT, Nat.reduceBEq, Nat.reduceAdd, Nat.reduceSub, Nat.reduceMul, Nat.reduceMod, h15]
 refine hK1 _ ?_
 clear hK1 K1
 refine Tr.kp [0] ?_
 simp only [pk_cons, pk_nil, ↓A_cons, ↓reduceIte, Nat.reduceEqDiff]
 refine Tr.seqK fun K2 hK2 => ?_
 refine Tr.seqK fun K3 hK3 => ?_
 refine Tr.rg hcx [] _ [] rfl rfl rfl ?_
 simp -implicitDefEqProofs (maxSteps := 2000000) (disch := first | omega | (simp only [go_sem, List.length_append, List.length_drop, List.length_take] <;> omega) | decide) only [go_sem, ↓reduceIte, Nat.reduceEqDiff, reduceCtorEq, Nat.reduceLT, Nat.reduceBEq, Nat.reduceAdd, Nat.reduceSub, Nat.reduceMul, Nat.reduceMod, h15]
 refine hK3 _ ?_
 clear hK3 K3
 refine Tr.kp [0, 6] ?_
 simp only [pk_cons, pk_nil, ↓A_cons, ↓reduceIte, Nat.reduceEqDiff]
 refine Tr.condG fun KT KF hT hF => ?_
 simp only [ev_tmp, ev_const, ↓A_cons, ↓reduceIte, Nat.reduceEqDiff, reduceCtorEq, condG_bool, GB_true, GB_false, decide_eq_true_eq]
 refine GB.dec (fun hc6 => hT ?_) (fun hc6 => hF ?_)
 ·
  clear hT hF KT KF
  refine Tr.seqK fun K4 hK4 => ?_
  refine Tr.rg hcx [] _ [] rfl rfl rfl ?_
  simp -implicitDefEqProofs (maxSteps := 2000000) (disch := first | omega | (simp only [go_sem, List.length_append, List.length_drop, List.length_take] <;> omega) | decide) only [go_sem, ↓reduceIte, Nat.reduceEqDiff, reduceCtorEq, Nat.reduceLT, Nat.reduceBEq, Nat.reduceAdd, Nat.reduceSub, Nat.reduceMul, Nat.reduceMod, h15]
  refine hK4 _ ?_
  clear hK4 K4
  refine Tr.kp [2] ?_
  simp only [pk_cons, pk_nil, ↓A_cons, ↓reduceIte, Nat.reduceEqDiff]
  refine Tr.ret ?_
  simp -implicitDefEqProofs (disch := first | omega | (simp only [go_sem, List.length_append, List.length_drop, List.length_take] <;> omega) | decide) only [go_sem, ↓reduceIte, Nat.reduceEqDiff, reduceCtorEq]
  all_goals (exact congrArg (fun z => some (C.val (nI z))) (by first | (unfold validE; rw [if_pos hc6]) | rw [val_0 d1o] | rw [val_2 hc6 (bad_T (by omega) (badAt_0 d2o))] | rw [val_2 hc6 (bad_T (by omega) (badAt_l d1o hc22))] | rw [val_2 hc6 (bad_T hc26 (badAt_1 b1))] | rw [val_2 hc6 (bad_T hc26 (badAt_2 b2))] | rw [val_2 hc6 (bad_T hc26 (badAt_3 b4o hc55))] | (unfold validE; rw [if_neg hc6, if_neg (bad_F hA), if_neg (fun e => d1o (by rw [e]; rfl)), if_pos hc59]) | (unfold validE; rw [if_neg hc6, if_neg (bad_F hA), if_neg (fun e => d1o (by rw [e]; rfl)), if_neg hc59])))
 ·
  clear hT hF KT KF
  refine Tr.skip ?_
  refine hK2 _ ?_
  clear hK2 K2
  refine Tr.kp [0] ?_
  simp only [pk_cons, pk_nil, ↓A_cons, ↓reduceIte, Nat.reduceEqDiff]
  refine Tr.seqK fun K5 hK5 => ?_
  refine Tr.seqK fun K6 hK6 => ?_
  by_cases d1 : s.length = 0
  ·
   have d1o := d1
   replace d1 := eq_true d1
   refine Tr.rg hcx [] [some 7, some 8, some 9, some 10, some 11, some 12, some 13, some 14, some 15, some 16, some 17, some 18, some 19, some 20, some 21, some 22] [] rfl rfl rfl ?_
   simp -implicitDefEqProofs (maxSteps := 2000000) (disch := first | omega | (simp only [go_sem, List.length_append, List.length_drop, List.length_take] <;> omega) | decide) only [go_sem, ↓reduceIte, Nat.reduceEqDiff, reduceCtorEq, Nat.reduceLT, Nat.reduceBEq, Nat.reduceAdd, Nat.reduceSub, Nat.reduceMul, Nat.reduceMod, h15, d1]
   refine hK6 _ ?_
   clear hK6 K6
   refine Tr.kp [0, 22] ?_
   simp only [pk_cons, pk_nil, ↓A_cons, ↓reduceIte, Nat.reduceEqDiff]
   refine Tr.condG fun KT KF hT hF => ?_
   simp only [ev_tmp, ev_const, ↓A_cons, ↓reduceIte, Nat.reduceEqDiff, reduceCtorEq, condG_bool, GB_true, GB_false, decide_eq_true_eq]
   refine hT ?_
   clear hT hF KT KF
   refine Tr.seqK fun K7 hK7 => ?_
   refine Tr.rg hcx [] _ [] rfl rfl rfl ?_
   simp -implicitDefEqProofs (maxSteps := 2000000) (disch := first | omega | (simp only [go_sem, List.length_append, List.length_drop, List.length_take] <;> omega) | decide) only [go_sem, ↓reduceIte, Nat.reduceEqDiff, reduceCtorEq, Nat.reduceLT, Nat.reduceBEq, Nat.reduceAdd, Nat.reduceSub, Nat.reduceMul, Nat.reduceMod, h15, d1]
   refine hK7 _ ?_
   clear hK7 K7
   refine Tr.kp [2] ?_
   simp only [pk_cons, pk_nil, ↓A_cons, ↓reduceIte, Nat.reduceEqDiff]
   refine Tr.ret ?_
   simp -implicitDefEqProofs (disch := first | omega | (simp only [go_sem, List.length_append, List.length_drop, List.length_take] <;> omega) | decide) only [go_sem, ↓reduceIte, Nat.reduceEqDiff, reduceCtorEq]
   all_goals (exact congrArg (fun z => some (C.val (nI z))) (by first | (unfold validE; rw [if_pos hc6]) | rw [val_0 d1o] | rw [val_2 hc6 (bad_T (by omega) (badAt_0 d2o))] | rw [val_2 hc6 (bad_T (by omega) (badAt_l d1o hc22))] | rw [val_2 hc6 (bad_T hc26 (badAt_1 b1))] | rw [val_2 hc6 (bad_T hc26 (badAt_2 b2))] | rw [val_2 hc6 (bad_T hc26 (badAt_3 b4o hc55))] | (unfold validE; rw [if_neg hc6, if_neg (bad_F hA), if_neg (fun e => d1o (by rw [e]; rfl)), if_pos hc59]) | (unfold validE; rw [if_neg hc6, if_neg (bad_F hA), if_neg (fun e => d1o (by rw [e]; rfl)), if_neg hc59])))
  ·
   have d1o := d1
   replace d1 := eq_false d1
   by_cases d2 : gt s 0 = UInt8.ofNat 32
   ·
    have d2o := d2
    replace d2 := eq_true d2
    refine Tr.rg hcx [] [some 7, some 8, some 9, some 10, some 11, some 12, some 13, some 14, some 15, some 16, some 17, some 18, some 19, some 20, some 21, some 22] [] rfl rfl rfl ?_
    simp -implicitDefEqProofs (maxSteps := 2000000) (disch := first | omega | (simp only [go_sem, List.length_append, List.length_drop, List.length_take] <;> omega) | decide) only [go_sem, ↓reduceIte, Nat.reduceEqDiff, reduceCtorEq, Nat.reduceLT, Nat.reduceBEq, Nat.reduceAdd, Nat.reduceSub, Nat.reduceMul, Nat.reduceMod, h15, d1, d2]
    refine hK6 _ ?_
    clear hK6 K6
    refine Tr.kp [0, 22] ?_
    simp only [pk_cons, pk_nil, ↓A_cons, ↓reduceIte, Nat.reduceEqDiff]
    refine Tr.condG fun KT KF hT hF => ?_
    simp only [ev_tmp, ev_const, ↓A_cons, ↓reduceIte, Nat.reduceEqDiff, reduceCtorEq, condG_bool, GB_true, GB_false, decide_eq_true_eq]
    refine hT ?_
    clear hT hF KT KF
    refine Tr.seqK fun K8 hK8 => ?_
    refine Tr.rg hcx [] _ [] rfl rfl rfl ?_
    simp -implicitDefEqProofs (maxSteps := 2000000) (disch := first | omega | (simp only [go_sem, List.length_append, List.length_drop, List.length_take] <;> omega) | decide) only [go_sem, ↓reduceIte, Nat.reduceEqDiff, reduceCtorEq, Nat.reduceLT, Nat.reduceBEq, Nat.reduceAdd, Nat.reduceSub, Nat.reduceMul, Nat.reduceMod, h15, d1, d2]
    refine hK8 _ ?_
    clear hK8 K8
    refine Tr.kp [2] ?_
    simp only [pk_cons, pk_nil, ↓A_cons, ↓reduceIte, Nat.reduceEqDiff]
    refine Tr.ret ?_
    simp -implicitDefEqProofs (disch := first | omega | (simp only [go_sem, List.length_append, List.length_drop, List.length_take] <;> omega) | decide) only [go_sem, ↓reduceIte, Nat.reduceEqDiff, reduceCtorEq]
    all_goals (exact congrArg (fun z => some (C.val (nI z))) (by first | (unfold validE; rw [if_pos hc6]) | rw [val_0 d1o] | rw [val_2 hc6 (bad_T (by omega) (badAt_0 d2o))] | rw [val_2 hc6 (bad_T (by omega) (badAt_l d1o hc22))] | rw [val_2 hc6 (bad_T hc26 (badAt_1 b1))] | rw [val_2 hc6 (bad_T hc26 (badAt_2 b2))] | rw [val_2 hc6 (bad_T hc26 (badAt_3 b4o hc55))] | (unfold validE; rw [if_neg hc6, if_neg (bad_F hA), if_neg (fun e => d1o (by rw [e]; rfl)), if_pos hc59]) | (unfold validE; rw [if_neg hc6, if_neg (bad_F hA), if_neg (fun e => d1o (by rw [e]; rfl)), if_neg hc59])))
   ·
    have d2o := d2
    replace d2 := eq_false d2
    refine Tr.rg hcx [] [some 7, some 8, some 9, some 10, some 11, some 12, some 13, some 14, some 15, some 16, some 17, some 18, some 19, some 20, some 21, some 22] [] rfl rfl rfl ?_
    simp -implicitDefEqProofs (maxSteps := 2000000) (disch := first | omega | (simp only [go_sem, List.length_append, List.length_drop, List.length_take] <;> omega) | decide) only [go_sem, ↓reduceIte, Nat.reduceEqDiff, reduceCtorEq, Nat.reduceLT, Nat.reduceBEq, Nat.reduceAdd, Nat.reduceSub, Nat.reduceMul, Nat.reduceMod, h15, d1, d2]
    refine hK6 _ ?_
    clear hK6 K6
    refine Tr.kp [0, 22] ?_
    simp only [pk_cons, pk_nil, ↓A_cons, ↓reduceIte, Nat.reduceEqDiff]
    refine Tr.condG fun KT KF hT hF => ?_
    simp only [ev_tmp, ev_const, ↓A_cons, ↓reduceIte, Nat.reduceEqDiff, reduceCtorEq, condG_bool, GB_true, GB_false, decide_eq_true_eq]
    refine GB.dec (fun hc22 => hT ?_) (fun hc22 => hF ?_)
    ·
     clear hT hF KT KF
     refine Tr.seqK fun K9 hK9 => ?_
     refine Tr.rg hcx [] _ [] rfl rfl rfl ?_
     simp -implicitDefEqProofs (maxSteps := 2000000) (disch := first | omega | (simp only [go_sem, List.length_append, List.length_drop, List.length_take] <;> omega) | decide) only [go_sem, ↓reduceIte, Nat.reduceEqDiff, reduceCtorEq, Nat.reduceLT, Nat.reduceBEq, Nat.reduceAdd, Nat.reduceSub, Nat.reduceMul, Nat.reduceMod, h15, d1, d2]
     refine hK9 _ ?_
     clear hK9 K9
     refine Tr.kp [2] ?_
     simp only [pk_cons, pk_nil, ↓A_cons, ↓reduceIte, Nat.reduceEqDiff]
     refine Tr.ret ?_
     simp -implicitDefEqProofs (disch := first | omega | (simp only [go_sem, List.length_append, List.length_drop, List.length_take] <;> omega) | decide) only [go_sem, ↓reduceIte, Nat.reduceEqDiff, reduceCtorEq]
     all_goals (exact congrArg (fun z => some (C.val (nI z))) (by first | (unfold validE; rw [if_pos hc6]) | rw [val_0 d1o] | rw [val_2 hc6 (bad_T (by omega) (badAt_0 d2o))] | rw [val_2 hc6 (bad_T (by omega) (badAt_l d1o hc22))] | rw [val_2 hc6 (bad_T hc26 (badAt_1 b1))] | rw [val_2 hc6 (bad_T hc26 (badAt_2 b2))] | rw [val_2 hc6 (bad_T hc26 (badAt_3 b4o hc55))] | (unfold validE; rw [if_neg hc6, if_neg (bad_F hA), if_neg (fun e => d1o (by rw [e]; rfl)), if_pos hc59]) | (unfold validE; rw [if_neg hc6, if_neg (bad_F hA), if_neg (fun e => d1o (by rw [e]; rfl)), if_neg hc59])))
    ·
     clear hT hF KT KF
     refine Tr.skip ?_
     refine hK5 _ ?_
     clear hK5 K5
     refine Tr.kp [0] ?_
     simp only [pk_cons, pk_nil, ↓A_cons, ↓reduceIte, Nat.reduceEqDiff]
     refine Tr.seqK fun K10 hK10 => ?_
     refine Tr.seqK fun K11 hK11 => ?_
     refine Tr.rg hcx [] _ [] rfl rfl rfl ?_
     simp -implicitDefEqProofs (maxSteps := 2000000) (disch := first | omega | (simp only [go_sem, List.length_append, List.length_drop, List.length_take] <;> omega) | decide) only [go_sem, ↓reduceIte, Nat.reduceEqDiff, reduceCtorEq, Nat.reduceLT, Nat.reduceBEq, Nat.reduceAdd, Nat.reduceSub, Nat.reduceMul, Nat.reduceMod, h15, d1, d2]
     refine hK11 _ ?_
     clear hK11 K11
     refine Tr.kp [0, 3] ?_
     simp only [pk_cons, pk_nil, ↓A_cons, ↓reduceIte, Nat.reduceEqDiff]
     refine Tr.blk ?_
     refine Tr.loopI (α := Nat) (fun a => [(0, ?v0_22), (3, .val (nI a))]) (fun a => ?h_22) (fun a => a ≤ s.length ∧ ∀ j, j < a → badAt s j = false) (fun a => s.length - a) (0) ⟨Nat.zero_le _, fun j hj => absurd hj (Nat.not_lt_zero j)⟩ ?le_22 ?hh_22 ?bd_22
     case hh_22 => exact rfl
     case le_22 => (simp only [Le_nil, Le_cons, ↓A_cons, ↓reduceIte, Nat.reduceEqDiff, reduceCtorEq, CLe_refl, CLe_top, CLe_full, CLe_nil, CLe_own, and_true, true_and]; all_goals (repeat' first | exact CLe.refl _ | exact True.intro | (refine CLe_sln ?_; first | with_reducible rfl | (simp only [List.take_zero]; done) | (rfl; done)) | exact CLe_nI (by omega) | exact CLe_int (by omega) | exact CLe_inI (by omega) | exact CLe_nIi (by omega) | with_reducible apply And.intro))
     case bd_22 =>
      rintro i ⟨hi, hA⟩
      refine Tr.seqK fun K12 hK12 => ?_
      refine Tr.seqK fun K13 hK13 => ?_
      refine Tr.rg hcx [] _ [] rfl rfl rfl ?_
      simp -implicitDefEqProofs (maxSteps := 2000000) (disch := first | omega | (simp only [go_sem, List.length_append, List.length_drop, List.length_take] <;> omega) | decide) only [go_sem, ↓reduceIte, Nat.reduceEqDiff, reduceCtorEq, Nat.reduceLT, Nat.reduceBEq, Nat.reduceAdd, Nat.reduceSub, Nat.reduceMul, Nat.reduceMod, h15, d1, d2]
      refine hK13 _ ?_
      clear hK13 K13
      refine Tr.kp [0, 3, 26] ?_
      simp only [pk_cons, pk_nil, ↓A_cons, ↓reduceIte, Nat.reduceEqDiff]
      refine Tr.condG fun KT KF hT hF => ?_
      simp only [ev_tmp, ev_const, ↓A_cons, ↓reduceIte, Nat.reduceEqDiff, reduceCtorEq, condG_bool, GB_true, GB_false, decide_eq_true_eq]
      refine GB.dec (fun hc26 => hT ?_) (fun hc26 => hF ?_)
      ·
       clear hT hF KT KF
       refine Tr.skip ?_
       refine hK12 _ ?_
       clear hK12 K12
       refine Tr.kp [0, 3] ?_
       simp only [pk_cons, pk_nil, ↓A_cons, ↓reduceIte, Nat.reduceEqDiff]
       refine Tr.seqK fun K14 hK14 => ?_
       refine Tr.blk ?_
       refine Tr.seqK fun K15 hK15 => ?_
       by_cases b1 : gt s i < UInt8.ofNat 32
       ·
        refine Tr.rg hcx [] [some 29, some 30, some 31, some 32, some 33, some 34, some 35, some 36, some 37, some 38, some 39, some 40, some 41, some 42, some 43, some 44, some 45, some 46, some 47, some 48, some 49, some 50, some 51, some 52, some 53, some 54, some 55] [] rfl rfl rfl ?_
        simp -implicitDefEqProofs (maxSteps := 2000000) (disch := first | omega | (simp only [go_sem, List.length_append, List.length_drop, List.length_take] <;> omega) | decide) only [go_sem, ↓reduceIte, Nat.reduceEqDiff, reduceCtorEq, Nat.reduceLT, Nat.reduceBEq, Nat.reduceAdd, Nat.reduceSub, Nat.reduceMul, Nat.reduceMod, h15, d1, d2, b1]
        refine hK15 _ ?_
        clear hK15 K15
        refine Tr.kp [0, 3, 55] ?_
        simp only [pk_cons, pk_nil, ↓A_cons, ↓reduceIte, Nat.reduceEqDiff]
        refine Tr.condG fun KT KF hT hF => ?_
        simp only [ev_tmp, ev_const, ↓A_cons, ↓reduceIte, Nat.reduceEqDiff, reduceCtorEq, condG_bool, GB_true, GB_false, decide_eq_true_eq]
        refine hT ?_
        clear hT hF KT KF
        refine Tr.seqK fun K16 hK16 => ?_
        refine Tr.rg hcx [] _ [] rfl rfl rfl ?_
        simp -implicitDefEqProofs (maxSteps := 2000000) (disch := first | omega | (simp only [go_sem, List.length_append, List.length_drop, List.length_take] <;> omega) | decide) only [go_sem, ↓reduceIte, Nat.reduceEqDiff, reduceCtorEq, Nat.reduceLT, Nat.reduceBEq, Nat.reduceAdd, Nat.reduceSub, Nat.reduceMul, Nat.reduceMod, h15, d1, d2, b1]
        refine hK16 _ ?_
        clear hK16 K16
        refine Tr.kp [2] ?_
        simp only [pk_cons, pk_nil, ↓A_cons, ↓reduceIte, Nat.reduceEqDiff]
        refine Tr.ret ?_
        simp -implicitDefEqProofs (disch := first | omega | (simp only [go_sem, List.length_append, List.length_drop, List.length_take] <;> omega) | decide) only [go_sem, ↓reduceIte, Nat.reduceEqDiff, reduceCtorEq]
        all_goals (exact congrArg (fun z => some (C.val (nI z))) (by first | (unfold validE; rw [if_pos hc6]) | rw [val_0 d1o] | rw [val_2 hc6 (bad_T (by omega) (badAt_0 d2o))] | rw [val_2 hc6 (bad_T (by omega) (badAt_l d1o hc22))] | rw [val_2 hc6 (bad_T hc26 (badAt_1 b1))] | rw [val_2 hc6 (bad_T hc26 (badAt_2 b2))] | rw [val_2 hc6 (bad_T hc26 (badAt_3 b4o hc55))] | (unfold validE; rw [if_neg hc6, if_neg (bad_F hA), if_neg (fun e => d1o (by rw [e]; rfl)), if_pos hc59]) | (unfold validE; rw [if_neg hc6, if_neg (bad_F hA), if_neg (fun e => d1o (by rw [e]; rfl)), if_neg hc59])))
       ·
        by_cases b2 : UInt8.ofNat 126 < gt s i
        ·
         refine Tr.rg hcx [] [some 29, some 30, some 31, some 32, some 33, some 34, some 35, some 36, some 37, some 38, some 39, some 40, some 41, some 42, some 43, some 44, some 45, some 46, some 47, some 48, some 49, some 50, some 51, some 52, some 53, some 54, some 55] [] rfl rfl rfl ?_
         simp -implicitDefEqProofs (maxSteps := 2000000) (disch := first | omega | (simp only [go_sem, List.length_append, List.length_drop, List.length_take] <;> omega) | decide) only [go_sem, ↓reduceIte, Nat.reduceEqDiff, reduceCtorEq, Nat.reduceLT, Nat.reduceBEq, Nat.reduceAdd, Nat.reduceSub, Nat.reduceMul, Nat.reduceMod, h15, d1, d2, b1, b2]
         refine hK15 _ ?_
         clear hK15 K15
         refine Tr.kp [0, 3, 55] ?_
         simp only [pk_cons, pk_nil, ↓A_cons, ↓reduceIte, Nat.reduceEqDiff]
         refine Tr.condG fun KT KF hT hF => ?_
         simp only [ev_tmp, ev_const, ↓A_cons, ↓reduceIte, Nat.reduceEqDiff, reduceCtorEq, condG_bool, GB_true, GB_false, decide_eq_true_eq]
         refine hT ?_
         clear hT hF KT KF
         refine Tr.seqK fun K17 hK17 => ?_
         refine Tr.rg hcx [] _ [] rfl rfl rfl ?_
         simp -implicitDefEqProofs (maxSteps := 2000000) (disch := first | omega | (simp only [go_sem, List.length_append, List.length_drop, List.length_take] <;> omega) | decide) only [go_sem, ↓reduceIte, Nat.reduceEqDiff, reduceCtorEq, Nat.reduceLT, Nat.reduceBEq, Nat.reduceAdd, Nat.reduceSub, Nat.reduceMul, Nat.reduceMod, h15, d1, d2, b1, b2]
         refine hK17 _ ?_
         clear hK17 K17
         refine Tr.kp [2] ?_
         simp only [pk_cons, pk_nil, ↓A_cons, ↓reduceIte, Nat.reduceEqDiff]
         refine Tr.ret ?_
         simp -implicitDefEqProofs (disch := first | omega | (simp only [go_sem, List.length_append, List.length_drop, List.length_take] <;> omega) | decide) only [go_sem, ↓reduceIte, Nat.reduceEqDiff, reduceCtorEq]
         all_goals (exact congrArg (fun z => some (C.val (nI z))) (by first | (unfold validE; rw [if_pos hc6]) | rw [val_0 d1o] | rw [val_2 hc6 (bad_T (by omega) (badAt_0 d2o))] | rw [val_2 hc6 (bad_T (by omega) (badAt_l d1o hc22))] | rw [val_2 hc6 (bad_T hc26 (badAt_1 b1))] | rw [val_2 hc6 (bad_T hc26 (badAt_2 b2))] | rw [val_2 hc6 (bad_T hc26 (badAt_3 b4o hc55))] | (unfold validE; rw [if_neg hc6, if_neg (bad_F hA), if_neg (fun e => d1o (by rw [e]; rfl)), if_pos hc59]) | (unfold validE; rw [if_neg hc6, if_neg (bad_F hA), if_neg (fun e => d1o (by rw [e]; rfl)), if_neg hc59])))
        ·
         by_cases b3 : 0 < i
         ·
          by_cases b4 : gt s i = UInt8.ofNat 32
          ·
           have b4o := b4
           replace b4 := eq_true b4
           refine Tr.rg hcx [] [some 29, some 30, some 31, some 32, some 33, some 34, some 35, some 36, some 37, some 38, some 39, some 40, some 41, some 42, some 43, some 44, some 45, some 46, some 47, some 48, some 49, some 50, some 51, some 52, some 53, some 54, some 55] [] rfl rfl rfl ?_
           simp -implicitDefEqProofs (maxSteps := 2000000) (disch := first | omega | (simp only [go_sem, List.length_append, List.length_drop, List.length_take] <;> omega) | decide) only [go_sem, ↓reduceIte, Nat.reduceEqDiff, reduceCtorEq, Nat.reduceLT, Nat.reduceBEq, Nat.reduceAdd, Nat.reduceSub, Nat.reduceMul, Nat.reduceMod, h15, d1, d2, b1, b2, b3, b4]
           refine hK15 _ ?_
           clear hK15 K15
           refine Tr.kp [0, 3, 55] ?_
           simp only [pk_cons, pk_nil, ↓A_cons, ↓reduceIte, Nat.reduceEqDiff]
           refine Tr.condG fun KT KF hT hF => ?_
           simp only [ev_tmp, ev_const, ↓A_cons, ↓reduceIte, Nat.reduceEqDiff, reduceCtorEq, condG_bool, GB_true, GB_false, decide_eq_true_eq]
           refine GB.dec (fun hc55 => hT ?_) (fun hc55 => hF ?_)
           ·
            clear hT hF KT KF
            refine Tr.seqK fun K18 hK18 => ?_
            refine Tr.rg hcx [] _ [] rfl rfl rfl ?_
            simp -implicitDefEqProofs (maxSteps := 2000000) (disch := first | omega | (simp only [go_sem, List.length_append, List.length_drop, List.length_take] <;> omega) | decide) only [go_sem, ↓reduceIte, Nat.reduceEqDiff, reduceCtorEq, Nat.reduceLT, Nat.reduceBEq, Nat.reduceAdd, Nat.reduceSub, Nat.reduceMul, Nat.reduceMod, h15, d1, d2, b1, b2, b3, b4]
            refine hK18 _ ?_
            clear hK18 K18
            refine Tr.kp [2] ?_
            simp only [pk_cons, pk_nil, ↓A_cons, ↓reduceIte, Nat.reduceEqDiff]
            refine Tr.ret ?_
            simp -implicitDefEqProofs (disch := first | omega | (simp only [go_sem, List.length_append, List.length_drop, List.length_take] <;> omega) | decide) only [go_sem, ↓reduceIte, Nat.reduceEqDiff, reduceCtorEq]
            all_goals (exact congrArg (fun z => some (C.val (nI z))) (by first | (unfold validE; rw [if_pos hc6]) | rw [val_0 d1o] | rw [val_2 hc6 (bad_T (by omega) (badAt_0 d2o))] | rw [val_2 hc6 (bad_T (by omega) (badAt_l d1o hc22))] | rw [val_2 hc6 (bad_T hc26 (badAt_1 b1))] | rw [val_2 hc6 (bad_T hc26 (badAt_2 b2))] | rw [val_2 hc6 (bad_T hc26 (badAt_3 b4o hc55))] | (unfold validE; rw [if_neg hc6, if_neg (bad_F hA), if_neg (fun e => d1o (by rw [e]; rfl)), if_pos hc59]) | (unfold validE; rw [if_neg hc6, if_neg (bad_F hA), if_neg (fun e => d1o (by rw [e]; rfl)), if_neg hc59])))
           ·
            clear hT hF KT KF
            refine Tr.skip ?_
            refine hK14 _ ?_
            clear hK14 K14
            refine Tr.kp [0, 3] ?_
            simp only [pk_cons, pk_nil, ↓A_cons, ↓reduceIte, Nat.reduceEqDiff]
            refine Tr.rg hcx [1000028] _ [] rfl rfl rfl ?_
            simp -implicitDefEqProofs (maxSteps := 2000000) (disch := first | omega | (simp only [go_sem, List.length_append, List.length_drop, List.length_take] <;> omega) | decide) only [go_sem, ↓reduceIte, Nat.reduceEqDiff, reduceCtorEq, Nat.reduceLT, Nat.reduceBEq, Nat.reduceAdd, Nat.reduceSub, Nat.reduceMul, Nat.reduceMod, h15, d1, d2, b1, b2, b3, b4]
            refine ⟨i + 1, ⟨⟨by omega, fun j hj => (Nat.lt_or_eq_of_le (Nat.le_of_lt_succ hj)).elim (hA j) (fun e => e ▸ badAt_F hc26 d2o hc22 b1 b2 (by intro hh; first | exact b3 hh.2.1 | exact b4o hh.1 | exact hc55 hh.2.2))⟩, by first | omega | (simp only []; omega)⟩, ?_, rfl⟩
            (simp only [Le_nil, Le_cons, ↓A_cons, ↓reduceIte, Nat.reduceEqDiff, reduceCtorEq, CLe_refl, CLe_top, CLe_full, CLe_nil, CLe_own, and_true, true_and]; all_goals (repeat' first | exact CLe.refl _ | exact True.intro | (refine CLe_sln ?_; first | with_reducible rfl | (simp only [List.take_zero]; done) | (rfl; done)) | exact CLe_nI (by omega) | exact CLe_int (by omega) | exact CLe_inI (by omega) | exact CLe_nIi (by omega) | with_reducible apply And.intro))
          ·
           have b4o := b4
           replace b4 := eq_false b4
           refine Tr.rg hcx [] [some 29, some 30, some 31, some 32, some 33, some 34, some 35, some 36, some 37, some 38, some 39, some 40, some 41, some 42, some 43, some 44, some 45, some 46, some 47, some 48, some 49, some 50, some 51, some 52, some 53, some 54, some 55] [] rfl rfl rfl ?_
           simp -implicitDefEqProofs (maxSteps := 2000000) (disch := first | omega | (simp only [go_sem, List.length_append, List.length_drop, List.length_take] <;> omega) | decide) only [go_sem, ↓reduceIte, Nat.reduceEqDiff, reduceCtorEq, Nat.reduceLT, Nat.reduceBEq, Nat.reduceAdd, Nat.reduceSub, Nat.reduceMul, Nat.reduceMod, h15, d1, d2, b1, b2, b3, b4]
           refine hK15 _ ?_
           clear hK15 K15
           refine Tr.kp [0, 3, 55] ?_
           simp only [pk_cons, pk_nil, ↓A_cons, ↓reduceIte, Nat.reduceEqDiff]
           refine Tr.condG fun KT KF hT hF => ?_
           simp only [ev_tmp, ev_const, ↓A_cons, ↓reduceIte, Nat.reduceEqDiff, reduceCtorEq, condG_bool, GB_true, GB_false, decide_eq_true_eq]
           refine hF ?_
           clear hT hF KT KF
           refine Tr.skip ?_
           refine hK14 _ ?_
           clear hK14 K14
           refine Tr.kp [0, 3] ?_
           simp only [pk_cons, pk_nil, ↓A_cons, ↓reduceIte, Nat.reduceEqDiff]
           refine Tr.rg hcx [1000028] _ [] rfl rfl rfl ?_
           simp -implicitDefEqProofs (maxSteps := 2000000) (disch := first | omega | (simp only [go_sem, List.length_append, List.length_drop, List.length_take] <;> omega) | decide) only [go_sem, ↓reduceIte, Nat.reduceEqDiff, reduceCtorEq, Nat.reduceLT, Nat.reduceBEq, Nat.reduceAdd, Nat.reduceSub, Nat.reduceMul, Nat.reduceMod, h15, d1, d2, b1, b2, b3, b4]
           refine ⟨i + 1, ⟨⟨by omega, fun j hj => (Nat.lt_or_eq_of_le (Nat.le_of_lt_succ hj)).elim (hA j) (fun e => e ▸ badAt_F hc26 d2o hc22 b1 b2 (by intro hh; first | exact b3 hh.2.1 | exact b4o hh.1 | exact hc55 hh.2.2))⟩, by first | omega | (simp only []; omega)⟩, ?_, rfl⟩
           (simp only [Le_nil, Le_cons, ↓A_cons, ↓reduceIte, Nat.reduceEqDiff, reduceCtorEq, CLe_refl, CLe_top, CLe_full, CLe_nil, CLe_own, and_true, true_and]; all_goals (repeat' first | exact CLe.refl _ | exact True.intro | (refine CLe_sln ?_; first | with_reducible rfl | (simp only [List.take_zero]; done) | (rfl; done)) | exact CLe_nI (by omega) | exact CLe_int (by omega) | exact CLe_inI (by omega) | exact CLe_nIi (by omega) | with_reducible apply And.intro))
         ·
          refine Tr.rg hcx [] [some 29, some 30, some 31, some 32, some 33, some 34, some 35, some 36, some 37, some 38, some 39, some 40, some 41, some 42, some 43, some 44, some 45, some 46, some 47, some 48, some 49, some 50, some 51, some 52, some 53, some 54, some 55] [] rfl rfl rfl ?_
          simp -implicitDefEqProofs (maxSteps := 2000000) (disch := first | omega | (simp only [go_sem, List.length_append, List.length_drop, List.length_take] <;> omega) | decide) only [go_sem, ↓reduceIte, Nat.reduceEqDiff, reduceCtorEq, Nat.reduceLT, Nat.reduceBEq, Nat.reduceAdd, Nat.reduceSub, Nat.reduceMul, Nat.reduceMod, h15, d1, d2, b1, b2, b3]
          refine hK15 _ ?_
          clear hK15 K15
          refine Tr.kp [0, 3, 55] ?_
          simp only [pk_cons, pk_nil, ↓A_cons, ↓reduceIte, Nat.reduceEqDiff]
          refine Tr.condG fun KT KF hT hF => ?_
          simp only [ev_tmp, ev_const, ↓A_cons, ↓reduceIte, Nat.reduceEqDiff, reduceCtorEq, condG_bool, GB_true, GB_false, decide_eq_true_eq]
          refine hF ?_
          clear hT hF KT KF
          refine Tr.skip ?_
          refine hK14 _ ?_
          clear hK14 K14
          refine Tr.kp [0, 3] ?_
          simp only [pk_cons, pk_nil, ↓A_cons, ↓reduceIte, Nat.reduceEqDiff]
          refine Tr.rg hcx [1000028] _ [] rfl rfl rfl ?_
          simp -implicitDefEqProofs (maxSteps := 2000000) (disch := first | omega | (simp only [go_sem, List.length_append, List.length_drop, List.length_take] <;> omega) | decide) only [go_sem, ↓reduceIte, Nat.reduceEqDiff, reduceCtorEq, Nat.reduceLT, Nat.reduceBEq, Nat.reduceAdd, Nat.reduceSub, Nat.reduceMul, Nat.reduceMod, h15, d1, d2, b1, b2, b3]
          refine ⟨i + 1, ⟨⟨by omega, fun j hj => (Nat.lt_or_eq_of_le (Nat.le_of_lt_succ hj)).elim (hA j) (fun e => e ▸ badAt_F hc26 d2o hc22 b1 b2 (by intro hh; first | exact b3 hh.2.1 | exact b4o hh.1 | exact hc55 hh.2.2))⟩, by first | omega | (simp only []; omega)⟩, ?_, rfl⟩
          (simp only [Le_nil, Le_cons, ↓A_cons, ↓reduceIte, Nat.reduceEqDiff, reduceCtorEq, CLe_refl, CLe_top, CLe_full, CLe_nil, CLe_own, and_true, true_and]; all_goals (repeat' first | exact CLe.refl _ | exact True.intro | (refine CLe_sln ?_; first | with_reducible rfl | (simp only [List.take_zero]; done) | (rfl; done)) | exact CLe_nI (by omega) | exact CLe_int (by omega) | exact CLe_inI (by omega) | exact CLe_nIi (by omega) | with_reducible apply And.intro))
      ·
       clear hT hF KT KF
       obtain rfl : i = s.length := by omega
       refine Tr.exit ?_
       refine hK10 _ ?_
       clear hK12 K12 hK10 K10
       refine Tr.kp [0] ?_
       simp only [pk_cons, pk_nil, ↓A_cons, ↓reduceIte, Nat.reduceEqDiff]
       refine Tr.seqK fun K19 hK19 => ?_
       refine Tr.seqK fun K20 hK20 => ?_
       refine Tr.rg hcx [] _ [] rfl rfl rfl ?_
       simp -implicitDefEqProofs (maxSteps := 2000000) (disch := first | omega | (simp only [go_sem, List.length_append, List.length_drop, List.length_take] <;> omega) | decide) only [go_sem, ↓reduceIte, Nat.reduceEqDiff, reduceCtorEq, Nat.reduceLT, Nat.reduceBEq, Nat.reduceAdd, Nat.reduceSub, Nat.reduceMul, Nat.reduceMod, h15, d1, d2]
       refine hK20 _ ?_
       clear hK20 K20
       refine Tr.kp [59] ?_
       simp only [pk_cons, pk_nil, ↓A_cons, ↓reduceIte, Nat.reduceEqDiff]
       refine Tr.condG fun KT KF hT hF => ?_
       simp only [ev_tmp, ev_const, ↓A_cons, ↓reduceIte, Nat.reduceEqDiff, reduceCtorEq, condG_bool, GB_true, GB_false, decide_eq_true_eq]
       refine GB.dec (fun hc59 => hT ?_) (fun hc59 => hF ?_)
       ·
        clear hT hF KT KF
        refine Tr.seqK fun K21 hK21 => ?_
        refine Tr.rg hcx [] _ [] rfl rfl rfl ?_
        simp -implicitDefEqProofs (maxSteps := 2000000) (disch := first | omega | (simp only [go_sem, List.length_append, List.length_drop, List.length_take] <;> omega) | decide) only [go_sem, ↓reduceIte, Nat.reduceEqDiff, reduceCtorEq, Nat.reduceLT, Nat.reduceBEq, Nat.reduceAdd, Nat.reduceSub, Nat.reduceMul, Nat.reduceMod, h15, d1, d2]
        refine hK21 _ ?_
        clear hK21 K21
        refine Tr.kp [2] ?_
        simp only [pk_cons, pk_nil, ↓A_cons, ↓reduceIte, Nat.reduceEqDiff]
        refine Tr.ret ?_
        simp -implicitDefEqProofs (disch := first | omega | (simp only [go_sem, List.length_append, List.length_drop, List.length_take] <;> omega) | decide) only [go_sem, ↓reduceIte, Nat.reduceEqDiff, reduceCtorEq]
        all_goals (exact congrArg (fun z => some (C.val (nI z))) (by first | (unfold validE; rw [if_pos hc6]) | rw [val_0 d1o] | rw [val_2 hc6 (bad_T (by omega) (badAt_0 d2o))] | rw [val_2 hc6 (bad_T (by omega) (badAt_l d1o hc22))] | rw [val_2 hc6 (bad_T hc26 (badAt_1 b1))] | rw [val_2 hc6 (bad_T hc26 (badAt_2 b2))] | rw [val_2 hc6 (bad_T hc26 (badAt_3 b4o hc55))] | (unfold validE; rw [if_neg hc6, if_neg (bad_F hA), if_neg (fun e => d1o (by rw [e]; rfl)), if_pos hc59]) | (unfold validE; rw [if_neg hc6, if_neg (bad_F hA), if_neg (fun e => d1o (by rw [e]; rfl)), if_neg hc59])))
       ·
        clear hT hF KT KF
        refine Tr.skip ?_
        refine hK19 _ ?_
        clear hK19 K19
        refine Tr.kp [] ?_
        simp only [pk_cons, pk_nil, ↓A_cons, ↓reduceIte, Nat.reduceEqDiff]
        refine Tr.seqK fun K22 hK22 => ?_
        refine Tr.rg hcx [] _ [] rfl rfl rfl ?_
        simp -implicitDefEqProofs (maxSteps := 2000000) (disch := first | omega | (simp only [go_sem, List.length_append, List.length_drop, List.length_take] <;> omega) | decide) only [go_sem, ↓reduceIte, Nat.reduceEqDiff, reduceCtorEq, Nat.reduceLT, Nat.reduceBEq, Nat.reduceAdd, Nat.reduceSub, Nat.reduceMul, Nat.reduceMod, h15, d1, d2]
        refine hK22 _ ?_
        clear hK22 K22
        refine Tr.kp [2] ?_
        simp only [pk_cons, pk_nil, ↓A_cons, ↓reduceIte, Nat.reduceEqDiff]
        refine Tr.ret ?_
        simp -implicitDefEqProofs (disch := first | omega | (simp only [go_sem, List.length_append, List.length_drop, List.length_take] <;> omega) | decide) only [go_sem, ↓reduceIte, Nat.reduceEqDiff, reduceCtorEq]
        all_goals (exact congrArg (fun z => some (C.val (nI z))) (by first | (unfold validE; rw [if_pos hc6]) | rw [val_0 d1o] | rw [val_2 hc6 (bad_T (by omega) (badAt_0 d2o))] | rw [val_2 hc6 (bad_T (by omega) (badAt_l d1o hc22))] | rw [val_2 hc6 (bad_T hc26 (badAt_1 b1))] | rw [val_2 hc6 (bad_T hc26 (badAt_2 b2))] | rw [val_2 hc6 (bad_T hc26 (badAt_3 b4o hc55))] | (unfold validE; rw [if_neg hc6, if_neg (bad_F hA), if_neg (fun e => d1o (by rw [e]; rfl)), if_pos hc59]) | (unfold validE; rw [if_neg hc6, if_neg (bad_F hA), if_neg (fun e => d1o (by rw [e]; rfl)), if_neg hc59])))
end Go.Sx
namespace Go.Sx
open Go.RowKit Go.Proofs
theorem join_eq (a b : List UInt8) : joinT a b = (a ++ [UInt8.ofNat 32]) ++ b := by unfold joinT; simp
set_option maxRecDepth 100000 in
set_option maxHeartbeats 8000000 in
theorem fc33 {gl : Nat → C} {M : Nat} {pu : Nat → List C → Option C}  (hcx : CxOK (cxP gl M pu)) (a b : List UInt8) (ha : a.length ≤ 1000000) (hb : b.length ≤ 1000000) : FC Try.prog gl 33 [.val (str a), .val (str b)] [] (.val (str (joinT a b))) [] := by
 replace hcx := hcx.reN (M := 9)
 refine FC.ofA (cx := cxP gl 9 pu) (rs := [.tmp 4]) rfl Try.func33 rfl rfl rfl (by simp only [List.length_cons, List.length_nil]; decide) (by simp only [go_sem]) ?_
 simp only [ini, go_sem]
 refine Tr.seqK fun K1 hK1 => ?_
 refine Tr.rg hcx [] _ [] rfl rfl rfl ?_
 simp -implicitDefEqProofs (maxSteps := 2000000) (disch := first | omega | (simp only [go_sem, List.length_append, List.length_drop, List.length_take] <;> omega) | decide) only [go_sem, ↓reduceIte, Nat.reduceEqDiff, reduceCtorEq, Nat.reduceLT, Nat.reduceBEq, Nat.reduceAdd, Nat.reduceSub, Nat.reduceMul, Nat.reduceMod]
 refine hK1 _ ?_
 clear hK1 K1
 refine Tr.kp [0, 1] ?_
 simp only [pk_cons, pk_nil, ↓A_cons, ↓reduceIte, Nat.reduceEqDiff]
 refine Tr.seqK fun K2 hK2 => ?_
 refine Tr.rg hcx [1000008] _ [] rfl rfl rfl ?_
 simp -implicitDefEqProofs (maxSteps := 2000000) (disch := first | omega | (simp only [go_sem, List.length_append, List.length_drop, List.length_take] <;> omega) | decide) only [go_sem, ↓reduceIte, Nat.reduceEqDiff, reduceCtorEq, Nat.reduceLT, Nat.reduceBEq, Nat.reduceAdd, Nat.reduceSub, Nat.reduceMul, Nat.reduceMod]
 refine hK2 _ ?_
 clear hK2 K2
 refine Tr.kp [4] ?_
 simp only [pk_cons, pk_nil, ↓A_cons, ↓reduceIte, Nat.reduceEqDiff]
 refine Tr.ret ?_
 simp -implicitDefEqProofs (disch := first | omega | (simp only [go_sem, List.length_append, List.length_drop, List.length_take] <;> omega) | decide) only [go_sem, ↓reduceIte, Nat.reduceEqDiff, reduceCtorEq]
 all_goals (rw [join_eq]; rfl)
set_option maxRecDepth 100000 in
set_option maxHeartbeats 8000000 in
theorem fc34 {gl : Nat → C} {M : Nat} {pu : Nat → List C → Option C}  (hcx : CxOK (cxP gl M pu)) (a b : List UInt8) (ha : a.length ≤ 1000000) (hb : b.length ≤ 1000000) : FC Try.prog gl 34 [.val (str a), .val (str b)] [] (.val (str (joinT a b))) [] := by
 replace hcx := hcx.reN (M := 9)
 refine FC.ofA (cx := cxP gl 9 pu) (rs := [.tmp 4]) rfl Try.func34 rfl rfl rfl (by simp only [List.length_cons, List.length_nil]; decide) (by simp only [go_sem]) ?_
 simp only [ini, go_sem]
 refine Tr.seqK fun K1 hK1 => ?_
 refine Tr.rg hcx [] _ [] rfl rfl rfl ?_
 simp -implicitDefEqProofs (maxSteps := 2000000) (disch := first | omega | (simp only [go_sem, List.length_append, List.length_drop, List.length_take] <;> omega) | decide) only [go_sem, ↓reduceIte, Nat.reduceEqDiff, reduceCtorEq, Nat.reduceLT, Nat.reduceBEq, Nat.reduceAdd, Nat.reduceSub, Nat.reduceMul, Nat.reduceMod]
 refine hK1 _ ?_
 clear hK1 K1
 refine Tr.kp [0, 1] ?_
 simp only [pk_cons, pk_nil, ↓A_cons, ↓reduceIte, Nat.reduceEqDiff]
 refine Tr.seqK fun K2 hK2 => ?_
 refine Tr.rg hcx [1000008] _ [] rfl rfl rfl ?_
 simp -implicitDefEqProofs (maxSteps := 2000000) (disch := first | omega | (simp only [go_sem, List.length_append, List.length_drop, List.length_take] <;> omega) | decide) only [go_sem, ↓reduceIte, Nat.reduceEqDiff, reduceCtorEq, Nat.reduceLT, Nat.reduceBEq, Nat.reduceAdd, Nat.reduceSub, Nat.reduceMul, Nat.reduceMod]
 refine hK2 _ ?_
 clear hK2 K2
 refine Tr.kp [4] ?_
 simp only [pk_cons, pk_nil, ↓A_cons, ↓reduceIte, Nat.reduceEqDiff]
 refine Tr.ret ?_
 simp -implicitDefEqProofs (disch := first | omega | (simp only [go_sem, List.length_append, List.length_drop, List.length_take] <;> omega) | decide) only [go_sem, ↓reduceIte, Nat.reduceEqDiff, reduceCtorEq]
 all_goals (rw [join_eq]; rfl)
end Go.Sx
namespace Go.Sx
open Go.RowKit Go.Proofs
theorem cut_v {s : List UInt8} {k : Int} (h : ¬ validE s = 0) : cutT s k = ([], [], validE s) := if_pos h
theorem cut_b {s : List UInt8} {k : Int} (h : ¬ ¬ validE s = 0) (h2 : k < 1 ∨ ((toks s).length : Int) ≤ k ∨ (gt (toks s) k.toNat).a = (gt (toks s) (k.toNat - 1)).e) : cutT s k = ([], [], 5) := by
  unfold cutT; rw [if_neg h, if_pos h2]
theorem cut_ok {s : List UInt8} {k : Nat} (h : ¬ ¬ validE s = 0) (h1 : 1 ≤ k) (h2 : k < (toks s).length) (h3 : ¬ (gt (toks s) k).a = (gt (toks s) (k - 1)).e) : cutT s k = (s.take ((gt (toks s) k).a - 1), s.drop (gt (toks s) k).a, 0) := by
  unfold cutT; rw [if_neg h, if_neg]; · rfl
  rintro (q | q | q)
  · omega
  · omega
  · exact h3 q
theorem first_eq {s : List UInt8} {k : Nat} (h1 : 1 ≤ k) (h2 : k < (toks s).length) : firstT (toks s) k = decide (¬ (gt (toks s) k).a = (gt (toks s) (k - 1)).e) := by
  unfold firstT
  rw [decide_eq_false (by omega : ¬ k ≤ 0), Bool.false_or, decide_eq_decide]
  have := (toks_lie s).lt (k - 1) k (by omega) h2
  omega
set_option maxRecDepth 100000 in
set_option maxHeartbeats 8000000 in
theorem fc35 {gl : Nat → C} {M : Nat} {pu : Nat → List C → Option C}  (hcx : CxOK (cxP gl M pu)) (h12 : ∀ s : List UInt8, s.length ≤ 1000000 → pu 12 [.val (str s)] = some (.val (nI (validE s)))) (h18 : ∀ s : List UInt8, s.length ≤ 1000000 → pu 18 [.val (str s)] = some (sl tC (.own 3) (toks s))) (s : List UInt8) (k : Int) (hs : s.length ≤ 1000000) (hk : -9223372036854775808 ≤ k ∧ k ≤ 9223372036854775807) : FC Try.prog gl 35 [.val (str s), .val (.int .i64 k)] [] (.tup [.val (str (cutT s k).1), .val (str (cutT s k).2.1), .val (nI (cutT s k).2.2)]) [] := by
 replace hcx := hcx.reN (M := 53)
 refine FC.ofA (cx := cxP gl 53 pu) (rs := [.tmp 4, .tmp 5, .tmp 6]) rfl Try.func35 rfl rfl rfl (by simp only [List.length_cons, List.length_nil]; decide) (by simp only [go_sem]) ?_
 simp only [ini, go_sem]
 have hT := toks_len s
 refine Tr.seqK fun K1 hK1 => ?_
 refine Tr.rg hcx [] _ [] rfl rfl rfl ?_
 simp -implicitDefEqProofs (maxSteps := 2000000) (disch := first | omega | (simp only [go_sem, List.length_append, List.length_drop, List.length_take] <;> omega) | decide) only [go_sem, ↓reduceIte, Nat.reduceEqDiff, reduceCtorEq, Nat.reduceLT, Nat.reduceBEq, Nat.reduceAdd, Nat.reduceSub, Nat.reduceMul, Nat.reduceMod, h12, h18]
 refine hK1 _ ?_
 clear hK1 K1
 refine Tr.kp [0, 1] ?_
 simp only [pk_cons, pk_nil, ↓A_cons, ↓reduceIte, Nat.reduceEqDiff]
 refine Tr.seqK fun K2 hK2 => ?_
 refine Tr.seqK fun K3 hK3 => ?_
 refine Tr.rg hcx [1000010] _ [] rfl rfl rfl ?_
 simp -implicitDefEqProofs (maxSteps := 2000000) (disch := first | omega | (simp only [go_sem, List.length_append, List.length_drop, List.length_take] <;> omega) | decide) only [go_sem, ↓reduceIte, Nat.reduceEqDiff, reduceCtorEq, Nat.reduceLT, Nat.reduceBEq, Nat.reduceAdd, Nat.reduceSub, Nat.reduceMul, Nat.reduceMod, h12, h18]
 refine hK3 _ ?_
 clear hK3 K3
 refine Tr.kp [0, 1, 7] ?_
 simp only [pk_cons, pk_nil, ↓A_cons, ↓reduceIte, Nat.reduceEqDiff]
 refine Tr.seqK fun K4 hK4 => ?_
 refine Tr.rg hcx [] _ [] rfl rfl rfl ?_
 simp -implicitDefEqProofs (maxSteps := 2000000) (disch := first | omega | (simp only [go_sem, List.length_append, List.length_drop, List.length_take] <;> omega) | decide) only [go_sem, ↓reduceIte, Nat.reduceEqDiff, reduceCtorEq, Nat.reduceLT, Nat.reduceBEq, Nat.reduceAdd, Nat.reduceSub, Nat.reduceMul, Nat.reduceMod, h12, h18]
 refine hK4 _ ?_
 clear hK4 K4
 refine Tr.kp [0, 1, 7, 12] ?_
 simp only [pk_cons, pk_nil, ↓A_cons, ↓reduceIte, Nat.reduceEqDiff]
 refine Tr.condG fun KT KF hT hF => ?_
 simp only [ev_tmp, ev_const, ↓A_cons, ↓reduceIte, Nat.reduceEqDiff, reduceCtorEq, condG_bool, GB_true, GB_false, decide_eq_true_eq]
 refine GB.dec (fun hc12 => hT ?_) (fun hc12 => hF ?_)
 ·
  clear hT hF KT KF
  refine Tr.seqK fun K5 hK5 => ?_
  refine Tr.rg hcx [1000013] _ [] rfl rfl rfl ?_
  simp -implicitDefEqProofs (maxSteps := 2000000) (disch := first | omega | (simp only [go_sem, List.length_append, List.length_drop, List.length_take] <;> omega) | decide) only [go_sem, ↓reduceIte, Nat.reduceEqDiff, reduceCtorEq, Nat.reduceLT, Nat.reduceBEq, Nat.reduceAdd, Nat.reduceSub, Nat.reduceMul, Nat.reduceMod, h12, h18]
  refine hK5 _ ?_
  clear hK5 K5
  refine Tr.kp [4, 5, 6] ?_
  simp only [pk_cons, pk_nil, ↓A_cons, ↓reduceIte, Nat.reduceEqDiff]
  refine Tr.ret ?_
  simp -implicitDefEqProofs (disch := first | omega | (simp only [go_sem, List.length_append, List.length_drop, List.length_take] <;> omega) | decide) only [go_sem, ↓reduceIte, Nat.reduceEqDiff, reduceCtorEq]
  all_goals (first | rw [cut_v hc12] | (rw [cut_b hc12 (.inl b1)]) | (rw [cut_b hc12 (.inr (.inl b2))]) | (rw [cut_b (k := (k' : Int)) hc12 (.inr (.inr hc37))]) | (rw [cut_ok (k := k') hc12 (by omega) (by omega) hc37]))
 ·
  clear hT hF KT KF
  refine Tr.skip ?_
  refine hK2 _ ?_
  clear hK2 K2
  refine Tr.kp [0, 1] ?_
  simp only [pk_cons, pk_nil, ↓A_cons, ↓reduceIte, Nat.reduceEqDiff]
  refine Tr.seqK fun K6 hK6 => ?_
  refine Tr.rg hcx [1000015] _ [] rfl rfl rfl ?_
  simp -implicitDefEqProofs (maxSteps := 2000000) (disch := first | omega | (simp only [go_sem, List.length_append, List.length_drop, List.length_take] <;> omega) | decide) only [go_sem, ↓reduceIte, Nat.reduceEqDiff, reduceCtorEq, Nat.reduceLT, Nat.reduceBEq, Nat.reduceAdd, Nat.reduceSub, Nat.reduceMul, Nat.reduceMod, h12, h18]
  refine hK6 _ ?_
  clear hK6 K6
  refine Tr.kp [0, 1, 8] ?_
  simp only [pk_cons, pk_nil, ↓A_cons, ↓reduceIte, Nat.reduceEqDiff]
  refine Tr.seqK fun K7 hK7 => ?_
  refine Tr.seqK fun K8 hK8 => ?_
  by_cases b1 : k < ((1 : Nat) : Int)
  ·
   refine Tr.rgD hcx hMO [] [some 16, some 17, some 18, some 19, some 20, some 21, some 22, some 23, some 24, some 25, some 26, some 27, some 28, some 29, some 30, some 31, some 32, some 33, some 34, some 35, some 36, some 37] [] rfl rfl rfl rfl ?_
   simp -implicitDefEqProofs (maxSteps := 2000000) (disch := first | omega | (simp only [go_sem, List.length_append, List.length_drop, List.length_take] <;> omega) | decide) only [go_sem, ↓reduceIte, Nat.reduceEqDiff, reduceCtorEq, Nat.reduceLT, Nat.reduceBEq, Nat.reduceAdd, Nat.reduceSub, Nat.reduceMul, Nat.reduceMod, h12, h18, b1, int_nI']
   with_reducible refine And.intro ?_ ?_
   · exact rfl
   refine hK8 _ ?_
   clear hK8 K8
   refine Tr.kp [0, 1, 8, 37] ?_
   simp only [pk_cons, pk_nil, ↓A_cons, ↓reduceIte, Nat.reduceEqDiff]
   refine Tr.condG fun KT KF hT hF => ?_
   simp only [ev_tmp, ev_const, ↓A_cons, ↓reduceIte, Nat.reduceEqDiff, reduceCtorEq, condG_bool, GB_true, GB_false, decide_eq_true_eq]
   refine hT ?_
   clear hT hF KT KF
   refine Tr.seqK fun K9 hK9 => ?_
   refine Tr.rg hcx [] _ [] rfl rfl rfl ?_
   simp -implicitDefEqProofs (maxSteps := 2000000) (disch := first | omega | (simp only [go_sem, List.length_append, List.length_drop, List.length_take] <;> omega) | decide) only [go_sem, ↓reduceIte, Nat.reduceEqDiff, reduceCtorEq, Nat.reduceLT, Nat.reduceBEq, Nat.reduceAdd, Nat.reduceSub, Nat.reduceMul, Nat.reduceMod, h12, h18, b1]
   refine hK9 _ ?_
   clear hK9 K9
   refine Tr.kp [4, 5, 6] ?_
   simp only [pk_cons, pk_nil, ↓A_cons, ↓reduceIte, Nat.reduceEqDiff]
   refine Tr.ret ?_
   simp -implicitDefEqProofs (disch := first | omega | (simp only [go_sem, List.length_append, List.length_drop, List.length_take] <;> omega) | decide) only [go_sem, ↓reduceIte, Nat.reduceEqDiff, reduceCtorEq]
   all_goals (first | rw [cut_v hc12] | (rw [cut_b hc12 (.inl b1)]) | (rw [cut_b hc12 (.inr (.inl b2))]) | (rw [cut_b (k := (k' : Int)) hc12 (.inr (.inr hc37))]) | (rw [cut_ok (k := k') hc12 (by omega) (by omega) hc37]))
  ·
   by_cases b2 : (((toks s).length : Nat) : Int) ≤ k
   ·
    refine Tr.rgD hcx hMO [] [some 16, some 17, some 18, some 19, some 20, some 21, some 22, some 23, some 24, some 25, some 26, some 27, some 28, some 29, some 30, some 31, some 32, some 33, some 34, some 35, some 36, some 37] [] rfl rfl rfl rfl ?_
    simp -implicitDefEqProofs (maxSteps := 2000000) (disch := first | omega | (simp only [go_sem, List.length_append, List.length_drop, List.length_take] <;> omega) | decide) only [go_sem, ↓reduceIte, Nat.reduceEqDiff, reduceCtorEq, Nat.reduceLT, Nat.reduceBEq, Nat.reduceAdd, Nat.reduceSub, Nat.reduceMul, Nat.reduceMod, h12, h18, b1, b2, int_nI']
    with_reducible refine And.intro ?_ ?_
    · exact rfl
    refine hK8 _ ?_
    clear hK8 K8
    refine Tr.kp [0, 1, 8, 37] ?_
    simp only [pk_cons, pk_nil, ↓A_cons, ↓reduceIte, Nat.reduceEqDiff]
    refine Tr.condG fun KT KF hT hF => ?_
    simp only [ev_tmp, ev_const, ↓A_cons, ↓reduceIte, Nat.reduceEqDiff, reduceCtorEq, condG_bool, GB_true, GB_false, decide_eq_true_eq]
    refine hT ?_
    clear hT hF KT KF
    refine Tr.seqK fun K10 hK10 => ?_
    refine Tr.rg hcx [] _ [] rfl rfl rfl ?_
    simp -implicitDefEqProofs (maxSteps := 2000000) (disch := first | omega | (simp only [go_sem, List.length_append, List.length_drop, List.length_take] <;> omega) | decide) only [go_sem, ↓reduceIte, Nat.reduceEqDiff, reduceCtorEq, Nat.reduceLT, Nat.reduceBEq, Nat.reduceAdd, Nat.reduceSub, Nat.reduceMul, Nat.reduceMod, h12, h18, b1, b2]
    refine hK10 _ ?_
    clear hK10 K10
    refine Tr.kp [4, 5, 6] ?_
    simp only [pk_cons, pk_nil, ↓A_cons, ↓reduceIte, Nat.reduceEqDiff]
    refine Tr.ret ?_
    simp -implicitDefEqProofs (disch := first | omega | (simp only [go_sem, List.length_append, List.length_drop, List.length_take] <;> omega) | decide) only [go_sem, ↓reduceIte, Nat.reduceEqDiff, reduceCtorEq]
    all_goals (first | rw [cut_v hc12] | (rw [cut_b hc12 (.inl b1)]) | (rw [cut_b hc12 (.inr (.inl b2))]) | (rw [cut_b (k := (k' : Int)) hc12 (.inr (.inr hc37))]) | (rw [cut_ok (k := k') hc12 (by omega) (by omega) hc37]))
   ·
    obtain ⟨k', rfl⟩ : ∃ k' : Nat, k = (k' : Int) := ⟨k.toNat, by omega⟩
    replace b1 : ¬ k' < 1 := by omega
    replace b2 : ¬ (toks s).length ≤ k' := by omega
    have hb2 := toks_get s k' (by omega)
    have hb3 := toks_get s (k' - 1) (by omega)
    have hb4 := (toks_lie s).lt (k' - 1) k' (by omega) (by omega)
    refine Tr.rgD hcx hMO [] [some 16, some 17, some 18, some 19, some 20, some 21, some 22, some 23, some 24, some 25, some 26, some 27, some 28, some 29, some 30, some 31, some 32, some 33, some 34, some 35, some 36, some 37] [] rfl rfl rfl rfl ?_
    simp -implicitDefEqProofs (maxSteps := 2000000) (disch := first | omega | (simp only [go_sem, List.length_append, List.length_drop, List.length_take] <;> omega) | decide) only [go_sem, ↓reduceIte, Nat.reduceEqDiff, reduceCtorEq, Nat.reduceLT, Nat.reduceBEq, Nat.reduceAdd, Nat.reduceSub, Nat.reduceMul, Nat.reduceMod, h12, h18, b1, b2, int_nI']
    with_reducible refine And.intro ?_ ?_
    · exact rfl
    refine hK8 _ ?_
    clear hK8 K8
    refine Tr.kp [0, 1, 8, 37] ?_
    simp only [pk_cons, pk_nil, ↓A_cons, ↓reduceIte, Nat.reduceEqDiff]
    refine Tr.condG fun KT KF hT hF => ?_
    simp only [ev_tmp, ev_const, ↓A_cons, ↓reduceIte, Nat.reduceEqDiff, reduceCtorEq, condG_bool, GB_true, GB_false, decide_eq_true_eq]
    refine GB.dec (fun hc37 => hT ?_) (fun hc37 => hF ?_)
    ·
     clear hT hF KT KF
     refine Tr.seqK fun K11 hK11 => ?_
     refine Tr.rg hcx [] _ [] rfl rfl rfl ?_
     simp -implicitDefEqProofs (maxSteps := 2000000) (disch := first | omega | (simp only [go_sem, List.length_append, List.length_drop, List.length_take] <;> omega) | decide) only [go_sem, ↓reduceIte, Nat.reduceEqDiff, reduceCtorEq, Nat.reduceLT, Nat.reduceBEq, Nat.reduceAdd, Nat.reduceSub, Nat.reduceMul, Nat.reduceMod, h12, h18, b1, b2]
     refine hK11 _ ?_
     clear hK11 K11
     refine Tr.kp [4, 5, 6] ?_
     simp only [pk_cons, pk_nil, ↓A_cons, ↓reduceIte, Nat.reduceEqDiff]
     refine Tr.ret ?_
     simp -implicitDefEqProofs (disch := first | omega | (simp only [go_sem, List.length_append, List.length_drop, List.length_take] <;> omega) | decide) only [go_sem, ↓reduceIte, Nat.reduceEqDiff, reduceCtorEq]
     all_goals (first | rw [cut_v hc12] | (rw [cut_b hc12 (.inl b1)]) | (rw [cut_b hc12 (.inr (.inl b2))]) | (rw [cut_b (k := (k' : Int)) hc12 (.inr (.inr hc37))]) | (rw [cut_ok (k := k') hc12 (by omega) (by omega) hc37]))
    ·
     clear hT hF KT KF
     refine Tr.skip ?_
     refine hK7 _ ?_
     clear hK7 K7
     refine Tr.kp [0, 1, 8] ?_
     simp only [pk_cons, pk_nil, ↓A_cons, ↓reduceIte, Nat.reduceEqDiff]
     refine Tr.seqK fun K12 hK12 => ?_
     refine Tr.rgD hcx hMO [1000045, 1000052] _ [] rfl rfl rfl rfl ?_
     simp -implicitDefEqProofs (maxSteps := 2000000) (disch := first | omega | (simp only [go_sem, List.length_append, List.length_drop, List.length_take] <;> omega) | decide) only [go_sem, ↓reduceIte, Nat.reduceEqDiff, reduceCtorEq, Nat.reduceLT, Nat.reduceBEq, Nat.reduceAdd, Nat.reduceSub, Nat.reduceMul, Nat.reduceMod, h12, h18, b1, b2, int_nI']
     with_reducible refine And.intro ?_ ?_
     · exact rfl
     refine hK12 _ ?_
     clear hK12 K12
     refine Tr.kp [4, 5, 6] ?_
     simp only [pk_cons, pk_nil, ↓A_cons, ↓reduceIte, Nat.reduceEqDiff]
     refine Tr.ret ?_
     simp -implicitDefEqProofs (disch := first | omega | (simp only [go_sem, List.length_append, List.length_drop, List.length_take] <;> omega) | decide) only [go_sem, ↓reduceIte, Nat.reduceEqDiff, reduceCtorEq]
     all_goals (first | rw [cut_v hc12] | (rw [cut_b hc12 (.inl b1)]) | (rw [cut_b hc12 (.inr (.inl b2))]) | (rw [cut_b (k := (k' : Int)) hc12 (.inr (.inr hc37))]) | (rw [cut_ok (k := k') hc12 (by omega) (by omega) hc37]))
end Go.Sx
