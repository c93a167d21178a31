/-
  Package hash: contracts of functions. And what follows.
-/
import Derived.Test.YthjamgmeehjfmaaDoorPao
import Derived.Test.YthjamgmeehjfmaaDoorPal
set_option linter.unusedSimpArgs false
set_option linter.unusedVariables false
namespace Go.Sx
open Go.RowKit Go.Proofs
set_option maxRecDepth 100000 in
set_option maxHeartbeats 8000000 in
theorem fc26p {gl : Nat → C} {M : Nat} {pu : Nat → List C → Option C}  (hcx : CxOK (cxP gl M pu)) (m : Nat) (hm : m < 9223372036854775808) : FC Tryd.prog gl 26 [.val (nI m)] [] (sl bC (.own 1) (wI m 0)) [] := by
 replace hcx := hcx.reN (M := 47)
 refine FC.ofA (cx := cxP gl 47 pu) (rs := [.tmp 2]) rfl Tryd.func26 rfl rfl rfl (by simp only [List.length_cons, List.length_nil]; decide) (by simp only [go_sem]) ?_
 simp only [ini, go_sem]
 have hk8 : (le m).length ≤ 8 := le_len 8 m (by omega)
 refine Tr.seqK fun K1 hK1 => ?_
 refine Tr.rg hcx [] _ [] rfl rfl rfl ?_
 simp -implicitDefEqProofs (maxSteps := 2000000) (disch := first | omega | (simp only [go_sem, List.length_append, List.length_drop, List.length_take] <;> omega) | decide) only [go_sem, ↓reduceIte, Nat.reduceEqDiff, reduceCtorEq, Nat.reduceLT, Nat.reduceBEq, Nat.reduceAdd, Nat.reduceSub, Nat.reduceMul, Nat.reduceMod]
 refine hK1 _ ?_
 clear hK1 K1
 refine Tr.kp [0] ?_
 simp only [pk_cons, pk_nil, ↓A_cons, ↓reduceIte, Nat.reduceEqDiff]
 refine Tr.scope ?_
 refine Tr.seqK fun K2 hK2 => ?_
 refine Tr.rg hcx [1000009] _ [] rfl rfl rfl ?_
 simp -implicitDefEqProofs (maxSteps := 2000000) (disch := first | omega | (simp only [go_sem, List.length_append, List.length_drop, List.length_take] <;> omega) | decide) only [go_sem, ↓reduceIte, Nat.reduceEqDiff, reduceCtorEq, Nat.reduceLT, Nat.reduceBEq, Nat.reduceAdd, Nat.reduceSub, Nat.reduceMul, Nat.reduceMod]
 refine hK2 _ ?_
 clear hK2 K2
 refine Tr.kp [0, 3, 4] ?_
 simp only [pk_cons, pk_nil, ↓A_cons, ↓reduceIte, Nat.reduceEqDiff]
 refine Tr.seqK fun K3 hK3 => ?_
 refine Tr.seqK fun K4 hK4 => ?_
 refine Tr.rg hcx [] _ [] rfl rfl rfl ?_
 simp -implicitDefEqProofs (maxSteps := 2000000) (disch := first | omega | (simp only [go_sem, List.length_append, List.length_drop, List.length_take] <;> omega) | decide) only [go_sem, ↓reduceIte, Nat.reduceEqDiff, reduceCtorEq, Nat.reduceLT, Nat.reduceBEq, Nat.reduceAdd, Nat.reduceSub, Nat.reduceMul, Nat.reduceMod]
 refine hK4 _ ?_
 clear hK4 K4
 refine Tr.kp [3, 4, 11] ?_
 simp only [pk_cons, pk_nil, ↓A_cons, ↓reduceIte, Nat.reduceEqDiff]
 refine Tr.condG fun KT KF hT hF => ?_
 simp only [ev_tmp, ev_const, ↓A_cons, ↓reduceIte, Nat.reduceEqDiff, reduceCtorEq, condG_bool, GB_true, GB_false, decide_eq_true_eq]
 refine GB.neg ((decide_eq_false (by omega))) (hF ?_)
 clear hT hF KT KF
 refine Tr.skip ?_
 refine hK3 _ ?_
 clear hK3 K3
 refine Tr.kp [3, 4] ?_
 simp only [pk_cons, pk_nil, ↓A_cons, ↓reduceIte, Nat.reduceEqDiff]
 refine Tr.seqK fun K5 hK5 => ?_
 refine Tr.rg hcx [] _ [] rfl rfl rfl ?_
 simp -implicitDefEqProofs (maxSteps := 2000000) (disch := first | omega | (simp only [go_sem, List.length_append, List.length_drop, List.length_take] <;> omega) | decide) only [go_sem, ↓reduceIte, Nat.reduceEqDiff, reduceCtorEq, Nat.reduceLT, Nat.reduceBEq, Nat.reduceAdd, Nat.reduceSub, Nat.reduceMul, Nat.reduceMod]
 refine hK5 _ ?_
 clear hK5 K5
 refine Tr.kp [3, 4, 5] ?_
 simp only [pk_cons, pk_nil, ↓A_cons, ↓reduceIte, Nat.reduceEqDiff]
 refine Tr.seqK fun K6 hK6 => ?_
 refine Tr.label ?_
 refine hK6 _ ?_
 clear hK6 K6
 refine Tr.kp [3, 4, 5] ?_
 simp only [pk_cons, pk_nil, ↓A_cons, ↓reduceIte, Nat.reduceEqDiff]
 refine Tr.seqK fun K7 hK7 => ?_
 refine Tr.blk ?_
 refine Tr.loopI (α := Nat) (fun a => [(3, ?v3_17), (4, ?v4_17), (5, .val (nI a))]) (fun a => ?h_17) (fun a => a ≤ 8 ∧ m < 256 ^ a) (fun a => a) (8) ?_ ?le_17 ?hh_17 ?bd_17
 case hh_17 => exact rfl
 case le_17 => (simp only [Le_nil, Le_cons, ↓A_cons, ↓reduceIte, Nat.reduceEqDiff, reduceCtorEq, CLe_refl, CLe_top, CLe_full, CLe_nil, CLe_own, and_true, true_and]; all_goals (repeat' first | exact CLe.refl _ | exact True.intro | (refine CLe_sln ?_; first | with_reducible rfl | (simp only [List.take_zero]; done) | (rfl; done)) | exact CLe_nI (by omega) | exact CLe_int (by omega) | exact CLe_inI (by omega) | exact CLe_nIi (by omega) | with_reducible apply And.intro))
 · exact ⟨by omega, by omega⟩
 case bd_17 =>
  rintro k ⟨hk, hmk⟩
  refine Tr.seqK fun K8 hK8 => ?_
  refine Tr.seqK fun K9 hK9 => ?_
  refine Tr.rg hcx [] _ [] rfl rfl rfl ?_
  simp -implicitDefEqProofs (maxSteps := 2000000) (disch := first | omega | (simp only [go_sem, List.length_append, List.length_drop, List.length_take] <;> omega) | decide) only [go_sem, ↓reduceIte, Nat.reduceEqDiff, reduceCtorEq, Nat.reduceLT, Nat.reduceBEq, Nat.reduceAdd, Nat.reduceSub, Nat.reduceMul, Nat.reduceMod]
  refine hK9 _ ?_
  clear hK9 K9
  refine Tr.kp [3, 4, 5, 15] ?_
  simp only [pk_cons, pk_nil, ↓A_cons, ↓reduceIte, Nat.reduceEqDiff]
  refine Tr.condG fun KT KF hT hF => ?_
  simp only [ev_tmp, ev_const, ↓A_cons, ↓reduceIte, Nat.reduceEqDiff, reduceCtorEq, condG_bool, GB_true, GB_false, decide_eq_true_eq]
  refine GB.dec (fun hc15 => hT ?_) (fun hc15 => hF ?_)
  ·
   clear hT hF KT KF
   refine Tr.skip ?_
   refine hK8 _ ?_
   clear hK8 K8
   refine Tr.kp [3, 4, 5] ?_
   simp only [pk_cons, pk_nil, ↓A_cons, ↓reduceIte, Nat.reduceEqDiff]
   refine Tr.blk ?_
   refine Tr.seqK fun K10 hK10 => ?_
   refine Tr.seqK fun K11 hK11 => ?_
   refine Tr.rg hcx [] _ [] rfl rfl rfl ?_
   simp -implicitDefEqProofs (maxSteps := 2000000) (disch := first | omega | (simp only [go_sem, List.length_append, List.length_drop, List.length_take] <;> omega) | decide) only [go_sem, ↓reduceIte, Nat.reduceEqDiff, reduceCtorEq, Nat.reduceLT, Nat.reduceBEq, Nat.reduceAdd, Nat.reduceSub, Nat.reduceMul, Nat.reduceMod]
   refine hK11 _ ?_
   clear hK11 K11
   refine Tr.kp [3, 4, 5, 21] ?_
   simp only [pk_cons, pk_nil, ↓A_cons, ↓reduceIte, Nat.reduceEqDiff]
   refine Tr.condG fun KT KF hT hF => ?_
   simp only [ev_tmp, ev_const, ↓A_cons, ↓reduceIte, Nat.reduceEqDiff, reduceCtorEq, condG_bool, GB_true, GB_false, decide_eq_true_eq]
   refine GB.dec (fun hc21 => hT ?_) (fun hc21 => hF ?_)
   ·
    clear hT hF KT KF
    have hkk := le_done m k hmk (.inr hc21)
    subst hkk
    clear hc21 hmk hk hc15
    refine Tr.exit ?_
    refine hK7 _ ?_
    clear hK10 K10 hK7 K7
    refine Tr.kp [3, 4, 5] ?_
    simp only [pk_cons, pk_nil, ↓A_cons, ↓reduceIte, Nat.reduceEqDiff]
    refine Tr.seqK fun K12 hK12 => ?_
    refine Tr.rg hcx [1000029] _ [] rfl rfl rfl ?_
    simp -implicitDefEqProofs (maxSteps := 2000000) (disch := first | omega | (simp only [go_sem, List.length_append, List.length_drop, List.length_take] <;> omega) | decide) only [go_sem, ↓reduceIte, Nat.reduceEqDiff, reduceCtorEq, Nat.reduceLT, Nat.reduceBEq, Nat.reduceAdd, Nat.reduceSub, Nat.reduceMul, Nat.reduceMod]
    refine hK12 _ ?_
    clear hK12 K12
    refine Tr.kp [3, 4, 5, 6] ?_
    simp only [pk_cons, pk_nil, ↓A_cons, ↓reduceIte, Nat.reduceEqDiff]
    refine Tr.seqK fun K13 hK13 => ?_
    refine Tr.seqK fun K14 hK14 => ?_
    refine Tr.rg hcx [1000031] _ [] rfl rfl rfl ?_
    simp -implicitDefEqProofs (maxSteps := 2000000) (disch := first | omega | (simp only [go_sem, List.length_append, List.length_drop, List.length_take] <;> omega) | decide) only [go_sem, ↓reduceIte, Nat.reduceEqDiff, reduceCtorEq, Nat.reduceLT, Nat.reduceBEq, Nat.reduceAdd, Nat.reduceSub, Nat.reduceMul, Nat.reduceMod, n_subG]
    refine hK14 _ ?_
    clear hK14 K14
    refine Tr.kp [3, 4, 6, 7] ?_
    simp only [pk_cons, pk_nil, ↓A_cons, ↓reduceIte, Nat.reduceEqDiff]
    refine Tr.blk ?_
    refine Tr.loopI (α := Nat) (fun a => [(3, ?v3_38), (4, ?v4_38), (6, sl bC (.own 1) ((UInt8.ofNat (128 + (le m).length) ^^^ UInt8.ofNat 0) :: ((be m (le m).length).map (· ^^^ UInt8.ofNat 0)).take a)), (7, .val (.int .i64 (((le m).length : Int) - 1 - (a : Int))))]) (fun a => ?h_38) (fun a => a ≤ (le m).length) (fun a => (le m).length - a) (0) ?_ ?le_38 ?hh_38 ?bd_38
    case hh_38 => exact rfl
    case le_38 => (simp only [Le_nil, Le_cons, ↓A_cons, ↓reduceIte, Nat.reduceEqDiff, reduceCtorEq, CLe_refl, CLe_top, CLe_full, CLe_nil, CLe_own, and_true, true_and]; all_goals (repeat' first | exact CLe.refl _ | exact True.intro | (refine CLe_sln ?_; first | with_reducible rfl | (simp only [List.take_zero]; done) | (rfl; done)) | exact CLe_nI (by omega) | exact CLe_int (by omega) | exact CLe_inI (by omega) | exact CLe_nIi (by omega) | with_reducible apply And.intro)); all_goals first | exact CLe_slf (by simp) | exact CLe_int (by omega)
    · omega
    case bd_38 =>
     rintro a ha
     refine Tr.seqK fun K15 hK15 => ?_
     refine Tr.seqK fun K16 hK16 => ?_
     refine Tr.rg hcx [] _ [] rfl rfl rfl ?_
     simp -implicitDefEqProofs (maxSteps := 2000000) (disch := first | omega | (simp only [go_sem, List.length_append, List.length_drop, List.length_take] <;> omega) | decide) only [go_sem, ↓reduceIte, Nat.reduceEqDiff, reduceCtorEq, Nat.reduceLT, Nat.reduceBEq, Nat.reduceAdd, Nat.reduceSub, Nat.reduceMul, Nat.reduceMod]
     refine hK16 _ ?_
     clear hK16 K16
     refine Tr.kp [3, 4, 6, 7, 33] ?_
     simp only [pk_cons, pk_nil, ↓A_cons, ↓reduceIte, Nat.reduceEqDiff]
     refine Tr.condG fun KT KF hT hF => ?_
     simp only [ev_tmp, ev_const, ↓A_cons, ↓reduceIte, Nat.reduceEqDiff, reduceCtorEq, condG_bool, GB_true, GB_false, decide_eq_true_eq]
     refine GB.dec (fun hc33 => hT ?_) (fun hc33 => hF ?_)
     ·
      clear hT hF KT KF
      refine Tr.skip ?_
      refine hK15 _ ?_
      clear hK15 K15
      refine Tr.kp [3, 4, 6, 7] ?_
      simp only [pk_cons, pk_nil, ↓A_cons, ↓reduceIte, Nat.reduceEqDiff]
      refine Tr.seqK fun K17 hK17 => ?_
      refine Tr.blk ?_
      refine Tr.rg hcx [36, 1000045] _ [] rfl rfl rfl ?_
      simp -implicitDefEqProofs (maxSteps := 2000000) (disch := first | omega | (simp only [go_sem, List.length_append, List.length_drop, List.length_take] <;> omega) | decide) only [go_sem, ↓reduceIte, Nat.reduceEqDiff, reduceCtorEq, Nat.reduceLT, Nat.reduceBEq, Nat.reduceAdd, Nat.reduceSub, Nat.reduceMul, Nat.reduceMod]
      refine hK17 _ ?_
      clear hK17 K17
      refine Tr.kp [3, 4, 6, 7] ?_
      simp only [pk_cons, pk_nil, ↓A_cons, ↓reduceIte, Nat.reduceEqDiff]
      refine Tr.rg hcx [1000035] _ [] rfl rfl rfl ?_
      simp -implicitDefEqProofs (maxSteps := 2000000) (disch := first | omega | (simp only [go_sem, List.length_append, List.length_drop, List.length_take] <;> omega) | decide) only [go_sem, ↓reduceIte, Nat.reduceEqDiff, reduceCtorEq, Nat.reduceLT, Nat.reduceBEq, Nat.reduceAdd, Nat.reduceSub, Nat.reduceMul, Nat.reduceMod]
      refine ⟨a + 1, ⟨by omega, by first | omega | (simp only []; omega)⟩, ?_, rfl⟩
      (simp only [Le_nil, Le_cons, ↓A_cons, ↓reduceIte, Nat.reduceEqDiff, reduceCtorEq, CLe_refl, CLe_top, CLe_full, CLe_nil, CLe_own, and_true, true_and]; all_goals (repeat' first | exact CLe.refl _ | exact True.intro | (refine CLe_sln ?_; first | with_reducible rfl | (simp only [List.take_zero]; done) | (rfl; done)) | exact CLe_nI (by omega) | exact CLe_int (by omega) | exact CLe_inI (by omega) | exact CLe_nIi (by omega) | with_reducible apply And.intro))
      all_goals first | exact CLe.refl _ | exact CLe_int (by omega) | (refine CLe_sl ?_; rw [← wI_next m _ a (by omega), show (((8 : Nat) : Int) * (((le m).length : Int) - 1 - (a : Int))).toNat = 8 * ((le m).length - 1 - a) by omega]; try rfl)
     ·
      clear hT hF KT KF
      obtain rfl : a = (le m).length := by omega
      refine Tr.exit ?_
      refine hK13 _ ?_
      clear hK15 K15 hK13 K13
      refine Tr.kp [6] ?_
      simp only [pk_cons, pk_nil, ↓A_cons, ↓reduceIte, Nat.reduceEqDiff]
      refine Tr.seqK fun K18 hK18 => ?_
      refine Tr.rg hcx [1000046] _ [] rfl rfl rfl ?_
      simp -implicitDefEqProofs (maxSteps := 2000000) (disch := first | omega | (simp only [go_sem, List.length_append, List.length_drop, List.length_take] <;> omega) | decide) only [go_sem, ↓reduceIte, Nat.reduceEqDiff, reduceCtorEq, Nat.reduceLT, Nat.reduceBEq, Nat.reduceAdd, Nat.reduceSub, Nat.reduceMul, Nat.reduceMod]
      refine hK18 _ ?_
      clear hK18 K18
      refine Tr.kp [2] ?_
      simp only [pk_cons, pk_nil, ↓A_cons, ↓reduceIte, Nat.reduceEqDiff]
      refine Tr.ret ?_
      simp -implicitDefEqProofs (disch := first | omega | (simp only [go_sem, List.length_append, List.length_drop, List.length_take] <;> omega) | decide) only [go_sem, ↓reduceIte, Nat.reduceEqDiff, reduceCtorEq]
      all_goals (rw [List.take_of_length_le (by simp [be_len])]; rfl)
   ·
    clear hT hF KT KF
    refine Tr.skip ?_
    refine hK10 _ ?_
    clear hK10 K10
    refine Tr.kp [3, 4, 5] ?_
    simp only [pk_cons, pk_nil, ↓A_cons, ↓reduceIte, Nat.reduceEqDiff]
    refine Tr.rg hcx [1000023] _ [] rfl rfl rfl ?_
    simp -implicitDefEqProofs (maxSteps := 2000000) (disch := first | omega | (simp only [go_sem, List.length_append, List.length_drop, List.length_take] <;> omega) | decide) only [go_sem, ↓reduceIte, Nat.reduceEqDiff, reduceCtorEq, Nat.reduceLT, Nat.reduceBEq, Nat.reduceAdd, Nat.reduceSub, Nat.reduceMul, Nat.reduceMod]
    refine ⟨k - 1, ⟨⟨by omega, le_less m k hc15 hc21⟩, by first | omega | (simp only []; omega)⟩, ?_, rfl⟩
    (simp only [Le_nil, Le_cons, ↓A_cons, ↓reduceIte, Nat.reduceEqDiff, reduceCtorEq, CLe_refl, CLe_top, CLe_full, CLe_nil, CLe_own, and_true, true_and]; all_goals (repeat' first | exact CLe.refl _ | exact True.intro | (refine CLe_sln ?_; first | with_reducible rfl | (simp only [List.take_zero]; done) | (rfl; done)) | exact CLe_nI (by omega) | exact CLe_int (by omega) | exact CLe_inI (by omega) | exact CLe_nIi (by omega) | with_reducible apply And.intro))
    all_goals first | exact CLe.refl _ | exact CLe_int (by omega) | exact CLe_nI (by omega) | exact CLe_nIi (by omega) | exact CLe_inI (by omega)
  ·
   clear hT hF KT KF
   have hkk := le_done m k hmk (.inl hc15)
   subst hkk
   clear hc15 hmk hk
   refine Tr.exit ?_
   refine hK7 _ ?_
   clear hK8 K8 hK7 K7
   refine Tr.kp [3, 4, 5] ?_
   simp only [pk_cons, pk_nil, ↓A_cons, ↓reduceIte, Nat.reduceEqDiff]
   refine Tr.seqK fun K19 hK19 => ?_
   refine Tr.rg hcx [1000029] _ [] rfl rfl rfl ?_
   simp -implicitDefEqProofs (maxSteps := 2000000) (disch := first | omega | (simp only [go_sem, List.length_append, List.length_drop, List.length_take] <;> omega) | decide) only [go_sem, ↓reduceIte, Nat.reduceEqDiff, reduceCtorEq, Nat.reduceLT, Nat.reduceBEq, Nat.reduceAdd, Nat.reduceSub, Nat.reduceMul, Nat.reduceMod]
   refine hK19 _ ?_
   clear hK19 K19
   refine Tr.kp [3, 4, 5, 6] ?_
   simp only [pk_cons, pk_nil, ↓A_cons, ↓reduceIte, Nat.reduceEqDiff]
   refine Tr.seqK fun K20 hK20 => ?_
   refine Tr.seqK fun K21 hK21 => ?_
   refine Tr.rg hcx [1000031] _ [] rfl rfl rfl ?_
   simp -implicitDefEqProofs (maxSteps := 2000000) (disch := first | omega | (simp only [go_sem, List.length_append, List.length_drop, List.length_take] <;> omega) | decide) only [go_sem, ↓reduceIte, Nat.reduceEqDiff, reduceCtorEq, Nat.reduceLT, Nat.reduceBEq, Nat.reduceAdd, Nat.reduceSub, Nat.reduceMul, Nat.reduceMod, n_subG]
   refine hK21 _ ?_
   clear hK21 K21
   refine Tr.kp [3, 4, 6, 7] ?_
   simp only [pk_cons, pk_nil, ↓A_cons, ↓reduceIte, Nat.reduceEqDiff]
   refine Tr.blk ?_
   refine Tr.loopI (α := Nat) (fun a => [(3, ?v3_38), (4, ?v4_38), (6, sl bC (.own 1) ((UInt8.ofNat (128 + (le m).length) ^^^ UInt8.ofNat 0) :: ((be m (le m).length).map (· ^^^ UInt8.ofNat 0)).take a)), (7, .val (.int .i64 (((le m).length : Int) - 1 - (a : Int))))]) (fun a => ?h_38) (fun a => a ≤ (le m).length) (fun a => (le m).length - a) (0) ?_ ?le_38 ?hh_38 ?bd_38
   case hh_38 => exact rfl
   case le_38 => (simp only [Le_nil, Le_cons, ↓A_cons, ↓reduceIte, Nat.reduceEqDiff, reduceCtorEq, CLe_refl, CLe_top, CLe_full, CLe_nil, CLe_own, and_true, true_and]; all_goals (repeat' first | exact CLe.refl _ | exact True.intro | (refine CLe_sln ?_; first | with_reducible rfl | (simp only [List.take_zero]; done) | (rfl; done)) | exact CLe_nI (by omega) | exact CLe_int (by omega) | exact CLe_inI (by omega) | exact CLe_nIi (by omega) | with_reducible apply And.intro)); all_goals first | exact CLe_slf (by simp) | exact CLe_int (by omega)
   · omega
   case bd_38 =>
    rintro a ha
    refine Tr.seqK fun K22 hK22 => ?_
    refine Tr.seqK fun K23 hK23 => ?_
    refine Tr.rg hcx [] _ [] rfl rfl rfl ?_
    simp -implicitDefEqProofs (maxSteps := 2000000) (disch := first | omega | (simp only [go_sem, List.length_append, List.length_drop, List.length_take] <;> omega) | decide) only [go_sem, ↓reduceIte, Nat.reduceEqDiff, reduceCtorEq, Nat.reduceLT, Nat.reduceBEq, Nat.reduceAdd, Nat.reduceSub, Nat.reduceMul, Nat.reduceMod]
    refine hK23 _ ?_
    clear hK23 K23
    refine Tr.kp [3, 4, 6, 7, 33] ?_
    simp only [pk_cons, pk_nil, ↓A_cons, ↓reduceIte, Nat.reduceEqDiff]
    refine Tr.condG fun KT KF hT hF => ?_
    simp only [ev_tmp, ev_const, ↓A_cons, ↓reduceIte, Nat.reduceEqDiff, reduceCtorEq, condG_bool, GB_true, GB_false, decide_eq_true_eq]
    refine GB.dec (fun hc33 => hT ?_) (fun hc33 => hF ?_)
    ·
     clear hT hF KT KF
     refine Tr.skip ?_
     refine hK22 _ ?_
     clear hK22 K22
     refine Tr.kp [3, 4, 6, 7] ?_
     simp only [pk_cons, pk_nil, ↓A_cons, ↓reduceIte, Nat.reduceEqDiff]
     refine Tr.seqK fun K24 hK24 => ?_
     refine Tr.blk ?_
     refine Tr.rg hcx [36, 1000045] _ [] rfl rfl rfl ?_
     simp -implicitDefEqProofs (maxSteps := 2000000) (disch := first | omega | (simp only [go_sem, List.length_append, List.length_drop, List.length_take] <;> omega) | decide) only [go_sem, ↓reduceIte, Nat.reduceEqDiff, reduceCtorEq, Nat.reduceLT, Nat.reduceBEq, Nat.reduceAdd, Nat.reduceSub, Nat.reduceMul, Nat.reduceMod]
     refine hK24 _ ?_
     clear hK24 K24
     refine Tr.kp [3, 4, 6, 7] ?_
     simp only [pk_cons, pk_nil, ↓A_cons, ↓reduceIte, Nat.reduceEqDiff]
     refine Tr.rg hcx [1000035] _ [] rfl rfl rfl ?_
     simp -implicitDefEqProofs (maxSteps := 2000000) (disch := first | omega | (simp only [go_sem, List.length_append, List.length_drop, List.length_take] <;> omega) | decide) only [go_sem, ↓reduceIte, Nat.reduceEqDiff, reduceCtorEq, Nat.reduceLT, Nat.reduceBEq, Nat.reduceAdd, Nat.reduceSub, Nat.reduceMul, Nat.reduceMod]
     refine ⟨a + 1, ⟨by omega, by first | omega | (simp only []; omega)⟩, ?_, rfl⟩
     (simp only [Le_nil, Le_cons, ↓A_cons, ↓reduceIte, Nat.reduceEqDiff, reduceCtorEq, CLe_refl, CLe_top, CLe_full, CLe_nil, CLe_own, and_true, true_and]; all_goals (repeat' first | exact CLe.refl _ | exact True.intro | (refine CLe_sln ?_; first | with_reducible rfl | (simp only [List.take_zero]; done) | (rfl; done)) | exact CLe_nI (by omega) | exact CLe_int (by omega) | exact CLe_inI (by omega) | exact CLe_nIi (by omega) | with_reducible apply And.intro))
     all_goals first | exact CLe.refl _ | exact CLe_int (by omega) | (refine CLe_sl ?_; rw [← wI_next m _ a (by omega), show (((8 : Nat) : Int) * (((le m).length : Int) - 1 - (a : Int))).toNat = 8 * ((le m).length - 1 - a) by omega]; try rfl)
    ·
     clear hT hF KT KF
     obtain rfl : a = (le m).length := by omega
     refine Tr.exit ?_
     refine hK20 _ ?_
     clear hK22 K22 hK20 K20
     refine Tr.kp [6] ?_
     simp only [pk_cons, pk_nil, ↓A_cons, ↓reduceIte, Nat.reduceEqDiff]
     refine Tr.seqK fun K25 hK25 => ?_
     refine Tr.rg hcx [1000046] _ [] rfl rfl rfl ?_
     simp -implicitDefEqProofs (maxSteps := 2000000) (disch := first | omega | (simp only [go_sem, List.length_append, List.length_drop, List.length_take] <;> omega) | decide) only [go_sem, ↓reduceIte, Nat.reduceEqDiff, reduceCtorEq, Nat.reduceLT, Nat.reduceBEq, Nat.reduceAdd, Nat.reduceSub, Nat.reduceMul, Nat.reduceMod]
     refine hK25 _ ?_
     clear hK25 K25
     refine Tr.kp [2] ?_
     simp only [pk_cons, pk_nil, ↓A_cons, ↓reduceIte, Nat.reduceEqDiff]
     refine Tr.ret ?_
     simp -implicitDefEqProofs (disch := first | omega | (simp only [go_sem, List.length_append, List.length_drop, List.length_take] <;> omega) | decide) only [go_sem, ↓reduceIte, Nat.reduceEqDiff, reduceCtorEq]
     all_goals (rw [List.take_of_length_le (by simp [be_len])]; rfl)
set_option maxRecDepth 100000 in
set_option maxHeartbeats 8000000 in
theorem fc26n {gl : Nat → C} {M : Nat} {pu : Nat → List C → Option C}  (hcx : CxOK (cxP gl M pu)) (m : Nat) (hm : m < 9223372036854775808) : FC Tryd.prog gl 26 [.val (.int .i64 (-1 - (m : Int)))] [] (sl bC (.own 1) (wI m 255)) [] := by
 replace hcx := hcx.reN (M := 47)
 refine FC.ofA (cx := cxP gl 47 pu) (rs := [.tmp 2]) rfl Tryd.func26 rfl rfl rfl (by simp only [List.length_cons, List.length_nil]; decide) (by simp only [go_sem]) ?_
 simp only [ini, go_sem]
 have hk8 : (le m).length ≤ 8 := le_len 8 m (by omega)
 have em : 18446744073709551615 - ((-1 - (m : Int)) % 18446744073709551616).toNat = m := by omega
 refine Tr.seqK fun K1 hK1 => ?_
 refine Tr.rg hcx [] _ [] rfl rfl rfl ?_
 simp -implicitDefEqProofs (maxSteps := 2000000) (disch := first | omega | (simp only [go_sem, List.length_append, List.length_drop, List.length_take] <;> omega) | decide) only [go_sem, ↓reduceIte, Nat.reduceEqDiff, reduceCtorEq, Nat.reduceLT, Nat.reduceBEq, Nat.reduceAdd, Nat.reduceSub, Nat.reduceMul, Nat.reduceMod, em]
 refine hK1 _ ?_
 clear hK1 K1
 refine Tr.kp [0] ?_
 simp only [pk_cons, pk_nil, ↓A_cons, ↓reduceIte, Nat.reduceEqDiff]
 refine Tr.scope ?_
 refine Tr.seqK fun K2 hK2 => ?_
 refine Tr.rg hcx [1000009] _ [] rfl rfl rfl ?_
 simp -implicitDefEqProofs (maxSteps := 2000000) (disch := first | omega | (simp only [go_sem, List.length_append, List.length_drop, List.length_take] <;> omega) | decide) only [go_sem, ↓reduceIte, Nat.reduceEqDiff, reduceCtorEq, Nat.reduceLT, Nat.reduceBEq, Nat.reduceAdd, Nat.reduceSub, Nat.reduceMul, Nat.reduceMod, em]
 refine hK2 _ ?_
 clear hK2 K2
 refine Tr.kp [0, 3, 4] ?_
 simp only [pk_cons, pk_nil, ↓A_cons, ↓reduceIte, Nat.reduceEqDiff]
 refine Tr.seqK fun K3 hK3 => ?_
 refine Tr.seqK fun K4 hK4 => ?_
 refine Tr.rg hcx [] _ [] rfl rfl rfl ?_
 simp -implicitDefEqProofs (maxSteps := 2000000) (disch := first | omega | (simp only [go_sem, List.length_append, List.length_drop, List.length_take] <;> omega) | decide) only [go_sem, ↓reduceIte, Nat.reduceEqDiff, reduceCtorEq, Nat.reduceLT, Nat.reduceBEq, Nat.reduceAdd, Nat.reduceSub, Nat.reduceMul, Nat.reduceMod, em]
 refine hK4 _ ?_
 clear hK4 K4
 refine Tr.kp [3, 4, 11] ?_
 simp only [pk_cons, pk_nil, ↓A_cons, ↓reduceIte, Nat.reduceEqDiff]
 refine Tr.condG fun KT KF hT hF => ?_
 simp only [ev_tmp, ev_const, ↓A_cons, ↓reduceIte, Nat.reduceEqDiff, reduceCtorEq, condG_bool, GB_true, GB_false, decide_eq_true_eq]
 refine GB.pos ((decide_eq_true (by omega))) (hT ?_)
 clear hT hF KT KF
 refine Tr.rg hcx [1000013] _ [] rfl rfl rfl ?_
 simp -implicitDefEqProofs (maxSteps := 2000000) (disch := first | omega | (simp only [go_sem, List.length_append, List.length_drop, List.length_take] <;> omega) | decide) only [go_sem, ↓reduceIte, Nat.reduceEqDiff, reduceCtorEq, Nat.reduceLT, Nat.reduceBEq, Nat.reduceAdd, Nat.reduceSub, Nat.reduceMul, Nat.reduceMod, em]
 refine hK3 _ ?_
 clear hK3 K3
 refine Tr.kp [3, 4] ?_
 simp only [pk_cons, pk_nil, ↓A_cons, ↓reduceIte, Nat.reduceEqDiff]
 refine Tr.seqK fun K5 hK5 => ?_
 refine Tr.rg hcx [] _ [] rfl rfl rfl ?_
 simp -implicitDefEqProofs (maxSteps := 2000000) (disch := first | omega | (simp only [go_sem, List.length_append, List.length_drop, List.length_take] <;> omega) | decide) only [go_sem, ↓reduceIte, Nat.reduceEqDiff, reduceCtorEq, Nat.reduceLT, Nat.reduceBEq, Nat.reduceAdd, Nat.reduceSub, Nat.reduceMul, Nat.reduceMod, em]
 refine hK5 _ ?_
 clear hK5 K5
 refine Tr.kp [3, 4, 5] ?_
 simp only [pk_cons, pk_nil, ↓A_cons, ↓reduceIte, Nat.reduceEqDiff]
 refine Tr.seqK fun K6 hK6 => ?_
 refine Tr.label ?_
 refine hK6 _ ?_
 clear hK6 K6
 refine Tr.kp [3, 4, 5] ?_
 simp only [pk_cons, pk_nil, ↓A_cons, ↓reduceIte, Nat.reduceEqDiff]
 refine Tr.seqK fun K7 hK7 => ?_
 refine Tr.blk ?_
 refine Tr.loopI (α := Nat) (fun a => [(3, ?v3_69), (4, ?v4_69), (5, .val (nI a))]) (fun a => ?h_69) (fun a => a ≤ 8 ∧ m < 256 ^ a) (fun a => a) (8) ?_ ?le_69 ?hh_69 ?bd_69
 case hh_69 => exact rfl
 case le_69 => (simp only [Le_nil, Le_cons, ↓A_cons, ↓reduceIte, Nat.reduceEqDiff, reduceCtorEq, CLe_refl, CLe_top, CLe_full, CLe_nil, CLe_own, and_true, true_and]; all_goals (repeat' first | exact CLe.refl _ | exact True.intro | (refine CLe_sln ?_; first | with_reducible rfl | (simp only [List.take_zero]; done) | (rfl; done)) | exact CLe_nI (by omega) | exact CLe_int (by omega) | exact CLe_inI (by omega) | exact CLe_nIi (by omega) | with_reducible apply And.intro))
 · exact ⟨by omega, by omega⟩
 case bd_69 =>
  rintro k ⟨hk, hmk⟩
  refine Tr.seqK fun K8 hK8 => ?_
  refine Tr.seqK fun K9 hK9 => ?_
  refine Tr.rg hcx [] _ [] rfl rfl rfl ?_
  simp -implicitDefEqProofs (maxSteps := 2000000) (disch := first | omega | (simp only [go_sem, List.length_append, List.length_drop, List.length_take] <;> omega) | decide) only [go_sem, ↓reduceIte, Nat.reduceEqDiff, reduceCtorEq, Nat.reduceLT, Nat.reduceBEq, Nat.reduceAdd, Nat.reduceSub, Nat.reduceMul, Nat.reduceMod, em]
  refine hK9 _ ?_
  clear hK9 K9
  refine Tr.kp [3, 4, 5, 15] ?_
  simp only [pk_cons, pk_nil, ↓A_cons, ↓reduceIte, Nat.reduceEqDiff]
  refine Tr.condG fun KT KF hT hF => ?_
  simp only [ev_tmp, ev_const, ↓A_cons, ↓reduceIte, Nat.reduceEqDiff, reduceCtorEq, condG_bool, GB_true, GB_false, decide_eq_true_eq]
  refine GB.dec (fun hc15 => hT ?_) (fun hc15 => hF ?_)
  ·
   clear hT hF KT KF
   refine Tr.skip ?_
   refine hK8 _ ?_
   clear hK8 K8
   refine Tr.kp [3, 4, 5] ?_
   simp only [pk_cons, pk_nil, ↓A_cons, ↓reduceIte, Nat.reduceEqDiff]
   refine Tr.blk ?_
   refine Tr.seqK fun K10 hK10 => ?_
   refine Tr.seqK fun K11 hK11 => ?_
   refine Tr.rg hcx [] _ [] rfl rfl rfl ?_
   simp -implicitDefEqProofs (maxSteps := 2000000) (disch := first | omega | (simp only [go_sem, List.length_append, List.length_drop, List.length_take] <;> omega) | decide) only [go_sem, ↓reduceIte, Nat.reduceEqDiff, reduceCtorEq, Nat.reduceLT, Nat.reduceBEq, Nat.reduceAdd, Nat.reduceSub, Nat.reduceMul, Nat.reduceMod, em]
   refine hK11 _ ?_
   clear hK11 K11
   refine Tr.kp [3, 4, 5, 21] ?_
   simp only [pk_cons, pk_nil, ↓A_cons, ↓reduceIte, Nat.reduceEqDiff]
   refine Tr.condG fun KT KF hT hF => ?_
   simp only [ev_tmp, ev_const, ↓A_cons, ↓reduceIte, Nat.reduceEqDiff, reduceCtorEq, condG_bool, GB_true, GB_false, decide_eq_true_eq]
   refine GB.dec (fun hc21 => hT ?_) (fun hc21 => hF ?_)
   ·
    clear hT hF KT KF
    have hkk := le_done m k hmk (.inr hc21)
    subst hkk
    clear hc21 hmk hk hc15
    refine Tr.exit ?_
    refine hK7 _ ?_
    clear hK10 K10 hK7 K7
    refine Tr.kp [3, 4, 5] ?_
    simp only [pk_cons, pk_nil, ↓A_cons, ↓reduceIte, Nat.reduceEqDiff]
    refine Tr.seqK fun K12 hK12 => ?_
    refine Tr.rg hcx [1000029] _ [] rfl rfl rfl ?_
    simp -implicitDefEqProofs (maxSteps := 2000000) (disch := first | omega | (simp only [go_sem, List.length_append, List.length_drop, List.length_take] <;> omega) | decide) only [go_sem, ↓reduceIte, Nat.reduceEqDiff, reduceCtorEq, Nat.reduceLT, Nat.reduceBEq, Nat.reduceAdd, Nat.reduceSub, Nat.reduceMul, Nat.reduceMod, em]
    refine hK12 _ ?_
    clear hK12 K12
    refine Tr.kp [3, 4, 5, 6] ?_
    simp only [pk_cons, pk_nil, ↓A_cons, ↓reduceIte, Nat.reduceEqDiff]
    refine Tr.seqK fun K13 hK13 => ?_
    refine Tr.seqK fun K14 hK14 => ?_
    refine Tr.rg hcx [1000031] _ [] rfl rfl rfl ?_
    simp -implicitDefEqProofs (maxSteps := 2000000) (disch := first | omega | (simp only [go_sem, List.length_append, List.length_drop, List.length_take] <;> omega) | decide) only [go_sem, ↓reduceIte, Nat.reduceEqDiff, reduceCtorEq, Nat.reduceLT, Nat.reduceBEq, Nat.reduceAdd, Nat.reduceSub, Nat.reduceMul, Nat.reduceMod, em, n_subG]
    refine hK14 _ ?_
    clear hK14 K14
    refine Tr.kp [3, 4, 6, 7] ?_
    simp only [pk_cons, pk_nil, ↓A_cons, ↓reduceIte, Nat.reduceEqDiff]
    refine Tr.blk ?_
    refine Tr.loopI (α := Nat) (fun a => [(3, ?v3_90), (4, ?v4_90), (6, sl bC (.own 1) ((UInt8.ofNat (128 + (le m).length) ^^^ UInt8.ofNat 255) :: ((be m (le m).length).map (· ^^^ UInt8.ofNat 255)).take a)), (7, .val (.int .i64 (((le m).length : Int) - 1 - (a : Int))))]) (fun a => ?h_90) (fun a => a ≤ (le m).length) (fun a => (le m).length - a) (0) ?_ ?le_90 ?hh_90 ?bd_90
    case hh_90 => exact rfl
    case le_90 => (simp only [Le_nil, Le_cons, ↓A_cons, ↓reduceIte, Nat.reduceEqDiff, reduceCtorEq, CLe_refl, CLe_top, CLe_full, CLe_nil, CLe_own, and_true, true_and]; all_goals (repeat' first | exact CLe.refl _ | exact True.intro | (refine CLe_sln ?_; first | with_reducible rfl | (simp only [List.take_zero]; done) | (rfl; done)) | exact CLe_nI (by omega) | exact CLe_int (by omega) | exact CLe_inI (by omega) | exact CLe_nIi (by omega) | with_reducible apply And.intro)); all_goals first | exact CLe_slf (by simp) | exact CLe_int (by omega)
    · omega
    case bd_90 =>
     rintro a ha
     refine Tr.seqK fun K15 hK15 => ?_
     refine Tr.seqK fun K16 hK16 => ?_
     refine Tr.rg hcx [] _ [] rfl rfl rfl ?_
     simp -implicitDefEqProofs (maxSteps := 2000000) (disch := first | omega | (simp only [go_sem, List.length_append, List.length_drop, List.length_take] <;> omega) | decide) only [go_sem, ↓reduceIte, Nat.reduceEqDiff, reduceCtorEq, Nat.reduceLT, Nat.reduceBEq, Nat.reduceAdd, Nat.reduceSub, Nat.reduceMul, Nat.reduceMod, em]
     refine hK16 _ ?_
     clear hK16 K16
     refine Tr.kp [3, 4, 6, 7, 33] ?_
     simp only [pk_cons, pk_nil, ↓A_cons, ↓reduceIte, Nat.reduceEqDiff]
     refine Tr.condG fun KT KF hT hF => ?_
     simp only [ev_tmp, ev_const, ↓A_cons, ↓reduceIte, Nat.reduceEqDiff, reduceCtorEq, condG_bool, GB_true, GB_false, decide_eq_true_eq]
     refine GB.dec (fun hc33 => hT ?_) (fun hc33 => hF ?_)
     ·
      clear hT hF KT KF
      refine Tr.skip ?_
      refine hK15 _ ?_
      clear hK15 K15
      refine Tr.kp [3, 4, 6, 7] ?_
      simp only [pk_cons, pk_nil, ↓A_cons, ↓reduceIte, Nat.reduceEqDiff]
      refine Tr.seqK fun K17 hK17 => ?_
      refine Tr.blk ?_
      refine Tr.rg hcx [36, 1000045] _ [] rfl rfl rfl ?_
      simp -implicitDefEqProofs (maxSteps := 2000000) (disch := first | omega | (simp only [go_sem, List.length_append, List.length_drop, List.length_take] <;> omega) | decide) only [go_sem, ↓reduceIte, Nat.reduceEqDiff, reduceCtorEq, Nat.reduceLT, Nat.reduceBEq, Nat.reduceAdd, Nat.reduceSub, Nat.reduceMul, Nat.reduceMod, em]
      refine hK17 _ ?_
      clear hK17 K17
      refine Tr.kp [3, 4, 6, 7] ?_
      simp only [pk_cons, pk_nil, ↓A_cons, ↓reduceIte, Nat.reduceEqDiff]
      refine Tr.rg hcx [1000035] _ [] rfl rfl rfl ?_
      simp -implicitDefEqProofs (maxSteps := 2000000) (disch := first | omega | (simp only [go_sem, List.length_append, List.length_drop, List.length_take] <;> omega) | decide) only [go_sem, ↓reduceIte, Nat.reduceEqDiff, reduceCtorEq, Nat.reduceLT, Nat.reduceBEq, Nat.reduceAdd, Nat.reduceSub, Nat.reduceMul, Nat.reduceMod, em]
      refine ⟨a + 1, ⟨by omega, by first | omega | (simp only []; omega)⟩, ?_, rfl⟩
      (simp only [Le_nil, Le_cons, ↓A_cons, ↓reduceIte, Nat.reduceEqDiff, reduceCtorEq, CLe_refl, CLe_top, CLe_full, CLe_nil, CLe_own, and_true, true_and]; all_goals (repeat' first | exact CLe.refl _ | exact True.intro | (refine CLe_sln ?_; first | with_reducible rfl | (simp only [List.take_zero]; done) | (rfl; done)) | exact CLe_nI (by omega) | exact CLe_int (by omega) | exact CLe_inI (by omega) | exact CLe_nIi (by omega) | with_reducible apply And.intro))
      all_goals first | exact CLe.refl _ | exact CLe_int (by omega) | (refine CLe_sl ?_; rw [← wI_next m _ a (by omega), show (((8 : Nat) : Int) * (((le m).length : Int) - 1 - (a : Int))).toNat = 8 * ((le m).length - 1 - a) by omega]; try rfl)
     ·
      clear hT hF KT KF
      obtain rfl : a = (le m).length := by omega
      refine Tr.exit ?_
      refine hK13 _ ?_
      clear hK15 K15 hK13 K13
      refine Tr.kp [6] ?_
      simp only [pk_cons, pk_nil, ↓A_cons, ↓reduceIte, Nat.reduceEqDiff]
      refine Tr.seqK fun K18 hK18 => ?_
      refine Tr.rg hcx [1000046] _ [] rfl rfl rfl ?_
      simp -implicitDefEqProofs (maxSteps := 2000000) (disch := first | omega | (simp only [go_sem, List.length_append, List.length_drop, List.length_take] <;> omega) | decide) only [go_sem, ↓reduceIte, Nat.reduceEqDiff, reduceCtorEq, Nat.reduceLT, Nat.reduceBEq, Nat.reduceAdd, Nat.reduceSub, Nat.reduceMul, Nat.reduceMod, em]
      refine hK18 _ ?_
      clear hK18 K18
      refine Tr.kp [2] ?_
      simp only [pk_cons, pk_nil, ↓A_cons, ↓reduceIte, Nat.reduceEqDiff]
      refine Tr.ret ?_
      simp -implicitDefEqProofs (disch := first | omega | (simp only [go_sem, List.length_append, List.length_drop, List.length_take] <;> omega) | decide) only [go_sem, ↓reduceIte, Nat.reduceEqDiff, reduceCtorEq]
      all_goals (rw [List.take_of_length_le (by simp [be_len])]; rfl)
   ·
    clear hT hF KT KF
    refine Tr.skip ?_
    refine hK10 _ ?_
    clear hK10 K10
    refine Tr.kp [3, 4, 5] ?_
    simp only [pk_cons, pk_nil, ↓A_cons, ↓reduceIte, Nat.reduceEqDiff]
    refine Tr.rg hcx [1000023] _ [] rfl rfl rfl ?_
    simp -implicitDefEqProofs (maxSteps := 2000000) (disch := first | omega | (simp only [go_sem, List.length_append, List.length_drop, List.length_take] <;> omega) | decide) only [go_sem, ↓reduceIte, Nat.reduceEqDiff, reduceCtorEq, Nat.reduceLT, Nat.reduceBEq, Nat.reduceAdd, Nat.reduceSub, Nat.reduceMul, Nat.reduceMod, em]
    refine ⟨k - 1, ⟨⟨by omega, le_less m k hc15 hc21⟩, by first | omega | (simp only []; omega)⟩, ?_, rfl⟩
    (simp only [Le_nil, Le_cons, ↓A_cons, ↓reduceIte, Nat.reduceEqDiff, reduceCtorEq, CLe_refl, CLe_top, CLe_full, CLe_nil, CLe_own, and_true, true_and]; all_goals (repeat' first | exact CLe.refl _ | exact True.intro | (refine CLe_sln ?_; first | with_reducible rfl | (simp only [List.take_zero]; done) | (rfl; done)) | exact CLe_nI (by omega) | exact CLe_int (by omega) | exact CLe_inI (by omega) | exact CLe_nIi (by omega) | with_reducible apply And.intro))
    all_goals first | exact CLe.refl _ | exact CLe_int (by omega) | exact CLe_nI (by omega) | exact CLe_nIi (by omega) | exact CLe_inI (by omega)
  ·
   clear hT hF KT KF
   have hkk := le_done m k hmk (.inl hc15)
   subst hkk
   clear hc15 hmk hk
   refine Tr.exit ?_
   refine hK7 _ ?_
   clear hK8 K8 hK7 K7
   refine Tr.kp [3, 4, 5] ?_
   simp only [pk_cons, pk_nil, ↓A_cons, ↓reduceIte, Nat.reduceEqDiff]
   refine Tr.seqK fun K19 hK19 => ?_
   refine Tr.rg hcx [1000029] _ [] rfl rfl rfl ?_
   simp -implicitDefEqProofs (maxSteps := 2000000) (disch := first | omega | (simp only [go_sem, List.length_append, List.length_drop, List.length_take] <;> omega) | decide) only [go_sem, ↓reduceIte, Nat.reduceEqDiff, reduceCtorEq, Nat.reduceLT, Nat.reduceBEq, Nat.reduceAdd, Nat.reduceSub, Nat.reduceMul, Nat.reduceMod, em]
   refine hK19 _ ?_
   clear hK19 K19
   refine Tr.kp [3, 4, 5, 6] ?_
   simp only [pk_cons, pk_nil, ↓A_cons, ↓reduceIte, Nat.reduceEqDiff]
   refine Tr.seqK fun K20 hK20 => ?_
   refine Tr.seqK fun K21 hK21 => ?_
   refine Tr.rg hcx [1000031] _ [] rfl rfl rfl ?_
   simp -implicitDefEqProofs (maxSteps := 2000000) (disch := first | omega | (simp only [go_sem, List.length_append, List.length_drop, List.length_take] <;> omega) | decide) only [go_sem, ↓reduceIte, Nat.reduceEqDiff, reduceCtorEq, Nat.reduceLT, Nat.reduceBEq, Nat.reduceAdd, Nat.reduceSub, Nat.reduceMul, Nat.reduceMod, em, n_subG]
   refine hK21 _ ?_
   clear hK21 K21
   refine Tr.kp [3, 4, 6, 7] ?_
   simp only [pk_cons, pk_nil, ↓A_cons, ↓reduceIte, Nat.reduceEqDiff]
   refine Tr.blk ?_
   refine Tr.loopI (α := Nat) (fun a => [(3, ?v3_90), (4, ?v4_90), (6, sl bC (.own 1) ((UInt8.ofNat (128 + (le m).length) ^^^ UInt8.ofNat 255) :: ((be m (le m).length).map (· ^^^ UInt8.ofNat 255)).take a)), (7, .val (.int .i64 (((le m).length : Int) - 1 - (a : Int))))]) (fun a => ?h_90) (fun a => a ≤ (le m).length) (fun a => (le m).length - a) (0) ?_ ?le_90 ?hh_90 ?bd_90
   case hh_90 => exact rfl
   case le_90 => (simp only [Le_nil, Le_cons, ↓A_cons, ↓reduceIte, Nat.reduceEqDiff, reduceCtorEq, CLe_refl, CLe_top, CLe_full, CLe_nil, CLe_own, and_true, true_and]; all_goals (repeat' first | exact CLe.refl _ | exact True.intro | (refine CLe_sln ?_; first | with_reducible rfl | (simp only [List.take_zero]; done) | (rfl; done)) | exact CLe_nI (by omega) | exact CLe_int (by omega) | exact CLe_inI (by omega) | exact CLe_nIi (by omega) | with_reducible apply And.intro)); all_goals first | exact CLe_slf (by simp) | exact CLe_int (by omega)
   · omega
   case bd_90 =>
    rintro a ha
    refine Tr.seqK fun K22 hK22 => ?_
    refine Tr.seqK fun K23 hK23 => ?_
    refine Tr.rg hcx [] _ [] rfl rfl rfl ?_
    simp -implicitDefEqProofs (maxSteps := 2000000) (disch := first | omega | (simp only [go_sem, List.length_append, List.length_drop, List.length_take] <;> omega) | decide) only [go_sem, ↓reduceIte, Nat.reduceEqDiff, reduceCtorEq, Nat.reduceLT, Nat.reduceBEq, Nat.reduceAdd, Nat.reduceSub, Nat.reduceMul, Nat.reduceMod, em]
    refine hK23 _ ?_
    clear hK23 K23
    refine Tr.kp [3, 4, 6, 7, 33] ?_
    simp only [pk_cons, pk_nil, ↓A_cons, ↓reduceIte, Nat.reduceEqDiff]
    refine Tr.condG fun KT KF hT hF => ?_
    simp only [ev_tmp, ev_const, ↓A_cons, ↓reduceIte, Nat.reduceEqDiff, reduceCtorEq, condG_bool, GB_true, GB_false, decide_eq_true_eq]
    refine GB.dec (fun hc33 => hT ?_) (fun hc33 => hF ?_)
    ·
     clear hT hF KT KF
     refine Tr.skip ?_
     refine hK22 _ ?_
     clear hK22 K22
     refine Tr.kp [3, 4, 6, 7] ?_
     simp only [pk_cons, pk_nil, ↓A_cons, ↓reduceIte, Nat.reduceEqDiff]
     refine Tr.seqK fun K24 hK24 => ?_
     refine Tr.blk ?_
     refine Tr.rg hcx [36, 1000045] _ [] rfl rfl rfl ?_
     simp -implicitDefEqProofs (maxSteps := 2000000) (disch := first | omega | (simp only [go_sem, List.length_append, List.length_drop, List.length_take] <;> omega) | decide) only [go_sem, ↓reduceIte, Nat.reduceEqDiff, reduceCtorEq, Nat.reduceLT, Nat.reduceBEq, Nat.reduceAdd, Nat.reduceSub, Nat.reduceMul, Nat.reduceMod, em]
     refine hK24 _ ?_
     clear hK24 K24
     refine Tr.kp [3, 4, 6, 7] ?_
     simp only [pk_cons, pk_nil, ↓A_cons, ↓reduceIte, Nat.reduceEqDiff]
     refine Tr.rg hcx [1000035] _ [] rfl rfl rfl ?_
     simp -implicitDefEqProofs (maxSteps := 2000000) (disch := first | omega | (simp only [go_sem, List.length_append, List.length_drop, List.length_take] <;> omega) | decide) only [go_sem, ↓reduceIte, Nat.reduceEqDiff, reduceCtorEq, Nat.reduceLT, Nat.reduceBEq, Nat.reduceAdd, Nat.reduceSub, Nat.reduceMul, Nat.reduceMod, em]
     refine ⟨a + 1, ⟨by omega, by first | omega | (simp only []; omega)⟩, ?_, rfl⟩
     (simp only [Le_nil, Le_cons, ↓A_cons, ↓reduceIte, Nat.reduceEqDiff, reduceCtorEq, CLe_refl, CLe_top, CLe_full, CLe_nil, CLe_own, and_true, true_and]; all_goals (repeat' first | exact CLe.refl _ | exact True.intro | (refine CLe_sln ?_; first | with_reducible rfl | (simp only [List.take_zero]; done) | (rfl; done)) | exact CLe_nI (by omega) | exact CLe_int (by omega) | exact CLe_inI (by omega) | exact CLe_nIi (by omega) | with_reducible apply And.intro))
     all_goals first | exact CLe.refl _ | exact CLe_int (by omega) | (refine CLe_sl ?_; rw [← wI_next m _ a (by omega), show (((8 : Nat) : Int) * (((le m).length : Int) - 1 - (a : Int))).toNat = 8 * ((le m).length - 1 - a) by omega]; try rfl)
    ·
     clear hT hF KT KF
     obtain rfl : a = (le m).length := by omega
     refine Tr.exit ?_
     refine hK20 _ ?_
     clear hK22 K22 hK20 K20
     refine Tr.kp [6] ?_
     simp only [pk_cons, pk_nil, ↓A_cons, ↓reduceIte, Nat.reduceEqDiff]
     refine Tr.seqK fun K25 hK25 => ?_
     refine Tr.rg hcx [1000046] _ [] rfl rfl rfl ?_
     simp -implicitDefEqProofs (maxSteps := 2000000) (disch := first | omega | (simp only [go_sem, List.length_append, List.length_drop, List.length_take] <;> omega) | decide) only [go_sem, ↓reduceIte, Nat.reduceEqDiff, reduceCtorEq, Nat.reduceLT, Nat.reduceBEq, Nat.reduceAdd, Nat.reduceSub, Nat.reduceMul, Nat.reduceMod, em]
     refine hK25 _ ?_
     clear hK25 K25
     refine Tr.kp [2] ?_
     simp only [pk_cons, pk_nil, ↓A_cons, ↓reduceIte, Nat.reduceEqDiff]
     refine Tr.ret ?_
     simp -implicitDefEqProofs (disch := first | omega | (simp only [go_sem, List.length_append, List.length_drop, List.length_take] <;> omega) | decide) only [go_sem, ↓reduceIte, Nat.reduceEqDiff, reduceCtorEq]
     all_goals (rw [List.take_of_length_le (by simp [be_len])]; rfl)
set_option maxRecDepth 100000 in
set_option maxHeartbeats 8000000 in
theorem fc54 {gl : Nat → C} {M : Nat} {pu : Nat → List C → Option C}  (hcx : CxOK (cxP gl M pu)) (h26 : ∀ m : Nat, m < 9223372036854775808 → pu 26 [.val (nI m)] = some (sl bC (.own 1) (wI m 0))) (s : List UInt8) (hs : s.length < 70368744177664) : FC Tryd.prog gl 54 [.val (str s)] [] (sl bC (.own 1) (wb s)) [] := by
 replace hcx := hcx.reN (M := 8)
 refine FC.ofA (cx := cxP gl 8 pu) (rs := [.tmp 2]) rfl Tryd.func54 rfl rfl rfl (by simp only [List.length_cons, List.length_nil]; decide) (by simp only [go_sem]) ?_
 simp only [ini, go_sem]
 have hk8 : (wI s.length 0).length ≤ 9 := by have := le_len 8 s.length (by omega); simp [wI, be_len]; omega
 refine Tr.seqK fun K1 hK1 => ?_
 refine Tr.rg hcx [] _ [] rfl rfl rfl ?_
 simp -implicitDefEqProofs (maxSteps := 2000000) (disch := first | omega | (simp only [go_sem, List.length_append, List.length_drop, List.length_take] <;> omega) | decide) only [go_sem, ↓reduceIte, Nat.reduceEqDiff, reduceCtorEq, Nat.reduceLT, Nat.reduceBEq, Nat.reduceAdd, Nat.reduceSub, Nat.reduceMul, Nat.reduceMod, h26]
 refine hK1 _ ?_
 clear hK1 K1
 refine Tr.kp [0] ?_
 simp only [pk_cons, pk_nil, ↓A_cons, ↓reduceIte, Nat.reduceEqDiff]
 refine Tr.seqK fun K2 hK2 => ?_
 refine Tr.rg hcx [5, 1000007] _ [] rfl rfl rfl ?_
 simp -implicitDefEqProofs (maxSteps := 2000000) (disch := first | omega | (simp only [go_sem, List.length_append, List.length_drop, List.length_take] <;> omega) | decide) only [go_sem, ↓reduceIte, Nat.reduceEqDiff, reduceCtorEq, Nat.reduceLT, Nat.reduceBEq, Nat.reduceAdd, Nat.reduceSub, Nat.reduceMul, Nat.reduceMod, h26]
 refine hK2 _ ?_
 clear hK2 K2
 refine Tr.kp [2] ?_
 simp only [pk_cons, pk_nil, ↓A_cons, ↓reduceIte, Nat.reduceEqDiff]
 refine Tr.ret ?_
 simp -implicitDefEqProofs (disch := first | omega | (simp only [go_sem, List.length_append, List.length_drop, List.length_take] <;> omega) | decide) only [go_sem, ↓reduceIte, Nat.reduceEqDiff, reduceCtorEq]
 all_goals (unfold wb; rw [wint_pos])
end Go.Sx
namespace Go.Sx
open Go.RowKit Go.Proofs
theorem word_eq (b : List UInt8) (t : Nat) (h : t < 16) : sched b (t + 1) = sched b t ++ [word4 b t] := by
  simp only [sched, h, if_true]
end Go.Sx
namespace Go.Sx
open Go.RowKit Go.Proofs
end Go.Sx
namespace Go.Sx
open Go.RowKit Go.Proofs
end Go.Sx
namespace Go.Sx
open Go.RowKit Go.Proofs
theorem hmac_len (key t : List UInt8) : (hmac key t).length = 32 := sha_len _
end Go.Sx
namespace Go.Sx
open Go.RowKit Go.Proofs
theorem gt_mem {α : Type} [Inhabited α] (l : List α) (i : Nat) (h : i < l.length) : gt l i ∈ l := by
  simp [gt, List.getD, List.getElem?_eq_getElem h]
def wInts (l : List Int) : List UInt8 := wint l.length ++ l.flatMap wint
theorem wint_len (n : Int) (h : -9223372036854775808 ≤ n ∧ n ≤ 9223372036854775807) : (wint n).length ≤ 9 := by
  unfold wint
  split
  · have := le_len 8 n.toNat (by omega)
    simp; omega
  · have := le_len 8 (-1 - n).toNat (by omega)
    simp; omega
theorem wintn_len (n : Nat) (h : n < 18446744073709551616) : (wint (n : Int)).length ≤ 9 := by
  unfold wint
  rw [if_pos (by omega)]
  have := le_len 8 n (by simpa using h)
  simp; omega
theorem fm_snoc {α β : Type} [Inhabited α] (f : α → List β) (l : List α) (i : Nat) (h : i < l.length) : (l.take i).flatMap f ++ f (gt l i) = (l.take (i + 1)).flatMap f := by
  rw [take_snoc l i h]; simp
theorem ints_le (l : List Int) (hr : ∀ x ∈ l, -9223372036854775808 ≤ x ∧ x ≤ 9223372036854775807) : ∀ i ≤ l.length, ((l.take i).flatMap wint).length ≤ 9 * i
  | 0, _ => by simp
  | i + 1, h => by
    rw [← fm_snoc wint l i (by omega), List.length_append]
    have := ints_le l hr i (by omega)
    have := wint_len (gt l i) (hr _ (gt_mem l i (by omega)))
    omega
/-! Decoding. -/
def flipOf (x : UInt8) : UInt8 := if x < 128 then 255 else 0
def kOf (x : UInt8) : Nat := (x ^^^ flipOf x).toNat - 128
def accF (f : UInt8) (l : List UInt8) : Nat := l.foldl (fun m c => m * 256 + (c ^^^ f).toNat) 0
theorem accF_snoc (f : UInt8) (l : List UInt8) (c : UInt8) : accF f (l ++ [c]) = accF f l * 256 + (c ^^^ f).toNat := by simp [accF]
theorem accF_lt (f : UInt8) (l : List UInt8) : accF f l < 256 ^ l.length := by
  have key : ∀ n (l : List UInt8), l.length = n → accF f l < 256 ^ n := by
    intro n
    induction n with
    | zero => intro l hl; rw [List.length_eq_zero_iff.1 hl]; simp [accF]
    | succ n ih =>
      intro l hl
      have hne : l ≠ [] := by rintro rfl; simp at hl
      rw [← List.dropLast_concat_getLast hne, accF_snoc]
      have h1 := ih l.dropLast (by simp [hl])
      have h2 := (l.getLast hne ^^^ f).toNat_lt
      rw [Nat.pow_succ]; omega
  exact key _ l rfl
theorem flip_ge (x : UInt8) : 128 ≤ (x ^^^ flipOf x).toNat := by
  unfold flipOf
  split
  · rename_i h
    rw [xor255, UInt8.toNat_sub_of_le _ _ (by rw [UInt8.le_iff_toNat_le]; have := x.toNat_lt; show _ ≤ 255; omega)]
    rw [UInt8.lt_iff_toNat_lt] at h
    have h' : x.toNat < 128 := h
    show 128 ≤ 255 - x.toNat
    omega
  · rename_i h
    rw [UInt8.lt_iff_toNat_lt] at h
    have h' : ¬ x.toNat < 128 := h
    simp; omega
def getI (b : List UInt8) : Int × Nat × Nat := match b with
  | [] => (0, 0, 3)
  | x :: r =>
    if 8 < kOf x then (0, 0, 2) else
    if (x :: r).length ≤ kOf x then (0, 0, 3) else
    if 0 < kOf x ∧ gt (x :: r) 1 ^^^ flipOf x = 0 then (0, 0, 2) else
    if 9223372036854775808 ≤ accF (flipOf x) (r.take (kOf x)) then (0, 0, 2) else
    (if x < 128 then -1 - (accF (flipOf x) (r.take (kOf x)) : Int) else (accF (flipOf x) (r.take (kOf x)) : Int), kOf x + 1, 0)
section
variable {x : UInt8} {r : List UInt8} {k : Nat} (hk : kOf x = k)
include hk
theorem getI_1 (h : 8 < k) : getI (x :: r) = (0, 0, 2) := by subst hk; simp only [getI]; rw [if_pos h]
theorem getI_2 (h : ¬ 8 < k) (h2 : (x :: r).length ≤ k) : getI (x :: r) = (0, 0, 3) := by subst hk; simp only [getI]; rw [if_neg h, if_pos h2]
theorem getI_3 (h : ¬ 8 < k) (h2 : ¬ (x :: r).length ≤ k) (h3 : 0 < k) (h4 : gt (x :: r) 1 ^^^ flipOf x = 0) : getI (x :: r) = (0, 0, 2) := by
  subst hk; simp only [getI]; rw [if_neg h, if_neg h2, if_pos ⟨h3, h4⟩]
theorem getI_4 (h : ¬ 8 < k) (h2 : ¬ (x :: r).length ≤ k) (h3 : ¬ (0 < k ∧ gt (x :: r) 1 ^^^ flipOf x = 0)) (h4 : 9223372036854775808 ≤ accF (flipOf x) (r.take k)) : getI (x :: r) = (0, 0, 2) := by
  subst hk; simp only [getI]; rw [if_neg h, if_neg h2, if_neg h3, if_pos h4]
theorem getI_5 (h : ¬ 8 < k) (h2 : ¬ (x :: r).length ≤ k) (h3 : ¬ (0 < k ∧ gt (x :: r) 1 ^^^ flipOf x = 0)) (h4 : ¬ 9223372036854775808 ≤ accF (flipOf x) (r.take k)) (h5 : x < 128) : getI (x :: r) = (-1 - (accF (flipOf x) (r.take k) : Int), k + 1, 0) := by
  subst hk; simp only [getI]; rw [if_neg h, if_neg h2, if_neg h3, if_neg h4, if_pos h5]
theorem getI_6 (h : ¬ 8 < k) (h2 : ¬ (x :: r).length ≤ k) (h3 : ¬ (0 < k ∧ gt (x :: r) 1 ^^^ flipOf x = 0)) (h4 : ¬ 9223372036854775808 ≤ accF (flipOf x) (r.take k)) (h5 : ¬ x < 128) : getI (x :: r) = ((accF (flipOf x) (r.take k) : Int), k + 1, 0) := by
  subst hk; simp only [getI]; rw [if_neg h, if_neg h2, if_neg h3, if_neg h4, if_neg h5]
end
theorem flip_pos (x : UInt8) : (UInt8.ofNat 0 < flipOf x) = (x < 128) := by
  unfold flipOf
  split
  · rename_i h; simp [h]
  · rename_i h
    simp only [h, eq_iff_iff, iff_false]; decide
theorem big63 (m : Nat) (h : m < 18446744073709551616) : (0 < m >>> 63) = (9223372036854775808 ≤ m) := by
  rw [Nat.shiftRight_eq_div_pow]
  apply propext
  constructor
  · intro h2
    have := (Nat.div_pos_iff.1 h2).2
    simpa using this
  · intro h2
    exact Nat.div_pos (by simpa using h2) (by decide)
theorem acc_next (f : UInt8) (l : List UInt8) (a : Nat) (h : a < l.length) (h8 : a < 8) : (accF f (l.take a) * 2 ^ 8 % 18446744073709551616 ||| (gt l a ^^^ f).toNat) = accF f (l.take (a + 1)) := by
  rw [take_snoc l a h, accF_snoc]
  have h1 := accF_lt f (l.take a)
  rw [List.length_take, Nat.min_eq_left (by omega)] at h1
  have h2 : 256 ^ a ≤ 256 ^ 7 := Nat.pow_le_pow_right (by decide) (by omega)
  have h3 := (gt l a ^^^ f).toNat_lt
  have h4 : (256 : Nat) ^ 7 = 72057594037927936 := by decide
  rw [Nat.mod_eq_of_lt (by omega)]
  have := Nat.two_pow_add_eq_or_of_lt (i := 8) (b := (gt l a ^^^ f).toNat) (by simpa using h3) (accF f (l.take a))
  rw [Nat.mul_comm] at this
  rw [← this]
theorem be_snoc (m c k : Nat) (hc : c < 256) : be (m * 256 + c) (k + 1) = be m k ++ [UInt8.ofNat c] := by
  refine ext_gt _ _ (by simp [be_len]) fun i hi => ?_
  rw [be_len] at hi
  rw [be_gt _ _ _ hi]
  rcases Nat.lt_or_ge i k with h | h
  · rw [gt_left _ _ _ (by rw [be_len]; exact h), be_gt _ _ _ h]
    congr 1
    rw [show k + 1 - 1 - i = (k - 1 - i) + 1 by omega, shr_pow, shr_pow, Nat.pow_succ, Nat.mul_comm (256 ^ (k - 1 - i)), ← Nat.div_div_eq_div_mul]
    congr 1; omega
  · have : i = k := by omega
    subst this
    rw [gt_mid _ _ _ _ (be_len _ _)]
    apply UInt8.toNat_inj.1
    simp
theorem be_acc (f : UInt8) (l : List UInt8) : be (accF f l) l.length = l.map (· ^^^ f) := by
  have key : ∀ n (l : List UInt8), l.length = n → be (accF f l) l.length = l.map (· ^^^ f) := by
    intro n
    induction n with
    | zero => intro l hl; rw [List.length_eq_zero_iff.1 hl]; rfl
    | succ n ih =>
      intro l hl
      have hne : l ≠ [] := by rintro rfl; simp at hl
      rw [← List.dropLast_concat_getLast hne, accF_snoc, List.length_append, List.length_singleton, be_snoc _ _ _ (l.getLast hne ^^^ f).toNat_lt, ih l.dropLast (by simp [hl]), List.map_append]
      simp
  exact key _ l rfl
theorem acc_ge (f : UInt8) : ∀ (l : List UInt8) (m : Nat), m * 256 ^ l.length ≤ l.foldl (fun m c => m * 256 + (c ^^^ f).toNat) m
  | [], m => by simp
  | c :: l, m => by
    refine Nat.le_trans ?_ (acc_ge f l (m * 256 + (c ^^^ f).toNat))
    rw [List.length_cons, Nat.pow_succ, Nat.mul_comm (256 ^ l.length), ← Nat.mul_assoc]
    exact Nat.mul_le_mul_right _ (by omega)
theorem xor_cancel (a b c : UInt8) : a ^^^ c = b ^^^ c ↔ a = b := by
  constructor
  · intro h
    have := congrArg (· ^^^ c) h
    simpa [UInt8.xor_assoc] using this
  · rintro rfl; rfl
/-- An encoding is read back just where it begins with no zero. -/
theorem canon {x : UInt8} {r : List UInt8} {k : Nat} (hk : kOf x = k) (h8 : k ≤ 8) (hl : k ≤ r.length) : wI (accF (flipOf x) (r.take k)) (flipOf x) = x :: r.take k ↔ ¬ (0 < k ∧ gt (x :: r) 1 ^^^ flipOf x = 0) := by
  have hkl : (r.take k).length = k := by rw [List.length_take]; omega
  have hx : x = UInt8.ofNat (128 + k) ^^^ flipOf x := by
    have hge := flip_ge x
    have hlt := (x ^^^ flipOf x).toNat_lt
    have e : UInt8.ofNat (128 + k) = x ^^^ flipOf x := by
      apply UInt8.toNat_inj.1
      unfold kOf at hk
      have e2 : (UInt8.ofNat (128 + k)).toNat = (128 + k) % 256 := rfl
      rw [e2]
      omega
    rw [e, UInt8.xor_assoc, UInt8.xor_self, UInt8.xor_zero]
  have hlt := accF_lt (flipOf x) (r.take k)
  rw [hkl] at hlt
  have hle : (le (accF (flipOf x) (r.take k))).length ≤ k := le_len k _ hlt
  unfold wI
  constructor
  · intro h
    rintro ⟨hk0, hz⟩
    have h2 : UInt8.ofNat (128 + (le (accF (flipOf x) (r.take k))).length) = UInt8.ofNat (128 + k) := by
      have h3 : UInt8.ofNat (128 + (le (accF (flipOf x) (r.take k))).length) ^^^ flipOf x = UInt8.ofNat (128 + k) ^^^ flipOf x := by
        exact (List.cons.inj h).1.trans hx
      exact (xor_cancel _ _ _).1 h3
    have h4 := congrArg UInt8.toNat h2
    simp at h4
    have h5 : (le (accF (flipOf x) (r.take k))).length = k := by omega
    -- the first digit is zero
    obtain ⟨c, r', rfl⟩ : ∃ c r', r = c :: r' := by
      cases r with
      | nil => simp at hl; omega
      | cons c r' => exact ⟨c, r', rfl⟩
    have hz' : c ^^^ flipOf x = 0 := hz
    obtain ⟨k', rfl⟩ : ∃ k', k = k' + 1 := ⟨k - 1, by omega⟩
    rw [List.take_succ_cons] at hlt h5
    have h6 : accF (flipOf x) (c :: r'.take k') = accF (flipOf x) (r'.take k') := by
      show List.foldl _ _ _ = _
      rw [List.foldl_cons, hz']; rfl
    have h7 := accF_lt (flipOf x) (r'.take k')
    have h8 : (r'.take k').length ≤ k' := by rw [List.length_take]; omega
    have h9 : (le (accF (flipOf x) (r'.take k'))).length ≤ k' := le_len k' _ (Nat.lt_of_lt_of_le h7 (Nat.pow_le_pow_right (by decide) h8))
    rw [h6] at h5
    omega
  · intro hn
    have h5 : (le (accF (flipOf x) (r.take k))).length = k := by
      refine le_len_eq k _ hlt ?_
      rcases Nat.eq_zero_or_pos k with h0 | h0
      · exact .inl h0
      · right
        obtain ⟨c, r', rfl⟩ : ∃ c r', r = c :: r' := by
          cases r with
          | nil => simp at hl; omega
          | cons c r' => exact ⟨c, r', rfl⟩
        obtain ⟨k', rfl⟩ : ∃ k', k = k' + 1 := ⟨k - 1, by omega⟩
        have hc : c ^^^ flipOf x ≠ 0 := fun h => hn ⟨h0, h⟩
        have hc' : 1 ≤ (c ^^^ flipOf x).toNat := by
          rcases Nat.eq_zero_or_pos (c ^^^ flipOf x).toNat with h | h
          · exact absurd (UInt8.toNat_inj.1 (by simpa using h)) hc
          · exact h
        rw [List.take_succ_cons]
        have h1 := acc_ge (flipOf x) (r'.take k') (0 * 256 + (c ^^^ flipOf x).toNat)
        have h2 : (r'.take k').length = k' := by rw [List.length_take]; simp at hl; omega
        rw [h2] at h1
        simp only [Nat.add_sub_cancel]
        refine Nat.le_trans ?_ h1
        rw [Nat.zero_mul, Nat.zero_add]
        exact Nat.le_mul_of_pos_left _ hc'
    rw [h5]
    rw [← hx]
    refine congrArg (List.cons x) ?_
    have h6 := be_acc (flipOf x) (r.take k)
    rw [hkl] at h6
    rw [h6, List.map_map]
    have : ((fun y => y ^^^ flipOf x) ∘ fun y => y ^^^ flipOf x) = id := by
      funext y
      show (y ^^^ flipOf x) ^^^ flipOf x = y
      rw [UInt8.xor_assoc, UInt8.xor_self, UInt8.xor_zero]
    rw [this, List.map_id]
end Go.Sx
namespace Go.Sx
theorem x128 (x : UInt8) : (x < 128) = (x.toNat < 128) := by rw [UInt8.lt_iff_toNat_lt]; rfl
section
variable {b : List UInt8} {x : UInt8} {r : List UInt8} {k : Nat} (hbe : b = x :: r) (hk : kOf x = k)
include hbe hk
end
end Go.Sx
namespace Go.Sx
theorem getI_spec (b : List UInt8) : getI b = (0, 0, 2) ∨ getI b = (0, 0, 3) ∨ ((getI b).2.2 = 0 ∧ 1 ≤ (getI b).2.1 ∧ (getI b).2.1 ≤ 9 ∧ (getI b).2.1 ≤ b.length ∧ -9223372036854775808 ≤ (getI b).1 ∧ (getI b).1 ≤ 9223372036854775807) := by
  rcases b with _ | ⟨x, r⟩
  · exact .inr (.inl rfl)
  · obtain ⟨k, hk⟩ : ∃ k, kOf x = k := ⟨_, rfl⟩
    by_cases h1 : 8 < k
    · exact .inl (getI_1 hk h1)
    by_cases h2 : (x :: r).length ≤ k
    · exact .inr (.inl (getI_2 hk h1 h2))
    by_cases h3 : 0 < k ∧ gt (x :: r) 1 ^^^ flipOf x = 0
    · exact .inl (getI_3 hk h1 h2 h3.1 h3.2)
    by_cases h4 : 9223372036854775808 ≤ accF (flipOf x) (r.take k)
    · exact .inl (getI_4 hk h1 h2 h3 h4)
    · right; right
      by_cases h5 : x < 128
      · rw [getI_5 hk h1 h2 h3 h4 h5]; exact ⟨rfl, Nat.le_add_left 1 k, by show k + 1 ≤ 9; omega, by show k + 1 ≤ (x :: r).length; omega, by show _ ≤ (-1 - (accF (flipOf x) (r.take k) : Int)); omega, by show (-1 - (accF (flipOf x) (r.take k) : Int)) ≤ _; omega⟩
      · rw [getI_6 hk h1 h2 h3 h4 h5]; exact ⟨rfl, Nat.le_add_left 1 k, by show k + 1 ≤ 9; omega, by show k + 1 ≤ (x :: r).length; omega, by show _ ≤ ((accF (flipOf x) (r.take k) : Int)); omega, by show ((accF (flipOf x) (r.take k) : Int)) ≤ _; omega⟩
theorem getI_bd (b : List UInt8) : (getI b).2.1 ≤ b.length ∧ (getI b).2.1 ≤ 9 ∧ (getI b).2.2 ≤ 3 ∧ -9223372036854775808 ≤ (getI b).1 ∧ (getI b).1 ≤ 9223372036854775807 := by
  rcases getI_spec b with e | e | e
  · rw [e]; exact ⟨Nat.zero_le _, by decide, by decide, by decide, by decide⟩
  · rw [e]; exact ⟨Nat.zero_le _, by decide, by decide, by decide, by decide⟩
  · exact ⟨e.2.2.2.1, e.2.2.1, by omega, e.2.2.2.2⟩
def ca (b : List UInt8) : Nat := (getI b).2.1
end Go.Sx
namespace Go.Sx
end Go.Sx
namespace Go.Sx
end Go.Sx
namespace Go.Sx
open Go.RowKit Go.Proofs
set_option maxRecDepth 100000 in
set_option maxHeartbeats 8000000 in
theorem fc60 {gl : Nat → C} {M : Nat} {pu : Nat → List C → Option C}  (hcx : CxOK (cxP gl M pu)) (h26 : ∀ n : Int, -9223372036854775808 ≤ n ∧ n ≤ 9223372036854775807 → pu 26 [.val (.int .i64 n)] = some (sl bC (.own 1) (wint n))) (l : List Int) (hl : l.length < 1099511627776) (hr : ∀ x ∈ l, -9223372036854775808 ≤ x ∧ x ≤ 9223372036854775807) : FC Tryd.prog gl 60 [sl iC .no l] [] (sl bC (.own 1) (wInts l)) [] := by
 replace hcx := hcx.reN (M := 21)
 refine FC.ofA (cx := cxP gl 21 pu) (rs := [.tmp 2]) rfl Tryd.func60 rfl rfl rfl (by simp only [List.length_cons, List.length_nil]; decide) (by simp only [go_sem]) ?_
 simp only [ini, go_sem]
 have h26n : ∀ m : Nat, m < 9223372036854775808 → pu 26 [.val (nI m)] = some (sl bC (.own 1) (wint m)) := fun m h => h26 m (by omega)
 have hk8 := wintn_len l.length (by omega)
 have hb1 := True.intro
 refine Tr.seqK fun K1 hK1 => ?_
 refine Tr.rg hcx [] _ [] rfl rfl rfl ?_
 simp -implicitDefEqProofs (maxSteps := 2000000) (disch := first | omega | (simp only [go_sem, List.length_append, List.length_drop, List.length_take, hb1] <;> omega) | decide) only [go_sem, ↓reduceIte, Nat.reduceEqDiff, reduceCtorEq, Nat.reduceLT, Nat.reduceBEq, Nat.reduceAdd, Nat.reduceSub, Nat.reduceMul, Nat.reduceMod, h26, h26n]
 refine hK1 _ ?_
 clear hK1 K1
 refine Tr.kp [0] ?_
 simp only [pk_cons, pk_nil, ↓A_cons, ↓reduceIte, Nat.reduceEqDiff]
 refine Tr.seqK fun K2 hK2 => ?_
 refine Tr.rg hcx [1000008] _ [] rfl rfl rfl ?_
 simp -implicitDefEqProofs (maxSteps := 2000000) (disch := first | omega | (simp only [go_sem, List.length_append, List.length_drop, List.length_take, hb1] <;> omega) | decide) only [go_sem, ↓reduceIte, Nat.reduceEqDiff, reduceCtorEq, Nat.reduceLT, Nat.reduceBEq, Nat.reduceAdd, Nat.reduceSub, Nat.reduceMul, Nat.reduceMod, h26, h26n]
 refine hK2 _ ?_
 clear hK2 K2
 refine Tr.kp [0, 3] ?_
 simp only [pk_cons, pk_nil, ↓A_cons, ↓reduceIte, Nat.reduceEqDiff]
 refine Tr.seqK fun K3 hK3 => ?_
 refine Tr.seqK fun K4 hK4 => ?_
 refine Tr.rg hcx [] _ [] rfl rfl rfl ?_
 simp -implicitDefEqProofs (maxSteps := 2000000) (disch := first | omega | (simp only [go_sem, List.length_append, List.length_drop, List.length_take, hb1] <;> omega) | decide) only [go_sem, ↓reduceIte, Nat.reduceEqDiff, reduceCtorEq, Nat.reduceLT, Nat.reduceBEq, Nat.reduceAdd, Nat.reduceSub, Nat.reduceMul, Nat.reduceMod, h26, h26n]
 refine hK4 _ ?_
 clear hK4 K4
 refine Tr.kp [3, 9, 10, 11] ?_
 simp only [pk_cons, pk_nil, ↓A_cons, ↓reduceIte, Nat.reduceEqDiff]
 refine Tr.blk ?_
 refine Tr.loopI (α := Nat) (fun a => [(3, sl bC (.own 1) (wint l.length ++ (l.take a).flatMap wint)), (9, ?v9_8), (10, ?v10_8), (11, .val (nI a))]) (fun a => ?h_8) (fun a => a ≤ l.length) (fun a => l.length - a) (0) ?_ ?le_8 ?hh_8 ?bd_8
 case hh_8 => exact rfl
 case le_8 => (simp only [Le_nil, Le_cons, ↓A_cons, ↓reduceIte, Nat.reduceEqDiff, reduceCtorEq, CLe_refl, CLe_top, CLe_full, CLe_nil, CLe_own, and_true, true_and]; all_goals (repeat' first | exact CLe.refl _ | exact True.intro | (refine CLe_sln ?_; first | with_reducible rfl | (simp only [List.take_zero]; done) | (rfl; done)) | exact CLe_nI (by omega) | exact CLe_int (by omega) | exact CLe_inI (by omega) | exact CLe_nIi (by omega) | with_reducible apply And.intro)); all_goals (exact CLe_sl (by simp))
 · omega
 case bd_8 =>
  rintro i hi
  have hb0 := ints_le l hr i hi
  refine Tr.seqK fun K5 hK5 => ?_
  refine Tr.rg hcx [] _ [] rfl rfl rfl ?_
  simp -implicitDefEqProofs (maxSteps := 2000000) (disch := first | omega | (simp only [go_sem, List.length_append, List.length_drop, List.length_take, hb1] <;> omega) | decide) only [go_sem, ↓reduceIte, Nat.reduceEqDiff, reduceCtorEq, Nat.reduceLT, Nat.reduceBEq, Nat.reduceAdd, Nat.reduceSub, Nat.reduceMul, Nat.reduceMod, h26, h26n]
  refine hK5 _ ?_
  clear hK5 K5
  refine Tr.kp [3, 9, 10, 11, 12] ?_
  simp only [pk_cons, pk_nil, ↓A_cons, ↓reduceIte, Nat.reduceEqDiff]
  refine Tr.seqK fun K6 hK6 => ?_
  refine Tr.condG fun KT KF hT hF => ?_
  simp only [ev_tmp, ev_const, ↓A_cons, ↓reduceIte, Nat.reduceEqDiff, reduceCtorEq, condG_bool, GB_true, GB_false, decide_eq_true_eq]
  refine GB.dec (fun hc12 => hT ?_) (fun hc12 => hF ?_)
  ·
   clear hT hF KT KF
   have hb1 := hr _ (gt_mem l i hc12)
   have hb2 := wint_len _ hb1
   refine Tr.skip ?_
   refine hK6 _ ?_
   clear hK6 K6
   refine Tr.kp [3, 9, 10, 11] ?_
   simp only [pk_cons, pk_nil, ↓A_cons, ↓reduceIte, Nat.reduceEqDiff]
   refine Tr.seqK fun K7 hK7 => ?_
   refine Tr.blk ?_
   refine Tr.seqK fun K8 hK8 => ?_
   refine Tr.rg hcx [1000014] _ [] rfl rfl rfl ?_
   simp -implicitDefEqProofs (maxSteps := 2000000) (disch := first | omega | (simp only [go_sem, List.length_append, List.length_drop, List.length_take, hb1] <;> omega) | decide) only [go_sem, ↓reduceIte, Nat.reduceEqDiff, reduceCtorEq, Nat.reduceLT, Nat.reduceBEq, Nat.reduceAdd, Nat.reduceSub, Nat.reduceMul, Nat.reduceMod, h26, h26n]
   refine hK8 _ ?_
   clear hK8 K8
   refine Tr.kp [3, 5, 9, 10, 11] ?_
   simp only [pk_cons, pk_nil, ↓A_cons, ↓reduceIte, Nat.reduceEqDiff]
   refine Tr.rg hcx [15, 1000018] _ [] rfl rfl rfl ?_
   simp -implicitDefEqProofs (maxSteps := 2000000) (disch := first | omega | (simp only [go_sem, List.length_append, List.length_drop, List.length_take, hb1] <;> omega) | decide) only [go_sem, ↓reduceIte, Nat.reduceEqDiff, reduceCtorEq, Nat.reduceLT, Nat.reduceBEq, Nat.reduceAdd, Nat.reduceSub, Nat.reduceMul, Nat.reduceMod, h26, h26n]
   refine hK7 _ ?_
   clear hK7 K7
   refine Tr.kp [3, 9, 10, 11] ?_
   simp only [pk_cons, pk_nil, ↓A_cons, ↓reduceIte, Nat.reduceEqDiff]
   refine Tr.rg hcx [] _ [] rfl rfl rfl ?_
   simp -implicitDefEqProofs (maxSteps := 2000000) (disch := first | omega | (simp only [go_sem, List.length_append, List.length_drop, List.length_take, hb1] <;> omega) | decide) only [go_sem, ↓reduceIte, Nat.reduceEqDiff, reduceCtorEq, Nat.reduceLT, Nat.reduceBEq, Nat.reduceAdd, Nat.reduceSub, Nat.reduceMul, Nat.reduceMod, h26, h26n]
   refine ⟨i + 1, ⟨by omega, by first | omega | (simp only []; omega)⟩, ?_, rfl⟩
   (simp only [Le_nil, Le_cons, ↓A_cons, ↓reduceIte, Nat.reduceEqDiff, reduceCtorEq, CLe_refl, CLe_top, CLe_full, CLe_nil, CLe_own, and_true, true_and]; all_goals (repeat' first | exact CLe.refl _ | exact True.intro | (refine CLe_sln ?_; first | with_reducible rfl | (simp only [List.take_zero]; done) | (rfl; done)) | exact CLe_nI (by omega) | exact CLe_int (by omega) | exact CLe_inI (by omega) | exact CLe_nIi (by omega) | with_reducible apply And.intro))
   all_goals (refine CLe_sl ?_; rw [← fm_snoc wint l i hc12]; simp)
  ·
   clear hT hF KT KF
   obtain rfl : i = l.length := by omega
   refine Tr.exit ?_
   refine hK3 _ ?_
   clear hK6 K6 hK3 K3
   refine Tr.kp [3] ?_
   simp only [pk_cons, pk_nil, ↓A_cons, ↓reduceIte, Nat.reduceEqDiff]
   refine Tr.seqK fun K9 hK9 => ?_
   refine Tr.rg hcx [1000020] _ [] rfl rfl rfl ?_
   simp -implicitDefEqProofs (maxSteps := 2000000) (disch := first | omega | (simp only [go_sem, List.length_append, List.length_drop, List.length_take, hb1] <;> omega) | decide) only [go_sem, ↓reduceIte, Nat.reduceEqDiff, reduceCtorEq, Nat.reduceLT, Nat.reduceBEq, Nat.reduceAdd, Nat.reduceSub, Nat.reduceMul, Nat.reduceMod, h26, h26n]
   refine hK9 _ ?_
   clear hK9 K9
   refine Tr.kp [2] ?_
   simp only [pk_cons, pk_nil, ↓A_cons, ↓reduceIte, Nat.reduceEqDiff]
   refine Tr.ret ?_
   simp -implicitDefEqProofs (disch := first | omega | (simp only [go_sem, List.length_append, List.length_drop, List.length_take, hb1] <;> omega) | decide) only [go_sem, ↓reduceIte, Nat.reduceEqDiff, reduceCtorEq]
   all_goals (rw [List.take_length]; rfl)
end Go.Sx
