/-
  Package hash: contracts of functions. Package hash: contracts of functions.
-/
import Derived.Test.YtjhalfjineefmaaDoorHa
set_option linter.unusedSimpArgs false
set_option linter.unusedVariables false
namespace Go.Sx
open Go.RowKit Go.Proofs


set_option maxRecDepth 100000 in
set_option maxHeartbeats 8000000 in
theorem fc38p {gl : Nat → C} {M : Nat} {pu : Nat → List C → Option C} (hcx : CxOK (cxP gl M pu)) (m : Nat) (hm : m < 9223372036854775808) : FC Tryd.prog gl 38 [.val (nI m)] [] (sl bC (.own 1) (wI m 0)) [] := by
  replace hcx := hcx.reN (M := 47)
  refine FC.ofA (cx := cxP gl 47 pu) (rs := [.tmp 2]) rfl Tryd.func38 rfl rfl rfl (by simp only [List.length_cons, List.length_nil]; decide) (by simp only [noRef_val, noRef_agg, noRef_tup, noRef_kp, noRef_sl, noRefs_cl, noRefs_cons, noRefs_nil, noRefs_app, Bool.and_self, Bool.and_true]) ?_
  simp only [ini, noR_val, noR_val, noR_full, noR_no, noR_owns, noR_sv, noR_bp, noR_kp, noR_agg, noR_tup, noR_fn, noR_top, noR_slno, noR_slfull, noR_slown]
  have hk8 : (le m).length ≤ 8 := le_len 8 m (by omega)
  refine Tr.seqK fun K1 hK1 => ?_
  -- region 0 (wire.go:12)
  refine Tr.rg hcx [] _ [] rfl rfl rfl ?_
  simp -implicitDefEqProofs (maxSteps := 2000000) (disch := first | omega | (simp only [List.length_append, List.length_replicate, List.length_set, List.length_drop, List.length_take, List.length_cons, List.length_nil, one_w32, one_w8, one_nI, one_nU, one_str, one_bool, one_int, one_slice, refy_sv, refy_bp, refy_agg, refy_val, refy_kp, refy_tsl, cl_len] <;> omega) | decide) only [go_sem, ↓reduceIte, Nat.reduceEqDiff, reduceCtorEq, Nat.reduceLT, Nat.reduceBEq, Nat.reduceAdd, Nat.reduceSub, Nat.reduceMul, Nat.reduceMod, Int.reduceMod, Int.reduceToNat, Int.reduceNeg]
  refine hK1 _ ?_
  clear hK1 K1
  refine Tr.kp [0] ?_
  simp only [pk_cons, pk_nil, ↓A_cons, ↓reduceIte, Nat.reduceEqDiff, reduceCtorEq]
  refine Tr.scope ?_
  refine Tr.seqK fun K2 hK2 => ?_
  -- region 1 (wire.go:13)
  refine Tr.rg hcx [1000009] _ [] rfl rfl rfl ?_
  simp -implicitDefEqProofs (maxSteps := 2000000) (disch := first | omega | (simp only [List.length_append, List.length_replicate, List.length_set, List.length_drop, List.length_take, List.length_cons, List.length_nil, one_w32, one_w8, one_nI, one_nU, one_str, one_bool, one_int, one_slice, refy_sv, refy_bp, refy_agg, refy_val, refy_kp, refy_tsl, cl_len] <;> omega) | decide) only [go_sem, ↓reduceIte, Nat.reduceEqDiff, reduceCtorEq, Nat.reduceLT, Nat.reduceBEq, Nat.reduceAdd, Nat.reduceSub, Nat.reduceMul, Nat.reduceMod, Int.reduceMod, Int.reduceToNat, Int.reduceNeg]
  refine hK2 _ ?_
  clear hK2 K2
  refine Tr.kp [0, 3, 4] ?_
  simp only [pk_cons, pk_nil, ↓A_cons, ↓reduceIte, Nat.reduceEqDiff, reduceCtorEq]
  refine Tr.seqK fun K3 hK3 => ?_
  refine Tr.seqK fun K4 hK4 => ?_
  -- region 2 (wire.go:14)
  refine Tr.rg hcx [] _ [] rfl rfl rfl ?_
  simp -implicitDefEqProofs (maxSteps := 2000000) (disch := first | omega | (simp only [List.length_append, List.length_replicate, List.length_set, List.length_drop, List.length_take, List.length_cons, List.length_nil, one_w32, one_w8, one_nI, one_nU, one_str, one_bool, one_int, one_slice, refy_sv, refy_bp, refy_agg, refy_val, refy_kp, refy_tsl, cl_len] <;> omega) | decide) only [go_sem, ↓reduceIte, Nat.reduceEqDiff, reduceCtorEq, Nat.reduceLT, Nat.reduceBEq, Nat.reduceAdd, Nat.reduceSub, Nat.reduceMul, Nat.reduceMod, Int.reduceMod, Int.reduceToNat, Int.reduceNeg]
  refine hK4 _ ?_
  clear hK4 K4
  refine Tr.kp [3, 4, 11] ?_
  simp only [pk_cons, pk_nil, ↓A_cons, ↓reduceIte, Nat.reduceEqDiff, reduceCtorEq]
  refine Tr.condG fun KT KF hT hF => ?_
  simp only [ev_tmp, ev_const, ↓A_cons, ↓reduceIte, Nat.reduceEqDiff, reduceCtorEq, condG_bool, GB_true, GB_false, decide_eq_true_eq]
  refine GB.neg ((decide_eq_false (by omega))) (hF ?_)
  clear hT hF KT KF
  refine Tr.skip ?_
  refine hK3 _ ?_
  clear hK3 K3
  refine Tr.kp [3, 4] ?_
  simp only [pk_cons, pk_nil, ↓A_cons, ↓reduceIte, Nat.reduceEqDiff, reduceCtorEq]
  refine Tr.seqK fun K5 hK5 => ?_
  -- region 4 (wire.go:17)
  refine Tr.rg hcx [] _ [] rfl rfl rfl ?_
  simp -implicitDefEqProofs (maxSteps := 2000000) (disch := first | omega | (simp only [List.length_append, List.length_replicate, List.length_set, List.length_drop, List.length_take, List.length_cons, List.length_nil, one_w32, one_w8, one_nI, one_nU, one_str, one_bool, one_int, one_slice, refy_sv, refy_bp, refy_agg, refy_val, refy_kp, refy_tsl, cl_len] <;> omega) | decide) only [go_sem, ↓reduceIte, Nat.reduceEqDiff, reduceCtorEq, Nat.reduceLT, Nat.reduceBEq, Nat.reduceAdd, Nat.reduceSub, Nat.reduceMul, Nat.reduceMod, Int.reduceMod, Int.reduceToNat, Int.reduceNeg]
  refine hK5 _ ?_
  clear hK5 K5
  refine Tr.kp [3, 4, 5] ?_
  simp only [pk_cons, pk_nil, ↓A_cons, ↓reduceIte, Nat.reduceEqDiff, reduceCtorEq]
  refine Tr.seqK fun K6 hK6 => ?_
  refine Tr.label ?_
  refine hK6 _ ?_
  clear hK6 K6
  refine Tr.kp [3, 4, 5] ?_
  simp only [pk_cons, pk_nil, ↓A_cons, ↓reduceIte, Nat.reduceEqDiff, reduceCtorEq]
  refine Tr.seqK fun K7 hK7 => ?_
  refine Tr.blk ?_
  refine Tr.loopI (α := Nat) (fun a => [(3, ?v3_17), (4, ?v4_17), (5, .val (nI a))]) (fun a => ?h_17) (fun a => a ≤ 8 ∧ m < 256 ^ a) (fun a => a) (8) ?_ ?le_17 ?hh_17 ?bd_17
  case hh_17 => exact rfl
  case le_17 => (simp only [Le_nil, Le_cons, ↓A_cons, ↓reduceIte, Nat.reduceEqDiff, reduceCtorEq, CLe_refl, CLe_top, CLe_full, CLe_nil, CLe_own, and_true, true_and]; all_goals (repeat' first | exact CLe.refl _ | exact True.intro | (refine CLe_sln ?_; first | with_reducible rfl | (simp only [List.take_zero]; done) | (rfl; done)) | exact CLe_nI (by omega) | exact CLe_int (by omega) | exact CLe_inI (by omega) | exact CLe_nIi (by omega) | with_reducible apply And.intro))
  · exact ⟨by omega, by omega⟩
  case bd_17 =>
    rintro k ⟨hk, hmk⟩
    refine Tr.seqK fun K8 hK8 => ?_
    refine Tr.seqK fun K9 hK9 => ?_
    -- region 5 (wire.go:19)
    refine Tr.rg hcx [] _ [] rfl rfl rfl ?_
    simp -implicitDefEqProofs (maxSteps := 2000000) (disch := first | omega | (simp only [List.length_append, List.length_replicate, List.length_set, List.length_drop, List.length_take, List.length_cons, List.length_nil, one_w32, one_w8, one_nI, one_nU, one_str, one_bool, one_int, one_slice, refy_sv, refy_bp, refy_agg, refy_val, refy_kp, refy_tsl, cl_len] <;> omega) | decide) only [go_sem, ↓reduceIte, Nat.reduceEqDiff, reduceCtorEq, Nat.reduceLT, Nat.reduceBEq, Nat.reduceAdd, Nat.reduceSub, Nat.reduceMul, Nat.reduceMod, Int.reduceMod, Int.reduceToNat, Int.reduceNeg]
    refine hK9 _ ?_
    clear hK9 K9
    refine Tr.kp [3, 4, 5, 15] ?_
    simp only [pk_cons, pk_nil, ↓A_cons, ↓reduceIte, Nat.reduceEqDiff, reduceCtorEq]
    refine Tr.condG fun KT KF hT hF => ?_
    simp only [ev_tmp, ev_const, ↓A_cons, ↓reduceIte, Nat.reduceEqDiff, reduceCtorEq, condG_bool, GB_true, GB_false, decide_eq_true_eq]
    refine GB.dec (fun hc15 => hT ?_) (fun hc15 => hF ?_)
    ·
      clear hT hF KT KF
      refine Tr.skip ?_
      refine hK8 _ ?_
      clear hK8 K8
      refine Tr.kp [3, 4, 5] ?_
      simp only [pk_cons, pk_nil, ↓A_cons, ↓reduceIte, Nat.reduceEqDiff, reduceCtorEq]
      refine Tr.blk ?_
      refine Tr.seqK fun K10 hK10 => ?_
      refine Tr.seqK fun K11 hK11 => ?_
      -- region 6 (wire.go:20)
      refine Tr.rg hcx [] _ [] rfl rfl rfl ?_
      simp -implicitDefEqProofs (maxSteps := 2000000) (disch := first | omega | (simp only [List.length_append, List.length_replicate, List.length_set, List.length_drop, List.length_take, List.length_cons, List.length_nil, one_w32, one_w8, one_nI, one_nU, one_str, one_bool, one_int, one_slice, refy_sv, refy_bp, refy_agg, refy_val, refy_kp, refy_tsl, cl_len] <;> omega) | decide) only [go_sem, ↓reduceIte, Nat.reduceEqDiff, reduceCtorEq, Nat.reduceLT, Nat.reduceBEq, Nat.reduceAdd, Nat.reduceSub, Nat.reduceMul, Nat.reduceMod, Int.reduceMod, Int.reduceToNat, Int.reduceNeg]
      refine hK11 _ ?_
      clear hK11 K11
      refine Tr.kp [3, 4, 5, 21] ?_
      simp only [pk_cons, pk_nil, ↓A_cons, ↓reduceIte, Nat.reduceEqDiff, reduceCtorEq]
      refine Tr.condG fun KT KF hT hF => ?_
      simp only [ev_tmp, ev_const, ↓A_cons, ↓reduceIte, Nat.reduceEqDiff, reduceCtorEq, condG_bool, GB_true, GB_false, decide_eq_true_eq]
      refine GB.dec (fun hc21 => hT ?_) (fun hc21 => hF ?_)
      ·
        clear hT hF KT KF
        have hkk := le_done m k hmk (.inr hc21)
        subst hkk
        clear hc21 hmk hk hc15
        refine Tr.exit ?_
        refine hK7 _ ?_
        clear hK10 K10 hK7 K7
        refine Tr.kp [3, 4, 5] ?_
        simp only [pk_cons, pk_nil, ↓A_cons, ↓reduceIte, Nat.reduceEqDiff, reduceCtorEq]
        refine Tr.seqK fun K12 hK12 => ?_
        -- region 8 (wire.go:25)
        refine Tr.rg hcx [1000029] _ [] rfl rfl rfl ?_
        simp -implicitDefEqProofs (maxSteps := 2000000) (disch := first | omega | (simp only [List.length_append, List.length_replicate, List.length_set, List.length_drop, List.length_take, List.length_cons, List.length_nil, one_w32, one_w8, one_nI, one_nU, one_str, one_bool, one_int, one_slice, refy_sv, refy_bp, refy_agg, refy_val, refy_kp, refy_tsl, cl_len] <;> omega) | decide) only [go_sem, ↓reduceIte, Nat.reduceEqDiff, reduceCtorEq, Nat.reduceLT, Nat.reduceBEq, Nat.reduceAdd, Nat.reduceSub, Nat.reduceMul, Nat.reduceMod, Int.reduceMod, Int.reduceToNat, Int.reduceNeg]
        refine hK12 _ ?_
        clear hK12 K12
        refine Tr.kp [3, 4, 5, 6] ?_
        simp only [pk_cons, pk_nil, ↓A_cons, ↓reduceIte, Nat.reduceEqDiff, reduceCtorEq]
        refine Tr.seqK fun K13 hK13 => ?_
        refine Tr.seqK fun K14 hK14 => ?_
        -- region 9 (wire.go:26)
        refine Tr.rg hcx [1000031] _ [] rfl rfl rfl ?_
        simp -implicitDefEqProofs (maxSteps := 2000000) (disch := first | omega | (simp only [List.length_append, List.length_replicate, List.length_set, List.length_drop, List.length_take, List.length_cons, List.length_nil, one_w32, one_w8, one_nI, one_nU, one_str, one_bool, one_int, one_slice, refy_sv, refy_bp, refy_agg, refy_val, refy_kp, refy_tsl, cl_len] <;> omega) | decide) only [go_sem, ↓reduceIte, Nat.reduceEqDiff, reduceCtorEq, Nat.reduceLT, Nat.reduceBEq, Nat.reduceAdd, Nat.reduceSub, Nat.reduceMul, Nat.reduceMod, Int.reduceMod, Int.reduceToNat, Int.reduceNeg, n_subG]
        refine hK14 _ ?_
        clear hK14 K14
        refine Tr.kp [3, 4, 6, 7] ?_
        simp only [pk_cons, pk_nil, ↓A_cons, ↓reduceIte, Nat.reduceEqDiff, reduceCtorEq]
        refine Tr.blk ?_
        refine Tr.loopI (α := Nat) (fun a => [(3, ?v3_38), (4, ?v4_38), (6, sl bC (.own 1) ((UInt8.ofNat (128 + (le m).length) ^^^ UInt8.ofNat 0) :: ((be m (le m).length).map (· ^^^ UInt8.ofNat 0)).take a)), (7, .val (.int .i64 (((le m).length : Int) - 1 - (a : Int))))]) (fun a => ?h_38) (fun a => a ≤ (le m).length) (fun a => (le m).length - a) (0) ?_ ?le_38 ?hh_38 ?bd_38
        case hh_38 => exact rfl
        case le_38 => (simp only [Le_nil, Le_cons, ↓A_cons, ↓reduceIte, Nat.reduceEqDiff, reduceCtorEq, CLe_refl, CLe_top, CLe_full, CLe_nil, CLe_own, and_true, true_and]; all_goals (repeat' first | exact CLe.refl _ | exact True.intro | (refine CLe_sln ?_; first | with_reducible rfl | (simp only [List.take_zero]; done) | (rfl; done)) | exact CLe_nI (by omega) | exact CLe_int (by omega) | exact CLe_inI (by omega) | exact CLe_nIi (by omega) | with_reducible apply And.intro)); all_goals first | exact CLe_slf (by simp) | exact CLe_int (by omega)
        · omega
        case bd_38 =>
          rintro a ha
          refine Tr.seqK fun K15 hK15 => ?_
          refine Tr.seqK fun K16 hK16 => ?_
          -- region 10 (wire.go:26)
          refine Tr.rg hcx [] _ [] rfl rfl rfl ?_
          simp -implicitDefEqProofs (maxSteps := 2000000) (disch := first | omega | (simp only [List.length_append, List.length_replicate, List.length_set, List.length_drop, List.length_take, List.length_cons, List.length_nil, one_w32, one_w8, one_nI, one_nU, one_str, one_bool, one_int, one_slice, refy_sv, refy_bp, refy_agg, refy_val, refy_kp, refy_tsl, cl_len] <;> omega) | decide) only [go_sem, ↓reduceIte, Nat.reduceEqDiff, reduceCtorEq, Nat.reduceLT, Nat.reduceBEq, Nat.reduceAdd, Nat.reduceSub, Nat.reduceMul, Nat.reduceMod, Int.reduceMod, Int.reduceToNat, Int.reduceNeg]
          refine hK16 _ ?_
          clear hK16 K16
          refine Tr.kp [3, 4, 6, 7, 33] ?_
          simp only [pk_cons, pk_nil, ↓A_cons, ↓reduceIte, Nat.reduceEqDiff, reduceCtorEq]
          refine Tr.condG fun KT KF hT hF => ?_
          simp only [ev_tmp, ev_const, ↓A_cons, ↓reduceIte, Nat.reduceEqDiff, reduceCtorEq, condG_bool, GB_true, GB_false, decide_eq_true_eq]
          refine GB.dec (fun hc33 => hT ?_) (fun hc33 => hF ?_)
          ·
            clear hT hF KT KF
            refine Tr.skip ?_
            refine hK15 _ ?_
            clear hK15 K15
            refine Tr.kp [3, 4, 6, 7] ?_
            simp only [pk_cons, pk_nil, ↓A_cons, ↓reduceIte, Nat.reduceEqDiff, reduceCtorEq]
            refine Tr.seqK fun K17 hK17 => ?_
            refine Tr.blk ?_
            -- region 12 (wire.go:27)
            refine Tr.rg hcx [36, 1000045] _ [] rfl rfl rfl ?_
            simp -implicitDefEqProofs (maxSteps := 2000000) (disch := first | omega | (simp only [List.length_append, List.length_replicate, List.length_set, List.length_drop, List.length_take, List.length_cons, List.length_nil, one_w32, one_w8, one_nI, one_nU, one_str, one_bool, one_int, one_slice, refy_sv, refy_bp, refy_agg, refy_val, refy_kp, refy_tsl, cl_len] <;> omega) | decide) only [go_sem, ↓reduceIte, Nat.reduceEqDiff, reduceCtorEq, Nat.reduceLT, Nat.reduceBEq, Nat.reduceAdd, Nat.reduceSub, Nat.reduceMul, Nat.reduceMod, Int.reduceMod, Int.reduceToNat, Int.reduceNeg]
            refine hK17 _ ?_
            clear hK17 K17
            refine Tr.kp [3, 4, 6, 7] ?_
            simp only [pk_cons, pk_nil, ↓A_cons, ↓reduceIte, Nat.reduceEqDiff, reduceCtorEq]
            -- region 11 (wire.go:26)
            refine Tr.rg hcx [1000035] _ [] rfl rfl rfl ?_
            simp -implicitDefEqProofs (maxSteps := 2000000) (disch := first | omega | (simp only [List.length_append, List.length_replicate, List.length_set, List.length_drop, List.length_take, List.length_cons, List.length_nil, one_w32, one_w8, one_nI, one_nU, one_str, one_bool, one_int, one_slice, refy_sv, refy_bp, refy_agg, refy_val, refy_kp, refy_tsl, cl_len] <;> omega) | decide) only [go_sem, ↓reduceIte, Nat.reduceEqDiff, reduceCtorEq, Nat.reduceLT, Nat.reduceBEq, Nat.reduceAdd, Nat.reduceSub, Nat.reduceMul, Nat.reduceMod, Int.reduceMod, Int.reduceToNat, Int.reduceNeg]
            refine ⟨a + 1, ⟨by omega, by first | omega | (simp only []; omega)⟩, ?_, rfl⟩
            (simp only [Le_nil, Le_cons, ↓A_cons, ↓reduceIte, Nat.reduceEqDiff, reduceCtorEq, CLe_refl, CLe_top, CLe_full, CLe_nil, CLe_own, and_true, true_and]; all_goals (repeat' first | exact CLe.refl _ | exact True.intro | (refine CLe_sln ?_; first | with_reducible rfl | (simp only [List.take_zero]; done) | (rfl; done)) | exact CLe_nI (by omega) | exact CLe_int (by omega) | exact CLe_inI (by omega) | exact CLe_nIi (by omega) | with_reducible apply And.intro))
            all_goals first | exact CLe.refl _ | exact CLe_int (by omega) | (refine CLe_sl ?_; rw [← wI_next m _ a (by omega), show (((8 : Nat) : Int) * (((le m).length : Int) - 1 - (a : Int))).toNat = 8 * ((le m).length - 1 - a) by omega]; try rfl)
          ·
            clear hT hF KT KF
            obtain rfl : a = (le m).length := by omega
            refine Tr.exit ?_
            refine hK13 _ ?_
            clear hK15 K15 hK13 K13
            refine Tr.kp [6] ?_
            simp only [pk_cons, pk_nil, ↓A_cons, ↓reduceIte, Nat.reduceEqDiff, reduceCtorEq]
            refine Tr.seqK fun K18 hK18 => ?_
            -- region 13 (wire.go:29)
            refine Tr.rg hcx [1000046] _ [] rfl rfl rfl ?_
            simp -implicitDefEqProofs (maxSteps := 2000000) (disch := first | omega | (simp only [List.length_append, List.length_replicate, List.length_set, List.length_drop, List.length_take, List.length_cons, List.length_nil, one_w32, one_w8, one_nI, one_nU, one_str, one_bool, one_int, one_slice, refy_sv, refy_bp, refy_agg, refy_val, refy_kp, refy_tsl, cl_len] <;> omega) | decide) only [go_sem, ↓reduceIte, Nat.reduceEqDiff, reduceCtorEq, Nat.reduceLT, Nat.reduceBEq, Nat.reduceAdd, Nat.reduceSub, Nat.reduceMul, Nat.reduceMod, Int.reduceMod, Int.reduceToNat, Int.reduceNeg]
            refine hK18 _ ?_
            clear hK18 K18
            refine Tr.kp [2] ?_
            simp only [pk_cons, pk_nil, ↓A_cons, ↓reduceIte, Nat.reduceEqDiff, reduceCtorEq]
            refine Tr.ret ?_
            simp -implicitDefEqProofs (disch := first | omega | (simp only [List.length_append, List.length_replicate, List.length_set, List.length_drop, List.length_take, List.length_cons, List.length_nil, one_w32, one_w8, one_nI, one_nU, one_str, one_bool, one_int, one_slice, refy_sv, refy_bp, refy_agg, refy_val, refy_kp, refy_tsl, cl_len] <;> omega) | decide) only [go_sem, thenQ_n, thenQ_x, thenQ_r, blockQ_n, blockQ_r, EndsR_r, EndsR_n, resL_one, resC_tmp, resC_cell, rcP_int, rcP_bool, rcP_str, rcP_sl, rcP_arr, rcP_struct, ↓reduceIte, Nat.reduceEqDiff, reduceCtorEq]
            all_goals (rw [List.take_of_length_le (by simp [be_len])]; rfl)
      ·
        clear hT hF KT KF
        refine Tr.skip ?_
        refine hK10 _ ?_
        clear hK10 K10
        refine Tr.kp [3, 4, 5] ?_
        simp only [pk_cons, pk_nil, ↓A_cons, ↓reduceIte, Nat.reduceEqDiff, reduceCtorEq]
        -- region 7 (wire.go:23)
        refine Tr.rg hcx [1000023] _ [] rfl rfl rfl ?_
        simp -implicitDefEqProofs (maxSteps := 2000000) (disch := first | omega | (simp only [List.length_append, List.length_replicate, List.length_set, List.length_drop, List.length_take, List.length_cons, List.length_nil, one_w32, one_w8, one_nI, one_nU, one_str, one_bool, one_int, one_slice, refy_sv, refy_bp, refy_agg, refy_val, refy_kp, refy_tsl, cl_len] <;> omega) | decide) only [go_sem, ↓reduceIte, Nat.reduceEqDiff, reduceCtorEq, Nat.reduceLT, Nat.reduceBEq, Nat.reduceAdd, Nat.reduceSub, Nat.reduceMul, Nat.reduceMod, Int.reduceMod, Int.reduceToNat, Int.reduceNeg]
        refine ⟨k - 1, ⟨⟨by omega, le_less m k hc15 hc21⟩, by first | omega | (simp only []; omega)⟩, ?_, rfl⟩
        (simp only [Le_nil, Le_cons, ↓A_cons, ↓reduceIte, Nat.reduceEqDiff, reduceCtorEq, CLe_refl, CLe_top, CLe_full, CLe_nil, CLe_own, and_true, true_and]; all_goals (repeat' first | exact CLe.refl _ | exact True.intro | (refine CLe_sln ?_; first | with_reducible rfl | (simp only [List.take_zero]; done) | (rfl; done)) | exact CLe_nI (by omega) | exact CLe_int (by omega) | exact CLe_inI (by omega) | exact CLe_nIi (by omega) | with_reducible apply And.intro))
        all_goals first | exact CLe.refl _ | exact CLe_int (by omega) | exact CLe_nI (by omega) | exact CLe_nIi (by omega) | exact CLe_inI (by omega)
    ·
      clear hT hF KT KF
      have hkk := le_done m k hmk (.inl hc15)
      subst hkk
      clear hc15 hmk hk
      refine Tr.exit ?_
      refine hK7 _ ?_
      clear hK8 K8 hK7 K7
      refine Tr.kp [3, 4, 5] ?_
      simp only [pk_cons, pk_nil, ↓A_cons, ↓reduceIte, Nat.reduceEqDiff, reduceCtorEq]
      refine Tr.seqK fun K19 hK19 => ?_
      -- region 8 (wire.go:25)
      refine Tr.rg hcx [1000029] _ [] rfl rfl rfl ?_
      simp -implicitDefEqProofs (maxSteps := 2000000) (disch := first | omega | (simp only [List.length_append, List.length_replicate, List.length_set, List.length_drop, List.length_take, List.length_cons, List.length_nil, one_w32, one_w8, one_nI, one_nU, one_str, one_bool, one_int, one_slice, refy_sv, refy_bp, refy_agg, refy_val, refy_kp, refy_tsl, cl_len] <;> omega) | decide) only [go_sem, ↓reduceIte, Nat.reduceEqDiff, reduceCtorEq, Nat.reduceLT, Nat.reduceBEq, Nat.reduceAdd, Nat.reduceSub, Nat.reduceMul, Nat.reduceMod, Int.reduceMod, Int.reduceToNat, Int.reduceNeg]
      refine hK19 _ ?_
      clear hK19 K19
      refine Tr.kp [3, 4, 5, 6] ?_
      simp only [pk_cons, pk_nil, ↓A_cons, ↓reduceIte, Nat.reduceEqDiff, reduceCtorEq]
      refine Tr.seqK fun K20 hK20 => ?_
      refine Tr.seqK fun K21 hK21 => ?_
      -- region 9 (wire.go:26)
      refine Tr.rg hcx [1000031] _ [] rfl rfl rfl ?_
      simp -implicitDefEqProofs (maxSteps := 2000000) (disch := first | omega | (simp only [List.length_append, List.length_replicate, List.length_set, List.length_drop, List.length_take, List.length_cons, List.length_nil, one_w32, one_w8, one_nI, one_nU, one_str, one_bool, one_int, one_slice, refy_sv, refy_bp, refy_agg, refy_val, refy_kp, refy_tsl, cl_len] <;> omega) | decide) only [go_sem, ↓reduceIte, Nat.reduceEqDiff, reduceCtorEq, Nat.reduceLT, Nat.reduceBEq, Nat.reduceAdd, Nat.reduceSub, Nat.reduceMul, Nat.reduceMod, Int.reduceMod, Int.reduceToNat, Int.reduceNeg, n_subG]
      refine hK21 _ ?_
      clear hK21 K21
      refine Tr.kp [3, 4, 6, 7] ?_
      simp only [pk_cons, pk_nil, ↓A_cons, ↓reduceIte, Nat.reduceEqDiff, reduceCtorEq]
      refine Tr.blk ?_
      refine Tr.loopI (α := Nat) (fun a => [(3, ?v3_38), (4, ?v4_38), (6, sl bC (.own 1) ((UInt8.ofNat (128 + (le m).length) ^^^ UInt8.ofNat 0) :: ((be m (le m).length).map (· ^^^ UInt8.ofNat 0)).take a)), (7, .val (.int .i64 (((le m).length : Int) - 1 - (a : Int))))]) (fun a => ?h_38) (fun a => a ≤ (le m).length) (fun a => (le m).length - a) (0) ?_ ?le_38 ?hh_38 ?bd_38
      case hh_38 => exact rfl
      case le_38 => (simp only [Le_nil, Le_cons, ↓A_cons, ↓reduceIte, Nat.reduceEqDiff, reduceCtorEq, CLe_refl, CLe_top, CLe_full, CLe_nil, CLe_own, and_true, true_and]; all_goals (repeat' first | exact CLe.refl _ | exact True.intro | (refine CLe_sln ?_; first | with_reducible rfl | (simp only [List.take_zero]; done) | (rfl; done)) | exact CLe_nI (by omega) | exact CLe_int (by omega) | exact CLe_inI (by omega) | exact CLe_nIi (by omega) | with_reducible apply And.intro)); all_goals first | exact CLe_slf (by simp) | exact CLe_int (by omega)
      · omega
      case bd_38 =>
        rintro a ha
        refine Tr.seqK fun K22 hK22 => ?_
        refine Tr.seqK fun K23 hK23 => ?_
        -- region 10 (wire.go:26)
        refine Tr.rg hcx [] _ [] rfl rfl rfl ?_
        simp -implicitDefEqProofs (maxSteps := 2000000) (disch := first | omega | (simp only [List.length_append, List.length_replicate, List.length_set, List.length_drop, List.length_take, List.length_cons, List.length_nil, one_w32, one_w8, one_nI, one_nU, one_str, one_bool, one_int, one_slice, refy_sv, refy_bp, refy_agg, refy_val, refy_kp, refy_tsl, cl_len] <;> omega) | decide) only [go_sem, ↓reduceIte, Nat.reduceEqDiff, reduceCtorEq, Nat.reduceLT, Nat.reduceBEq, Nat.reduceAdd, Nat.reduceSub, Nat.reduceMul, Nat.reduceMod, Int.reduceMod, Int.reduceToNat, Int.reduceNeg]
        refine hK23 _ ?_
        clear hK23 K23
        refine Tr.kp [3, 4, 6, 7, 33] ?_
        simp only [pk_cons, pk_nil, ↓A_cons, ↓reduceIte, Nat.reduceEqDiff, reduceCtorEq]
        refine Tr.condG fun KT KF hT hF => ?_
        simp only [ev_tmp, ev_const, ↓A_cons, ↓reduceIte, Nat.reduceEqDiff, reduceCtorEq, condG_bool, GB_true, GB_false, decide_eq_true_eq]
        refine GB.dec (fun hc33 => hT ?_) (fun hc33 => hF ?_)
        ·
          clear hT hF KT KF
          refine Tr.skip ?_
          refine hK22 _ ?_
          clear hK22 K22
          refine Tr.kp [3, 4, 6, 7] ?_
          simp only [pk_cons, pk_nil, ↓A_cons, ↓reduceIte, Nat.reduceEqDiff, reduceCtorEq]
          refine Tr.seqK fun K24 hK24 => ?_
          refine Tr.blk ?_
          -- region 12 (wire.go:27)
          refine Tr.rg hcx [36, 1000045] _ [] rfl rfl rfl ?_
          simp -implicitDefEqProofs (maxSteps := 2000000) (disch := first | omega | (simp only [List.length_append, List.length_replicate, List.length_set, List.length_drop, List.length_take, List.length_cons, List.length_nil, one_w32, one_w8, one_nI, one_nU, one_str, one_bool, one_int, one_slice, refy_sv, refy_bp, refy_agg, refy_val, refy_kp, refy_tsl, cl_len] <;> omega) | decide) only [go_sem, ↓reduceIte, Nat.reduceEqDiff, reduceCtorEq, Nat.reduceLT, Nat.reduceBEq, Nat.reduceAdd, Nat.reduceSub, Nat.reduceMul, Nat.reduceMod, Int.reduceMod, Int.reduceToNat, Int.reduceNeg]
          refine hK24 _ ?_
          clear hK24 K24
          refine Tr.kp [3, 4, 6, 7] ?_
          simp only [pk_cons, pk_nil, ↓A_cons, ↓reduceIte, Nat.reduceEqDiff, reduceCtorEq]
          -- region 11 (wire.go:26)
          refine Tr.rg hcx [1000035] _ [] rfl rfl rfl ?_
          simp -implicitDefEqProofs (maxSteps := 2000000) (disch := first | omega | (simp only [List.length_append, List.length_replicate, List.length_set, List.length_drop, List.length_take, List.length_cons, List.length_nil, one_w32, one_w8, one_nI, one_nU, one_str, one_bool, one_int, one_slice, refy_sv, refy_bp, refy_agg, refy_val, refy_kp, refy_tsl, cl_len] <;> omega) | decide) only [go_sem, ↓reduceIte, Nat.reduceEqDiff, reduceCtorEq, Nat.reduceLT, Nat.reduceBEq, Nat.reduceAdd, Nat.reduceSub, Nat.reduceMul, Nat.reduceMod, Int.reduceMod, Int.reduceToNat, Int.reduceNeg]
          refine ⟨a + 1, ⟨by omega, by first | omega | (simp only []; omega)⟩, ?_, rfl⟩
          (simp only [Le_nil, Le_cons, ↓A_cons, ↓reduceIte, Nat.reduceEqDiff, reduceCtorEq, CLe_refl, CLe_top, CLe_full, CLe_nil, CLe_own, and_true, true_and]; all_goals (repeat' first | exact CLe.refl _ | exact True.intro | (refine CLe_sln ?_; first | with_reducible rfl | (simp only [List.take_zero]; done) | (rfl; done)) | exact CLe_nI (by omega) | exact CLe_int (by omega) | exact CLe_inI (by omega) | exact CLe_nIi (by omega) | with_reducible apply And.intro))
          all_goals first | exact CLe.refl _ | exact CLe_int (by omega) | (refine CLe_sl ?_; rw [← wI_next m _ a (by omega), show (((8 : Nat) : Int) * (((le m).length : Int) - 1 - (a : Int))).toNat = 8 * ((le m).length - 1 - a) by omega]; try rfl)
        ·
          clear hT hF KT KF
          obtain rfl : a = (le m).length := by omega
          refine Tr.exit ?_
          refine hK20 _ ?_
          clear hK22 K22 hK20 K20
          refine Tr.kp [6] ?_
          simp only [pk_cons, pk_nil, ↓A_cons, ↓reduceIte, Nat.reduceEqDiff, reduceCtorEq]
          refine Tr.seqK fun K25 hK25 => ?_
          -- region 13 (wire.go:29)
          refine Tr.rg hcx [1000046] _ [] rfl rfl rfl ?_
          simp -implicitDefEqProofs (maxSteps := 2000000) (disch := first | omega | (simp only [List.length_append, List.length_replicate, List.length_set, List.length_drop, List.length_take, List.length_cons, List.length_nil, one_w32, one_w8, one_nI, one_nU, one_str, one_bool, one_int, one_slice, refy_sv, refy_bp, refy_agg, refy_val, refy_kp, refy_tsl, cl_len] <;> omega) | decide) only [go_sem, ↓reduceIte, Nat.reduceEqDiff, reduceCtorEq, Nat.reduceLT, Nat.reduceBEq, Nat.reduceAdd, Nat.reduceSub, Nat.reduceMul, Nat.reduceMod, Int.reduceMod, Int.reduceToNat, Int.reduceNeg]
          refine hK25 _ ?_
          clear hK25 K25
          refine Tr.kp [2] ?_
          simp only [pk_cons, pk_nil, ↓A_cons, ↓reduceIte, Nat.reduceEqDiff, reduceCtorEq]
          refine Tr.ret ?_
          simp -implicitDefEqProofs (disch := first | omega | (simp only [List.length_append, List.length_replicate, List.length_set, List.length_drop, List.length_take, List.length_cons, List.length_nil, one_w32, one_w8, one_nI, one_nU, one_str, one_bool, one_int, one_slice, refy_sv, refy_bp, refy_agg, refy_val, refy_kp, refy_tsl, cl_len] <;> omega) | decide) only [go_sem, thenQ_n, thenQ_x, thenQ_r, blockQ_n, blockQ_r, EndsR_r, EndsR_n, resL_one, resC_tmp, resC_cell, rcP_int, rcP_bool, rcP_str, rcP_sl, rcP_arr, rcP_struct, ↓reduceIte, Nat.reduceEqDiff, reduceCtorEq]
          all_goals (rw [List.take_of_length_le (by simp [be_len])]; rfl)

set_option maxRecDepth 100000 in
set_option maxHeartbeats 8000000 in
theorem fc38n {gl : Nat → C} {M : Nat} {pu : Nat → List C → Option C} (hcx : CxOK (cxP gl M pu)) (m : Nat) (hm : m < 9223372036854775808) : FC Tryd.prog gl 38 [.val (.int .i64 (-1 - (m : Int)))] [] (sl bC (.own 1) (wI m 255)) [] := by
  replace hcx := hcx.reN (M := 47)
  refine FC.ofA (cx := cxP gl 47 pu) (rs := [.tmp 2]) rfl Tryd.func38 rfl rfl rfl (by simp only [List.length_cons, List.length_nil]; decide) (by simp only [noRef_val, noRef_agg, noRef_tup, noRef_kp, noRef_sl, noRefs_cl, noRefs_cons, noRefs_nil, noRefs_app, Bool.and_self, Bool.and_true]) ?_
  simp only [ini, noR_val, noR_val, noR_full, noR_no, noR_owns, noR_sv, noR_bp, noR_kp, noR_agg, noR_tup, noR_fn, noR_top, noR_slno, noR_slfull, noR_slown]
  have hk8 : (le m).length ≤ 8 := le_len 8 m (by omega)
  have em : 18446744073709551615 - ((-1 - (m : Int)) % 18446744073709551616).toNat = m := by omega
  refine Tr.seqK fun K1 hK1 => ?_
  -- region 0 (wire.go:12)
  refine Tr.rg hcx [] _ [] rfl rfl rfl ?_
  simp -implicitDefEqProofs (maxSteps := 2000000) (disch := first | omega | (simp only [List.length_append, List.length_replicate, List.length_set, List.length_drop, List.length_take, List.length_cons, List.length_nil, one_w32, one_w8, one_nI, one_nU, one_str, one_bool, one_int, one_slice, refy_sv, refy_bp, refy_agg, refy_val, refy_kp, refy_tsl, cl_len] <;> omega) | decide) only [go_sem, ↓reduceIte, Nat.reduceEqDiff, reduceCtorEq, Nat.reduceLT, Nat.reduceBEq, Nat.reduceAdd, Nat.reduceSub, Nat.reduceMul, Nat.reduceMod, Int.reduceMod, Int.reduceToNat, Int.reduceNeg, em]
  refine hK1 _ ?_
  clear hK1 K1
  refine Tr.kp [0] ?_
  simp only [pk_cons, pk_nil, ↓A_cons, ↓reduceIte, Nat.reduceEqDiff, reduceCtorEq]
  refine Tr.scope ?_
  refine Tr.seqK fun K2 hK2 => ?_
  -- region 1 (wire.go:13)
  refine Tr.rg hcx [1000009] _ [] rfl rfl rfl ?_
  simp -implicitDefEqProofs (maxSteps := 2000000) (disch := first | omega | (simp only [List.length_append, List.length_replicate, List.length_set, List.length_drop, List.length_take, List.length_cons, List.length_nil, one_w32, one_w8, one_nI, one_nU, one_str, one_bool, one_int, one_slice, refy_sv, refy_bp, refy_agg, refy_val, refy_kp, refy_tsl, cl_len] <;> omega) | decide) only [go_sem, ↓reduceIte, Nat.reduceEqDiff, reduceCtorEq, Nat.reduceLT, Nat.reduceBEq, Nat.reduceAdd, Nat.reduceSub, Nat.reduceMul, Nat.reduceMod, Int.reduceMod, Int.reduceToNat, Int.reduceNeg, em]
  refine hK2 _ ?_
  clear hK2 K2
  refine Tr.kp [0, 3, 4] ?_
  simp only [pk_cons, pk_nil, ↓A_cons, ↓reduceIte, Nat.reduceEqDiff, reduceCtorEq]
  refine Tr.seqK fun K3 hK3 => ?_
  refine Tr.seqK fun K4 hK4 => ?_
  -- region 2 (wire.go:14)
  refine Tr.rg hcx [] _ [] rfl rfl rfl ?_
  simp -implicitDefEqProofs (maxSteps := 2000000) (disch := first | omega | (simp only [List.length_append, List.length_replicate, List.length_set, List.length_drop, List.length_take, List.length_cons, List.length_nil, one_w32, one_w8, one_nI, one_nU, one_str, one_bool, one_int, one_slice, refy_sv, refy_bp, refy_agg, refy_val, refy_kp, refy_tsl, cl_len] <;> omega) | decide) only [go_sem, ↓reduceIte, Nat.reduceEqDiff, reduceCtorEq, Nat.reduceLT, Nat.reduceBEq, Nat.reduceAdd, Nat.reduceSub, Nat.reduceMul, Nat.reduceMod, Int.reduceMod, Int.reduceToNat, Int.reduceNeg, em]
  refine hK4 _ ?_
  clear hK4 K4
  refine Tr.kp [3, 4, 11] ?_
  simp only [pk_cons, pk_nil, ↓A_cons, ↓reduceIte, Nat.reduceEqDiff, reduceCtorEq]
  refine Tr.condG fun KT KF hT hF => ?_
  simp only [ev_tmp, ev_const, ↓A_cons, ↓reduceIte, Nat.reduceEqDiff, reduceCtorEq, condG_bool, GB_true, GB_false, decide_eq_true_eq]
  refine GB.pos ((decide_eq_true (by omega))) (hT ?_)
  clear hT hF KT KF
  -- region 3 (wire.go:15)
  refine Tr.rg hcx [1000013] _ [] rfl rfl rfl ?_
  simp -implicitDefEqProofs (maxSteps := 2000000) (disch := first | omega | (simp only [List.length_append, List.length_replicate, List.length_set, List.length_drop, List.length_take, List.length_cons, List.length_nil, one_w32, one_w8, one_nI, one_nU, one_str, one_bool, one_int, one_slice, refy_sv, refy_bp, refy_agg, refy_val, refy_kp, refy_tsl, cl_len] <;> omega) | decide) only [go_sem, ↓reduceIte, Nat.reduceEqDiff, reduceCtorEq, Nat.reduceLT, Nat.reduceBEq, Nat.reduceAdd, Nat.reduceSub, Nat.reduceMul, Nat.reduceMod, Int.reduceMod, Int.reduceToNat, Int.reduceNeg, em]
  refine hK3 _ ?_
  clear hK3 K3
  refine Tr.kp [3, 4] ?_
  simp only [pk_cons, pk_nil, ↓A_cons, ↓reduceIte, Nat.reduceEqDiff, reduceCtorEq]
  refine Tr.seqK fun K5 hK5 => ?_
  -- region 4 (wire.go:17)
  refine Tr.rg hcx [] _ [] rfl rfl rfl ?_
  simp -implicitDefEqProofs (maxSteps := 2000000) (disch := first | omega | (simp only [List.length_append, List.length_replicate, List.length_set, List.length_drop, List.length_take, List.length_cons, List.length_nil, one_w32, one_w8, one_nI, one_nU, one_str, one_bool, one_int, one_slice, refy_sv, refy_bp, refy_agg, refy_val, refy_kp, refy_tsl, cl_len] <;> omega) | decide) only [go_sem, ↓reduceIte, Nat.reduceEqDiff, reduceCtorEq, Nat.reduceLT, Nat.reduceBEq, Nat.reduceAdd, Nat.reduceSub, Nat.reduceMul, Nat.reduceMod, Int.reduceMod, Int.reduceToNat, Int.reduceNeg, em]
  refine hK5 _ ?_
  clear hK5 K5
  refine Tr.kp [3, 4, 5] ?_
  simp only [pk_cons, pk_nil, ↓A_cons, ↓reduceIte, Nat.reduceEqDiff, reduceCtorEq]
  refine Tr.seqK fun K6 hK6 => ?_
  refine Tr.label ?_
  refine hK6 _ ?_
  clear hK6 K6
  refine Tr.kp [3, 4, 5] ?_
  simp only [pk_cons, pk_nil, ↓A_cons, ↓reduceIte, Nat.reduceEqDiff, reduceCtorEq]
  refine Tr.seqK fun K7 hK7 => ?_
  refine Tr.blk ?_
  refine Tr.loopI (α := Nat) (fun a => [(3, ?v3_69), (4, ?v4_69), (5, .val (nI a))]) (fun a => ?h_69) (fun a => a ≤ 8 ∧ m < 256 ^ a) (fun a => a) (8) ?_ ?le_69 ?hh_69 ?bd_69
  case hh_69 => exact rfl
  case le_69 => (simp only [Le_nil, Le_cons, ↓A_cons, ↓reduceIte, Nat.reduceEqDiff, reduceCtorEq, CLe_refl, CLe_top, CLe_full, CLe_nil, CLe_own, and_true, true_and]; all_goals (repeat' first | exact CLe.refl _ | exact True.intro | (refine CLe_sln ?_; first | with_reducible rfl | (simp only [List.take_zero]; done) | (rfl; done)) | exact CLe_nI (by omega) | exact CLe_int (by omega) | exact CLe_inI (by omega) | exact CLe_nIi (by omega) | with_reducible apply And.intro))
  · exact ⟨by omega, by omega⟩
  case bd_69 =>
    rintro k ⟨hk, hmk⟩
    refine Tr.seqK fun K8 hK8 => ?_
    refine Tr.seqK fun K9 hK9 => ?_
    -- region 5 (wire.go:19)
    refine Tr.rg hcx [] _ [] rfl rfl rfl ?_
    simp -implicitDefEqProofs (maxSteps := 2000000) (disch := first | omega | (simp only [List.length_append, List.length_replicate, List.length_set, List.length_drop, List.length_take, List.length_cons, List.length_nil, one_w32, one_w8, one_nI, one_nU, one_str, one_bool, one_int, one_slice, refy_sv, refy_bp, refy_agg, refy_val, refy_kp, refy_tsl, cl_len] <;> omega) | decide) only [go_sem, ↓reduceIte, Nat.reduceEqDiff, reduceCtorEq, Nat.reduceLT, Nat.reduceBEq, Nat.reduceAdd, Nat.reduceSub, Nat.reduceMul, Nat.reduceMod, Int.reduceMod, Int.reduceToNat, Int.reduceNeg, em]
    refine hK9 _ ?_
    clear hK9 K9
    refine Tr.kp [3, 4, 5, 15] ?_
    simp only [pk_cons, pk_nil, ↓A_cons, ↓reduceIte, Nat.reduceEqDiff, reduceCtorEq]
    refine Tr.condG fun KT KF hT hF => ?_
    simp only [ev_tmp, ev_const, ↓A_cons, ↓reduceIte, Nat.reduceEqDiff, reduceCtorEq, condG_bool, GB_true, GB_false, decide_eq_true_eq]
    refine GB.dec (fun hc15 => hT ?_) (fun hc15 => hF ?_)
    ·
      clear hT hF KT KF
      refine Tr.skip ?_
      refine hK8 _ ?_
      clear hK8 K8
      refine Tr.kp [3, 4, 5] ?_
      simp only [pk_cons, pk_nil, ↓A_cons, ↓reduceIte, Nat.reduceEqDiff, reduceCtorEq]
      refine Tr.blk ?_
      refine Tr.seqK fun K10 hK10 => ?_
      refine Tr.seqK fun K11 hK11 => ?_
      -- region 6 (wire.go:20)
      refine Tr.rg hcx [] _ [] rfl rfl rfl ?_
      simp -implicitDefEqProofs (maxSteps := 2000000) (disch := first | omega | (simp only [List.length_append, List.length_replicate, List.length_set, List.length_drop, List.length_take, List.length_cons, List.length_nil, one_w32, one_w8, one_nI, one_nU, one_str, one_bool, one_int, one_slice, refy_sv, refy_bp, refy_agg, refy_val, refy_kp, refy_tsl, cl_len] <;> omega) | decide) only [go_sem, ↓reduceIte, Nat.reduceEqDiff, reduceCtorEq, Nat.reduceLT, Nat.reduceBEq, Nat.reduceAdd, Nat.reduceSub, Nat.reduceMul, Nat.reduceMod, Int.reduceMod, Int.reduceToNat, Int.reduceNeg, em]
      refine hK11 _ ?_
      clear hK11 K11
      refine Tr.kp [3, 4, 5, 21] ?_
      simp only [pk_cons, pk_nil, ↓A_cons, ↓reduceIte, Nat.reduceEqDiff, reduceCtorEq]
      refine Tr.condG fun KT KF hT hF => ?_
      simp only [ev_tmp, ev_const, ↓A_cons, ↓reduceIte, Nat.reduceEqDiff, reduceCtorEq, condG_bool, GB_true, GB_false, decide_eq_true_eq]
      refine GB.dec (fun hc21 => hT ?_) (fun hc21 => hF ?_)
      ·
        clear hT hF KT KF
        have hkk := le_done m k hmk (.inr hc21)
        subst hkk
        clear hc21 hmk hk hc15
        refine Tr.exit ?_
        refine hK7 _ ?_
        clear hK10 K10 hK7 K7
        refine Tr.kp [3, 4, 5] ?_
        simp only [pk_cons, pk_nil, ↓A_cons, ↓reduceIte, Nat.reduceEqDiff, reduceCtorEq]
        refine Tr.seqK fun K12 hK12 => ?_
        -- region 8 (wire.go:25)
        refine Tr.rg hcx [1000029] _ [] rfl rfl rfl ?_
        simp -implicitDefEqProofs (maxSteps := 2000000) (disch := first | omega | (simp only [List.length_append, List.length_replicate, List.length_set, List.length_drop, List.length_take, List.length_cons, List.length_nil, one_w32, one_w8, one_nI, one_nU, one_str, one_bool, one_int, one_slice, refy_sv, refy_bp, refy_agg, refy_val, refy_kp, refy_tsl, cl_len] <;> omega) | decide) only [go_sem, ↓reduceIte, Nat.reduceEqDiff, reduceCtorEq, Nat.reduceLT, Nat.reduceBEq, Nat.reduceAdd, Nat.reduceSub, Nat.reduceMul, Nat.reduceMod, Int.reduceMod, Int.reduceToNat, Int.reduceNeg, em]
        refine hK12 _ ?_
        clear hK12 K12
        refine Tr.kp [3, 4, 5, 6] ?_
        simp only [pk_cons, pk_nil, ↓A_cons, ↓reduceIte, Nat.reduceEqDiff, reduceCtorEq]
        refine Tr.seqK fun K13 hK13 => ?_
        refine Tr.seqK fun K14 hK14 => ?_
        -- region 9 (wire.go:26)
        refine Tr.rg hcx [1000031] _ [] rfl rfl rfl ?_
        simp -implicitDefEqProofs (maxSteps := 2000000) (disch := first | omega | (simp only [List.length_append, List.length_replicate, List.length_set, List.length_drop, List.length_take, List.length_cons, List.length_nil, one_w32, one_w8, one_nI, one_nU, one_str, one_bool, one_int, one_slice, refy_sv, refy_bp, refy_agg, refy_val, refy_kp, refy_tsl, cl_len] <;> omega) | decide) only [go_sem, ↓reduceIte, Nat.reduceEqDiff, reduceCtorEq, Nat.reduceLT, Nat.reduceBEq, Nat.reduceAdd, Nat.reduceSub, Nat.reduceMul, Nat.reduceMod, Int.reduceMod, Int.reduceToNat, Int.reduceNeg, em, n_subG]
        refine hK14 _ ?_
        clear hK14 K14
        refine Tr.kp [3, 4, 6, 7] ?_
        simp only [pk_cons, pk_nil, ↓A_cons, ↓reduceIte, Nat.reduceEqDiff, reduceCtorEq]
        refine Tr.blk ?_
        refine Tr.loopI (α := Nat) (fun a => [(3, ?v3_90), (4, ?v4_90), (6, sl bC (.own 1) ((UInt8.ofNat (128 + (le m).length) ^^^ UInt8.ofNat 255) :: ((be m (le m).length).map (· ^^^ UInt8.ofNat 255)).take a)), (7, .val (.int .i64 (((le m).length : Int) - 1 - (a : Int))))]) (fun a => ?h_90) (fun a => a ≤ (le m).length) (fun a => (le m).length - a) (0) ?_ ?le_90 ?hh_90 ?bd_90
        case hh_90 => exact rfl
        case le_90 => (simp only [Le_nil, Le_cons, ↓A_cons, ↓reduceIte, Nat.reduceEqDiff, reduceCtorEq, CLe_refl, CLe_top, CLe_full, CLe_nil, CLe_own, and_true, true_and]; all_goals (repeat' first | exact CLe.refl _ | exact True.intro | (refine CLe_sln ?_; first | with_reducible rfl | (simp only [List.take_zero]; done) | (rfl; done)) | exact CLe_nI (by omega) | exact CLe_int (by omega) | exact CLe_inI (by omega) | exact CLe_nIi (by omega) | with_reducible apply And.intro)); all_goals first | exact CLe_slf (by simp) | exact CLe_int (by omega)
        · omega
        case bd_90 =>
          rintro a ha
          refine Tr.seqK fun K15 hK15 => ?_
          refine Tr.seqK fun K16 hK16 => ?_
          -- region 10 (wire.go:26)
          refine Tr.rg hcx [] _ [] rfl rfl rfl ?_
          simp -implicitDefEqProofs (maxSteps := 2000000) (disch := first | omega | (simp only [List.length_append, List.length_replicate, List.length_set, List.length_drop, List.length_take, List.length_cons, List.length_nil, one_w32, one_w8, one_nI, one_nU, one_str, one_bool, one_int, one_slice, refy_sv, refy_bp, refy_agg, refy_val, refy_kp, refy_tsl, cl_len] <;> omega) | decide) only [go_sem, ↓reduceIte, Nat.reduceEqDiff, reduceCtorEq, Nat.reduceLT, Nat.reduceBEq, Nat.reduceAdd, Nat.reduceSub, Nat.reduceMul, Nat.reduceMod, Int.reduceMod, Int.reduceToNat, Int.reduceNeg, em]
          refine hK16 _ ?_
          clear hK16 K16
          refine Tr.kp [3, 4, 6, 7, 33] ?_
          simp only [pk_cons, pk_nil, ↓A_cons, ↓reduceIte, Nat.reduceEqDiff, reduceCtorEq]
          refine Tr.condG fun KT KF hT hF => ?_
          simp only [ev_tmp, ev_const, ↓A_cons, ↓reduceIte, Nat.reduceEqDiff, reduceCtorEq, condG_bool, GB_true, GB_false, decide_eq_true_eq]
          refine GB.dec (fun hc33 => hT ?_) (fun hc33 => hF ?_)
          ·
            clear hT hF KT KF
            refine Tr.skip ?_
            refine hK15 _ ?_
            clear hK15 K15
            refine Tr.kp [3, 4, 6, 7] ?_
            simp only [pk_cons, pk_nil, ↓A_cons, ↓reduceIte, Nat.reduceEqDiff, reduceCtorEq]
            refine Tr.seqK fun K17 hK17 => ?_
            refine Tr.blk ?_
            -- region 12 (wire.go:27)
            refine Tr.rg hcx [36, 1000045] _ [] rfl rfl rfl ?_
            simp -implicitDefEqProofs (maxSteps := 2000000) (disch := first | omega | (simp only [List.length_append, List.length_replicate, List.length_set, List.length_drop, List.length_take, List.length_cons, List.length_nil, one_w32, one_w8, one_nI, one_nU, one_str, one_bool, one_int, one_slice, refy_sv, refy_bp, refy_agg, refy_val, refy_kp, refy_tsl, cl_len] <;> omega) | decide) only [go_sem, ↓reduceIte, Nat.reduceEqDiff, reduceCtorEq, Nat.reduceLT, Nat.reduceBEq, Nat.reduceAdd, Nat.reduceSub, Nat.reduceMul, Nat.reduceMod, Int.reduceMod, Int.reduceToNat, Int.reduceNeg, em]
            refine hK17 _ ?_
            clear hK17 K17
            refine Tr.kp [3, 4, 6, 7] ?_
            simp only [pk_cons, pk_nil, ↓A_cons, ↓reduceIte, Nat.reduceEqDiff, reduceCtorEq]
            -- region 11 (wire.go:26)
            refine Tr.rg hcx [1000035] _ [] rfl rfl rfl ?_
            simp -implicitDefEqProofs (maxSteps := 2000000) (disch := first | omega | (simp only [List.length_append, List.length_replicate, List.length_set, List.length_drop, List.length_take, List.length_cons, List.length_nil, one_w32, one_w8, one_nI, one_nU, one_str, one_bool, one_int, one_slice, refy_sv, refy_bp, refy_agg, refy_val, refy_kp, refy_tsl, cl_len] <;> omega) | decide) only [go_sem, ↓reduceIte, Nat.reduceEqDiff, reduceCtorEq, Nat.reduceLT, Nat.reduceBEq, Nat.reduceAdd, Nat.reduceSub, Nat.reduceMul, Nat.reduceMod, Int.reduceMod, Int.reduceToNat, Int.reduceNeg, em]
            refine ⟨a + 1, ⟨by omega, by first | omega | (simp only []; omega)⟩, ?_, rfl⟩
            (simp only [Le_nil, Le_cons, ↓A_cons, ↓reduceIte, Nat.reduceEqDiff, reduceCtorEq, CLe_refl, CLe_top, CLe_full, CLe_nil, CLe_own, and_true, true_and]; all_goals (repeat' first | exact CLe.refl _ | exact True.intro | (refine CLe_sln ?_; first | with_reducible rfl | (simp only [List.take_zero]; done) | (rfl; done)) | exact CLe_nI (by omega) | exact CLe_int (by omega) | exact CLe_inI (by omega) | exact CLe_nIi (by omega) | with_reducible apply And.intro))
            all_goals first | exact CLe.refl _ | exact CLe_int (by omega) | (refine CLe_sl ?_; rw [← wI_next m _ a (by omega), show (((8 : Nat) : Int) * (((le m).length : Int) - 1 - (a : Int))).toNat = 8 * ((le m).length - 1 - a) by omega]; try rfl)
          ·
            clear hT hF KT KF
            obtain rfl : a = (le m).length := by omega
            refine Tr.exit ?_
            refine hK13 _ ?_
            clear hK15 K15 hK13 K13
            refine Tr.kp [6] ?_
            simp only [pk_cons, pk_nil, ↓A_cons, ↓reduceIte, Nat.reduceEqDiff, reduceCtorEq]
            refine Tr.seqK fun K18 hK18 => ?_
            -- region 13 (wire.go:29)
            refine Tr.rg hcx [1000046] _ [] rfl rfl rfl ?_
            simp -implicitDefEqProofs (maxSteps := 2000000) (disch := first | omega | (simp only [List.length_append, List.length_replicate, List.length_set, List.length_drop, List.length_take, List.length_cons, List.length_nil, one_w32, one_w8, one_nI, one_nU, one_str, one_bool, one_int, one_slice, refy_sv, refy_bp, refy_agg, refy_val, refy_kp, refy_tsl, cl_len] <;> omega) | decide) only [go_sem, ↓reduceIte, Nat.reduceEqDiff, reduceCtorEq, Nat.reduceLT, Nat.reduceBEq, Nat.reduceAdd, Nat.reduceSub, Nat.reduceMul, Nat.reduceMod, Int.reduceMod, Int.reduceToNat, Int.reduceNeg, em]
            refine hK18 _ ?_
            clear hK18 K18
            refine Tr.kp [2] ?_
            simp only [pk_cons, pk_nil, ↓A_cons, ↓reduceIte, Nat.reduceEqDiff, reduceCtorEq]
            refine Tr.ret ?_
            simp -implicitDefEqProofs (disch := first | omega | (simp only [List.length_append, List.length_replicate, List.length_set, List.length_drop, List.length_take, List.length_cons, List.length_nil, one_w32, one_w8, one_nI, one_nU, one_str, one_bool, one_int, one_slice, refy_sv, refy_bp, refy_agg, refy_val, refy_kp, refy_tsl, cl_len] <;> omega) | decide) only [go_sem, thenQ_n, thenQ_x, thenQ_r, blockQ_n, blockQ_r, EndsR_r, EndsR_n, resL_one, resC_tmp, resC_cell, rcP_int, rcP_bool, rcP_str, rcP_sl, rcP_arr, rcP_struct, ↓reduceIte, Nat.reduceEqDiff, reduceCtorEq]
            all_goals (rw [List.take_of_length_le (by simp [be_len])]; rfl)
      ·
        clear hT hF KT KF
        refine Tr.skip ?_
        refine hK10 _ ?_
        clear hK10 K10
        refine Tr.kp [3, 4, 5] ?_
        simp only [pk_cons, pk_nil, ↓A_cons, ↓reduceIte, Nat.reduceEqDiff, reduceCtorEq]
        -- region 7 (wire.go:23)
        refine Tr.rg hcx [1000023] _ [] rfl rfl rfl ?_
        simp -implicitDefEqProofs (maxSteps := 2000000) (disch := first | omega | (simp only [List.length_append, List.length_replicate, List.length_set, List.length_drop, List.length_take, List.length_cons, List.length_nil, one_w32, one_w8, one_nI, one_nU, one_str, one_bool, one_int, one_slice, refy_sv, refy_bp, refy_agg, refy_val, refy_kp, refy_tsl, cl_len] <;> omega) | decide) only [go_sem, ↓reduceIte, Nat.reduceEqDiff, reduceCtorEq, Nat.reduceLT, Nat.reduceBEq, Nat.reduceAdd, Nat.reduceSub, Nat.reduceMul, Nat.reduceMod, Int.reduceMod, Int.reduceToNat, Int.reduceNeg, em]
        refine ⟨k - 1, ⟨⟨by omega, le_less m k hc15 hc21⟩, by first | omega | (simp only []; omega)⟩, ?_, rfl⟩
        (simp only [Le_nil, Le_cons, ↓A_cons, ↓reduceIte, Nat.reduceEqDiff, reduceCtorEq, CLe_refl, CLe_top, CLe_full, CLe_nil, CLe_own, and_true, true_and]; all_goals (repeat' first | exact CLe.refl _ | exact True.intro | (refine CLe_sln ?_; first | with_reducible rfl | (simp only [List.take_zero]; done) | (rfl; done)) | exact CLe_nI (by omega) | exact CLe_int (by omega) | exact CLe_inI (by omega) | exact CLe_nIi (by omega) | with_reducible apply And.intro))
        all_goals first | exact CLe.refl _ | exact CLe_int (by omega) | exact CLe_nI (by omega) | exact CLe_nIi (by omega) | exact CLe_inI (by omega)
    ·
      clear hT hF KT KF
      have hkk := le_done m k hmk (.inl hc15)
      subst hkk
      clear hc15 hmk hk
      refine Tr.exit ?_
      refine hK7 _ ?_
      clear hK8 K8 hK7 K7
      refine Tr.kp [3, 4, 5] ?_
      simp only [pk_cons, pk_nil, ↓A_cons, ↓reduceIte, Nat.reduceEqDiff, reduceCtorEq]
      refine Tr.seqK fun K19 hK19 => ?_
      -- region 8 (wire.go:25)
      refine Tr.rg hcx [1000029] _ [] rfl rfl rfl ?_
      simp -implicitDefEqProofs (maxSteps := 2000000) (disch := first | omega | (simp only [List.length_append, List.length_replicate, List.length_set, List.length_drop, List.length_take, List.length_cons, List.length_nil, one_w32, one_w8, one_nI, one_nU, one_str, one_bool, one_int, one_slice, refy_sv, refy_bp, refy_agg, refy_val, refy_kp, refy_tsl, cl_len] <;> omega) | decide) only [go_sem, ↓reduceIte, Nat.reduceEqDiff, reduceCtorEq, Nat.reduceLT, Nat.reduceBEq, Nat.reduceAdd, Nat.reduceSub, Nat.reduceMul, Nat.reduceMod, Int.reduceMod, Int.reduceToNat, Int.reduceNeg, em]
      refine hK19 _ ?_
      clear hK19 K19
      refine Tr.kp [3, 4, 5, 6] ?_
      simp only [pk_cons, pk_nil, ↓A_cons, ↓reduceIte, Nat.reduceEqDiff, reduceCtorEq]
      refine Tr.seqK fun K20 hK20 => ?_
      refine Tr.seqK fun K21 hK21 => ?_
      -- region 9 (wire.go:26)
      refine Tr.rg hcx [1000031] _ [] rfl rfl rfl ?_
      simp -implicitDefEqProofs (maxSteps := 2000000) (disch := first | omega | (simp only [List.length_append, List.length_replicate, List.length_set, List.length_drop, List.length_take, List.length_cons, List.length_nil, one_w32, one_w8, one_nI, one_nU, one_str, one_bool, one_int, one_slice, refy_sv, refy_bp, refy_agg, refy_val, refy_kp, refy_tsl, cl_len] <;> omega) | decide) only [go_sem, ↓reduceIte, Nat.reduceEqDiff, reduceCtorEq, Nat.reduceLT, Nat.reduceBEq, Nat.reduceAdd, Nat.reduceSub, Nat.reduceMul, Nat.reduceMod, Int.reduceMod, Int.reduceToNat, Int.reduceNeg, em, n_subG]
      refine hK21 _ ?_
      clear hK21 K21
      refine Tr.kp [3, 4, 6, 7] ?_
      simp only [pk_cons, pk_nil, ↓A_cons, ↓reduceIte, Nat.reduceEqDiff, reduceCtorEq]
      refine Tr.blk ?_
      refine Tr.loopI (α := Nat) (fun a => [(3, ?v3_90), (4, ?v4_90), (6, sl bC (.own 1) ((UInt8.ofNat (128 + (le m).length) ^^^ UInt8.ofNat 255) :: ((be m (le m).length).map (· ^^^ UInt8.ofNat 255)).take a)), (7, .val (.int .i64 (((le m).length : Int) - 1 - (a : Int))))]) (fun a => ?h_90) (fun a => a ≤ (le m).length) (fun a => (le m).length - a) (0) ?_ ?le_90 ?hh_90 ?bd_90
      case hh_90 => exact rfl
      case le_90 => (simp only [Le_nil, Le_cons, ↓A_cons, ↓reduceIte, Nat.reduceEqDiff, reduceCtorEq, CLe_refl, CLe_top, CLe_full, CLe_nil, CLe_own, and_true, true_and]; all_goals (repeat' first | exact CLe.refl _ | exact True.intro | (refine CLe_sln ?_; first | with_reducible rfl | (simp only [List.take_zero]; done) | (rfl; done)) | exact CLe_nI (by omega) | exact CLe_int (by omega) | exact CLe_inI (by omega) | exact CLe_nIi (by omega) | with_reducible apply And.intro)); all_goals first | exact CLe_slf (by simp) | exact CLe_int (by omega)
      · omega
      case bd_90 =>
        rintro a ha
        refine Tr.seqK fun K22 hK22 => ?_
        refine Tr.seqK fun K23 hK23 => ?_
        -- region 10 (wire.go:26)
        refine Tr.rg hcx [] _ [] rfl rfl rfl ?_
        simp -implicitDefEqProofs (maxSteps := 2000000) (disch := first | omega | (simp only [List.length_append, List.length_replicate, List.length_set, List.length_drop, List.length_take, List.length_cons, List.length_nil, one_w32, one_w8, one_nI, one_nU, one_str, one_bool, one_int, one_slice, refy_sv, refy_bp, refy_agg, refy_val, refy_kp, refy_tsl, cl_len] <;> omega) | decide) only [go_sem, ↓reduceIte, Nat.reduceEqDiff, reduceCtorEq, Nat.reduceLT, Nat.reduceBEq, Nat.reduceAdd, Nat.reduceSub, Nat.reduceMul, Nat.reduceMod, Int.reduceMod, Int.reduceToNat, Int.reduceNeg, em]
        refine hK23 _ ?_
        clear hK23 K23
        refine Tr.kp [3, 4, 6, 7, 33] ?_
        simp only [pk_cons, pk_nil, ↓A_cons, ↓reduceIte, Nat.reduceEqDiff, reduceCtorEq]
        refine Tr.condG fun KT KF hT hF => ?_
        simp only [ev_tmp, ev_const, ↓A_cons, ↓reduceIte, Nat.reduceEqDiff, reduceCtorEq, condG_bool, GB_true, GB_false, decide_eq_true_eq]
        refine GB.dec (fun hc33 => hT ?_) (fun hc33 => hF ?_)
        ·
          clear hT hF KT KF
          refine Tr.skip ?_
          refine hK22 _ ?_
          clear hK22 K22
          refine Tr.kp [3, 4, 6, 7] ?_
          simp only [pk_cons, pk_nil, ↓A_cons, ↓reduceIte, Nat.reduceEqDiff, reduceCtorEq]
          refine Tr.seqK fun K24 hK24 => ?_
          refine Tr.blk ?_
          -- region 12 (wire.go:27)
          refine Tr.rg hcx [36, 1000045] _ [] rfl rfl rfl ?_
          simp -implicitDefEqProofs (maxSteps := 2000000) (disch := first | omega | (simp only [List.length_append, List.length_replicate, List.length_set, List.length_drop, List.length_take, List.length_cons, List.length_nil, one_w32, one_w8, one_nI, one_nU, one_str, one_bool, one_int, one_slice, refy_sv, refy_bp, refy_agg, refy_val, refy_kp, refy_tsl, cl_len] <;> omega) | decide) only [go_sem, ↓reduceIte, Nat.reduceEqDiff, reduceCtorEq, Nat.reduceLT, Nat.reduceBEq, Nat.reduceAdd, Nat.reduceSub, Nat.reduceMul, Nat.reduceMod, Int.reduceMod, Int.reduceToNat, Int.reduceNeg, em]
          refine hK24 _ ?_
          clear hK24 K24
          refine Tr.kp [3, 4, 6, 7] ?_
          simp only [pk_cons, pk_nil, ↓A_cons, ↓reduceIte, Nat.reduceEqDiff, reduceCtorEq]
          -- region 11 (wire.go:26)
          refine Tr.rg hcx [1000035] _ [] rfl rfl rfl ?_
          simp -implicitDefEqProofs (maxSteps := 2000000) (disch := first | omega | (simp only [List.length_append, List.length_replicate, List.length_set, List.length_drop, List.length_take, List.length_cons, List.length_nil, one_w32, one_w8, one_nI, one_nU, one_str, one_bool, one_int, one_slice, refy_sv, refy_bp, refy_agg, refy_val, refy_kp, refy_tsl, cl_len] <;> omega) | decide) only [go_sem, ↓reduceIte, Nat.reduceEqDiff, reduceCtorEq, Nat.reduceLT, Nat.reduceBEq, Nat.reduceAdd, Nat.reduceSub, Nat.reduceMul, Nat.reduceMod, Int.reduceMod, Int.reduceToNat, Int.reduceNeg, em]
          refine ⟨a + 1, ⟨by omega, by first | omega | (simp only []; omega)⟩, ?_, rfl⟩
          (simp only [Le_nil, Le_cons, ↓A_cons, ↓reduceIte, Nat.reduceEqDiff, reduceCtorEq, CLe_refl, CLe_top, CLe_full, CLe_nil, CLe_own, and_true, true_and]; all_goals (repeat' first | exact CLe.refl _ | exact True.intro | (refine CLe_sln ?_; first | with_reducible rfl | (simp only [List.take_zero]; done) | (rfl; done)) | exact CLe_nI (by omega) | exact CLe_int (by omega) | exact CLe_inI (by omega) | exact CLe_nIi (by omega) | with_reducible apply And.intro))
          all_goals first | exact CLe.refl _ | exact CLe_int (by omega) | (refine CLe_sl ?_; rw [← wI_next m _ a (by omega), show (((8 : Nat) : Int) * (((le m).length : Int) - 1 - (a : Int))).toNat = 8 * ((le m).length - 1 - a) by omega]; try rfl)
        ·
          clear hT hF KT KF
          obtain rfl : a = (le m).length := by omega
          refine Tr.exit ?_
          refine hK20 _ ?_
          clear hK22 K22 hK20 K20
          refine Tr.kp [6] ?_
          simp only [pk_cons, pk_nil, ↓A_cons, ↓reduceIte, Nat.reduceEqDiff, reduceCtorEq]
          refine Tr.seqK fun K25 hK25 => ?_
          -- region 13 (wire.go:29)
          refine Tr.rg hcx [1000046] _ [] rfl rfl rfl ?_
          simp -implicitDefEqProofs (maxSteps := 2000000) (disch := first | omega | (simp only [List.length_append, List.length_replicate, List.length_set, List.length_drop, List.length_take, List.length_cons, List.length_nil, one_w32, one_w8, one_nI, one_nU, one_str, one_bool, one_int, one_slice, refy_sv, refy_bp, refy_agg, refy_val, refy_kp, refy_tsl, cl_len] <;> omega) | decide) only [go_sem, ↓reduceIte, Nat.reduceEqDiff, reduceCtorEq, Nat.reduceLT, Nat.reduceBEq, Nat.reduceAdd, Nat.reduceSub, Nat.reduceMul, Nat.reduceMod, Int.reduceMod, Int.reduceToNat, Int.reduceNeg, em]
          refine hK25 _ ?_
          clear hK25 K25
          refine Tr.kp [2] ?_
          simp only [pk_cons, pk_nil, ↓A_cons, ↓reduceIte, Nat.reduceEqDiff, reduceCtorEq]
          refine Tr.ret ?_
          simp -implicitDefEqProofs (disch := first | omega | (simp only [List.length_append, List.length_replicate, List.length_set, List.length_drop, List.length_take, List.length_cons, List.length_nil, one_w32, one_w8, one_nI, one_nU, one_str, one_bool, one_int, one_slice, refy_sv, refy_bp, refy_agg, refy_val, refy_kp, refy_tsl, cl_len] <;> omega) | decide) only [go_sem, thenQ_n, thenQ_x, thenQ_r, blockQ_n, blockQ_r, EndsR_r, EndsR_n, resL_one, resC_tmp, resC_cell, rcP_int, rcP_bool, rcP_str, rcP_sl, rcP_arr, rcP_struct, ↓reduceIte, Nat.reduceEqDiff, reduceCtorEq]
          all_goals (rw [List.take_of_length_le (by simp [be_len])]; rfl)

set_option maxRecDepth 100000 in
set_option maxHeartbeats 8000000 in
theorem fc39p {gl : Nat → C} {M : Nat} {pu : Nat → List C → Option C} (hcx : CxOK (cxP gl M pu)) (m : Nat) (hm : m < 9223372036854775808) : FC Tryd.prog gl 39 [.val (nI m)] [] (sl bC (.own 1) (wI m 0)) [] := by
  replace hcx := hcx.reN (M := 59)
  refine FC.ofA (cx := cxP gl 59 pu) (rs := [.tmp 2]) rfl Tryd.func39 rfl rfl rfl (by simp only [List.length_cons, List.length_nil]; decide) (by simp only [noRef_val, noRef_agg, noRef_tup, noRef_kp, noRef_sl, noRefs_cl, noRefs_cons, noRefs_nil, noRefs_app, Bool.and_self, Bool.and_true]) ?_
  simp only [ini, noR_val, noR_val, noR_full, noR_no, noR_owns, noR_sv, noR_bp, noR_kp, noR_agg, noR_tup, noR_fn, noR_top, noR_slno, noR_slfull, noR_slown]
  have hk8 : (le m).length ≤ 8 := le_len 8 m (by omega)
  refine Tr.seqK fun K1 hK1 => ?_
  -- region 0 (ref.go:9)
  refine Tr.rg hcx [] _ [] rfl rfl rfl ?_
  simp -implicitDefEqProofs (maxSteps := 2000000) (disch := first | omega | (simp only [List.length_append, List.length_replicate, List.length_set, List.length_drop, List.length_take, List.length_cons, List.length_nil, one_w32, one_w8, one_nI, one_nU, one_str, one_bool, one_int, one_slice, refy_sv, refy_bp, refy_agg, refy_val, refy_kp, refy_tsl, cl_len] <;> omega) | decide) only [go_sem, ↓reduceIte, Nat.reduceEqDiff, reduceCtorEq, Nat.reduceLT, Nat.reduceBEq, Nat.reduceAdd, Nat.reduceSub, Nat.reduceMul, Nat.reduceMod, Int.reduceMod, Int.reduceToNat, Int.reduceNeg]
  refine hK1 _ ?_
  clear hK1 K1
  refine Tr.kp [0] ?_
  simp only [pk_cons, pk_nil, ↓A_cons, ↓reduceIte, Nat.reduceEqDiff, reduceCtorEq]
  refine Tr.seqK fun K2 hK2 => ?_
  -- region 1 (ref.go:10)
  refine Tr.rg hcx [1000009] _ [] rfl rfl rfl ?_
  simp -implicitDefEqProofs (maxSteps := 2000000) (disch := first | omega | (simp only [List.length_append, List.length_replicate, List.length_set, List.length_drop, List.length_take, List.length_cons, List.length_nil, one_w32, one_w8, one_nI, one_nU, one_str, one_bool, one_int, one_slice, refy_sv, refy_bp, refy_agg, refy_val, refy_kp, refy_tsl, cl_len] <;> omega) | decide) only [go_sem, ↓reduceIte, Nat.reduceEqDiff, reduceCtorEq, Nat.reduceLT, Nat.reduceBEq, Nat.reduceAdd, Nat.reduceSub, Nat.reduceMul, Nat.reduceMod, Int.reduceMod, Int.reduceToNat, Int.reduceNeg]
  refine hK2 _ ?_
  clear hK2 K2
  refine Tr.kp [0, 3] ?_
  simp only [pk_cons, pk_nil, ↓A_cons, ↓reduceIte, Nat.reduceEqDiff, reduceCtorEq]
  refine Tr.seqK fun K3 hK3 => ?_
  refine Tr.seqK fun K4 hK4 => ?_
  -- region 2 (ref.go:11)
  refine Tr.rg hcx [] _ [] rfl rfl rfl ?_
  simp -implicitDefEqProofs (maxSteps := 2000000) (disch := first | omega | (simp only [List.length_append, List.length_replicate, List.length_set, List.length_drop, List.length_take, List.length_cons, List.length_nil, one_w32, one_w8, one_nI, one_nU, one_str, one_bool, one_int, one_slice, refy_sv, refy_bp, refy_agg, refy_val, refy_kp, refy_tsl, cl_len] <;> omega) | decide) only [go_sem, ↓reduceIte, Nat.reduceEqDiff, reduceCtorEq, Nat.reduceLT, Nat.reduceBEq, Nat.reduceAdd, Nat.reduceSub, Nat.reduceMul, Nat.reduceMod, Int.reduceMod, Int.reduceToNat, Int.reduceNeg]
  refine hK4 _ ?_
  clear hK4 K4
  refine Tr.kp [0, 3, 11] ?_
  simp only [pk_cons, pk_nil, ↓A_cons, ↓reduceIte, Nat.reduceEqDiff, reduceCtorEq]
  refine Tr.condG fun KT KF hT hF => ?_
  simp only [ev_tmp, ev_const, ↓A_cons, ↓reduceIte, Nat.reduceEqDiff, reduceCtorEq, condG_bool, GB_true, GB_false, decide_eq_true_eq]
  refine GB.neg ((decide_eq_false (by omega))) (hF ?_)
  clear hT hF KT KF
  refine Tr.skip ?_
  refine hK3 _ ?_
  clear hK3 K3
  refine Tr.kp [0, 3] ?_
  simp only [pk_cons, pk_nil, ↓A_cons, ↓reduceIte, Nat.reduceEqDiff, reduceCtorEq]
  refine Tr.seqK fun K5 hK5 => ?_
  -- region 4 (ref.go:14)
  refine Tr.rg hcx [] _ [] rfl rfl rfl ?_
  simp -implicitDefEqProofs (maxSteps := 2000000) (disch := first | omega | (simp only [List.length_append, List.length_replicate, List.length_set, List.length_drop, List.length_take, List.length_cons, List.length_nil, one_w32, one_w8, one_nI, one_nU, one_str, one_bool, one_int, one_slice, refy_sv, refy_bp, refy_agg, refy_val, refy_kp, refy_tsl, cl_len] <;> omega) | decide) only [go_sem, ↓reduceIte, Nat.reduceEqDiff, reduceCtorEq, Nat.reduceLT, Nat.reduceBEq, Nat.reduceAdd, Nat.reduceSub, Nat.reduceMul, Nat.reduceMod, Int.reduceMod, Int.reduceToNat, Int.reduceNeg]
  refine hK5 _ ?_
  clear hK5 K5
  refine Tr.kp [0, 3, 4] ?_
  simp only [pk_cons, pk_nil, ↓A_cons, ↓reduceIte, Nat.reduceEqDiff, reduceCtorEq]
  refine Tr.seqK fun K6 hK6 => ?_
  refine Tr.blk ?_
  refine Tr.loopI (α := (Nat × List UInt8)) (fun a => [(0, ?v0_118), (3, .val (nI a.1)), (4, sl bC (.own 1) a.2)]) (fun a => ?h_118) (fun a => a.1 ≤ m ∧ a.2 ++ le a.1 = le m) (fun a => a.1) ((m, [])) ?_ ?le_118 ?hh_118 ?bd_118
  case hh_118 => exact rfl
  case le_118 => (simp only [Le_nil, Le_cons, ↓A_cons, ↓reduceIte, Nat.reduceEqDiff, reduceCtorEq, CLe_refl, CLe_top, CLe_full, CLe_nil, CLe_own, and_true, true_and]; all_goals (repeat' first | exact CLe.refl _ | exact True.intro | (refine CLe_sln ?_; first | with_reducible rfl | (simp only [List.take_zero]; done) | (rfl; done)) | exact CLe_nI (by omega) | exact CLe_int (by omega) | exact CLe_inI (by omega) | exact CLe_nIi (by omega) | with_reducible apply And.intro)); all_goals first | exact CLe_inI (by omega) | exact CLe.refl _
  · exact ⟨Nat.le_refl _, rfl⟩
  case bd_118 =>
    rintro ⟨q, ds⟩ ⟨hq, hds⟩
    have hdl : ds.length ≤ 8 := by have := congrArg List.length hds; simp only [List.length_append] at this; omega
    simp only [] at hq hds ⊢
    refine Tr.seqK fun K7 hK7 => ?_
    refine Tr.seqK fun K8 hK8 => ?_
    -- region 5 (ref.go:15)
    refine Tr.rg hcx [] _ [] rfl rfl rfl ?_
    simp -implicitDefEqProofs (maxSteps := 2000000) (disch := first | omega | (simp only [List.length_append, List.length_replicate, List.length_set, List.length_drop, List.length_take, List.length_cons, List.length_nil, one_w32, one_w8, one_nI, one_nU, one_str, one_bool, one_int, one_slice, refy_sv, refy_bp, refy_agg, refy_val, refy_kp, refy_tsl, cl_len] <;> omega) | decide) only [go_sem, ↓reduceIte, Nat.reduceEqDiff, reduceCtorEq, Nat.reduceLT, Nat.reduceBEq, Nat.reduceAdd, Nat.reduceSub, Nat.reduceMul, Nat.reduceMod, Int.reduceMod, Int.reduceToNat, Int.reduceNeg]
    refine hK8 _ ?_
    clear hK8 K8
    refine Tr.kp [0, 3, 4, 15] ?_
    simp only [pk_cons, pk_nil, ↓A_cons, ↓reduceIte, Nat.reduceEqDiff, reduceCtorEq]
    refine Tr.condG fun KT KF hT hF => ?_
    simp only [ev_tmp, ev_const, ↓A_cons, ↓reduceIte, Nat.reduceEqDiff, reduceCtorEq, condG_bool, GB_true, GB_false, decide_eq_true_eq]
    refine GB.dec (fun hc15 => hT ?_) (fun hc15 => hF ?_)
    ·
      clear hT hF KT KF
      refine Tr.skip ?_
      refine hK7 _ ?_
      clear hK7 K7
      refine Tr.kp [0, 3, 4] ?_
      simp only [pk_cons, pk_nil, ↓A_cons, ↓reduceIte, Nat.reduceEqDiff, reduceCtorEq]
      refine Tr.blk ?_
      refine Tr.seqK fun K9 hK9 => ?_
      -- region 6 (ref.go:16)
      refine Tr.rg hcx [16, 1000021] _ [] rfl rfl rfl ?_
      simp -implicitDefEqProofs (maxSteps := 2000000) (disch := first | omega | (simp only [List.length_append, List.length_replicate, List.length_set, List.length_drop, List.length_take, List.length_cons, List.length_nil, one_w32, one_w8, one_nI, one_nU, one_str, one_bool, one_int, one_slice, refy_sv, refy_bp, refy_agg, refy_val, refy_kp, refy_tsl, cl_len] <;> omega) | decide) only [go_sem, ↓reduceIte, Nat.reduceEqDiff, reduceCtorEq, Nat.reduceLT, Nat.reduceBEq, Nat.reduceAdd, Nat.reduceSub, Nat.reduceMul, Nat.reduceMod, Int.reduceMod, Int.reduceToNat, Int.reduceNeg]
      refine hK9 _ ?_
      clear hK9 K9
      refine Tr.kp [0, 3, 4] ?_
      simp only [pk_cons, pk_nil, ↓A_cons, ↓reduceIte, Nat.reduceEqDiff, reduceCtorEq]
      -- region 7 (ref.go:17)
      refine Tr.rg hcx [1000023] _ [] rfl rfl rfl ?_
      simp -implicitDefEqProofs (maxSteps := 2000000) (disch := first | omega | (simp only [List.length_append, List.length_replicate, List.length_set, List.length_drop, List.length_take, List.length_cons, List.length_nil, one_w32, one_w8, one_nI, one_nU, one_str, one_bool, one_int, one_slice, refy_sv, refy_bp, refy_agg, refy_val, refy_kp, refy_tsl, cl_len] <;> omega) | decide) only [go_sem, ↓reduceIte, Nat.reduceEqDiff, reduceCtorEq, Nat.reduceLT, Nat.reduceBEq, Nat.reduceAdd, Nat.reduceSub, Nat.reduceMul, Nat.reduceMod, Int.reduceMod, Int.reduceToNat, Int.reduceNeg]
      refine ⟨(q / 256, ds ++ [UInt8.ofNat (q % 256)]), ⟨⟨by have := Nat.div_le_self q 256; simp only []; omega, by simp only [] at hds ⊢; rw [← hds, le_pos q (by omega)]; simp⟩, by have : q / 256 < q := Nat.div_lt_self (by omega) (by decide); exact this⟩, ?_, rfl⟩
      (simp only [Le_nil, Le_cons, ↓A_cons, ↓reduceIte, Nat.reduceEqDiff, reduceCtorEq, CLe_refl, CLe_top, CLe_full, CLe_nil, CLe_own, and_true, true_and]; all_goals (repeat' first | exact CLe.refl _ | exact True.intro | (refine CLe_sln ?_; first | with_reducible rfl | (simp only [List.take_zero]; done) | (rfl; done)) | exact CLe_nI (by omega) | exact CLe_int (by omega) | exact CLe_inI (by omega) | exact CLe_nIi (by omega) | with_reducible apply And.intro))
      all_goals exact CLe.refl _
    ·
      clear hT hF KT KF
      obtain rfl : q = 0 := by omega
      rw [le_zero, List.append_nil] at hds
      subst hds
      clear hq hdl
      refine Tr.exit ?_
      refine hK6 _ ?_
      clear hK7 K7 hK6 K6
      refine Tr.kp [0, 4] ?_
      simp only [pk_cons, pk_nil, ↓A_cons, ↓reduceIte, Nat.reduceEqDiff, reduceCtorEq]
      refine Tr.seqK fun K10 hK10 => ?_
      -- region 8 (ref.go:19)
      refine Tr.rg hcx [1000025] _ [] rfl rfl rfl ?_
      simp -implicitDefEqProofs (maxSteps := 2000000) (disch := first | omega | (simp only [List.length_append, List.length_replicate, List.length_set, List.length_drop, List.length_take, List.length_cons, List.length_nil, one_w32, one_w8, one_nI, one_nU, one_str, one_bool, one_int, one_slice, refy_sv, refy_bp, refy_agg, refy_val, refy_kp, refy_tsl, cl_len] <;> omega) | decide) only [go_sem, ↓reduceIte, Nat.reduceEqDiff, reduceCtorEq, Nat.reduceLT, Nat.reduceBEq, Nat.reduceAdd, Nat.reduceSub, Nat.reduceMul, Nat.reduceMod, Int.reduceMod, Int.reduceToNat, Int.reduceNeg]
      refine hK10 _ ?_
      clear hK10 K10
      refine Tr.kp [0, 4, 5] ?_
      simp only [pk_cons, pk_nil, ↓A_cons, ↓reduceIte, Nat.reduceEqDiff, reduceCtorEq]
      refine Tr.seqK fun K11 hK11 => ?_
      -- region 9 (ref.go:20)
      refine Tr.rg hcx [] _ [] rfl rfl rfl ?_
      simp -implicitDefEqProofs (maxSteps := 2000000) (disch := first | omega | (simp only [List.length_append, List.length_replicate, List.length_set, List.length_drop, List.length_take, List.length_cons, List.length_nil, one_w32, one_w8, one_nI, one_nU, one_str, one_bool, one_int, one_slice, refy_sv, refy_bp, refy_agg, refy_val, refy_kp, refy_tsl, cl_len] <;> omega) | decide) only [go_sem, ↓reduceIte, Nat.reduceEqDiff, reduceCtorEq, Nat.reduceLT, Nat.reduceBEq, Nat.reduceAdd, Nat.reduceSub, Nat.reduceMul, Nat.reduceMod, Int.reduceMod, Int.reduceToNat, Int.reduceNeg]
      refine hK11 _ ?_
      clear hK11 K11
      refine Tr.kp [0, 4, 5, 6] ?_
      simp only [pk_cons, pk_nil, ↓A_cons, ↓reduceIte, Nat.reduceEqDiff, reduceCtorEq]
      refine Tr.seqK fun K12 hK12 => ?_
      refine Tr.seqK fun K13 hK13 => ?_
      -- region 10 (ref.go:21)
      refine Tr.rg hcx [] _ [] rfl rfl rfl ?_
      simp -implicitDefEqProofs (maxSteps := 2000000) (disch := first | omega | (simp only [List.length_append, List.length_replicate, List.length_set, List.length_drop, List.length_take, List.length_cons, List.length_nil, one_w32, one_w8, one_nI, one_nU, one_str, one_bool, one_int, one_slice, refy_sv, refy_bp, refy_agg, refy_val, refy_kp, refy_tsl, cl_len] <;> omega) | decide) only [go_sem, ↓reduceIte, Nat.reduceEqDiff, reduceCtorEq, Nat.reduceLT, Nat.reduceBEq, Nat.reduceAdd, Nat.reduceSub, Nat.reduceMul, Nat.reduceMod, Int.reduceMod, Int.reduceToNat, Int.reduceNeg]
      refine hK13 _ ?_
      clear hK13 K13
      refine Tr.kp [0, 4, 5, 6, 27] ?_
      simp only [pk_cons, pk_nil, ↓A_cons, ↓reduceIte, Nat.reduceEqDiff, reduceCtorEq]
      refine Tr.condG fun KT KF hT hF => ?_
      simp only [ev_tmp, ev_const, ↓A_cons, ↓reduceIte, Nat.reduceEqDiff, reduceCtorEq, condG_bool, GB_true, GB_false, decide_eq_true_eq]
      refine GB.pos ((decide_eq_true (by omega))) (hT ?_)
      clear hT hF KT KF
      -- region 11 (ref.go:22)
      refine Tr.rg hcx [28, 1000033] _ [] rfl rfl rfl ?_
      simp -implicitDefEqProofs (maxSteps := 2000000) (disch := first | omega | (simp only [List.length_append, List.length_replicate, List.length_set, List.length_drop, List.length_take, List.length_cons, List.length_nil, one_w32, one_w8, one_nI, one_nU, one_str, one_bool, one_int, one_slice, refy_sv, refy_bp, refy_agg, refy_val, refy_kp, refy_tsl, cl_len] <;> omega) | decide) only [go_sem, ↓reduceIte, Nat.reduceEqDiff, reduceCtorEq, Nat.reduceLT, Nat.reduceBEq, Nat.reduceAdd, Nat.reduceSub, Nat.reduceMul, Nat.reduceMod, Int.reduceMod, Int.reduceToNat, Int.reduceNeg]
      refine hK12 _ ?_
      clear hK12 K12
      refine Tr.kp [0, 4, 5, 6] ?_
      simp only [pk_cons, pk_nil, ↓A_cons, ↓reduceIte, Nat.reduceEqDiff, reduceCtorEq]
      refine Tr.seqK fun K14 hK14 => ?_
      refine Tr.seqK fun K15 hK15 => ?_
      -- region 13 (ref.go:26)
      refine Tr.rg hcx [1000041] _ [] rfl rfl rfl ?_
      simp -implicitDefEqProofs (maxSteps := 2000000) (disch := first | omega | (simp only [List.length_append, List.length_replicate, List.length_set, List.length_drop, List.length_take, List.length_cons, List.length_nil, one_w32, one_w8, one_nI, one_nU, one_str, one_bool, one_int, one_slice, refy_sv, refy_bp, refy_agg, refy_val, refy_kp, refy_tsl, cl_len] <;> omega) | decide) only [go_sem, ↓reduceIte, Nat.reduceEqDiff, reduceCtorEq, Nat.reduceLT, Nat.reduceBEq, Nat.reduceAdd, Nat.reduceSub, Nat.reduceMul, Nat.reduceMod, Int.reduceMod, Int.reduceToNat, Int.reduceNeg, n_subG]
      refine hK15 _ ?_
      clear hK15 K15
      refine Tr.kp [0, 4, 6, 7] ?_
      simp only [pk_cons, pk_nil, ↓A_cons, ↓reduceIte, Nat.reduceEqDiff, reduceCtorEq]
      refine Tr.blk ?_
      refine Tr.loopI (α := Nat) (fun a => [(0, ?v0_143), (4, ?v4_143), (6, sl bC (.own 1) (UInt8.ofNat (128 + (le m).length) :: ((le m).reverse.map (fun c => c)).take a)), (7, .val (.int .i64 (((le m).length : Int) - 1 - (a : Int))))]) (fun a => ?h_143) (fun a => a ≤ (le m).length) (fun a => (le m).length - a) (0) ?_ ?le_143 ?hh_143 ?bd_143
      case hh_143 => exact rfl
      case le_143 => (simp only [Le_nil, Le_cons, ↓A_cons, ↓reduceIte, Nat.reduceEqDiff, reduceCtorEq, CLe_refl, CLe_top, CLe_full, CLe_nil, CLe_own, and_true, true_and]; all_goals (repeat' first | exact CLe.refl _ | exact True.intro | (refine CLe_sln ?_; first | with_reducible rfl | (simp only [List.take_zero]; done) | (rfl; done)) | exact CLe_nI (by omega) | exact CLe_int (by omega) | exact CLe_inI (by omega) | exact CLe_nIi (by omega) | with_reducible apply And.intro)); all_goals first | exact CLe_slf (by simp) | exact CLe.refl _ | exact CLe_int (by omega) | exact CLe_sl (by simp)
      · omega
      case bd_143 =>
        rintro a ha
        refine Tr.seqK fun K16 hK16 => ?_
        refine Tr.seqK fun K17 hK17 => ?_
        -- region 14 (ref.go:26)
        refine Tr.rg hcx [] _ [] rfl rfl rfl ?_
        simp -implicitDefEqProofs (maxSteps := 2000000) (disch := first | omega | (simp only [List.length_append, List.length_replicate, List.length_set, List.length_drop, List.length_take, List.length_cons, List.length_nil, one_w32, one_w8, one_nI, one_nU, one_str, one_bool, one_int, one_slice, refy_sv, refy_bp, refy_agg, refy_val, refy_kp, refy_tsl, cl_len] <;> omega) | decide) only [go_sem, ↓reduceIte, Nat.reduceEqDiff, reduceCtorEq, Nat.reduceLT, Nat.reduceBEq, Nat.reduceAdd, Nat.reduceSub, Nat.reduceMul, Nat.reduceMod, Int.reduceMod, Int.reduceToNat, Int.reduceNeg]
        refine hK17 _ ?_
        clear hK17 K17
        refine Tr.kp [0, 4, 6, 7, 43] ?_
        simp only [pk_cons, pk_nil, ↓A_cons, ↓reduceIte, Nat.reduceEqDiff, reduceCtorEq]
        refine Tr.condG fun KT KF hT hF => ?_
        simp only [ev_tmp, ev_const, ↓A_cons, ↓reduceIte, Nat.reduceEqDiff, reduceCtorEq, condG_bool, GB_true, GB_false, decide_eq_true_eq]
        refine GB.dec (fun hc43 => hT ?_) (fun hc43 => hF ?_)
        ·
          clear hT hF KT KF
          refine Tr.skip ?_
          refine hK16 _ ?_
          clear hK16 K16
          refine Tr.kp [0, 4, 6, 7] ?_
          simp only [pk_cons, pk_nil, ↓A_cons, ↓reduceIte, Nat.reduceEqDiff, reduceCtorEq]
          refine Tr.seqK fun K18 hK18 => ?_
          refine Tr.blk ?_
          refine Tr.seqK fun K19 hK19 => ?_
          -- region 16 (ref.go:27)
          refine Tr.rg hcx [1000049] _ [] rfl rfl rfl ?_
          simp -implicitDefEqProofs (maxSteps := 2000000) (disch := first | omega | (simp only [List.length_append, List.length_replicate, List.length_set, List.length_drop, List.length_take, List.length_cons, List.length_nil, one_w32, one_w8, one_nI, one_nU, one_str, one_bool, one_int, one_slice, refy_sv, refy_bp, refy_agg, refy_val, refy_kp, refy_tsl, cl_len] <;> omega) | decide) only [go_sem, ↓reduceIte, Nat.reduceEqDiff, reduceCtorEq, Nat.reduceLT, Nat.reduceBEq, Nat.reduceAdd, Nat.reduceSub, Nat.reduceMul, Nat.reduceMod, Int.reduceMod, Int.reduceToNat, Int.reduceNeg]
          refine hK19 _ ?_
          clear hK19 K19
          refine Tr.kp [0, 4, 6, 7, 8] ?_
          simp only [pk_cons, pk_nil, ↓A_cons, ↓reduceIte, Nat.reduceEqDiff, reduceCtorEq]
          refine Tr.seqK fun K20 hK20 => ?_
          refine Tr.seqK fun K21 hK21 => ?_
          -- region 17 (ref.go:28)
          refine Tr.rg hcx [] _ [] rfl rfl rfl ?_
          simp -implicitDefEqProofs (maxSteps := 2000000) (disch := first | omega | (simp only [List.length_append, List.length_replicate, List.length_set, List.length_drop, List.length_take, List.length_cons, List.length_nil, one_w32, one_w8, one_nI, one_nU, one_str, one_bool, one_int, one_slice, refy_sv, refy_bp, refy_agg, refy_val, refy_kp, refy_tsl, cl_len] <;> omega) | decide) only [go_sem, ↓reduceIte, Nat.reduceEqDiff, reduceCtorEq, Nat.reduceLT, Nat.reduceBEq, Nat.reduceAdd, Nat.reduceSub, Nat.reduceMul, Nat.reduceMod, Int.reduceMod, Int.reduceToNat, Int.reduceNeg]
          refine hK21 _ ?_
          clear hK21 K21
          refine Tr.kp [0, 4, 6, 7, 8, 51] ?_
          simp only [pk_cons, pk_nil, ↓A_cons, ↓reduceIte, Nat.reduceEqDiff, reduceCtorEq]
          refine Tr.condG fun KT KF hT hF => ?_
          simp only [ev_tmp, ev_const, ↓A_cons, ↓reduceIte, Nat.reduceEqDiff, reduceCtorEq, condG_bool, GB_true, GB_false, decide_eq_true_eq]
          refine GB.neg ((decide_eq_false (by omega))) (hF ?_)
          clear hT hF KT KF
          refine Tr.skip ?_
          refine hK20 _ ?_
          clear hK20 K20
          refine Tr.kp [0, 4, 6, 7, 8] ?_
          simp only [pk_cons, pk_nil, ↓A_cons, ↓reduceIte, Nat.reduceEqDiff, reduceCtorEq]
          -- region 19 (ref.go:31)
          refine Tr.rg hcx [54, 1000057] _ [] rfl rfl rfl ?_
          simp -implicitDefEqProofs (maxSteps := 2000000) (disch := first | omega | (simp only [List.length_append, List.length_replicate, List.length_set, List.length_drop, List.length_take, List.length_cons, List.length_nil, one_w32, one_w8, one_nI, one_nU, one_str, one_bool, one_int, one_slice, refy_sv, refy_bp, refy_agg, refy_val, refy_kp, refy_tsl, cl_len] <;> omega) | decide) only [go_sem, ↓reduceIte, Nat.reduceEqDiff, reduceCtorEq, Nat.reduceLT, Nat.reduceBEq, Nat.reduceAdd, Nat.reduceSub, Nat.reduceMul, Nat.reduceMod, Int.reduceMod, Int.reduceToNat, Int.reduceNeg]
          refine hK18 _ ?_
          clear hK18 K18
          refine Tr.kp [0, 4, 6, 7] ?_
          simp only [pk_cons, pk_nil, ↓A_cons, ↓reduceIte, Nat.reduceEqDiff, reduceCtorEq]
          -- region 15 (ref.go:26)
          refine Tr.rg hcx [1000045] _ [] rfl rfl rfl ?_
          simp -implicitDefEqProofs (maxSteps := 2000000) (disch := first | omega | (simp only [List.length_append, List.length_replicate, List.length_set, List.length_drop, List.length_take, List.length_cons, List.length_nil, one_w32, one_w8, one_nI, one_nU, one_str, one_bool, one_int, one_slice, refy_sv, refy_bp, refy_agg, refy_val, refy_kp, refy_tsl, cl_len] <;> omega) | decide) only [go_sem, ↓reduceIte, Nat.reduceEqDiff, reduceCtorEq, Nat.reduceLT, Nat.reduceBEq, Nat.reduceAdd, Nat.reduceSub, Nat.reduceMul, Nat.reduceMod, Int.reduceMod, Int.reduceToNat, Int.reduceNeg]
          refine ⟨a + 1, ⟨by omega, by first | omega | (simp only []; omega)⟩, ?_, rfl⟩
          (simp only [Le_nil, Le_cons, ↓A_cons, ↓reduceIte, Nat.reduceEqDiff, reduceCtorEq, CLe_refl, CLe_top, CLe_full, CLe_nil, CLe_own, and_true, true_and]; all_goals (repeat' first | exact CLe.refl _ | exact True.intro | (refine CLe_sln ?_; first | with_reducible rfl | (simp only [List.take_zero]; done) | (rfl; done)) | exact CLe_nI (by omega) | exact CLe_int (by omega) | exact CLe_inI (by omega) | exact CLe_nIi (by omega) | with_reducible apply And.intro))
          all_goals first | exact CLe.refl _ | exact CLe_int (by omega) | (refine CLe_sl ?_; rw [← rI_next (le m) _ a (by omega), show (((le m).length : Int) - 1 - (a : Int)).toNat = (le m).length - 1 - a by omega]; try rfl)
        ·
          clear hT hF KT KF
          obtain rfl : a = (le m).length := by omega
          refine Tr.exit ?_
          refine hK14 _ ?_
          clear hK16 K16 hK14 K14
          refine Tr.kp [6] ?_
          simp only [pk_cons, pk_nil, ↓A_cons, ↓reduceIte, Nat.reduceEqDiff, reduceCtorEq]
          refine Tr.seqK fun K22 hK22 => ?_
          -- region 20 (ref.go:33)
          refine Tr.rg hcx [1000058] _ [] rfl rfl rfl ?_
          simp -implicitDefEqProofs (maxSteps := 2000000) (disch := first | omega | (simp only [List.length_append, List.length_replicate, List.length_set, List.length_drop, List.length_take, List.length_cons, List.length_nil, one_w32, one_w8, one_nI, one_nU, one_str, one_bool, one_int, one_slice, refy_sv, refy_bp, refy_agg, refy_val, refy_kp, refy_tsl, cl_len] <;> omega) | decide) only [go_sem, ↓reduceIte, Nat.reduceEqDiff, reduceCtorEq, Nat.reduceLT, Nat.reduceBEq, Nat.reduceAdd, Nat.reduceSub, Nat.reduceMul, Nat.reduceMod, Int.reduceMod, Int.reduceToNat, Int.reduceNeg]
          refine hK22 _ ?_
          clear hK22 K22
          refine Tr.kp [2] ?_
          simp only [pk_cons, pk_nil, ↓A_cons, ↓reduceIte, Nat.reduceEqDiff, reduceCtorEq]
          refine Tr.ret ?_
          simp -implicitDefEqProofs (disch := first | omega | (simp only [List.length_append, List.length_replicate, List.length_set, List.length_drop, List.length_take, List.length_cons, List.length_nil, one_w32, one_w8, one_nI, one_nU, one_str, one_bool, one_int, one_slice, refy_sv, refy_bp, refy_agg, refy_val, refy_kp, refy_tsl, cl_len] <;> omega) | decide) only [go_sem, thenQ_n, thenQ_x, thenQ_r, blockQ_n, blockQ_r, EndsR_r, EndsR_n, resL_one, resC_tmp, resC_cell, rcP_int, rcP_bool, rcP_str, rcP_sl, rcP_arr, rcP_struct, ↓reduceIte, Nat.reduceEqDiff, reduceCtorEq]
          all_goals (rw [List.take_of_length_le (by simp)]; rw [← wint_pos m]; unfold wint; rw [if_pos (by omega)]; simp)

set_option maxRecDepth 100000 in
set_option maxHeartbeats 8000000 in
theorem fc39n {gl : Nat → C} {M : Nat} {pu : Nat → List C → Option C} (hcx : CxOK (cxP gl M pu)) (m : Nat) (hm : m < 9223372036854775808) : FC Tryd.prog gl 39 [.val (.int .i64 (-1 - (m : Int)))] [] (sl bC (.own 1) (wI m 255)) [] := by
  replace hcx := hcx.reN (M := 59)
  refine FC.ofA (cx := cxP gl 59 pu) (rs := [.tmp 2]) rfl Tryd.func39 rfl rfl rfl (by simp only [List.length_cons, List.length_nil]; decide) (by simp only [noRef_val, noRef_agg, noRef_tup, noRef_kp, noRef_sl, noRefs_cl, noRefs_cons, noRefs_nil, noRefs_app, Bool.and_self, Bool.and_true]) ?_
  simp only [ini, noR_val, noR_val, noR_full, noR_no, noR_owns, noR_sv, noR_bp, noR_kp, noR_agg, noR_tup, noR_fn, noR_top, noR_slno, noR_slfull, noR_slown]
  have hk8 : (le m).length ≤ 8 := le_len 8 m (by omega)
  refine Tr.seqK fun K1 hK1 => ?_
  -- region 0 (ref.go:9)
  refine Tr.rg hcx [] _ [] rfl rfl rfl ?_
  simp -implicitDefEqProofs (maxSteps := 2000000) (disch := first | omega | (simp only [List.length_append, List.length_replicate, List.length_set, List.length_drop, List.length_take, List.length_cons, List.length_nil, one_w32, one_w8, one_nI, one_nU, one_str, one_bool, one_int, one_slice, refy_sv, refy_bp, refy_agg, refy_val, refy_kp, refy_tsl, cl_len] <;> omega) | decide) only [go_sem, ↓reduceIte, Nat.reduceEqDiff, reduceCtorEq, Nat.reduceLT, Nat.reduceBEq, Nat.reduceAdd, Nat.reduceSub, Nat.reduceMul, Nat.reduceMod, Int.reduceMod, Int.reduceToNat, Int.reduceNeg]
  refine hK1 _ ?_
  clear hK1 K1
  refine Tr.kp [0] ?_
  simp only [pk_cons, pk_nil, ↓A_cons, ↓reduceIte, Nat.reduceEqDiff, reduceCtorEq]
  refine Tr.seqK fun K2 hK2 => ?_
  -- region 1 (ref.go:10)
  refine Tr.rg hcx [1000009] _ [] rfl rfl rfl ?_
  simp -implicitDefEqProofs (maxSteps := 2000000) (disch := first | omega | (simp only [List.length_append, List.length_replicate, List.length_set, List.length_drop, List.length_take, List.length_cons, List.length_nil, one_w32, one_w8, one_nI, one_nU, one_str, one_bool, one_int, one_slice, refy_sv, refy_bp, refy_agg, refy_val, refy_kp, refy_tsl, cl_len] <;> omega) | decide) only [go_sem, ↓reduceIte, Nat.reduceEqDiff, reduceCtorEq, Nat.reduceLT, Nat.reduceBEq, Nat.reduceAdd, Nat.reduceSub, Nat.reduceMul, Nat.reduceMod, Int.reduceMod, Int.reduceToNat, Int.reduceNeg]
  refine hK2 _ ?_
  clear hK2 K2
  refine Tr.kp [0, 3] ?_
  simp only [pk_cons, pk_nil, ↓A_cons, ↓reduceIte, Nat.reduceEqDiff, reduceCtorEq]
  refine Tr.seqK fun K3 hK3 => ?_
  refine Tr.seqK fun K4 hK4 => ?_
  -- region 2 (ref.go:11)
  refine Tr.rg hcx [] _ [] rfl rfl rfl ?_
  simp -implicitDefEqProofs (maxSteps := 2000000) (disch := first | omega | (simp only [List.length_append, List.length_replicate, List.length_set, List.length_drop, List.length_take, List.length_cons, List.length_nil, one_w32, one_w8, one_nI, one_nU, one_str, one_bool, one_int, one_slice, refy_sv, refy_bp, refy_agg, refy_val, refy_kp, refy_tsl, cl_len] <;> omega) | decide) only [go_sem, ↓reduceIte, Nat.reduceEqDiff, reduceCtorEq, Nat.reduceLT, Nat.reduceBEq, Nat.reduceAdd, Nat.reduceSub, Nat.reduceMul, Nat.reduceMod, Int.reduceMod, Int.reduceToNat, Int.reduceNeg]
  refine hK4 _ ?_
  clear hK4 K4
  refine Tr.kp [0, 3, 11] ?_
  simp only [pk_cons, pk_nil, ↓A_cons, ↓reduceIte, Nat.reduceEqDiff, reduceCtorEq]
  refine Tr.condG fun KT KF hT hF => ?_
  simp only [ev_tmp, ev_const, ↓A_cons, ↓reduceIte, Nat.reduceEqDiff, reduceCtorEq, condG_bool, GB_true, GB_false, decide_eq_true_eq]
  refine GB.pos ((decide_eq_true (by omega))) (hT ?_)
  clear hT hF KT KF
  -- region 3 (ref.go:12)
  refine Tr.rg hcx [1000013] _ [] rfl rfl rfl ?_
  simp -implicitDefEqProofs (maxSteps := 2000000) (disch := first | omega | (simp only [List.length_append, List.length_replicate, List.length_set, List.length_drop, List.length_take, List.length_cons, List.length_nil, one_w32, one_w8, one_nI, one_nU, one_str, one_bool, one_int, one_slice, refy_sv, refy_bp, refy_agg, refy_val, refy_kp, refy_tsl, cl_len] <;> omega) | decide) only [go_sem, ↓reduceIte, Nat.reduceEqDiff, reduceCtorEq, Nat.reduceLT, Nat.reduceBEq, Nat.reduceAdd, Nat.reduceSub, Nat.reduceMul, Nat.reduceMod, Int.reduceMod, Int.reduceToNat, Int.reduceNeg]
  refine hK3 _ ?_
  clear hK3 K3
  refine Tr.kp [0, 3] ?_
  simp only [pk_cons, pk_nil, ↓A_cons, ↓reduceIte, Nat.reduceEqDiff, reduceCtorEq]
  refine Tr.seqK fun K5 hK5 => ?_
  -- region 4 (ref.go:14)
  refine Tr.rg hcx [] _ [] rfl rfl rfl ?_
  simp -implicitDefEqProofs (maxSteps := 2000000) (disch := first | omega | (simp only [List.length_append, List.length_replicate, List.length_set, List.length_drop, List.length_take, List.length_cons, List.length_nil, one_w32, one_w8, one_nI, one_nU, one_str, one_bool, one_int, one_slice, refy_sv, refy_bp, refy_agg, refy_val, refy_kp, refy_tsl, cl_len] <;> omega) | decide) only [go_sem, ↓reduceIte, Nat.reduceEqDiff, reduceCtorEq, Nat.reduceLT, Nat.reduceBEq, Nat.reduceAdd, Nat.reduceSub, Nat.reduceMul, Nat.reduceMod, Int.reduceMod, Int.reduceToNat, Int.reduceNeg]
  refine hK5 _ ?_
  clear hK5 K5
  refine Tr.kp [0, 3, 4] ?_
  simp only [pk_cons, pk_nil, ↓A_cons, ↓reduceIte, Nat.reduceEqDiff, reduceCtorEq]
  refine Tr.seqK fun K6 hK6 => ?_
  refine Tr.blk ?_
  refine Tr.loopI (α := (Nat × List UInt8)) (fun a => [(0, ?v0_179), (3, .val (nI a.1)), (4, sl bC (.own 1) a.2)]) (fun a => ?h_179) (fun a => a.1 ≤ m ∧ a.2 ++ le a.1 = le m) (fun a => a.1) ((m, [])) ?_ ?le_179 ?hh_179 ?bd_179
  case hh_179 => exact rfl
  case le_179 => (simp only [Le_nil, Le_cons, ↓A_cons, ↓reduceIte, Nat.reduceEqDiff, reduceCtorEq, CLe_refl, CLe_top, CLe_full, CLe_nil, CLe_own, and_true, true_and]; all_goals (repeat' first | exact CLe.refl _ | exact True.intro | (refine CLe_sln ?_; first | with_reducible rfl | (simp only [List.take_zero]; done) | (rfl; done)) | exact CLe_nI (by omega) | exact CLe_int (by omega) | exact CLe_inI (by omega) | exact CLe_nIi (by omega) | with_reducible apply And.intro)); all_goals first | exact CLe_inI (by omega) | exact CLe.refl _
  · exact ⟨Nat.le_refl _, rfl⟩
  case bd_179 =>
    rintro ⟨q, ds⟩ ⟨hq, hds⟩
    have hdl : ds.length ≤ 8 := by have := congrArg List.length hds; simp only [List.length_append] at this; omega
    simp only [] at hq hds ⊢
    refine Tr.seqK fun K7 hK7 => ?_
    refine Tr.seqK fun K8 hK8 => ?_
    -- region 5 (ref.go:15)
    refine Tr.rg hcx [] _ [] rfl rfl rfl ?_
    simp -implicitDefEqProofs (maxSteps := 2000000) (disch := first | omega | (simp only [List.length_append, List.length_replicate, List.length_set, List.length_drop, List.length_take, List.length_cons, List.length_nil, one_w32, one_w8, one_nI, one_nU, one_str, one_bool, one_int, one_slice, refy_sv, refy_bp, refy_agg, refy_val, refy_kp, refy_tsl, cl_len] <;> omega) | decide) only [go_sem, ↓reduceIte, Nat.reduceEqDiff, reduceCtorEq, Nat.reduceLT, Nat.reduceBEq, Nat.reduceAdd, Nat.reduceSub, Nat.reduceMul, Nat.reduceMod, Int.reduceMod, Int.reduceToNat, Int.reduceNeg]
    refine hK8 _ ?_
    clear hK8 K8
    refine Tr.kp [0, 3, 4, 15] ?_
    simp only [pk_cons, pk_nil, ↓A_cons, ↓reduceIte, Nat.reduceEqDiff, reduceCtorEq]
    refine Tr.condG fun KT KF hT hF => ?_
    simp only [ev_tmp, ev_const, ↓A_cons, ↓reduceIte, Nat.reduceEqDiff, reduceCtorEq, condG_bool, GB_true, GB_false, decide_eq_true_eq]
    refine GB.dec (fun hc15 => hT ?_) (fun hc15 => hF ?_)
    ·
      clear hT hF KT KF
      refine Tr.skip ?_
      refine hK7 _ ?_
      clear hK7 K7
      refine Tr.kp [0, 3, 4] ?_
      simp only [pk_cons, pk_nil, ↓A_cons, ↓reduceIte, Nat.reduceEqDiff, reduceCtorEq]
      refine Tr.blk ?_
      refine Tr.seqK fun K9 hK9 => ?_
      -- region 6 (ref.go:16)
      refine Tr.rg hcx [16, 1000021] _ [] rfl rfl rfl ?_
      simp -implicitDefEqProofs (maxSteps := 2000000) (disch := first | omega | (simp only [List.length_append, List.length_replicate, List.length_set, List.length_drop, List.length_take, List.length_cons, List.length_nil, one_w32, one_w8, one_nI, one_nU, one_str, one_bool, one_int, one_slice, refy_sv, refy_bp, refy_agg, refy_val, refy_kp, refy_tsl, cl_len] <;> omega) | decide) only [go_sem, ↓reduceIte, Nat.reduceEqDiff, reduceCtorEq, Nat.reduceLT, Nat.reduceBEq, Nat.reduceAdd, Nat.reduceSub, Nat.reduceMul, Nat.reduceMod, Int.reduceMod, Int.reduceToNat, Int.reduceNeg]
      refine hK9 _ ?_
      clear hK9 K9
      refine Tr.kp [0, 3, 4] ?_
      simp only [pk_cons, pk_nil, ↓A_cons, ↓reduceIte, Nat.reduceEqDiff, reduceCtorEq]
      -- region 7 (ref.go:17)
      refine Tr.rg hcx [1000023] _ [] rfl rfl rfl ?_
      simp -implicitDefEqProofs (maxSteps := 2000000) (disch := first | omega | (simp only [List.length_append, List.length_replicate, List.length_set, List.length_drop, List.length_take, List.length_cons, List.length_nil, one_w32, one_w8, one_nI, one_nU, one_str, one_bool, one_int, one_slice, refy_sv, refy_bp, refy_agg, refy_val, refy_kp, refy_tsl, cl_len] <;> omega) | decide) only [go_sem, ↓reduceIte, Nat.reduceEqDiff, reduceCtorEq, Nat.reduceLT, Nat.reduceBEq, Nat.reduceAdd, Nat.reduceSub, Nat.reduceMul, Nat.reduceMod, Int.reduceMod, Int.reduceToNat, Int.reduceNeg]
      refine ⟨(q / 256, ds ++ [UInt8.ofNat (q % 256)]), ⟨⟨by have := Nat.div_le_self q 256; simp only []; omega, by simp only [] at hds ⊢; rw [← hds, le_pos q (by omega)]; simp⟩, by have : q / 256 < q := Nat.div_lt_self (by omega) (by decide); exact this⟩, ?_, rfl⟩
      (simp only [Le_nil, Le_cons, ↓A_cons, ↓reduceIte, Nat.reduceEqDiff, reduceCtorEq, CLe_refl, CLe_top, CLe_full, CLe_nil, CLe_own, and_true, true_and]; all_goals (repeat' first | exact CLe.refl _ | exact True.intro | (refine CLe_sln ?_; first | with_reducible rfl | (simp only [List.take_zero]; done) | (rfl; done)) | exact CLe_nI (by omega) | exact CLe_int (by omega) | exact CLe_inI (by omega) | exact CLe_nIi (by omega) | with_reducible apply And.intro))
      all_goals exact CLe.refl _
    ·
      clear hT hF KT KF
      obtain rfl : q = 0 := by omega
      rw [le_zero, List.append_nil] at hds
      subst hds
      clear hq hdl
      refine Tr.exit ?_
      refine hK6 _ ?_
      clear hK7 K7 hK6 K6
      refine Tr.kp [0, 4] ?_
      simp only [pk_cons, pk_nil, ↓A_cons, ↓reduceIte, Nat.reduceEqDiff, reduceCtorEq]
      refine Tr.seqK fun K10 hK10 => ?_
      -- region 8 (ref.go:19)
      refine Tr.rg hcx [1000025] _ [] rfl rfl rfl ?_
      simp -implicitDefEqProofs (maxSteps := 2000000) (disch := first | omega | (simp only [List.length_append, List.length_replicate, List.length_set, List.length_drop, List.length_take, List.length_cons, List.length_nil, one_w32, one_w8, one_nI, one_nU, one_str, one_bool, one_int, one_slice, refy_sv, refy_bp, refy_agg, refy_val, refy_kp, refy_tsl, cl_len] <;> omega) | decide) only [go_sem, ↓reduceIte, Nat.reduceEqDiff, reduceCtorEq, Nat.reduceLT, Nat.reduceBEq, Nat.reduceAdd, Nat.reduceSub, Nat.reduceMul, Nat.reduceMod, Int.reduceMod, Int.reduceToNat, Int.reduceNeg]
      refine hK10 _ ?_
      clear hK10 K10
      refine Tr.kp [0, 4, 5] ?_
      simp only [pk_cons, pk_nil, ↓A_cons, ↓reduceIte, Nat.reduceEqDiff, reduceCtorEq]
      refine Tr.seqK fun K11 hK11 => ?_
      -- region 9 (ref.go:20)
      refine Tr.rg hcx [] _ [] rfl rfl rfl ?_
      simp -implicitDefEqProofs (maxSteps := 2000000) (disch := first | omega | (simp only [List.length_append, List.length_replicate, List.length_set, List.length_drop, List.length_take, List.length_cons, List.length_nil, one_w32, one_w8, one_nI, one_nU, one_str, one_bool, one_int, one_slice, refy_sv, refy_bp, refy_agg, refy_val, refy_kp, refy_tsl, cl_len] <;> omega) | decide) only [go_sem, ↓reduceIte, Nat.reduceEqDiff, reduceCtorEq, Nat.reduceLT, Nat.reduceBEq, Nat.reduceAdd, Nat.reduceSub, Nat.reduceMul, Nat.reduceMod, Int.reduceMod, Int.reduceToNat, Int.reduceNeg]
      refine hK11 _ ?_
      clear hK11 K11
      refine Tr.kp [0, 4, 5, 6] ?_
      simp only [pk_cons, pk_nil, ↓A_cons, ↓reduceIte, Nat.reduceEqDiff, reduceCtorEq]
      refine Tr.seqK fun K12 hK12 => ?_
      refine Tr.seqK fun K13 hK13 => ?_
      -- region 10 (ref.go:21)
      refine Tr.rg hcx [] _ [] rfl rfl rfl ?_
      simp -implicitDefEqProofs (maxSteps := 2000000) (disch := first | omega | (simp only [List.length_append, List.length_replicate, List.length_set, List.length_drop, List.length_take, List.length_cons, List.length_nil, one_w32, one_w8, one_nI, one_nU, one_str, one_bool, one_int, one_slice, refy_sv, refy_bp, refy_agg, refy_val, refy_kp, refy_tsl, cl_len] <;> omega) | decide) only [go_sem, ↓reduceIte, Nat.reduceEqDiff, reduceCtorEq, Nat.reduceLT, Nat.reduceBEq, Nat.reduceAdd, Nat.reduceSub, Nat.reduceMul, Nat.reduceMod, Int.reduceMod, Int.reduceToNat, Int.reduceNeg]
      refine hK13 _ ?_
      clear hK13 K13
      refine Tr.kp [0, 4, 5, 6, 27] ?_
      simp only [pk_cons, pk_nil, ↓A_cons, ↓reduceIte, Nat.reduceEqDiff, reduceCtorEq]
      refine Tr.condG fun KT KF hT hF => ?_
      simp only [ev_tmp, ev_const, ↓A_cons, ↓reduceIte, Nat.reduceEqDiff, reduceCtorEq, condG_bool, GB_true, GB_false, decide_eq_true_eq]
      refine GB.neg ((decide_eq_false (by omega))) (hF ?_)
      clear hT hF KT KF
      -- region 12 (ref.go:24)
      refine Tr.rg hcx [34, 1000039] _ [] rfl rfl rfl ?_
      simp -implicitDefEqProofs (maxSteps := 2000000) (disch := first | omega | (simp only [List.length_append, List.length_replicate, List.length_set, List.length_drop, List.length_take, List.length_cons, List.length_nil, one_w32, one_w8, one_nI, one_nU, one_str, one_bool, one_int, one_slice, refy_sv, refy_bp, refy_agg, refy_val, refy_kp, refy_tsl, cl_len] <;> omega) | decide) only [go_sem, ↓reduceIte, Nat.reduceEqDiff, reduceCtorEq, Nat.reduceLT, Nat.reduceBEq, Nat.reduceAdd, Nat.reduceSub, Nat.reduceMul, Nat.reduceMod, Int.reduceMod, Int.reduceToNat, Int.reduceNeg]
      refine hK12 _ ?_
      clear hK12 K12
      refine Tr.kp [0, 4, 5, 6] ?_
      simp only [pk_cons, pk_nil, ↓A_cons, ↓reduceIte, Nat.reduceEqDiff, reduceCtorEq]
      refine Tr.seqK fun K14 hK14 => ?_
      refine Tr.seqK fun K15 hK15 => ?_
      -- region 13 (ref.go:26)
      refine Tr.rg hcx [1000041] _ [] rfl rfl rfl ?_
      simp -implicitDefEqProofs (maxSteps := 2000000) (disch := first | omega | (simp only [List.length_append, List.length_replicate, List.length_set, List.length_drop, List.length_take, List.length_cons, List.length_nil, one_w32, one_w8, one_nI, one_nU, one_str, one_bool, one_int, one_slice, refy_sv, refy_bp, refy_agg, refy_val, refy_kp, refy_tsl, cl_len] <;> omega) | decide) only [go_sem, ↓reduceIte, Nat.reduceEqDiff, reduceCtorEq, Nat.reduceLT, Nat.reduceBEq, Nat.reduceAdd, Nat.reduceSub, Nat.reduceMul, Nat.reduceMod, Int.reduceMod, Int.reduceToNat, Int.reduceNeg, n_subG]
      refine hK15 _ ?_
      clear hK15 K15
      refine Tr.kp [0, 4, 6, 7] ?_
      simp only [pk_cons, pk_nil, ↓A_cons, ↓reduceIte, Nat.reduceEqDiff, reduceCtorEq]
      refine Tr.blk ?_
      refine Tr.loopI (α := Nat) (fun a => [(0, ?v0_204), (4, ?v4_204), (6, sl bC (.own 1) (UInt8.ofNat (127 - (le m).length) :: ((le m).reverse.map (fun c => UInt8.ofNat 255 - c)).take a)), (7, .val (.int .i64 (((le m).length : Int) - 1 - (a : Int))))]) (fun a => ?h_204) (fun a => a ≤ (le m).length) (fun a => (le m).length - a) (0) ?_ ?le_204 ?hh_204 ?bd_204
      case hh_204 => exact rfl
      case le_204 => (simp only [Le_nil, Le_cons, ↓A_cons, ↓reduceIte, Nat.reduceEqDiff, reduceCtorEq, CLe_refl, CLe_top, CLe_full, CLe_nil, CLe_own, and_true, true_and]; all_goals (repeat' first | exact CLe.refl _ | exact True.intro | (refine CLe_sln ?_; first | with_reducible rfl | (simp only [List.take_zero]; done) | (rfl; done)) | exact CLe_nI (by omega) | exact CLe_int (by omega) | exact CLe_inI (by omega) | exact CLe_nIi (by omega) | with_reducible apply And.intro)); all_goals first | exact CLe_slf (by simp) | exact CLe.refl _ | exact CLe_int (by omega) | exact CLe_sl (by simp)
      · omega
      case bd_204 =>
        rintro a ha
        refine Tr.seqK fun K16 hK16 => ?_
        refine Tr.seqK fun K17 hK17 => ?_
        -- region 14 (ref.go:26)
        refine Tr.rg hcx [] _ [] rfl rfl rfl ?_
        simp -implicitDefEqProofs (maxSteps := 2000000) (disch := first | omega | (simp only [List.length_append, List.length_replicate, List.length_set, List.length_drop, List.length_take, List.length_cons, List.length_nil, one_w32, one_w8, one_nI, one_nU, one_str, one_bool, one_int, one_slice, refy_sv, refy_bp, refy_agg, refy_val, refy_kp, refy_tsl, cl_len] <;> omega) | decide) only [go_sem, ↓reduceIte, Nat.reduceEqDiff, reduceCtorEq, Nat.reduceLT, Nat.reduceBEq, Nat.reduceAdd, Nat.reduceSub, Nat.reduceMul, Nat.reduceMod, Int.reduceMod, Int.reduceToNat, Int.reduceNeg]
        refine hK17 _ ?_
        clear hK17 K17
        refine Tr.kp [0, 4, 6, 7, 43] ?_
        simp only [pk_cons, pk_nil, ↓A_cons, ↓reduceIte, Nat.reduceEqDiff, reduceCtorEq]
        refine Tr.condG fun KT KF hT hF => ?_
        simp only [ev_tmp, ev_const, ↓A_cons, ↓reduceIte, Nat.reduceEqDiff, reduceCtorEq, condG_bool, GB_true, GB_false, decide_eq_true_eq]
        refine GB.dec (fun hc43 => hT ?_) (fun hc43 => hF ?_)
        ·
          clear hT hF KT KF
          refine Tr.skip ?_
          refine hK16 _ ?_
          clear hK16 K16
          refine Tr.kp [0, 4, 6, 7] ?_
          simp only [pk_cons, pk_nil, ↓A_cons, ↓reduceIte, Nat.reduceEqDiff, reduceCtorEq]
          refine Tr.seqK fun K18 hK18 => ?_
          refine Tr.blk ?_
          refine Tr.seqK fun K19 hK19 => ?_
          -- region 16 (ref.go:27)
          refine Tr.rg hcx [1000049] _ [] rfl rfl rfl ?_
          simp -implicitDefEqProofs (maxSteps := 2000000) (disch := first | omega | (simp only [List.length_append, List.length_replicate, List.length_set, List.length_drop, List.length_take, List.length_cons, List.length_nil, one_w32, one_w8, one_nI, one_nU, one_str, one_bool, one_int, one_slice, refy_sv, refy_bp, refy_agg, refy_val, refy_kp, refy_tsl, cl_len] <;> omega) | decide) only [go_sem, ↓reduceIte, Nat.reduceEqDiff, reduceCtorEq, Nat.reduceLT, Nat.reduceBEq, Nat.reduceAdd, Nat.reduceSub, Nat.reduceMul, Nat.reduceMod, Int.reduceMod, Int.reduceToNat, Int.reduceNeg]
          refine hK19 _ ?_
          clear hK19 K19
          refine Tr.kp [0, 4, 6, 7, 8] ?_
          simp only [pk_cons, pk_nil, ↓A_cons, ↓reduceIte, Nat.reduceEqDiff, reduceCtorEq]
          refine Tr.seqK fun K20 hK20 => ?_
          refine Tr.seqK fun K21 hK21 => ?_
          -- region 17 (ref.go:28)
          refine Tr.rg hcx [] _ [] rfl rfl rfl ?_
          simp -implicitDefEqProofs (maxSteps := 2000000) (disch := first | omega | (simp only [List.length_append, List.length_replicate, List.length_set, List.length_drop, List.length_take, List.length_cons, List.length_nil, one_w32, one_w8, one_nI, one_nU, one_str, one_bool, one_int, one_slice, refy_sv, refy_bp, refy_agg, refy_val, refy_kp, refy_tsl, cl_len] <;> omega) | decide) only [go_sem, ↓reduceIte, Nat.reduceEqDiff, reduceCtorEq, Nat.reduceLT, Nat.reduceBEq, Nat.reduceAdd, Nat.reduceSub, Nat.reduceMul, Nat.reduceMod, Int.reduceMod, Int.reduceToNat, Int.reduceNeg]
          refine hK21 _ ?_
          clear hK21 K21
          refine Tr.kp [0, 4, 6, 7, 8, 51] ?_
          simp only [pk_cons, pk_nil, ↓A_cons, ↓reduceIte, Nat.reduceEqDiff, reduceCtorEq]
          refine Tr.condG fun KT KF hT hF => ?_
          simp only [ev_tmp, ev_const, ↓A_cons, ↓reduceIte, Nat.reduceEqDiff, reduceCtorEq, condG_bool, GB_true, GB_false, decide_eq_true_eq]
          refine GB.pos ((decide_eq_true (by omega))) (hT ?_)
          clear hT hF KT KF
          -- region 18 (ref.go:29)
          refine Tr.rg hcx [1000053] _ [] rfl rfl rfl ?_
          simp -implicitDefEqProofs (maxSteps := 2000000) (disch := first | omega | (simp only [List.length_append, List.length_replicate, List.length_set, List.length_drop, List.length_take, List.length_cons, List.length_nil, one_w32, one_w8, one_nI, one_nU, one_str, one_bool, one_int, one_slice, refy_sv, refy_bp, refy_agg, refy_val, refy_kp, refy_tsl, cl_len] <;> omega) | decide) only [go_sem, ↓reduceIte, Nat.reduceEqDiff, reduceCtorEq, Nat.reduceLT, Nat.reduceBEq, Nat.reduceAdd, Nat.reduceSub, Nat.reduceMul, Nat.reduceMod, Int.reduceMod, Int.reduceToNat, Int.reduceNeg]
          refine hK20 _ ?_
          clear hK20 K20
          refine Tr.kp [0, 4, 6, 7, 8] ?_
          simp only [pk_cons, pk_nil, ↓A_cons, ↓reduceIte, Nat.reduceEqDiff, reduceCtorEq]
          -- region 19 (ref.go:31)
          refine Tr.rg hcx [54, 1000057] _ [] rfl rfl rfl ?_
          simp -implicitDefEqProofs (maxSteps := 2000000) (disch := first | omega | (simp only [List.length_append, List.length_replicate, List.length_set, List.length_drop, List.length_take, List.length_cons, List.length_nil, one_w32, one_w8, one_nI, one_nU, one_str, one_bool, one_int, one_slice, refy_sv, refy_bp, refy_agg, refy_val, refy_kp, refy_tsl, cl_len] <;> omega) | decide) only [go_sem, ↓reduceIte, Nat.reduceEqDiff, reduceCtorEq, Nat.reduceLT, Nat.reduceBEq, Nat.reduceAdd, Nat.reduceSub, Nat.reduceMul, Nat.reduceMod, Int.reduceMod, Int.reduceToNat, Int.reduceNeg]
          refine hK18 _ ?_
          clear hK18 K18
          refine Tr.kp [0, 4, 6, 7] ?_
          simp only [pk_cons, pk_nil, ↓A_cons, ↓reduceIte, Nat.reduceEqDiff, reduceCtorEq]
          -- region 15 (ref.go:26)
          refine Tr.rg hcx [1000045] _ [] rfl rfl rfl ?_
          simp -implicitDefEqProofs (maxSteps := 2000000) (disch := first | omega | (simp only [List.length_append, List.length_replicate, List.length_set, List.length_drop, List.length_take, List.length_cons, List.length_nil, one_w32, one_w8, one_nI, one_nU, one_str, one_bool, one_int, one_slice, refy_sv, refy_bp, refy_agg, refy_val, refy_kp, refy_tsl, cl_len] <;> omega) | decide) only [go_sem, ↓reduceIte, Nat.reduceEqDiff, reduceCtorEq, Nat.reduceLT, Nat.reduceBEq, Nat.reduceAdd, Nat.reduceSub, Nat.reduceMul, Nat.reduceMod, Int.reduceMod, Int.reduceToNat, Int.reduceNeg]
          refine ⟨a + 1, ⟨by omega, by first | omega | (simp only []; omega)⟩, ?_, rfl⟩
          (simp only [Le_nil, Le_cons, ↓A_cons, ↓reduceIte, Nat.reduceEqDiff, reduceCtorEq, CLe_refl, CLe_top, CLe_full, CLe_nil, CLe_own, and_true, true_and]; all_goals (repeat' first | exact CLe.refl _ | exact True.intro | (refine CLe_sln ?_; first | with_reducible rfl | (simp only [List.take_zero]; done) | (rfl; done)) | exact CLe_nI (by omega) | exact CLe_int (by omega) | exact CLe_inI (by omega) | exact CLe_nIi (by omega) | with_reducible apply And.intro))
          all_goals first | exact CLe.refl _ | exact CLe_int (by omega) | (refine CLe_sl ?_; rw [← rI_next (le m) _ a (by omega), show (((le m).length : Int) - 1 - (a : Int)).toNat = (le m).length - 1 - a by omega]; try rfl)
        ·
          clear hT hF KT KF
          obtain rfl : a = (le m).length := by omega
          refine Tr.exit ?_
          refine hK14 _ ?_
          clear hK16 K16 hK14 K14
          refine Tr.kp [6] ?_
          simp only [pk_cons, pk_nil, ↓A_cons, ↓reduceIte, Nat.reduceEqDiff, reduceCtorEq]
          refine Tr.seqK fun K22 hK22 => ?_
          -- region 20 (ref.go:33)
          refine Tr.rg hcx [1000058] _ [] rfl rfl rfl ?_
          simp -implicitDefEqProofs (maxSteps := 2000000) (disch := first | omega | (simp only [List.length_append, List.length_replicate, List.length_set, List.length_drop, List.length_take, List.length_cons, List.length_nil, one_w32, one_w8, one_nI, one_nU, one_str, one_bool, one_int, one_slice, refy_sv, refy_bp, refy_agg, refy_val, refy_kp, refy_tsl, cl_len] <;> omega) | decide) only [go_sem, ↓reduceIte, Nat.reduceEqDiff, reduceCtorEq, Nat.reduceLT, Nat.reduceBEq, Nat.reduceAdd, Nat.reduceSub, Nat.reduceMul, Nat.reduceMod, Int.reduceMod, Int.reduceToNat, Int.reduceNeg]
          refine hK22 _ ?_
          clear hK22 K22
          refine Tr.kp [2] ?_
          simp only [pk_cons, pk_nil, ↓A_cons, ↓reduceIte, Nat.reduceEqDiff, reduceCtorEq]
          refine Tr.ret ?_
          simp -implicitDefEqProofs (disch := first | omega | (simp only [List.length_append, List.length_replicate, List.length_set, List.length_drop, List.length_take, List.length_cons, List.length_nil, one_w32, one_w8, one_nI, one_nU, one_str, one_bool, one_int, one_slice, refy_sv, refy_bp, refy_agg, refy_val, refy_kp, refy_tsl, cl_len] <;> omega) | decide) only [go_sem, thenQ_n, thenQ_x, thenQ_r, blockQ_n, blockQ_r, EndsR_r, EndsR_n, resL_one, resC_tmp, resC_cell, rcP_int, rcP_bool, rcP_str, rcP_sl, rcP_arr, rcP_struct, ↓reduceIte, Nat.reduceEqDiff, reduceCtorEq]
          all_goals (rw [List.take_of_length_le (by simp)]; rw [← wint_neg m hk8]; unfold wint; rw [if_neg (by omega), show (-1 - (-1 - (m : Int))).toNat = m by omega]; rfl)

set_option maxRecDepth 100000 in
set_option maxHeartbeats 8000000 in
theorem fc33 {gl : Nat → C} {M : Nat} {pu : Nat → List C → Option C} (hcx : CxOK (cxP gl M pu)) (h38 : ∀ m : Nat, m < 9223372036854775808 → pu 38 [.val (nI m)] = some (sl bC (.own 1) (wI m 0))) (s : List UInt8) (hs : s.length < 70368744177664) : FC Tryd.prog gl 33 [.val (str s)] [] (sl bC (.own 1) (wb s)) [] := by
  replace hcx := hcx.reN (M := 8)
  refine FC.ofA (cx := cxP gl 8 pu) (rs := [.tmp 2]) rfl Tryd.func33 rfl rfl rfl (by simp only [List.length_cons, List.length_nil]; decide) (by simp only [noRef_val, noRef_agg, noRef_tup, noRef_kp, noRef_sl, noRefs_cl, noRefs_cons, noRefs_nil, noRefs_app, Bool.and_self, Bool.and_true]) ?_
  simp only [ini, noR_val, noR_val, noR_full, noR_no, noR_owns, noR_sv, noR_bp, noR_kp, noR_agg, noR_tup, noR_fn, noR_top, noR_slno, noR_slfull, noR_slown]
  have hk8 : (wI s.length 0).length ≤ 9 := by have := le_len 8 s.length (by omega); simp [wI, be_len]; omega
  refine Tr.seqK fun K1 hK1 => ?_
  -- region 0 (wire.go:77)
  refine Tr.rg hcx [] _ [] rfl rfl rfl ?_
  simp -implicitDefEqProofs (maxSteps := 2000000) (disch := first | omega | (simp only [List.length_append, List.length_replicate, List.length_set, List.length_drop, List.length_take, List.length_cons, List.length_nil, one_w32, one_w8, one_nI, one_nU, one_str, one_bool, one_int, one_slice, refy_sv, refy_bp, refy_agg, refy_val, refy_kp, refy_tsl, cl_len] <;> omega) | decide) only [go_sem, ↓reduceIte, Nat.reduceEqDiff, reduceCtorEq, Nat.reduceLT, Nat.reduceBEq, Nat.reduceAdd, Nat.reduceSub, Nat.reduceMul, Nat.reduceMod, Int.reduceMod, Int.reduceToNat, Int.reduceNeg, h38]
  refine hK1 _ ?_
  clear hK1 K1
  refine Tr.kp [0] ?_
  simp only [pk_cons, pk_nil, ↓A_cons, ↓reduceIte, Nat.reduceEqDiff, reduceCtorEq]
  refine Tr.seqK fun K2 hK2 => ?_
  -- region 1 (wire.go:77)
  refine Tr.rg hcx [5, 1000007] _ [] rfl rfl rfl ?_
  simp -implicitDefEqProofs (maxSteps := 2000000) (disch := first | omega | (simp only [List.length_append, List.length_replicate, List.length_set, List.length_drop, List.length_take, List.length_cons, List.length_nil, one_w32, one_w8, one_nI, one_nU, one_str, one_bool, one_int, one_slice, refy_sv, refy_bp, refy_agg, refy_val, refy_kp, refy_tsl, cl_len] <;> omega) | decide) only [go_sem, ↓reduceIte, Nat.reduceEqDiff, reduceCtorEq, Nat.reduceLT, Nat.reduceBEq, Nat.reduceAdd, Nat.reduceSub, Nat.reduceMul, Nat.reduceMod, Int.reduceMod, Int.reduceToNat, Int.reduceNeg, h38]
  refine hK2 _ ?_
  clear hK2 K2
  refine Tr.kp [2] ?_
  simp only [pk_cons, pk_nil, ↓A_cons, ↓reduceIte, Nat.reduceEqDiff, reduceCtorEq]
  refine Tr.ret ?_
  simp -implicitDefEqProofs (disch := first | omega | (simp only [List.length_append, List.length_replicate, List.length_set, List.length_drop, List.length_take, List.length_cons, List.length_nil, one_w32, one_w8, one_nI, one_nU, one_str, one_bool, one_int, one_slice, refy_sv, refy_bp, refy_agg, refy_val, refy_kp, refy_tsl, cl_len] <;> omega) | decide) only [go_sem, thenQ_n, thenQ_x, thenQ_r, blockQ_n, blockQ_r, EndsR_r, EndsR_n, resL_one, resC_tmp, resC_cell, rcP_int, rcP_bool, rcP_str, rcP_sl, rcP_arr, rcP_struct, ↓reduceIte, Nat.reduceEqDiff, reduceCtorEq]
  all_goals (unfold wb; rw [wint_pos])

set_option maxRecDepth 100000 in
set_option maxHeartbeats 8000000 in
theorem fc35 {gl : Nat → C} {M : Nat} {pu : Nat → List C → Option C} (hcx : CxOK (cxP gl M pu)) (h39 : ∀ m : Nat, m < 9223372036854775808 → pu 39 [.val (nI m)] = some (sl bC (.own 1) (wI m 0))) (s : List UInt8) (hs : s.length < 70368744177664) : FC Tryd.prog gl 35 [.val (str s)] [] (sl bC (.own 1) (wb s)) [] := by
  replace hcx := hcx.reN (M := 9)
  refine FC.ofA (cx := cxP gl 9 pu) (rs := [.tmp 2]) rfl Tryd.func35 rfl rfl rfl (by simp only [List.length_cons, List.length_nil]; decide) (by simp only [noRef_val, noRef_agg, noRef_tup, noRef_kp, noRef_sl, noRefs_cl, noRefs_cons, noRefs_nil, noRefs_app, Bool.and_self, Bool.and_true]) ?_
  simp only [ini, noR_val, noR_val, noR_full, noR_no, noR_owns, noR_sv, noR_bp, noR_kp, noR_agg, noR_tup, noR_fn, noR_top, noR_slno, noR_slfull, noR_slown]
  have hk8 : (wI s.length 0).length ≤ 9 := by have := le_len 8 s.length (by omega); simp [wI, be_len]; omega
  refine Tr.seqK fun K1 hK1 => ?_
  -- region 0 (ref.go:87)
  refine Tr.rg hcx [] _ [] rfl rfl rfl ?_
  simp -implicitDefEqProofs (maxSteps := 2000000) (disch := first | omega | (simp only [List.length_append, List.length_replicate, List.length_set, List.length_drop, List.length_take, List.length_cons, List.length_nil, one_w32, one_w8, one_nI, one_nU, one_str, one_bool, one_int, one_slice, refy_sv, refy_bp, refy_agg, refy_val, refy_kp, refy_tsl, cl_len] <;> omega) | decide) only [go_sem, ↓reduceIte, Nat.reduceEqDiff, reduceCtorEq, Nat.reduceLT, Nat.reduceBEq, Nat.reduceAdd, Nat.reduceSub, Nat.reduceMul, Nat.reduceMod, Int.reduceMod, Int.reduceToNat, Int.reduceNeg, h39]
  refine hK1 _ ?_
  clear hK1 K1
  refine Tr.kp [0] ?_
  simp only [pk_cons, pk_nil, ↓A_cons, ↓reduceIte, Nat.reduceEqDiff, reduceCtorEq]
  refine Tr.seqK fun K2 hK2 => ?_
  -- region 1 (ref.go:87)
  refine Tr.rg hcx [5, 1000008] _ [] rfl rfl rfl ?_
  simp -implicitDefEqProofs (maxSteps := 2000000) (disch := first | omega | (simp only [List.length_append, List.length_replicate, List.length_set, List.length_drop, List.length_take, List.length_cons, List.length_nil, one_w32, one_w8, one_nI, one_nU, one_str, one_bool, one_int, one_slice, refy_sv, refy_bp, refy_agg, refy_val, refy_kp, refy_tsl, cl_len] <;> omega) | decide) only [go_sem, ↓reduceIte, Nat.reduceEqDiff, reduceCtorEq, Nat.reduceLT, Nat.reduceBEq, Nat.reduceAdd, Nat.reduceSub, Nat.reduceMul, Nat.reduceMod, Int.reduceMod, Int.reduceToNat, Int.reduceNeg, h39]
  refine hK2 _ ?_
  clear hK2 K2
  refine Tr.kp [2] ?_
  simp only [pk_cons, pk_nil, ↓A_cons, ↓reduceIte, Nat.reduceEqDiff, reduceCtorEq]
  refine Tr.ret ?_
  simp -implicitDefEqProofs (disch := first | omega | (simp only [List.length_append, List.length_replicate, List.length_set, List.length_drop, List.length_take, List.length_cons, List.length_nil, one_w32, one_w8, one_nI, one_nU, one_str, one_bool, one_int, one_slice, refy_sv, refy_bp, refy_agg, refy_val, refy_kp, refy_tsl, cl_len] <;> omega) | decide) only [go_sem, thenQ_n, thenQ_x, thenQ_r, blockQ_n, blockQ_r, EndsR_r, EndsR_n, resL_one, resC_tmp, resC_cell, rcP_int, rcP_bool, rcP_str, rcP_sl, rcP_arr, rcP_struct, ↓reduceIte, Nat.reduceEqDiff, reduceCtorEq]
  all_goals (unfold wb; rw [wint_pos])

end Go.Sx

namespace Go.Sx
open Go.RowKit Go.Proofs


set_option maxRecDepth 100000 in
set_option maxHeartbeats 8000000 in
theorem fc13 {gl : Nat → C} {M : Nat} {pu : Nat → List C → Option C} (hcx : CxOK (cxP gl M pu)) (l : List (List UInt8)) : FC Tryd.prog gl 13 [sl sC .no l] [] (.val (.bool (few l))) [] := by
  replace hcx := hcx.reN (M := 19)
  refine FC.ofA (cx := cxP gl 19 pu) (rs := [.tmp 2]) rfl Tryd.func13 rfl rfl rfl (by simp only [List.length_cons, List.length_nil]; decide) (by simp only [noRef_val, noRef_agg, noRef_tup, noRef_kp, noRef_sl, noRefs_cl, noRefs_cons, noRefs_nil, noRefs_app, Bool.and_self, Bool.and_true]) ?_
  simp only [ini, noR_val, noR_val, noR_full, noR_no, noR_owns, noR_sv, noR_bp, noR_kp, noR_agg, noR_tup, noR_fn, noR_top, noR_slno, noR_slfull, noR_slown]
  refine Tr.seqK fun K1 hK1 => ?_
  -- region 0 (ref.go:156)
  refine Tr.rg hcx [] _ [] rfl rfl rfl ?_
  simp -implicitDefEqProofs (maxSteps := 2000000) (disch := first | omega | (simp only [List.length_append, List.length_replicate, List.length_set, List.length_drop, List.length_take, List.length_cons, List.length_nil, one_w32, one_w8, one_nI, one_nU, one_str, one_bool, one_int, one_slice, refy_sv, refy_bp, refy_agg, refy_val, refy_kp, refy_tsl, cl_len] <;> omega) | decide) only [go_sem, ↓reduceIte, Nat.reduceEqDiff, reduceCtorEq, Nat.reduceLT, Nat.reduceBEq, Nat.reduceAdd, Nat.reduceSub, Nat.reduceMul, Nat.reduceMod, Int.reduceMod, Int.reduceToNat, Int.reduceNeg]
  refine hK1 _ ?_
  clear hK1 K1
  refine Tr.kp [0] ?_
  simp only [pk_cons, pk_nil, ↓A_cons, ↓reduceIte, Nat.reduceEqDiff, reduceCtorEq]
  refine Tr.seqK fun K2 hK2 => ?_
  refine Tr.seqK fun K3 hK3 => ?_
  -- region 1 (ref.go:157)
  refine Tr.rg hcx [] _ [] rfl rfl rfl ?_
  simp -implicitDefEqProofs (maxSteps := 2000000) (disch := first | omega | (simp only [List.length_append, List.length_replicate, List.length_set, List.length_drop, List.length_take, List.length_cons, List.length_nil, one_w32, one_w8, one_nI, one_nU, one_str, one_bool, one_int, one_slice, refy_sv, refy_bp, refy_agg, refy_val, refy_kp, refy_tsl, cl_len] <;> omega) | decide) only [go_sem, ↓reduceIte, Nat.reduceEqDiff, reduceCtorEq, Nat.reduceLT, Nat.reduceBEq, Nat.reduceAdd, Nat.reduceSub, Nat.reduceMul, Nat.reduceMod, Int.reduceMod, Int.reduceToNat, Int.reduceNeg]
  refine hK3 _ ?_
  clear hK3 K3
  refine Tr.kp [0, 6] ?_
  simp only [pk_cons, pk_nil, ↓A_cons, ↓reduceIte, Nat.reduceEqDiff, reduceCtorEq]
  refine Tr.condG fun KT KF hT hF => ?_
  simp only [ev_tmp, ev_const, ↓A_cons, ↓reduceIte, Nat.reduceEqDiff, reduceCtorEq, condG_bool, GB_true, GB_false, decide_eq_true_eq]
  refine GB.dec (fun hc6 => hT ?_) (fun hc6 => hF ?_)
  ·
    clear hT hF KT KF
    refine Tr.seqK fun K4 hK4 => ?_
    -- region 2 (ref.go:158)
    refine Tr.rg hcx [] _ [] rfl rfl rfl ?_
    simp -implicitDefEqProofs (maxSteps := 2000000) (disch := first | omega | (simp only [List.length_append, List.length_replicate, List.length_set, List.length_drop, List.length_take, List.length_cons, List.length_nil, one_w32, one_w8, one_nI, one_nU, one_str, one_bool, one_int, one_slice, refy_sv, refy_bp, refy_agg, refy_val, refy_kp, refy_tsl, cl_len] <;> omega) | decide) only [go_sem, ↓reduceIte, Nat.reduceEqDiff, reduceCtorEq, Nat.reduceLT, Nat.reduceBEq, Nat.reduceAdd, Nat.reduceSub, Nat.reduceMul, Nat.reduceMod, Int.reduceMod, Int.reduceToNat, Int.reduceNeg]
    refine hK4 _ ?_
    clear hK4 K4
    refine Tr.kp [2] ?_
    simp only [pk_cons, pk_nil, ↓A_cons, ↓reduceIte, Nat.reduceEqDiff, reduceCtorEq]
    refine Tr.ret ?_
    simp -implicitDefEqProofs (disch := first | omega | (simp only [List.length_append, List.length_replicate, List.length_set, List.length_drop, List.length_take, List.length_cons, List.length_nil, one_w32, one_w8, one_nI, one_nU, one_str, one_bool, one_int, one_slice, refy_sv, refy_bp, refy_agg, refy_val, refy_kp, refy_tsl, cl_len] <;> omega) | decide) only [go_sem, thenQ_n, thenQ_x, thenQ_r, blockQ_n, blockQ_r, EndsR_r, EndsR_n, resL_one, resC_tmp, resC_cell, rcP_int, rcP_bool, rcP_str, rcP_sl, rcP_arr, rcP_struct, ↓reduceIte, Nat.reduceEqDiff, reduceCtorEq]
    all_goals (first | rw [few_no1 l hc6] | rw [few_no2 l i hc10 hc18] | rw [few_yes l hc6 (fun j hj => hA j (by omega))])
  ·
    clear hT hF KT KF
    refine Tr.skip ?_
    refine hK2 _ ?_
    clear hK2 K2
    refine Tr.kp [0] ?_
    simp only [pk_cons, pk_nil, ↓A_cons, ↓reduceIte, Nat.reduceEqDiff, reduceCtorEq]
    refine Tr.seqK fun K5 hK5 => ?_
    refine Tr.seqK fun K6 hK6 => ?_
    -- region 3 (ref.go:160)
    refine Tr.rg hcx [] _ [] rfl rfl rfl ?_
    simp -implicitDefEqProofs (maxSteps := 2000000) (disch := first | omega | (simp only [List.length_append, List.length_replicate, List.length_set, List.length_drop, List.length_take, List.length_cons, List.length_nil, one_w32, one_w8, one_nI, one_nU, one_str, one_bool, one_int, one_slice, refy_sv, refy_bp, refy_agg, refy_val, refy_kp, refy_tsl, cl_len] <;> omega) | decide) only [go_sem, ↓reduceIte, Nat.reduceEqDiff, reduceCtorEq, Nat.reduceLT, Nat.reduceBEq, Nat.reduceAdd, Nat.reduceSub, Nat.reduceMul, Nat.reduceMod, Int.reduceMod, Int.reduceToNat, Int.reduceNeg]
    refine hK6 _ ?_
    clear hK6 K6
    refine Tr.kp [0, 3] ?_
    simp only [pk_cons, pk_nil, ↓A_cons, ↓reduceIte, Nat.reduceEqDiff, reduceCtorEq]
    refine Tr.blk ?_
    refine Tr.loopI (α := Nat) (fun a => [(0, ?v0_14), (3, .val (nI a))]) (fun a => ?h_14) (fun a => a ≤ l.length ∧ ∀ j < a, ¬ 400 < (gt l j).length) (fun a => l.length - a) (0) ?_ ?le_14 ?hh_14 ?bd_14
    case hh_14 => exact rfl
    case le_14 => (simp only [Le_nil, Le_cons, ↓A_cons, ↓reduceIte, Nat.reduceEqDiff, reduceCtorEq, CLe_refl, CLe_top, CLe_full, CLe_nil, CLe_own, and_true, true_and]; all_goals (repeat' first | exact CLe.refl _ | exact True.intro | (refine CLe_sln ?_; first | with_reducible rfl | (simp only [List.take_zero]; done) | (rfl; done)) | exact CLe_nI (by omega) | exact CLe_int (by omega) | exact CLe_inI (by omega) | exact CLe_nIi (by omega) | with_reducible apply And.intro))
    · exact ⟨by omega, by omega⟩
    case bd_14 =>
      rintro i ⟨hi, hA⟩
      refine Tr.seqK fun K7 hK7 => ?_
      refine Tr.seqK fun K8 hK8 => ?_
      -- region 4 (ref.go:160)
      refine Tr.rg hcx [] _ [] rfl rfl rfl ?_
      simp -implicitDefEqProofs (maxSteps := 2000000) (disch := first | omega | (simp only [List.length_append, List.length_replicate, List.length_set, List.length_drop, List.length_take, List.length_cons, List.length_nil, one_w32, one_w8, one_nI, one_nU, one_str, one_bool, one_int, one_slice, refy_sv, refy_bp, refy_agg, refy_val, refy_kp, refy_tsl, cl_len] <;> omega) | decide) only [go_sem, ↓reduceIte, Nat.reduceEqDiff, reduceCtorEq, Nat.reduceLT, Nat.reduceBEq, Nat.reduceAdd, Nat.reduceSub, Nat.reduceMul, Nat.reduceMod, Int.reduceMod, Int.reduceToNat, Int.reduceNeg]
      refine hK8 _ ?_
      clear hK8 K8
      refine Tr.kp [0, 3, 10] ?_
      simp only [pk_cons, pk_nil, ↓A_cons, ↓reduceIte, Nat.reduceEqDiff, reduceCtorEq]
      refine Tr.condG fun KT KF hT hF => ?_
      simp only [ev_tmp, ev_const, ↓A_cons, ↓reduceIte, Nat.reduceEqDiff, reduceCtorEq, condG_bool, GB_true, GB_false, decide_eq_true_eq]
      refine GB.dec (fun hc10 => hT ?_) (fun hc10 => hF ?_)
      ·
        clear hT hF KT KF
        refine Tr.skip ?_
        refine hK7 _ ?_
        clear hK7 K7
        refine Tr.kp [0, 3] ?_
        simp only [pk_cons, pk_nil, ↓A_cons, ↓reduceIte, Nat.reduceEqDiff, reduceCtorEq]
        refine Tr.seqK fun K9 hK9 => ?_
        refine Tr.blk ?_
        refine Tr.seqK fun K10 hK10 => ?_
        -- region 6 (ref.go:161)
        refine Tr.rg hcx [] _ [] rfl rfl rfl ?_
        simp -implicitDefEqProofs (maxSteps := 2000000) (disch := first | omega | (simp only [List.length_append, List.length_replicate, List.length_set, List.length_drop, List.length_take, List.length_cons, List.length_nil, one_w32, one_w8, one_nI, one_nU, one_str, one_bool, one_int, one_slice, refy_sv, refy_bp, refy_agg, refy_val, refy_kp, refy_tsl, cl_len] <;> omega) | decide) only [go_sem, ↓reduceIte, Nat.reduceEqDiff, reduceCtorEq, Nat.reduceLT, Nat.reduceBEq, Nat.reduceAdd, Nat.reduceSub, Nat.reduceMul, Nat.reduceMod, Int.reduceMod, Int.reduceToNat, Int.reduceNeg]
        refine hK10 _ ?_
        clear hK10 K10
        refine Tr.kp [0, 3, 18] ?_
        simp only [pk_cons, pk_nil, ↓A_cons, ↓reduceIte, Nat.reduceEqDiff, reduceCtorEq]
        refine Tr.condG fun KT KF hT hF => ?_
        simp only [ev_tmp, ev_const, ↓A_cons, ↓reduceIte, Nat.reduceEqDiff, reduceCtorEq, condG_bool, GB_true, GB_false, decide_eq_true_eq]
        refine GB.dec (fun hc18 => hT ?_) (fun hc18 => hF ?_)
        ·
          clear hT hF KT KF
          refine Tr.seqK fun K11 hK11 => ?_
          -- region 7 (ref.go:162)
          refine Tr.rg hcx [] _ [] rfl rfl rfl ?_
          simp -implicitDefEqProofs (maxSteps := 2000000) (disch := first | omega | (simp only [List.length_append, List.length_replicate, List.length_set, List.length_drop, List.length_take, List.length_cons, List.length_nil, one_w32, one_w8, one_nI, one_nU, one_str, one_bool, one_int, one_slice, refy_sv, refy_bp, refy_agg, refy_val, refy_kp, refy_tsl, cl_len] <;> omega) | decide) only [go_sem, ↓reduceIte, Nat.reduceEqDiff, reduceCtorEq, Nat.reduceLT, Nat.reduceBEq, Nat.reduceAdd, Nat.reduceSub, Nat.reduceMul, Nat.reduceMod, Int.reduceMod, Int.reduceToNat, Int.reduceNeg]
          refine hK11 _ ?_
          clear hK11 K11
          refine Tr.kp [2] ?_
          simp only [pk_cons, pk_nil, ↓A_cons, ↓reduceIte, Nat.reduceEqDiff, reduceCtorEq]
          refine Tr.ret ?_
          simp -implicitDefEqProofs (disch := first | omega | (simp only [List.length_append, List.length_replicate, List.length_set, List.length_drop, List.length_take, List.length_cons, List.length_nil, one_w32, one_w8, one_nI, one_nU, one_str, one_bool, one_int, one_slice, refy_sv, refy_bp, refy_agg, refy_val, refy_kp, refy_tsl, cl_len] <;> omega) | decide) only [go_sem, thenQ_n, thenQ_x, thenQ_r, blockQ_n, blockQ_r, EndsR_r, EndsR_n, resL_one, resC_tmp, resC_cell, rcP_int, rcP_bool, rcP_str, rcP_sl, rcP_arr, rcP_struct, ↓reduceIte, Nat.reduceEqDiff, reduceCtorEq]
          all_goals (first | rw [few_no1 l hc6] | rw [few_no2 l i hc10 hc18] | rw [few_yes l hc6 (fun j hj => hA j (by omega))])
        ·
          clear hT hF KT KF
          refine Tr.skip ?_
          refine hK9 _ ?_
          clear hK9 K9
          refine Tr.kp [0, 3] ?_
          simp only [pk_cons, pk_nil, ↓A_cons, ↓reduceIte, Nat.reduceEqDiff, reduceCtorEq]
          -- region 5 (ref.go:160)
          refine Tr.rg hcx [1000012] _ [] rfl rfl rfl ?_
          simp -implicitDefEqProofs (maxSteps := 2000000) (disch := first | omega | (simp only [List.length_append, List.length_replicate, List.length_set, List.length_drop, List.length_take, List.length_cons, List.length_nil, one_w32, one_w8, one_nI, one_nU, one_str, one_bool, one_int, one_slice, refy_sv, refy_bp, refy_agg, refy_val, refy_kp, refy_tsl, cl_len] <;> omega) | decide) only [go_sem, ↓reduceIte, Nat.reduceEqDiff, reduceCtorEq, Nat.reduceLT, Nat.reduceBEq, Nat.reduceAdd, Nat.reduceSub, Nat.reduceMul, Nat.reduceMod, Int.reduceMod, Int.reduceToNat, Int.reduceNeg]
          refine ⟨i + 1, ⟨⟨by omega, fun j hj => by rcases (show j < i ∨ j = i by omega) with h | rfl; exact hA j h; exact hc18⟩, by first | omega | (simp only []; omega)⟩, ?_, rfl⟩
          (simp only [Le_nil, Le_cons, ↓A_cons, ↓reduceIte, Nat.reduceEqDiff, reduceCtorEq, CLe_refl, CLe_top, CLe_full, CLe_nil, CLe_own, and_true, true_and]; all_goals (repeat' first | exact CLe.refl _ | exact True.intro | (refine CLe_sln ?_; first | with_reducible rfl | (simp only [List.take_zero]; done) | (rfl; done)) | exact CLe_nI (by omega) | exact CLe_int (by omega) | exact CLe_inI (by omega) | exact CLe_nIi (by omega) | with_reducible apply And.intro))
      ·
        clear hT hF KT KF
        refine Tr.exit ?_
        refine hK5 _ ?_
        clear hK7 K7 hK5 K5
        refine Tr.kp [] ?_
        simp only [pk_cons, pk_nil, ↓A_cons, ↓reduceIte, Nat.reduceEqDiff, reduceCtorEq]
        refine Tr.seqK fun K12 hK12 => ?_
        -- region 8 (ref.go:165)
        refine Tr.rg hcx [] _ [] rfl rfl rfl ?_
        simp -implicitDefEqProofs (maxSteps := 2000000) (disch := first | omega | (simp only [List.length_append, List.length_replicate, List.length_set, List.length_drop, List.length_take, List.length_cons, List.length_nil, one_w32, one_w8, one_nI, one_nU, one_str, one_bool, one_int, one_slice, refy_sv, refy_bp, refy_agg, refy_val, refy_kp, refy_tsl, cl_len] <;> omega) | decide) only [go_sem, ↓reduceIte, Nat.reduceEqDiff, reduceCtorEq, Nat.reduceLT, Nat.reduceBEq, Nat.reduceAdd, Nat.reduceSub, Nat.reduceMul, Nat.reduceMod, Int.reduceMod, Int.reduceToNat, Int.reduceNeg]
        refine hK12 _ ?_
        clear hK12 K12
        refine Tr.kp [2] ?_
        simp only [pk_cons, pk_nil, ↓A_cons, ↓reduceIte, Nat.reduceEqDiff, reduceCtorEq]
        refine Tr.ret ?_
        simp -implicitDefEqProofs (disch := first | omega | (simp only [List.length_append, List.length_replicate, List.length_set, List.length_drop, List.length_take, List.length_cons, List.length_nil, one_w32, one_w8, one_nI, one_nU, one_str, one_bool, one_int, one_slice, refy_sv, refy_bp, refy_agg, refy_val, refy_kp, refy_tsl, cl_len] <;> omega) | decide) only [go_sem, thenQ_n, thenQ_x, thenQ_r, blockQ_n, blockQ_r, EndsR_r, EndsR_n, resL_one, resC_tmp, resC_cell, rcP_int, rcP_bool, rcP_str, rcP_sl, rcP_arr, rcP_struct, ↓reduceIte, Nat.reduceEqDiff, reduceCtorEq]
        all_goals (first | rw [few_no1 l hc6] | rw [few_no2 l i hc10 hc18] | rw [few_yes l hc6 (fun j hj => hA j (by omega))])

set_option maxRecDepth 100000 in
set_option maxHeartbeats 8000000 in
theorem fc16 {gl : Nat → C} {M : Nat} {pu : Nat → List C → Option C} (hcx : CxOK (cxP gl M pu)) (l : List (List UInt8)) (hl : l.length < 4611686018427387904 ∧ l.flatten.length < 4611686018427387904) : FC Tryd.prog gl 16 [sl sC .no l] [] (.val (str l.flatten)) [] := by
  replace hcx := hcx.reN (M := 18)
  refine FC.ofA (cx := cxP gl 18 pu) (rs := [.tmp 2]) rfl Tryd.func16 rfl rfl rfl (by simp only [List.length_cons, List.length_nil]; decide) (by simp only [noRef_val, noRef_agg, noRef_tup, noRef_kp, noRef_sl, noRefs_cl, noRefs_cons, noRefs_nil, noRefs_app, Bool.and_self, Bool.and_true]) ?_
  simp only [ini, noR_val, noR_val, noR_full, noR_no, noR_owns, noR_sv, noR_bp, noR_kp, noR_agg, noR_tup, noR_fn, noR_top, noR_slno, noR_slfull, noR_slown]
  have hb1 := True.intro
  refine Tr.seqK fun K1 hK1 => ?_
  -- region 0 (ref.go:81)
  refine Tr.rg hcx [] _ [] rfl rfl rfl ?_
  simp -implicitDefEqProofs (maxSteps := 2000000) (disch := first | omega | (simp only [List.length_append, List.length_replicate, List.length_set, List.length_drop, List.length_take, List.length_cons, List.length_nil, one_w32, one_w8, one_nI, one_nU, one_str, one_bool, one_int, one_slice, refy_sv, refy_bp, refy_agg, refy_val, refy_kp, refy_tsl, cl_len, hb1] <;> omega) | decide) only [go_sem, ↓reduceIte, Nat.reduceEqDiff, reduceCtorEq, Nat.reduceLT, Nat.reduceBEq, Nat.reduceAdd, Nat.reduceSub, Nat.reduceMul, Nat.reduceMod, Int.reduceMod, Int.reduceToNat, Int.reduceNeg]
  refine hK1 _ ?_
  clear hK1 K1
  refine Tr.kp [0] ?_
  simp only [pk_cons, pk_nil, ↓A_cons, ↓reduceIte, Nat.reduceEqDiff, reduceCtorEq]
  refine Tr.seqK fun K2 hK2 => ?_
  -- region 1 (ref.go:82)
  refine Tr.rg hcx [] _ [] rfl rfl rfl ?_
  simp -implicitDefEqProofs (maxSteps := 2000000) (disch := first | omega | (simp only [List.length_append, List.length_replicate, List.length_set, List.length_drop, List.length_take, List.length_cons, List.length_nil, one_w32, one_w8, one_nI, one_nU, one_str, one_bool, one_int, one_slice, refy_sv, refy_bp, refy_agg, refy_val, refy_kp, refy_tsl, cl_len, hb1] <;> omega) | decide) only [go_sem, ↓reduceIte, Nat.reduceEqDiff, reduceCtorEq, Nat.reduceLT, Nat.reduceBEq, Nat.reduceAdd, Nat.reduceSub, Nat.reduceMul, Nat.reduceMod, Int.reduceMod, Int.reduceToNat, Int.reduceNeg]
  refine hK2 _ ?_
  clear hK2 K2
  refine Tr.kp [0, 3] ?_
  simp only [pk_cons, pk_nil, ↓A_cons, ↓reduceIte, Nat.reduceEqDiff, reduceCtorEq]
  refine Tr.seqK fun K3 hK3 => ?_
  refine Tr.seqK fun K4 hK4 => ?_
  -- region 2 (ref.go:83)
  refine Tr.rg hcx [] _ [] rfl rfl rfl ?_
  simp -implicitDefEqProofs (maxSteps := 2000000) (disch := first | omega | (simp only [List.length_append, List.length_replicate, List.length_set, List.length_drop, List.length_take, List.length_cons, List.length_nil, one_w32, one_w8, one_nI, one_nU, one_str, one_bool, one_int, one_slice, refy_sv, refy_bp, refy_agg, refy_val, refy_kp, refy_tsl, cl_len, hb1] <;> omega) | decide) only [go_sem, ↓reduceIte, Nat.reduceEqDiff, reduceCtorEq, Nat.reduceLT, Nat.reduceBEq, Nat.reduceAdd, Nat.reduceSub, Nat.reduceMul, Nat.reduceMod, Int.reduceMod, Int.reduceToNat, Int.reduceNeg]
  refine hK4 _ ?_
  clear hK4 K4
  refine Tr.kp [0, 3, 4] ?_
  simp only [pk_cons, pk_nil, ↓A_cons, ↓reduceIte, Nat.reduceEqDiff, reduceCtorEq]
  refine Tr.blk ?_
  refine Tr.loopI (α := Nat) (fun a => [(0, ?v0_42), (3, .val (str (l.take a).flatten)), (4, .val (nI a))]) (fun a => ?h_42) (fun a => a ≤ l.length) (fun a => l.length - a) (0) ?_ ?le_42 ?hh_42 ?bd_42
  case hh_42 => exact rfl
  case le_42 => (simp only [Le_nil, Le_cons, ↓A_cons, ↓reduceIte, Nat.reduceEqDiff, reduceCtorEq, CLe_refl, CLe_top, CLe_full, CLe_nil, CLe_own, and_true, true_and]; all_goals (repeat' first | exact CLe.refl _ | exact True.intro | (refine CLe_sln ?_; first | with_reducible rfl | (simp only [List.take_zero]; done) | (rfl; done)) | exact CLe_nI (by omega) | exact CLe_int (by omega) | exact CLe_inI (by omega) | exact CLe_nIi (by omega) | with_reducible apply And.intro))
  · omega
  case bd_42 =>
    rintro i hi
    refine Tr.seqK fun K5 hK5 => ?_
    refine Tr.seqK fun K6 hK6 => ?_
    -- region 3 (ref.go:83)
    refine Tr.rg hcx [] _ [] rfl rfl rfl ?_
    simp -implicitDefEqProofs (maxSteps := 2000000) (disch := first | omega | (simp only [List.length_append, List.length_replicate, List.length_set, List.length_drop, List.length_take, List.length_cons, List.length_nil, one_w32, one_w8, one_nI, one_nU, one_str, one_bool, one_int, one_slice, refy_sv, refy_bp, refy_agg, refy_val, refy_kp, refy_tsl, cl_len, hb1] <;> omega) | decide) only [go_sem, ↓reduceIte, Nat.reduceEqDiff, reduceCtorEq, Nat.reduceLT, Nat.reduceBEq, Nat.reduceAdd, Nat.reduceSub, Nat.reduceMul, Nat.reduceMod, Int.reduceMod, Int.reduceToNat, Int.reduceNeg]
    refine hK6 _ ?_
    clear hK6 K6
    refine Tr.kp [0, 3, 4, 8] ?_
    simp only [pk_cons, pk_nil, ↓A_cons, ↓reduceIte, Nat.reduceEqDiff, reduceCtorEq]
    refine Tr.condG fun KT KF hT hF => ?_
    simp only [ev_tmp, ev_const, ↓A_cons, ↓reduceIte, Nat.reduceEqDiff, reduceCtorEq, condG_bool, GB_true, GB_false, decide_eq_true_eq]
    refine GB.dec (fun hc8 => hT ?_) (fun hc8 => hF ?_)
    ·
      clear hT hF KT KF
      have hb1 := flat_le l i hc8
      refine Tr.skip ?_
      refine hK5 _ ?_
      clear hK5 K5
      refine Tr.kp [0, 3, 4] ?_
      simp only [pk_cons, pk_nil, ↓A_cons, ↓reduceIte, Nat.reduceEqDiff, reduceCtorEq]
      refine Tr.seqK fun K7 hK7 => ?_
      refine Tr.blk ?_
      -- region 5 (ref.go:84)
      refine Tr.rg hcx [1000016] _ [] rfl rfl rfl ?_
      simp -implicitDefEqProofs (maxSteps := 2000000) (disch := first | omega | (simp only [List.length_append, List.length_replicate, List.length_set, List.length_drop, List.length_take, List.length_cons, List.length_nil, one_w32, one_w8, one_nI, one_nU, one_str, one_bool, one_int, one_slice, refy_sv, refy_bp, refy_agg, refy_val, refy_kp, refy_tsl, cl_len, hb1] <;> omega) | decide) only [go_sem, ↓reduceIte, Nat.reduceEqDiff, reduceCtorEq, Nat.reduceLT, Nat.reduceBEq, Nat.reduceAdd, Nat.reduceSub, Nat.reduceMul, Nat.reduceMod, Int.reduceMod, Int.reduceToNat, Int.reduceNeg]
      refine hK7 _ ?_
      clear hK7 K7
      refine Tr.kp [0, 3, 4] ?_
      simp only [pk_cons, pk_nil, ↓A_cons, ↓reduceIte, Nat.reduceEqDiff, reduceCtorEq]
      -- region 4 (ref.go:83)
      refine Tr.rg hcx [1000010] _ [] rfl rfl rfl ?_
      simp -implicitDefEqProofs (maxSteps := 2000000) (disch := first | omega | (simp only [List.length_append, List.length_replicate, List.length_set, List.length_drop, List.length_take, List.length_cons, List.length_nil, one_w32, one_w8, one_nI, one_nU, one_str, one_bool, one_int, one_slice, refy_sv, refy_bp, refy_agg, refy_val, refy_kp, refy_tsl, cl_len, hb1] <;> omega) | decide) only [go_sem, ↓reduceIte, Nat.reduceEqDiff, reduceCtorEq, Nat.reduceLT, Nat.reduceBEq, Nat.reduceAdd, Nat.reduceSub, Nat.reduceMul, Nat.reduceMod, Int.reduceMod, Int.reduceToNat, Int.reduceNeg]
      refine ⟨i + 1, ⟨by omega, by first | omega | (simp only []; omega)⟩, ?_, rfl⟩
      (simp only [Le_nil, Le_cons, ↓A_cons, ↓reduceIte, Nat.reduceEqDiff, reduceCtorEq, CLe_refl, CLe_top, CLe_full, CLe_nil, CLe_own, and_true, true_and]; all_goals (repeat' first | exact CLe.refl _ | exact True.intro | (refine CLe_sln ?_; first | with_reducible rfl | (simp only [List.take_zero]; done) | (rfl; done)) | exact CLe_nI (by omega) | exact CLe_int (by omega) | exact CLe_inI (by omega) | exact CLe_nIi (by omega) | with_reducible apply And.intro))
      all_goals (refine CLe_str ?_; rw [flat_snoc l i hc8])
    ·
      clear hT hF KT KF
      obtain rfl : i = l.length := by omega
      refine Tr.exit ?_
      refine hK3 _ ?_
      clear hK5 K5 hK3 K3
      refine Tr.kp [3] ?_
      simp only [pk_cons, pk_nil, ↓A_cons, ↓reduceIte, Nat.reduceEqDiff, reduceCtorEq]
      refine Tr.seqK fun K8 hK8 => ?_
      -- region 6 (ref.go:86)
      refine Tr.rg hcx [1000017] _ [] rfl rfl rfl ?_
      simp -implicitDefEqProofs (maxSteps := 2000000) (disch := first | omega | (simp only [List.length_append, List.length_replicate, List.length_set, List.length_drop, List.length_take, List.length_cons, List.length_nil, one_w32, one_w8, one_nI, one_nU, one_str, one_bool, one_int, one_slice, refy_sv, refy_bp, refy_agg, refy_val, refy_kp, refy_tsl, cl_len, hb1] <;> omega) | decide) only [go_sem, ↓reduceIte, Nat.reduceEqDiff, reduceCtorEq, Nat.reduceLT, Nat.reduceBEq, Nat.reduceAdd, Nat.reduceSub, Nat.reduceMul, Nat.reduceMod, Int.reduceMod, Int.reduceToNat, Int.reduceNeg]
      refine hK8 _ ?_
      clear hK8 K8
      refine Tr.kp [2] ?_
      simp only [pk_cons, pk_nil, ↓A_cons, ↓reduceIte, Nat.reduceEqDiff, reduceCtorEq]
      refine Tr.ret ?_
      simp -implicitDefEqProofs (disch := first | omega | (simp only [List.length_append, List.length_replicate, List.length_set, List.length_drop, List.length_take, List.length_cons, List.length_nil, one_w32, one_w8, one_nI, one_nU, one_str, one_bool, one_int, one_slice, refy_sv, refy_bp, refy_agg, refy_val, refy_kp, refy_tsl, cl_len, hb1] <;> omega) | decide) only [go_sem, thenQ_n, thenQ_x, thenQ_r, blockQ_n, blockQ_r, EndsR_r, EndsR_n, resL_one, resC_tmp, resC_cell, rcP_int, rcP_bool, rcP_str, rcP_sl, rcP_arr, rcP_struct, ↓reduceIte, Nat.reduceEqDiff, reduceCtorEq]
      all_goals (rw [List.take_length])

set_option maxRecDepth 100000 in
set_option maxHeartbeats 8000000 in
theorem fc20 {gl : Nat → C} {M : Nat} {pu : Nat → List C → Option C} (hcx : CxOK (cxP gl M pu)) (h : List UInt8) (hh : h.length = 32) : FC Tryd.prog gl 20 [.agg (cl bC h)] [] (.val (str h)) [] := by
  replace hcx := hcx.reN (M := 17)
  refine FC.ofA (cx := cxP gl 17 pu) (rs := [.tmp 2]) rfl Tryd.func20 rfl rfl rfl (by simp only [List.length_cons, List.length_nil]; decide) (by simp only [noRef_val, noRef_agg, noRef_tup, noRef_kp, noRef_sl, noRefs_cl, noRefs_cons, noRefs_nil, noRefs_app, Bool.and_self, Bool.and_true]) ?_
  simp only [ini, noR_val, noR_val, noR_full, noR_no, noR_owns, noR_sv, noR_bp, noR_kp, noR_agg, noR_tup, noR_fn, noR_top, noR_slno, noR_slfull, noR_slown]
  refine Tr.seqK fun K1 hK1 => ?_
  -- region 0 (ref.go:90)
  refine Tr.rg hcx [] _ [none] rfl rfl rfl ?_
  simp -implicitDefEqProofs (maxSteps := 2000000) (disch := first | omega | (simp only [List.length_append, List.length_replicate, List.length_set, List.length_drop, List.length_take, List.length_cons, List.length_nil, one_w32, one_w8, one_nI, one_nU, one_str, one_bool, one_int, one_slice, refy_sv, refy_bp, refy_agg, refy_val, refy_kp, refy_tsl, cl_len, hh] <;> omega) | decide) only [go_sem, ↓reduceIte, Nat.reduceEqDiff, reduceCtorEq, Nat.reduceLT, Nat.reduceBEq, Nat.reduceAdd, Nat.reduceSub, Nat.reduceMul, Nat.reduceMod, Int.reduceMod, Int.reduceToNat, Int.reduceNeg]
  refine hK1 _ ?_
  clear hK1 K1
  refine Tr.kp [1] ?_
  simp only [pk_cons, pk_nil, ↓A_cons, ↓reduceIte, Nat.reduceEqDiff, reduceCtorEq]
  refine Tr.seqK fun K2 hK2 => ?_
  -- region 1 (ref.go:91)
  refine Tr.rg hcx [] _ [] rfl rfl rfl ?_
  simp -implicitDefEqProofs (maxSteps := 2000000) (disch := first | omega | (simp only [List.length_append, List.length_replicate, List.length_set, List.length_drop, List.length_take, List.length_cons, List.length_nil, one_w32, one_w8, one_nI, one_nU, one_str, one_bool, one_int, one_slice, refy_sv, refy_bp, refy_agg, refy_val, refy_kp, refy_tsl, cl_len, hh] <;> omega) | decide) only [go_sem, ↓reduceIte, Nat.reduceEqDiff, reduceCtorEq, Nat.reduceLT, Nat.reduceBEq, Nat.reduceAdd, Nat.reduceSub, Nat.reduceMul, Nat.reduceMod, Int.reduceMod, Int.reduceToNat, Int.reduceNeg]
  refine hK2 _ ?_
  clear hK2 K2
  refine Tr.kp [1, 3] ?_
  simp only [pk_cons, pk_nil, ↓A_cons, ↓reduceIte, Nat.reduceEqDiff, reduceCtorEq]
  refine Tr.seqK fun K3 hK3 => ?_
  refine Tr.seqK fun K4 hK4 => ?_
  -- region 2 (ref.go:92)
  refine Tr.rg hcx [] _ [] rfl rfl rfl ?_
  simp -implicitDefEqProofs (maxSteps := 2000000) (disch := first | omega | (simp only [List.length_append, List.length_replicate, List.length_set, List.length_drop, List.length_take, List.length_cons, List.length_nil, one_w32, one_w8, one_nI, one_nU, one_str, one_bool, one_int, one_slice, refy_sv, refy_bp, refy_agg, refy_val, refy_kp, refy_tsl, cl_len, hh] <;> omega) | decide) only [go_sem, ↓reduceIte, Nat.reduceEqDiff, reduceCtorEq, Nat.reduceLT, Nat.reduceBEq, Nat.reduceAdd, Nat.reduceSub, Nat.reduceMul, Nat.reduceMod, Int.reduceMod, Int.reduceToNat, Int.reduceNeg]
  refine hK4 _ ?_
  clear hK4 K4
  refine Tr.kp [1, 3, 4] ?_
  simp only [pk_cons, pk_nil, ↓A_cons, ↓reduceIte, Nat.reduceEqDiff, reduceCtorEq]
  refine Tr.blk ?_
  refine Tr.loopI (α := Nat) (fun a => [(1, ?v1_64), (3, sl bC (.own 1) (h.take a)), (4, .val (nI a))]) (fun a => [some (cl bC h)]) (fun a => a ≤ 32) (fun a => 32 - a) (0) ?_ ?le_64 ?hh_64 ?bd_64
  case hh_64 => exact rfl
  case le_64 => (simp only [Le_nil, Le_cons, ↓A_cons, ↓reduceIte, Nat.reduceEqDiff, reduceCtorEq, CLe_refl, CLe_top, CLe_full, CLe_nil, CLe_own, and_true, true_and]; all_goals (repeat' first | exact CLe.refl _ | exact True.intro | (refine CLe_sln ?_; first | with_reducible rfl | (simp only [List.take_zero]; done) | (rfl; done)) | exact CLe_nI (by omega) | exact CLe_int (by omega) | exact CLe_inI (by omega) | exact CLe_nIi (by omega) | with_reducible apply And.intro))
  · omega
  case bd_64 =>
    rintro i hi
    refine Tr.seqK fun K5 hK5 => ?_
    refine Tr.seqK fun K6 hK6 => ?_
    -- region 3 (ref.go:92)
    refine Tr.rg hcx [] _ [] rfl rfl rfl ?_
    simp -implicitDefEqProofs (maxSteps := 2000000) (disch := first | omega | (simp only [List.length_append, List.length_replicate, List.length_set, List.length_drop, List.length_take, List.length_cons, List.length_nil, one_w32, one_w8, one_nI, one_nU, one_str, one_bool, one_int, one_slice, refy_sv, refy_bp, refy_agg, refy_val, refy_kp, refy_tsl, cl_len, hh] <;> omega) | decide) only [go_sem, ↓reduceIte, Nat.reduceEqDiff, reduceCtorEq, Nat.reduceLT, Nat.reduceBEq, Nat.reduceAdd, Nat.reduceSub, Nat.reduceMul, Nat.reduceMod, Int.reduceMod, Int.reduceToNat, Int.reduceNeg]
    refine hK6 _ ?_
    clear hK6 K6
    refine Tr.kp [1, 3, 4, 6] ?_
    simp only [pk_cons, pk_nil, ↓A_cons, ↓reduceIte, Nat.reduceEqDiff, reduceCtorEq]
    refine Tr.condG fun KT KF hT hF => ?_
    simp only [ev_tmp, ev_const, ↓A_cons, ↓reduceIte, Nat.reduceEqDiff, reduceCtorEq, condG_bool, GB_true, GB_false, decide_eq_true_eq]
    refine GB.dec (fun hc6 => hT ?_) (fun hc6 => hF ?_)
    ·
      clear hT hF KT KF
      refine Tr.skip ?_
      refine hK5 _ ?_
      clear hK5 K5
      refine Tr.kp [1, 3, 4] ?_
      simp only [pk_cons, pk_nil, ↓A_cons, ↓reduceIte, Nat.reduceEqDiff, reduceCtorEq]
      refine Tr.seqK fun K7 hK7 => ?_
      refine Tr.blk ?_
      -- region 5 (ref.go:93)
      refine Tr.rg hcx [9, 1000014] _ [] rfl rfl rfl ?_
      simp -implicitDefEqProofs (maxSteps := 2000000) (disch := first | omega | (simp only [List.length_append, List.length_replicate, List.length_set, List.length_drop, List.length_take, List.length_cons, List.length_nil, one_w32, one_w8, one_nI, one_nU, one_str, one_bool, one_int, one_slice, refy_sv, refy_bp, refy_agg, refy_val, refy_kp, refy_tsl, cl_len, hh] <;> omega) | decide) only [go_sem, ↓reduceIte, Nat.reduceEqDiff, reduceCtorEq, Nat.reduceLT, Nat.reduceBEq, Nat.reduceAdd, Nat.reduceSub, Nat.reduceMul, Nat.reduceMod, Int.reduceMod, Int.reduceToNat, Int.reduceNeg]
      refine hK7 _ ?_
      clear hK7 K7
      refine Tr.kp [1, 3, 4] ?_
      simp only [pk_cons, pk_nil, ↓A_cons, ↓reduceIte, Nat.reduceEqDiff, reduceCtorEq]
      -- region 4 (ref.go:92)
      refine Tr.rg hcx [1000008] _ [] rfl rfl rfl ?_
      simp -implicitDefEqProofs (maxSteps := 2000000) (disch := first | omega | (simp only [List.length_append, List.length_replicate, List.length_set, List.length_drop, List.length_take, List.length_cons, List.length_nil, one_w32, one_w8, one_nI, one_nU, one_str, one_bool, one_int, one_slice, refy_sv, refy_bp, refy_agg, refy_val, refy_kp, refy_tsl, cl_len, hh] <;> omega) | decide) only [go_sem, ↓reduceIte, Nat.reduceEqDiff, reduceCtorEq, Nat.reduceLT, Nat.reduceBEq, Nat.reduceAdd, Nat.reduceSub, Nat.reduceMul, Nat.reduceMod, Int.reduceMod, Int.reduceToNat, Int.reduceNeg]
      refine ⟨i + 1, ⟨by omega, by first | omega | (simp only []; omega)⟩, ?_, rfl⟩
      (simp only [Le_nil, Le_cons, ↓A_cons, ↓reduceIte, Nat.reduceEqDiff, reduceCtorEq, CLe_refl, CLe_top, CLe_full, CLe_nil, CLe_own, and_true, true_and]; all_goals (repeat' first | exact CLe.refl _ | exact True.intro | (refine CLe_sln ?_; first | with_reducible rfl | (simp only [List.take_zero]; done) | (rfl; done)) | exact CLe_nI (by omega) | exact CLe_int (by omega) | exact CLe_inI (by omega) | exact CLe_nIi (by omega) | with_reducible apply And.intro))
      all_goals (refine CLe_sl ?_; rw [take_snoc _ _ (by omega)])
    ·
      clear hT hF KT KF
      obtain rfl : i = 32 := by omega
      refine Tr.exit ?_
      refine hK3 _ ?_
      clear hK5 K5 hK3 K3
      refine Tr.kp [3] ?_
      simp only [pk_cons, pk_nil, ↓A_cons, ↓reduceIte, Nat.reduceEqDiff, reduceCtorEq]
      refine Tr.seqK fun K8 hK8 => ?_
      -- region 6 (ref.go:95)
      refine Tr.rg hcx [1000016] _ [] rfl rfl rfl ?_
      simp -implicitDefEqProofs (maxSteps := 2000000) (disch := first | omega | (simp only [List.length_append, List.length_replicate, List.length_set, List.length_drop, List.length_take, List.length_cons, List.length_nil, one_w32, one_w8, one_nI, one_nU, one_str, one_bool, one_int, one_slice, refy_sv, refy_bp, refy_agg, refy_val, refy_kp, refy_tsl, cl_len, hh] <;> omega) | decide) only [go_sem, ↓reduceIte, Nat.reduceEqDiff, reduceCtorEq, Nat.reduceLT, Nat.reduceBEq, Nat.reduceAdd, Nat.reduceSub, Nat.reduceMul, Nat.reduceMod, Int.reduceMod, Int.reduceToNat, Int.reduceNeg]
      refine hK8 _ ?_
      clear hK8 K8
      refine Tr.kp [2] ?_
      simp only [pk_cons, pk_nil, ↓A_cons, ↓reduceIte, Nat.reduceEqDiff, reduceCtorEq]
      refine Tr.ret ?_
      simp -implicitDefEqProofs (disch := first | omega | (simp only [List.length_append, List.length_replicate, List.length_set, List.length_drop, List.length_take, List.length_cons, List.length_nil, one_w32, one_w8, one_nI, one_nU, one_str, one_bool, one_int, one_slice, refy_sv, refy_bp, refy_agg, refy_val, refy_kp, refy_tsl, cl_len, hh] <;> omega) | decide) only [go_sem, thenQ_n, thenQ_x, thenQ_r, blockQ_n, blockQ_r, EndsR_r, EndsR_n, resL_one, resC_tmp, resC_cell, rcP_int, rcP_bool, rcP_str, rcP_sl, rcP_arr, rcP_struct, ↓reduceIte, Nat.reduceEqDiff, reduceCtorEq]
      all_goals (rw [List.take_of_length_le (by omega)])

set_option maxRecDepth 100000 in
set_option maxHeartbeats 8000000 in
theorem fc26 {gl : Nat → C} {M : Nat} {pu : Nat → List C → Option C} (hcx : CxOK (cxP gl M pu)) (h : List UInt8) (hh : h.length = 16) : FC Tryd.prog gl 26 [.agg (cl bC h)] [] (.val (str h)) [] := by
  replace hcx := hcx.reN (M := 17)
  refine FC.ofA (cx := cxP gl 17 pu) (rs := [.tmp 2]) rfl Tryd.func26 rfl rfl rfl (by simp only [List.length_cons, List.length_nil]; decide) (by simp only [noRef_val, noRef_agg, noRef_tup, noRef_kp, noRef_sl, noRefs_cl, noRefs_cons, noRefs_nil, noRefs_app, Bool.and_self, Bool.and_true]) ?_
  simp only [ini, noR_val, noR_val, noR_full, noR_no, noR_owns, noR_sv, noR_bp, noR_kp, noR_agg, noR_tup, noR_fn, noR_top, noR_slno, noR_slfull, noR_slown]
  refine Tr.seqK fun K1 hK1 => ?_
  -- region 0 (ref.go:125)
  refine Tr.rg hcx [] _ [none] rfl rfl rfl ?_
  simp -implicitDefEqProofs (maxSteps := 2000000) (disch := first | omega | (simp only [List.length_append, List.length_replicate, List.length_set, List.length_drop, List.length_take, List.length_cons, List.length_nil, one_w32, one_w8, one_nI, one_nU, one_str, one_bool, one_int, one_slice, refy_sv, refy_bp, refy_agg, refy_val, refy_kp, refy_tsl, cl_len, hh] <;> omega) | decide) only [go_sem, ↓reduceIte, Nat.reduceEqDiff, reduceCtorEq, Nat.reduceLT, Nat.reduceBEq, Nat.reduceAdd, Nat.reduceSub, Nat.reduceMul, Nat.reduceMod, Int.reduceMod, Int.reduceToNat, Int.reduceNeg]
  refine hK1 _ ?_
  clear hK1 K1
  refine Tr.kp [1] ?_
  simp only [pk_cons, pk_nil, ↓A_cons, ↓reduceIte, Nat.reduceEqDiff, reduceCtorEq]
  refine Tr.seqK fun K2 hK2 => ?_
  -- region 1 (ref.go:126)
  refine Tr.rg hcx [] _ [] rfl rfl rfl ?_
  simp -implicitDefEqProofs (maxSteps := 2000000) (disch := first | omega | (simp only [List.length_append, List.length_replicate, List.length_set, List.length_drop, List.length_take, List.length_cons, List.length_nil, one_w32, one_w8, one_nI, one_nU, one_str, one_bool, one_int, one_slice, refy_sv, refy_bp, refy_agg, refy_val, refy_kp, refy_tsl, cl_len, hh] <;> omega) | decide) only [go_sem, ↓reduceIte, Nat.reduceEqDiff, reduceCtorEq, Nat.reduceLT, Nat.reduceBEq, Nat.reduceAdd, Nat.reduceSub, Nat.reduceMul, Nat.reduceMod, Int.reduceMod, Int.reduceToNat, Int.reduceNeg]
  refine hK2 _ ?_
  clear hK2 K2
  refine Tr.kp [1, 3] ?_
  simp only [pk_cons, pk_nil, ↓A_cons, ↓reduceIte, Nat.reduceEqDiff, reduceCtorEq]
  refine Tr.seqK fun K3 hK3 => ?_
  refine Tr.seqK fun K4 hK4 => ?_
  -- region 2 (ref.go:127)
  refine Tr.rg hcx [] _ [] rfl rfl rfl ?_
  simp -implicitDefEqProofs (maxSteps := 2000000) (disch := first | omega | (simp only [List.length_append, List.length_replicate, List.length_set, List.length_drop, List.length_take, List.length_cons, List.length_nil, one_w32, one_w8, one_nI, one_nU, one_str, one_bool, one_int, one_slice, refy_sv, refy_bp, refy_agg, refy_val, refy_kp, refy_tsl, cl_len, hh] <;> omega) | decide) only [go_sem, ↓reduceIte, Nat.reduceEqDiff, reduceCtorEq, Nat.reduceLT, Nat.reduceBEq, Nat.reduceAdd, Nat.reduceSub, Nat.reduceMul, Nat.reduceMod, Int.reduceMod, Int.reduceToNat, Int.reduceNeg]
  refine hK4 _ ?_
  clear hK4 K4
  refine Tr.kp [1, 3, 4] ?_
  simp only [pk_cons, pk_nil, ↓A_cons, ↓reduceIte, Nat.reduceEqDiff, reduceCtorEq]
  refine Tr.blk ?_
  refine Tr.loopI (α := Nat) (fun a => [(1, ?v1_86), (3, sl bC (.own 1) (h.take a)), (4, .val (nI a))]) (fun a => [some (cl bC h)]) (fun a => a ≤ 16) (fun a => 16 - a) (0) ?_ ?le_86 ?hh_86 ?bd_86
  case hh_86 => exact rfl
  case le_86 => (simp only [Le_nil, Le_cons, ↓A_cons, ↓reduceIte, Nat.reduceEqDiff, reduceCtorEq, CLe_refl, CLe_top, CLe_full, CLe_nil, CLe_own, and_true, true_and]; all_goals (repeat' first | exact CLe.refl _ | exact True.intro | (refine CLe_sln ?_; first | with_reducible rfl | (simp only [List.take_zero]; done) | (rfl; done)) | exact CLe_nI (by omega) | exact CLe_int (by omega) | exact CLe_inI (by omega) | exact CLe_nIi (by omega) | with_reducible apply And.intro))
  · omega
  case bd_86 =>
    rintro i hi
    refine Tr.seqK fun K5 hK5 => ?_
    refine Tr.seqK fun K6 hK6 => ?_
    -- region 3 (ref.go:127)
    refine Tr.rg hcx [] _ [] rfl rfl rfl ?_
    simp -implicitDefEqProofs (maxSteps := 2000000) (disch := first | omega | (simp only [List.length_append, List.length_replicate, List.length_set, List.length_drop, List.length_take, List.length_cons, List.length_nil, one_w32, one_w8, one_nI, one_nU, one_str, one_bool, one_int, one_slice, refy_sv, refy_bp, refy_agg, refy_val, refy_kp, refy_tsl, cl_len, hh] <;> omega) | decide) only [go_sem, ↓reduceIte, Nat.reduceEqDiff, reduceCtorEq, Nat.reduceLT, Nat.reduceBEq, Nat.reduceAdd, Nat.reduceSub, Nat.reduceMul, Nat.reduceMod, Int.reduceMod, Int.reduceToNat, Int.reduceNeg]
    refine hK6 _ ?_
    clear hK6 K6
    refine Tr.kp [1, 3, 4, 6] ?_
    simp only [pk_cons, pk_nil, ↓A_cons, ↓reduceIte, Nat.reduceEqDiff, reduceCtorEq]
    refine Tr.condG fun KT KF hT hF => ?_
    simp only [ev_tmp, ev_const, ↓A_cons, ↓reduceIte, Nat.reduceEqDiff, reduceCtorEq, condG_bool, GB_true, GB_false, decide_eq_true_eq]
    refine GB.dec (fun hc6 => hT ?_) (fun hc6 => hF ?_)
    ·
      clear hT hF KT KF
      refine Tr.skip ?_
      refine hK5 _ ?_
      clear hK5 K5
      refine Tr.kp [1, 3, 4] ?_
      simp only [pk_cons, pk_nil, ↓A_cons, ↓reduceIte, Nat.reduceEqDiff, reduceCtorEq]
      refine Tr.seqK fun K7 hK7 => ?_
      refine Tr.blk ?_
      -- region 5 (ref.go:128)
      refine Tr.rg hcx [9, 1000014] _ [] rfl rfl rfl ?_
      simp -implicitDefEqProofs (maxSteps := 2000000) (disch := first | omega | (simp only [List.length_append, List.length_replicate, List.length_set, List.length_drop, List.length_take, List.length_cons, List.length_nil, one_w32, one_w8, one_nI, one_nU, one_str, one_bool, one_int, one_slice, refy_sv, refy_bp, refy_agg, refy_val, refy_kp, refy_tsl, cl_len, hh] <;> omega) | decide) only [go_sem, ↓reduceIte, Nat.reduceEqDiff, reduceCtorEq, Nat.reduceLT, Nat.reduceBEq, Nat.reduceAdd, Nat.reduceSub, Nat.reduceMul, Nat.reduceMod, Int.reduceMod, Int.reduceToNat, Int.reduceNeg]
      refine hK7 _ ?_
      clear hK7 K7
      refine Tr.kp [1, 3, 4] ?_
      simp only [pk_cons, pk_nil, ↓A_cons, ↓reduceIte, Nat.reduceEqDiff, reduceCtorEq]
      -- region 4 (ref.go:127)
      refine Tr.rg hcx [1000008] _ [] rfl rfl rfl ?_
      simp -implicitDefEqProofs (maxSteps := 2000000) (disch := first | omega | (simp only [List.length_append, List.length_replicate, List.length_set, List.length_drop, List.length_take, List.length_cons, List.length_nil, one_w32, one_w8, one_nI, one_nU, one_str, one_bool, one_int, one_slice, refy_sv, refy_bp, refy_agg, refy_val, refy_kp, refy_tsl, cl_len, hh] <;> omega) | decide) only [go_sem, ↓reduceIte, Nat.reduceEqDiff, reduceCtorEq, Nat.reduceLT, Nat.reduceBEq, Nat.reduceAdd, Nat.reduceSub, Nat.reduceMul, Nat.reduceMod, Int.reduceMod, Int.reduceToNat, Int.reduceNeg]
      refine ⟨i + 1, ⟨by omega, by first | omega | (simp only []; omega)⟩, ?_, rfl⟩
      (simp only [Le_nil, Le_cons, ↓A_cons, ↓reduceIte, Nat.reduceEqDiff, reduceCtorEq, CLe_refl, CLe_top, CLe_full, CLe_nil, CLe_own, and_true, true_and]; all_goals (repeat' first | exact CLe.refl _ | exact True.intro | (refine CLe_sln ?_; first | with_reducible rfl | (simp only [List.take_zero]; done) | (rfl; done)) | exact CLe_nI (by omega) | exact CLe_int (by omega) | exact CLe_inI (by omega) | exact CLe_nIi (by omega) | with_reducible apply And.intro))
      all_goals (refine CLe_sl ?_; rw [take_snoc _ _ (by omega)])
    ·
      clear hT hF KT KF
      obtain rfl : i = 16 := by omega
      refine Tr.exit ?_
      refine hK3 _ ?_
      clear hK5 K5 hK3 K3
      refine Tr.kp [3] ?_
      simp only [pk_cons, pk_nil, ↓A_cons, ↓reduceIte, Nat.reduceEqDiff, reduceCtorEq]
      refine Tr.seqK fun K8 hK8 => ?_
      -- region 6 (ref.go:130)
      refine Tr.rg hcx [1000016] _ [] rfl rfl rfl ?_
      simp -implicitDefEqProofs (maxSteps := 2000000) (disch := first | omega | (simp only [List.length_append, List.length_replicate, List.length_set, List.length_drop, List.length_take, List.length_cons, List.length_nil, one_w32, one_w8, one_nI, one_nU, one_str, one_bool, one_int, one_slice, refy_sv, refy_bp, refy_agg, refy_val, refy_kp, refy_tsl, cl_len, hh] <;> omega) | decide) only [go_sem, ↓reduceIte, Nat.reduceEqDiff, reduceCtorEq, Nat.reduceLT, Nat.reduceBEq, Nat.reduceAdd, Nat.reduceSub, Nat.reduceMul, Nat.reduceMod, Int.reduceMod, Int.reduceToNat, Int.reduceNeg]
      refine hK8 _ ?_
      clear hK8 K8
      refine Tr.kp [2] ?_
      simp only [pk_cons, pk_nil, ↓A_cons, ↓reduceIte, Nat.reduceEqDiff, reduceCtorEq]
      refine Tr.ret ?_
      simp -implicitDefEqProofs (disch := first | omega | (simp only [List.length_append, List.length_replicate, List.length_set, List.length_drop, List.length_take, List.length_cons, List.length_nil, one_w32, one_w8, one_nI, one_nU, one_str, one_bool, one_int, one_slice, refy_sv, refy_bp, refy_agg, refy_val, refy_kp, refy_tsl, cl_len, hh] <;> omega) | decide) only [go_sem, thenQ_n, thenQ_x, thenQ_r, blockQ_n, blockQ_r, EndsR_r, EndsR_n, resL_one, resC_tmp, resC_cell, rcP_int, rcP_bool, rcP_str, rcP_sl, rcP_arr, rcP_struct, ↓reduceIte, Nat.reduceEqDiff, reduceCtorEq]
      all_goals (rw [List.take_of_length_le (by omega)])

set_option maxRecDepth 100000 in
set_option maxHeartbeats 8000000 in
theorem fc25 {gl : Nat → C} {M : Nat} {pu : Nat → List C → Option C} (hcx : CxOK (cxP gl M pu)) (s : List UInt8) (hs : s.length < 35184372088832) : FC Tryd.prog gl 25 [.val (str s)] [] (.val (str (hexs s))) [] := by
  replace hcx := hcx.reN (M := 29)
  refine FC.ofA (cx := cxP gl 29 pu) (rs := [.tmp 2]) rfl Tryd.func25 rfl rfl rfl (by simp only [List.length_cons, List.length_nil]; decide) (by simp only [noRef_val, noRef_agg, noRef_tup, noRef_kp, noRef_sl, noRefs_cl, noRefs_cons, noRefs_nil, noRefs_app, Bool.and_self, Bool.and_true]) ?_
  simp only [ini, noR_val, noR_val, noR_full, noR_no, noR_owns, noR_sv, noR_bp, noR_kp, noR_agg, noR_tup, noR_fn, noR_top, noR_slno, noR_slfull, noR_slown]
  have hd16 : hexd.length = 16 := rfl
  have hdg : str [48, 49, 50, 51, 52, 53, 54, 55, 56, 57, 97, 98, 99, 100, 101, 102] = str hexd := rfl
  refine Tr.seqK fun K1 hK1 => ?_
  -- region 0 (law.go:10)
  refine Tr.rg hcx [] _ [] rfl rfl rfl ?_
  simp -implicitDefEqProofs (maxSteps := 2000000) (disch := first | omega | (simp only [List.length_append, List.length_replicate, List.length_set, List.length_drop, List.length_take, List.length_cons, List.length_nil, one_w32, one_w8, one_nI, one_nU, one_str, one_bool, one_int, one_slice, refy_sv, refy_bp, refy_agg, refy_val, refy_kp, refy_tsl, cl_len, hexs_len, hd16] <;> omega) | decide) only [go_sem, ↓reduceIte, Nat.reduceEqDiff, reduceCtorEq, Nat.reduceLT, Nat.reduceBEq, Nat.reduceAdd, Nat.reduceSub, Nat.reduceMul, Nat.reduceMod, Int.reduceMod, Int.reduceToNat, Int.reduceNeg, hdg]
  refine hK1 _ ?_
  clear hK1 K1
  refine Tr.kp [0] ?_
  simp only [pk_cons, pk_nil, ↓A_cons, ↓reduceIte, Nat.reduceEqDiff, reduceCtorEq]
  refine Tr.seqK fun K2 hK2 => ?_
  -- region 1 (law.go:11)
  refine Tr.rg hcx [] _ [] rfl rfl rfl ?_
  simp -implicitDefEqProofs (maxSteps := 2000000) (disch := first | omega | (simp only [List.length_append, List.length_replicate, List.length_set, List.length_drop, List.length_take, List.length_cons, List.length_nil, one_w32, one_w8, one_nI, one_nU, one_str, one_bool, one_int, one_slice, refy_sv, refy_bp, refy_agg, refy_val, refy_kp, refy_tsl, cl_len, hexs_len, hd16] <;> omega) | decide) only [go_sem, ↓reduceIte, Nat.reduceEqDiff, reduceCtorEq, Nat.reduceLT, Nat.reduceBEq, Nat.reduceAdd, Nat.reduceSub, Nat.reduceMul, Nat.reduceMod, Int.reduceMod, Int.reduceToNat, Int.reduceNeg, hdg]
  refine hK2 _ ?_
  clear hK2 K2
  refine Tr.kp [0, 3] ?_
  simp only [pk_cons, pk_nil, ↓A_cons, ↓reduceIte, Nat.reduceEqDiff, reduceCtorEq]
  refine Tr.seqK fun K3 hK3 => ?_
  -- region 2 (law.go:12)
  refine Tr.rg hcx [] _ [] rfl rfl rfl ?_
  simp -implicitDefEqProofs (maxSteps := 2000000) (disch := first | omega | (simp only [List.length_append, List.length_replicate, List.length_set, List.length_drop, List.length_take, List.length_cons, List.length_nil, one_w32, one_w8, one_nI, one_nU, one_str, one_bool, one_int, one_slice, refy_sv, refy_bp, refy_agg, refy_val, refy_kp, refy_tsl, cl_len, hexs_len, hd16] <;> omega) | decide) only [go_sem, ↓reduceIte, Nat.reduceEqDiff, reduceCtorEq, Nat.reduceLT, Nat.reduceBEq, Nat.reduceAdd, Nat.reduceSub, Nat.reduceMul, Nat.reduceMod, Int.reduceMod, Int.reduceToNat, Int.reduceNeg, hdg]
  refine hK3 _ ?_
  clear hK3 K3
  refine Tr.kp [0, 3, 4] ?_
  simp only [pk_cons, pk_nil, ↓A_cons, ↓reduceIte, Nat.reduceEqDiff, reduceCtorEq]
  refine Tr.seqK fun K4 hK4 => ?_
  refine Tr.seqK fun K5 hK5 => ?_
  -- region 3 (law.go:13)
  refine Tr.rg hcx [] _ [] rfl rfl rfl ?_
  simp -implicitDefEqProofs (maxSteps := 2000000) (disch := first | omega | (simp only [List.length_append, List.length_replicate, List.length_set, List.length_drop, List.length_take, List.length_cons, List.length_nil, one_w32, one_w8, one_nI, one_nU, one_str, one_bool, one_int, one_slice, refy_sv, refy_bp, refy_agg, refy_val, refy_kp, refy_tsl, cl_len, hexs_len, hd16] <;> omega) | decide) only [go_sem, ↓reduceIte, Nat.reduceEqDiff, reduceCtorEq, Nat.reduceLT, Nat.reduceBEq, Nat.reduceAdd, Nat.reduceSub, Nat.reduceMul, Nat.reduceMod, Int.reduceMod, Int.reduceToNat, Int.reduceNeg, hdg]
  refine hK5 _ ?_
  clear hK5 K5
  refine Tr.kp [0, 3, 4, 5] ?_
  simp only [pk_cons, pk_nil, ↓A_cons, ↓reduceIte, Nat.reduceEqDiff, reduceCtorEq]
  refine Tr.blk ?_
  refine Tr.loopI (α := Nat) (fun a => [(0, ?v0_110), (3, .val (str hexd)), (4, sl bC (.own 1) (hexs (s.take a))), (5, .val (nI a))]) (fun a => ?h_110) (fun a => a ≤ s.length) (fun a => s.length - a) (0) ?_ ?le_110 ?hh_110 ?bd_110
  case hh_110 => exact rfl
  case le_110 => (simp only [Le_nil, Le_cons, ↓A_cons, ↓reduceIte, Nat.reduceEqDiff, reduceCtorEq, CLe_refl, CLe_top, CLe_full, CLe_nil, CLe_own, and_true, true_and]; all_goals (repeat' first | exact CLe.refl _ | exact True.intro | (refine CLe_sln ?_; first | with_reducible rfl | (simp only [List.take_zero]; done) | (rfl; done)) | exact CLe_nI (by omega) | exact CLe_int (by omega) | exact CLe_inI (by omega) | exact CLe_nIi (by omega) | with_reducible apply And.intro))
  · omega
  case bd_110 =>
    rintro i hi
    have hn : (gt s i / UInt8.ofNat 16).toNat < 16 ∧ (gt s i % UInt8.ofNat 16).toNat < 16 := nib (gt s i)
    refine Tr.seqK fun K6 hK6 => ?_
    refine Tr.seqK fun K7 hK7 => ?_
    -- region 4 (law.go:13)
    refine Tr.rg hcx [] _ [] rfl rfl rfl ?_
    simp -implicitDefEqProofs (maxSteps := 2000000) (disch := first | omega | (simp only [List.length_append, List.length_replicate, List.length_set, List.length_drop, List.length_take, List.length_cons, List.length_nil, one_w32, one_w8, one_nI, one_nU, one_str, one_bool, one_int, one_slice, refy_sv, refy_bp, refy_agg, refy_val, refy_kp, refy_tsl, cl_len, hexs_len, hd16] <;> omega) | decide) only [go_sem, ↓reduceIte, Nat.reduceEqDiff, reduceCtorEq, Nat.reduceLT, Nat.reduceBEq, Nat.reduceAdd, Nat.reduceSub, Nat.reduceMul, Nat.reduceMod, Int.reduceMod, Int.reduceToNat, Int.reduceNeg, hdg]
    refine hK7 _ ?_
    clear hK7 K7
    refine Tr.kp [0, 3, 4, 5, 9] ?_
    simp only [pk_cons, pk_nil, ↓A_cons, ↓reduceIte, Nat.reduceEqDiff, reduceCtorEq]
    refine Tr.condG fun KT KF hT hF => ?_
    simp only [ev_tmp, ev_const, ↓A_cons, ↓reduceIte, Nat.reduceEqDiff, reduceCtorEq, condG_bool, GB_true, GB_false, decide_eq_true_eq]
    refine GB.dec (fun hc9 => hT ?_) (fun hc9 => hF ?_)
    ·
      clear hT hF KT KF
      refine Tr.skip ?_
      refine hK6 _ ?_
      clear hK6 K6
      refine Tr.kp [0, 3, 4, 5] ?_
      simp only [pk_cons, pk_nil, ↓A_cons, ↓reduceIte, Nat.reduceEqDiff, reduceCtorEq]
      refine Tr.seqK fun K8 hK8 => ?_
      refine Tr.blk ?_
      -- region 6 (law.go:14)
      refine Tr.rgD hcx hMO [12, 1000026] _ [] rfl rfl rfl rfl ?_
      simp -implicitDefEqProofs (maxSteps := 2000000) (disch := first | omega | (simp only [List.length_append, List.length_replicate, List.length_set, List.length_drop, List.length_take, List.length_cons, List.length_nil, one_w32, one_w8, one_nI, one_nU, one_str, one_bool, one_int, one_slice, refy_sv, refy_bp, refy_agg, refy_val, refy_kp, refy_tsl, cl_len, hexs_len, hd16] <;> omega) | decide) only [go_sem, ↓reduceIte, Nat.reduceEqDiff, reduceCtorEq, Nat.reduceLT, Nat.reduceBEq, Nat.reduceAdd, Nat.reduceSub, Nat.reduceMul, Nat.reduceMod, Int.reduceMod, Int.reduceToNat, Int.reduceNeg, hdg]
      with_reducible refine And.intro ?_ ?_
      · exact rfl
      refine hK8 _ ?_
      clear hK8 K8
      refine Tr.kp [0, 3, 4, 5] ?_
      simp only [pk_cons, pk_nil, ↓A_cons, ↓reduceIte, Nat.reduceEqDiff, reduceCtorEq]
      -- region 5 (law.go:13)
      refine Tr.rg hcx [1000011] _ [] rfl rfl rfl ?_
      simp -implicitDefEqProofs (maxSteps := 2000000) (disch := first | omega | (simp only [List.length_append, List.length_replicate, List.length_set, List.length_drop, List.length_take, List.length_cons, List.length_nil, one_w32, one_w8, one_nI, one_nU, one_str, one_bool, one_int, one_slice, refy_sv, refy_bp, refy_agg, refy_val, refy_kp, refy_tsl, cl_len, hexs_len, hd16] <;> omega) | decide) only [go_sem, ↓reduceIte, Nat.reduceEqDiff, reduceCtorEq, Nat.reduceLT, Nat.reduceBEq, Nat.reduceAdd, Nat.reduceSub, Nat.reduceMul, Nat.reduceMod, Int.reduceMod, Int.reduceToNat, Int.reduceNeg, hdg]
      refine ⟨i + 1, ⟨by omega, by first | omega | (simp only []; omega)⟩, ?_, rfl⟩
      (simp only [Le_nil, Le_cons, ↓A_cons, ↓reduceIte, Nat.reduceEqDiff, reduceCtorEq, CLe_refl, CLe_top, CLe_full, CLe_nil, CLe_own, and_true, true_and]; all_goals (repeat' first | exact CLe.refl _ | exact True.intro | (refine CLe_sln ?_; first | with_reducible rfl | (simp only [List.take_zero]; done) | (rfl; done)) | exact CLe_nI (by omega) | exact CLe_int (by omega) | exact CLe_inI (by omega) | exact CLe_nIi (by omega) | with_reducible apply And.intro))
      all_goals (refine CLe_sl ?_; rw [← hexs_snoc s i hc9]; rfl)
    ·
      clear hT hF KT KF
      obtain rfl : i = s.length := by omega
      refine Tr.exit ?_
      refine hK4 _ ?_
      clear hK6 K6 hK4 K4
      refine Tr.kp [4] ?_
      simp only [pk_cons, pk_nil, ↓A_cons, ↓reduceIte, Nat.reduceEqDiff, reduceCtorEq]
      refine Tr.seqK fun K9 hK9 => ?_
      -- region 7 (law.go:16)
      refine Tr.rg hcx [1000028] _ [] rfl rfl rfl ?_
      simp -implicitDefEqProofs (maxSteps := 2000000) (disch := first | omega | (simp only [List.length_append, List.length_replicate, List.length_set, List.length_drop, List.length_take, List.length_cons, List.length_nil, one_w32, one_w8, one_nI, one_nU, one_str, one_bool, one_int, one_slice, refy_sv, refy_bp, refy_agg, refy_val, refy_kp, refy_tsl, cl_len, hexs_len, hd16] <;> omega) | decide) only [go_sem, ↓reduceIte, Nat.reduceEqDiff, reduceCtorEq, Nat.reduceLT, Nat.reduceBEq, Nat.reduceAdd, Nat.reduceSub, Nat.reduceMul, Nat.reduceMod, Int.reduceMod, Int.reduceToNat, Int.reduceNeg, hdg]
      refine hK9 _ ?_
      clear hK9 K9
      refine Tr.kp [2] ?_
      simp only [pk_cons, pk_nil, ↓A_cons, ↓reduceIte, Nat.reduceEqDiff, reduceCtorEq]
      refine Tr.ret ?_
      simp -implicitDefEqProofs (disch := first | omega | (simp only [List.length_append, List.length_replicate, List.length_set, List.length_drop, List.length_take, List.length_cons, List.length_nil, one_w32, one_w8, one_nI, one_nU, one_str, one_bool, one_int, one_slice, refy_sv, refy_bp, refy_agg, refy_val, refy_kp, refy_tsl, cl_len, hexs_len, hd16] <;> omega) | decide) only [go_sem, thenQ_n, thenQ_x, thenQ_r, blockQ_n, blockQ_r, EndsR_r, EndsR_n, resL_one, resC_tmp, resC_cell, rcP_int, rcP_bool, rcP_str, rcP_sl, rcP_arr, rcP_struct, ↓reduceIte, Nat.reduceEqDiff, reduceCtorEq]
      all_goals (rw [List.take_length])

set_option maxRecDepth 100000 in
set_option maxHeartbeats 8000000 in
theorem fc27 {gl : Nat → C} {M : Nat} {pu : Nat → List C → Option C} (hcx : CxOK (cxP gl M pu)) (b : List UInt8) (hb : b.length < 35184372088832) : FC Tryd.prog gl 27 [sl bC .no b] [] (sl bC (.own 1) (b ++ pad b.length)) [] := by
  replace hcx := hcx.reN (M := 37)
  refine FC.ofA (cx := cxP gl 37 pu) (rs := [.tmp 2]) rfl Tryd.func27 rfl rfl rfl (by simp only [List.length_cons, List.length_nil]; decide) (by simp only [noRef_val, noRef_agg, noRef_tup, noRef_kp, noRef_sl, noRefs_cl, noRefs_cons, noRefs_nil, noRefs_app, Bool.and_self, Bool.and_true]) ?_
  simp only [ini, noR_val, noR_val, noR_full, noR_no, noR_owns, noR_sv, noR_bp, noR_kp, noR_agg, noR_tup, noR_fn, noR_top, noR_slno, noR_slfull, noR_slown]
  have hz : zpad b.length < 64 := Nat.mod_lt _ (by decide)
  refine Tr.seqK fun K1 hK1 => ?_
  -- region 0 (ref.go:25)
  refine Tr.rg hcx [] _ [] rfl rfl rfl ?_
  simp -implicitDefEqProofs (maxSteps := 2000000) (disch := first | omega | (simp only [List.length_append, List.length_replicate, List.length_set, List.length_drop, List.length_take, List.length_cons, List.length_nil, one_w32, one_w8, one_nI, one_nU, one_str, one_bool, one_int, one_slice, refy_sv, refy_bp, refy_agg, refy_val, refy_kp, refy_tsl, cl_len, be64_len] <;> omega) | decide) only [go_sem, ↓reduceIte, Nat.reduceEqDiff, reduceCtorEq, Nat.reduceLT, Nat.reduceBEq, Nat.reduceAdd, Nat.reduceSub, Nat.reduceMul, Nat.reduceMod, Int.reduceMod, Int.reduceToNat, Int.reduceNeg]
  refine hK1 _ ?_
  clear hK1 K1
  refine Tr.kp [0] ?_
  simp only [pk_cons, pk_nil, ↓A_cons, ↓reduceIte, Nat.reduceEqDiff, reduceCtorEq]
  refine Tr.seqK fun K2 hK2 => ?_
  -- region 1 (ref.go:26)
  refine Tr.rg hcx [6, 1000008] _ [] rfl rfl rfl ?_
  simp -implicitDefEqProofs (maxSteps := 2000000) (disch := first | omega | (simp only [List.length_append, List.length_replicate, List.length_set, List.length_drop, List.length_take, List.length_cons, List.length_nil, one_w32, one_w8, one_nI, one_nU, one_str, one_bool, one_int, one_slice, refy_sv, refy_bp, refy_agg, refy_val, refy_kp, refy_tsl, cl_len, be64_len] <;> omega) | decide) only [go_sem, ↓reduceIte, Nat.reduceEqDiff, reduceCtorEq, Nat.reduceLT, Nat.reduceBEq, Nat.reduceAdd, Nat.reduceSub, Nat.reduceMul, Nat.reduceMod, Int.reduceMod, Int.reduceToNat, Int.reduceNeg]
  refine hK2 _ ?_
  clear hK2 K2
  refine Tr.kp [0, 3] ?_
  simp only [pk_cons, pk_nil, ↓A_cons, ↓reduceIte, Nat.reduceEqDiff, reduceCtorEq]
  refine Tr.seqK fun K3 hK3 => ?_
  -- region 2 (ref.go:27)
  refine Tr.rg hcx [9, 1000011] _ [] rfl rfl rfl ?_
  simp -implicitDefEqProofs (maxSteps := 2000000) (disch := first | omega | (simp only [List.length_append, List.length_replicate, List.length_set, List.length_drop, List.length_take, List.length_cons, List.length_nil, one_w32, one_w8, one_nI, one_nU, one_str, one_bool, one_int, one_slice, refy_sv, refy_bp, refy_agg, refy_val, refy_kp, refy_tsl, cl_len, be64_len] <;> omega) | decide) only [go_sem, ↓reduceIte, Nat.reduceEqDiff, reduceCtorEq, Nat.reduceLT, Nat.reduceBEq, Nat.reduceAdd, Nat.reduceSub, Nat.reduceMul, Nat.reduceMod, Int.reduceMod, Int.reduceToNat, Int.reduceNeg]
  refine hK3 _ ?_
  clear hK3 K3
  refine Tr.kp [0, 3] ?_
  simp only [pk_cons, pk_nil, ↓A_cons, ↓reduceIte, Nat.reduceEqDiff, reduceCtorEq]
  refine Tr.seqK fun K4 hK4 => ?_
  refine Tr.blk ?_
  refine Tr.loopI (α := Nat) (fun a => [(0, ?v0_132), (3, sl bC (.own 1) (b ++ 128 :: List.replicate a 0))]) (fun a => ?h_132) (fun a => a ≤ zpad b.length) (fun a => zpad b.length - a) (0) ?_ ?le_132 ?hh_132 ?bd_132
  case hh_132 => exact rfl
  case le_132 => (simp only [Le_nil, Le_cons, ↓A_cons, ↓reduceIte, Nat.reduceEqDiff, reduceCtorEq, CLe_refl, CLe_top, CLe_full, CLe_nil, CLe_own, and_true, true_and]; all_goals (repeat' first | exact CLe.refl _ | exact True.intro | (refine CLe_sln ?_; first | with_reducible rfl | (simp only [List.take_zero]; done) | (rfl; done)) | exact CLe_nI (by omega) | exact CLe_int (by omega) | exact CLe_inI (by omega) | exact CLe_nIi (by omega) | with_reducible apply And.intro)); all_goals exact CLe_sl (by simp)
  · omega
  case bd_132 =>
    rintro z hzz
    have hL : (b ++ 128 :: List.replicate z 0).length = b.length + 1 + z := by simp; omega
    refine Tr.seqK fun K5 hK5 => ?_
    refine Tr.seqK fun K6 hK6 => ?_
    -- region 3 (ref.go:28)
    refine Tr.rg hcx [] _ [] rfl rfl rfl ?_
    simp -implicitDefEqProofs (maxSteps := 2000000) (disch := first | omega | (simp only [List.length_append, List.length_replicate, List.length_set, List.length_drop, List.length_take, List.length_cons, List.length_nil, one_w32, one_w8, one_nI, one_nU, one_str, one_bool, one_int, one_slice, refy_sv, refy_bp, refy_agg, refy_val, refy_kp, refy_tsl, cl_len, be64_len] <;> omega) | decide) only [go_sem, ↓reduceIte, Nat.reduceEqDiff, reduceCtorEq, Nat.reduceLT, Nat.reduceBEq, Nat.reduceAdd, Nat.reduceSub, Nat.reduceMul, Nat.reduceMod, Int.reduceMod, Int.reduceToNat, Int.reduceNeg]
    refine hK6 _ ?_
    clear hK6 K6
    refine Tr.kp [0, 3, 15] ?_
    simp only [pk_cons, pk_nil, ↓A_cons, ↓reduceIte, Nat.reduceEqDiff, reduceCtorEq]
    refine Tr.condG fun KT KF hT hF => ?_
    simp only [ev_tmp, ev_const, ↓A_cons, ↓reduceIte, Nat.reduceEqDiff, reduceCtorEq, condG_bool, GB_true, GB_false, decide_eq_true_eq]
    refine GB.dec (fun hc15 => hT ?_) (fun hc15 => hF ?_)
    ·
      clear hT hF KT KF
      refine Tr.skip ?_
      refine hK5 _ ?_
      clear hK5 K5
      refine Tr.kp [0, 3] ?_
      simp only [pk_cons, pk_nil, ↓A_cons, ↓reduceIte, Nat.reduceEqDiff, reduceCtorEq]
      refine Tr.blk ?_
      -- region 4 (ref.go:29)
      refine Tr.rg hcx [16, 1000018] _ [] rfl rfl rfl ?_
      simp -implicitDefEqProofs (maxSteps := 2000000) (disch := first | omega | (simp only [List.length_append, List.length_replicate, List.length_set, List.length_drop, List.length_take, List.length_cons, List.length_nil, one_w32, one_w8, one_nI, one_nU, one_str, one_bool, one_int, one_slice, refy_sv, refy_bp, refy_agg, refy_val, refy_kp, refy_tsl, cl_len, be64_len] <;> omega) | decide) only [go_sem, ↓reduceIte, Nat.reduceEqDiff, reduceCtorEq, Nat.reduceLT, Nat.reduceBEq, Nat.reduceAdd, Nat.reduceSub, Nat.reduceMul, Nat.reduceMod, Int.reduceMod, Int.reduceToNat, Int.reduceNeg]
      refine ⟨z + 1, ⟨by unfold zpad at *; omega, by unfold zpad at *; omega⟩, ?_, rfl⟩
      (simp only [Le_nil, Le_cons, ↓A_cons, ↓reduceIte, Nat.reduceEqDiff, reduceCtorEq, CLe_refl, CLe_top, CLe_full, CLe_nil, CLe_own, and_true, true_and]; all_goals (repeat' first | exact CLe.refl _ | exact True.intro | (refine CLe_sln ?_; first | with_reducible rfl | (simp only [List.take_zero]; done) | (rfl; done)) | exact CLe_nI (by omega) | exact CLe_int (by omega) | exact CLe_inI (by omega) | exact CLe_nIi (by omega) | with_reducible apply And.intro))
      all_goals (refine CLe_sl ?_; rw [← rep_snoc z]; simp)
    ·
      clear hT hF KT KF
      obtain rfl : z = zpad b.length := by unfold zpad at *; omega
      refine Tr.exit ?_
      refine hK4 _ ?_
      clear hK5 K5 hK4 K4
      refine Tr.kp [0, 3] ?_
      simp only [pk_cons, pk_nil, ↓A_cons, ↓reduceIte, Nat.reduceEqDiff, reduceCtorEq]
      refine Tr.seqK fun K7 hK7 => ?_
      -- region 5 (ref.go:31)
      refine Tr.rg hcx [1000022] _ [] rfl rfl rfl ?_
      simp -implicitDefEqProofs (maxSteps := 2000000) (disch := first | omega | (simp only [List.length_append, List.length_replicate, List.length_set, List.length_drop, List.length_take, List.length_cons, List.length_nil, one_w32, one_w8, one_nI, one_nU, one_str, one_bool, one_int, one_slice, refy_sv, refy_bp, refy_agg, refy_val, refy_kp, refy_tsl, cl_len, be64_len] <;> omega) | decide) only [go_sem, ↓reduceIte, Nat.reduceEqDiff, reduceCtorEq, Nat.reduceLT, Nat.reduceBEq, Nat.reduceAdd, Nat.reduceSub, Nat.reduceMul, Nat.reduceMod, Int.reduceMod, Int.reduceToNat, Int.reduceNeg]
      refine hK7 _ ?_
      clear hK7 K7
      refine Tr.kp [3, 4] ?_
      simp only [pk_cons, pk_nil, ↓A_cons, ↓reduceIte, Nat.reduceEqDiff, reduceCtorEq]
      refine Tr.seqK fun K8 hK8 => ?_
      refine Tr.seqK fun K9 hK9 => ?_
      -- region 6 (ref.go:32)
      refine Tr.rg hcx [] _ [] rfl rfl rfl ?_
      simp -implicitDefEqProofs (maxSteps := 2000000) (disch := first | omega | (simp only [List.length_append, List.length_replicate, List.length_set, List.length_drop, List.length_take, List.length_cons, List.length_nil, one_w32, one_w8, one_nI, one_nU, one_str, one_bool, one_int, one_slice, refy_sv, refy_bp, refy_agg, refy_val, refy_kp, refy_tsl, cl_len, be64_len] <;> omega) | decide) only [go_sem, ↓reduceIte, Nat.reduceEqDiff, reduceCtorEq, Nat.reduceLT, Nat.reduceBEq, Nat.reduceAdd, Nat.reduceSub, Nat.reduceMul, Nat.reduceMod, Int.reduceMod, Int.reduceToNat, Int.reduceNeg]
      refine hK9 _ ?_
      clear hK9 K9
      refine Tr.kp [3, 4, 5] ?_
      simp only [pk_cons, pk_nil, ↓A_cons, ↓reduceIte, Nat.reduceEqDiff, reduceCtorEq]
      refine Tr.blk ?_
      refine Tr.loopI (α := Nat) (fun a => [(3, sl bC (.own 1) (b ++ 128 :: List.replicate (zpad b.length) 0 ++ be64 (8 * b.length) a)), (4, ?v4_147), (5, .val (nI a))]) (fun a => ?h_147) (fun a => a ≤ 8) (fun a => 8 - a) (0) ?_ ?le_147 ?hh_147 ?bd_147
      case hh_147 => exact rfl
      case le_147 => (simp only [Le_nil, Le_cons, ↓A_cons, ↓reduceIte, Nat.reduceEqDiff, reduceCtorEq, CLe_refl, CLe_top, CLe_full, CLe_nil, CLe_own, and_true, true_and]; all_goals (repeat' first | exact CLe.refl _ | exact True.intro | (refine CLe_sln ?_; first | with_reducible rfl | (simp only [List.take_zero]; done) | (rfl; done)) | exact CLe_nI (by omega) | exact CLe_int (by omega) | exact CLe_inI (by omega) | exact CLe_nIi (by omega) | with_reducible apply And.intro)); all_goals exact CLe_sl (by simp [be64])
      · omega
      case bd_147 =>
        rintro k hk
        refine Tr.seqK fun K10 hK10 => ?_
        refine Tr.seqK fun K11 hK11 => ?_
        -- region 7 (ref.go:32)
        refine Tr.rg hcx [] _ [] rfl rfl rfl ?_
        simp -implicitDefEqProofs (maxSteps := 2000000) (disch := first | omega | (simp only [List.length_append, List.length_replicate, List.length_set, List.length_drop, List.length_take, List.length_cons, List.length_nil, one_w32, one_w8, one_nI, one_nU, one_str, one_bool, one_int, one_slice, refy_sv, refy_bp, refy_agg, refy_val, refy_kp, refy_tsl, cl_len, be64_len] <;> omega) | decide) only [go_sem, ↓reduceIte, Nat.reduceEqDiff, reduceCtorEq, Nat.reduceLT, Nat.reduceBEq, Nat.reduceAdd, Nat.reduceSub, Nat.reduceMul, Nat.reduceMod, Int.reduceMod, Int.reduceToNat, Int.reduceNeg]
        refine hK11 _ ?_
        clear hK11 K11
        refine Tr.kp [3, 4, 5, 24] ?_
        simp only [pk_cons, pk_nil, ↓A_cons, ↓reduceIte, Nat.reduceEqDiff, reduceCtorEq]
        refine Tr.condG fun KT KF hT hF => ?_
        simp only [ev_tmp, ev_const, ↓A_cons, ↓reduceIte, Nat.reduceEqDiff, reduceCtorEq, condG_bool, GB_true, GB_false, decide_eq_true_eq]
        refine GB.dec (fun hc24 => hT ?_) (fun hc24 => hF ?_)
        ·
          clear hT hF KT KF
          refine Tr.skip ?_
          refine hK10 _ ?_
          clear hK10 K10
          refine Tr.kp [3, 4, 5] ?_
          simp only [pk_cons, pk_nil, ↓A_cons, ↓reduceIte, Nat.reduceEqDiff, reduceCtorEq]
          refine Tr.seqK fun K12 hK12 => ?_
          refine Tr.blk ?_
          -- region 9 (ref.go:33)
          refine Tr.rg hcx [27, 1000035] _ [] rfl rfl rfl ?_
          simp -implicitDefEqProofs (maxSteps := 2000000) (disch := first | omega | (simp only [List.length_append, List.length_replicate, List.length_set, List.length_drop, List.length_take, List.length_cons, List.length_nil, one_w32, one_w8, one_nI, one_nU, one_str, one_bool, one_int, one_slice, refy_sv, refy_bp, refy_agg, refy_val, refy_kp, refy_tsl, cl_len, be64_len] <;> omega) | decide) only [go_sem, ↓reduceIte, Nat.reduceEqDiff, reduceCtorEq, Nat.reduceLT, Nat.reduceBEq, Nat.reduceAdd, Nat.reduceSub, Nat.reduceMul, Nat.reduceMod, Int.reduceMod, Int.reduceToNat, Int.reduceNeg]
          refine hK12 _ ?_
          clear hK12 K12
          refine Tr.kp [3, 4, 5] ?_
          simp only [pk_cons, pk_nil, ↓A_cons, ↓reduceIte, Nat.reduceEqDiff, reduceCtorEq]
          -- region 8 (ref.go:32)
          refine Tr.rg hcx [1000026] _ [] rfl rfl rfl ?_
          simp -implicitDefEqProofs (maxSteps := 2000000) (disch := first | omega | (simp only [List.length_append, List.length_replicate, List.length_set, List.length_drop, List.length_take, List.length_cons, List.length_nil, one_w32, one_w8, one_nI, one_nU, one_str, one_bool, one_int, one_slice, refy_sv, refy_bp, refy_agg, refy_val, refy_kp, refy_tsl, cl_len, be64_len] <;> omega) | decide) only [go_sem, ↓reduceIte, Nat.reduceEqDiff, reduceCtorEq, Nat.reduceLT, Nat.reduceBEq, Nat.reduceAdd, Nat.reduceSub, Nat.reduceMul, Nat.reduceMod, Int.reduceMod, Int.reduceToNat, Int.reduceNeg]
          refine ⟨k + 1, ⟨by omega, by first | omega | (simp only []; omega)⟩, ?_, rfl⟩
          (simp only [Le_nil, Le_cons, ↓A_cons, ↓reduceIte, Nat.reduceEqDiff, reduceCtorEq, CLe_refl, CLe_top, CLe_full, CLe_nil, CLe_own, and_true, true_and]; all_goals (repeat' first | exact CLe.refl _ | exact True.intro | (refine CLe_sln ?_; first | with_reducible rfl | (simp only [List.take_zero]; done) | (rfl; done)) | exact CLe_nI (by omega) | exact CLe_int (by omega) | exact CLe_inI (by omega) | exact CLe_nIi (by omega) | with_reducible apply And.intro))
          all_goals (refine CLe_sl ?_; rw [be64_succ]; simp)
        ·
          clear hT hF KT KF
          obtain rfl : k = 8 := by omega
          refine Tr.exit ?_
          refine hK8 _ ?_
          clear hK10 K10 hK8 K8
          refine Tr.kp [3] ?_
          simp only [pk_cons, pk_nil, ↓A_cons, ↓reduceIte, Nat.reduceEqDiff, reduceCtorEq]
          refine Tr.seqK fun K13 hK13 => ?_
          -- region 10 (ref.go:35)
          refine Tr.rg hcx [1000036] _ [] rfl rfl rfl ?_
          simp -implicitDefEqProofs (maxSteps := 2000000) (disch := first | omega | (simp only [List.length_append, List.length_replicate, List.length_set, List.length_drop, List.length_take, List.length_cons, List.length_nil, one_w32, one_w8, one_nI, one_nU, one_str, one_bool, one_int, one_slice, refy_sv, refy_bp, refy_agg, refy_val, refy_kp, refy_tsl, cl_len, be64_len] <;> omega) | decide) only [go_sem, ↓reduceIte, Nat.reduceEqDiff, reduceCtorEq, Nat.reduceLT, Nat.reduceBEq, Nat.reduceAdd, Nat.reduceSub, Nat.reduceMul, Nat.reduceMod, Int.reduceMod, Int.reduceToNat, Int.reduceNeg]
          refine hK13 _ ?_
          clear hK13 K13
          refine Tr.kp [2] ?_
          simp only [pk_cons, pk_nil, ↓A_cons, ↓reduceIte, Nat.reduceEqDiff, reduceCtorEq]
          refine Tr.ret ?_
          simp -implicitDefEqProofs (disch := first | omega | (simp only [List.length_append, List.length_replicate, List.length_set, List.length_drop, List.length_take, List.length_cons, List.length_nil, one_w32, one_w8, one_nI, one_nU, one_str, one_bool, one_int, one_slice, refy_sv, refy_bp, refy_agg, refy_val, refy_kp, refy_tsl, cl_len, be64_len] <;> omega) | decide) only [go_sem, thenQ_n, thenQ_x, thenQ_r, blockQ_n, blockQ_r, EndsR_r, EndsR_n, resL_one, resC_tmp, resC_cell, rcP_int, rcP_bool, rcP_str, rcP_sl, rcP_arr, rcP_struct, ↓reduceIte, Nat.reduceEqDiff, reduceCtorEq]
          all_goals (simp [pad])

set_option maxRecDepth 100000 in
set_option maxHeartbeats 8000000 in
theorem fc28 {gl : Nat → C} {M : Nat} {pu : Nat → List C → Option C} (hcx : CxOK (cxP gl M pu)) (h29 : ∀ x n, n < 32 → pu 29 [.val (w32 x), .val (nI n)] = some (.val (w32 (rr x n)))) (b : List UInt8) (hb : b.length = 64) : FC Tryd.prog gl 28 [sl bC .no b] [] (.agg (cl wC (sched b 64))) [] := by
  replace hcx := hcx.reN (M := 101)
  refine FC.ofA (cx := cxP gl 101 pu) (rs := [.cell 2 54]) rfl Tryd.func28 rfl rfl rfl (by simp only [List.length_cons, List.length_nil]; decide) (by simp only [noRef_val, noRef_agg, noRef_tup, noRef_kp, noRef_sl, noRefs_cl, noRefs_cons, noRefs_nil, noRefs_app, Bool.and_self, Bool.and_true]) ?_
  simp only [ini, noR_val, noR_val, noR_full, noR_no, noR_owns, noR_sv, noR_bp, noR_kp, noR_agg, noR_tup, noR_fn, noR_top, noR_slno, noR_slfull, noR_slown]
  refine Tr.seqK fun K1 hK1 => ?_
  -- region 0 (ref.go:39)
  refine Tr.rg hcx [] _ [none] rfl rfl rfl ?_
  simp -implicitDefEqProofs (maxSteps := 2000000) (disch := first | omega | (simp only [List.length_append, List.length_replicate, List.length_set, List.length_drop, List.length_take, List.length_cons, List.length_nil, one_w32, one_w8, one_nI, one_nU, one_str, one_bool, one_int, one_slice, refy_sv, refy_bp, refy_agg, refy_val, refy_kp, refy_tsl, cl_len, sched_len, hb] <;> omega) | decide) only [go_sem, ↓reduceIte, Nat.reduceEqDiff, reduceCtorEq, Nat.reduceLT, Nat.reduceBEq, Nat.reduceAdd, Nat.reduceSub, Nat.reduceMul, Nat.reduceMod, Int.reduceMod, Int.reduceToNat, Int.reduceNeg, h29, gt_left, gt_mid, set_rep, sched_len]
  refine hK1 _ ?_
  clear hK1 K1
  refine Tr.kp [0, 2] ?_
  simp only [pk_cons, pk_nil, ↓A_cons, ↓reduceIte, Nat.reduceEqDiff, reduceCtorEq]
  refine Tr.seqK fun K2 hK2 => ?_
  -- region 1 (ref.go:40)
  refine Tr.rg hcx [] _ [none] rfl rfl rfl ?_
  simp -implicitDefEqProofs (maxSteps := 2000000) (disch := first | omega | (simp only [List.length_append, List.length_replicate, List.length_set, List.length_drop, List.length_take, List.length_cons, List.length_nil, one_w32, one_w8, one_nI, one_nU, one_str, one_bool, one_int, one_slice, refy_sv, refy_bp, refy_agg, refy_val, refy_kp, refy_tsl, cl_len, sched_len, hb] <;> omega) | decide) only [go_sem, ↓reduceIte, Nat.reduceEqDiff, reduceCtorEq, Nat.reduceLT, Nat.reduceBEq, Nat.reduceAdd, Nat.reduceSub, Nat.reduceMul, Nat.reduceMod, Int.reduceMod, Int.reduceToNat, Int.reduceNeg, h29, gt_left, gt_mid, set_rep, sched_len]
  refine hK2 _ ?_
  clear hK2 K2
  refine Tr.kp [0, 2, 3] ?_
  simp only [pk_cons, pk_nil, ↓A_cons, ↓reduceIte, Nat.reduceEqDiff, reduceCtorEq]
  refine Tr.seqK fun K3 hK3 => ?_
  refine Tr.seqK fun K4 hK4 => ?_
  -- region 2 (ref.go:41)
  refine Tr.rg hcx [] _ [] rfl rfl rfl ?_
  simp -implicitDefEqProofs (maxSteps := 2000000) (disch := first | omega | (simp only [List.length_append, List.length_replicate, List.length_set, List.length_drop, List.length_take, List.length_cons, List.length_nil, one_w32, one_w8, one_nI, one_nU, one_str, one_bool, one_int, one_slice, refy_sv, refy_bp, refy_agg, refy_val, refy_kp, refy_tsl, cl_len, sched_len, hb] <;> omega) | decide) only [go_sem, ↓reduceIte, Nat.reduceEqDiff, reduceCtorEq, Nat.reduceLT, Nat.reduceBEq, Nat.reduceAdd, Nat.reduceSub, Nat.reduceMul, Nat.reduceMod, Int.reduceMod, Int.reduceToNat, Int.reduceNeg, h29, gt_left, gt_mid, set_rep, sched_len]
  refine hK4 _ ?_
  clear hK4 K4
  refine Tr.kp [0, 2, 3, 4] ?_
  simp only [pk_cons, pk_nil, ↓A_cons, ↓reduceIte, Nat.reduceEqDiff, reduceCtorEq]
  refine Tr.blk ?_
  refine Tr.loopI (α := Nat) (fun a => [(0, ?v0_169), (2, ?v2_169), (3, ?v3_169), (4, .val (nI a))]) (fun a => [some (cl wC (List.replicate 64 0)), some (cl wC (sched b a ++ List.replicate (64 - a) 0))]) (fun a => a ≤ 16) (fun a => 16 - a) (0) ?_ ?le_169 ?hh_169 ?bd_169
  case hh_169 => exact rfl
  case le_169 => (simp only [Le_nil, Le_cons, ↓A_cons, ↓reduceIte, Nat.reduceEqDiff, reduceCtorEq, CLe_refl, CLe_top, CLe_full, CLe_nil, CLe_own, and_true, true_and]; all_goals (repeat' first | exact CLe.refl _ | exact True.intro | (refine CLe_sln ?_; first | with_reducible rfl | (simp only [List.take_zero]; done) | (rfl; done)) | exact CLe_nI (by omega) | exact CLe_int (by omega) | exact CLe_inI (by omega) | exact CLe_nIi (by omega) | with_reducible apply And.intro))
  · omega
  case bd_169 =>
    rintro t ht
    refine Tr.seqK fun K5 hK5 => ?_
    refine Tr.seqK fun K6 hK6 => ?_
    -- region 3 (ref.go:41)
    refine Tr.rg hcx [] _ [] rfl rfl rfl ?_
    simp -implicitDefEqProofs (maxSteps := 2000000) (disch := first | omega | (simp only [List.length_append, List.length_replicate, List.length_set, List.length_drop, List.length_take, List.length_cons, List.length_nil, one_w32, one_w8, one_nI, one_nU, one_str, one_bool, one_int, one_slice, refy_sv, refy_bp, refy_agg, refy_val, refy_kp, refy_tsl, cl_len, sched_len, hb] <;> omega) | decide) only [go_sem, ↓reduceIte, Nat.reduceEqDiff, reduceCtorEq, Nat.reduceLT, Nat.reduceBEq, Nat.reduceAdd, Nat.reduceSub, Nat.reduceMul, Nat.reduceMod, Int.reduceMod, Int.reduceToNat, Int.reduceNeg, h29, gt_left, gt_mid, set_rep, sched_len]
    refine hK6 _ ?_
    clear hK6 K6
    refine Tr.kp [0, 2, 3, 4, 9] ?_
    simp only [pk_cons, pk_nil, ↓A_cons, ↓reduceIte, Nat.reduceEqDiff, reduceCtorEq]
    refine Tr.condG fun KT KF hT hF => ?_
    simp only [ev_tmp, ev_const, ↓A_cons, ↓reduceIte, Nat.reduceEqDiff, reduceCtorEq, condG_bool, GB_true, GB_false, decide_eq_true_eq]
    refine GB.dec (fun hc9 => hT ?_) (fun hc9 => hF ?_)
    ·
      clear hT hF KT KF
      refine Tr.skip ?_
      refine hK5 _ ?_
      clear hK5 K5
      refine Tr.kp [0, 2, 3, 4] ?_
      simp only [pk_cons, pk_nil, ↓A_cons, ↓reduceIte, Nat.reduceEqDiff, reduceCtorEq]
      refine Tr.seqK fun K7 hK7 => ?_
      refine Tr.blk ?_
      -- region 5 (ref.go:42)
      refine Tr.rgD hcx hMO [] _ [] rfl rfl rfl rfl ?_
      simp -implicitDefEqProofs (maxSteps := 2000000) (disch := first | omega | (simp only [List.length_append, List.length_replicate, List.length_set, List.length_drop, List.length_take, List.length_cons, List.length_nil, one_w32, one_w8, one_nI, one_nU, one_str, one_bool, one_int, one_slice, refy_sv, refy_bp, refy_agg, refy_val, refy_kp, refy_tsl, cl_len, sched_len, hb] <;> omega) | decide) only [go_sem, ↓reduceIte, Nat.reduceEqDiff, reduceCtorEq, Nat.reduceLT, Nat.reduceBEq, Nat.reduceAdd, Nat.reduceSub, Nat.reduceMul, Nat.reduceMod, Int.reduceMod, Int.reduceToNat, Int.reduceNeg, h29, gt_left, gt_mid, set_rep, sched_len]
      with_reducible refine And.intro ?_ ?_
      · exact rfl
      refine hK7 _ ?_
      clear hK7 K7
      refine Tr.kp [0, 2, 3, 4] ?_
      simp only [pk_cons, pk_nil, ↓A_cons, ↓reduceIte, Nat.reduceEqDiff, reduceCtorEq]
      -- region 4 (ref.go:41)
      refine Tr.rg hcx [1000011] _ [] rfl rfl rfl ?_
      simp -implicitDefEqProofs (maxSteps := 2000000) (disch := first | omega | (simp only [List.length_append, List.length_replicate, List.length_set, List.length_drop, List.length_take, List.length_cons, List.length_nil, one_w32, one_w8, one_nI, one_nU, one_str, one_bool, one_int, one_slice, refy_sv, refy_bp, refy_agg, refy_val, refy_kp, refy_tsl, cl_len, sched_len, hb] <;> omega) | decide) only [go_sem, ↓reduceIte, Nat.reduceEqDiff, reduceCtorEq, Nat.reduceLT, Nat.reduceBEq, Nat.reduceAdd, Nat.reduceSub, Nat.reduceMul, Nat.reduceMod, Int.reduceMod, Int.reduceToNat, Int.reduceNeg, h29, gt_left, gt_mid, set_rep, sched_len]
      refine ⟨t + 1, ⟨by omega, by first | omega | (simp only []; omega)⟩, ?_, by dsimp only; rw [word_eq b t hc9]; first | rw [app_rep] | rw [app_rep63]; rfl⟩
      (simp only [Le_nil, Le_cons, ↓A_cons, ↓reduceIte, Nat.reduceEqDiff, reduceCtorEq, CLe_refl, CLe_top, CLe_full, CLe_nil, CLe_own, and_true, true_and]; all_goals (repeat' first | exact CLe.refl _ | exact True.intro | (refine CLe_sln ?_; first | with_reducible rfl | (simp only [List.take_zero]; done) | (rfl; done)) | exact CLe_nI (by omega) | exact CLe_int (by omega) | exact CLe_inI (by omega) | exact CLe_nIi (by omega) | with_reducible apply And.intro))
    ·
      clear hT hF KT KF
      obtain rfl : t = 16 := by omega
      refine Tr.exit ?_
      refine hK3 _ ?_
      clear hK5 K5 hK3 K3
      refine Tr.kp [2, 3] ?_
      simp only [pk_cons, pk_nil, ↓A_cons, ↓reduceIte, Nat.reduceEqDiff, reduceCtorEq]
      refine Tr.seqK fun K8 hK8 => ?_
      refine Tr.seqK fun K9 hK9 => ?_
      -- region 6 (ref.go:44)
      refine Tr.rg hcx [] _ [] rfl rfl rfl ?_
      simp -implicitDefEqProofs (maxSteps := 2000000) (disch := first | omega | (simp only [List.length_append, List.length_replicate, List.length_set, List.length_drop, List.length_take, List.length_cons, List.length_nil, one_w32, one_w8, one_nI, one_nU, one_str, one_bool, one_int, one_slice, refy_sv, refy_bp, refy_agg, refy_val, refy_kp, refy_tsl, cl_len, sched_len, hb] <;> omega) | decide) only [go_sem, ↓reduceIte, Nat.reduceEqDiff, reduceCtorEq, Nat.reduceLT, Nat.reduceBEq, Nat.reduceAdd, Nat.reduceSub, Nat.reduceMul, Nat.reduceMod, Int.reduceMod, Int.reduceToNat, Int.reduceNeg, h29, gt_left, gt_mid, set_rep, sched_len]
      refine hK9 _ ?_
      clear hK9 K9
      refine Tr.kp [2, 3, 5] ?_
      simp only [pk_cons, pk_nil, ↓A_cons, ↓reduceIte, Nat.reduceEqDiff, reduceCtorEq]
      refine Tr.blk ?_
      refine Tr.loopI (α := Nat) (fun a => [(2, ?v2_184), (3, ?v3_184), (5, .val (nI a))]) (fun a => [some (cl wC (List.replicate 64 0)), some (cl wC (sched b a ++ List.replicate (64 - a) 0))]) (fun a => 16 ≤ a ∧ a ≤ 64) (fun a => 64 - a) (16) ?_ ?le_184 ?hh_184 ?bd_184
      case hh_184 => exact rfl
      case le_184 => (simp only [Le_nil, Le_cons, ↓A_cons, ↓reduceIte, Nat.reduceEqDiff, reduceCtorEq, CLe_refl, CLe_top, CLe_full, CLe_nil, CLe_own, and_true, true_and]; all_goals (repeat' first | exact CLe.refl _ | exact True.intro | (refine CLe_sln ?_; first | with_reducible rfl | (simp only [List.take_zero]; done) | (rfl; done)) | exact CLe_nI (by omega) | exact CLe_int (by omega) | exact CLe_inI (by omega) | exact CLe_nIi (by omega) | with_reducible apply And.intro))
      · exact ⟨by omega, by omega⟩
      case bd_184 =>
        rintro t ht
        refine Tr.seqK fun K10 hK10 => ?_
        refine Tr.seqK fun K11 hK11 => ?_
        -- region 7 (ref.go:44)
        refine Tr.rg hcx [] _ [] rfl rfl rfl ?_
        simp -implicitDefEqProofs (maxSteps := 2000000) (disch := first | omega | (simp only [List.length_append, List.length_replicate, List.length_set, List.length_drop, List.length_take, List.length_cons, List.length_nil, one_w32, one_w8, one_nI, one_nU, one_str, one_bool, one_int, one_slice, refy_sv, refy_bp, refy_agg, refy_val, refy_kp, refy_tsl, cl_len, sched_len, hb] <;> omega) | decide) only [go_sem, ↓reduceIte, Nat.reduceEqDiff, reduceCtorEq, Nat.reduceLT, Nat.reduceBEq, Nat.reduceAdd, Nat.reduceSub, Nat.reduceMul, Nat.reduceMod, Int.reduceMod, Int.reduceToNat, Int.reduceNeg, h29, gt_left, gt_mid, set_rep, sched_len]
        refine hK11 _ ?_
        clear hK11 K11
        refine Tr.kp [2, 3, 5, 48] ?_
        simp only [pk_cons, pk_nil, ↓A_cons, ↓reduceIte, Nat.reduceEqDiff, reduceCtorEq]
        refine Tr.condG fun KT KF hT hF => ?_
        simp only [ev_tmp, ev_const, ↓A_cons, ↓reduceIte, Nat.reduceEqDiff, reduceCtorEq, condG_bool, GB_true, GB_false, decide_eq_true_eq]
        refine GB.dec (fun hc48 => hT ?_) (fun hc48 => hF ?_)
        ·
          clear hT hF KT KF
          refine Tr.skip ?_
          refine hK10 _ ?_
          clear hK10 K10
          refine Tr.kp [2, 3, 5] ?_
          simp only [pk_cons, pk_nil, ↓A_cons, ↓reduceIte, Nat.reduceEqDiff, reduceCtorEq]
          refine Tr.seqK fun K12 hK12 => ?_
          refine Tr.blk ?_
          refine Tr.seqK fun K13 hK13 => ?_
          -- region 9 (ref.go:45)
          refine Tr.rgD hcx hMO [1000067] _ [] rfl rfl rfl rfl ?_
          simp -implicitDefEqProofs (maxSteps := 2000000) (disch := first | omega | (simp only [List.length_append, List.length_replicate, List.length_set, List.length_drop, List.length_take, List.length_cons, List.length_nil, one_w32, one_w8, one_nI, one_nU, one_str, one_bool, one_int, one_slice, refy_sv, refy_bp, refy_agg, refy_val, refy_kp, refy_tsl, cl_len, sched_len, hb] <;> omega) | decide) only [go_sem, ↓reduceIte, Nat.reduceEqDiff, reduceCtorEq, Nat.reduceLT, Nat.reduceBEq, Nat.reduceAdd, Nat.reduceSub, Nat.reduceMul, Nat.reduceMod, Int.reduceMod, Int.reduceToNat, Int.reduceNeg, h29, gt_left, gt_mid, set_rep, sched_len]
          with_reducible refine And.intro ?_ ?_
          · exact rfl
          refine hK13 _ ?_
          clear hK13 K13
          refine Tr.kp [2, 3, 5, 6] ?_
          simp only [pk_cons, pk_nil, ↓A_cons, ↓reduceIte, Nat.reduceEqDiff, reduceCtorEq]
          refine Tr.seqK fun K14 hK14 => ?_
          -- region 10 (ref.go:46)
          refine Tr.rgD hcx hMO [1000084] _ [] rfl rfl rfl rfl ?_
          simp -implicitDefEqProofs (maxSteps := 2000000) (disch := first | omega | (simp only [List.length_append, List.length_replicate, List.length_set, List.length_drop, List.length_take, List.length_cons, List.length_nil, one_w32, one_w8, one_nI, one_nU, one_str, one_bool, one_int, one_slice, refy_sv, refy_bp, refy_agg, refy_val, refy_kp, refy_tsl, cl_len, sched_len, hb] <;> omega) | decide) only [go_sem, ↓reduceIte, Nat.reduceEqDiff, reduceCtorEq, Nat.reduceLT, Nat.reduceBEq, Nat.reduceAdd, Nat.reduceSub, Nat.reduceMul, Nat.reduceMod, Int.reduceMod, Int.reduceToNat, Int.reduceNeg, h29, gt_left, gt_mid, set_rep, sched_len]
          with_reducible refine And.intro ?_ ?_
          · exact rfl
          refine hK14 _ ?_
          clear hK14 K14
          refine Tr.kp [2, 3, 5, 6, 7] ?_
          simp only [pk_cons, pk_nil, ↓A_cons, ↓reduceIte, Nat.reduceEqDiff, reduceCtorEq]
          -- region 11 (ref.go:47)
          refine Tr.rgD hcx hMO [] _ [] rfl rfl rfl rfl ?_
          simp -implicitDefEqProofs (maxSteps := 2000000) (disch := first | omega | (simp only [List.length_append, List.length_replicate, List.length_set, List.length_drop, List.length_take, List.length_cons, List.length_nil, one_w32, one_w8, one_nI, one_nU, one_str, one_bool, one_int, one_slice, refy_sv, refy_bp, refy_agg, refy_val, refy_kp, refy_tsl, cl_len, sched_len, hb] <;> omega) | decide) only [go_sem, ↓reduceIte, Nat.reduceEqDiff, reduceCtorEq, Nat.reduceLT, Nat.reduceBEq, Nat.reduceAdd, Nat.reduceSub, Nat.reduceMul, Nat.reduceMod, Int.reduceMod, Int.reduceToNat, Int.reduceNeg, h29, gt_left, gt_mid, set_rep, sched_len]
          with_reducible refine And.intro ?_ ?_
          · exact rfl
          refine hK12 _ ?_
          clear hK12 K12
          refine Tr.kp [2, 3, 5] ?_
          simp only [pk_cons, pk_nil, ↓A_cons, ↓reduceIte, Nat.reduceEqDiff, reduceCtorEq]
          -- region 8 (ref.go:44)
          refine Tr.rg hcx [1000050] _ [] rfl rfl rfl ?_
          simp -implicitDefEqProofs (maxSteps := 2000000) (disch := first | omega | (simp only [List.length_append, List.length_replicate, List.length_set, List.length_drop, List.length_take, List.length_cons, List.length_nil, one_w32, one_w8, one_nI, one_nU, one_str, one_bool, one_int, one_slice, refy_sv, refy_bp, refy_agg, refy_val, refy_kp, refy_tsl, cl_len, sched_len, hb] <;> omega) | decide) only [go_sem, ↓reduceIte, Nat.reduceEqDiff, reduceCtorEq, Nat.reduceLT, Nat.reduceBEq, Nat.reduceAdd, Nat.reduceSub, Nat.reduceMul, Nat.reduceMod, Int.reduceMod, Int.reduceToNat, Int.reduceNeg, h29, gt_left, gt_mid, set_rep, sched_len]
          refine ⟨t + 1, ⟨by omega, by first | omega | (simp only []; omega)⟩, ?_, by dsimp only; rw [sched_big b t (by omega)]; first | rw [app_rep] | rw [app_rep63]⟩
          (simp only [Le_nil, Le_cons, ↓A_cons, ↓reduceIte, Nat.reduceEqDiff, reduceCtorEq, CLe_refl, CLe_top, CLe_full, CLe_nil, CLe_own, and_true, true_and]; all_goals (repeat' first | exact CLe.refl _ | exact True.intro | (refine CLe_sln ?_; first | with_reducible rfl | (simp only [List.take_zero]; done) | (rfl; done)) | exact CLe_nI (by omega) | exact CLe_int (by omega) | exact CLe_inI (by omega) | exact CLe_nIi (by omega) | with_reducible apply And.intro))
        ·
          clear hT hF KT KF
          obtain rfl : t = 64 := by omega
          refine Tr.exit ?_
          refine hK8 _ ?_
          clear hK10 K10 hK8 K8
          refine Tr.kp [2, 3] ?_
          simp only [pk_cons, pk_nil, ↓A_cons, ↓reduceIte, Nat.reduceEqDiff, reduceCtorEq]
          refine Tr.seqK fun K15 hK15 => ?_
          -- region 12 (ref.go:49)
          refine Tr.rg hcx [] _ [] rfl rfl rfl ?_
          simp -implicitDefEqProofs (maxSteps := 2000000) (disch := first | omega | (simp only [List.length_append, List.length_replicate, List.length_set, List.length_drop, List.length_take, List.length_cons, List.length_nil, one_w32, one_w8, one_nI, one_nU, one_str, one_bool, one_int, one_slice, refy_sv, refy_bp, refy_agg, refy_val, refy_kp, refy_tsl, cl_len, sched_len, hb] <;> omega) | decide) only [go_sem, ↓reduceIte, Nat.reduceEqDiff, reduceCtorEq, Nat.reduceLT, Nat.reduceBEq, Nat.reduceAdd, Nat.reduceSub, Nat.reduceMul, Nat.reduceMod, Int.reduceMod, Int.reduceToNat, Int.reduceNeg, h29, gt_left, gt_mid, set_rep, sched_len]
          refine hK15 _ ?_
          clear hK15 K15
          refine Tr.kp [2] ?_
          simp only [pk_cons, pk_nil, ↓A_cons, ↓reduceIte, Nat.reduceEqDiff, reduceCtorEq]
          refine Tr.ret ?_
          simp -implicitDefEqProofs (disch := first | omega | (simp only [List.length_append, List.length_replicate, List.length_set, List.length_drop, List.length_take, List.length_cons, List.length_nil, one_w32, one_w8, one_nI, one_nU, one_str, one_bool, one_int, one_slice, refy_sv, refy_bp, refy_agg, refy_val, refy_kp, refy_tsl, cl_len, sched_len, hb] <;> omega) | decide) only [go_sem, thenQ_n, thenQ_x, thenQ_r, blockQ_n, blockQ_r, EndsR_r, EndsR_n, resL_one, resC_tmp, resC_cell, rcP_int, rcP_bool, rcP_str, rcP_sl, rcP_arr, rcP_struct, ↓reduceIte, Nat.reduceEqDiff, reduceCtorEq]
          all_goals (simp)

end Go.Sx
