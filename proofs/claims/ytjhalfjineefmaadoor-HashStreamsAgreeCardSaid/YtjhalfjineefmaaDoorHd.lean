/-
  Package hash: contracts of functions. Package hash: contracts of functions. Package hash: contracts of functions.
-/
import Derived.Test.YtjhalfjineefmaaDoorHa
set_option linter.unusedSimpArgs false
set_option linter.unusedVariables false
namespace Go.Sx
open Go.RowKit Go.Proofs


set_option maxRecDepth 100000 in
set_option maxHeartbeats 8000000 in
theorem fc6 {gl : Nat → C} {M : Nat} {pu : Nat → List C → Option C} (hcx : CxOK (cxP gl M pu)) (h10 : pu 10 [] = some (.val (.bool true))) (h11 : ∀ b : List UInt8, b.length < 140737488355328 → pu 11 [sl bC .no b] = some (.agg (cl bC (sha b)))) (h18 : ∀ key t : List UInt8, key.length < 1099511627776 → t.length < 1099511627776 → pu 18 [.val (str key), .val (str t)] = some (.val (str (hmac key t)))) (h20 : ∀ h : List UInt8, h.length = 32 → pu 20 [.agg (cl bC h)] = some (.val (str h))) (key t : List UInt8) : FC Tryd.prog gl 6 [.val (str key), .val (str t)] [] (.val (.bool true)) [] := by
  replace hcx := hcx.reN (M := 54)
  refine FC.ofA (cx := cxP gl 54 pu) (rs := [.tmp 4]) rfl Tryd.func6 rfl rfl rfl (by simp only [List.length_cons, List.length_nil]; decide) (by simp only [noRef_val, noRef_agg, noRef_tup, noRef_kp, noRef_sl, noRefs_cl, noRefs_cons, noRefs_nil, noRefs_app, Bool.and_self, Bool.and_true]) ?_
  simp only [ini, noR_val, noR_val, noR_full, noR_no, noR_owns, noR_sv, noR_bp, noR_kp, noR_agg, noR_tup, noR_fn, noR_top, noR_slno, noR_slfull, noR_slown]
  refine Tr.seqK fun K1 hK1 => ?_
  -- region 0 (law.go:72)
  refine Tr.rg hcx [] _ [] rfl rfl rfl ?_
  simp -implicitDefEqProofs (maxSteps := 2000000) (disch := first | omega | (simp only [List.length_append, List.length_replicate, List.length_set, List.length_drop, List.length_take, List.length_cons, List.length_nil, one_w32, one_w8, one_nI, one_nU, one_str, one_bool, one_int, one_slice, refy_sv, refy_bp, refy_agg, refy_val, refy_kp, refy_tsl, cl_len, sha_len, hmac_len] <;> omega) | decide) only [go_sem, ↓reduceIte, Nat.reduceEqDiff, reduceCtorEq, Nat.reduceLT, Nat.reduceBEq, Nat.reduceAdd, Nat.reduceSub, Nat.reduceMul, Nat.reduceMod, Int.reduceMod, Int.reduceToNat, Int.reduceNeg, h10, h11, h18, h20]
  refine hK1 _ ?_
  clear hK1 K1
  refine Tr.kp [0, 1] ?_
  simp only [pk_cons, pk_nil, ↓A_cons, ↓reduceIte, Nat.reduceEqDiff, reduceCtorEq]
  refine Tr.seqK fun K2 hK2 => ?_
  -- region 1 (law.go:73)
  refine Tr.rg hcx [1000008] _ [] rfl rfl rfl ?_
  simp -implicitDefEqProofs (maxSteps := 2000000) (disch := first | omega | (simp only [List.length_append, List.length_replicate, List.length_set, List.length_drop, List.length_take, List.length_cons, List.length_nil, one_w32, one_w8, one_nI, one_nU, one_str, one_bool, one_int, one_slice, refy_sv, refy_bp, refy_agg, refy_val, refy_kp, refy_tsl, cl_len, sha_len, hmac_len] <;> omega) | decide) only [go_sem, ↓reduceIte, Nat.reduceEqDiff, reduceCtorEq, Nat.reduceLT, Nat.reduceBEq, Nat.reduceAdd, Nat.reduceSub, Nat.reduceMul, Nat.reduceMod, Int.reduceMod, Int.reduceToNat, Int.reduceNeg, h10, h11, h18, h20]
  refine hK2 _ ?_
  clear hK2 K2
  refine Tr.kp [0, 1, 5] ?_
  simp only [pk_cons, pk_nil, ↓A_cons, ↓reduceIte, Nat.reduceEqDiff, reduceCtorEq]
  refine Tr.seqK fun K3 hK3 => ?_
  refine Tr.seqK fun K4 hK4 => ?_
  by_cases hk : 400 < key.length
  ·
    by_cases ht : 400 < t.length
    ·
      -- region 2 (law.go:74)
      refine Tr.rg hcx [] [some 9, some 10, some 11, some 12, some 13, some 14, some 15, some 16] [] rfl rfl rfl ?_
      simp -implicitDefEqProofs (maxSteps := 2000000) (disch := first | omega | (simp only [List.length_append, List.length_replicate, List.length_set, List.length_drop, List.length_take, List.length_cons, List.length_nil, one_w32, one_w8, one_nI, one_nU, one_str, one_bool, one_int, one_slice, refy_sv, refy_bp, refy_agg, refy_val, refy_kp, refy_tsl, cl_len, sha_len, hmac_len] <;> omega) | decide) only [go_sem, ↓reduceIte, Nat.reduceEqDiff, reduceCtorEq, Nat.reduceLT, Nat.reduceBEq, Nat.reduceAdd, Nat.reduceSub, Nat.reduceMul, Nat.reduceMod, Int.reduceMod, Int.reduceToNat, Int.reduceNeg, h10, h11, h18, h20, hk, ht]
      refine hK4 _ ?_
      clear hK4 K4
      refine Tr.kp [0, 1, 5, 16] ?_
      simp only [pk_cons, pk_nil, ↓A_cons, ↓reduceIte, Nat.reduceEqDiff, reduceCtorEq]
      refine Tr.condG fun KT KF hT hF => ?_
      simp only [ev_tmp, ev_const, ↓A_cons, ↓reduceIte, Nat.reduceEqDiff, reduceCtorEq, condG_bool, GB_true, GB_false, decide_eq_true_eq]
      refine hT ?_
      clear hT hF KT KF
      refine Tr.seqK fun K5 hK5 => ?_
      -- region 3 (law.go:75)
      refine Tr.rg hcx [1000017] _ [] rfl rfl rfl ?_
      simp -implicitDefEqProofs (maxSteps := 2000000) (disch := first | omega | (simp only [List.length_append, List.length_replicate, List.length_set, List.length_drop, List.length_take, List.length_cons, List.length_nil, one_w32, one_w8, one_nI, one_nU, one_str, one_bool, one_int, one_slice, refy_sv, refy_bp, refy_agg, refy_val, refy_kp, refy_tsl, cl_len, sha_len, hmac_len] <;> omega) | decide) only [go_sem, ↓reduceIte, Nat.reduceEqDiff, reduceCtorEq, Nat.reduceLT, Nat.reduceBEq, Nat.reduceAdd, Nat.reduceSub, Nat.reduceMul, Nat.reduceMod, Int.reduceMod, Int.reduceToNat, Int.reduceNeg, h10, h11, h18, h20, hk, ht]
      refine hK5 _ ?_
      clear hK5 K5
      refine Tr.kp [4] ?_
      simp only [pk_cons, pk_nil, ↓A_cons, ↓reduceIte, Nat.reduceEqDiff, reduceCtorEq]
      refine Tr.ret ?_
      simp -implicitDefEqProofs (disch := first | omega | (simp only [List.length_append, List.length_replicate, List.length_set, List.length_drop, List.length_take, List.length_cons, List.length_nil, one_w32, one_w8, one_nI, one_nU, one_str, one_bool, one_int, one_slice, refy_sv, refy_bp, refy_agg, refy_val, refy_kp, refy_tsl, cl_len, sha_len, hmac_len] <;> omega) | decide) only [go_sem, thenQ_n, thenQ_x, thenQ_r, blockQ_n, blockQ_r, EndsR_r, EndsR_n, resL_one, resC_tmp, resC_cell, rcP_int, rcP_bool, rcP_str, rcP_sl, rcP_arr, rcP_struct, ↓reduceIte, Nat.reduceEqDiff, reduceCtorEq]
      all_goals (simp [hmac_len])
    ·
      -- region 2 (law.go:74)
      refine Tr.rg hcx [] [some 9, some 10, some 11, some 12, some 13, some 14, some 15, some 16] [] rfl rfl rfl ?_
      simp -implicitDefEqProofs (maxSteps := 2000000) (disch := first | omega | (simp only [List.length_append, List.length_replicate, List.length_set, List.length_drop, List.length_take, List.length_cons, List.length_nil, one_w32, one_w8, one_nI, one_nU, one_str, one_bool, one_int, one_slice, refy_sv, refy_bp, refy_agg, refy_val, refy_kp, refy_tsl, cl_len, sha_len, hmac_len] <;> omega) | decide) only [go_sem, ↓reduceIte, Nat.reduceEqDiff, reduceCtorEq, Nat.reduceLT, Nat.reduceBEq, Nat.reduceAdd, Nat.reduceSub, Nat.reduceMul, Nat.reduceMod, Int.reduceMod, Int.reduceToNat, Int.reduceNeg, h10, h11, h18, h20, hk, ht]
      refine hK4 _ ?_
      clear hK4 K4
      refine Tr.kp [0, 1, 5, 16] ?_
      simp only [pk_cons, pk_nil, ↓A_cons, ↓reduceIte, Nat.reduceEqDiff, reduceCtorEq]
      refine Tr.condG fun KT KF hT hF => ?_
      simp only [ev_tmp, ev_const, ↓A_cons, ↓reduceIte, Nat.reduceEqDiff, reduceCtorEq, condG_bool, GB_true, GB_false, decide_eq_true_eq]
      refine hT ?_
      clear hT hF KT KF
      refine Tr.seqK fun K6 hK6 => ?_
      -- region 3 (law.go:75)
      refine Tr.rg hcx [1000017] _ [] rfl rfl rfl ?_
      simp -implicitDefEqProofs (maxSteps := 2000000) (disch := first | omega | (simp only [List.length_append, List.length_replicate, List.length_set, List.length_drop, List.length_take, List.length_cons, List.length_nil, one_w32, one_w8, one_nI, one_nU, one_str, one_bool, one_int, one_slice, refy_sv, refy_bp, refy_agg, refy_val, refy_kp, refy_tsl, cl_len, sha_len, hmac_len] <;> omega) | decide) only [go_sem, ↓reduceIte, Nat.reduceEqDiff, reduceCtorEq, Nat.reduceLT, Nat.reduceBEq, Nat.reduceAdd, Nat.reduceSub, Nat.reduceMul, Nat.reduceMod, Int.reduceMod, Int.reduceToNat, Int.reduceNeg, h10, h11, h18, h20, hk, ht]
      refine hK6 _ ?_
      clear hK6 K6
      refine Tr.kp [4] ?_
      simp only [pk_cons, pk_nil, ↓A_cons, ↓reduceIte, Nat.reduceEqDiff, reduceCtorEq]
      refine Tr.ret ?_
      simp -implicitDefEqProofs (disch := first | omega | (simp only [List.length_append, List.length_replicate, List.length_set, List.length_drop, List.length_take, List.length_cons, List.length_nil, one_w32, one_w8, one_nI, one_nU, one_str, one_bool, one_int, one_slice, refy_sv, refy_bp, refy_agg, refy_val, refy_kp, refy_tsl, cl_len, sha_len, hmac_len] <;> omega) | decide) only [go_sem, thenQ_n, thenQ_x, thenQ_r, blockQ_n, blockQ_r, EndsR_r, EndsR_n, resL_one, resC_tmp, resC_cell, rcP_int, rcP_bool, rcP_str, rcP_sl, rcP_arr, rcP_struct, ↓reduceIte, Nat.reduceEqDiff, reduceCtorEq]
      all_goals (simp [hmac_len])
  ·
    by_cases ht : 400 < t.length
    ·
      -- region 2 (law.go:74)
      refine Tr.rg hcx [] [some 9, some 10, some 11, some 12, some 13, some 14, some 15, some 16] [] rfl rfl rfl ?_
      simp -implicitDefEqProofs (maxSteps := 2000000) (disch := first | omega | (simp only [List.length_append, List.length_replicate, List.length_set, List.length_drop, List.length_take, List.length_cons, List.length_nil, one_w32, one_w8, one_nI, one_nU, one_str, one_bool, one_int, one_slice, refy_sv, refy_bp, refy_agg, refy_val, refy_kp, refy_tsl, cl_len, sha_len, hmac_len] <;> omega) | decide) only [go_sem, ↓reduceIte, Nat.reduceEqDiff, reduceCtorEq, Nat.reduceLT, Nat.reduceBEq, Nat.reduceAdd, Nat.reduceSub, Nat.reduceMul, Nat.reduceMod, Int.reduceMod, Int.reduceToNat, Int.reduceNeg, h10, h11, h18, h20, hk, ht]
      refine hK4 _ ?_
      clear hK4 K4
      refine Tr.kp [0, 1, 5, 16] ?_
      simp only [pk_cons, pk_nil, ↓A_cons, ↓reduceIte, Nat.reduceEqDiff, reduceCtorEq]
      refine Tr.condG fun KT KF hT hF => ?_
      simp only [ev_tmp, ev_const, ↓A_cons, ↓reduceIte, Nat.reduceEqDiff, reduceCtorEq, condG_bool, GB_true, GB_false, decide_eq_true_eq]
      refine hT ?_
      clear hT hF KT KF
      refine Tr.seqK fun K7 hK7 => ?_
      -- region 3 (law.go:75)
      refine Tr.rg hcx [1000017] _ [] rfl rfl rfl ?_
      simp -implicitDefEqProofs (maxSteps := 2000000) (disch := first | omega | (simp only [List.length_append, List.length_replicate, List.length_set, List.length_drop, List.length_take, List.length_cons, List.length_nil, one_w32, one_w8, one_nI, one_nU, one_str, one_bool, one_int, one_slice, refy_sv, refy_bp, refy_agg, refy_val, refy_kp, refy_tsl, cl_len, sha_len, hmac_len] <;> omega) | decide) only [go_sem, ↓reduceIte, Nat.reduceEqDiff, reduceCtorEq, Nat.reduceLT, Nat.reduceBEq, Nat.reduceAdd, Nat.reduceSub, Nat.reduceMul, Nat.reduceMod, Int.reduceMod, Int.reduceToNat, Int.reduceNeg, h10, h11, h18, h20, hk, ht]
      refine hK7 _ ?_
      clear hK7 K7
      refine Tr.kp [4] ?_
      simp only [pk_cons, pk_nil, ↓A_cons, ↓reduceIte, Nat.reduceEqDiff, reduceCtorEq]
      refine Tr.ret ?_
      simp -implicitDefEqProofs (disch := first | omega | (simp only [List.length_append, List.length_replicate, List.length_set, List.length_drop, List.length_take, List.length_cons, List.length_nil, one_w32, one_w8, one_nI, one_nU, one_str, one_bool, one_int, one_slice, refy_sv, refy_bp, refy_agg, refy_val, refy_kp, refy_tsl, cl_len, sha_len, hmac_len] <;> omega) | decide) only [go_sem, thenQ_n, thenQ_x, thenQ_r, blockQ_n, blockQ_r, EndsR_r, EndsR_n, resL_one, resC_tmp, resC_cell, rcP_int, rcP_bool, rcP_str, rcP_sl, rcP_arr, rcP_struct, ↓reduceIte, Nat.reduceEqDiff, reduceCtorEq]
      all_goals (simp [hmac_len])
    ·
      -- region 2 (law.go:74)
      refine Tr.rg hcx [] [some 9, some 10, some 11, some 12, some 13, some 14, some 15, some 16] [] rfl rfl rfl ?_
      simp -implicitDefEqProofs (maxSteps := 2000000) (disch := first | omega | (simp only [List.length_append, List.length_replicate, List.length_set, List.length_drop, List.length_take, List.length_cons, List.length_nil, one_w32, one_w8, one_nI, one_nU, one_str, one_bool, one_int, one_slice, refy_sv, refy_bp, refy_agg, refy_val, refy_kp, refy_tsl, cl_len, sha_len, hmac_len] <;> omega) | decide) only [go_sem, ↓reduceIte, Nat.reduceEqDiff, reduceCtorEq, Nat.reduceLT, Nat.reduceBEq, Nat.reduceAdd, Nat.reduceSub, Nat.reduceMul, Nat.reduceMod, Int.reduceMod, Int.reduceToNat, Int.reduceNeg, h10, h11, h18, h20, hk, ht]
      refine hK4 _ ?_
      clear hK4 K4
      refine Tr.kp [0, 1, 5, 16] ?_
      simp only [pk_cons, pk_nil, ↓A_cons, ↓reduceIte, Nat.reduceEqDiff, reduceCtorEq]
      refine Tr.condG fun KT KF hT hF => ?_
      simp only [ev_tmp, ev_const, ↓A_cons, ↓reduceIte, Nat.reduceEqDiff, reduceCtorEq, condG_bool, GB_true, GB_false, decide_eq_true_eq]
      refine hF ?_
      clear hT hF KT KF
      refine Tr.skip ?_
      refine hK3 _ ?_
      clear hK3 K3
      refine Tr.kp [0, 1, 5] ?_
      simp only [pk_cons, pk_nil, ↓A_cons, ↓reduceIte, Nat.reduceEqDiff, reduceCtorEq]
      refine Tr.seqK fun K8 hK8 => ?_
      -- region 4 (law.go:77)
      refine Tr.rg hcx [1000020] _ [] rfl rfl rfl ?_
      simp -implicitDefEqProofs (maxSteps := 2000000) (disch := first | omega | (simp only [List.length_append, List.length_replicate, List.length_set, List.length_drop, List.length_take, List.length_cons, List.length_nil, one_w32, one_w8, one_nI, one_nU, one_str, one_bool, one_int, one_slice, refy_sv, refy_bp, refy_agg, refy_val, refy_kp, refy_tsl, cl_len, sha_len, hmac_len] <;> omega) | decide) only [go_sem, ↓reduceIte, Nat.reduceEqDiff, reduceCtorEq, Nat.reduceLT, Nat.reduceBEq, Nat.reduceAdd, Nat.reduceSub, Nat.reduceMul, Nat.reduceMod, Int.reduceMod, Int.reduceToNat, Int.reduceNeg, h10, h11, h18, h20, hk, ht]
      refine hK8 _ ?_
      clear hK8 K8
      refine Tr.kp [0, 1, 5, 6] ?_
      simp only [pk_cons, pk_nil, ↓A_cons, ↓reduceIte, Nat.reduceEqDiff, reduceCtorEq]
      refine Tr.seqK fun K9 hK9 => ?_
      refine Tr.seqK fun K10 hK10 => ?_
      -- region 5 (law.go:78)
      refine Tr.rg hcx [] _ [] rfl rfl rfl ?_
      simp -implicitDefEqProofs (maxSteps := 2000000) (disch := first | omega | (simp only [List.length_append, List.length_replicate, List.length_set, List.length_drop, List.length_take, List.length_cons, List.length_nil, one_w32, one_w8, one_nI, one_nU, one_str, one_bool, one_int, one_slice, refy_sv, refy_bp, refy_agg, refy_val, refy_kp, refy_tsl, cl_len, sha_len, hmac_len] <;> omega) | decide) only [go_sem, ↓reduceIte, Nat.reduceEqDiff, reduceCtorEq, Nat.reduceLT, Nat.reduceBEq, Nat.reduceAdd, Nat.reduceSub, Nat.reduceMul, Nat.reduceMod, Int.reduceMod, Int.reduceToNat, Int.reduceNeg, h10, h11, h18, h20, hk, ht]
      refine hK10 _ ?_
      clear hK10 K10
      refine Tr.kp [0, 1, 5, 6, 23] ?_
      simp only [pk_cons, pk_nil, ↓A_cons, ↓reduceIte, Nat.reduceEqDiff, reduceCtorEq]
      refine Tr.condG fun KT KF hT hF => ?_
      simp only [ev_tmp, ev_const, ↓A_cons, ↓reduceIte, Nat.reduceEqDiff, reduceCtorEq, condG_bool, GB_true, GB_false, decide_eq_true_eq]
      refine GB.dec (fun hc23 => hT ?_) (fun hc23 => hF ?_)
      ·
        clear hT hF KT KF
        have hm := hmac_long key t hc23
        refine Tr.seqK fun K11 hK11 => ?_
        -- region 6 (law.go:79)
        refine Tr.rg hcx [1000027] _ [] rfl rfl rfl ?_
        simp -implicitDefEqProofs (maxSteps := 2000000) (disch := first | omega | (simp only [List.length_append, List.length_replicate, List.length_set, List.length_drop, List.length_take, List.length_cons, List.length_nil, one_w32, one_w8, one_nI, one_nU, one_str, one_bool, one_int, one_slice, refy_sv, refy_bp, refy_agg, refy_val, refy_kp, refy_tsl, cl_len, sha_len, hmac_len] <;> omega) | decide) only [go_sem, ↓reduceIte, Nat.reduceEqDiff, reduceCtorEq, Nat.reduceLT, Nat.reduceBEq, Nat.reduceAdd, Nat.reduceSub, Nat.reduceMul, Nat.reduceMod, Int.reduceMod, Int.reduceToNat, Int.reduceNeg, h10, h11, h18, h20, hk, ht]
        refine hK11 _ ?_
        clear hK11 K11
        refine Tr.kp [1, 5, 6, 7] ?_
        simp only [pk_cons, pk_nil, ↓A_cons, ↓reduceIte, Nat.reduceEqDiff, reduceCtorEq]
        refine Tr.seqK fun K12 hK12 => ?_
        -- region 7 (law.go:80)
        refine Tr.rg hcx [1000035] [some 28, some 29, some 30, some 31, some 32, some 33, some 34, some 35, some 4] [] rfl rfl rfl ?_
        simp -implicitDefEqProofs (maxSteps := 2000000) (disch := first | omega | (simp only [List.length_append, List.length_replicate, List.length_set, List.length_drop, List.length_take, List.length_cons, List.length_nil, one_w32, one_w8, one_nI, one_nU, one_str, one_bool, one_int, one_slice, refy_sv, refy_bp, refy_agg, refy_val, refy_kp, refy_tsl, cl_len, sha_len, hmac_len] <;> omega) | decide) only [go_sem, ↓reduceIte, Nat.reduceEqDiff, reduceCtorEq, Nat.reduceLT, Nat.reduceBEq, Nat.reduceAdd, Nat.reduceSub, Nat.reduceMul, Nat.reduceMod, Int.reduceMod, Int.reduceToNat, Int.reduceNeg, h10, h11, h18, h20, hk, ht, hm]
        refine hK12 _ ?_
        clear hK12 K12
        refine Tr.kp [4] ?_
        simp only [pk_cons, pk_nil, ↓A_cons, ↓reduceIte, Nat.reduceEqDiff, reduceCtorEq]
        refine Tr.ret ?_
        simp -implicitDefEqProofs (disch := first | omega | (simp only [List.length_append, List.length_replicate, List.length_set, List.length_drop, List.length_take, List.length_cons, List.length_nil, one_w32, one_w8, one_nI, one_nU, one_str, one_bool, one_int, one_slice, refy_sv, refy_bp, refy_agg, refy_val, refy_kp, refy_tsl, cl_len, sha_len, hmac_len] <;> omega) | decide) only [go_sem, thenQ_n, thenQ_x, thenQ_r, blockQ_n, blockQ_r, EndsR_r, EndsR_n, resL_one, resC_tmp, resC_cell, rcP_int, rcP_bool, rcP_str, rcP_sl, rcP_arr, rcP_struct, ↓reduceIte, Nat.reduceEqDiff, reduceCtorEq]
        all_goals (simp [hmac_len])
      ·
        clear hT hF KT KF
        refine Tr.skip ?_
        refine hK9 _ ?_
        clear hK9 K9
        refine Tr.kp [0, 1, 5, 6] ?_
        simp only [pk_cons, pk_nil, ↓A_cons, ↓reduceIte, Nat.reduceEqDiff, reduceCtorEq]
        refine Tr.seqK fun K13 hK13 => ?_
        refine Tr.seqK fun K14 hK14 => ?_
        -- region 8 (law.go:82)
        refine Tr.rg hcx [] _ [] rfl rfl rfl ?_
        simp -implicitDefEqProofs (maxSteps := 2000000) (disch := first | omega | (simp only [List.length_append, List.length_replicate, List.length_set, List.length_drop, List.length_take, List.length_cons, List.length_nil, one_w32, one_w8, one_nI, one_nU, one_str, one_bool, one_int, one_slice, refy_sv, refy_bp, refy_agg, refy_val, refy_kp, refy_tsl, cl_len, sha_len, hmac_len] <;> omega) | decide) only [go_sem, ↓reduceIte, Nat.reduceEqDiff, reduceCtorEq, Nat.reduceLT, Nat.reduceBEq, Nat.reduceAdd, Nat.reduceSub, Nat.reduceMul, Nat.reduceMod, Int.reduceMod, Int.reduceToNat, Int.reduceNeg, h10, h11, h18, h20, hk, ht]
        refine hK14 _ ?_
        clear hK14 K14
        refine Tr.kp [0, 1, 5, 6, 38] ?_
        simp only [pk_cons, pk_nil, ↓A_cons, ↓reduceIte, Nat.reduceEqDiff, reduceCtorEq]
        refine Tr.condG fun KT KF hT hF => ?_
        simp only [ev_tmp, ev_const, ↓A_cons, ↓reduceIte, Nat.reduceEqDiff, reduceCtorEq, condG_bool, GB_true, GB_false, decide_eq_true_eq]
        refine GB.dec (fun hc38 => hT ?_) (fun hc38 => hF ?_)
        ·
          clear hT hF KT KF
          have hm := hmac_zero key t hc38
          refine Tr.seqK fun K15 hK15 => ?_
          -- region 9 (law.go:83)
          refine Tr.rg hcx [1000047] [some 39, some 40, some 41, some 42, some 43, some 44, some 45, some 46, some 47, some 4] [] rfl rfl rfl ?_
          simp -implicitDefEqProofs (maxSteps := 2000000) (disch := first | omega | (simp only [List.length_append, List.length_replicate, List.length_set, List.length_drop, List.length_take, List.length_cons, List.length_nil, one_w32, one_w8, one_nI, one_nU, one_str, one_bool, one_int, one_slice, refy_sv, refy_bp, refy_agg, refy_val, refy_kp, refy_tsl, cl_len, sha_len, hmac_len] <;> omega) | decide) only [go_sem, ↓reduceIte, Nat.reduceEqDiff, reduceCtorEq, Nat.reduceLT, Nat.reduceBEq, Nat.reduceAdd, Nat.reduceSub, Nat.reduceMul, Nat.reduceMod, Int.reduceMod, Int.reduceToNat, Int.reduceNeg, h10, h11, h18, h20, hk, ht, hm]
          refine hK15 _ ?_
          clear hK15 K15
          refine Tr.kp [4] ?_
          simp only [pk_cons, pk_nil, ↓A_cons, ↓reduceIte, Nat.reduceEqDiff, reduceCtorEq]
          refine Tr.ret ?_
          simp -implicitDefEqProofs (disch := first | omega | (simp only [List.length_append, List.length_replicate, List.length_set, List.length_drop, List.length_take, List.length_cons, List.length_nil, one_w32, one_w8, one_nI, one_nU, one_str, one_bool, one_int, one_slice, refy_sv, refy_bp, refy_agg, refy_val, refy_kp, refy_tsl, cl_len, sha_len, hmac_len] <;> omega) | decide) only [go_sem, thenQ_n, thenQ_x, thenQ_r, blockQ_n, blockQ_r, EndsR_r, EndsR_n, resL_one, resC_tmp, resC_cell, rcP_int, rcP_bool, rcP_str, rcP_sl, rcP_arr, rcP_struct, ↓reduceIte, Nat.reduceEqDiff, reduceCtorEq]
          all_goals (simp [hmac_len])
        ·
          clear hT hF KT KF
          refine Tr.skip ?_
          refine hK13 _ ?_
          clear hK13 K13
          refine Tr.kp [5, 6] ?_
          simp only [pk_cons, pk_nil, ↓A_cons, ↓reduceIte, Nat.reduceEqDiff, reduceCtorEq]
          refine Tr.seqK fun K16 hK16 => ?_
          -- region 10 (law.go:85)
          refine Tr.rg hcx [1000053] [some 48, some 49, some 50, some 51, some 52, some 53, some 4] [] rfl rfl rfl ?_
          simp -implicitDefEqProofs (maxSteps := 2000000) (disch := first | omega | (simp only [List.length_append, List.length_replicate, List.length_set, List.length_drop, List.length_take, List.length_cons, List.length_nil, one_w32, one_w8, one_nI, one_nU, one_str, one_bool, one_int, one_slice, refy_sv, refy_bp, refy_agg, refy_val, refy_kp, refy_tsl, cl_len, sha_len, hmac_len] <;> omega) | decide) only [go_sem, ↓reduceIte, Nat.reduceEqDiff, reduceCtorEq, Nat.reduceLT, Nat.reduceBEq, Nat.reduceAdd, Nat.reduceSub, Nat.reduceMul, Nat.reduceMod, Int.reduceMod, Int.reduceToNat, Int.reduceNeg, h10, h11, h18, h20, hk, ht]
          refine hK16 _ ?_
          clear hK16 K16
          refine Tr.kp [4] ?_
          simp only [pk_cons, pk_nil, ↓A_cons, ↓reduceIte, Nat.reduceEqDiff, reduceCtorEq]
          refine Tr.ret ?_
          simp -implicitDefEqProofs (disch := first | omega | (simp only [List.length_append, List.length_replicate, List.length_set, List.length_drop, List.length_take, List.length_cons, List.length_nil, one_w32, one_w8, one_nI, one_nU, one_str, one_bool, one_int, one_slice, refy_sv, refy_bp, refy_agg, refy_val, refy_kp, refy_tsl, cl_len, sha_len, hmac_len] <;> omega) | decide) only [go_sem, thenQ_n, thenQ_x, thenQ_r, blockQ_n, blockQ_r, EndsR_r, EndsR_n, resL_one, resC_tmp, resC_cell, rcP_int, rcP_bool, rcP_str, rcP_sl, rcP_arr, rcP_struct, ↓reduceIte, Nat.reduceEqDiff, reduceCtorEq]
          all_goals (simp [hmac_len])

end Go.Sx

namespace Go.Sx
open Go.RowKit Go.Proofs


set_option maxRecDepth 100000 in
set_option maxHeartbeats 8000000 in
theorem fc8 {gl : Nat → C} {M : Nat} {pu : Nat → List C → Option C} (hcx : CxOK (cxP gl M pu)) (h10 : pu 10 [] = some (.val (.bool true))) (h11 : ∀ b : List UInt8, b.length < 140737488355328 → pu 11 [sl bC .no b] = some (.agg (cl bC (sha b)))) (h13 : ∀ l : List (List UInt8), pu 13 [sl sC .no l] = some (.val (.bool (few l)))) (h21 : ∀ (tag : Int) (parts : List (List UInt8)), (inp tag parts).length < 1099511627776 → pu 21 [.val (.int .i64 tag), sl sC .no parts] = some (.agg (cl bC ((sha (inp tag parts)).take 16)))) (h23 : ∀ (tag : Int) (parts : List (List UInt8)), (inp tag parts).length < 1099511627776 → pu 23 [.val (.int .i64 tag), sl sC .no parts] = some (sl bC (.own 1) (inp tag parts))) (s t : UInt8) (p q : List (List UInt8)) : FC Tryd.prog gl 8 [.agg (cl bC [s, t]), sl sC .no p, sl sC .no q] [] (.val (.bool true)) [] := by
  replace hcx := hcx.reN (M := 120)
  refine FC.ofA (cx := cxP gl 120 pu) (rs := [.tmp 6]) rfl Tryd.func8 rfl rfl rfl (by simp only [List.length_cons, List.length_nil]; decide) (by simp only [noRef_val, noRef_agg, noRef_tup, noRef_kp, noRef_sl, noRefs_cl, noRefs_cons, noRefs_nil, noRefs_app, Bool.and_self, Bool.and_true]) ?_
  simp only [ini, noR_val, noR_val, noR_full, noR_no, noR_owns, noR_sv, noR_bp, noR_kp, noR_agg, noR_tup, noR_fn, noR_top, noR_slno, noR_slfull, noR_slown]
  have h21n : ∀ (m : Nat) (parts : List (List UInt8)), (inp m parts).length < 1099511627776 → pu 21 [.val (nI m), sl sC .no parts] = some (.agg (cl bC ((sha (inp m parts)).take 16))) := fun m parts h => h21 m parts h
  have h23n : ∀ (m : Nat) (parts : List (List UInt8)), (inp m parts).length < 1099511627776 → pu 23 [.val (nI m), sl sC .no parts] = some (sl bC (.own 1) (inp m parts)) := fun m parts h => h23 m parts h
  have hfa := True.intro
  have hfb := True.intro
  refine Tr.seqK fun K1 hK1 => ?_
  -- region 0 (law.go:99)
  refine Tr.rg hcx [] _ [none] rfl rfl rfl ?_
  simp -implicitDefEqProofs (maxSteps := 2000000) (disch := first | omega | (simp only [List.length_append, List.length_replicate, List.length_set, List.length_drop, List.length_take, List.length_cons, List.length_nil, one_w32, one_w8, one_nI, one_nU, one_str, one_bool, one_int, one_slice, refy_sv, refy_bp, refy_agg, refy_val, refy_kp, refy_tsl, cl_len, sha_len, hfa, hfb] <;> omega) | decide) only [go_sem, ↓reduceIte, Nat.reduceEqDiff, reduceCtorEq, Nat.reduceLT, Nat.reduceBEq, Nat.reduceAdd, Nat.reduceSub, Nat.reduceMul, Nat.reduceMod, Int.reduceMod, Int.reduceToNat, Int.reduceNeg, h10, h11, h13, h21n, h23n, eq44]
  refine hK1 _ ?_
  clear hK1 K1
  refine Tr.kp [1, 2, 3] ?_
  simp only [pk_cons, pk_nil, ↓A_cons, ↓reduceIte, Nat.reduceEqDiff, reduceCtorEq]
  refine Tr.seqK fun K2 hK2 => ?_
  -- region 1 (law.go:100)
  refine Tr.rg hcx [1000018] _ [] rfl rfl rfl ?_
  simp -implicitDefEqProofs (maxSteps := 2000000) (disch := first | omega | (simp only [List.length_append, List.length_replicate, List.length_set, List.length_drop, List.length_take, List.length_cons, List.length_nil, one_w32, one_w8, one_nI, one_nU, one_str, one_bool, one_int, one_slice, refy_sv, refy_bp, refy_agg, refy_val, refy_kp, refy_tsl, cl_len, sha_len, hfa, hfb] <;> omega) | decide) only [go_sem, ↓reduceIte, Nat.reduceEqDiff, reduceCtorEq, Nat.reduceLT, Nat.reduceBEq, Nat.reduceAdd, Nat.reduceSub, Nat.reduceMul, Nat.reduceMod, Int.reduceMod, Int.reduceToNat, Int.reduceNeg, h10, h11, h13, h21n, h23n, eq44]
  refine hK2 _ ?_
  clear hK2 K2
  refine Tr.kp [1, 2, 3, 7] ?_
  simp only [pk_cons, pk_nil, ↓A_cons, ↓reduceIte, Nat.reduceEqDiff, reduceCtorEq]
  refine Tr.seqK fun K3 hK3 => ?_
  refine Tr.seqK fun K4 hK4 => ?_
  by_cases hf : few p = true
  ·
    have hfa := few_inp s.toNat p hf
    have hfc := (few_spec p hf).1
    by_cases hg : few q = true
    ·
      have hfb := few_inp t.toNat q hg
      -- region 2 (law.go:101)
      refine Tr.rg hcx [] [some 19, some 20, some 21, some 22, some 23, some 24, some 25, some 26] [] rfl rfl rfl ?_
      simp -implicitDefEqProofs (maxSteps := 2000000) (disch := first | omega | (simp only [List.length_append, List.length_replicate, List.length_set, List.length_drop, List.length_take, List.length_cons, List.length_nil, one_w32, one_w8, one_nI, one_nU, one_str, one_bool, one_int, one_slice, refy_sv, refy_bp, refy_agg, refy_val, refy_kp, refy_tsl, cl_len, sha_len, hfa, hfb] <;> omega) | decide) only [go_sem, ↓reduceIte, Nat.reduceEqDiff, reduceCtorEq, Nat.reduceLT, Nat.reduceBEq, Nat.reduceAdd, Nat.reduceSub, Nat.reduceMul, Nat.reduceMod, Int.reduceMod, Int.reduceToNat, Int.reduceNeg, h10, h11, h13, h21n, h23n, eq44, hf, hg]
      refine hK4 _ ?_
      clear hK4 K4
      refine Tr.kp [1, 2, 3, 7, 26] ?_
      simp only [pk_cons, pk_nil, ↓A_cons, ↓reduceIte, Nat.reduceEqDiff, reduceCtorEq]
      refine Tr.condG fun KT KF hT hF => ?_
      simp only [ev_tmp, ev_const, ↓A_cons, ↓reduceIte, Nat.reduceEqDiff, reduceCtorEq, condG_bool, GB_true, GB_false, decide_eq_true_eq]
      refine hF ?_
      clear hT hF KT KF
      refine Tr.skip ?_
      refine hK3 _ ?_
      clear hK3 K3
      refine Tr.kp [1, 2, 3, 7] ?_
      simp only [pk_cons, pk_nil, ↓A_cons, ↓reduceIte, Nat.reduceEqDiff, reduceCtorEq]
      refine Tr.seqJ (α := Unit) (fun a => [(1, ?v1_12), (2, ?v2_12), (3, ?v3_12), (7, ?v7_12), (8, .val (.bool (sm s t p q 0)))]) (fun a => [some (cl bC [s, t])]) (fun a => True) ?ja_12 ?jb_12
      case ja_12 =>
        by_cases hst : s = t
        ·
          by_cases hll : p.length = q.length
          ·
            -- region 4 (law.go:104)
            refine Tr.rg hcx [1000039] [some 28, some 29, some 30, some 31, some 32, some 33, some 34, some 35, some 36, some 37, some 38, some 39, some 8] [] rfl rfl rfl ?_
            simp -implicitDefEqProofs (maxSteps := 2000000) (disch := first | omega | (simp only [List.length_append, List.length_replicate, List.length_set, List.length_drop, List.length_take, List.length_cons, List.length_nil, one_w32, one_w8, one_nI, one_nU, one_str, one_bool, one_int, one_slice, refy_sv, refy_bp, refy_agg, refy_val, refy_kp, refy_tsl, cl_len, sha_len, hfa, hfb] <;> omega) | decide) only [go_sem, ↓reduceIte, Nat.reduceEqDiff, reduceCtorEq, Nat.reduceLT, Nat.reduceBEq, Nat.reduceAdd, Nat.reduceSub, Nat.reduceMul, Nat.reduceMod, Int.reduceMod, Int.reduceToNat, Int.reduceNeg, h10, h11, h13, h21n, h23n, eq44, hf, hg, hst, hll]
            refine ⟨(), trivial, ?_, rfl⟩
            (simp only [Le_nil, Le_cons, ↓A_cons, ↓reduceIte, Nat.reduceEqDiff, reduceCtorEq, CLe_refl, CLe_top, CLe_full, CLe_nil, CLe_own, and_true, true_and]; all_goals (repeat' first | exact CLe.refl _ | exact True.intro | (refine CLe_sln ?_; first | with_reducible rfl | (simp only [List.take_zero]; done) | (rfl; done)) | exact CLe_nI (by omega) | exact CLe_int (by omega) | exact CLe_inI (by omega) | exact CLe_nIi (by omega) | with_reducible apply And.intro))
            all_goals (refine CLe_bool ?_; simp [sm, *])
          ·
            -- region 4 (law.go:104)
            refine Tr.rg hcx [1000039] [some 28, some 29, some 30, some 31, some 32, some 33, some 34, some 35, some 36, some 37, some 38, some 39, some 8] [] rfl rfl rfl ?_
            simp -implicitDefEqProofs (maxSteps := 2000000) (disch := first | omega | (simp only [List.length_append, List.length_replicate, List.length_set, List.length_drop, List.length_take, List.length_cons, List.length_nil, one_w32, one_w8, one_nI, one_nU, one_str, one_bool, one_int, one_slice, refy_sv, refy_bp, refy_agg, refy_val, refy_kp, refy_tsl, cl_len, sha_len, hfa, hfb] <;> omega) | decide) only [go_sem, ↓reduceIte, Nat.reduceEqDiff, reduceCtorEq, Nat.reduceLT, Nat.reduceBEq, Nat.reduceAdd, Nat.reduceSub, Nat.reduceMul, Nat.reduceMod, Int.reduceMod, Int.reduceToNat, Int.reduceNeg, h10, h11, h13, h21n, h23n, eq44, hf, hg, hst, hll]
            refine ⟨(), trivial, ?_, rfl⟩
            (simp only [Le_nil, Le_cons, ↓A_cons, ↓reduceIte, Nat.reduceEqDiff, reduceCtorEq, CLe_refl, CLe_top, CLe_full, CLe_nil, CLe_own, and_true, true_and]; all_goals (repeat' first | exact CLe.refl _ | exact True.intro | (refine CLe_sln ?_; first | with_reducible rfl | (simp only [List.take_zero]; done) | (rfl; done)) | exact CLe_nI (by omega) | exact CLe_int (by omega) | exact CLe_inI (by omega) | exact CLe_nIi (by omega) | with_reducible apply And.intro))
            all_goals (refine CLe_bool ?_; simp [sm, *])
        ·
          -- region 4 (law.go:104)
          refine Tr.rg hcx [1000039] [some 28, some 29, some 30, some 31, some 32, some 33, some 34, some 35, some 36, some 37, some 38, some 39, some 8] [] rfl rfl rfl ?_
          simp -implicitDefEqProofs (maxSteps := 2000000) (disch := first | omega | (simp only [List.length_append, List.length_replicate, List.length_set, List.length_drop, List.length_take, List.length_cons, List.length_nil, one_w32, one_w8, one_nI, one_nU, one_str, one_bool, one_int, one_slice, refy_sv, refy_bp, refy_agg, refy_val, refy_kp, refy_tsl, cl_len, sha_len, hfa, hfb] <;> omega) | decide) only [go_sem, ↓reduceIte, Nat.reduceEqDiff, reduceCtorEq, Nat.reduceLT, Nat.reduceBEq, Nat.reduceAdd, Nat.reduceSub, Nat.reduceMul, Nat.reduceMod, Int.reduceMod, Int.reduceToNat, Int.reduceNeg, h10, h11, h13, h21n, h23n, eq44, hf, hg, hst]
          refine ⟨(), trivial, ?_, rfl⟩
          (simp only [Le_nil, Le_cons, ↓A_cons, ↓reduceIte, Nat.reduceEqDiff, reduceCtorEq, CLe_refl, CLe_top, CLe_full, CLe_nil, CLe_own, and_true, true_and]; all_goals (repeat' first | exact CLe.refl _ | exact True.intro | (refine CLe_sln ?_; first | with_reducible rfl | (simp only [List.take_zero]; done) | (rfl; done)) | exact CLe_nI (by omega) | exact CLe_int (by omega) | exact CLe_inI (by omega) | exact CLe_nIi (by omega) | with_reducible apply And.intro))
          all_goals (refine CLe_bool ?_; simp [sm, *])
      case jb_12 =>
        rintro a ha
        refine Tr.seqJ (α := Unit) (fun a => [(1, ?v1_14), (2, ?v2_14), (3, ?v3_14), (7, ?v7_14), (8, .val (.bool (decide (s = t ∧ p = q))))]) (fun a => [some (cl bC [s, t])]) (fun a => True) ?ja_14 ?jb_14
        case ja_14 =>
          refine Tr.seqK fun K5 hK5 => ?_
          -- region 5 (law.go:105)
          refine Tr.rg hcx [] _ [] rfl rfl rfl ?_
          simp -implicitDefEqProofs (maxSteps := 2000000) (disch := first | omega | (simp only [List.length_append, List.length_replicate, List.length_set, List.length_drop, List.length_take, List.length_cons, List.length_nil, one_w32, one_w8, one_nI, one_nU, one_str, one_bool, one_int, one_slice, refy_sv, refy_bp, refy_agg, refy_val, refy_kp, refy_tsl, cl_len, sha_len, hfa, hfb] <;> omega) | decide) only [go_sem, ↓reduceIte, Nat.reduceEqDiff, reduceCtorEq, Nat.reduceLT, Nat.reduceBEq, Nat.reduceAdd, Nat.reduceSub, Nat.reduceMul, Nat.reduceMod, Int.reduceMod, Int.reduceToNat, Int.reduceNeg, h10, h11, h13, h21n, h23n, eq44, hf, hg]
          refine hK5 _ ?_
          clear hK5 K5
          refine Tr.kp [1, 2, 3, 7, 8, 9] ?_
          simp only [pk_cons, pk_nil, ↓A_cons, ↓reduceIte, Nat.reduceEqDiff, reduceCtorEq]
          refine Tr.blk ?_
          refine Tr.loopI (α := Nat) (fun a => [(1, ?v1_18), (2, ?v2_18), (3, ?v3_18), (7, ?v7_18), (8, .val (.bool (sm s t p q a))), (9, .val (nI a))]) (fun a => [some (cl bC [s, t])]) (fun a => a ≤ p.length) (fun a => p.length - a) (0) ?_ ?le_18 ?hh_18 ?bd_18
          case hh_18 => exact rfl
          case le_18 => (simp only [Le_nil, Le_cons, ↓A_cons, ↓reduceIte, Nat.reduceEqDiff, reduceCtorEq, CLe_refl, CLe_top, CLe_full, CLe_nil, CLe_own, and_true, true_and]; all_goals (repeat' first | exact CLe.refl _ | exact True.intro | (refine CLe_sln ?_; first | with_reducible rfl | (simp only [List.take_zero]; done) | (rfl; done)) | exact CLe_nI (by omega) | exact CLe_int (by omega) | exact CLe_inI (by omega) | exact CLe_nIi (by omega) | with_reducible apply And.intro))
          · omega
          case bd_18 =>
            rintro i hi
            refine Tr.seqK fun K6 hK6 => ?_
            refine Tr.seqK fun K7 hK7 => ?_
            by_cases hlt : i < p.length
            ·
              -- region 6 (law.go:105)
              refine Tr.rg hcx [] [some 40, some 41, some 42, some 43, some 44, some 45, some 46] [] rfl rfl rfl ?_
              simp -implicitDefEqProofs (maxSteps := 2000000) (disch := first | omega | (simp only [List.length_append, List.length_replicate, List.length_set, List.length_drop, List.length_take, List.length_cons, List.length_nil, one_w32, one_w8, one_nI, one_nU, one_str, one_bool, one_int, one_slice, refy_sv, refy_bp, refy_agg, refy_val, refy_kp, refy_tsl, cl_len, sha_len, hfa, hfb] <;> omega) | decide) only [go_sem, ↓reduceIte, Nat.reduceEqDiff, reduceCtorEq, Nat.reduceLT, Nat.reduceBEq, Nat.reduceAdd, Nat.reduceSub, Nat.reduceMul, Nat.reduceMod, Int.reduceMod, Int.reduceToNat, Int.reduceNeg, h10, h11, h13, h21n, h23n, eq44, hf, hg, hlt]
              refine hK7 _ ?_
              clear hK7 K7
              refine Tr.kp [1, 2, 3, 7, 8, 9, 46] ?_
              simp only [pk_cons, pk_nil, ↓A_cons, ↓reduceIte, Nat.reduceEqDiff, reduceCtorEq]
              refine Tr.condG fun KT KF hT hF => ?_
              simp only [ev_tmp, ev_const, ↓A_cons, ↓reduceIte, Nat.reduceEqDiff, reduceCtorEq, condG_bool, GB_true, GB_false, decide_eq_true_eq]
              refine GB.mk (fun hc46 => hT ?_) (fun hc46 => hF ?_)
              ·
                clear hT hF KT KF
                obtain ⟨he1, he2, he3⟩ := sm_true hc46
                refine Tr.skip ?_
                refine hK6 _ ?_
                clear hK6 K6
                refine Tr.kp [1, 2, 3, 7, 9] ?_
                simp only [pk_cons, pk_nil, ↓A_cons, ↓reduceIte, Nat.reduceEqDiff, reduceCtorEq]
                refine Tr.seqK fun K8 hK8 => ?_
                refine Tr.blk ?_
                -- region 8 (law.go:106)
                refine Tr.rgD hcx hMO [1000057] _ [] rfl rfl rfl rfl ?_
                simp -implicitDefEqProofs (maxSteps := 2000000) (disch := first | omega | (simp only [List.length_append, List.length_replicate, List.length_set, List.length_drop, List.length_take, List.length_cons, List.length_nil, one_w32, one_w8, one_nI, one_nU, one_str, one_bool, one_int, one_slice, refy_sv, refy_bp, refy_agg, refy_val, refy_kp, refy_tsl, cl_len, sha_len, hfa, hfb] <;> omega) | decide) only [go_sem, ↓reduceIte, Nat.reduceEqDiff, reduceCtorEq, Nat.reduceLT, Nat.reduceBEq, Nat.reduceAdd, Nat.reduceSub, Nat.reduceMul, Nat.reduceMod, Int.reduceMod, Int.reduceToNat, Int.reduceNeg, h10, h11, h13, h21n, h23n, eq44, hf, hg, hlt]
                with_reducible refine And.intro ?_ ?_
                · exact rfl
                refine hK8 _ ?_
                clear hK8 K8
                refine Tr.kp [1, 2, 3, 7, 8, 9] ?_
                simp only [pk_cons, pk_nil, ↓A_cons, ↓reduceIte, Nat.reduceEqDiff, reduceCtorEq]
                -- region 7 (law.go:105)
                refine Tr.rg hcx [1000048] _ [] rfl rfl rfl ?_
                simp -implicitDefEqProofs (maxSteps := 2000000) (disch := first | omega | (simp only [List.length_append, List.length_replicate, List.length_set, List.length_drop, List.length_take, List.length_cons, List.length_nil, one_w32, one_w8, one_nI, one_nU, one_str, one_bool, one_int, one_slice, refy_sv, refy_bp, refy_agg, refy_val, refy_kp, refy_tsl, cl_len, sha_len, hfa, hfb] <;> omega) | decide) only [go_sem, ↓reduceIte, Nat.reduceEqDiff, reduceCtorEq, Nat.reduceLT, Nat.reduceBEq, Nat.reduceAdd, Nat.reduceSub, Nat.reduceMul, Nat.reduceMod, Int.reduceMod, Int.reduceToNat, Int.reduceNeg, h10, h11, h13, h21n, h23n, eq44, hf, hg, hlt]
                refine ⟨i + 1, ⟨by omega, by first | omega | (simp only []; omega)⟩, ?_, rfl⟩
                (simp only [Le_nil, Le_cons, ↓A_cons, ↓reduceIte, Nat.reduceEqDiff, reduceCtorEq, CLe_refl, CLe_top, CLe_full, CLe_nil, CLe_own, and_true, true_and]; all_goals (repeat' first | exact CLe.refl _ | exact True.intro | (refine CLe_sln ?_; first | with_reducible rfl | (simp only [List.take_zero]; done) | (rfl; done)) | exact CLe_nI (by omega) | exact CLe_int (by omega) | exact CLe_inI (by omega) | exact CLe_nIi (by omega) | with_reducible apply And.intro))
                all_goals (exact CLe_bool (sm_next hc46 hlt))
              ·
                clear hT hF KT KF
                refine Tr.exit ?_
                refine ⟨(), trivial, ?_, rfl⟩
                (simp only [Le_nil, Le_cons, ↓A_cons, ↓reduceIte, Nat.reduceEqDiff, reduceCtorEq, CLe_refl, CLe_top, CLe_full, CLe_nil, CLe_own, and_true, true_and]; all_goals (repeat' first | exact CLe.refl _ | exact True.intro | (refine CLe_sln ?_; first | with_reducible rfl | (simp only [List.take_zero]; done) | (rfl; done)) | exact CLe_nI (by omega) | exact CLe_int (by omega) | exact CLe_inI (by omega) | exact CLe_nIi (by omega) | with_reducible apply And.intro))
                all_goals (first | exact CLe_bool (sm_end1 hi hlt) | exact CLe_bool (sm_end2 hc46))
            ·
              -- region 6 (law.go:105)
              refine Tr.rg hcx [] [some 40, some 41, some 42, some 43, some 44, some 45, some 46] [] rfl rfl rfl ?_
              simp -implicitDefEqProofs (maxSteps := 2000000) (disch := first | omega | (simp only [List.length_append, List.length_replicate, List.length_set, List.length_drop, List.length_take, List.length_cons, List.length_nil, one_w32, one_w8, one_nI, one_nU, one_str, one_bool, one_int, one_slice, refy_sv, refy_bp, refy_agg, refy_val, refy_kp, refy_tsl, cl_len, sha_len, hfa, hfb] <;> omega) | decide) only [go_sem, ↓reduceIte, Nat.reduceEqDiff, reduceCtorEq, Nat.reduceLT, Nat.reduceBEq, Nat.reduceAdd, Nat.reduceSub, Nat.reduceMul, Nat.reduceMod, Int.reduceMod, Int.reduceToNat, Int.reduceNeg, h10, h11, h13, h21n, h23n, eq44, hf, hg, hlt]
              refine hK7 _ ?_
              clear hK7 K7
              refine Tr.kp [1, 2, 3, 7, 8, 9, 46] ?_
              simp only [pk_cons, pk_nil, ↓A_cons, ↓reduceIte, Nat.reduceEqDiff, reduceCtorEq]
              refine Tr.condG fun KT KF hT hF => ?_
              simp only [ev_tmp, ev_const, ↓A_cons, ↓reduceIte, Nat.reduceEqDiff, reduceCtorEq, condG_bool, GB_true, GB_false, decide_eq_true_eq]
              refine hF ?_
              clear hT hF KT KF
              refine Tr.exit ?_
              refine ⟨(), trivial, ?_, rfl⟩
              (simp only [Le_nil, Le_cons, ↓A_cons, ↓reduceIte, Nat.reduceEqDiff, reduceCtorEq, CLe_refl, CLe_top, CLe_full, CLe_nil, CLe_own, and_true, true_and]; all_goals (repeat' first | exact CLe.refl _ | exact True.intro | (refine CLe_sln ?_; first | with_reducible rfl | (simp only [List.take_zero]; done) | (rfl; done)) | exact CLe_nI (by omega) | exact CLe_int (by omega) | exact CLe_inI (by omega) | exact CLe_nIi (by omega) | with_reducible apply And.intro))
              all_goals (first | exact CLe_bool (sm_end1 hi hlt) | exact CLe_bool (sm_end2 hc46))
        case jb_14 =>
          rintro a ha
          refine Tr.seqK fun K9 hK9 => ?_
          -- region 9 (law.go:108)
          refine Tr.rg hcx [1000062] _ [] rfl rfl rfl ?_
          simp -implicitDefEqProofs (maxSteps := 2000000) (disch := first | omega | (simp only [List.length_append, List.length_replicate, List.length_set, List.length_drop, List.length_take, List.length_cons, List.length_nil, one_w32, one_w8, one_nI, one_nU, one_str, one_bool, one_int, one_slice, refy_sv, refy_bp, refy_agg, refy_val, refy_kp, refy_tsl, cl_len, sha_len, hfa, hfb] <;> omega) | decide) only [go_sem, ↓reduceIte, Nat.reduceEqDiff, reduceCtorEq, Nat.reduceLT, Nat.reduceBEq, Nat.reduceAdd, Nat.reduceSub, Nat.reduceMul, Nat.reduceMod, Int.reduceMod, Int.reduceToNat, Int.reduceNeg, h10, h11, h13, h21n, h23n, eq44, hf, hg]
          refine hK9 _ ?_
          clear hK9 K9
          refine Tr.kp [1, 2, 3, 7, 8, 10] ?_
          simp only [pk_cons, pk_nil, ↓A_cons, ↓reduceIte, Nat.reduceEqDiff, reduceCtorEq]
          refine Tr.seqK fun K10 hK10 => ?_
          -- region 10 (law.go:109)
          refine Tr.rg hcx [1000067] _ [] rfl rfl rfl ?_
          simp -implicitDefEqProofs (maxSteps := 2000000) (disch := first | omega | (simp only [List.length_append, List.length_replicate, List.length_set, List.length_drop, List.length_take, List.length_cons, List.length_nil, one_w32, one_w8, one_nI, one_nU, one_str, one_bool, one_int, one_slice, refy_sv, refy_bp, refy_agg, refy_val, refy_kp, refy_tsl, cl_len, sha_len, hfa, hfb] <;> omega) | decide) only [go_sem, ↓reduceIte, Nat.reduceEqDiff, reduceCtorEq, Nat.reduceLT, Nat.reduceBEq, Nat.reduceAdd, Nat.reduceSub, Nat.reduceMul, Nat.reduceMod, Int.reduceMod, Int.reduceToNat, Int.reduceNeg, h10, h11, h13, h21n, h23n, eq44, hf, hg]
          refine hK10 _ ?_
          clear hK10 K10
          refine Tr.kp [1, 2, 3, 7, 8, 10, 11] ?_
          simp only [pk_cons, pk_nil, ↓A_cons, ↓reduceIte, Nat.reduceEqDiff, reduceCtorEq]
          refine Tr.seqK fun K11 hK11 => ?_
          refine Tr.seqK fun K12 hK12 => ?_
          -- region 11 (law.go:110)
          refine Tr.rg hcx [] _ [] rfl rfl rfl ?_
          simp -implicitDefEqProofs (maxSteps := 2000000) (disch := first | omega | (simp only [List.length_append, List.length_replicate, List.length_set, List.length_drop, List.length_take, List.length_cons, List.length_nil, one_w32, one_w8, one_nI, one_nU, one_str, one_bool, one_int, one_slice, refy_sv, refy_bp, refy_agg, refy_val, refy_kp, refy_tsl, cl_len, sha_len, hfa, hfb] <;> omega) | decide) only [go_sem, ↓reduceIte, Nat.reduceEqDiff, reduceCtorEq, Nat.reduceLT, Nat.reduceBEq, Nat.reduceAdd, Nat.reduceSub, Nat.reduceMul, Nat.reduceMod, Int.reduceMod, Int.reduceToNat, Int.reduceNeg, h10, h11, h13, h21n, h23n, eq44, hf, hg]
          refine hK12 _ ?_
          clear hK12 K12
          refine Tr.kp [1, 2, 3, 7, 10, 11, 68] ?_
          simp only [pk_cons, pk_nil, ↓A_cons, ↓reduceIte, Nat.reduceEqDiff, reduceCtorEq]
          refine Tr.condG fun KT KF hT hF => ?_
          simp only [ev_tmp, ev_const, ↓A_cons, ↓reduceIte, Nat.reduceEqDiff, reduceCtorEq, condG_bool, GB_true, GB_false, decide_eq_true_eq]
          refine GB.dec (fun hc68 => hT ?_) (fun hc68 => hF ?_)
          ·
            clear hT hF KT KF
            obtain ⟨rfl, rfl⟩ := hc68
            refine Tr.seqK fun K13 hK13 => ?_
            -- region 12 (law.go:111)
            refine Tr.rg hcx [1000076] [some 69, some 70, some 71, some 72, some 73, some 74, some 75, some 76, some 6] [] rfl rfl rfl ?_
            simp -implicitDefEqProofs (maxSteps := 2000000) (disch := first | omega | (simp only [List.length_append, List.length_replicate, List.length_set, List.length_drop, List.length_take, List.length_cons, List.length_nil, one_w32, one_w8, one_nI, one_nU, one_str, one_bool, one_int, one_slice, refy_sv, refy_bp, refy_agg, refy_val, refy_kp, refy_tsl, cl_len, sha_len, hfa, hfb] <;> omega) | decide) only [go_sem, ↓reduceIte, Nat.reduceEqDiff, reduceCtorEq, Nat.reduceLT, Nat.reduceBEq, Nat.reduceAdd, Nat.reduceSub, Nat.reduceMul, Nat.reduceMod, Int.reduceMod, Int.reduceToNat, Int.reduceNeg, h10, h11, h13, h21n, h23n, eq44, hf, hg]
            refine hK13 _ ?_
            clear hK13 K13
            refine Tr.kp [6] ?_
            simp only [pk_cons, pk_nil, ↓A_cons, ↓reduceIte, Nat.reduceEqDiff, reduceCtorEq]
            refine Tr.ret ?_
            simp -implicitDefEqProofs (disch := first | omega | (simp only [List.length_append, List.length_replicate, List.length_set, List.length_drop, List.length_take, List.length_cons, List.length_nil, one_w32, one_w8, one_nI, one_nU, one_str, one_bool, one_int, one_slice, refy_sv, refy_bp, refy_agg, refy_val, refy_kp, refy_tsl, cl_len, sha_len, hfa, hfb] <;> omega) | decide) only [go_sem, thenQ_n, thenQ_x, thenQ_r, blockQ_n, blockQ_r, EndsR_r, EndsR_n, resL_one, resC_tmp, resC_cell, rcP_int, rcP_bool, rcP_str, rcP_sl, rcP_arr, rcP_struct, ↓reduceIte, Nat.reduceEqDiff, reduceCtorEq]
          ·
            clear hT hF KT KF
            have hne : ¬ (inp s.toNat p = inp t.toNat q) := fun h => hc68 ((inp_inj s t p q hf hg).1 h)
            have hl1 := sha_len (inp s.toNat p)
            have hl2 := sha_len (inp t.toNat q)
            refine Tr.skip ?_
            refine hK11 _ ?_
            clear hK11 K11
            refine Tr.kp [1, 2, 3, 7, 10, 11] ?_
            simp only [pk_cons, pk_nil, ↓A_cons, ↓reduceIte, Nat.reduceEqDiff, reduceCtorEq]
            refine Tr.seqK fun K14 hK14 => ?_
            -- region 13 (law.go:113)
            refine Tr.rg hcx [] _ [none] rfl rfl rfl ?_
            simp -implicitDefEqProofs (maxSteps := 2000000) (disch := first | omega | (simp only [List.length_append, List.length_replicate, List.length_set, List.length_drop, List.length_take, List.length_cons, List.length_nil, one_w32, one_w8, one_nI, one_nU, one_str, one_bool, one_int, one_slice, refy_sv, refy_bp, refy_agg, refy_val, refy_kp, refy_tsl, cl_len, sha_len, hfa, hfb] <;> omega) | decide) only [go_sem, ↓reduceIte, Nat.reduceEqDiff, reduceCtorEq, Nat.reduceLT, Nat.reduceBEq, Nat.reduceAdd, Nat.reduceSub, Nat.reduceMul, Nat.reduceMod, Int.reduceMod, Int.reduceToNat, Int.reduceNeg, h10, h11, h13, h21n, h23n, eq44, hf, hg]
            refine hK14 _ ?_
            clear hK14 K14
            refine Tr.kp [2, 3, 7, 10, 11, 12] ?_
            simp only [pk_cons, pk_nil, ↓A_cons, ↓reduceIte, Nat.reduceEqDiff, reduceCtorEq]
            refine Tr.seqK fun K15 hK15 => ?_
            -- region 14 (law.go:114)
            refine Tr.rg hcx [] _ [none] rfl rfl rfl ?_
            simp -implicitDefEqProofs (maxSteps := 2000000) (disch := first | omega | (simp only [List.length_append, List.length_replicate, List.length_set, List.length_drop, List.length_take, List.length_cons, List.length_nil, one_w32, one_w8, one_nI, one_nU, one_str, one_bool, one_int, one_slice, refy_sv, refy_bp, refy_agg, refy_val, refy_kp, refy_tsl, cl_len, sha_len, hfa, hfb] <;> omega) | decide) only [go_sem, ↓reduceIte, Nat.reduceEqDiff, reduceCtorEq, Nat.reduceLT, Nat.reduceBEq, Nat.reduceAdd, Nat.reduceSub, Nat.reduceMul, Nat.reduceMod, Int.reduceMod, Int.reduceToNat, Int.reduceNeg, h10, h11, h13, h21n, h23n, eq44, hf, hg]
            refine hK15 _ ?_
            clear hK15 K15
            refine Tr.kp [7, 10, 11, 12, 13] ?_
            simp only [pk_cons, pk_nil, ↓A_cons, ↓reduceIte, Nat.reduceEqDiff, reduceCtorEq]
            refine Tr.seqK fun K16 hK16 => ?_
            -- region 15 (law.go:115)
            refine Tr.rg hcx [] _ [none] rfl rfl rfl ?_
            simp -implicitDefEqProofs (maxSteps := 2000000) (disch := first | omega | (simp only [List.length_append, List.length_replicate, List.length_set, List.length_drop, List.length_take, List.length_cons, List.length_nil, one_w32, one_w8, one_nI, one_nU, one_str, one_bool, one_int, one_slice, refy_sv, refy_bp, refy_agg, refy_val, refy_kp, refy_tsl, cl_len, sha_len, hfa, hfb] <;> omega) | decide) only [go_sem, ↓reduceIte, Nat.reduceEqDiff, reduceCtorEq, Nat.reduceLT, Nat.reduceBEq, Nat.reduceAdd, Nat.reduceSub, Nat.reduceMul, Nat.reduceMod, Int.reduceMod, Int.reduceToNat, Int.reduceNeg, h10, h11, h13, h21n, h23n, eq44, hf, hg]
            refine hK16 _ ?_
            clear hK16 K16
            refine Tr.kp [7, 10, 11, 12, 13, 14] ?_
            simp only [pk_cons, pk_nil, ↓A_cons, ↓reduceIte, Nat.reduceEqDiff, reduceCtorEq]
            refine Tr.seqK fun K17 hK17 => ?_
            -- region 16 (law.go:116)
            refine Tr.rg hcx [] _ [none] rfl rfl rfl ?_
            simp -implicitDefEqProofs (maxSteps := 2000000) (disch := first | omega | (simp only [List.length_append, List.length_replicate, List.length_set, List.length_drop, List.length_take, List.length_cons, List.length_nil, one_w32, one_w8, one_nI, one_nU, one_str, one_bool, one_int, one_slice, refy_sv, refy_bp, refy_agg, refy_val, refy_kp, refy_tsl, cl_len, sha_len, hfa, hfb] <;> omega) | decide) only [go_sem, ↓reduceIte, Nat.reduceEqDiff, reduceCtorEq, Nat.reduceLT, Nat.reduceBEq, Nat.reduceAdd, Nat.reduceSub, Nat.reduceMul, Nat.reduceMod, Int.reduceMod, Int.reduceToNat, Int.reduceNeg, h10, h11, h13, h21n, h23n, eq44, hf, hg]
            refine hK17 _ ?_
            clear hK17 K17
            refine Tr.kp [7, 10, 11, 12, 13, 14, 15] ?_
            simp only [pk_cons, pk_nil, ↓A_cons, ↓reduceIte, Nat.reduceEqDiff, reduceCtorEq]
            refine Tr.seqK fun K18 hK18 => ?_
            -- region 17 (law.go:117)
            refine Tr.rg hcx [] _ [] rfl rfl rfl ?_
            simp -implicitDefEqProofs (maxSteps := 2000000) (disch := first | omega | (simp only [List.length_append, List.length_replicate, List.length_set, List.length_drop, List.length_take, List.length_cons, List.length_nil, one_w32, one_w8, one_nI, one_nU, one_str, one_bool, one_int, one_slice, refy_sv, refy_bp, refy_agg, refy_val, refy_kp, refy_tsl, cl_len, sha_len, hfa, hfb] <;> omega) | decide) only [go_sem, ↓reduceIte, Nat.reduceEqDiff, reduceCtorEq, Nat.reduceLT, Nat.reduceBEq, Nat.reduceAdd, Nat.reduceSub, Nat.reduceMul, Nat.reduceMod, Int.reduceMod, Int.reduceToNat, Int.reduceNeg, h10, h11, h13, h21n, h23n, eq44, hf, hg]
            refine hK18 _ ?_
            clear hK18 K18
            refine Tr.kp [7, 10, 11, 12, 13, 14, 15, 16] ?_
            simp only [pk_cons, pk_nil, ↓A_cons, ↓reduceIte, Nat.reduceEqDiff, reduceCtorEq]
            refine Tr.seqK fun K19 hK19 => ?_
            refine Tr.seqK fun K20 hK20 => ?_
            -- region 18 (law.go:118)
            refine Tr.rg hcx [] _ [] rfl rfl rfl ?_
            simp -implicitDefEqProofs (maxSteps := 2000000) (disch := first | omega | (simp only [List.length_append, List.length_replicate, List.length_set, List.length_drop, List.length_take, List.length_cons, List.length_nil, one_w32, one_w8, one_nI, one_nU, one_str, one_bool, one_int, one_slice, refy_sv, refy_bp, refy_agg, refy_val, refy_kp, refy_tsl, cl_len, sha_len, hfa, hfb] <;> omega) | decide) only [go_sem, ↓reduceIte, Nat.reduceEqDiff, reduceCtorEq, Nat.reduceLT, Nat.reduceBEq, Nat.reduceAdd, Nat.reduceSub, Nat.reduceMul, Nat.reduceMod, Int.reduceMod, Int.reduceToNat, Int.reduceNeg, h10, h11, h13, h21n, h23n, eq44, hf, hg]
            refine hK20 _ ?_
            clear hK20 K20
            refine Tr.kp [7, 10, 11, 12, 13, 14, 15, 16, 17] ?_
            simp only [pk_cons, pk_nil, ↓A_cons, ↓reduceIte, Nat.reduceEqDiff, reduceCtorEq]
            refine Tr.blk ?_
            refine Tr.loopI (α := Nat) (fun a => [(7, ?v7_55), (10, ?v10_55), (11, ?v11_55), (12, ?v12_55), (13, ?v13_55), (14, ?v14_55), (15, ?v15_55), (16, .val (.bool (decide ((sha (inp s.toNat p)).take a = (sha (inp t.toNat q)).take a)))), (17, .val (nI a))]) (fun a => ?h_55) (fun a => a ≤ 16) (fun a => 16 - a) (0) ?_ ?le_55 ?hh_55 ?bd_55
            case hh_55 => exact rfl
            case le_55 => (simp only [Le_nil, Le_cons, ↓A_cons, ↓reduceIte, Nat.reduceEqDiff, reduceCtorEq, CLe_refl, CLe_top, CLe_full, CLe_nil, CLe_own, and_true, true_and]; all_goals (repeat' first | exact CLe.refl _ | exact True.intro | (refine CLe_sln ?_; first | with_reducible rfl | (simp only [List.take_zero]; done) | (rfl; done)) | exact CLe_nI (by omega) | exact CLe_int (by omega) | exact CLe_inI (by omega) | exact CLe_nIi (by omega) | with_reducible apply And.intro)); all_goals (exact CLe_bool (by simp))
            · omega
            case bd_55 =>
              rintro i hi
              refine Tr.seqK fun K21 hK21 => ?_
              refine Tr.seqK fun K22 hK22 => ?_
              -- region 19 (law.go:118)
              refine Tr.rg hcx [] _ [] rfl rfl rfl ?_
              simp -implicitDefEqProofs (maxSteps := 2000000) (disch := first | omega | (simp only [List.length_append, List.length_replicate, List.length_set, List.length_drop, List.length_take, List.length_cons, List.length_nil, one_w32, one_w8, one_nI, one_nU, one_str, one_bool, one_int, one_slice, refy_sv, refy_bp, refy_agg, refy_val, refy_kp, refy_tsl, cl_len, sha_len, hfa, hfb] <;> omega) | decide) only [go_sem, ↓reduceIte, Nat.reduceEqDiff, reduceCtorEq, Nat.reduceLT, Nat.reduceBEq, Nat.reduceAdd, Nat.reduceSub, Nat.reduceMul, Nat.reduceMod, Int.reduceMod, Int.reduceToNat, Int.reduceNeg, h10, h11, h13, h21n, h23n, eq44, hf, hg]
              refine hK22 _ ?_
              clear hK22 K22
              refine Tr.kp [7, 10, 11, 12, 13, 14, 15, 16, 17, 92] ?_
              simp only [pk_cons, pk_nil, ↓A_cons, ↓reduceIte, Nat.reduceEqDiff, reduceCtorEq]
              refine Tr.condG fun KT KF hT hF => ?_
              simp only [ev_tmp, ev_const, ↓A_cons, ↓reduceIte, Nat.reduceEqDiff, reduceCtorEq, condG_bool, GB_true, GB_false, decide_eq_true_eq]
              refine GB.dec (fun hc92 => hT ?_) (fun hc92 => hF ?_)
              ·
                clear hT hF KT KF
                refine Tr.skip ?_
                refine hK21 _ ?_
                clear hK21 K21
                refine Tr.kp [7, 10, 11, 12, 13, 14, 15, 16, 17] ?_
                simp only [pk_cons, pk_nil, ↓A_cons, ↓reduceIte, Nat.reduceEqDiff, reduceCtorEq]
                refine Tr.seqK fun K23 hK23 => ?_
                refine Tr.blk ?_
                by_cases hcl : (sha (inp s.toNat p)).take i = (sha (inp t.toNat q)).take i
                ·
                  -- region 21 (law.go:119)
                  refine Tr.rgD hcx hMO [1000104] [some 95, some 96, some 97, some 98, some 99, some 100, some 101, some 102, some 103, some 104, some 16] [] rfl rfl rfl rfl ?_
                  simp -implicitDefEqProofs (maxSteps := 2000000) (disch := first | omega | (simp only [List.length_append, List.length_replicate, List.length_set, List.length_drop, List.length_take, List.length_cons, List.length_nil, one_w32, one_w8, one_nI, one_nU, one_str, one_bool, one_int, one_slice, refy_sv, refy_bp, refy_agg, refy_val, refy_kp, refy_tsl, cl_len, sha_len, hfa, hfb] <;> omega) | decide) only [go_sem, ↓reduceIte, Nat.reduceEqDiff, reduceCtorEq, Nat.reduceLT, Nat.reduceBEq, Nat.reduceAdd, Nat.reduceSub, Nat.reduceMul, Nat.reduceMod, Int.reduceMod, Int.reduceToNat, Int.reduceNeg, h10, h11, h13, h21n, h23n, eq44, hf, hg, hcl]
                  with_reducible refine And.intro ?_ ?_
                  · exact rfl
                  refine hK23 _ ?_
                  clear hK23 K23
                  refine Tr.kp [7, 10, 11, 12, 13, 14, 15, 16, 17] ?_
                  simp only [pk_cons, pk_nil, ↓A_cons, ↓reduceIte, Nat.reduceEqDiff, reduceCtorEq]
                  -- region 20 (law.go:118)
                  refine Tr.rg hcx [1000094] _ [] rfl rfl rfl ?_
                  simp -implicitDefEqProofs (maxSteps := 2000000) (disch := first | omega | (simp only [List.length_append, List.length_replicate, List.length_set, List.length_drop, List.length_take, List.length_cons, List.length_nil, one_w32, one_w8, one_nI, one_nU, one_str, one_bool, one_int, one_slice, refy_sv, refy_bp, refy_agg, refy_val, refy_kp, refy_tsl, cl_len, sha_len, hfa, hfb] <;> omega) | decide) only [go_sem, ↓reduceIte, Nat.reduceEqDiff, reduceCtorEq, Nat.reduceLT, Nat.reduceBEq, Nat.reduceAdd, Nat.reduceSub, Nat.reduceMul, Nat.reduceMod, Int.reduceMod, Int.reduceToNat, Int.reduceNeg, h10, h11, h13, h21n, h23n, eq44, hf, hg, hcl]
                  refine ⟨i + 1, ⟨by omega, by first | omega | (simp only []; omega)⟩, ?_, rfl⟩
                  (simp only [Le_nil, Le_cons, ↓A_cons, ↓reduceIte, Nat.reduceEqDiff, reduceCtorEq, CLe_refl, CLe_top, CLe_full, CLe_nil, CLe_own, and_true, true_and]; all_goals (repeat' first | exact CLe.refl _ | exact True.intro | (refine CLe_sln ?_; first | with_reducible rfl | (simp only [List.take_zero]; done) | (rfl; done)) | exact CLe_nI (by omega) | exact CLe_int (by omega) | exact CLe_inI (by omega) | exact CLe_nIi (by omega) | with_reducible apply And.intro))
                  all_goals (first | exact CLe_bool (take_eq_next _ _ _ (by omega) (by omega) hcl) | exact CLe_bool (take_ne_next _ _ _ hcl))
                ·
                  -- region 21 (law.go:119)
                  refine Tr.rgD hcx hMO [1000104] [some 95, some 96, some 97, some 98, some 99, some 100, some 101, some 102, some 103, some 104, some 16] [] rfl rfl rfl rfl ?_
                  simp -implicitDefEqProofs (maxSteps := 2000000) (disch := first | omega | (simp only [List.length_append, List.length_replicate, List.length_set, List.length_drop, List.length_take, List.length_cons, List.length_nil, one_w32, one_w8, one_nI, one_nU, one_str, one_bool, one_int, one_slice, refy_sv, refy_bp, refy_agg, refy_val, refy_kp, refy_tsl, cl_len, sha_len, hfa, hfb] <;> omega) | decide) only [go_sem, ↓reduceIte, Nat.reduceEqDiff, reduceCtorEq, Nat.reduceLT, Nat.reduceBEq, Nat.reduceAdd, Nat.reduceSub, Nat.reduceMul, Nat.reduceMod, Int.reduceMod, Int.reduceToNat, Int.reduceNeg, h10, h11, h13, h21n, h23n, eq44, hf, hg, hcl]
                  with_reducible refine And.intro ?_ ?_
                  · exact rfl
                  refine hK23 _ ?_
                  clear hK23 K23
                  refine Tr.kp [7, 10, 11, 12, 13, 14, 15, 16, 17] ?_
                  simp only [pk_cons, pk_nil, ↓A_cons, ↓reduceIte, Nat.reduceEqDiff, reduceCtorEq]
                  -- region 20 (law.go:118)
                  refine Tr.rg hcx [1000094] _ [] rfl rfl rfl ?_
                  simp -implicitDefEqProofs (maxSteps := 2000000) (disch := first | omega | (simp only [List.length_append, List.length_replicate, List.length_set, List.length_drop, List.length_take, List.length_cons, List.length_nil, one_w32, one_w8, one_nI, one_nU, one_str, one_bool, one_int, one_slice, refy_sv, refy_bp, refy_agg, refy_val, refy_kp, refy_tsl, cl_len, sha_len, hfa, hfb] <;> omega) | decide) only [go_sem, ↓reduceIte, Nat.reduceEqDiff, reduceCtorEq, Nat.reduceLT, Nat.reduceBEq, Nat.reduceAdd, Nat.reduceSub, Nat.reduceMul, Nat.reduceMod, Int.reduceMod, Int.reduceToNat, Int.reduceNeg, h10, h11, h13, h21n, h23n, eq44, hf, hg, hcl]
                  refine ⟨i + 1, ⟨by omega, by first | omega | (simp only []; omega)⟩, ?_, rfl⟩
                  (simp only [Le_nil, Le_cons, ↓A_cons, ↓reduceIte, Nat.reduceEqDiff, reduceCtorEq, CLe_refl, CLe_top, CLe_full, CLe_nil, CLe_own, and_true, true_and]; all_goals (repeat' first | exact CLe.refl _ | exact True.intro | (refine CLe_sln ?_; first | with_reducible rfl | (simp only [List.take_zero]; done) | (rfl; done)) | exact CLe_nI (by omega) | exact CLe_int (by omega) | exact CLe_inI (by omega) | exact CLe_nIi (by omega) | with_reducible apply And.intro))
                  all_goals (first | exact CLe_bool (take_eq_next _ _ _ (by omega) (by omega) hcl) | exact CLe_bool (take_ne_next _ _ _ hcl))
              ·
                clear hT hF KT KF
                obtain rfl : i = 16 := by omega
                refine Tr.exit ?_
                refine hK19 _ ?_
                clear hK21 K21 hK19 K19
                refine Tr.kp [7, 10, 11, 12, 13, 16] ?_
                simp only [pk_cons, pk_nil, ↓A_cons, ↓reduceIte, Nat.reduceEqDiff, reduceCtorEq]
                refine Tr.seqK fun K24 hK24 => ?_
                -- region 22 (law.go:121)
                refine Tr.rg hcx [1000119] [some 105, some 106, some 107, some 108, some 109, some 110, some 111, some 112, some 113, some 114, some 115, some 116, some 117, some 118, some 119, some 6] [] rfl rfl rfl ?_
                simp -implicitDefEqProofs (maxSteps := 2000000) (disch := first | omega | (simp only [List.length_append, List.length_replicate, List.length_set, List.length_drop, List.length_take, List.length_cons, List.length_nil, one_w32, one_w8, one_nI, one_nU, one_str, one_bool, one_int, one_slice, refy_sv, refy_bp, refy_agg, refy_val, refy_kp, refy_tsl, cl_len, sha_len, hfa, hfb] <;> omega) | decide) only [go_sem, ↓reduceIte, Nat.reduceEqDiff, reduceCtorEq, Nat.reduceLT, Nat.reduceBEq, Nat.reduceAdd, Nat.reduceSub, Nat.reduceMul, Nat.reduceMod, Int.reduceMod, Int.reduceToNat, Int.reduceNeg, h10, h11, h13, h21n, h23n, eq44, hf, hg, hne]
                refine hK24 _ ?_
                clear hK24 K24
                refine Tr.kp [6] ?_
                simp only [pk_cons, pk_nil, ↓A_cons, ↓reduceIte, Nat.reduceEqDiff, reduceCtorEq]
                refine Tr.ret ?_
                simp -implicitDefEqProofs (disch := first | omega | (simp only [List.length_append, List.length_replicate, List.length_set, List.length_drop, List.length_take, List.length_cons, List.length_nil, one_w32, one_w8, one_nI, one_nU, one_str, one_bool, one_int, one_slice, refy_sv, refy_bp, refy_agg, refy_val, refy_kp, refy_tsl, cl_len, sha_len, hfa, hfb] <;> omega) | decide) only [go_sem, thenQ_n, thenQ_x, thenQ_r, blockQ_n, blockQ_r, EndsR_r, EndsR_n, resL_one, resC_tmp, resC_cell, rcP_int, rcP_bool, rcP_str, rcP_sl, rcP_arr, rcP_struct, ↓reduceIte, Nat.reduceEqDiff, reduceCtorEq]
    ·
      rw [Bool.not_eq_true] at hg
      -- region 2 (law.go:101)
      refine Tr.rg hcx [] [some 19, some 20, some 21, some 22, some 23, some 24, some 25, some 26] [] rfl rfl rfl ?_
      simp -implicitDefEqProofs (maxSteps := 2000000) (disch := first | omega | (simp only [List.length_append, List.length_replicate, List.length_set, List.length_drop, List.length_take, List.length_cons, List.length_nil, one_w32, one_w8, one_nI, one_nU, one_str, one_bool, one_int, one_slice, refy_sv, refy_bp, refy_agg, refy_val, refy_kp, refy_tsl, cl_len, sha_len, hfa, hfb] <;> omega) | decide) only [go_sem, ↓reduceIte, Nat.reduceEqDiff, reduceCtorEq, Nat.reduceLT, Nat.reduceBEq, Nat.reduceAdd, Nat.reduceSub, Nat.reduceMul, Nat.reduceMod, Int.reduceMod, Int.reduceToNat, Int.reduceNeg, h10, h11, h13, h21n, h23n, eq44, hf, hg]
      refine hK4 _ ?_
      clear hK4 K4
      refine Tr.kp [1, 2, 3, 7, 26] ?_
      simp only [pk_cons, pk_nil, ↓A_cons, ↓reduceIte, Nat.reduceEqDiff, reduceCtorEq]
      refine Tr.condG fun KT KF hT hF => ?_
      simp only [ev_tmp, ev_const, ↓A_cons, ↓reduceIte, Nat.reduceEqDiff, reduceCtorEq, condG_bool, GB_true, GB_false, decide_eq_true_eq]
      refine hT ?_
      clear hT hF KT KF
      refine Tr.seqK fun K25 hK25 => ?_
      -- region 3 (law.go:102)
      refine Tr.rg hcx [1000027] _ [] rfl rfl rfl ?_
      simp -implicitDefEqProofs (maxSteps := 2000000) (disch := first | omega | (simp only [List.length_append, List.length_replicate, List.length_set, List.length_drop, List.length_take, List.length_cons, List.length_nil, one_w32, one_w8, one_nI, one_nU, one_str, one_bool, one_int, one_slice, refy_sv, refy_bp, refy_agg, refy_val, refy_kp, refy_tsl, cl_len, sha_len, hfa, hfb] <;> omega) | decide) only [go_sem, ↓reduceIte, Nat.reduceEqDiff, reduceCtorEq, Nat.reduceLT, Nat.reduceBEq, Nat.reduceAdd, Nat.reduceSub, Nat.reduceMul, Nat.reduceMod, Int.reduceMod, Int.reduceToNat, Int.reduceNeg, h10, h11, h13, h21n, h23n, eq44, hf, hg]
      refine hK25 _ ?_
      clear hK25 K25
      refine Tr.kp [6] ?_
      simp only [pk_cons, pk_nil, ↓A_cons, ↓reduceIte, Nat.reduceEqDiff, reduceCtorEq]
      refine Tr.ret ?_
      simp -implicitDefEqProofs (disch := first | omega | (simp only [List.length_append, List.length_replicate, List.length_set, List.length_drop, List.length_take, List.length_cons, List.length_nil, one_w32, one_w8, one_nI, one_nU, one_str, one_bool, one_int, one_slice, refy_sv, refy_bp, refy_agg, refy_val, refy_kp, refy_tsl, cl_len, sha_len, hfa, hfb] <;> omega) | decide) only [go_sem, thenQ_n, thenQ_x, thenQ_r, blockQ_n, blockQ_r, EndsR_r, EndsR_n, resL_one, resC_tmp, resC_cell, rcP_int, rcP_bool, rcP_str, rcP_sl, rcP_arr, rcP_struct, ↓reduceIte, Nat.reduceEqDiff, reduceCtorEq]
  ·
    rw [Bool.not_eq_true] at hf
    -- region 2 (law.go:101)
    refine Tr.rg hcx [] [some 19, some 20, some 21, some 22, some 23, some 24, some 25, some 26] [] rfl rfl rfl ?_
    simp -implicitDefEqProofs (maxSteps := 2000000) (disch := first | omega | (simp only [List.length_append, List.length_replicate, List.length_set, List.length_drop, List.length_take, List.length_cons, List.length_nil, one_w32, one_w8, one_nI, one_nU, one_str, one_bool, one_int, one_slice, refy_sv, refy_bp, refy_agg, refy_val, refy_kp, refy_tsl, cl_len, sha_len, hfa, hfb] <;> omega) | decide) only [go_sem, ↓reduceIte, Nat.reduceEqDiff, reduceCtorEq, Nat.reduceLT, Nat.reduceBEq, Nat.reduceAdd, Nat.reduceSub, Nat.reduceMul, Nat.reduceMod, Int.reduceMod, Int.reduceToNat, Int.reduceNeg, h10, h11, h13, h21n, h23n, eq44, hf]
    refine hK4 _ ?_
    clear hK4 K4
    refine Tr.kp [1, 2, 3, 7, 26] ?_
    simp only [pk_cons, pk_nil, ↓A_cons, ↓reduceIte, Nat.reduceEqDiff, reduceCtorEq]
    refine Tr.condG fun KT KF hT hF => ?_
    simp only [ev_tmp, ev_const, ↓A_cons, ↓reduceIte, Nat.reduceEqDiff, reduceCtorEq, condG_bool, GB_true, GB_false, decide_eq_true_eq]
    refine hT ?_
    clear hT hF KT KF
    refine Tr.seqK fun K26 hK26 => ?_
    -- region 3 (law.go:102)
    refine Tr.rg hcx [1000027] _ [] rfl rfl rfl ?_
    simp -implicitDefEqProofs (maxSteps := 2000000) (disch := first | omega | (simp only [List.length_append, List.length_replicate, List.length_set, List.length_drop, List.length_take, List.length_cons, List.length_nil, one_w32, one_w8, one_nI, one_nU, one_str, one_bool, one_int, one_slice, refy_sv, refy_bp, refy_agg, refy_val, refy_kp, refy_tsl, cl_len, sha_len, hfa, hfb] <;> omega) | decide) only [go_sem, ↓reduceIte, Nat.reduceEqDiff, reduceCtorEq, Nat.reduceLT, Nat.reduceBEq, Nat.reduceAdd, Nat.reduceSub, Nat.reduceMul, Nat.reduceMod, Int.reduceMod, Int.reduceToNat, Int.reduceNeg, h10, h11, h13, h21n, h23n, eq44, hf]
    refine hK26 _ ?_
    clear hK26 K26
    refine Tr.kp [6] ?_
    simp only [pk_cons, pk_nil, ↓A_cons, ↓reduceIte, Nat.reduceEqDiff, reduceCtorEq]
    refine Tr.ret ?_
    simp -implicitDefEqProofs (disch := first | omega | (simp only [List.length_append, List.length_replicate, List.length_set, List.length_drop, List.length_take, List.length_cons, List.length_nil, one_w32, one_w8, one_nI, one_nU, one_str, one_bool, one_int, one_slice, refy_sv, refy_bp, refy_agg, refy_val, refy_kp, refy_tsl, cl_len, sha_len, hfa, hfb] <;> omega) | decide) only [go_sem, thenQ_n, thenQ_x, thenQ_r, blockQ_n, blockQ_r, EndsR_r, EndsR_n, resL_one, resC_tmp, resC_cell, rcP_int, rcP_bool, rcP_str, rcP_sl, rcP_arr, rcP_struct, ↓reduceIte, Nat.reduceEqDiff, reduceCtorEq]

end Go.Sx

namespace Go.Sx
open Go.RowKit Go.Proofs


set_option maxRecDepth 100000 in
set_option maxHeartbeats 8000000 in
theorem fc10 {gl : Nat → C} {M : Nat} {pu : Nat → List C → Option C} (hcx : CxOK (cxP gl M pu)) (h11 : ∀ b : List UInt8, b.length < 140737488355328 → pu 11 [sl bC .no b] = some (.agg (cl bC (sha b)))) (h14 : pu 14 [] = some (.agg F0.cells)) (h15 : ∀ (s : S8) (blk : List UInt8) (n : Nat) (t : List UInt8), blk.length = 64 → n + t.length < 1152921504606846976 → pu 15 [.agg (cl wC s.l ++ (cl bC blk ++ [.val (nU n)])), .val (str t)] = some (.agg (feed ⟨s, blk, n⟩ t).cells)) (h17 : ∀ (s : S8) (blk : List UInt8) (n : Nat), blk.length = 64 → n < 576460752303423488 → pu 17 [.agg (cl wC s.l ++ (cl bC blk ++ [.val (nU n)]))] = some (.agg (cl bC (sumF ⟨s, blk, n⟩)))) (h18 : ∀ key t : List UInt8, key.length < 1099511627776 → t.length < 1099511627776 → pu 18 [.val (str key), .val (str t)] = some (.val (str (hmac key t)))) (h20 : ∀ h : List UInt8, h.length = 32 → pu 20 [.agg (cl bC h)] = some (.val (str h))) (h21 : ∀ (tag : Int) (parts : List (List UInt8)), (inp tag parts).length < 1099511627776 → pu 21 [.val (.int .i64 tag), sl sC .no parts] = some (.agg (cl bC ((sha (inp tag parts)).take 16)))) (h24 : ∀ x y : List UInt8, x.length < 1099511627776 → y.length < 1099511627776 → pu 24 [.val (str x), .val (str y)] = some (.val (.bool (decide (x = y))))) (h25 : ∀ s : List UInt8, s.length < 35184372088832 → pu 25 [.val (str s)] = some (.val (str (hexs s)))) (h26 : ∀ h : List UInt8, h.length = 16 → pu 26 [.agg (cl bC h)] = some (.val (str h)))  : FC Tryd.prog gl 10 ([] : List C) [] (.val (.bool true)) [] := by
  replace hcx := hcx.reN (M := 49)
  refine FC.ofA (cx := cxP gl 49 pu) (rs := [.tmp 0]) rfl Tryd.func10 rfl rfl rfl (by simp only [List.length_cons, List.length_nil]; decide) (by simp only [noRef_val, noRef_agg, noRef_tup, noRef_kp, noRef_sl, noRefs_cl, noRefs_cons, noRefs_nil, noRefs_app, Bool.and_self, Bool.and_true]) ?_
  simp only [ini, noR_val, noR_val, noR_full, noR_no, noR_owns, noR_sv, noR_bp, noR_kp, noR_agg, noR_tup, noR_fn, noR_top, noR_slno, noR_slfull, noR_slown]
  have h21n : ∀ (m : Nat) (parts : List (List UInt8)), (inp m parts).length < 1099511627776 → pu 21 [.val (nI m), sl sC .no parts] = some (.agg (cl bC ((sha (inp m parts)).take 16))) := fun m parts h => h21 m parts h
  have he1 : decide (([97, 98] : List UInt8) = [97, 99]) = false := by decide
  have he3 : [UInt8.ofNat 97, UInt8.ofNat 98, UInt8.ofNat 99] = [97, 98, 99] := id rfl
  have he2 : decide (([] : List UInt8) = [97]) = false := by decide
  have hlen3 : ((sha (inp ((8 : Nat) : Int) [[97], []])).take 16).length = 16 := by rw [List.length_take, sha_len]; rfl
  refine Tr.seqK fun K1 hK1 => ?_
  -- region 0 (law.go:20)
  refine Tr.rg hcx [] _ [] rfl rfl rfl ?_
  simp -implicitDefEqProofs (maxSteps := 2000000) (disch := first | omega | (simp only [List.length_append, List.length_replicate, List.length_set, List.length_drop, List.length_take, List.length_cons, List.length_nil, one_w32, one_w8, one_nI, one_nU, one_str, one_bool, one_int, one_slice, refy_sv, refy_bp, refy_agg, refy_val, refy_kp, refy_tsl, cl_len, vec4, hlen3, hmac_len, sha_len, S8.l_len, feed_len, F0_len, feed_n, F0_n] <;> omega) | decide) only [go_sem, ↓reduceIte, Nat.reduceEqDiff, reduceCtorEq, Nat.reduceLT, Nat.reduceBEq, Nat.reduceAdd, Nat.reduceSub, Nat.reduceMul, Nat.reduceMod, Int.reduceMod, Int.reduceToNat, Int.reduceNeg, h11, h14, h15, h17, h18, h20, h21n, h24, h25, h26, vec1, vec2, vec3, Str.cells, Str_eta, feed_cat, sumF_sha, eq24, List.cons_append, List.nil_append, he1, he2, he3, rep_2, rep_3]
  refine hK1 _ ?_
  clear hK1 K1
  refine Tr.kp [] ?_
  simp only [pk_cons, pk_nil, ↓A_cons, ↓reduceIte, Nat.reduceEqDiff, reduceCtorEq]
  refine Tr.seqK fun K2 hK2 => ?_
  -- region 1 (law.go:21)
  refine Tr.rgL hcx 0 [] _ [none] rfl td22 td5 rfl rfl rfl ?_
  simp -implicitDefEqProofs (maxSteps := 2000000) (disch := first | omega | (simp only [List.length_append, List.length_replicate, List.length_set, List.length_drop, List.length_take, List.length_cons, List.length_nil, one_w32, one_w8, one_nI, one_nU, one_str, one_bool, one_int, one_slice, refy_sv, refy_bp, refy_agg, refy_val, refy_kp, refy_tsl, cl_len, vec4, hlen3, hmac_len, sha_len, S8.l_len, feed_len, F0_len, feed_n, F0_n] <;> omega) | decide) only [go_sem, ↓reduceIte, Nat.reduceEqDiff, reduceCtorEq, Nat.reduceLT, Nat.reduceBEq, Nat.reduceAdd, Nat.reduceSub, Nat.reduceMul, Nat.reduceMod, Int.reduceMod, Int.reduceToNat, Int.reduceNeg, h11, h14, h15, h17, h18, h20, h21n, h24, h25, h26, vec1, vec2, vec3, Str.cells, Str_eta, feed_cat, sumF_sha, eq24, List.cons_append, List.nil_append, he1, he2, he3, rep_2, rep_3]
  refine hK2 _ ?_
  clear hK2 K2
  refine Tr.kp [1] ?_
  simp only [pk_cons, pk_nil, ↓A_cons, ↓reduceIte, Nat.reduceEqDiff, reduceCtorEq]
  refine Tr.seqK fun K3 hK3 => ?_
  -- region 2 (law.go:22)
  refine Tr.rg hcx [] _ [none] rfl rfl rfl ?_
  simp -implicitDefEqProofs (maxSteps := 2000000) (disch := first | omega | (simp only [List.length_append, List.length_replicate, List.length_set, List.length_drop, List.length_take, List.length_cons, List.length_nil, one_w32, one_w8, one_nI, one_nU, one_str, one_bool, one_int, one_slice, refy_sv, refy_bp, refy_agg, refy_val, refy_kp, refy_tsl, cl_len, vec4, hlen3, hmac_len, sha_len, S8.l_len, feed_len, F0_len, feed_n, F0_n] <;> omega) | decide) only [go_sem, ↓reduceIte, Nat.reduceEqDiff, reduceCtorEq, Nat.reduceLT, Nat.reduceBEq, Nat.reduceAdd, Nat.reduceSub, Nat.reduceMul, Nat.reduceMod, Int.reduceMod, Int.reduceToNat, Int.reduceNeg, h11, h14, h15, h17, h18, h20, h21n, h24, h25, h26, vec1, vec2, vec3, Str.cells, Str_eta, feed_cat, sumF_sha, eq24, List.cons_append, List.nil_append, he1, he2, he3, rep_2, rep_3]
  refine hK3 _ ?_
  clear hK3 K3
  refine Tr.kp [1, 2] ?_
  simp only [pk_cons, pk_nil, ↓A_cons, ↓reduceIte, Nat.reduceEqDiff, reduceCtorEq]
  refine Tr.seqK fun K4 hK4 => ?_
  -- region 3 (law.go:23)
  refine Tr.rg hcx [] _ [none] rfl rfl rfl ?_
  simp -implicitDefEqProofs (maxSteps := 2000000) (disch := first | omega | (simp only [List.length_append, List.length_replicate, List.length_set, List.length_drop, List.length_take, List.length_cons, List.length_nil, one_w32, one_w8, one_nI, one_nU, one_str, one_bool, one_int, one_slice, refy_sv, refy_bp, refy_agg, refy_val, refy_kp, refy_tsl, cl_len, vec4, hlen3, hmac_len, sha_len, S8.l_len, feed_len, F0_len, feed_n, F0_n] <;> omega) | decide) only [go_sem, ↓reduceIte, Nat.reduceEqDiff, reduceCtorEq, Nat.reduceLT, Nat.reduceBEq, Nat.reduceAdd, Nat.reduceSub, Nat.reduceMul, Nat.reduceMod, Int.reduceMod, Int.reduceToNat, Int.reduceNeg, h11, h14, h15, h17, h18, h20, h21n, h24, h25, h26, vec1, vec2, vec3, Str.cells, Str_eta, feed_cat, sumF_sha, eq24, List.cons_append, List.nil_append, he1, he2, he3, rep_2, rep_3]
  refine hK4 _ ?_
  clear hK4 K4
  refine Tr.kp [1, 2, 3] ?_
  simp only [pk_cons, pk_nil, ↓A_cons, ↓reduceIte, Nat.reduceEqDiff, reduceCtorEq]
  refine Tr.seqK fun K5 hK5 => ?_
  -- region 4 (law.go:24)
  refine Tr.rg hcx [1000016] _ [] rfl rfl rfl ?_
  simp -implicitDefEqProofs (maxSteps := 2000000) (disch := first | omega | (simp only [List.length_append, List.length_replicate, List.length_set, List.length_drop, List.length_take, List.length_cons, List.length_nil, one_w32, one_w8, one_nI, one_nU, one_str, one_bool, one_int, one_slice, refy_sv, refy_bp, refy_agg, refy_val, refy_kp, refy_tsl, cl_len, vec4, hlen3, hmac_len, sha_len, S8.l_len, feed_len, F0_len, feed_n, F0_n] <;> omega) | decide) only [go_sem, ↓reduceIte, Nat.reduceEqDiff, reduceCtorEq, Nat.reduceLT, Nat.reduceBEq, Nat.reduceAdd, Nat.reduceSub, Nat.reduceMul, Nat.reduceMod, Int.reduceMod, Int.reduceToNat, Int.reduceNeg, h11, h14, h15, h17, h18, h20, h21n, h24, h25, h26, vec1, vec2, vec3, Str.cells, Str_eta, feed_cat, sumF_sha, eq24, List.cons_append, List.nil_append, he1, he2, he3, rep_2, rep_3]
  refine hK5 _ ?_
  clear hK5 K5
  refine Tr.kp [1, 2, 3, 4] ?_
  simp only [pk_cons, pk_nil, ↓A_cons, ↓reduceIte, Nat.reduceEqDiff, reduceCtorEq]
  refine Tr.seqK fun K6 hK6 => ?_
  -- region 5 (law.go:25)
  refine Tr.rg hcx [1000017] _ [] rfl rfl rfl ?_
  simp -implicitDefEqProofs (maxSteps := 2000000) (disch := first | omega | (simp only [List.length_append, List.length_replicate, List.length_set, List.length_drop, List.length_take, List.length_cons, List.length_nil, one_w32, one_w8, one_nI, one_nU, one_str, one_bool, one_int, one_slice, refy_sv, refy_bp, refy_agg, refy_val, refy_kp, refy_tsl, cl_len, vec4, hlen3, hmac_len, sha_len, S8.l_len, feed_len, F0_len, feed_n, F0_n] <;> omega) | decide) only [go_sem, ↓reduceIte, Nat.reduceEqDiff, reduceCtorEq, Nat.reduceLT, Nat.reduceBEq, Nat.reduceAdd, Nat.reduceSub, Nat.reduceMul, Nat.reduceMod, Int.reduceMod, Int.reduceToNat, Int.reduceNeg, h11, h14, h15, h17, h18, h20, h21n, h24, h25, h26, vec1, vec2, vec3, Str.cells, Str_eta, feed_cat, sumF_sha, eq24, List.cons_append, List.nil_append, he1, he2, he3, rep_2, rep_3]
  refine hK6 _ ?_
  clear hK6 K6
  refine Tr.kp [1, 2, 3, 4, 5] ?_
  simp only [pk_cons, pk_nil, ↓A_cons, ↓reduceIte, Nat.reduceEqDiff, reduceCtorEq]
  refine Tr.seqK fun K7 hK7 => ?_
  -- region 6 (law.go:26)
  refine Tr.rg hcx [1000021] [some 18, some 19, some 20, some 21, some 6] [] rfl rfl rfl ?_
  simp -implicitDefEqProofs (maxSteps := 2000000) (disch := first | omega | (simp only [List.length_append, List.length_replicate, List.length_set, List.length_drop, List.length_take, List.length_cons, List.length_nil, one_w32, one_w8, one_nI, one_nU, one_str, one_bool, one_int, one_slice, refy_sv, refy_bp, refy_agg, refy_val, refy_kp, refy_tsl, cl_len, vec4, hlen3, hmac_len, sha_len, S8.l_len, feed_len, F0_len, feed_n, F0_n] <;> omega) | decide) only [go_sem, ↓reduceIte, Nat.reduceEqDiff, reduceCtorEq, Nat.reduceLT, Nat.reduceBEq, Nat.reduceAdd, Nat.reduceSub, Nat.reduceMul, Nat.reduceMod, Int.reduceMod, Int.reduceToNat, Int.reduceNeg, h11, h14, h15, h17, h18, h20, h21n, h24, h25, h26, vec1, vec2, vec3, Str.cells, Str_eta, feed_cat, sumF_sha, eq24, List.cons_append, List.nil_append, he1, he2, he3, rep_2, rep_3]
  refine hK7 _ ?_
  clear hK7 K7
  refine Tr.kp [1, 2, 3, 4, 5, 6] ?_
  simp only [pk_cons, pk_nil, ↓A_cons, ↓reduceIte, Nat.reduceEqDiff, reduceCtorEq]
  refine Tr.seqK fun K8 hK8 => ?_
  -- region 7 (law.go:27)
  refine Tr.rg hcx [1000048] [some 22, some 23, some 24, some 25, some 26, some 27, some 28, some 29, some 30, some 31, some 32, some 33, some 34, some 35, some 36, some 37, some 38, some 39, some 40, some 41, some 42, some 43, some 44, some 45, some 46, some 47, some 48, some 0] [] rfl rfl rfl ?_
  simp -implicitDefEqProofs (maxSteps := 2000000) (disch := first | omega | (simp only [List.length_append, List.length_replicate, List.length_set, List.length_drop, List.length_take, List.length_cons, List.length_nil, one_w32, one_w8, one_nI, one_nU, one_str, one_bool, one_int, one_slice, refy_sv, refy_bp, refy_agg, refy_val, refy_kp, refy_tsl, cl_len, vec4, hlen3, hmac_len, sha_len, S8.l_len, feed_len, F0_len, feed_n, F0_n] <;> omega) | decide) only [go_sem, ↓reduceIte, Nat.reduceEqDiff, reduceCtorEq, Nat.reduceLT, Nat.reduceBEq, Nat.reduceAdd, Nat.reduceSub, Nat.reduceMul, Nat.reduceMod, Int.reduceMod, Int.reduceToNat, Int.reduceNeg, h11, h14, h15, h17, h18, h20, h21n, h24, h25, h26, vec1, vec2, vec3, Str.cells, Str_eta, feed_cat, sumF_sha, eq24, List.cons_append, List.nil_append, he1, he2, he3, rep_2, rep_3]
  refine hK8 _ ?_
  clear hK8 K8
  refine Tr.kp [0] ?_
  simp only [pk_cons, pk_nil, ↓A_cons, ↓reduceIte, Nat.reduceEqDiff, reduceCtorEq]
  refine Tr.ret ?_
  simp -implicitDefEqProofs (disch := first | omega | (simp only [List.length_append, List.length_replicate, List.length_set, List.length_drop, List.length_take, List.length_cons, List.length_nil, one_w32, one_w8, one_nI, one_nU, one_str, one_bool, one_int, one_slice, refy_sv, refy_bp, refy_agg, refy_val, refy_kp, refy_tsl, cl_len, vec4, hlen3, hmac_len, sha_len, S8.l_len, feed_len, F0_len, feed_n, F0_n] <;> omega) | decide) only [go_sem, thenQ_n, thenQ_x, thenQ_r, blockQ_n, blockQ_r, EndsR_r, EndsR_n, resL_one, resC_tmp, resC_cell, rcP_int, rcP_bool, rcP_str, rcP_sl, rcP_arr, rcP_struct, ↓reduceIte, Nat.reduceEqDiff, reduceCtorEq]

end Go.Sx
