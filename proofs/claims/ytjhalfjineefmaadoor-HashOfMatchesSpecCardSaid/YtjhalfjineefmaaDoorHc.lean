/-
  Package hash: contracts of functions. Package hash: contracts of functions. Package hash: contracts of functions.
-/
import Derived.Test.YtjhalfjineefmaaDoorHa
set_option linter.unusedSimpArgs false
set_option linter.unusedVariables false
namespace Go.Sx
open Go.RowKit Go.Proofs


set_option maxRecDepth 100000 in
set_option maxHeartbeats 8000000 in
theorem fc12 {gl : Nat → C} {M : Nat} {pu : Nat → List C → Option C} (hcx : CxOK (cxP gl M pu)) (hg0 : gl 0 = .kp (cl wC kc)) (h27 : ∀ b : List UInt8, b.length < 35184372088832 → pu 27 [sl bC .no b] = some (sl bC (.own 1) (b ++ pad b.length))) (h28 : ∀ b : List UInt8, b.length = 64 → pu 28 [sl bC .no b] = some (.agg (cl wC (sched b 64)))) (h29 : ∀ x n, n < 32 → pu 29 [.val (w32 x), .val (nI n)] = some (.val (w32 (rr x n)))) (b : List UInt8) (hb : b.length < 35184372088832) : FC Tryd.prog gl 12 [sl bC .no b] [] (.agg (cl bC (sha b))) [] := by
  replace hcx := hcx.reN (M := 164)
  refine FC.ofA (cx := cxP gl 164 pu) (rs := [.cell 2 24]) rfl Tryd.func12 rfl rfl rfl (by simp only [List.length_cons, List.length_nil]; decide) (by simp only [noRef_val, noRef_agg, noRef_tup, noRef_kp, noRef_sl, noRefs_cl, noRefs_cons, noRefs_nil, noRefs_app, Bool.and_self, Bool.and_true]) ?_
  simp only [ini, noR_val, noR_val, noR_full, noR_no, noR_owns, noR_sv, noR_bp, noR_kp, noR_agg, noR_tup, noR_fn, noR_top, noR_slno, noR_slfull, noR_slown]
  obtain ⟨Q, hQ⟩ := padM_len b
  have hpl := pad_len b.length
  have hz : zpad b.length < 64 := Nat.mod_lt _ (by decide)
  have hsha := sha_eq b
  obtain ⟨M, hM⟩ : ∃ M, b ++ pad b.length = M := ⟨_, rfl⟩
  rw [hM] at hQ hsha
  have hMl : M.length = 64 * Q := hQ
  have hMb : M.length < 35184372088932 := by rw [← hM, List.length_append, hpl]; omega
  have hMq := True.intro
  refine Tr.seqK fun K1 hK1 => ?_
  -- region 0 (ref.go:53)
  refine Tr.rg hcx [] _ [none] rfl rfl rfl ?_
  simp -implicitDefEqProofs (maxSteps := 2000000) (disch := first | omega | (simp only [List.length_append, List.length_replicate, List.length_set, List.length_drop, List.length_take, List.length_cons, List.length_nil, one_w32, one_w8, one_nI, one_nU, one_str, one_bool, one_int, one_slice, refy_sv, refy_bp, refy_agg, refy_val, refy_kp, refy_tsl, cl_len, hMl, hMq, sched_len, S8.l_len, dig_len, kc_len] <;> omega) | decide) only [go_sem, ↓reduceIte, Nat.reduceEqDiff, reduceCtorEq, Nat.reduceLT, Nat.reduceBEq, Nat.reduceAdd, Nat.reduceSub, Nat.reduceMul, Nat.reduceMod, Int.reduceMod, Int.reduceToNat, Int.reduceNeg, hM, h27, h28, h29, xor_ff, hg0, S8.l, cl_nil]
  refine hK1 _ ?_
  clear hK1 K1
  refine Tr.kp [0, 2] ?_
  simp only [pk_cons, pk_nil, ↓A_cons, ↓reduceIte, Nat.reduceEqDiff, reduceCtorEq]
  refine Tr.seqK fun K2 hK2 => ?_
  -- region 1 (ref.go:54)
  refine Tr.rg hcx [] _ [none] rfl rfl rfl ?_
  simp -implicitDefEqProofs (maxSteps := 2000000) (disch := first | omega | (simp only [List.length_append, List.length_replicate, List.length_set, List.length_drop, List.length_take, List.length_cons, List.length_nil, one_w32, one_w8, one_nI, one_nU, one_str, one_bool, one_int, one_slice, refy_sv, refy_bp, refy_agg, refy_val, refy_kp, refy_tsl, cl_len, hMl, hMq, sched_len, S8.l_len, dig_len, kc_len] <;> omega) | decide) only [go_sem, ↓reduceIte, Nat.reduceEqDiff, reduceCtorEq, Nat.reduceLT, Nat.reduceBEq, Nat.reduceAdd, Nat.reduceSub, Nat.reduceMul, Nat.reduceMod, Int.reduceMod, Int.reduceToNat, Int.reduceNeg, hM, h27, h28, h29, xor_ff, hg0, S8.l, cl_nil]
  refine hK2 _ ?_
  clear hK2 K2
  refine Tr.kp [0, 2, 3] ?_
  simp only [pk_cons, pk_nil, ↓A_cons, ↓reduceIte, Nat.reduceEqDiff, reduceCtorEq]
  refine Tr.seqK fun K3 hK3 => ?_
  -- region 2 (ref.go:55)
  refine Tr.rg hcx [1000022] _ [] rfl rfl rfl ?_
  simp -implicitDefEqProofs (maxSteps := 2000000) (disch := first | omega | (simp only [List.length_append, List.length_replicate, List.length_set, List.length_drop, List.length_take, List.length_cons, List.length_nil, one_w32, one_w8, one_nI, one_nU, one_str, one_bool, one_int, one_slice, refy_sv, refy_bp, refy_agg, refy_val, refy_kp, refy_tsl, cl_len, hMl, hMq, sched_len, S8.l_len, dig_len, kc_len] <;> omega) | decide) only [go_sem, ↓reduceIte, Nat.reduceEqDiff, reduceCtorEq, Nat.reduceLT, Nat.reduceBEq, Nat.reduceAdd, Nat.reduceSub, Nat.reduceMul, Nat.reduceMod, Int.reduceMod, Int.reduceToNat, Int.reduceNeg, hM, h27, h28, h29, xor_ff, hg0, S8.l, cl_nil]
  refine hK3 _ ?_
  clear hK3 K3
  refine Tr.kp [2, 3, 4] ?_
  simp only [pk_cons, pk_nil, ↓A_cons, ↓reduceIte, Nat.reduceEqDiff, reduceCtorEq]
  refine Tr.seqK fun K4 hK4 => ?_
  refine Tr.seqK fun K5 hK5 => ?_
  -- region 3 (ref.go:56)
  refine Tr.rg hcx [] _ [] rfl rfl rfl ?_
  simp -implicitDefEqProofs (maxSteps := 2000000) (disch := first | omega | (simp only [List.length_append, List.length_replicate, List.length_set, List.length_drop, List.length_take, List.length_cons, List.length_nil, one_w32, one_w8, one_nI, one_nU, one_str, one_bool, one_int, one_slice, refy_sv, refy_bp, refy_agg, refy_val, refy_kp, refy_tsl, cl_len, hMl, hMq, sched_len, S8.l_len, dig_len, kc_len] <;> omega) | decide) only [go_sem, ↓reduceIte, Nat.reduceEqDiff, reduceCtorEq, Nat.reduceLT, Nat.reduceBEq, Nat.reduceAdd, Nat.reduceSub, Nat.reduceMul, Nat.reduceMod, Int.reduceMod, Int.reduceToNat, Int.reduceNeg, hM, h27, h28, h29, xor_ff, hg0, S8.l, cl_nil]
  refine hK5 _ ?_
  clear hK5 K5
  refine Tr.kp [2, 3, 4, 5] ?_
  simp only [pk_cons, pk_nil, ↓A_cons, ↓reduceIte, Nat.reduceEqDiff, reduceCtorEq]
  refine Tr.blk ?_
  refine Tr.loopI (α := Nat) (fun a => [(2, ?v2_10), (3, ?v3_10), (4, ?v4_10), (5, .val (nI (64 * a)))]) (fun a => [some (cl bC (List.replicate 32 0)), some (cl wC (feed F0 (M.take (64 * a))).s.l)]) (fun a => a ≤ Q) (fun a => Q - a) (0) ?_ ?le_10 ?hh_10 ?bd_10
  case hh_10 => exact by simp only [Nat.mul_zero, List.take_zero]; rfl
  case le_10 => (simp only [Le_nil, Le_cons, ↓A_cons, ↓reduceIte, Nat.reduceEqDiff, reduceCtorEq, CLe_refl, CLe_top, CLe_full, CLe_nil, CLe_own, and_true, true_and]; all_goals (repeat' first | exact CLe.refl _ | exact True.intro | (refine CLe_sln ?_; first | with_reducible rfl | (simp only [List.take_zero]; done) | (rfl; done)) | exact CLe_nI (by omega) | exact CLe_int (by omega) | exact CLe_inI (by omega) | exact CLe_nIi (by omega) | with_reducible apply And.intro))
  · omega
  case bd_10 =>
    rintro q hq
    have hMq : ((M.drop (64 * q)).take (64 * q + 64 - 64 * q)).length = min 64 (64 * Q - 64 * q) := by rw [List.length_take, List.length_drop, hMl]; omega
    refine Tr.seqK fun K6 hK6 => ?_
    refine Tr.seqK fun K7 hK7 => ?_
    -- region 4 (ref.go:56)
    refine Tr.rg hcx [] _ [] rfl rfl rfl ?_
    simp -implicitDefEqProofs (maxSteps := 2000000) (disch := first | omega | (simp only [List.length_append, List.length_replicate, List.length_set, List.length_drop, List.length_take, List.length_cons, List.length_nil, one_w32, one_w8, one_nI, one_nU, one_str, one_bool, one_int, one_slice, refy_sv, refy_bp, refy_agg, refy_val, refy_kp, refy_tsl, cl_len, hMl, hMq, sched_len, S8.l_len, dig_len, kc_len] <;> omega) | decide) only [go_sem, ↓reduceIte, Nat.reduceEqDiff, reduceCtorEq, Nat.reduceLT, Nat.reduceBEq, Nat.reduceAdd, Nat.reduceSub, Nat.reduceMul, Nat.reduceMod, Int.reduceMod, Int.reduceToNat, Int.reduceNeg, hM, h27, h28, h29, xor_ff, hg0, S8.l, cl_nil]
    refine hK7 _ ?_
    clear hK7 K7
    refine Tr.kp [2, 3, 4, 5, 26] ?_
    simp only [pk_cons, pk_nil, ↓A_cons, ↓reduceIte, Nat.reduceEqDiff, reduceCtorEq]
    refine Tr.condG fun KT KF hT hF => ?_
    simp only [ev_tmp, ev_const, ↓A_cons, ↓reduceIte, Nat.reduceEqDiff, reduceCtorEq, condG_bool, GB_true, GB_false, decide_eq_true_eq]
    refine GB.dec (fun hc26 => hT ?_) (fun hc26 => hF ?_)
    ·
      clear hT hF KT KF
      refine Tr.skip ?_
      refine hK6 _ ?_
      clear hK6 K6
      refine Tr.kp [2, 3, 4, 5] ?_
      simp only [pk_cons, pk_nil, ↓A_cons, ↓reduceIte, Nat.reduceEqDiff, reduceCtorEq]
      refine Tr.seqK fun K8 hK8 => ?_
      refine Tr.blk ?_
      refine Tr.seqK fun K9 hK9 => ?_
      -- region 6 (ref.go:57)
      refine Tr.rg hcx [] _ [none] rfl rfl rfl ?_
      simp -implicitDefEqProofs (maxSteps := 2000000) (disch := first | omega | (simp only [List.length_append, List.length_replicate, List.length_set, List.length_drop, List.length_take, List.length_cons, List.length_nil, one_w32, one_w8, one_nI, one_nU, one_str, one_bool, one_int, one_slice, refy_sv, refy_bp, refy_agg, refy_val, refy_kp, refy_tsl, cl_len, hMl, hMq, sched_len, S8.l_len, dig_len, kc_len] <;> omega) | decide) only [go_sem, ↓reduceIte, Nat.reduceEqDiff, reduceCtorEq, Nat.reduceLT, Nat.reduceBEq, Nat.reduceAdd, Nat.reduceSub, Nat.reduceMul, Nat.reduceMod, Int.reduceMod, Int.reduceToNat, Int.reduceNeg, hM, h27, h28, h29, xor_ff, hg0, S8.l, cl_nil]
      refine hK9 _ ?_
      clear hK9 K9
      refine Tr.kp [2, 3, 4, 5, 6] ?_
      simp only [pk_cons, pk_nil, ↓A_cons, ↓reduceIte, Nat.reduceEqDiff, reduceCtorEq]
      refine Tr.seqK fun K10 hK10 => ?_
      -- region 7 (ref.go:58)
      refine Tr.rgD hcx hMO [1000036, 1000038, 1000040, 1000042, 1000044, 1000046, 1000048, 1000050] _ [] rfl rfl rfl rfl ?_
      simp -implicitDefEqProofs (maxSteps := 2000000) (disch := first | omega | (simp only [List.length_append, List.length_replicate, List.length_set, List.length_drop, List.length_take, List.length_cons, List.length_nil, one_w32, one_w8, one_nI, one_nU, one_str, one_bool, one_int, one_slice, refy_sv, refy_bp, refy_agg, refy_val, refy_kp, refy_tsl, cl_len, hMl, hMq, sched_len, S8.l_len, dig_len, kc_len] <;> omega) | decide) only [go_sem, ↓reduceIte, Nat.reduceEqDiff, reduceCtorEq, Nat.reduceLT, Nat.reduceBEq, Nat.reduceAdd, Nat.reduceSub, Nat.reduceMul, Nat.reduceMod, Int.reduceMod, Int.reduceToNat, Int.reduceNeg, hM, h27, h28, h29, xor_ff, hg0, S8.l, cl_nil]
      with_reducible refine And.intro ?_ ?_
      · exact rfl
      refine hK10 _ ?_
      clear hK10 K10
      refine Tr.kp [2, 3, 4, 5, 6, 7, 8, 9, 10, 11, 12, 13, 14] ?_
      simp only [pk_cons, pk_nil, ↓A_cons, ↓reduceIte, Nat.reduceEqDiff, reduceCtorEq]
      refine Tr.seqK fun K11 hK11 => ?_
      refine Tr.seqK fun K12 hK12 => ?_
      -- region 8 (ref.go:59)
      refine Tr.rg hcx [] _ [] rfl rfl rfl ?_
      simp -implicitDefEqProofs (maxSteps := 2000000) (disch := first | omega | (simp only [List.length_append, List.length_replicate, List.length_set, List.length_drop, List.length_take, List.length_cons, List.length_nil, one_w32, one_w8, one_nI, one_nU, one_str, one_bool, one_int, one_slice, refy_sv, refy_bp, refy_agg, refy_val, refy_kp, refy_tsl, cl_len, hMl, hMq, sched_len, S8.l_len, dig_len, kc_len] <;> omega) | decide) only [go_sem, ↓reduceIte, Nat.reduceEqDiff, reduceCtorEq, Nat.reduceLT, Nat.reduceBEq, Nat.reduceAdd, Nat.reduceSub, Nat.reduceMul, Nat.reduceMod, Int.reduceMod, Int.reduceToNat, Int.reduceNeg, hM, h27, h28, h29, xor_ff, hg0, S8.l, cl_nil]
      refine hK12 _ ?_
      clear hK12 K12
      refine Tr.kp [2, 3, 4, 5, 6, 7, 8, 9, 10, 11, 12, 13, 14, 15] ?_
      simp only [pk_cons, pk_nil, ↓A_cons, ↓reduceIte, Nat.reduceEqDiff, reduceCtorEq]
      refine Tr.blk ?_
      refine Tr.loopI (α := Nat) (fun a => [(2, ?v2_27), (3, ?v3_27), (4, ?v4_27), (5, ?v5_27), (6, ?v6_27), (7, .val (w32 (rounds (sched ((M.drop (64 * q)).take 64) 64) (feed F0 (M.take (64 * q))).s a).a)), (8, .val (w32 (rounds (sched ((M.drop (64 * q)).take 64) 64) (feed F0 (M.take (64 * q))).s a).b)), (9, .val (w32 (rounds (sched ((M.drop (64 * q)).take 64) 64) (feed F0 (M.take (64 * q))).s a).c)), (10, .val (w32 (rounds (sched ((M.drop (64 * q)).take 64) 64) (feed F0 (M.take (64 * q))).s a).d)), (11, .val (w32 (rounds (sched ((M.drop (64 * q)).take 64) 64) (feed F0 (M.take (64 * q))).s a).e)), (12, .val (w32 (rounds (sched ((M.drop (64 * q)).take 64) 64) (feed F0 (M.take (64 * q))).s a).f)), (13, .val (w32 (rounds (sched ((M.drop (64 * q)).take 64) 64) (feed F0 (M.take (64 * q))).s a).g)), (14, .val (w32 (rounds (sched ((M.drop (64 * q)).take 64) 64) (feed F0 (M.take (64 * q))).s a).h)), (15, .val (nI a))]) (fun a => [some (cl bC (List.replicate 32 0)), some (cl wC (feed F0 (M.take (64 * q))).s.l), some (cl wC (sched ((M.drop (64 * q)).take 64) 64))]) (fun a => a ≤ 64) (fun a => 64 - a) (0) ?_ ?le_27 ?hh_27 ?bd_27
      case hh_27 => exact rfl
      case le_27 => (simp only [Le_nil, Le_cons, ↓A_cons, ↓reduceIte, Nat.reduceEqDiff, reduceCtorEq, CLe_refl, CLe_top, CLe_full, CLe_nil, CLe_own, and_true, true_and]; all_goals (repeat' first | exact CLe.refl _ | exact True.intro | (refine CLe_sln ?_; first | with_reducible rfl | (simp only [List.take_zero]; done) | (rfl; done)) | exact CLe_nI (by omega) | exact CLe_int (by omega) | exact CLe_inI (by omega) | exact CLe_nIi (by omega) | with_reducible apply And.intro))
      · omega
      case bd_27 =>
        rintro i hi
        refine Tr.seqK fun K13 hK13 => ?_
        refine Tr.seqK fun K14 hK14 => ?_
        -- region 9 (ref.go:59)
        refine Tr.rg hcx [] _ [] rfl rfl rfl ?_
        simp -implicitDefEqProofs (maxSteps := 2000000) (disch := first | omega | (simp only [List.length_append, List.length_replicate, List.length_set, List.length_drop, List.length_take, List.length_cons, List.length_nil, one_w32, one_w8, one_nI, one_nU, one_str, one_bool, one_int, one_slice, refy_sv, refy_bp, refy_agg, refy_val, refy_kp, refy_tsl, cl_len, hMl, hMq, sched_len, S8.l_len, dig_len, kc_len] <;> omega) | decide) only [go_sem, ↓reduceIte, Nat.reduceEqDiff, reduceCtorEq, Nat.reduceLT, Nat.reduceBEq, Nat.reduceAdd, Nat.reduceSub, Nat.reduceMul, Nat.reduceMod, Int.reduceMod, Int.reduceToNat, Int.reduceNeg, hM, h27, h28, h29, xor_ff, hg0, S8.l, cl_nil]
        refine hK14 _ ?_
        clear hK14 K14
        refine Tr.kp [2, 3, 4, 5, 6, 7, 8, 9, 10, 11, 12, 13, 14, 15, 52] ?_
        simp only [pk_cons, pk_nil, ↓A_cons, ↓reduceIte, Nat.reduceEqDiff, reduceCtorEq]
        refine Tr.condG fun KT KF hT hF => ?_
        simp only [ev_tmp, ev_const, ↓A_cons, ↓reduceIte, Nat.reduceEqDiff, reduceCtorEq, condG_bool, GB_true, GB_false, decide_eq_true_eq]
        refine GB.dec (fun hc52 => hT ?_) (fun hc52 => hF ?_)
        ·
          clear hT hF KT KF
          refine Tr.skip ?_
          refine hK13 _ ?_
          clear hK13 K13
          refine Tr.kp [2, 3, 4, 5, 6, 7, 8, 9, 10, 11, 12, 13, 14, 15] ?_
          simp only [pk_cons, pk_nil, ↓A_cons, ↓reduceIte, Nat.reduceEqDiff, reduceCtorEq]
          refine Tr.seqK fun K15 hK15 => ?_
          refine Tr.blk ?_
          refine Tr.seqK fun K16 hK16 => ?_
          -- region 11 (ref.go:60)
          refine Tr.rgD hcx hMO [1000081] _ [] rfl rfl rfl rfl ?_
          simp -implicitDefEqProofs (maxSteps := 2000000) (disch := first | omega | (simp only [List.length_append, List.length_replicate, List.length_set, List.length_drop, List.length_take, List.length_cons, List.length_nil, one_w32, one_w8, one_nI, one_nU, one_str, one_bool, one_int, one_slice, refy_sv, refy_bp, refy_agg, refy_val, refy_kp, refy_tsl, cl_len, hMl, hMq, sched_len, S8.l_len, dig_len, kc_len] <;> omega) | decide) only [go_sem, ↓reduceIte, Nat.reduceEqDiff, reduceCtorEq, Nat.reduceLT, Nat.reduceBEq, Nat.reduceAdd, Nat.reduceSub, Nat.reduceMul, Nat.reduceMod, Int.reduceMod, Int.reduceToNat, Int.reduceNeg, hM, h27, h28, h29, xor_ff, hg0, S8.l, cl_nil]
          with_reducible refine And.intro ?_ ?_
          · exact rfl
          refine hK16 _ ?_
          clear hK16 K16
          refine Tr.kp [2, 3, 4, 5, 6, 7, 8, 9, 10, 11, 12, 13, 15, 16] ?_
          simp only [pk_cons, pk_nil, ↓A_cons, ↓reduceIte, Nat.reduceEqDiff, reduceCtorEq]
          refine Tr.seqK fun K17 hK17 => ?_
          -- region 12 (ref.go:61)
          refine Tr.rg hcx [1000101] _ [] rfl rfl rfl ?_
          simp -implicitDefEqProofs (maxSteps := 2000000) (disch := first | omega | (simp only [List.length_append, List.length_replicate, List.length_set, List.length_drop, List.length_take, List.length_cons, List.length_nil, one_w32, one_w8, one_nI, one_nU, one_str, one_bool, one_int, one_slice, refy_sv, refy_bp, refy_agg, refy_val, refy_kp, refy_tsl, cl_len, hMl, hMq, sched_len, S8.l_len, dig_len, kc_len] <;> omega) | decide) only [go_sem, ↓reduceIte, Nat.reduceEqDiff, reduceCtorEq, Nat.reduceLT, Nat.reduceBEq, Nat.reduceAdd, Nat.reduceSub, Nat.reduceMul, Nat.reduceMod, Int.reduceMod, Int.reduceToNat, Int.reduceNeg, hM, h27, h28, h29, xor_ff, hg0, S8.l, cl_nil]
          refine hK17 _ ?_
          clear hK17 K17
          refine Tr.kp [2, 3, 4, 5, 6, 7, 8, 9, 10, 11, 12, 13, 15, 16, 17] ?_
          simp only [pk_cons, pk_nil, ↓A_cons, ↓reduceIte, Nat.reduceEqDiff, reduceCtorEq]
          refine Tr.seqK fun K18 hK18 => ?_
          -- region 13 (ref.go:62)
          refine Tr.rg hcx [1000102] _ [] rfl rfl rfl ?_
          simp -implicitDefEqProofs (maxSteps := 2000000) (disch := first | omega | (simp only [List.length_append, List.length_replicate, List.length_set, List.length_drop, List.length_take, List.length_cons, List.length_nil, one_w32, one_w8, one_nI, one_nU, one_str, one_bool, one_int, one_slice, refy_sv, refy_bp, refy_agg, refy_val, refy_kp, refy_tsl, cl_len, hMl, hMq, sched_len, S8.l_len, dig_len, kc_len] <;> omega) | decide) only [go_sem, ↓reduceIte, Nat.reduceEqDiff, reduceCtorEq, Nat.reduceLT, Nat.reduceBEq, Nat.reduceAdd, Nat.reduceSub, Nat.reduceMul, Nat.reduceMod, Int.reduceMod, Int.reduceToNat, Int.reduceNeg, hM, h27, h28, h29, xor_ff, hg0, S8.l, cl_nil]
          refine hK18 _ ?_
          clear hK18 K18
          refine Tr.kp [2, 3, 4, 5, 6, 7, 8, 9, 10, 11, 12, 14, 15, 16, 17] ?_
          simp only [pk_cons, pk_nil, ↓A_cons, ↓reduceIte, Nat.reduceEqDiff, reduceCtorEq]
          refine Tr.seqK fun K19 hK19 => ?_
          -- region 14 (ref.go:63)
          refine Tr.rg hcx [1000103] _ [] rfl rfl rfl ?_
          simp -implicitDefEqProofs (maxSteps := 2000000) (disch := first | omega | (simp only [List.length_append, List.length_replicate, List.length_set, List.length_drop, List.length_take, List.length_cons, List.length_nil, one_w32, one_w8, one_nI, one_nU, one_str, one_bool, one_int, one_slice, refy_sv, refy_bp, refy_agg, refy_val, refy_kp, refy_tsl, cl_len, hMl, hMq, sched_len, S8.l_len, dig_len, kc_len] <;> omega) | decide) only [go_sem, ↓reduceIte, Nat.reduceEqDiff, reduceCtorEq, Nat.reduceLT, Nat.reduceBEq, Nat.reduceAdd, Nat.reduceSub, Nat.reduceMul, Nat.reduceMod, Int.reduceMod, Int.reduceToNat, Int.reduceNeg, hM, h27, h28, h29, xor_ff, hg0, S8.l, cl_nil]
          refine hK19 _ ?_
          clear hK19 K19
          refine Tr.kp [2, 3, 4, 5, 6, 7, 8, 9, 10, 11, 13, 14, 15, 16, 17] ?_
          simp only [pk_cons, pk_nil, ↓A_cons, ↓reduceIte, Nat.reduceEqDiff, reduceCtorEq]
          refine Tr.seqK fun K20 hK20 => ?_
          -- region 15 (ref.go:64)
          refine Tr.rg hcx [1000104] _ [] rfl rfl rfl ?_
          simp -implicitDefEqProofs (maxSteps := 2000000) (disch := first | omega | (simp only [List.length_append, List.length_replicate, List.length_set, List.length_drop, List.length_take, List.length_cons, List.length_nil, one_w32, one_w8, one_nI, one_nU, one_str, one_bool, one_int, one_slice, refy_sv, refy_bp, refy_agg, refy_val, refy_kp, refy_tsl, cl_len, hMl, hMq, sched_len, S8.l_len, dig_len, kc_len] <;> omega) | decide) only [go_sem, ↓reduceIte, Nat.reduceEqDiff, reduceCtorEq, Nat.reduceLT, Nat.reduceBEq, Nat.reduceAdd, Nat.reduceSub, Nat.reduceMul, Nat.reduceMod, Int.reduceMod, Int.reduceToNat, Int.reduceNeg, hM, h27, h28, h29, xor_ff, hg0, S8.l, cl_nil]
          refine hK20 _ ?_
          clear hK20 K20
          refine Tr.kp [2, 3, 4, 5, 6, 7, 8, 9, 10, 12, 13, 14, 15, 16, 17] ?_
          simp only [pk_cons, pk_nil, ↓A_cons, ↓reduceIte, Nat.reduceEqDiff, reduceCtorEq]
          refine Tr.seqK fun K21 hK21 => ?_
          -- region 16 (ref.go:65)
          refine Tr.rg hcx [1000107] _ [] rfl rfl rfl ?_
          simp -implicitDefEqProofs (maxSteps := 2000000) (disch := first | omega | (simp only [List.length_append, List.length_replicate, List.length_set, List.length_drop, List.length_take, List.length_cons, List.length_nil, one_w32, one_w8, one_nI, one_nU, one_str, one_bool, one_int, one_slice, refy_sv, refy_bp, refy_agg, refy_val, refy_kp, refy_tsl, cl_len, hMl, hMq, sched_len, S8.l_len, dig_len, kc_len] <;> omega) | decide) only [go_sem, ↓reduceIte, Nat.reduceEqDiff, reduceCtorEq, Nat.reduceLT, Nat.reduceBEq, Nat.reduceAdd, Nat.reduceSub, Nat.reduceMul, Nat.reduceMod, Int.reduceMod, Int.reduceToNat, Int.reduceNeg, hM, h27, h28, h29, xor_ff, hg0, S8.l, cl_nil]
          refine hK21 _ ?_
          clear hK21 K21
          refine Tr.kp [2, 3, 4, 5, 6, 7, 8, 9, 11, 12, 13, 14, 15, 16, 17] ?_
          simp only [pk_cons, pk_nil, ↓A_cons, ↓reduceIte, Nat.reduceEqDiff, reduceCtorEq]
          refine Tr.seqK fun K22 hK22 => ?_
          -- region 17 (ref.go:66)
          refine Tr.rg hcx [1000108] _ [] rfl rfl rfl ?_
          simp -implicitDefEqProofs (maxSteps := 2000000) (disch := first | omega | (simp only [List.length_append, List.length_replicate, List.length_set, List.length_drop, List.length_take, List.length_cons, List.length_nil, one_w32, one_w8, one_nI, one_nU, one_str, one_bool, one_int, one_slice, refy_sv, refy_bp, refy_agg, refy_val, refy_kp, refy_tsl, cl_len, hMl, hMq, sched_len, S8.l_len, dig_len, kc_len] <;> omega) | decide) only [go_sem, ↓reduceIte, Nat.reduceEqDiff, reduceCtorEq, Nat.reduceLT, Nat.reduceBEq, Nat.reduceAdd, Nat.reduceSub, Nat.reduceMul, Nat.reduceMod, Int.reduceMod, Int.reduceToNat, Int.reduceNeg, hM, h27, h28, h29, xor_ff, hg0, S8.l, cl_nil]
          refine hK22 _ ?_
          clear hK22 K22
          refine Tr.kp [2, 3, 4, 5, 6, 7, 8, 10, 11, 12, 13, 14, 15, 16, 17] ?_
          simp only [pk_cons, pk_nil, ↓A_cons, ↓reduceIte, Nat.reduceEqDiff, reduceCtorEq]
          refine Tr.seqK fun K23 hK23 => ?_
          -- region 18 (ref.go:67)
          refine Tr.rg hcx [1000109] _ [] rfl rfl rfl ?_
          simp -implicitDefEqProofs (maxSteps := 2000000) (disch := first | omega | (simp only [List.length_append, List.length_replicate, List.length_set, List.length_drop, List.length_take, List.length_cons, List.length_nil, one_w32, one_w8, one_nI, one_nU, one_str, one_bool, one_int, one_slice, refy_sv, refy_bp, refy_agg, refy_val, refy_kp, refy_tsl, cl_len, hMl, hMq, sched_len, S8.l_len, dig_len, kc_len] <;> omega) | decide) only [go_sem, ↓reduceIte, Nat.reduceEqDiff, reduceCtorEq, Nat.reduceLT, Nat.reduceBEq, Nat.reduceAdd, Nat.reduceSub, Nat.reduceMul, Nat.reduceMod, Int.reduceMod, Int.reduceToNat, Int.reduceNeg, hM, h27, h28, h29, xor_ff, hg0, S8.l, cl_nil]
          refine hK23 _ ?_
          clear hK23 K23
          refine Tr.kp [2, 3, 4, 5, 6, 7, 9, 10, 11, 12, 13, 14, 15, 16, 17] ?_
          simp only [pk_cons, pk_nil, ↓A_cons, ↓reduceIte, Nat.reduceEqDiff, reduceCtorEq]
          refine Tr.seqK fun K24 hK24 => ?_
          -- region 19 (ref.go:68)
          refine Tr.rg hcx [1000110] _ [] rfl rfl rfl ?_
          simp -implicitDefEqProofs (maxSteps := 2000000) (disch := first | omega | (simp only [List.length_append, List.length_replicate, List.length_set, List.length_drop, List.length_take, List.length_cons, List.length_nil, one_w32, one_w8, one_nI, one_nU, one_str, one_bool, one_int, one_slice, refy_sv, refy_bp, refy_agg, refy_val, refy_kp, refy_tsl, cl_len, hMl, hMq, sched_len, S8.l_len, dig_len, kc_len] <;> omega) | decide) only [go_sem, ↓reduceIte, Nat.reduceEqDiff, reduceCtorEq, Nat.reduceLT, Nat.reduceBEq, Nat.reduceAdd, Nat.reduceSub, Nat.reduceMul, Nat.reduceMod, Int.reduceMod, Int.reduceToNat, Int.reduceNeg, hM, h27, h28, h29, xor_ff, hg0, S8.l, cl_nil]
          refine hK24 _ ?_
          clear hK24 K24
          refine Tr.kp [2, 3, 4, 5, 6, 8, 9, 10, 11, 12, 13, 14, 15, 16, 17] ?_
          simp only [pk_cons, pk_nil, ↓A_cons, ↓reduceIte, Nat.reduceEqDiff, reduceCtorEq]
          -- region 20 (ref.go:69)
          refine Tr.rg hcx [1000113] _ [] rfl rfl rfl ?_
          simp -implicitDefEqProofs (maxSteps := 2000000) (disch := first | omega | (simp only [List.length_append, List.length_replicate, List.length_set, List.length_drop, List.length_take, List.length_cons, List.length_nil, one_w32, one_w8, one_nI, one_nU, one_str, one_bool, one_int, one_slice, refy_sv, refy_bp, refy_agg, refy_val, refy_kp, refy_tsl, cl_len, hMl, hMq, sched_len, S8.l_len, dig_len, kc_len] <;> omega) | decide) only [go_sem, ↓reduceIte, Nat.reduceEqDiff, reduceCtorEq, Nat.reduceLT, Nat.reduceBEq, Nat.reduceAdd, Nat.reduceSub, Nat.reduceMul, Nat.reduceMod, Int.reduceMod, Int.reduceToNat, Int.reduceNeg, hM, h27, h28, h29, xor_ff, hg0, S8.l, cl_nil]
          refine hK15 _ ?_
          clear hK15 K15
          refine Tr.kp [2, 3, 4, 5, 6, 7, 8, 9, 10, 11, 12, 13, 14, 15] ?_
          simp only [pk_cons, pk_nil, ↓A_cons, ↓reduceIte, Nat.reduceEqDiff, reduceCtorEq]
          -- region 10 (ref.go:59)
          refine Tr.rg hcx [1000054] _ [] rfl rfl rfl ?_
          simp -implicitDefEqProofs (maxSteps := 2000000) (disch := first | omega | (simp only [List.length_append, List.length_replicate, List.length_set, List.length_drop, List.length_take, List.length_cons, List.length_nil, one_w32, one_w8, one_nI, one_nU, one_str, one_bool, one_int, one_slice, refy_sv, refy_bp, refy_agg, refy_val, refy_kp, refy_tsl, cl_len, hMl, hMq, sched_len, S8.l_len, dig_len, kc_len] <;> omega) | decide) only [go_sem, ↓reduceIte, Nat.reduceEqDiff, reduceCtorEq, Nat.reduceLT, Nat.reduceBEq, Nat.reduceAdd, Nat.reduceSub, Nat.reduceMul, Nat.reduceMod, Int.reduceMod, Int.reduceToNat, Int.reduceNeg, hM, h27, h28, h29, xor_ff, hg0, S8.l, cl_nil]
          refine ⟨i + 1, ⟨by omega, by first | omega | (simp only []; omega)⟩, ?_, rfl⟩
          (simp only [Le_nil, Le_cons, ↓A_cons, ↓reduceIte, Nat.reduceEqDiff, reduceCtorEq, CLe_refl, CLe_top, CLe_full, CLe_nil, CLe_own, and_true, true_and]; all_goals (repeat' first | exact CLe.refl _ | exact True.intro | (refine CLe_sln ?_; first | with_reducible rfl | (simp only [List.take_zero]; done) | (rfl; done)) | exact CLe_nI (by omega) | exact CLe_int (by omega) | exact CLe_inI (by omega) | exact CLe_nIi (by omega) | with_reducible apply And.intro))
        ·
          clear hT hF KT KF
          obtain rfl : i = 64 := by omega
          refine Tr.exit ?_
          refine hK11 _ ?_
          clear hK13 K13 hK11 K11
          refine Tr.kp [2, 3, 4, 5, 7, 8, 9, 10, 11, 12, 13, 14] ?_
          simp only [pk_cons, pk_nil, ↓A_cons, ↓reduceIte, Nat.reduceEqDiff, reduceCtorEq]
          -- region 21 (ref.go:71)
          refine Tr.rg hcx [] _ [] rfl rfl rfl ?_
          simp -implicitDefEqProofs (maxSteps := 2000000) (disch := first | omega | (simp only [List.length_append, List.length_replicate, List.length_set, List.length_drop, List.length_take, List.length_cons, List.length_nil, one_w32, one_w8, one_nI, one_nU, one_str, one_bool, one_int, one_slice, refy_sv, refy_bp, refy_agg, refy_val, refy_kp, refy_tsl, cl_len, hMl, hMq, sched_len, S8.l_len, dig_len, kc_len] <;> omega) | decide) only [go_sem, ↓reduceIte, Nat.reduceEqDiff, reduceCtorEq, Nat.reduceLT, Nat.reduceBEq, Nat.reduceAdd, Nat.reduceSub, Nat.reduceMul, Nat.reduceMod, Int.reduceMod, Int.reduceToNat, Int.reduceNeg, hM, h27, h28, h29, xor_ff, hg0, S8.l, cl_nil]
          refine hK8 _ ?_
          clear hK8 K8
          refine Tr.kp [2, 3, 4, 5] ?_
          simp only [pk_cons, pk_nil, ↓A_cons, ↓reduceIte, Nat.reduceEqDiff, reduceCtorEq]
          -- region 5 (ref.go:56)
          refine Tr.cutA hcx 2 (by decide) ?_ ?_ ?_
          · simp only [noRefE_nil, noRefE_cons, noRef_val, noRef_agg, noRef_tup, noRef_kp, noRef_sl, noRefs_cl, noRefs_cons, noRefs_nil, noRefs_app, noRef_bp, noRef_sv, noRef_top, noRef_fn, Bool.and_self, Bool.and_true, Bool.true_and, decide_true] <;> decide
          · simp only [List.take_succ_cons, List.take_zero, noRefH_nil, noRefH_none, noRefH_some, noRef_val, noRef_agg, noRef_tup, noRef_kp, noRef_sl, noRefs_cl, noRefs_cons, noRefs_nil, noRefs_app, noRef_bp, noRef_sv, noRef_top, noRef_fn, Bool.and_self, Bool.and_true, Bool.true_and, decide_true] <;> decide
          simp only [List.take_succ_cons, List.take_zero]
          refine Tr.rg hcx [1000028] _ [] rfl rfl rfl ?_
          simp -implicitDefEqProofs (maxSteps := 2000000) (disch := first | omega | (simp only [List.length_append, List.length_replicate, List.length_set, List.length_drop, List.length_take, List.length_cons, List.length_nil, one_w32, one_w8, one_nI, one_nU, one_str, one_bool, one_int, one_slice, refy_sv, refy_bp, refy_agg, refy_val, refy_kp, refy_tsl, cl_len, hMl, hMq, sched_len, S8.l_len, dig_len, kc_len] <;> omega) | decide) only [go_sem, ↓reduceIte, Nat.reduceEqDiff, reduceCtorEq, Nat.reduceLT, Nat.reduceBEq, Nat.reduceAdd, Nat.reduceSub, Nat.reduceMul, Nat.reduceMod, Int.reduceMod, Int.reduceToNat, Int.reduceNeg, hM, h27, h28, h29, xor_ff, hg0, S8.l, cl_nil]
          refine ⟨q + 1, ⟨by omega, by first | omega | (simp only []; omega)⟩, ?_, by dsimp only; rw [blk_step M q (by omega)]; rfl⟩
          (simp only [Le_nil, Le_cons, ↓A_cons, ↓reduceIte, Nat.reduceEqDiff, reduceCtorEq, CLe_refl, CLe_top, CLe_full, CLe_nil, CLe_own, and_true, true_and]; all_goals (repeat' first | exact CLe.refl _ | exact True.intro | (refine CLe_sln ?_; first | with_reducible rfl | (simp only [List.take_zero]; done) | (rfl; done)) | exact CLe_nI (by omega) | exact CLe_int (by omega) | exact CLe_inI (by omega) | exact CLe_nIi (by omega) | with_reducible apply And.intro))
    ·
      clear hT hF KT KF
      obtain rfl : q = Q := by omega
      rw [show 64 * q = M.length by omega, List.take_length]
      refine Tr.exit ?_
      refine hK4 _ ?_
      clear hK6 K6 hK4 K4
      refine Tr.kp [2, 3] ?_
      simp only [pk_cons, pk_nil, ↓A_cons, ↓reduceIte, Nat.reduceEqDiff, reduceCtorEq]
      refine Tr.seqK fun K25 hK25 => ?_
      -- region 22 (ref.go:73)
      refine Tr.rg hcx [] _ [none] rfl rfl rfl ?_
      simp -implicitDefEqProofs (maxSteps := 2000000) (disch := first | omega | (simp only [List.length_append, List.length_replicate, List.length_set, List.length_drop, List.length_take, List.length_cons, List.length_nil, one_w32, one_w8, one_nI, one_nU, one_str, one_bool, one_int, one_slice, refy_sv, refy_bp, refy_agg, refy_val, refy_kp, refy_tsl, cl_len, hMl, hMq, sched_len, S8.l_len, dig_len, kc_len] <;> omega) | decide) only [go_sem, ↓reduceIte, Nat.reduceEqDiff, reduceCtorEq, Nat.reduceLT, Nat.reduceBEq, Nat.reduceAdd, Nat.reduceSub, Nat.reduceMul, Nat.reduceMod, Int.reduceMod, Int.reduceToNat, Int.reduceNeg, hM, h27, h28, h29, xor_ff, hg0, S8.l, cl_nil]
      refine hK25 _ ?_
      clear hK25 K25
      refine Tr.kp [2, 3, 18] ?_
      simp only [pk_cons, pk_nil, ↓A_cons, ↓reduceIte, Nat.reduceEqDiff, reduceCtorEq]
      refine Tr.seqK fun K26 hK26 => ?_
      refine Tr.seqK fun K27 hK27 => ?_
      -- region 23 (ref.go:74)
      refine Tr.rg hcx [] _ [] rfl rfl rfl ?_
      simp -implicitDefEqProofs (maxSteps := 2000000) (disch := first | omega | (simp only [List.length_append, List.length_replicate, List.length_set, List.length_drop, List.length_take, List.length_cons, List.length_nil, one_w32, one_w8, one_nI, one_nU, one_str, one_bool, one_int, one_slice, refy_sv, refy_bp, refy_agg, refy_val, refy_kp, refy_tsl, cl_len, hMl, hMq, sched_len, S8.l_len, dig_len, kc_len] <;> omega) | decide) only [go_sem, ↓reduceIte, Nat.reduceEqDiff, reduceCtorEq, Nat.reduceLT, Nat.reduceBEq, Nat.reduceAdd, Nat.reduceSub, Nat.reduceMul, Nat.reduceMod, Int.reduceMod, Int.reduceToNat, Int.reduceNeg, hM, h27, h28, h29, xor_ff, hg0, S8.l, cl_nil]
      refine hK27 _ ?_
      clear hK27 K27
      refine Tr.kp [2, 3, 18, 19] ?_
      simp only [pk_cons, pk_nil, ↓A_cons, ↓reduceIte, Nat.reduceEqDiff, reduceCtorEq]
      refine Tr.blk ?_
      refine Tr.loopI (α := Nat) (fun a => [(2, ?v2_64), (3, ?v3_64), (18, ?v18_64), (19, .val (nI a))]) (fun a => [some (cl bC (List.replicate 32 0)), some (cl wC (feed F0 M).s.l), some (cl bC (dig (feed F0 M).s a ++ List.replicate (32 - a) 0))]) (fun a => a ≤ 32) (fun a => 32 - a) (0) ?_ ?le_64 ?hh_64 ?bd_64
      case hh_64 => exact rfl
      case le_64 => (simp only [Le_nil, Le_cons, ↓A_cons, ↓reduceIte, Nat.reduceEqDiff, reduceCtorEq, CLe_refl, CLe_top, CLe_full, CLe_nil, CLe_own, and_true, true_and]; all_goals (repeat' first | exact CLe.refl _ | exact True.intro | (refine CLe_sln ?_; first | with_reducible rfl | (simp only [List.take_zero]; done) | (rfl; done)) | exact CLe_nI (by omega) | exact CLe_int (by omega) | exact CLe_inI (by omega) | exact CLe_nIi (by omega) | with_reducible apply And.intro))
      · omega
      case bd_64 =>
        rintro i hi
        refine Tr.seqK fun K28 hK28 => ?_
        refine Tr.seqK fun K29 hK29 => ?_
        -- region 24 (ref.go:74)
        refine Tr.rg hcx [] _ [] rfl rfl rfl ?_
        simp -implicitDefEqProofs (maxSteps := 2000000) (disch := first | omega | (simp only [List.length_append, List.length_replicate, List.length_set, List.length_drop, List.length_take, List.length_cons, List.length_nil, one_w32, one_w8, one_nI, one_nU, one_str, one_bool, one_int, one_slice, refy_sv, refy_bp, refy_agg, refy_val, refy_kp, refy_tsl, cl_len, hMl, hMq, sched_len, S8.l_len, dig_len, kc_len] <;> omega) | decide) only [go_sem, ↓reduceIte, Nat.reduceEqDiff, reduceCtorEq, Nat.reduceLT, Nat.reduceBEq, Nat.reduceAdd, Nat.reduceSub, Nat.reduceMul, Nat.reduceMod, Int.reduceMod, Int.reduceToNat, Int.reduceNeg, hM, h27, h28, h29, xor_ff, hg0, S8.l, cl_nil]
        refine hK29 _ ?_
        clear hK29 K29
        refine Tr.kp [2, 3, 18, 19, 148] ?_
        simp only [pk_cons, pk_nil, ↓A_cons, ↓reduceIte, Nat.reduceEqDiff, reduceCtorEq]
        refine Tr.condG fun KT KF hT hF => ?_
        simp only [ev_tmp, ev_const, ↓A_cons, ↓reduceIte, Nat.reduceEqDiff, reduceCtorEq, condG_bool, GB_true, GB_false, decide_eq_true_eq]
        refine GB.dec (fun hc148 => hT ?_) (fun hc148 => hF ?_)
        ·
          clear hT hF KT KF
          refine Tr.skip ?_
          refine hK28 _ ?_
          clear hK28 K28
          refine Tr.kp [2, 3, 18, 19] ?_
          simp only [pk_cons, pk_nil, ↓A_cons, ↓reduceIte, Nat.reduceEqDiff, reduceCtorEq]
          refine Tr.seqK fun K30 hK30 => ?_
          refine Tr.blk ?_
          -- region 26 (ref.go:75)
          refine Tr.rg hcx [] _ [] rfl rfl rfl ?_
          simp -implicitDefEqProofs (maxSteps := 2000000) (disch := first | omega | (simp only [List.length_append, List.length_replicate, List.length_set, List.length_drop, List.length_take, List.length_cons, List.length_nil, one_w32, one_w8, one_nI, one_nU, one_str, one_bool, one_int, one_slice, refy_sv, refy_bp, refy_agg, refy_val, refy_kp, refy_tsl, cl_len, hMl, hMq, sched_len, S8.l_len, dig_len, kc_len] <;> omega) | decide) only [go_sem, ↓reduceIte, Nat.reduceEqDiff, reduceCtorEq, Nat.reduceLT, Nat.reduceBEq, Nat.reduceAdd, Nat.reduceSub, Nat.reduceMul, Nat.reduceMod, Int.reduceMod, Int.reduceToNat, Int.reduceNeg, hM, h27, h28, h29, xor_ff, hg0, S8.l, cl_nil]
          refine hK30 _ ?_
          clear hK30 K30
          refine Tr.kp [2, 3, 18, 19] ?_
          simp only [pk_cons, pk_nil, ↓A_cons, ↓reduceIte, Nat.reduceEqDiff, reduceCtorEq]
          -- region 25 (ref.go:74)
          refine Tr.rg hcx [1000150] _ [] rfl rfl rfl ?_
          simp -implicitDefEqProofs (maxSteps := 2000000) (disch := first | omega | (simp only [List.length_append, List.length_replicate, List.length_set, List.length_drop, List.length_take, List.length_cons, List.length_nil, one_w32, one_w8, one_nI, one_nU, one_str, one_bool, one_int, one_slice, refy_sv, refy_bp, refy_agg, refy_val, refy_kp, refy_tsl, cl_len, hMl, hMq, sched_len, S8.l_len, dig_len, kc_len] <;> omega) | decide) only [go_sem, ↓reduceIte, Nat.reduceEqDiff, reduceCtorEq, Nat.reduceLT, Nat.reduceBEq, Nat.reduceAdd, Nat.reduceSub, Nat.reduceMul, Nat.reduceMod, Int.reduceMod, Int.reduceToNat, Int.reduceNeg, hM, h27, h28, h29, xor_ff, hg0, S8.l, cl_nil]
          refine ⟨i + 1, ⟨by omega, by first | omega | (simp only []; omega)⟩, ?_, by dsimp only; rw [set_rep _ _ _ _ _ (dig_len _ _) hc148, ← dig_next _ i hc148]; rfl⟩
          (simp only [Le_nil, Le_cons, ↓A_cons, ↓reduceIte, Nat.reduceEqDiff, reduceCtorEq, CLe_refl, CLe_top, CLe_full, CLe_nil, CLe_own, and_true, true_and]; all_goals (repeat' first | exact CLe.refl _ | exact True.intro | (refine CLe_sln ?_; first | with_reducible rfl | (simp only [List.take_zero]; done) | (rfl; done)) | exact CLe_nI (by omega) | exact CLe_int (by omega) | exact CLe_inI (by omega) | exact CLe_nIi (by omega) | with_reducible apply And.intro))
        ·
          clear hT hF KT KF
          obtain rfl : i = 32 := by omega
          refine Tr.exit ?_
          refine hK26 _ ?_
          clear hK28 K28 hK26 K26
          refine Tr.kp [2, 18] ?_
          simp only [pk_cons, pk_nil, ↓A_cons, ↓reduceIte, Nat.reduceEqDiff, reduceCtorEq]
          refine Tr.seqK fun K31 hK31 => ?_
          -- region 27 (ref.go:77)
          refine Tr.rg hcx [] _ [] rfl rfl rfl ?_
          simp -implicitDefEqProofs (maxSteps := 2000000) (disch := first | omega | (simp only [List.length_append, List.length_replicate, List.length_set, List.length_drop, List.length_take, List.length_cons, List.length_nil, one_w32, one_w8, one_nI, one_nU, one_str, one_bool, one_int, one_slice, refy_sv, refy_bp, refy_agg, refy_val, refy_kp, refy_tsl, cl_len, hMl, hMq, sched_len, S8.l_len, dig_len, kc_len] <;> omega) | decide) only [go_sem, ↓reduceIte, Nat.reduceEqDiff, reduceCtorEq, Nat.reduceLT, Nat.reduceBEq, Nat.reduceAdd, Nat.reduceSub, Nat.reduceMul, Nat.reduceMod, Int.reduceMod, Int.reduceToNat, Int.reduceNeg, hM, h27, h28, h29, xor_ff, hg0, S8.l, cl_nil]
          refine hK31 _ ?_
          clear hK31 K31
          refine Tr.kp [2] ?_
          simp only [pk_cons, pk_nil, ↓A_cons, ↓reduceIte, Nat.reduceEqDiff, reduceCtorEq]
          refine Tr.ret ?_
          simp -implicitDefEqProofs (disch := first | omega | (simp only [List.length_append, List.length_replicate, List.length_set, List.length_drop, List.length_take, List.length_cons, List.length_nil, one_w32, one_w8, one_nI, one_nU, one_str, one_bool, one_int, one_slice, refy_sv, refy_bp, refy_agg, refy_val, refy_kp, refy_tsl, cl_len, hMl, hMq, sched_len, S8.l_len, dig_len, kc_len] <;> omega) | decide) only [go_sem, thenQ_n, thenQ_x, thenQ_r, blockQ_n, blockQ_r, EndsR_r, EndsR_n, resL_one, resC_tmp, resC_cell, rcP_int, rcP_bool, rcP_str, rcP_sl, rcP_arr, rcP_struct, ↓reduceIte, Nat.reduceEqDiff, reduceCtorEq]
          all_goals (rw [hsha]; simp)

set_option maxRecDepth 100000 in
set_option maxHeartbeats 8000000 in
theorem fc32 {gl : Nat → C} {M : Nat} {pu : Nat → List C → Option C} (hcx : CxOK (cxP gl M pu)) (h12 : ∀ b : List UInt8, b.length < 35184372088832 → pu 12 [sl bC .no b] = some (.agg (cl bC (sha b)))) (h20 : ∀ h : List UInt8, h.length = 32 → pu 20 [.agg (cl bC h)] = some (.val (str h))) (key : List UInt8) (x : UInt8) (hk : key.length < 35184372088832) : FC Tryd.prog gl 32 [.val (str key), .val (w8 x)] [] (sl bC (.own 1) (padk (keyOf key) x)) [] := by
  replace hcx := hcx.reN (M := 35)
  refine FC.ofA (cx := cxP gl 35 pu) (rs := [.tmp 4]) rfl Tryd.func32 rfl rfl rfl (by simp only [List.length_cons, List.length_nil]; decide) (by simp only [noRef_val, noRef_agg, noRef_tup, noRef_kp, noRef_sl, noRefs_cl, noRefs_cons, noRefs_nil, noRefs_app, Bool.and_self, Bool.and_true]) ?_
  simp only [ini, noR_val, noR_val, noR_full, noR_no, noR_owns, noR_sv, noR_bp, noR_kp, noR_agg, noR_tup, noR_fn, noR_top, noR_slno, noR_slfull, noR_slown]
  have hk64 := keyOf_len key
  have hpl := padk_len (keyOf key) x
  refine Tr.seqK fun K1 hK1 => ?_
  -- region 0 (ref.go:99)
  refine Tr.rg hcx [] _ [] rfl rfl rfl ?_
  simp -implicitDefEqProofs (maxSteps := 2000000) (disch := first | omega | (simp only [List.length_append, List.length_replicate, List.length_set, List.length_drop, List.length_take, List.length_cons, List.length_nil, one_w32, one_w8, one_nI, one_nU, one_str, one_bool, one_int, one_slice, refy_sv, refy_bp, refy_agg, refy_val, refy_kp, refy_tsl, cl_len, sha_len, padk_len] <;> omega) | decide) only [go_sem, ↓reduceIte, Nat.reduceEqDiff, reduceCtorEq, Nat.reduceLT, Nat.reduceBEq, Nat.reduceAdd, Nat.reduceSub, Nat.reduceMul, Nat.reduceMod, Int.reduceMod, Int.reduceToNat, Int.reduceNeg, h12, h20]
  refine hK1 _ ?_
  clear hK1 K1
  refine Tr.kp [0, 1] ?_
  simp only [pk_cons, pk_nil, ↓A_cons, ↓reduceIte, Nat.reduceEqDiff, reduceCtorEq]
  refine Tr.seqK fun K2 hK2 => ?_
  -- region 1 (ref.go:100)
  refine Tr.rg hcx [1000009] _ [] rfl rfl rfl ?_
  simp -implicitDefEqProofs (maxSteps := 2000000) (disch := first | omega | (simp only [List.length_append, List.length_replicate, List.length_set, List.length_drop, List.length_take, List.length_cons, List.length_nil, one_w32, one_w8, one_nI, one_nU, one_str, one_bool, one_int, one_slice, refy_sv, refy_bp, refy_agg, refy_val, refy_kp, refy_tsl, cl_len, sha_len, padk_len] <;> omega) | decide) only [go_sem, ↓reduceIte, Nat.reduceEqDiff, reduceCtorEq, Nat.reduceLT, Nat.reduceBEq, Nat.reduceAdd, Nat.reduceSub, Nat.reduceMul, Nat.reduceMod, Int.reduceMod, Int.reduceToNat, Int.reduceNeg, h12, h20]
  refine hK2 _ ?_
  clear hK2 K2
  refine Tr.kp [0, 1, 5] ?_
  simp only [pk_cons, pk_nil, ↓A_cons, ↓reduceIte, Nat.reduceEqDiff, reduceCtorEq]
  refine Tr.seqJ (α := Unit) (fun a => [(1, ?v1_82), (5, .val (str (keyOf key)))]) (fun a => []) (fun a => True) ?ja_82 ?jb_82
  case ja_82 =>
    refine Tr.seqK fun K3 hK3 => ?_
    -- region 2 (ref.go:101)
    refine Tr.rg hcx [] _ [] rfl rfl rfl ?_
    simp -implicitDefEqProofs (maxSteps := 2000000) (disch := first | omega | (simp only [List.length_append, List.length_replicate, List.length_set, List.length_drop, List.length_take, List.length_cons, List.length_nil, one_w32, one_w8, one_nI, one_nU, one_str, one_bool, one_int, one_slice, refy_sv, refy_bp, refy_agg, refy_val, refy_kp, refy_tsl, cl_len, sha_len, padk_len] <;> omega) | decide) only [go_sem, ↓reduceIte, Nat.reduceEqDiff, reduceCtorEq, Nat.reduceLT, Nat.reduceBEq, Nat.reduceAdd, Nat.reduceSub, Nat.reduceMul, Nat.reduceMod, Int.reduceMod, Int.reduceToNat, Int.reduceNeg, h12, h20]
    refine hK3 _ ?_
    clear hK3 K3
    refine Tr.kp [0, 1, 5, 12] ?_
    simp only [pk_cons, pk_nil, ↓A_cons, ↓reduceIte, Nat.reduceEqDiff, reduceCtorEq]
    refine Tr.condG fun KT KF hT hF => ?_
    simp only [ev_tmp, ev_const, ↓A_cons, ↓reduceIte, Nat.reduceEqDiff, reduceCtorEq, condG_bool, GB_true, GB_false, decide_eq_true_eq]
    refine GB.dec (fun hc12 => hT ?_) (fun hc12 => hF ?_)
    ·
      clear hT hF KT KF
      -- region 3 (ref.go:102)
      refine Tr.rg hcx [1000016] _ [] rfl rfl rfl ?_
      simp -implicitDefEqProofs (maxSteps := 2000000) (disch := first | omega | (simp only [List.length_append, List.length_replicate, List.length_set, List.length_drop, List.length_take, List.length_cons, List.length_nil, one_w32, one_w8, one_nI, one_nU, one_str, one_bool, one_int, one_slice, refy_sv, refy_bp, refy_agg, refy_val, refy_kp, refy_tsl, cl_len, sha_len, padk_len] <;> omega) | decide) only [go_sem, ↓reduceIte, Nat.reduceEqDiff, reduceCtorEq, Nat.reduceLT, Nat.reduceBEq, Nat.reduceAdd, Nat.reduceSub, Nat.reduceMul, Nat.reduceMod, Int.reduceMod, Int.reduceToNat, Int.reduceNeg, h12, h20]
      refine ⟨(), trivial, ?_, rfl⟩
      (simp only [Le_nil, Le_cons, ↓A_cons, ↓reduceIte, Nat.reduceEqDiff, reduceCtorEq, CLe_refl, CLe_top, CLe_full, CLe_nil, CLe_own, and_true, true_and]; all_goals (repeat' first | exact CLe.refl _ | exact True.intro | (refine CLe_sln ?_; first | with_reducible rfl | (simp only [List.take_zero]; done) | (rfl; done)) | exact CLe_nI (by omega) | exact CLe_int (by omega) | exact CLe_inI (by omega) | exact CLe_nIi (by omega) | with_reducible apply And.intro))
      all_goals (refine CLe_str ?_; unfold keyOf; first | rw [if_pos hc12] | rw [if_neg hc12])
    ·
      clear hT hF KT KF
      refine Tr.skip ?_
      refine ⟨(), trivial, ?_, rfl⟩
      (simp only [Le_nil, Le_cons, ↓A_cons, ↓reduceIte, Nat.reduceEqDiff, reduceCtorEq, CLe_refl, CLe_top, CLe_full, CLe_nil, CLe_own, and_true, true_and]; all_goals (repeat' first | exact CLe.refl _ | exact True.intro | (refine CLe_sln ?_; first | with_reducible rfl | (simp only [List.take_zero]; done) | (rfl; done)) | exact CLe_nI (by omega) | exact CLe_int (by omega) | exact CLe_inI (by omega) | exact CLe_nIi (by omega) | with_reducible apply And.intro))
      all_goals (refine CLe_str ?_; unfold keyOf; first | rw [if_pos hc12] | rw [if_neg hc12])
  case jb_82 =>
    rintro a ha
    refine Tr.seqK fun K4 hK4 => ?_
    -- region 4 (ref.go:104)
    refine Tr.rg hcx [] _ [] rfl rfl rfl ?_
    simp -implicitDefEqProofs (maxSteps := 2000000) (disch := first | omega | (simp only [List.length_append, List.length_replicate, List.length_set, List.length_drop, List.length_take, List.length_cons, List.length_nil, one_w32, one_w8, one_nI, one_nU, one_str, one_bool, one_int, one_slice, refy_sv, refy_bp, refy_agg, refy_val, refy_kp, refy_tsl, cl_len, sha_len, padk_len] <;> omega) | decide) only [go_sem, ↓reduceIte, Nat.reduceEqDiff, reduceCtorEq, Nat.reduceLT, Nat.reduceBEq, Nat.reduceAdd, Nat.reduceSub, Nat.reduceMul, Nat.reduceMod, Int.reduceMod, Int.reduceToNat, Int.reduceNeg, h12, h20]
    refine hK4 _ ?_
    clear hK4 K4
    refine Tr.kp [1, 5, 6] ?_
    simp only [pk_cons, pk_nil, ↓A_cons, ↓reduceIte, Nat.reduceEqDiff, reduceCtorEq]
    refine Tr.seqK fun K5 hK5 => ?_
    refine Tr.seqK fun K6 hK6 => ?_
    -- region 5 (ref.go:105)
    refine Tr.rg hcx [] _ [] rfl rfl rfl ?_
    simp -implicitDefEqProofs (maxSteps := 2000000) (disch := first | omega | (simp only [List.length_append, List.length_replicate, List.length_set, List.length_drop, List.length_take, List.length_cons, List.length_nil, one_w32, one_w8, one_nI, one_nU, one_str, one_bool, one_int, one_slice, refy_sv, refy_bp, refy_agg, refy_val, refy_kp, refy_tsl, cl_len, sha_len, padk_len] <;> omega) | decide) only [go_sem, ↓reduceIte, Nat.reduceEqDiff, reduceCtorEq, Nat.reduceLT, Nat.reduceBEq, Nat.reduceAdd, Nat.reduceSub, Nat.reduceMul, Nat.reduceMod, Int.reduceMod, Int.reduceToNat, Int.reduceNeg, h12, h20]
    refine hK6 _ ?_
    clear hK6 K6
    refine Tr.kp [1, 5, 6, 7] ?_
    simp only [pk_cons, pk_nil, ↓A_cons, ↓reduceIte, Nat.reduceEqDiff, reduceCtorEq]
    refine Tr.blk ?_
    refine Tr.loopI (α := Nat) (fun a => [(1, ?v1_94), (5, ?v5_94), (6, sl bC (.own 1) ((padk (keyOf key) x).take a)), (7, .val (nI a))]) (fun a => ?h_94) (fun a => a ≤ 64) (fun a => 64 - a) (0) ?_ ?le_94 ?hh_94 ?bd_94
    case hh_94 => exact rfl
    case le_94 => (simp only [Le_nil, Le_cons, ↓A_cons, ↓reduceIte, Nat.reduceEqDiff, reduceCtorEq, CLe_refl, CLe_top, CLe_full, CLe_nil, CLe_own, and_true, true_and]; all_goals (repeat' first | exact CLe.refl _ | exact True.intro | (refine CLe_sln ?_; first | with_reducible rfl | (simp only [List.take_zero]; done) | (rfl; done)) | exact CLe_nI (by omega) | exact CLe_int (by omega) | exact CLe_inI (by omega) | exact CLe_nIi (by omega) | with_reducible apply And.intro))
    · omega
    case bd_94 =>
      rintro i hi
      refine Tr.seqK fun K7 hK7 => ?_
      refine Tr.seqK fun K8 hK8 => ?_
      -- region 6 (ref.go:105)
      refine Tr.rg hcx [] _ [] rfl rfl rfl ?_
      simp -implicitDefEqProofs (maxSteps := 2000000) (disch := first | omega | (simp only [List.length_append, List.length_replicate, List.length_set, List.length_drop, List.length_take, List.length_cons, List.length_nil, one_w32, one_w8, one_nI, one_nU, one_str, one_bool, one_int, one_slice, refy_sv, refy_bp, refy_agg, refy_val, refy_kp, refy_tsl, cl_len, sha_len, padk_len] <;> omega) | decide) only [go_sem, ↓reduceIte, Nat.reduceEqDiff, reduceCtorEq, Nat.reduceLT, Nat.reduceBEq, Nat.reduceAdd, Nat.reduceSub, Nat.reduceMul, Nat.reduceMod, Int.reduceMod, Int.reduceToNat, Int.reduceNeg, h12, h20]
      refine hK8 _ ?_
      clear hK8 K8
      refine Tr.kp [1, 5, 6, 7, 18] ?_
      simp only [pk_cons, pk_nil, ↓A_cons, ↓reduceIte, Nat.reduceEqDiff, reduceCtorEq]
      refine Tr.condG fun KT KF hT hF => ?_
      simp only [ev_tmp, ev_const, ↓A_cons, ↓reduceIte, Nat.reduceEqDiff, reduceCtorEq, condG_bool, GB_true, GB_false, decide_eq_true_eq]
      refine GB.dec (fun hc18 => hT ?_) (fun hc18 => hF ?_)
      ·
        clear hT hF KT KF
        refine Tr.skip ?_
        refine hK7 _ ?_
        clear hK7 K7
        refine Tr.kp [1, 5, 6, 7] ?_
        simp only [pk_cons, pk_nil, ↓A_cons, ↓reduceIte, Nat.reduceEqDiff, reduceCtorEq]
        refine Tr.seqK fun K9 hK9 => ?_
        refine Tr.blk ?_
        refine Tr.seqK fun K10 hK10 => ?_
        -- region 8 (ref.go:106)
        refine Tr.rg hcx [] _ [] rfl rfl rfl ?_
        simp -implicitDefEqProofs (maxSteps := 2000000) (disch := first | omega | (simp only [List.length_append, List.length_replicate, List.length_set, List.length_drop, List.length_take, List.length_cons, List.length_nil, one_w32, one_w8, one_nI, one_nU, one_str, one_bool, one_int, one_slice, refy_sv, refy_bp, refy_agg, refy_val, refy_kp, refy_tsl, cl_len, sha_len, padk_len] <;> omega) | decide) only [go_sem, ↓reduceIte, Nat.reduceEqDiff, reduceCtorEq, Nat.reduceLT, Nat.reduceBEq, Nat.reduceAdd, Nat.reduceSub, Nat.reduceMul, Nat.reduceMod, Int.reduceMod, Int.reduceToNat, Int.reduceNeg, h12, h20]
        refine hK10 _ ?_
        clear hK10 K10
        refine Tr.kp [1, 5, 6, 7, 8] ?_
        simp only [pk_cons, pk_nil, ↓A_cons, ↓reduceIte, Nat.reduceEqDiff, reduceCtorEq]
        refine Tr.seqK fun K11 hK11 => ?_
        refine Tr.seqK fun K12 hK12 => ?_
        -- region 9 (ref.go:107)
        refine Tr.rg hcx [] _ [] rfl rfl rfl ?_
        simp -implicitDefEqProofs (maxSteps := 2000000) (disch := first | omega | (simp only [List.length_append, List.length_replicate, List.length_set, List.length_drop, List.length_take, List.length_cons, List.length_nil, one_w32, one_w8, one_nI, one_nU, one_str, one_bool, one_int, one_slice, refy_sv, refy_bp, refy_agg, refy_val, refy_kp, refy_tsl, cl_len, sha_len, padk_len] <;> omega) | decide) only [go_sem, ↓reduceIte, Nat.reduceEqDiff, reduceCtorEq, Nat.reduceLT, Nat.reduceBEq, Nat.reduceAdd, Nat.reduceSub, Nat.reduceMul, Nat.reduceMod, Int.reduceMod, Int.reduceToNat, Int.reduceNeg, h12, h20]
        refine hK12 _ ?_
        clear hK12 K12
        refine Tr.kp [1, 5, 6, 7, 8, 24] ?_
        simp only [pk_cons, pk_nil, ↓A_cons, ↓reduceIte, Nat.reduceEqDiff, reduceCtorEq]
        refine Tr.condG fun KT KF hT hF => ?_
        simp only [ev_tmp, ev_const, ↓A_cons, ↓reduceIte, Nat.reduceEqDiff, reduceCtorEq, condG_bool, GB_true, GB_false, decide_eq_true_eq]
        refine GB.dec (fun hc24 => hT ?_) (fun hc24 => hF ?_)
        ·
          clear hT hF KT KF
          -- region 10 (ref.go:108)
          refine Tr.rg hcx [1000027] _ [] rfl rfl rfl ?_
          simp -implicitDefEqProofs (maxSteps := 2000000) (disch := first | omega | (simp only [List.length_append, List.length_replicate, List.length_set, List.length_drop, List.length_take, List.length_cons, List.length_nil, one_w32, one_w8, one_nI, one_nU, one_str, one_bool, one_int, one_slice, refy_sv, refy_bp, refy_agg, refy_val, refy_kp, refy_tsl, cl_len, sha_len, padk_len] <;> omega) | decide) only [go_sem, ↓reduceIte, Nat.reduceEqDiff, reduceCtorEq, Nat.reduceLT, Nat.reduceBEq, Nat.reduceAdd, Nat.reduceSub, Nat.reduceMul, Nat.reduceMod, Int.reduceMod, Int.reduceToNat, Int.reduceNeg, h12, h20]
          refine hK11 _ ?_
          clear hK11 K11
          refine Tr.kp [1, 5, 6, 7, 8] ?_
          simp only [pk_cons, pk_nil, ↓A_cons, ↓reduceIte, Nat.reduceEqDiff, reduceCtorEq]
          -- region 11 (ref.go:110)
          refine Tr.rg hcx [28, 1000033] _ [] rfl rfl rfl ?_
          simp -implicitDefEqProofs (maxSteps := 2000000) (disch := first | omega | (simp only [List.length_append, List.length_replicate, List.length_set, List.length_drop, List.length_take, List.length_cons, List.length_nil, one_w32, one_w8, one_nI, one_nU, one_str, one_bool, one_int, one_slice, refy_sv, refy_bp, refy_agg, refy_val, refy_kp, refy_tsl, cl_len, sha_len, padk_len] <;> omega) | decide) only [go_sem, ↓reduceIte, Nat.reduceEqDiff, reduceCtorEq, Nat.reduceLT, Nat.reduceBEq, Nat.reduceAdd, Nat.reduceSub, Nat.reduceMul, Nat.reduceMod, Int.reduceMod, Int.reduceToNat, Int.reduceNeg, h12, h20]
          refine hK9 _ ?_
          clear hK9 K9
          refine Tr.kp [1, 5, 6, 7] ?_
          simp only [pk_cons, pk_nil, ↓A_cons, ↓reduceIte, Nat.reduceEqDiff, reduceCtorEq]
          -- region 7 (ref.go:105)
          refine Tr.rg hcx [1000020] _ [] rfl rfl rfl ?_
          simp -implicitDefEqProofs (maxSteps := 2000000) (disch := first | omega | (simp only [List.length_append, List.length_replicate, List.length_set, List.length_drop, List.length_take, List.length_cons, List.length_nil, one_w32, one_w8, one_nI, one_nU, one_str, one_bool, one_int, one_slice, refy_sv, refy_bp, refy_agg, refy_val, refy_kp, refy_tsl, cl_len, sha_len, padk_len] <;> omega) | decide) only [go_sem, ↓reduceIte, Nat.reduceEqDiff, reduceCtorEq, Nat.reduceLT, Nat.reduceBEq, Nat.reduceAdd, Nat.reduceSub, Nat.reduceMul, Nat.reduceMod, Int.reduceMod, Int.reduceToNat, Int.reduceNeg, h12, h20]
          refine ⟨i + 1, ⟨by omega, by first | omega | (simp only []; omega)⟩, ?_, rfl⟩
          (simp only [Le_nil, Le_cons, ↓A_cons, ↓reduceIte, Nat.reduceEqDiff, reduceCtorEq, CLe_refl, CLe_top, CLe_full, CLe_nil, CLe_own, and_true, true_and]; all_goals (repeat' first | exact CLe.refl _ | exact True.intro | (refine CLe_sln ?_; first | with_reducible rfl | (simp only [List.take_zero]; done) | (rfl; done)) | exact CLe_nI (by omega) | exact CLe_int (by omega) | exact CLe_inI (by omega) | exact CLe_nIi (by omega) | with_reducible apply And.intro))
          all_goals (refine CLe_sl ?_; rw [take_snoc _ i (by omega), padk_gt _ _ _ hk64 (by omega)]; first | rw [if_pos hc24] | rw [if_neg hc24]; try rfl)
        ·
          clear hT hF KT KF
          refine Tr.skip ?_
          refine hK11 _ ?_
          clear hK11 K11
          refine Tr.kp [1, 5, 6, 7, 8] ?_
          simp only [pk_cons, pk_nil, ↓A_cons, ↓reduceIte, Nat.reduceEqDiff, reduceCtorEq]
          -- region 11 (ref.go:110)
          refine Tr.rg hcx [28, 1000033] _ [] rfl rfl rfl ?_
          simp -implicitDefEqProofs (maxSteps := 2000000) (disch := first | omega | (simp only [List.length_append, List.length_replicate, List.length_set, List.length_drop, List.length_take, List.length_cons, List.length_nil, one_w32, one_w8, one_nI, one_nU, one_str, one_bool, one_int, one_slice, refy_sv, refy_bp, refy_agg, refy_val, refy_kp, refy_tsl, cl_len, sha_len, padk_len] <;> omega) | decide) only [go_sem, ↓reduceIte, Nat.reduceEqDiff, reduceCtorEq, Nat.reduceLT, Nat.reduceBEq, Nat.reduceAdd, Nat.reduceSub, Nat.reduceMul, Nat.reduceMod, Int.reduceMod, Int.reduceToNat, Int.reduceNeg, h12, h20]
          refine hK9 _ ?_
          clear hK9 K9
          refine Tr.kp [1, 5, 6, 7] ?_
          simp only [pk_cons, pk_nil, ↓A_cons, ↓reduceIte, Nat.reduceEqDiff, reduceCtorEq]
          -- region 7 (ref.go:105)
          refine Tr.rg hcx [1000020] _ [] rfl rfl rfl ?_
          simp -implicitDefEqProofs (maxSteps := 2000000) (disch := first | omega | (simp only [List.length_append, List.length_replicate, List.length_set, List.length_drop, List.length_take, List.length_cons, List.length_nil, one_w32, one_w8, one_nI, one_nU, one_str, one_bool, one_int, one_slice, refy_sv, refy_bp, refy_agg, refy_val, refy_kp, refy_tsl, cl_len, sha_len, padk_len] <;> omega) | decide) only [go_sem, ↓reduceIte, Nat.reduceEqDiff, reduceCtorEq, Nat.reduceLT, Nat.reduceBEq, Nat.reduceAdd, Nat.reduceSub, Nat.reduceMul, Nat.reduceMod, Int.reduceMod, Int.reduceToNat, Int.reduceNeg, h12, h20]
          refine ⟨i + 1, ⟨by omega, by first | omega | (simp only []; omega)⟩, ?_, rfl⟩
          (simp only [Le_nil, Le_cons, ↓A_cons, ↓reduceIte, Nat.reduceEqDiff, reduceCtorEq, CLe_refl, CLe_top, CLe_full, CLe_nil, CLe_own, and_true, true_and]; all_goals (repeat' first | exact CLe.refl _ | exact True.intro | (refine CLe_sln ?_; first | with_reducible rfl | (simp only [List.take_zero]; done) | (rfl; done)) | exact CLe_nI (by omega) | exact CLe_int (by omega) | exact CLe_inI (by omega) | exact CLe_nIi (by omega) | with_reducible apply And.intro))
          all_goals (refine CLe_sl ?_; rw [take_snoc _ i (by omega), padk_gt _ _ _ hk64 (by omega)]; first | rw [if_pos hc24] | rw [if_neg hc24]; try rfl)
      ·
        clear hT hF KT KF
        obtain rfl : i = 64 := by omega
        refine Tr.exit ?_
        refine hK5 _ ?_
        clear hK7 K7 hK5 K5
        refine Tr.kp [6] ?_
        simp only [pk_cons, pk_nil, ↓A_cons, ↓reduceIte, Nat.reduceEqDiff, reduceCtorEq]
        refine Tr.seqK fun K13 hK13 => ?_
        -- region 12 (ref.go:112)
        refine Tr.rg hcx [1000034] _ [] rfl rfl rfl ?_
        simp -implicitDefEqProofs (maxSteps := 2000000) (disch := first | omega | (simp only [List.length_append, List.length_replicate, List.length_set, List.length_drop, List.length_take, List.length_cons, List.length_nil, one_w32, one_w8, one_nI, one_nU, one_str, one_bool, one_int, one_slice, refy_sv, refy_bp, refy_agg, refy_val, refy_kp, refy_tsl, cl_len, sha_len, padk_len] <;> omega) | decide) only [go_sem, ↓reduceIte, Nat.reduceEqDiff, reduceCtorEq, Nat.reduceLT, Nat.reduceBEq, Nat.reduceAdd, Nat.reduceSub, Nat.reduceMul, Nat.reduceMod, Int.reduceMod, Int.reduceToNat, Int.reduceNeg, h12, h20]
        refine hK13 _ ?_
        clear hK13 K13
        refine Tr.kp [4] ?_
        simp only [pk_cons, pk_nil, ↓A_cons, ↓reduceIte, Nat.reduceEqDiff, reduceCtorEq]
        refine Tr.ret ?_
        simp -implicitDefEqProofs (disch := first | omega | (simp only [List.length_append, List.length_replicate, List.length_set, List.length_drop, List.length_take, List.length_cons, List.length_nil, one_w32, one_w8, one_nI, one_nU, one_str, one_bool, one_int, one_slice, refy_sv, refy_bp, refy_agg, refy_val, refy_kp, refy_tsl, cl_len, sha_len, padk_len] <;> omega) | decide) only [go_sem, thenQ_n, thenQ_x, thenQ_r, blockQ_n, blockQ_r, EndsR_r, EndsR_n, resL_one, resC_tmp, resC_cell, rcP_int, rcP_bool, rcP_str, rcP_sl, rcP_arr, rcP_struct, ↓reduceIte, Nat.reduceEqDiff, reduceCtorEq]
        all_goals (rw [List.take_of_length_le (by omega)])

set_option maxRecDepth 100000 in
set_option maxHeartbeats 8000000 in
theorem fc19 {gl : Nat → C} {M : Nat} {pu : Nat → List C → Option C} (hcx : CxOK (cxP gl M pu)) (h32 : ∀ (key : List UInt8) (x : UInt8), key.length < 35184372088832 → pu 32 [.val (str key), .val (w8 x)] = some (sl bC (.own 1) (padk (keyOf key) x))) (h12 : ∀ b : List UInt8, b.length < 35184372088832 → pu 12 [sl bC .no b] = some (.agg (cl bC (sha b)))) (h20 : ∀ h : List UInt8, h.length = 32 → pu 20 [.agg (cl bC h)] = some (.val (str h))) (key t : List UInt8) (hk : key.length < 1099511627776) (ht : t.length < 1099511627776) : FC Tryd.prog gl 19 [.val (str key), .val (str t)] [] (.val (str (hmac key t))) [] := by
  replace hcx := hcx.reN (M := 22)
  refine FC.ofA (cx := cxP gl 22 pu) (rs := [.tmp 4]) rfl Tryd.func19 rfl rfl rfl (by simp only [List.length_cons, List.length_nil]; decide) (by simp only [noRef_val, noRef_agg, noRef_tup, noRef_kp, noRef_sl, noRefs_cl, noRefs_cons, noRefs_nil, noRefs_app, Bool.and_self, Bool.and_true]) ?_
  simp only [ini, noR_val, noR_val, noR_full, noR_no, noR_owns, noR_sv, noR_bp, noR_kp, noR_agg, noR_tup, noR_fn, noR_top, noR_slno, noR_slfull, noR_slown]
  refine Tr.seqK fun K1 hK1 => ?_
  -- region 0 (ref.go:116)
  refine Tr.rg hcx [] _ [] rfl rfl rfl ?_
  simp -implicitDefEqProofs (maxSteps := 2000000) (disch := first | omega | (simp only [List.length_append, List.length_replicate, List.length_set, List.length_drop, List.length_take, List.length_cons, List.length_nil, one_w32, one_w8, one_nI, one_nU, one_str, one_bool, one_int, one_slice, refy_sv, refy_bp, refy_agg, refy_val, refy_kp, refy_tsl, cl_len, sha_len, padk_len] <;> omega) | decide) only [go_sem, ↓reduceIte, Nat.reduceEqDiff, reduceCtorEq, Nat.reduceLT, Nat.reduceBEq, Nat.reduceAdd, Nat.reduceSub, Nat.reduceMul, Nat.reduceMod, Int.reduceMod, Int.reduceToNat, Int.reduceNeg, h12, h20, h32]
  refine hK1 _ ?_
  clear hK1 K1
  refine Tr.kp [0, 1] ?_
  simp only [pk_cons, pk_nil, ↓A_cons, ↓reduceIte, Nat.reduceEqDiff, reduceCtorEq]
  refine Tr.seqK fun K2 hK2 => ?_
  -- region 1 (ref.go:117)
  refine Tr.rg hcx [1000008] _ [] rfl rfl rfl ?_
  simp -implicitDefEqProofs (maxSteps := 2000000) (disch := first | omega | (simp only [List.length_append, List.length_replicate, List.length_set, List.length_drop, List.length_take, List.length_cons, List.length_nil, one_w32, one_w8, one_nI, one_nU, one_str, one_bool, one_int, one_slice, refy_sv, refy_bp, refy_agg, refy_val, refy_kp, refy_tsl, cl_len, sha_len, padk_len] <;> omega) | decide) only [go_sem, ↓reduceIte, Nat.reduceEqDiff, reduceCtorEq, Nat.reduceLT, Nat.reduceBEq, Nat.reduceAdd, Nat.reduceSub, Nat.reduceMul, Nat.reduceMod, Int.reduceMod, Int.reduceToNat, Int.reduceNeg, h12, h20, h32]
  refine hK2 _ ?_
  clear hK2 K2
  refine Tr.kp [0, 1, 5] ?_
  simp only [pk_cons, pk_nil, ↓A_cons, ↓reduceIte, Nat.reduceEqDiff, reduceCtorEq]
  refine Tr.seqK fun K3 hK3 => ?_
  -- region 2 (ref.go:118)
  refine Tr.rg hcx [9, 1000011] _ [] rfl rfl rfl ?_
  simp -implicitDefEqProofs (maxSteps := 2000000) (disch := first | omega | (simp only [List.length_append, List.length_replicate, List.length_set, List.length_drop, List.length_take, List.length_cons, List.length_nil, one_w32, one_w8, one_nI, one_nU, one_str, one_bool, one_int, one_slice, refy_sv, refy_bp, refy_agg, refy_val, refy_kp, refy_tsl, cl_len, sha_len, padk_len] <;> omega) | decide) only [go_sem, ↓reduceIte, Nat.reduceEqDiff, reduceCtorEq, Nat.reduceLT, Nat.reduceBEq, Nat.reduceAdd, Nat.reduceSub, Nat.reduceMul, Nat.reduceMod, Int.reduceMod, Int.reduceToNat, Int.reduceNeg, h12, h20, h32]
  refine hK3 _ ?_
  clear hK3 K3
  refine Tr.kp [0, 5] ?_
  simp only [pk_cons, pk_nil, ↓A_cons, ↓reduceIte, Nat.reduceEqDiff, reduceCtorEq]
  refine Tr.seqK fun K4 hK4 => ?_
  -- region 3 (ref.go:119)
  refine Tr.rg hcx [1000013] _ [] rfl rfl rfl ?_
  simp -implicitDefEqProofs (maxSteps := 2000000) (disch := first | omega | (simp only [List.length_append, List.length_replicate, List.length_set, List.length_drop, List.length_take, List.length_cons, List.length_nil, one_w32, one_w8, one_nI, one_nU, one_str, one_bool, one_int, one_slice, refy_sv, refy_bp, refy_agg, refy_val, refy_kp, refy_tsl, cl_len, sha_len, padk_len] <;> omega) | decide) only [go_sem, ↓reduceIte, Nat.reduceEqDiff, reduceCtorEq, Nat.reduceLT, Nat.reduceBEq, Nat.reduceAdd, Nat.reduceSub, Nat.reduceMul, Nat.reduceMod, Int.reduceMod, Int.reduceToNat, Int.reduceNeg, h12, h20, h32]
  refine hK4 _ ?_
  clear hK4 K4
  refine Tr.kp [5, 6] ?_
  simp only [pk_cons, pk_nil, ↓A_cons, ↓reduceIte, Nat.reduceEqDiff, reduceCtorEq]
  refine Tr.seqK fun K5 hK5 => ?_
  -- region 4 (ref.go:120)
  refine Tr.rg hcx [14, 1000018] _ [] rfl rfl rfl ?_
  simp -implicitDefEqProofs (maxSteps := 2000000) (disch := first | omega | (simp only [List.length_append, List.length_replicate, List.length_set, List.length_drop, List.length_take, List.length_cons, List.length_nil, one_w32, one_w8, one_nI, one_nU, one_str, one_bool, one_int, one_slice, refy_sv, refy_bp, refy_agg, refy_val, refy_kp, refy_tsl, cl_len, sha_len, padk_len] <;> omega) | decide) only [go_sem, ↓reduceIte, Nat.reduceEqDiff, reduceCtorEq, Nat.reduceLT, Nat.reduceBEq, Nat.reduceAdd, Nat.reduceSub, Nat.reduceMul, Nat.reduceMod, Int.reduceMod, Int.reduceToNat, Int.reduceNeg, h12, h20, h32]
  refine hK5 _ ?_
  clear hK5 K5
  refine Tr.kp [6] ?_
  simp only [pk_cons, pk_nil, ↓A_cons, ↓reduceIte, Nat.reduceEqDiff, reduceCtorEq]
  refine Tr.seqK fun K6 hK6 => ?_
  -- region 5 (ref.go:121)
  refine Tr.rg hcx [1000021] _ [] rfl rfl rfl ?_
  simp -implicitDefEqProofs (maxSteps := 2000000) (disch := first | omega | (simp only [List.length_append, List.length_replicate, List.length_set, List.length_drop, List.length_take, List.length_cons, List.length_nil, one_w32, one_w8, one_nI, one_nU, one_str, one_bool, one_int, one_slice, refy_sv, refy_bp, refy_agg, refy_val, refy_kp, refy_tsl, cl_len, sha_len, padk_len] <;> omega) | decide) only [go_sem, ↓reduceIte, Nat.reduceEqDiff, reduceCtorEq, Nat.reduceLT, Nat.reduceBEq, Nat.reduceAdd, Nat.reduceSub, Nat.reduceMul, Nat.reduceMod, Int.reduceMod, Int.reduceToNat, Int.reduceNeg, h12, h20, h32]
  refine hK6 _ ?_
  clear hK6 K6
  refine Tr.kp [4] ?_
  simp only [pk_cons, pk_nil, ↓A_cons, ↓reduceIte, Nat.reduceEqDiff, reduceCtorEq]
  refine Tr.ret ?_
  simp -implicitDefEqProofs (disch := first | omega | (simp only [List.length_append, List.length_replicate, List.length_set, List.length_drop, List.length_take, List.length_cons, List.length_nil, one_w32, one_w8, one_nI, one_nU, one_str, one_bool, one_int, one_slice, refy_sv, refy_bp, refy_agg, refy_val, refy_kp, refy_tsl, cl_len, sha_len, padk_len] <;> omega) | decide) only [go_sem, thenQ_n, thenQ_x, thenQ_r, blockQ_n, blockQ_r, EndsR_r, EndsR_n, resL_one, resC_tmp, resC_cell, rcP_int, rcP_bool, rcP_str, rcP_sl, rcP_arr, rcP_struct, ↓reduceIte, Nat.reduceEqDiff, reduceCtorEq]
  all_goals (rfl)

set_option maxRecDepth 100000 in
set_option maxHeartbeats 8000000 in
theorem fc34 {gl : Nat → C} {M : Nat} {pu : Nat → List C → Option C} (hcx : CxOK (cxP gl M pu)) (h12 : ∀ b : List UInt8, b.length < 35184372088832 → pu 12 [sl bC .no b] = some (.agg (cl bC (sha b)))) (b : List UInt8) (hb : b.length < 35184372088832) : FC Tryd.prog gl 34 [sl bC .no b] [] (.agg (cl bC ((sha b).take 16))) [] := by
  replace hcx := hcx.reN (M := 19)
  refine FC.ofA (cx := cxP gl 19 pu) (rs := [.cell 2 44]) rfl Tryd.func34 rfl rfl rfl (by simp only [List.length_cons, List.length_nil]; decide) (by simp only [noRef_val, noRef_agg, noRef_tup, noRef_kp, noRef_sl, noRefs_cl, noRefs_cons, noRefs_nil, noRefs_app, Bool.and_self, Bool.and_true]) ?_
  simp only [ini, noR_val, noR_val, noR_full, noR_no, noR_owns, noR_sv, noR_bp, noR_kp, noR_agg, noR_tup, noR_fn, noR_top, noR_slno, noR_slfull, noR_slown]
  have hl32 := sha_len b
  have hl16 : ((sha b).take 16).length = 16 := by simp [hl32]
  refine Tr.seqK fun K1 hK1 => ?_
  -- region 0 (ref.go:134)
  refine Tr.rg hcx [] _ [none] rfl rfl rfl ?_
  simp -implicitDefEqProofs (maxSteps := 2000000) (disch := first | omega | (simp only [List.length_append, List.length_replicate, List.length_set, List.length_drop, List.length_take, List.length_cons, List.length_nil, one_w32, one_w8, one_nI, one_nU, one_str, one_bool, one_int, one_slice, refy_sv, refy_bp, refy_agg, refy_val, refy_kp, refy_tsl, cl_len, hl32, hl16] <;> omega) | decide) only [go_sem, ↓reduceIte, Nat.reduceEqDiff, reduceCtorEq, Nat.reduceLT, Nat.reduceBEq, Nat.reduceAdd, Nat.reduceSub, Nat.reduceMul, Nat.reduceMod, Int.reduceMod, Int.reduceToNat, Int.reduceNeg, h12, cl_nil]
  refine hK1 _ ?_
  clear hK1 K1
  refine Tr.kp [0, 2] ?_
  simp only [pk_cons, pk_nil, ↓A_cons, ↓reduceIte, Nat.reduceEqDiff, reduceCtorEq]
  refine Tr.seqK fun K2 hK2 => ?_
  -- region 1 (ref.go:135)
  refine Tr.rg hcx [] _ [none] rfl rfl rfl ?_
  simp -implicitDefEqProofs (maxSteps := 2000000) (disch := first | omega | (simp only [List.length_append, List.length_replicate, List.length_set, List.length_drop, List.length_take, List.length_cons, List.length_nil, one_w32, one_w8, one_nI, one_nU, one_str, one_bool, one_int, one_slice, refy_sv, refy_bp, refy_agg, refy_val, refy_kp, refy_tsl, cl_len, hl32, hl16] <;> omega) | decide) only [go_sem, ↓reduceIte, Nat.reduceEqDiff, reduceCtorEq, Nat.reduceLT, Nat.reduceBEq, Nat.reduceAdd, Nat.reduceSub, Nat.reduceMul, Nat.reduceMod, Int.reduceMod, Int.reduceToNat, Int.reduceNeg, h12, cl_nil]
  refine hK2 _ ?_
  clear hK2 K2
  refine Tr.kp [2, 3] ?_
  simp only [pk_cons, pk_nil, ↓A_cons, ↓reduceIte, Nat.reduceEqDiff, reduceCtorEq]
  refine Tr.seqK fun K3 hK3 => ?_
  -- region 2 (ref.go:136)
  refine Tr.rg hcx [] _ [none] rfl rfl rfl ?_
  simp -implicitDefEqProofs (maxSteps := 2000000) (disch := first | omega | (simp only [List.length_append, List.length_replicate, List.length_set, List.length_drop, List.length_take, List.length_cons, List.length_nil, one_w32, one_w8, one_nI, one_nU, one_str, one_bool, one_int, one_slice, refy_sv, refy_bp, refy_agg, refy_val, refy_kp, refy_tsl, cl_len, hl32, hl16] <;> omega) | decide) only [go_sem, ↓reduceIte, Nat.reduceEqDiff, reduceCtorEq, Nat.reduceLT, Nat.reduceBEq, Nat.reduceAdd, Nat.reduceSub, Nat.reduceMul, Nat.reduceMod, Int.reduceMod, Int.reduceToNat, Int.reduceNeg, h12, cl_nil]
  refine hK3 _ ?_
  clear hK3 K3
  refine Tr.kp [2, 3, 4] ?_
  simp only [pk_cons, pk_nil, ↓A_cons, ↓reduceIte, Nat.reduceEqDiff, reduceCtorEq]
  refine Tr.seqK fun K4 hK4 => ?_
  refine Tr.seqK fun K5 hK5 => ?_
  -- region 3 (ref.go:137)
  refine Tr.rg hcx [] _ [] rfl rfl rfl ?_
  simp -implicitDefEqProofs (maxSteps := 2000000) (disch := first | omega | (simp only [List.length_append, List.length_replicate, List.length_set, List.length_drop, List.length_take, List.length_cons, List.length_nil, one_w32, one_w8, one_nI, one_nU, one_str, one_bool, one_int, one_slice, refy_sv, refy_bp, refy_agg, refy_val, refy_kp, refy_tsl, cl_len, hl32, hl16] <;> omega) | decide) only [go_sem, ↓reduceIte, Nat.reduceEqDiff, reduceCtorEq, Nat.reduceLT, Nat.reduceBEq, Nat.reduceAdd, Nat.reduceSub, Nat.reduceMul, Nat.reduceMod, Int.reduceMod, Int.reduceToNat, Int.reduceNeg, h12, cl_nil]
  refine hK5 _ ?_
  clear hK5 K5
  refine Tr.kp [2, 3, 4, 5] ?_
  simp only [pk_cons, pk_nil, ↓A_cons, ↓reduceIte, Nat.reduceEqDiff, reduceCtorEq]
  refine Tr.blk ?_
  refine Tr.loopI (α := Nat) (fun a => [(2, ?v2_139), (3, ?v3_139), (4, ?v4_139), (5, .val (nI a))]) (fun a => [some (cl bC (List.replicate 16 0)), some (cl bC (sha b)), some (cl bC ((sha b).take a ++ List.replicate (16 - a) 0))]) (fun a => a ≤ 16) (fun a => 16 - a) (0) ?_ ?le_139 ?hh_139 ?bd_139
  case hh_139 => exact rfl
  case le_139 => (simp only [Le_nil, Le_cons, ↓A_cons, ↓reduceIte, Nat.reduceEqDiff, reduceCtorEq, CLe_refl, CLe_top, CLe_full, CLe_nil, CLe_own, and_true, true_and]; all_goals (repeat' first | exact CLe.refl _ | exact True.intro | (refine CLe_sln ?_; first | with_reducible rfl | (simp only [List.take_zero]; done) | (rfl; done)) | exact CLe_nI (by omega) | exact CLe_int (by omega) | exact CLe_inI (by omega) | exact CLe_nIi (by omega) | with_reducible apply And.intro))
  · omega
  case bd_139 =>
    rintro i hi
    refine Tr.seqK fun K6 hK6 => ?_
    refine Tr.seqK fun K7 hK7 => ?_
    -- region 4 (ref.go:137)
    refine Tr.rg hcx [] _ [] rfl rfl rfl ?_
    simp -implicitDefEqProofs (maxSteps := 2000000) (disch := first | omega | (simp only [List.length_append, List.length_replicate, List.length_set, List.length_drop, List.length_take, List.length_cons, List.length_nil, one_w32, one_w8, one_nI, one_nU, one_str, one_bool, one_int, one_slice, refy_sv, refy_bp, refy_agg, refy_val, refy_kp, refy_tsl, cl_len, hl32, hl16] <;> omega) | decide) only [go_sem, ↓reduceIte, Nat.reduceEqDiff, reduceCtorEq, Nat.reduceLT, Nat.reduceBEq, Nat.reduceAdd, Nat.reduceSub, Nat.reduceMul, Nat.reduceMod, Int.reduceMod, Int.reduceToNat, Int.reduceNeg, h12, cl_nil]
    refine hK7 _ ?_
    clear hK7 K7
    refine Tr.kp [2, 3, 4, 5, 10] ?_
    simp only [pk_cons, pk_nil, ↓A_cons, ↓reduceIte, Nat.reduceEqDiff, reduceCtorEq]
    refine Tr.condG fun KT KF hT hF => ?_
    simp only [ev_tmp, ev_const, ↓A_cons, ↓reduceIte, Nat.reduceEqDiff, reduceCtorEq, condG_bool, GB_true, GB_false, decide_eq_true_eq]
    refine GB.dec (fun hc10 => hT ?_) (fun hc10 => hF ?_)
    ·
      clear hT hF KT KF
      refine Tr.skip ?_
      refine hK6 _ ?_
      clear hK6 K6
      refine Tr.kp [2, 3, 4, 5] ?_
      simp only [pk_cons, pk_nil, ↓A_cons, ↓reduceIte, Nat.reduceEqDiff, reduceCtorEq]
      refine Tr.seqK fun K8 hK8 => ?_
      refine Tr.blk ?_
      -- region 6 (ref.go:138)
      refine Tr.rg hcx [] _ [] rfl rfl rfl ?_
      simp -implicitDefEqProofs (maxSteps := 2000000) (disch := first | omega | (simp only [List.length_append, List.length_replicate, List.length_set, List.length_drop, List.length_take, List.length_cons, List.length_nil, one_w32, one_w8, one_nI, one_nU, one_str, one_bool, one_int, one_slice, refy_sv, refy_bp, refy_agg, refy_val, refy_kp, refy_tsl, cl_len, hl32, hl16] <;> omega) | decide) only [go_sem, ↓reduceIte, Nat.reduceEqDiff, reduceCtorEq, Nat.reduceLT, Nat.reduceBEq, Nat.reduceAdd, Nat.reduceSub, Nat.reduceMul, Nat.reduceMod, Int.reduceMod, Int.reduceToNat, Int.reduceNeg, h12, cl_nil]
      refine hK8 _ ?_
      clear hK8 K8
      refine Tr.kp [2, 3, 4, 5] ?_
      simp only [pk_cons, pk_nil, ↓A_cons, ↓reduceIte, Nat.reduceEqDiff, reduceCtorEq]
      -- region 5 (ref.go:137)
      refine Tr.rg hcx [1000012] _ [] rfl rfl rfl ?_
      simp -implicitDefEqProofs (maxSteps := 2000000) (disch := first | omega | (simp only [List.length_append, List.length_replicate, List.length_set, List.length_drop, List.length_take, List.length_cons, List.length_nil, one_w32, one_w8, one_nI, one_nU, one_str, one_bool, one_int, one_slice, refy_sv, refy_bp, refy_agg, refy_val, refy_kp, refy_tsl, cl_len, hl32, hl16] <;> omega) | decide) only [go_sem, ↓reduceIte, Nat.reduceEqDiff, reduceCtorEq, Nat.reduceLT, Nat.reduceBEq, Nat.reduceAdd, Nat.reduceSub, Nat.reduceMul, Nat.reduceMod, Int.reduceMod, Int.reduceToNat, Int.reduceNeg, h12, cl_nil]
      refine ⟨i + 1, ⟨by omega, by first | omega | (simp only []; omega)⟩, ?_, by dsimp only; rw [set_rep _ _ _ _ _ (by rw [List.length_take]; omega) hc10, take_rep _ _ _ _ (by omega)]⟩
      (simp only [Le_nil, Le_cons, ↓A_cons, ↓reduceIte, Nat.reduceEqDiff, reduceCtorEq, CLe_refl, CLe_top, CLe_full, CLe_nil, CLe_own, and_true, true_and]; all_goals (repeat' first | exact CLe.refl _ | exact True.intro | (refine CLe_sln ?_; first | with_reducible rfl | (simp only [List.take_zero]; done) | (rfl; done)) | exact CLe_nI (by omega) | exact CLe_int (by omega) | exact CLe_inI (by omega) | exact CLe_nIi (by omega) | with_reducible apply And.intro))
    ·
      clear hT hF KT KF
      obtain rfl : i = 16 := by omega
      refine Tr.exit ?_
      refine hK4 _ ?_
      clear hK6 K6 hK4 K4
      refine Tr.kp [2, 4] ?_
      simp only [pk_cons, pk_nil, ↓A_cons, ↓reduceIte, Nat.reduceEqDiff, reduceCtorEq]
      refine Tr.seqK fun K9 hK9 => ?_
      -- region 7 (ref.go:140)
      refine Tr.rg hcx [] _ [] rfl rfl rfl ?_
      simp -implicitDefEqProofs (maxSteps := 2000000) (disch := first | omega | (simp only [List.length_append, List.length_replicate, List.length_set, List.length_drop, List.length_take, List.length_cons, List.length_nil, one_w32, one_w8, one_nI, one_nU, one_str, one_bool, one_int, one_slice, refy_sv, refy_bp, refy_agg, refy_val, refy_kp, refy_tsl, cl_len, hl32, hl16] <;> omega) | decide) only [go_sem, ↓reduceIte, Nat.reduceEqDiff, reduceCtorEq, Nat.reduceLT, Nat.reduceBEq, Nat.reduceAdd, Nat.reduceSub, Nat.reduceMul, Nat.reduceMod, Int.reduceMod, Int.reduceToNat, Int.reduceNeg, h12, cl_nil]
      refine hK9 _ ?_
      clear hK9 K9
      refine Tr.kp [2] ?_
      simp only [pk_cons, pk_nil, ↓A_cons, ↓reduceIte, Nat.reduceEqDiff, reduceCtorEq]
      refine Tr.ret ?_
      simp -implicitDefEqProofs (disch := first | omega | (simp only [List.length_append, List.length_replicate, List.length_set, List.length_drop, List.length_take, List.length_cons, List.length_nil, one_w32, one_w8, one_nI, one_nU, one_str, one_bool, one_int, one_slice, refy_sv, refy_bp, refy_agg, refy_val, refy_kp, refy_tsl, cl_len, hl32, hl16] <;> omega) | decide) only [go_sem, thenQ_n, thenQ_x, thenQ_r, blockQ_n, blockQ_r, EndsR_r, EndsR_n, resL_one, resC_tmp, resC_cell, rcP_int, rcP_bool, rcP_str, rcP_sl, rcP_arr, rcP_struct, ↓reduceIte, Nat.reduceEqDiff, reduceCtorEq]
      all_goals (simp)

set_option maxRecDepth 100000 in
set_option maxHeartbeats 8000000 in
theorem fc23 {gl : Nat → C} {M : Nat} {pu : Nat → List C → Option C} (hcx : CxOK (cxP gl M pu)) (h35 : ∀ s : List UInt8, s.length < 70368744177664 → pu 35 [.val (str s)] = some (sl bC (.own 1) (wb s))) (tag : Int) (parts : List (List UInt8)) (hl : (inp tag parts).length < 1099511627776) : FC Tryd.prog gl 23 [.val (.int .i64 tag), sl sC .no parts] [] (sl bC (.own 1) (inp tag parts)) [] := by
  replace hcx := hcx.reN (M := 24)
  refine FC.ofA (cx := cxP gl 24 pu) (rs := [.tmp 4]) rfl Tryd.func23 rfl rfl rfl (by simp only [List.length_cons, List.length_nil]; decide) (by simp only [noRef_val, noRef_agg, noRef_tup, noRef_kp, noRef_sl, noRefs_cl, noRefs_cons, noRefs_nil, noRefs_app, Bool.and_self, Bool.and_true]) ?_
  simp only [ini, noR_val, noR_val, noR_full, noR_no, noR_owns, noR_sv, noR_bp, noR_kp, noR_agg, noR_tup, noR_fn, noR_top, noR_slno, noR_slfull, noR_slown]
  have hlp := parts_bound tag parts hl
  have hlp1 := hl
  have hpl := parts_len tag parts hl
  have hlp2 := True.intro
  refine Tr.seqK fun K1 hK1 => ?_
  -- region 0 (ref.go:144)
  refine Tr.rg hcx [] _ [] rfl rfl rfl ?_
  simp -implicitDefEqProofs (maxSteps := 2000000) (disch := first | omega | (simp only [List.length_append, List.length_replicate, List.length_set, List.length_drop, List.length_take, List.length_cons, List.length_nil, one_w32, one_w8, one_nI, one_nU, one_str, one_bool, one_int, one_slice, refy_sv, refy_bp, refy_agg, refy_val, refy_kp, refy_tsl, cl_len, hlp1, hlp2] <;> omega) | decide) only [go_sem, ↓reduceIte, Nat.reduceEqDiff, reduceCtorEq, Nat.reduceLT, Nat.reduceBEq, Nat.reduceAdd, Nat.reduceSub, Nat.reduceMul, Nat.reduceMod, Int.reduceMod, Int.reduceToNat, Int.reduceNeg, h35]
  refine hK1 _ ?_
  clear hK1 K1
  refine Tr.kp [0, 1] ?_
  simp only [pk_cons, pk_nil, ↓A_cons, ↓reduceIte, Nat.reduceEqDiff, reduceCtorEq]
  refine Tr.seqK fun K2 hK2 => ?_
  -- region 1 (ref.go:145)
  refine Tr.rg hcx [1000009] _ [] rfl rfl rfl ?_
  simp -implicitDefEqProofs (maxSteps := 2000000) (disch := first | omega | (simp only [List.length_append, List.length_replicate, List.length_set, List.length_drop, List.length_take, List.length_cons, List.length_nil, one_w32, one_w8, one_nI, one_nU, one_str, one_bool, one_int, one_slice, refy_sv, refy_bp, refy_agg, refy_val, refy_kp, refy_tsl, cl_len, hlp1, hlp2] <;> omega) | decide) only [go_sem, ↓reduceIte, Nat.reduceEqDiff, reduceCtorEq, Nat.reduceLT, Nat.reduceBEq, Nat.reduceAdd, Nat.reduceSub, Nat.reduceMul, Nat.reduceMod, Int.reduceMod, Int.reduceToNat, Int.reduceNeg, h35]
  refine hK2 _ ?_
  clear hK2 K2
  refine Tr.kp [1, 5] ?_
  simp only [pk_cons, pk_nil, ↓A_cons, ↓reduceIte, Nat.reduceEqDiff, reduceCtorEq]
  refine Tr.seqK fun K3 hK3 => ?_
  refine Tr.seqK fun K4 hK4 => ?_
  -- region 2 (ref.go:146)
  refine Tr.rg hcx [] _ [] rfl rfl rfl ?_
  simp -implicitDefEqProofs (maxSteps := 2000000) (disch := first | omega | (simp only [List.length_append, List.length_replicate, List.length_set, List.length_drop, List.length_take, List.length_cons, List.length_nil, one_w32, one_w8, one_nI, one_nU, one_str, one_bool, one_int, one_slice, refy_sv, refy_bp, refy_agg, refy_val, refy_kp, refy_tsl, cl_len, hlp1, hlp2] <;> omega) | decide) only [go_sem, ↓reduceIte, Nat.reduceEqDiff, reduceCtorEq, Nat.reduceLT, Nat.reduceBEq, Nat.reduceAdd, Nat.reduceSub, Nat.reduceMul, Nat.reduceMod, Int.reduceMod, Int.reduceToNat, Int.reduceNeg, h35]
  refine hK4 _ ?_
  clear hK4 K4
  refine Tr.kp [1, 5, 6] ?_
  simp only [pk_cons, pk_nil, ↓A_cons, ↓reduceIte, Nat.reduceEqDiff, reduceCtorEq]
  refine Tr.blk ?_
  refine Tr.loopI (α := Nat) (fun a => [(1, ?v1_161), (5, sl bC (.own 1) (inp tag (parts.take a))), (6, .val (nI a))]) (fun a => ?h_161) (fun a => a ≤ parts.length) (fun a => parts.length - a) (0) ?_ ?le_161 ?hh_161 ?bd_161
  case hh_161 => exact rfl
  case le_161 => (simp only [Le_nil, Le_cons, ↓A_cons, ↓reduceIte, Nat.reduceEqDiff, reduceCtorEq, CLe_refl, CLe_top, CLe_full, CLe_nil, CLe_own, and_true, true_and]; all_goals (repeat' first | exact CLe.refl _ | exact True.intro | (refine CLe_sln ?_; first | with_reducible rfl | (simp only [List.take_zero]; done) | (rfl; done)) | exact CLe_nI (by omega) | exact CLe_int (by omega) | exact CLe_inI (by omega) | exact CLe_nIi (by omega) | with_reducible apply And.intro)); all_goals (exact CLe_slf (by simp [inp]))
  · omega
  case bd_161 =>
    rintro i hi
    refine Tr.seqK fun K5 hK5 => ?_
    refine Tr.seqK fun K6 hK6 => ?_
    -- region 3 (ref.go:146)
    refine Tr.rg hcx [] _ [] rfl rfl rfl ?_
    simp -implicitDefEqProofs (maxSteps := 2000000) (disch := first | omega | (simp only [List.length_append, List.length_replicate, List.length_set, List.length_drop, List.length_take, List.length_cons, List.length_nil, one_w32, one_w8, one_nI, one_nU, one_str, one_bool, one_int, one_slice, refy_sv, refy_bp, refy_agg, refy_val, refy_kp, refy_tsl, cl_len, hlp1, hlp2] <;> omega) | decide) only [go_sem, ↓reduceIte, Nat.reduceEqDiff, reduceCtorEq, Nat.reduceLT, Nat.reduceBEq, Nat.reduceAdd, Nat.reduceSub, Nat.reduceMul, Nat.reduceMod, Int.reduceMod, Int.reduceToNat, Int.reduceNeg, h35]
    refine hK6 _ ?_
    clear hK6 K6
    refine Tr.kp [1, 5, 6, 13] ?_
    simp only [pk_cons, pk_nil, ↓A_cons, ↓reduceIte, Nat.reduceEqDiff, reduceCtorEq]
    refine Tr.condG fun KT KF hT hF => ?_
    simp only [ev_tmp, ev_const, ↓A_cons, ↓reduceIte, Nat.reduceEqDiff, reduceCtorEq, condG_bool, GB_true, GB_false, decide_eq_true_eq]
    refine GB.dec (fun hc13 => hT ?_) (fun hc13 => hF ?_)
    ·
      clear hT hF KT KF
      obtain ⟨hlp1, hlp2⟩ := hlp i hc13
      refine Tr.skip ?_
      refine hK5 _ ?_
      clear hK5 K5
      refine Tr.kp [1, 5, 6] ?_
      simp only [pk_cons, pk_nil, ↓A_cons, ↓reduceIte, Nat.reduceEqDiff, reduceCtorEq]
      refine Tr.seqK fun K7 hK7 => ?_
      refine Tr.blk ?_
      -- region 5 (ref.go:147)
      refine Tr.rg hcx [16, 1000022] _ [] rfl rfl rfl ?_
      simp -implicitDefEqProofs (maxSteps := 2000000) (disch := first | omega | (simp only [List.length_append, List.length_replicate, List.length_set, List.length_drop, List.length_take, List.length_cons, List.length_nil, one_w32, one_w8, one_nI, one_nU, one_str, one_bool, one_int, one_slice, refy_sv, refy_bp, refy_agg, refy_val, refy_kp, refy_tsl, cl_len, hlp1, hlp2] <;> omega) | decide) only [go_sem, ↓reduceIte, Nat.reduceEqDiff, reduceCtorEq, Nat.reduceLT, Nat.reduceBEq, Nat.reduceAdd, Nat.reduceSub, Nat.reduceMul, Nat.reduceMod, Int.reduceMod, Int.reduceToNat, Int.reduceNeg, h35]
      refine hK7 _ ?_
      clear hK7 K7
      refine Tr.kp [1, 5, 6] ?_
      simp only [pk_cons, pk_nil, ↓A_cons, ↓reduceIte, Nat.reduceEqDiff, reduceCtorEq]
      -- region 4 (ref.go:146)
      refine Tr.rg hcx [1000015] _ [] rfl rfl rfl ?_
      simp -implicitDefEqProofs (maxSteps := 2000000) (disch := first | omega | (simp only [List.length_append, List.length_replicate, List.length_set, List.length_drop, List.length_take, List.length_cons, List.length_nil, one_w32, one_w8, one_nI, one_nU, one_str, one_bool, one_int, one_slice, refy_sv, refy_bp, refy_agg, refy_val, refy_kp, refy_tsl, cl_len, hlp1, hlp2] <;> omega) | decide) only [go_sem, ↓reduceIte, Nat.reduceEqDiff, reduceCtorEq, Nat.reduceLT, Nat.reduceBEq, Nat.reduceAdd, Nat.reduceSub, Nat.reduceMul, Nat.reduceMod, Int.reduceMod, Int.reduceToNat, Int.reduceNeg, h35]
      refine ⟨i + 1, ⟨by omega, by first | omega | (simp only []; omega)⟩, ?_, rfl⟩
      (simp only [Le_nil, Le_cons, ↓A_cons, ↓reduceIte, Nat.reduceEqDiff, reduceCtorEq, CLe_refl, CLe_top, CLe_full, CLe_nil, CLe_own, and_true, true_and]; all_goals (repeat' first | exact CLe.refl _ | exact True.intro | (refine CLe_sln ?_; first | with_reducible rfl | (simp only [List.take_zero]; done) | (rfl; done)) | exact CLe_nI (by omega) | exact CLe_int (by omega) | exact CLe_inI (by omega) | exact CLe_nIi (by omega) | with_reducible apply And.intro))
      all_goals (refine CLe_sl ?_; rw [inp_take tag parts i hc13])
    ·
      clear hT hF KT KF
      obtain rfl : i = parts.length := by omega
      refine Tr.exit ?_
      refine hK3 _ ?_
      clear hK5 K5 hK3 K3
      refine Tr.kp [5] ?_
      simp only [pk_cons, pk_nil, ↓A_cons, ↓reduceIte, Nat.reduceEqDiff, reduceCtorEq]
      refine Tr.seqK fun K8 hK8 => ?_
      -- region 6 (ref.go:149)
      refine Tr.rg hcx [1000023] _ [] rfl rfl rfl ?_
      simp -implicitDefEqProofs (maxSteps := 2000000) (disch := first | omega | (simp only [List.length_append, List.length_replicate, List.length_set, List.length_drop, List.length_take, List.length_cons, List.length_nil, one_w32, one_w8, one_nI, one_nU, one_str, one_bool, one_int, one_slice, refy_sv, refy_bp, refy_agg, refy_val, refy_kp, refy_tsl, cl_len, hlp1, hlp2] <;> omega) | decide) only [go_sem, ↓reduceIte, Nat.reduceEqDiff, reduceCtorEq, Nat.reduceLT, Nat.reduceBEq, Nat.reduceAdd, Nat.reduceSub, Nat.reduceMul, Nat.reduceMod, Int.reduceMod, Int.reduceToNat, Int.reduceNeg, h35]
      refine hK8 _ ?_
      clear hK8 K8
      refine Tr.kp [4] ?_
      simp only [pk_cons, pk_nil, ↓A_cons, ↓reduceIte, Nat.reduceEqDiff, reduceCtorEq]
      refine Tr.ret ?_
      simp -implicitDefEqProofs (disch := first | omega | (simp only [List.length_append, List.length_replicate, List.length_set, List.length_drop, List.length_take, List.length_cons, List.length_nil, one_w32, one_w8, one_nI, one_nU, one_str, one_bool, one_int, one_slice, refy_sv, refy_bp, refy_agg, refy_val, refy_kp, refy_tsl, cl_len, hlp1, hlp2] <;> omega) | decide) only [go_sem, thenQ_n, thenQ_x, thenQ_r, blockQ_n, blockQ_r, EndsR_r, EndsR_n, resL_one, resC_tmp, resC_cell, rcP_int, rcP_bool, rcP_str, rcP_sl, rcP_arr, rcP_struct, ↓reduceIte, Nat.reduceEqDiff, reduceCtorEq]
      all_goals (rw [List.take_length])

set_option maxRecDepth 100000 in
set_option maxHeartbeats 8000000 in
theorem fc22 {gl : Nat → C} {M : Nat} {pu : Nat → List C → Option C} (hcx : CxOK (cxP gl M pu)) (h23 : ∀ (tag : Int) (parts : List (List UInt8)), (inp tag parts).length < 1099511627776 → pu 23 [.val (.int .i64 tag), sl sC .no parts] = some (sl bC (.own 1) (inp tag parts))) (h34 : ∀ b : List UInt8, b.length < 35184372088832 → pu 34 [sl bC .no b] = some (.agg (cl bC ((sha b).take 16)))) (tag : Int) (parts : List (List UInt8)) (hl : (inp tag parts).length < 1099511627776) : FC Tryd.prog gl 22 [.val (.int .i64 tag), sl sC .no parts] [] (.agg (cl bC ((sha (inp tag parts)).take 16))) [] := by
  replace hcx := hcx.reN (M := 9)
  refine FC.ofA (cx := cxP gl 9 pu) (rs := [.cell 4 44]) rfl Tryd.func22 rfl rfl rfl (by simp only [List.length_cons, List.length_nil]; decide) (by simp only [noRef_val, noRef_agg, noRef_tup, noRef_kp, noRef_sl, noRefs_cl, noRefs_cons, noRefs_nil, noRefs_app, Bool.and_self, Bool.and_true]) ?_
  simp only [ini, noR_val, noR_val, noR_full, noR_no, noR_owns, noR_sv, noR_bp, noR_kp, noR_agg, noR_tup, noR_fn, noR_top, noR_slno, noR_slfull, noR_slown]
  refine Tr.seqK fun K1 hK1 => ?_
  -- region 0 (ref.go:153)
  refine Tr.rg hcx [] _ [none] rfl rfl rfl ?_
  simp -implicitDefEqProofs (maxSteps := 2000000) (disch := first | omega | (simp only [List.length_append, List.length_replicate, List.length_set, List.length_drop, List.length_take, List.length_cons, List.length_nil, one_w32, one_w8, one_nI, one_nU, one_str, one_bool, one_int, one_slice, refy_sv, refy_bp, refy_agg, refy_val, refy_kp, refy_tsl, cl_len, sha_len] <;> omega) | decide) only [go_sem, ↓reduceIte, Nat.reduceEqDiff, reduceCtorEq, Nat.reduceLT, Nat.reduceBEq, Nat.reduceAdd, Nat.reduceSub, Nat.reduceMul, Nat.reduceMod, Int.reduceMod, Int.reduceToNat, Int.reduceNeg, h23, h34]
  refine hK1 _ ?_
  clear hK1 K1
  refine Tr.kp [0, 1, 4] ?_
  simp only [pk_cons, pk_nil, ↓A_cons, ↓reduceIte, Nat.reduceEqDiff, reduceCtorEq]
  refine Tr.seqK fun K2 hK2 => ?_
  -- region 1 (ref.go:153)
  refine Tr.rg hcx [] _ [] rfl rfl rfl ?_
  simp -implicitDefEqProofs (maxSteps := 2000000) (disch := first | omega | (simp only [List.length_append, List.length_replicate, List.length_set, List.length_drop, List.length_take, List.length_cons, List.length_nil, one_w32, one_w8, one_nI, one_nU, one_str, one_bool, one_int, one_slice, refy_sv, refy_bp, refy_agg, refy_val, refy_kp, refy_tsl, cl_len, sha_len] <;> omega) | decide) only [go_sem, ↓reduceIte, Nat.reduceEqDiff, reduceCtorEq, Nat.reduceLT, Nat.reduceBEq, Nat.reduceAdd, Nat.reduceSub, Nat.reduceMul, Nat.reduceMod, Int.reduceMod, Int.reduceToNat, Int.reduceNeg, h23, h34]
  refine hK2 _ ?_
  clear hK2 K2
  refine Tr.kp [4] ?_
  simp only [pk_cons, pk_nil, ↓A_cons, ↓reduceIte, Nat.reduceEqDiff, reduceCtorEq]
  refine Tr.ret ?_
  simp -implicitDefEqProofs (disch := first | omega | (simp only [List.length_append, List.length_replicate, List.length_set, List.length_drop, List.length_take, List.length_cons, List.length_nil, one_w32, one_w8, one_nI, one_nU, one_str, one_bool, one_int, one_slice, refy_sv, refy_bp, refy_agg, refy_val, refy_kp, refy_tsl, cl_len, sha_len] <;> omega) | decide) only [go_sem, thenQ_n, thenQ_x, thenQ_r, blockQ_n, blockQ_r, EndsR_r, EndsR_n, resL_one, resC_tmp, resC_cell, rcP_int, rcP_bool, rcP_str, rcP_sl, rcP_arr, rcP_struct, ↓reduceIte, Nat.reduceEqDiff, reduceCtorEq]
  all_goals (rfl)

end Go.Sx

namespace Go.Sx
open Go.RowKit Go.Proofs


set_option maxRecDepth 100000 in
set_option maxHeartbeats 8000000 in
theorem fc3 {gl : Nat → C} {M : Nat} {pu : Nat → List C → Option C} (hcx : CxOK (cxP gl M pu)) (h10 : pu 10 [] = some (.val (.bool true))) (h11 : ∀ b : List UInt8, b.length < 140737488355328 → pu 11 [sl bC .no b] = some (.agg (cl bC (sha b)))) (h12 : ∀ b : List UInt8, b.length < 35184372088832 → pu 12 [sl bC .no b] = some (.agg (cl bC (sha b)))) (b : List UInt8) : FC Tryd.prog gl 3 [sl bC .no b] [] (.val (.bool true)) [] := by
  replace hcx := hcx.reN (M := 29)
  refine FC.ofA (cx := cxP gl 29 pu) (rs := [.tmp 2]) rfl Tryd.func3 rfl rfl rfl (by simp only [List.length_cons, List.length_nil]; decide) (by simp only [noRef_val, noRef_agg, noRef_tup, noRef_kp, noRef_sl, noRefs_cl, noRefs_cons, noRefs_nil, noRefs_app, Bool.and_self, Bool.and_true]) ?_
  simp only [ini, noR_val, noR_val, noR_full, noR_no, noR_owns, noR_sv, noR_bp, noR_kp, noR_agg, noR_tup, noR_fn, noR_top, noR_slno, noR_slfull, noR_slown]
  refine Tr.seqK fun K1 hK1 => ?_
  -- region 0 (law.go:31)
  refine Tr.rg hcx [] _ [] rfl rfl rfl ?_
  simp -implicitDefEqProofs (maxSteps := 2000000) (disch := first | omega | (simp only [List.length_append, List.length_replicate, List.length_set, List.length_drop, List.length_take, List.length_cons, List.length_nil, one_w32, one_w8, one_nI, one_nU, one_str, one_bool, one_int, one_slice, refy_sv, refy_bp, refy_agg, refy_val, refy_kp, refy_tsl, cl_len, sha_len] <;> omega) | decide) only [go_sem, ↓reduceIte, Nat.reduceEqDiff, reduceCtorEq, Nat.reduceLT, Nat.reduceBEq, Nat.reduceAdd, Nat.reduceSub, Nat.reduceMul, Nat.reduceMod, Int.reduceMod, Int.reduceToNat, Int.reduceNeg, h10, h11, h12, eq24]
  refine hK1 _ ?_
  clear hK1 K1
  refine Tr.kp [0] ?_
  simp only [pk_cons, pk_nil, ↓A_cons, ↓reduceIte, Nat.reduceEqDiff, reduceCtorEq]
  refine Tr.seqK fun K2 hK2 => ?_
  -- region 1 (law.go:32)
  refine Tr.rg hcx [1000006] _ [] rfl rfl rfl ?_
  simp -implicitDefEqProofs (maxSteps := 2000000) (disch := first | omega | (simp only [List.length_append, List.length_replicate, List.length_set, List.length_drop, List.length_take, List.length_cons, List.length_nil, one_w32, one_w8, one_nI, one_nU, one_str, one_bool, one_int, one_slice, refy_sv, refy_bp, refy_agg, refy_val, refy_kp, refy_tsl, cl_len, sha_len] <;> omega) | decide) only [go_sem, ↓reduceIte, Nat.reduceEqDiff, reduceCtorEq, Nat.reduceLT, Nat.reduceBEq, Nat.reduceAdd, Nat.reduceSub, Nat.reduceMul, Nat.reduceMod, Int.reduceMod, Int.reduceToNat, Int.reduceNeg, h10, h11, h12, eq24]
  refine hK2 _ ?_
  clear hK2 K2
  refine Tr.kp [0, 3] ?_
  simp only [pk_cons, pk_nil, ↓A_cons, ↓reduceIte, Nat.reduceEqDiff, reduceCtorEq]
  refine Tr.seqK fun K3 hK3 => ?_
  refine Tr.seqK fun K4 hK4 => ?_
  -- region 2 (law.go:33)
  refine Tr.rg hcx [] _ [] rfl rfl rfl ?_
  simp -implicitDefEqProofs (maxSteps := 2000000) (disch := first | omega | (simp only [List.length_append, List.length_replicate, List.length_set, List.length_drop, List.length_take, List.length_cons, List.length_nil, one_w32, one_w8, one_nI, one_nU, one_str, one_bool, one_int, one_slice, refy_sv, refy_bp, refy_agg, refy_val, refy_kp, refy_tsl, cl_len, sha_len] <;> omega) | decide) only [go_sem, ↓reduceIte, Nat.reduceEqDiff, reduceCtorEq, Nat.reduceLT, Nat.reduceBEq, Nat.reduceAdd, Nat.reduceSub, Nat.reduceMul, Nat.reduceMod, Int.reduceMod, Int.reduceToNat, Int.reduceNeg, h10, h11, h12, eq24]
  refine hK4 _ ?_
  clear hK4 K4
  refine Tr.kp [0, 3, 9] ?_
  simp only [pk_cons, pk_nil, ↓A_cons, ↓reduceIte, Nat.reduceEqDiff, reduceCtorEq]
  refine Tr.condG fun KT KF hT hF => ?_
  simp only [ev_tmp, ev_const, ↓A_cons, ↓reduceIte, Nat.reduceEqDiff, reduceCtorEq, condG_bool, GB_true, GB_false, decide_eq_true_eq]
  refine GB.dec (fun hc9 => hT ?_) (fun hc9 => hF ?_)
  ·
    clear hT hF KT KF
    refine Tr.seqK fun K5 hK5 => ?_
    -- region 3 (law.go:34)
    refine Tr.rg hcx [1000010] _ [] rfl rfl rfl ?_
    simp -implicitDefEqProofs (maxSteps := 2000000) (disch := first | omega | (simp only [List.length_append, List.length_replicate, List.length_set, List.length_drop, List.length_take, List.length_cons, List.length_nil, one_w32, one_w8, one_nI, one_nU, one_str, one_bool, one_int, one_slice, refy_sv, refy_bp, refy_agg, refy_val, refy_kp, refy_tsl, cl_len, sha_len] <;> omega) | decide) only [go_sem, ↓reduceIte, Nat.reduceEqDiff, reduceCtorEq, Nat.reduceLT, Nat.reduceBEq, Nat.reduceAdd, Nat.reduceSub, Nat.reduceMul, Nat.reduceMod, Int.reduceMod, Int.reduceToNat, Int.reduceNeg, h10, h11, h12, eq24]
    refine hK5 _ ?_
    clear hK5 K5
    refine Tr.kp [2] ?_
    simp only [pk_cons, pk_nil, ↓A_cons, ↓reduceIte, Nat.reduceEqDiff, reduceCtorEq]
    refine Tr.ret ?_
    simp -implicitDefEqProofs (disch := first | omega | (simp only [List.length_append, List.length_replicate, List.length_set, List.length_drop, List.length_take, List.length_cons, List.length_nil, one_w32, one_w8, one_nI, one_nU, one_str, one_bool, one_int, one_slice, refy_sv, refy_bp, refy_agg, refy_val, refy_kp, refy_tsl, cl_len, sha_len] <;> omega) | decide) only [go_sem, thenQ_n, thenQ_x, thenQ_r, blockQ_n, blockQ_r, EndsR_r, EndsR_n, resL_one, resC_tmp, resC_cell, rcP_int, rcP_bool, rcP_str, rcP_sl, rcP_arr, rcP_struct, ↓reduceIte, Nat.reduceEqDiff, reduceCtorEq]
  ·
    clear hT hF KT KF
    refine Tr.skip ?_
    refine hK3 _ ?_
    clear hK3 K3
    refine Tr.kp [0, 3] ?_
    simp only [pk_cons, pk_nil, ↓A_cons, ↓reduceIte, Nat.reduceEqDiff, reduceCtorEq]
    refine Tr.seqK fun K6 hK6 => ?_
    -- region 4 (law.go:36)
    refine Tr.rg hcx [1000012] _ [] rfl rfl rfl ?_
    simp -implicitDefEqProofs (maxSteps := 2000000) (disch := first | omega | (simp only [List.length_append, List.length_replicate, List.length_set, List.length_drop, List.length_take, List.length_cons, List.length_nil, one_w32, one_w8, one_nI, one_nU, one_str, one_bool, one_int, one_slice, refy_sv, refy_bp, refy_agg, refy_val, refy_kp, refy_tsl, cl_len, sha_len] <;> omega) | decide) only [go_sem, ↓reduceIte, Nat.reduceEqDiff, reduceCtorEq, Nat.reduceLT, Nat.reduceBEq, Nat.reduceAdd, Nat.reduceSub, Nat.reduceMul, Nat.reduceMod, Int.reduceMod, Int.reduceToNat, Int.reduceNeg, h10, h11, h12, eq24]
    refine hK6 _ ?_
    clear hK6 K6
    refine Tr.kp [0, 3, 4] ?_
    simp only [pk_cons, pk_nil, ↓A_cons, ↓reduceIte, Nat.reduceEqDiff, reduceCtorEq]
    refine Tr.seqK fun K7 hK7 => ?_
    -- region 5 (law.go:37)
    refine Tr.rg hcx [] _ [none] rfl rfl rfl ?_
    simp -implicitDefEqProofs (maxSteps := 2000000) (disch := first | omega | (simp only [List.length_append, List.length_replicate, List.length_set, List.length_drop, List.length_take, List.length_cons, List.length_nil, one_w32, one_w8, one_nI, one_nU, one_str, one_bool, one_int, one_slice, refy_sv, refy_bp, refy_agg, refy_val, refy_kp, refy_tsl, cl_len, sha_len] <;> omega) | decide) only [go_sem, ↓reduceIte, Nat.reduceEqDiff, reduceCtorEq, Nat.reduceLT, Nat.reduceBEq, Nat.reduceAdd, Nat.reduceSub, Nat.reduceMul, Nat.reduceMod, Int.reduceMod, Int.reduceToNat, Int.reduceNeg, h10, h11, h12, eq24]
    refine hK7 _ ?_
    clear hK7 K7
    refine Tr.kp [0, 3, 4, 5] ?_
    simp only [pk_cons, pk_nil, ↓A_cons, ↓reduceIte, Nat.reduceEqDiff, reduceCtorEq]
    refine Tr.seqK fun K8 hK8 => ?_
    -- region 6 (law.go:38)
    refine Tr.rgD hcx hMO [1000028] [some 15, some 16, some 17, some 18, some 19, some 20, some 21, some 22, some 23, some 24, some 25, some 26, some 27, some 28, some 2] [] rfl rfl rfl rfl ?_
    simp -implicitDefEqProofs (maxSteps := 2000000) (disch := first | omega | (simp only [List.length_append, List.length_replicate, List.length_set, List.length_drop, List.length_take, List.length_cons, List.length_nil, one_w32, one_w8, one_nI, one_nU, one_str, one_bool, one_int, one_slice, refy_sv, refy_bp, refy_agg, refy_val, refy_kp, refy_tsl, cl_len, sha_len] <;> omega) | decide) only [go_sem, ↓reduceIte, Nat.reduceEqDiff, reduceCtorEq, Nat.reduceLT, Nat.reduceBEq, Nat.reduceAdd, Nat.reduceSub, Nat.reduceMul, Nat.reduceMod, Int.reduceMod, Int.reduceToNat, Int.reduceNeg, h10, h11, h12, eq24]
    with_reducible refine And.intro ?_ ?_
    · exact rfl
    refine hK8 _ ?_
    clear hK8 K8
    refine Tr.kp [2] ?_
    simp only [pk_cons, pk_nil, ↓A_cons, ↓reduceIte, Nat.reduceEqDiff, reduceCtorEq]
    refine Tr.ret ?_
    simp -implicitDefEqProofs (disch := first | omega | (simp only [List.length_append, List.length_replicate, List.length_set, List.length_drop, List.length_take, List.length_cons, List.length_nil, one_w32, one_w8, one_nI, one_nU, one_str, one_bool, one_int, one_slice, refy_sv, refy_bp, refy_agg, refy_val, refy_kp, refy_tsl, cl_len, sha_len] <;> omega) | decide) only [go_sem, thenQ_n, thenQ_x, thenQ_r, blockQ_n, blockQ_r, EndsR_r, EndsR_n, resL_one, resC_tmp, resC_cell, rcP_int, rcP_bool, rcP_str, rcP_sl, rcP_arr, rcP_struct, ↓reduceIte, Nat.reduceEqDiff, reduceCtorEq]

set_option maxRecDepth 100000 in
set_option maxHeartbeats 8000000 in
theorem fc5 {gl : Nat → C} {M : Nat} {pu : Nat → List C → Option C} (hcx : CxOK (cxP gl M pu)) (h10 : pu 10 [] = some (.val (.bool true))) (h18 : ∀ key t : List UInt8, key.length < 1099511627776 → t.length < 1099511627776 → pu 18 [.val (str key), .val (str t)] = some (.val (str (hmac key t)))) (h19 : ∀ key t : List UInt8, key.length < 1099511627776 → t.length < 1099511627776 → pu 19 [.val (str key), .val (str t)] = some (.val (str (hmac key t)))) (key t : List UInt8) : FC Tryd.prog gl 5 [.val (str key), .val (str t)] [] (.val (.bool true)) [] := by
  replace hcx := hcx.reN (M := 26)
  refine FC.ofA (cx := cxP gl 26 pu) (rs := [.tmp 4]) rfl Tryd.func5 rfl rfl rfl (by simp only [List.length_cons, List.length_nil]; decide) (by simp only [noRef_val, noRef_agg, noRef_tup, noRef_kp, noRef_sl, noRefs_cl, noRefs_cons, noRefs_nil, noRefs_app, Bool.and_self, Bool.and_true]) ?_
  simp only [ini, noR_val, noR_val, noR_full, noR_no, noR_owns, noR_sv, noR_bp, noR_kp, noR_agg, noR_tup, noR_fn, noR_top, noR_slno, noR_slfull, noR_slown]
  refine Tr.seqK fun K1 hK1 => ?_
  -- region 0 (law.go:63)
  refine Tr.rg hcx [] _ [] rfl rfl rfl ?_
  simp -implicitDefEqProofs (maxSteps := 2000000) (disch := first | omega | (simp only [List.length_append, List.length_replicate, List.length_set, List.length_drop, List.length_take, List.length_cons, List.length_nil, one_w32, one_w8, one_nI, one_nU, one_str, one_bool, one_int, one_slice, refy_sv, refy_bp, refy_agg, refy_val, refy_kp, refy_tsl, cl_len] <;> omega) | decide) only [go_sem, ↓reduceIte, Nat.reduceEqDiff, reduceCtorEq, Nat.reduceLT, Nat.reduceBEq, Nat.reduceAdd, Nat.reduceSub, Nat.reduceMul, Nat.reduceMod, Int.reduceMod, Int.reduceToNat, Int.reduceNeg, h10, h18, h19]
  refine hK1 _ ?_
  clear hK1 K1
  refine Tr.kp [0, 1] ?_
  simp only [pk_cons, pk_nil, ↓A_cons, ↓reduceIte, Nat.reduceEqDiff, reduceCtorEq]
  refine Tr.seqK fun K2 hK2 => ?_
  -- region 1 (law.go:64)
  refine Tr.rg hcx [1000006] _ [] rfl rfl rfl ?_
  simp -implicitDefEqProofs (maxSteps := 2000000) (disch := first | omega | (simp only [List.length_append, List.length_replicate, List.length_set, List.length_drop, List.length_take, List.length_cons, List.length_nil, one_w32, one_w8, one_nI, one_nU, one_str, one_bool, one_int, one_slice, refy_sv, refy_bp, refy_agg, refy_val, refy_kp, refy_tsl, cl_len] <;> omega) | decide) only [go_sem, ↓reduceIte, Nat.reduceEqDiff, reduceCtorEq, Nat.reduceLT, Nat.reduceBEq, Nat.reduceAdd, Nat.reduceSub, Nat.reduceMul, Nat.reduceMod, Int.reduceMod, Int.reduceToNat, Int.reduceNeg, h10, h18, h19]
  refine hK2 _ ?_
  clear hK2 K2
  refine Tr.kp [0, 1, 5] ?_
  simp only [pk_cons, pk_nil, ↓A_cons, ↓reduceIte, Nat.reduceEqDiff, reduceCtorEq]
  refine Tr.seqK fun K3 hK3 => ?_
  refine Tr.seqK fun K4 hK4 => ?_
  by_cases hk : 400 < key.length
  ·
    by_cases ht : 400 < t.length
    ·
      -- region 2 (law.go:65)
      refine Tr.rg hcx [] [some 7, some 8, some 9, some 10, some 11, some 12, some 13, some 14] [] rfl rfl rfl ?_
      simp -implicitDefEqProofs (maxSteps := 2000000) (disch := first | omega | (simp only [List.length_append, List.length_replicate, List.length_set, List.length_drop, List.length_take, List.length_cons, List.length_nil, one_w32, one_w8, one_nI, one_nU, one_str, one_bool, one_int, one_slice, refy_sv, refy_bp, refy_agg, refy_val, refy_kp, refy_tsl, cl_len] <;> omega) | decide) only [go_sem, ↓reduceIte, Nat.reduceEqDiff, reduceCtorEq, Nat.reduceLT, Nat.reduceBEq, Nat.reduceAdd, Nat.reduceSub, Nat.reduceMul, Nat.reduceMod, Int.reduceMod, Int.reduceToNat, Int.reduceNeg, h10, h18, h19, hk, ht]
      refine hK4 _ ?_
      clear hK4 K4
      refine Tr.kp [0, 1, 5, 14] ?_
      simp only [pk_cons, pk_nil, ↓A_cons, ↓reduceIte, Nat.reduceEqDiff, reduceCtorEq]
      refine Tr.condG fun KT KF hT hF => ?_
      simp only [ev_tmp, ev_const, ↓A_cons, ↓reduceIte, Nat.reduceEqDiff, reduceCtorEq, condG_bool, GB_true, GB_false, decide_eq_true_eq]
      refine hT ?_
      clear hT hF KT KF
      refine Tr.seqK fun K5 hK5 => ?_
      -- region 3 (law.go:66)
      refine Tr.rg hcx [1000015] _ [] rfl rfl rfl ?_
      simp -implicitDefEqProofs (maxSteps := 2000000) (disch := first | omega | (simp only [List.length_append, List.length_replicate, List.length_set, List.length_drop, List.length_take, List.length_cons, List.length_nil, one_w32, one_w8, one_nI, one_nU, one_str, one_bool, one_int, one_slice, refy_sv, refy_bp, refy_agg, refy_val, refy_kp, refy_tsl, cl_len] <;> omega) | decide) only [go_sem, ↓reduceIte, Nat.reduceEqDiff, reduceCtorEq, Nat.reduceLT, Nat.reduceBEq, Nat.reduceAdd, Nat.reduceSub, Nat.reduceMul, Nat.reduceMod, Int.reduceMod, Int.reduceToNat, Int.reduceNeg, h10, h18, h19, hk, ht]
      refine hK5 _ ?_
      clear hK5 K5
      refine Tr.kp [4] ?_
      simp only [pk_cons, pk_nil, ↓A_cons, ↓reduceIte, Nat.reduceEqDiff, reduceCtorEq]
      refine Tr.ret ?_
      simp -implicitDefEqProofs (disch := first | omega | (simp only [List.length_append, List.length_replicate, List.length_set, List.length_drop, List.length_take, List.length_cons, List.length_nil, one_w32, one_w8, one_nI, one_nU, one_str, one_bool, one_int, one_slice, refy_sv, refy_bp, refy_agg, refy_val, refy_kp, refy_tsl, cl_len] <;> omega) | decide) only [go_sem, thenQ_n, thenQ_x, thenQ_r, blockQ_n, blockQ_r, EndsR_r, EndsR_n, resL_one, resC_tmp, resC_cell, rcP_int, rcP_bool, rcP_str, rcP_sl, rcP_arr, rcP_struct, ↓reduceIte, Nat.reduceEqDiff, reduceCtorEq]
    ·
      -- region 2 (law.go:65)
      refine Tr.rg hcx [] [some 7, some 8, some 9, some 10, some 11, some 12, some 13, some 14] [] rfl rfl rfl ?_
      simp -implicitDefEqProofs (maxSteps := 2000000) (disch := first | omega | (simp only [List.length_append, List.length_replicate, List.length_set, List.length_drop, List.length_take, List.length_cons, List.length_nil, one_w32, one_w8, one_nI, one_nU, one_str, one_bool, one_int, one_slice, refy_sv, refy_bp, refy_agg, refy_val, refy_kp, refy_tsl, cl_len] <;> omega) | decide) only [go_sem, ↓reduceIte, Nat.reduceEqDiff, reduceCtorEq, Nat.reduceLT, Nat.reduceBEq, Nat.reduceAdd, Nat.reduceSub, Nat.reduceMul, Nat.reduceMod, Int.reduceMod, Int.reduceToNat, Int.reduceNeg, h10, h18, h19, hk, ht]
      refine hK4 _ ?_
      clear hK4 K4
      refine Tr.kp [0, 1, 5, 14] ?_
      simp only [pk_cons, pk_nil, ↓A_cons, ↓reduceIte, Nat.reduceEqDiff, reduceCtorEq]
      refine Tr.condG fun KT KF hT hF => ?_
      simp only [ev_tmp, ev_const, ↓A_cons, ↓reduceIte, Nat.reduceEqDiff, reduceCtorEq, condG_bool, GB_true, GB_false, decide_eq_true_eq]
      refine hT ?_
      clear hT hF KT KF
      refine Tr.seqK fun K6 hK6 => ?_
      -- region 3 (law.go:66)
      refine Tr.rg hcx [1000015] _ [] rfl rfl rfl ?_
      simp -implicitDefEqProofs (maxSteps := 2000000) (disch := first | omega | (simp only [List.length_append, List.length_replicate, List.length_set, List.length_drop, List.length_take, List.length_cons, List.length_nil, one_w32, one_w8, one_nI, one_nU, one_str, one_bool, one_int, one_slice, refy_sv, refy_bp, refy_agg, refy_val, refy_kp, refy_tsl, cl_len] <;> omega) | decide) only [go_sem, ↓reduceIte, Nat.reduceEqDiff, reduceCtorEq, Nat.reduceLT, Nat.reduceBEq, Nat.reduceAdd, Nat.reduceSub, Nat.reduceMul, Nat.reduceMod, Int.reduceMod, Int.reduceToNat, Int.reduceNeg, h10, h18, h19, hk, ht]
      refine hK6 _ ?_
      clear hK6 K6
      refine Tr.kp [4] ?_
      simp only [pk_cons, pk_nil, ↓A_cons, ↓reduceIte, Nat.reduceEqDiff, reduceCtorEq]
      refine Tr.ret ?_
      simp -implicitDefEqProofs (disch := first | omega | (simp only [List.length_append, List.length_replicate, List.length_set, List.length_drop, List.length_take, List.length_cons, List.length_nil, one_w32, one_w8, one_nI, one_nU, one_str, one_bool, one_int, one_slice, refy_sv, refy_bp, refy_agg, refy_val, refy_kp, refy_tsl, cl_len] <;> omega) | decide) only [go_sem, thenQ_n, thenQ_x, thenQ_r, blockQ_n, blockQ_r, EndsR_r, EndsR_n, resL_one, resC_tmp, resC_cell, rcP_int, rcP_bool, rcP_str, rcP_sl, rcP_arr, rcP_struct, ↓reduceIte, Nat.reduceEqDiff, reduceCtorEq]
  ·
    by_cases ht : 400 < t.length
    ·
      -- region 2 (law.go:65)
      refine Tr.rg hcx [] [some 7, some 8, some 9, some 10, some 11, some 12, some 13, some 14] [] rfl rfl rfl ?_
      simp -implicitDefEqProofs (maxSteps := 2000000) (disch := first | omega | (simp only [List.length_append, List.length_replicate, List.length_set, List.length_drop, List.length_take, List.length_cons, List.length_nil, one_w32, one_w8, one_nI, one_nU, one_str, one_bool, one_int, one_slice, refy_sv, refy_bp, refy_agg, refy_val, refy_kp, refy_tsl, cl_len] <;> omega) | decide) only [go_sem, ↓reduceIte, Nat.reduceEqDiff, reduceCtorEq, Nat.reduceLT, Nat.reduceBEq, Nat.reduceAdd, Nat.reduceSub, Nat.reduceMul, Nat.reduceMod, Int.reduceMod, Int.reduceToNat, Int.reduceNeg, h10, h18, h19, hk, ht]
      refine hK4 _ ?_
      clear hK4 K4
      refine Tr.kp [0, 1, 5, 14] ?_
      simp only [pk_cons, pk_nil, ↓A_cons, ↓reduceIte, Nat.reduceEqDiff, reduceCtorEq]
      refine Tr.condG fun KT KF hT hF => ?_
      simp only [ev_tmp, ev_const, ↓A_cons, ↓reduceIte, Nat.reduceEqDiff, reduceCtorEq, condG_bool, GB_true, GB_false, decide_eq_true_eq]
      refine hT ?_
      clear hT hF KT KF
      refine Tr.seqK fun K7 hK7 => ?_
      -- region 3 (law.go:66)
      refine Tr.rg hcx [1000015] _ [] rfl rfl rfl ?_
      simp -implicitDefEqProofs (maxSteps := 2000000) (disch := first | omega | (simp only [List.length_append, List.length_replicate, List.length_set, List.length_drop, List.length_take, List.length_cons, List.length_nil, one_w32, one_w8, one_nI, one_nU, one_str, one_bool, one_int, one_slice, refy_sv, refy_bp, refy_agg, refy_val, refy_kp, refy_tsl, cl_len] <;> omega) | decide) only [go_sem, ↓reduceIte, Nat.reduceEqDiff, reduceCtorEq, Nat.reduceLT, Nat.reduceBEq, Nat.reduceAdd, Nat.reduceSub, Nat.reduceMul, Nat.reduceMod, Int.reduceMod, Int.reduceToNat, Int.reduceNeg, h10, h18, h19, hk, ht]
      refine hK7 _ ?_
      clear hK7 K7
      refine Tr.kp [4] ?_
      simp only [pk_cons, pk_nil, ↓A_cons, ↓reduceIte, Nat.reduceEqDiff, reduceCtorEq]
      refine Tr.ret ?_
      simp -implicitDefEqProofs (disch := first | omega | (simp only [List.length_append, List.length_replicate, List.length_set, List.length_drop, List.length_take, List.length_cons, List.length_nil, one_w32, one_w8, one_nI, one_nU, one_str, one_bool, one_int, one_slice, refy_sv, refy_bp, refy_agg, refy_val, refy_kp, refy_tsl, cl_len] <;> omega) | decide) only [go_sem, thenQ_n, thenQ_x, thenQ_r, blockQ_n, blockQ_r, EndsR_r, EndsR_n, resL_one, resC_tmp, resC_cell, rcP_int, rcP_bool, rcP_str, rcP_sl, rcP_arr, rcP_struct, ↓reduceIte, Nat.reduceEqDiff, reduceCtorEq]
    ·
      -- region 2 (law.go:65)
      refine Tr.rg hcx [] [some 7, some 8, some 9, some 10, some 11, some 12, some 13, some 14] [] rfl rfl rfl ?_
      simp -implicitDefEqProofs (maxSteps := 2000000) (disch := first | omega | (simp only [List.length_append, List.length_replicate, List.length_set, List.length_drop, List.length_take, List.length_cons, List.length_nil, one_w32, one_w8, one_nI, one_nU, one_str, one_bool, one_int, one_slice, refy_sv, refy_bp, refy_agg, refy_val, refy_kp, refy_tsl, cl_len] <;> omega) | decide) only [go_sem, ↓reduceIte, Nat.reduceEqDiff, reduceCtorEq, Nat.reduceLT, Nat.reduceBEq, Nat.reduceAdd, Nat.reduceSub, Nat.reduceMul, Nat.reduceMod, Int.reduceMod, Int.reduceToNat, Int.reduceNeg, h10, h18, h19, hk, ht]
      refine hK4 _ ?_
      clear hK4 K4
      refine Tr.kp [0, 1, 5, 14] ?_
      simp only [pk_cons, pk_nil, ↓A_cons, ↓reduceIte, Nat.reduceEqDiff, reduceCtorEq]
      refine Tr.condG fun KT KF hT hF => ?_
      simp only [ev_tmp, ev_const, ↓A_cons, ↓reduceIte, Nat.reduceEqDiff, reduceCtorEq, condG_bool, GB_true, GB_false, decide_eq_true_eq]
      refine hF ?_
      clear hT hF KT KF
      refine Tr.skip ?_
      refine hK3 _ ?_
      clear hK3 K3
      refine Tr.kp [0, 1, 5] ?_
      simp only [pk_cons, pk_nil, ↓A_cons, ↓reduceIte, Nat.reduceEqDiff, reduceCtorEq]
      refine Tr.seqK fun K8 hK8 => ?_
      -- region 4 (law.go:68)
      refine Tr.rg hcx [1000025] [some 16, some 17, some 18, some 19, some 20, some 21, some 22, some 23, some 24, some 25, some 4] [] rfl rfl rfl ?_
      simp -implicitDefEqProofs (maxSteps := 2000000) (disch := first | omega | (simp only [List.length_append, List.length_replicate, List.length_set, List.length_drop, List.length_take, List.length_cons, List.length_nil, one_w32, one_w8, one_nI, one_nU, one_str, one_bool, one_int, one_slice, refy_sv, refy_bp, refy_agg, refy_val, refy_kp, refy_tsl, cl_len] <;> omega) | decide) only [go_sem, ↓reduceIte, Nat.reduceEqDiff, reduceCtorEq, Nat.reduceLT, Nat.reduceBEq, Nat.reduceAdd, Nat.reduceSub, Nat.reduceMul, Nat.reduceMod, Int.reduceMod, Int.reduceToNat, Int.reduceNeg, h10, h18, h19, hk, ht]
      refine hK8 _ ?_
      clear hK8 K8
      refine Tr.kp [4] ?_
      simp only [pk_cons, pk_nil, ↓A_cons, ↓reduceIte, Nat.reduceEqDiff, reduceCtorEq]
      refine Tr.ret ?_
      simp -implicitDefEqProofs (disch := first | omega | (simp only [List.length_append, List.length_replicate, List.length_set, List.length_drop, List.length_take, List.length_cons, List.length_nil, one_w32, one_w8, one_nI, one_nU, one_str, one_bool, one_int, one_slice, refy_sv, refy_bp, refy_agg, refy_val, refy_kp, refy_tsl, cl_len] <;> omega) | decide) only [go_sem, thenQ_n, thenQ_x, thenQ_r, blockQ_n, blockQ_r, EndsR_r, EndsR_n, resL_one, resC_tmp, resC_cell, rcP_int, rcP_bool, rcP_str, rcP_sl, rcP_arr, rcP_struct, ↓reduceIte, Nat.reduceEqDiff, reduceCtorEq]

set_option maxRecDepth 100000 in
set_option maxHeartbeats 8000000 in
theorem fc7 {gl : Nat → C} {M : Nat} {pu : Nat → List C → Option C} (hcx : CxOK (cxP gl M pu)) (h10 : pu 10 [] = some (.val (.bool true))) (h13 : ∀ l : List (List UInt8), pu 13 [sl sC .no l] = some (.val (.bool (few l)))) (h21 : ∀ (tag : Int) (parts : List (List UInt8)), (inp tag parts).length < 1099511627776 → pu 21 [.val (.int .i64 tag), sl sC .no parts] = some (.agg (cl bC ((sha (inp tag parts)).take 16)))) (h22 : ∀ (tag : Int) (parts : List (List UInt8)), (inp tag parts).length < 1099511627776 → pu 22 [.val (.int .i64 tag), sl sC .no parts] = some (.agg (cl bC ((sha (inp tag parts)).take 16)))) (tag : Int) (parts : List (List UInt8)) : FC Tryd.prog gl 7 [.val (.int .i64 tag), sl sC .no parts] [] (.val (.bool true)) [] := by
  replace hcx := hcx.reN (M := 31)
  refine FC.ofA (cx := cxP gl 31 pu) (rs := [.tmp 4]) rfl Tryd.func7 rfl rfl rfl (by simp only [List.length_cons, List.length_nil]; decide) (by simp only [noRef_val, noRef_agg, noRef_tup, noRef_kp, noRef_sl, noRefs_cl, noRefs_cons, noRefs_nil, noRefs_app, Bool.and_self, Bool.and_true]) ?_
  simp only [ini, noR_val, noR_val, noR_full, noR_no, noR_owns, noR_sv, noR_bp, noR_kp, noR_agg, noR_tup, noR_fn, noR_top, noR_slno, noR_slfull, noR_slown]
  have hfi := True.intro
  refine Tr.seqK fun K1 hK1 => ?_
  -- region 0 (law.go:89)
  refine Tr.rg hcx [] _ [] rfl rfl rfl ?_
  simp -implicitDefEqProofs (maxSteps := 2000000) (disch := first | omega | (simp only [List.length_append, List.length_replicate, List.length_set, List.length_drop, List.length_take, List.length_cons, List.length_nil, one_w32, one_w8, one_nI, one_nU, one_str, one_bool, one_int, one_slice, refy_sv, refy_bp, refy_agg, refy_val, refy_kp, refy_tsl, cl_len, sha_len, hfi, inp_mod] <;> omega) | decide) only [go_sem, ↓reduceIte, Nat.reduceEqDiff, reduceCtorEq, Nat.reduceLT, Nat.reduceBEq, Nat.reduceAdd, Nat.reduceSub, Nat.reduceMul, Nat.reduceMod, Int.reduceMod, Int.reduceToNat, Int.reduceNeg, h10, h13, h21, h22, eq44, inp_mod]
  refine hK1 _ ?_
  clear hK1 K1
  refine Tr.kp [0, 1] ?_
  simp only [pk_cons, pk_nil, ↓A_cons, ↓reduceIte, Nat.reduceEqDiff, reduceCtorEq]
  refine Tr.seqK fun K2 hK2 => ?_
  -- region 1 (law.go:90)
  refine Tr.rg hcx [1000007] _ [] rfl rfl rfl ?_
  simp -implicitDefEqProofs (maxSteps := 2000000) (disch := first | omega | (simp only [List.length_append, List.length_replicate, List.length_set, List.length_drop, List.length_take, List.length_cons, List.length_nil, one_w32, one_w8, one_nI, one_nU, one_str, one_bool, one_int, one_slice, refy_sv, refy_bp, refy_agg, refy_val, refy_kp, refy_tsl, cl_len, sha_len, hfi, inp_mod] <;> omega) | decide) only [go_sem, ↓reduceIte, Nat.reduceEqDiff, reduceCtorEq, Nat.reduceLT, Nat.reduceBEq, Nat.reduceAdd, Nat.reduceSub, Nat.reduceMul, Nat.reduceMod, Int.reduceMod, Int.reduceToNat, Int.reduceNeg, h10, h13, h21, h22, eq44, inp_mod]
  refine hK2 _ ?_
  clear hK2 K2
  refine Tr.kp [0, 1, 5] ?_
  simp only [pk_cons, pk_nil, ↓A_cons, ↓reduceIte, Nat.reduceEqDiff, reduceCtorEq]
  refine Tr.seqK fun K3 hK3 => ?_
  refine Tr.seqK fun K4 hK4 => ?_
  by_cases hf : few parts = true
  ·
    have hfi := few_inp tag parts hf
    -- region 2 (law.go:91)
    refine Tr.rg hcx [] _ [] rfl rfl rfl ?_
    simp -implicitDefEqProofs (maxSteps := 2000000) (disch := first | omega | (simp only [List.length_append, List.length_replicate, List.length_set, List.length_drop, List.length_take, List.length_cons, List.length_nil, one_w32, one_w8, one_nI, one_nU, one_str, one_bool, one_int, one_slice, refy_sv, refy_bp, refy_agg, refy_val, refy_kp, refy_tsl, cl_len, sha_len, hfi, inp_mod] <;> omega) | decide) only [go_sem, ↓reduceIte, Nat.reduceEqDiff, reduceCtorEq, Nat.reduceLT, Nat.reduceBEq, Nat.reduceAdd, Nat.reduceSub, Nat.reduceMul, Nat.reduceMod, Int.reduceMod, Int.reduceToNat, Int.reduceNeg, h10, h13, h21, h22, eq44, inp_mod, hf]
    refine hK4 _ ?_
    clear hK4 K4
    refine Tr.kp [0, 1, 5, 10] ?_
    simp only [pk_cons, pk_nil, ↓A_cons, ↓reduceIte, Nat.reduceEqDiff, reduceCtorEq]
    refine Tr.condG fun KT KF hT hF => ?_
    simp only [ev_tmp, ev_const, ↓A_cons, ↓reduceIte, Nat.reduceEqDiff, reduceCtorEq, condG_bool, GB_true, GB_false, decide_eq_true_eq]
    refine hF ?_
    clear hT hF KT KF
    refine Tr.skip ?_
    refine hK3 _ ?_
    clear hK3 K3
    refine Tr.kp [0, 1, 5] ?_
    simp only [pk_cons, pk_nil, ↓A_cons, ↓reduceIte, Nat.reduceEqDiff, reduceCtorEq]
    refine Tr.seqK fun K5 hK5 => ?_
    -- region 4 (law.go:94)
    refine Tr.rg hcx [] _ [none] rfl rfl rfl ?_
    simp -implicitDefEqProofs (maxSteps := 2000000) (disch := first | omega | (simp only [List.length_append, List.length_replicate, List.length_set, List.length_drop, List.length_take, List.length_cons, List.length_nil, one_w32, one_w8, one_nI, one_nU, one_str, one_bool, one_int, one_slice, refy_sv, refy_bp, refy_agg, refy_val, refy_kp, refy_tsl, cl_len, sha_len, hfi, inp_mod] <;> omega) | decide) only [go_sem, ↓reduceIte, Nat.reduceEqDiff, reduceCtorEq, Nat.reduceLT, Nat.reduceBEq, Nat.reduceAdd, Nat.reduceSub, Nat.reduceMul, Nat.reduceMod, Int.reduceMod, Int.reduceToNat, Int.reduceNeg, h10, h13, h21, h22, eq44, inp_mod, hf]
    refine hK5 _ ?_
    clear hK5 K5
    refine Tr.kp [0, 1, 5, 6] ?_
    simp only [pk_cons, pk_nil, ↓A_cons, ↓reduceIte, Nat.reduceEqDiff, reduceCtorEq]
    refine Tr.seqK fun K6 hK6 => ?_
    -- region 5 (law.go:95)
    refine Tr.rgD hcx hMO [1000030] [some 15, some 16, some 17, some 18, some 19, some 20, some 21, some 22, some 23, some 24, some 25, some 26, some 27, some 28, some 29, some 30, some 4] [] rfl rfl rfl rfl ?_
    simp -implicitDefEqProofs (maxSteps := 2000000) (disch := first | omega | (simp only [List.length_append, List.length_replicate, List.length_set, List.length_drop, List.length_take, List.length_cons, List.length_nil, one_w32, one_w8, one_nI, one_nU, one_str, one_bool, one_int, one_slice, refy_sv, refy_bp, refy_agg, refy_val, refy_kp, refy_tsl, cl_len, sha_len, hfi, inp_mod] <;> omega) | decide) only [go_sem, ↓reduceIte, Nat.reduceEqDiff, reduceCtorEq, Nat.reduceLT, Nat.reduceBEq, Nat.reduceAdd, Nat.reduceSub, Nat.reduceMul, Nat.reduceMod, Int.reduceMod, Int.reduceToNat, Int.reduceNeg, h10, h13, h21, h22, eq44, inp_mod, hf]
    with_reducible refine And.intro ?_ ?_
    · exact rfl
    refine hK6 _ ?_
    clear hK6 K6
    refine Tr.kp [4] ?_
    simp only [pk_cons, pk_nil, ↓A_cons, ↓reduceIte, Nat.reduceEqDiff, reduceCtorEq]
    refine Tr.ret ?_
    simp -implicitDefEqProofs (disch := first | omega | (simp only [List.length_append, List.length_replicate, List.length_set, List.length_drop, List.length_take, List.length_cons, List.length_nil, one_w32, one_w8, one_nI, one_nU, one_str, one_bool, one_int, one_slice, refy_sv, refy_bp, refy_agg, refy_val, refy_kp, refy_tsl, cl_len, sha_len, hfi, inp_mod] <;> omega) | decide) only [go_sem, thenQ_n, thenQ_x, thenQ_r, blockQ_n, blockQ_r, EndsR_r, EndsR_n, resL_one, resC_tmp, resC_cell, rcP_int, rcP_bool, rcP_str, rcP_sl, rcP_arr, rcP_struct, ↓reduceIte, Nat.reduceEqDiff, reduceCtorEq]
  ·
    rw [Bool.not_eq_true] at hf
    -- region 2 (law.go:91)
    refine Tr.rg hcx [] _ [] rfl rfl rfl ?_
    simp -implicitDefEqProofs (maxSteps := 2000000) (disch := first | omega | (simp only [List.length_append, List.length_replicate, List.length_set, List.length_drop, List.length_take, List.length_cons, List.length_nil, one_w32, one_w8, one_nI, one_nU, one_str, one_bool, one_int, one_slice, refy_sv, refy_bp, refy_agg, refy_val, refy_kp, refy_tsl, cl_len, sha_len, hfi, inp_mod] <;> omega) | decide) only [go_sem, ↓reduceIte, Nat.reduceEqDiff, reduceCtorEq, Nat.reduceLT, Nat.reduceBEq, Nat.reduceAdd, Nat.reduceSub, Nat.reduceMul, Nat.reduceMod, Int.reduceMod, Int.reduceToNat, Int.reduceNeg, h10, h13, h21, h22, eq44, inp_mod, hf]
    refine hK4 _ ?_
    clear hK4 K4
    refine Tr.kp [0, 1, 5, 10] ?_
    simp only [pk_cons, pk_nil, ↓A_cons, ↓reduceIte, Nat.reduceEqDiff, reduceCtorEq]
    refine Tr.condG fun KT KF hT hF => ?_
    simp only [ev_tmp, ev_const, ↓A_cons, ↓reduceIte, Nat.reduceEqDiff, reduceCtorEq, condG_bool, GB_true, GB_false, decide_eq_true_eq]
    refine hT ?_
    clear hT hF KT KF
    refine Tr.seqK fun K7 hK7 => ?_
    -- region 3 (law.go:92)
    refine Tr.rg hcx [1000011] _ [] rfl rfl rfl ?_
    simp -implicitDefEqProofs (maxSteps := 2000000) (disch := first | omega | (simp only [List.length_append, List.length_replicate, List.length_set, List.length_drop, List.length_take, List.length_cons, List.length_nil, one_w32, one_w8, one_nI, one_nU, one_str, one_bool, one_int, one_slice, refy_sv, refy_bp, refy_agg, refy_val, refy_kp, refy_tsl, cl_len, sha_len, hfi, inp_mod] <;> omega) | decide) only [go_sem, ↓reduceIte, Nat.reduceEqDiff, reduceCtorEq, Nat.reduceLT, Nat.reduceBEq, Nat.reduceAdd, Nat.reduceSub, Nat.reduceMul, Nat.reduceMod, Int.reduceMod, Int.reduceToNat, Int.reduceNeg, h10, h13, h21, h22, eq44, inp_mod, hf]
    refine hK7 _ ?_
    clear hK7 K7
    refine Tr.kp [4] ?_
    simp only [pk_cons, pk_nil, ↓A_cons, ↓reduceIte, Nat.reduceEqDiff, reduceCtorEq]
    refine Tr.ret ?_
    simp -implicitDefEqProofs (disch := first | omega | (simp only [List.length_append, List.length_replicate, List.length_set, List.length_drop, List.length_take, List.length_cons, List.length_nil, one_w32, one_w8, one_nI, one_nU, one_str, one_bool, one_int, one_slice, refy_sv, refy_bp, refy_agg, refy_val, refy_kp, refy_tsl, cl_len, sha_len, hfi, inp_mod] <;> omega) | decide) only [go_sem, thenQ_n, thenQ_x, thenQ_r, blockQ_n, blockQ_r, EndsR_r, EndsR_n, resL_one, resC_tmp, resC_cell, rcP_int, rcP_bool, rcP_str, rcP_sl, rcP_arr, rcP_struct, ↓reduceIte, Nat.reduceEqDiff, reduceCtorEq]

set_option maxRecDepth 100000 in
set_option maxHeartbeats 8000000 in
theorem fc9 {gl : Nat → C} {M : Nat} {pu : Nat → List C → Option C} (hcx : CxOK (cxP gl M pu)) (h10 : pu 10 [] = some (.val (.bool true))) (h24 : ∀ x y : List UInt8, x.length < 1099511627776 → y.length < 1099511627776 → pu 24 [.val (str x), .val (str y)] = some (.val (.bool (decide (x = y))))) (x y : List UInt8) : FC Tryd.prog gl 9 [.val (str x), .val (str y)] [] (.val (.bool true)) [] := by
  replace hcx := hcx.reN (M := 45)
  refine FC.ofA (cx := cxP gl 45 pu) (rs := [.tmp 4]) rfl Tryd.func9 rfl rfl rfl (by simp only [List.length_cons, List.length_nil]; decide) (by simp only [noRef_val, noRef_agg, noRef_tup, noRef_kp, noRef_sl, noRefs_cl, noRefs_cons, noRefs_nil, noRefs_app, Bool.and_self, Bool.and_true]) ?_
  simp only [ini, noR_val, noR_val, noR_full, noR_no, noR_owns, noR_sv, noR_bp, noR_kp, noR_agg, noR_tup, noR_fn, noR_top, noR_slno, noR_slfull, noR_slown]
  have hcm : decide (y = x) = decide (x = y) := by rw [decide_eq_decide]; exact eq_comm
  refine Tr.seqK fun K1 hK1 => ?_
  -- region 0 (law.go:125)
  refine Tr.rg hcx [] _ [] rfl rfl rfl ?_
  simp -implicitDefEqProofs (maxSteps := 2000000) (disch := first | omega | (simp only [List.length_append, List.length_replicate, List.length_set, List.length_drop, List.length_take, List.length_cons, List.length_nil, one_w32, one_w8, one_nI, one_nU, one_str, one_bool, one_int, one_slice, refy_sv, refy_bp, refy_agg, refy_val, refy_kp, refy_tsl, cl_len] <;> omega) | decide) only [go_sem, ↓reduceIte, Nat.reduceEqDiff, reduceCtorEq, Nat.reduceLT, Nat.reduceBEq, Nat.reduceAdd, Nat.reduceSub, Nat.reduceMul, Nat.reduceMod, Int.reduceMod, Int.reduceToNat, Int.reduceNeg, h10, h24, List.append_nil, hcm]
  refine hK1 _ ?_
  clear hK1 K1
  refine Tr.kp [0, 1] ?_
  simp only [pk_cons, pk_nil, ↓A_cons, ↓reduceIte, Nat.reduceEqDiff, reduceCtorEq]
  refine Tr.seqK fun K2 hK2 => ?_
  -- region 1 (law.go:126)
  refine Tr.rg hcx [1000009] _ [] rfl rfl rfl ?_
  simp -implicitDefEqProofs (maxSteps := 2000000) (disch := first | omega | (simp only [List.length_append, List.length_replicate, List.length_set, List.length_drop, List.length_take, List.length_cons, List.length_nil, one_w32, one_w8, one_nI, one_nU, one_str, one_bool, one_int, one_slice, refy_sv, refy_bp, refy_agg, refy_val, refy_kp, refy_tsl, cl_len] <;> omega) | decide) only [go_sem, ↓reduceIte, Nat.reduceEqDiff, reduceCtorEq, Nat.reduceLT, Nat.reduceBEq, Nat.reduceAdd, Nat.reduceSub, Nat.reduceMul, Nat.reduceMod, Int.reduceMod, Int.reduceToNat, Int.reduceNeg, h10, h24, List.append_nil, hcm]
  refine hK2 _ ?_
  clear hK2 K2
  refine Tr.kp [0, 1, 5] ?_
  simp only [pk_cons, pk_nil, ↓A_cons, ↓reduceIte, Nat.reduceEqDiff, reduceCtorEq]
  refine Tr.seqK fun K3 hK3 => ?_
  refine Tr.seqK fun K4 hK4 => ?_
  by_cases hk : 400 < x.length
  ·
    by_cases ht : 400 < y.length
    ·
      -- region 2 (law.go:127)
      refine Tr.rg hcx [] [some 10, some 11, some 12, some 13, some 14, some 15, some 16, some 17] [] rfl rfl rfl ?_
      simp -implicitDefEqProofs (maxSteps := 2000000) (disch := first | omega | (simp only [List.length_append, List.length_replicate, List.length_set, List.length_drop, List.length_take, List.length_cons, List.length_nil, one_w32, one_w8, one_nI, one_nU, one_str, one_bool, one_int, one_slice, refy_sv, refy_bp, refy_agg, refy_val, refy_kp, refy_tsl, cl_len] <;> omega) | decide) only [go_sem, ↓reduceIte, Nat.reduceEqDiff, reduceCtorEq, Nat.reduceLT, Nat.reduceBEq, Nat.reduceAdd, Nat.reduceSub, Nat.reduceMul, Nat.reduceMod, Int.reduceMod, Int.reduceToNat, Int.reduceNeg, h10, h24, List.append_nil, hcm, hk, ht]
      refine hK4 _ ?_
      clear hK4 K4
      refine Tr.kp [0, 1, 5, 17] ?_
      simp only [pk_cons, pk_nil, ↓A_cons, ↓reduceIte, Nat.reduceEqDiff, reduceCtorEq]
      refine Tr.condG fun KT KF hT hF => ?_
      simp only [ev_tmp, ev_const, ↓A_cons, ↓reduceIte, Nat.reduceEqDiff, reduceCtorEq, condG_bool, GB_true, GB_false, decide_eq_true_eq]
      refine hT ?_
      clear hT hF KT KF
      refine Tr.seqK fun K5 hK5 => ?_
      -- region 3 (law.go:128)
      refine Tr.rg hcx [1000018] _ [] rfl rfl rfl ?_
      simp -implicitDefEqProofs (maxSteps := 2000000) (disch := first | omega | (simp only [List.length_append, List.length_replicate, List.length_set, List.length_drop, List.length_take, List.length_cons, List.length_nil, one_w32, one_w8, one_nI, one_nU, one_str, one_bool, one_int, one_slice, refy_sv, refy_bp, refy_agg, refy_val, refy_kp, refy_tsl, cl_len] <;> omega) | decide) only [go_sem, ↓reduceIte, Nat.reduceEqDiff, reduceCtorEq, Nat.reduceLT, Nat.reduceBEq, Nat.reduceAdd, Nat.reduceSub, Nat.reduceMul, Nat.reduceMod, Int.reduceMod, Int.reduceToNat, Int.reduceNeg, h10, h24, List.append_nil, hcm, hk, ht]
      refine hK5 _ ?_
      clear hK5 K5
      refine Tr.kp [4] ?_
      simp only [pk_cons, pk_nil, ↓A_cons, ↓reduceIte, Nat.reduceEqDiff, reduceCtorEq]
      refine Tr.ret ?_
      simp -implicitDefEqProofs (disch := first | omega | (simp only [List.length_append, List.length_replicate, List.length_set, List.length_drop, List.length_take, List.length_cons, List.length_nil, one_w32, one_w8, one_nI, one_nU, one_str, one_bool, one_int, one_slice, refy_sv, refy_bp, refy_agg, refy_val, refy_kp, refy_tsl, cl_len] <;> omega) | decide) only [go_sem, thenQ_n, thenQ_x, thenQ_r, blockQ_n, blockQ_r, EndsR_r, EndsR_n, resL_one, resC_tmp, resC_cell, rcP_int, rcP_bool, rcP_str, rcP_sl, rcP_arr, rcP_struct, ↓reduceIte, Nat.reduceEqDiff, reduceCtorEq]
    ·
      -- region 2 (law.go:127)
      refine Tr.rg hcx [] [some 10, some 11, some 12, some 13, some 14, some 15, some 16, some 17] [] rfl rfl rfl ?_
      simp -implicitDefEqProofs (maxSteps := 2000000) (disch := first | omega | (simp only [List.length_append, List.length_replicate, List.length_set, List.length_drop, List.length_take, List.length_cons, List.length_nil, one_w32, one_w8, one_nI, one_nU, one_str, one_bool, one_int, one_slice, refy_sv, refy_bp, refy_agg, refy_val, refy_kp, refy_tsl, cl_len] <;> omega) | decide) only [go_sem, ↓reduceIte, Nat.reduceEqDiff, reduceCtorEq, Nat.reduceLT, Nat.reduceBEq, Nat.reduceAdd, Nat.reduceSub, Nat.reduceMul, Nat.reduceMod, Int.reduceMod, Int.reduceToNat, Int.reduceNeg, h10, h24, List.append_nil, hcm, hk, ht]
      refine hK4 _ ?_
      clear hK4 K4
      refine Tr.kp [0, 1, 5, 17] ?_
      simp only [pk_cons, pk_nil, ↓A_cons, ↓reduceIte, Nat.reduceEqDiff, reduceCtorEq]
      refine Tr.condG fun KT KF hT hF => ?_
      simp only [ev_tmp, ev_const, ↓A_cons, ↓reduceIte, Nat.reduceEqDiff, reduceCtorEq, condG_bool, GB_true, GB_false, decide_eq_true_eq]
      refine hT ?_
      clear hT hF KT KF
      refine Tr.seqK fun K6 hK6 => ?_
      -- region 3 (law.go:128)
      refine Tr.rg hcx [1000018] _ [] rfl rfl rfl ?_
      simp -implicitDefEqProofs (maxSteps := 2000000) (disch := first | omega | (simp only [List.length_append, List.length_replicate, List.length_set, List.length_drop, List.length_take, List.length_cons, List.length_nil, one_w32, one_w8, one_nI, one_nU, one_str, one_bool, one_int, one_slice, refy_sv, refy_bp, refy_agg, refy_val, refy_kp, refy_tsl, cl_len] <;> omega) | decide) only [go_sem, ↓reduceIte, Nat.reduceEqDiff, reduceCtorEq, Nat.reduceLT, Nat.reduceBEq, Nat.reduceAdd, Nat.reduceSub, Nat.reduceMul, Nat.reduceMod, Int.reduceMod, Int.reduceToNat, Int.reduceNeg, h10, h24, List.append_nil, hcm, hk, ht]
      refine hK6 _ ?_
      clear hK6 K6
      refine Tr.kp [4] ?_
      simp only [pk_cons, pk_nil, ↓A_cons, ↓reduceIte, Nat.reduceEqDiff, reduceCtorEq]
      refine Tr.ret ?_
      simp -implicitDefEqProofs (disch := first | omega | (simp only [List.length_append, List.length_replicate, List.length_set, List.length_drop, List.length_take, List.length_cons, List.length_nil, one_w32, one_w8, one_nI, one_nU, one_str, one_bool, one_int, one_slice, refy_sv, refy_bp, refy_agg, refy_val, refy_kp, refy_tsl, cl_len] <;> omega) | decide) only [go_sem, thenQ_n, thenQ_x, thenQ_r, blockQ_n, blockQ_r, EndsR_r, EndsR_n, resL_one, resC_tmp, resC_cell, rcP_int, rcP_bool, rcP_str, rcP_sl, rcP_arr, rcP_struct, ↓reduceIte, Nat.reduceEqDiff, reduceCtorEq]
  ·
    by_cases ht : 400 < y.length
    ·
      -- region 2 (law.go:127)
      refine Tr.rg hcx [] [some 10, some 11, some 12, some 13, some 14, some 15, some 16, some 17] [] rfl rfl rfl ?_
      simp -implicitDefEqProofs (maxSteps := 2000000) (disch := first | omega | (simp only [List.length_append, List.length_replicate, List.length_set, List.length_drop, List.length_take, List.length_cons, List.length_nil, one_w32, one_w8, one_nI, one_nU, one_str, one_bool, one_int, one_slice, refy_sv, refy_bp, refy_agg, refy_val, refy_kp, refy_tsl, cl_len] <;> omega) | decide) only [go_sem, ↓reduceIte, Nat.reduceEqDiff, reduceCtorEq, Nat.reduceLT, Nat.reduceBEq, Nat.reduceAdd, Nat.reduceSub, Nat.reduceMul, Nat.reduceMod, Int.reduceMod, Int.reduceToNat, Int.reduceNeg, h10, h24, List.append_nil, hcm, hk, ht]
      refine hK4 _ ?_
      clear hK4 K4
      refine Tr.kp [0, 1, 5, 17] ?_
      simp only [pk_cons, pk_nil, ↓A_cons, ↓reduceIte, Nat.reduceEqDiff, reduceCtorEq]
      refine Tr.condG fun KT KF hT hF => ?_
      simp only [ev_tmp, ev_const, ↓A_cons, ↓reduceIte, Nat.reduceEqDiff, reduceCtorEq, condG_bool, GB_true, GB_false, decide_eq_true_eq]
      refine hT ?_
      clear hT hF KT KF
      refine Tr.seqK fun K7 hK7 => ?_
      -- region 3 (law.go:128)
      refine Tr.rg hcx [1000018] _ [] rfl rfl rfl ?_
      simp -implicitDefEqProofs (maxSteps := 2000000) (disch := first | omega | (simp only [List.length_append, List.length_replicate, List.length_set, List.length_drop, List.length_take, List.length_cons, List.length_nil, one_w32, one_w8, one_nI, one_nU, one_str, one_bool, one_int, one_slice, refy_sv, refy_bp, refy_agg, refy_val, refy_kp, refy_tsl, cl_len] <;> omega) | decide) only [go_sem, ↓reduceIte, Nat.reduceEqDiff, reduceCtorEq, Nat.reduceLT, Nat.reduceBEq, Nat.reduceAdd, Nat.reduceSub, Nat.reduceMul, Nat.reduceMod, Int.reduceMod, Int.reduceToNat, Int.reduceNeg, h10, h24, List.append_nil, hcm, hk, ht]
      refine hK7 _ ?_
      clear hK7 K7
      refine Tr.kp [4] ?_
      simp only [pk_cons, pk_nil, ↓A_cons, ↓reduceIte, Nat.reduceEqDiff, reduceCtorEq]
      refine Tr.ret ?_
      simp -implicitDefEqProofs (disch := first | omega | (simp only [List.length_append, List.length_replicate, List.length_set, List.length_drop, List.length_take, List.length_cons, List.length_nil, one_w32, one_w8, one_nI, one_nU, one_str, one_bool, one_int, one_slice, refy_sv, refy_bp, refy_agg, refy_val, refy_kp, refy_tsl, cl_len] <;> omega) | decide) only [go_sem, thenQ_n, thenQ_x, thenQ_r, blockQ_n, blockQ_r, EndsR_r, EndsR_n, resL_one, resC_tmp, resC_cell, rcP_int, rcP_bool, rcP_str, rcP_sl, rcP_arr, rcP_struct, ↓reduceIte, Nat.reduceEqDiff, reduceCtorEq]
    ·
      -- region 2 (law.go:127)
      refine Tr.rg hcx [] [some 10, some 11, some 12, some 13, some 14, some 15, some 16, some 17] [] rfl rfl rfl ?_
      simp -implicitDefEqProofs (maxSteps := 2000000) (disch := first | omega | (simp only [List.length_append, List.length_replicate, List.length_set, List.length_drop, List.length_take, List.length_cons, List.length_nil, one_w32, one_w8, one_nI, one_nU, one_str, one_bool, one_int, one_slice, refy_sv, refy_bp, refy_agg, refy_val, refy_kp, refy_tsl, cl_len] <;> omega) | decide) only [go_sem, ↓reduceIte, Nat.reduceEqDiff, reduceCtorEq, Nat.reduceLT, Nat.reduceBEq, Nat.reduceAdd, Nat.reduceSub, Nat.reduceMul, Nat.reduceMod, Int.reduceMod, Int.reduceToNat, Int.reduceNeg, h10, h24, List.append_nil, hcm, hk, ht]
      refine hK4 _ ?_
      clear hK4 K4
      refine Tr.kp [0, 1, 5, 17] ?_
      simp only [pk_cons, pk_nil, ↓A_cons, ↓reduceIte, Nat.reduceEqDiff, reduceCtorEq]
      refine Tr.condG fun KT KF hT hF => ?_
      simp only [ev_tmp, ev_const, ↓A_cons, ↓reduceIte, Nat.reduceEqDiff, reduceCtorEq, condG_bool, GB_true, GB_false, decide_eq_true_eq]
      refine hF ?_
      clear hT hF KT KF
      refine Tr.skip ?_
      refine hK3 _ ?_
      clear hK3 K3
      refine Tr.kp [0, 1, 5] ?_
      simp only [pk_cons, pk_nil, ↓A_cons, ↓reduceIte, Nat.reduceEqDiff, reduceCtorEq]
      refine Tr.seqK fun K8 hK8 => ?_
      -- region 4 (law.go:130)
      refine Tr.rg hcx [1000021] _ [] rfl rfl rfl ?_
      simp -implicitDefEqProofs (maxSteps := 2000000) (disch := first | omega | (simp only [List.length_append, List.length_replicate, List.length_set, List.length_drop, List.length_take, List.length_cons, List.length_nil, one_w32, one_w8, one_nI, one_nU, one_str, one_bool, one_int, one_slice, refy_sv, refy_bp, refy_agg, refy_val, refy_kp, refy_tsl, cl_len] <;> omega) | decide) only [go_sem, ↓reduceIte, Nat.reduceEqDiff, reduceCtorEq, Nat.reduceLT, Nat.reduceBEq, Nat.reduceAdd, Nat.reduceSub, Nat.reduceMul, Nat.reduceMod, Int.reduceMod, Int.reduceToNat, Int.reduceNeg, h10, h24, List.append_nil, hcm, hk, ht]
      refine hK8 _ ?_
      clear hK8 K8
      refine Tr.kp [0, 1, 5, 6] ?_
      simp only [pk_cons, pk_nil, ↓A_cons, ↓reduceIte, Nat.reduceEqDiff, reduceCtorEq]
      refine Tr.seqK fun K9 hK9 => ?_
      -- region 5 (law.go:131)
      refine Tr.rg hcx [1000024] _ [] rfl rfl rfl ?_
      simp -implicitDefEqProofs (maxSteps := 2000000) (disch := first | omega | (simp only [List.length_append, List.length_replicate, List.length_set, List.length_drop, List.length_take, List.length_cons, List.length_nil, one_w32, one_w8, one_nI, one_nU, one_str, one_bool, one_int, one_slice, refy_sv, refy_bp, refy_agg, refy_val, refy_kp, refy_tsl, cl_len] <;> omega) | decide) only [go_sem, ↓reduceIte, Nat.reduceEqDiff, reduceCtorEq, Nat.reduceLT, Nat.reduceBEq, Nat.reduceAdd, Nat.reduceSub, Nat.reduceMul, Nat.reduceMod, Int.reduceMod, Int.reduceToNat, Int.reduceNeg, h10, h24, List.append_nil, hcm, hk, ht]
      refine hK9 _ ?_
      clear hK9 K9
      refine Tr.kp [0, 1, 5, 6, 7] ?_
      simp only [pk_cons, pk_nil, ↓A_cons, ↓reduceIte, Nat.reduceEqDiff, reduceCtorEq]
      refine Tr.seqK fun K10 hK10 => ?_
      -- region 6 (law.go:132)
      refine Tr.rg hcx [1000028] _ [] rfl rfl rfl ?_
      simp -implicitDefEqProofs (maxSteps := 2000000) (disch := first | omega | (simp only [List.length_append, List.length_replicate, List.length_set, List.length_drop, List.length_take, List.length_cons, List.length_nil, one_w32, one_w8, one_nI, one_nU, one_str, one_bool, one_int, one_slice, refy_sv, refy_bp, refy_agg, refy_val, refy_kp, refy_tsl, cl_len] <;> omega) | decide) only [go_sem, ↓reduceIte, Nat.reduceEqDiff, reduceCtorEq, Nat.reduceLT, Nat.reduceBEq, Nat.reduceAdd, Nat.reduceSub, Nat.reduceMul, Nat.reduceMod, Int.reduceMod, Int.reduceToNat, Int.reduceNeg, h10, h24, List.append_nil, hcm, hk, ht]
      refine hK10 _ ?_
      clear hK10 K10
      refine Tr.kp [0, 1, 5, 6, 7, 8] ?_
      simp only [pk_cons, pk_nil, ↓A_cons, ↓reduceIte, Nat.reduceEqDiff, reduceCtorEq]
      refine Tr.seqK fun K11 hK11 => ?_
      -- region 7 (law.go:133)
      refine Tr.rg hcx [1000044] [some 29, some 30, some 31, some 32, some 33, some 34, some 35, some 36, some 37, some 38, some 39, some 40, some 41, some 42, some 43, some 44, some 4] [] rfl rfl rfl ?_
      simp -implicitDefEqProofs (maxSteps := 2000000) (disch := first | omega | (simp only [List.length_append, List.length_replicate, List.length_set, List.length_drop, List.length_take, List.length_cons, List.length_nil, one_w32, one_w8, one_nI, one_nU, one_str, one_bool, one_int, one_slice, refy_sv, refy_bp, refy_agg, refy_val, refy_kp, refy_tsl, cl_len] <;> omega) | decide) only [go_sem, ↓reduceIte, Nat.reduceEqDiff, reduceCtorEq, Nat.reduceLT, Nat.reduceBEq, Nat.reduceAdd, Nat.reduceSub, Nat.reduceMul, Nat.reduceMod, Int.reduceMod, Int.reduceToNat, Int.reduceNeg, h10, h24, List.append_nil, hcm, hk, ht]
      refine hK11 _ ?_
      clear hK11 K11
      refine Tr.kp [4] ?_
      simp only [pk_cons, pk_nil, ↓A_cons, ↓reduceIte, Nat.reduceEqDiff, reduceCtorEq]
      refine Tr.ret ?_
      simp -implicitDefEqProofs (disch := first | omega | (simp only [List.length_append, List.length_replicate, List.length_set, List.length_drop, List.length_take, List.length_cons, List.length_nil, one_w32, one_w8, one_nI, one_nU, one_str, one_bool, one_int, one_slice, refy_sv, refy_bp, refy_agg, refy_val, refy_kp, refy_tsl, cl_len] <;> omega) | decide) only [go_sem, thenQ_n, thenQ_x, thenQ_r, blockQ_n, blockQ_r, EndsR_r, EndsR_n, resL_one, resC_tmp, resC_cell, rcP_int, rcP_bool, rcP_str, rcP_sl, rcP_arr, rcP_struct, ↓reduceIte, Nat.reduceEqDiff, reduceCtorEq]

end Go.Sx

namespace Go.Sx
open Go.RowKit Go.Proofs


set_option maxRecDepth 100000 in
set_option maxHeartbeats 8000000 in
theorem fc4 {gl : Nat → C} {M : Nat} {pu : Nat → List C → Option C} (hcx : CxOK (cxP gl M pu)) (h10 : pu 10 [] = some (.val (.bool true))) (h11 : ∀ b : List UInt8, b.length < 140737488355328 → pu 11 [sl bC .no b] = some (.agg (cl bC (sha b)))) (h12 : ∀ b : List UInt8, b.length < 35184372088832 → pu 12 [sl bC .no b] = some (.agg (cl bC (sha b)))) (h13 : ∀ l : List (List UInt8), pu 13 [sl sC .no l] = some (.val (.bool (few l)))) (h14 : pu 14 [] = some (.agg F0.cells)) (h15 : ∀ (s : S8) (blk : List UInt8) (n : Nat) (t : List UInt8), blk.length = 64 → n + t.length < 1152921504606846976 → pu 15 [.agg (cl wC s.l ++ (cl bC blk ++ [.val (nU n)])), .val (str t)] = some (.agg (feed ⟨s, blk, n⟩ t).cells)) (h16 : ∀ l : List (List UInt8), l.length < 4611686018427387904 ∧ l.flatten.length < 4611686018427387904 → pu 16 [sl sC .no l] = some (.val (str l.flatten))) (h17 : ∀ (s : S8) (blk : List UInt8) (n : Nat), blk.length = 64 → n < 576460752303423488 → pu 17 [.agg (cl wC s.l ++ (cl bC blk ++ [.val (nU n)]))] = some (.agg (cl bC (sumF ⟨s, blk, n⟩)))) (ps : List (List UInt8)) (o : List UInt8) (at8 : UInt8) : FC Tryd.prog gl 4 [sl sC .no ps, .val (str o), .val (w8 at8)] [] (.val (.bool true)) [] := by
  replace hcx := hcx.reN (M := 102)
  refine FC.ofA (cx := cxP gl 102 pu) (rs := [.tmp 6]) rfl Tryd.func4 rfl rfl rfl (by simp only [List.length_cons, List.length_nil]; decide) (by simp only [noRef_val, noRef_agg, noRef_tup, noRef_kp, noRef_sl, noRefs_cl, noRefs_cons, noRefs_nil, noRefs_app, Bool.and_self, Bool.and_true]) ?_
  simp only [ini, noR_val, noR_val, noR_full, noR_no, noR_owns, noR_sv, noR_bp, noR_kp, noR_agg, noR_tup, noR_fn, noR_top, noR_slno, noR_slfull, noR_slown]
  obtain ⟨k, hk⟩ : ∃ k, at8.toNat % (ps.length + 1) = k := ⟨_, rfl⟩
  have hkl : k ≤ ps.length := by have := Nat.mod_lt at8.toNat (show 0 < ps.length + 1 by omega); omega
  have hfl := True.intro
  have hb1 := True.intro
  have hb2 := True.intro
  refine Tr.seqK fun K1 hK1 => ?_
  -- region 0 (law.go:42)
  refine Tr.rg hcx [] _ [] rfl rfl rfl ?_
  simp -implicitDefEqProofs (maxSteps := 2000000) (disch := first | omega | (simp only [List.length_append, List.length_replicate, List.length_set, List.length_drop, List.length_take, List.length_cons, List.length_nil, one_w32, one_w8, one_nI, one_nU, one_str, one_bool, one_int, one_slice, refy_sv, refy_bp, refy_agg, refy_val, refy_kp, refy_tsl, cl_len, sha_len, S8.l_len, feed_len, F0_len, feed_n, F0_n, hfl, hb1, hb2] <;> omega) | decide) only [go_sem, ↓reduceIte, Nat.reduceEqDiff, reduceCtorEq, Nat.reduceLT, Nat.reduceBEq, Nat.reduceAdd, Nat.reduceSub, Nat.reduceMul, Nat.reduceMod, Int.reduceMod, Int.reduceToNat, Int.reduceNeg, h10, h11, h12, h13, h14, h15, h16, h17, Str.cells, Str_eta, feed_cat, sumF_sha, eq24, hk]
  refine hK1 _ ?_
  clear hK1 K1
  refine Tr.kp [0, 1, 2] ?_
  simp only [pk_cons, pk_nil, ↓A_cons, ↓reduceIte, Nat.reduceEqDiff, reduceCtorEq]
  refine Tr.seqK fun K2 hK2 => ?_
  -- region 1 (law.go:43)
  refine Tr.rg hcx [1000016] _ [] rfl rfl rfl ?_
  simp -implicitDefEqProofs (maxSteps := 2000000) (disch := first | omega | (simp only [List.length_append, List.length_replicate, List.length_set, List.length_drop, List.length_take, List.length_cons, List.length_nil, one_w32, one_w8, one_nI, one_nU, one_str, one_bool, one_int, one_slice, refy_sv, refy_bp, refy_agg, refy_val, refy_kp, refy_tsl, cl_len, sha_len, S8.l_len, feed_len, F0_len, feed_n, F0_n, hfl, hb1, hb2] <;> omega) | decide) only [go_sem, ↓reduceIte, Nat.reduceEqDiff, reduceCtorEq, Nat.reduceLT, Nat.reduceBEq, Nat.reduceAdd, Nat.reduceSub, Nat.reduceMul, Nat.reduceMod, Int.reduceMod, Int.reduceToNat, Int.reduceNeg, h10, h11, h12, h13, h14, h15, h16, h17, Str.cells, Str_eta, feed_cat, sumF_sha, eq24, hk]
  refine hK2 _ ?_
  clear hK2 K2
  refine Tr.kp [0, 1, 2, 7] ?_
  simp only [pk_cons, pk_nil, ↓A_cons, ↓reduceIte, Nat.reduceEqDiff, reduceCtorEq]
  refine Tr.seqK fun K3 hK3 => ?_
  refine Tr.seqK fun K4 hK4 => ?_
  by_cases hf : few ps = true
  ·
    have hfl := few_flat ps hf
    have hf12 := (few_spec ps hf).1
    have hb2 := take_flat_le ps k
    by_cases ho : 400 < o.length
    ·
      -- region 2 (law.go:44)
      refine Tr.rg hcx [] [some 17, some 18, some 19, some 20, some 21, some 22, some 23, some 24] [] rfl rfl rfl ?_
      simp -implicitDefEqProofs (maxSteps := 2000000) (disch := first | omega | (simp only [List.length_append, List.length_replicate, List.length_set, List.length_drop, List.length_take, List.length_cons, List.length_nil, one_w32, one_w8, one_nI, one_nU, one_str, one_bool, one_int, one_slice, refy_sv, refy_bp, refy_agg, refy_val, refy_kp, refy_tsl, cl_len, sha_len, S8.l_len, feed_len, F0_len, feed_n, F0_n, hfl, hb1, hb2] <;> omega) | decide) only [go_sem, ↓reduceIte, Nat.reduceEqDiff, reduceCtorEq, Nat.reduceLT, Nat.reduceBEq, Nat.reduceAdd, Nat.reduceSub, Nat.reduceMul, Nat.reduceMod, Int.reduceMod, Int.reduceToNat, Int.reduceNeg, h10, h11, h12, h13, h14, h15, h16, h17, Str.cells, Str_eta, feed_cat, sumF_sha, eq24, hk, hf, ho]
      refine hK4 _ ?_
      clear hK4 K4
      refine Tr.kp [0, 1, 2, 7, 24] ?_
      simp only [pk_cons, pk_nil, ↓A_cons, ↓reduceIte, Nat.reduceEqDiff, reduceCtorEq]
      refine Tr.condG fun KT KF hT hF => ?_
      simp only [ev_tmp, ev_const, ↓A_cons, ↓reduceIte, Nat.reduceEqDiff, reduceCtorEq, condG_bool, GB_true, GB_false, decide_eq_true_eq]
      refine hT ?_
      clear hT hF KT KF
      refine Tr.seqK fun K5 hK5 => ?_
      -- region 3 (law.go:45)
      refine Tr.rg hcx [1000025] _ [] rfl rfl rfl ?_
      simp -implicitDefEqProofs (maxSteps := 2000000) (disch := first | omega | (simp only [List.length_append, List.length_replicate, List.length_set, List.length_drop, List.length_take, List.length_cons, List.length_nil, one_w32, one_w8, one_nI, one_nU, one_str, one_bool, one_int, one_slice, refy_sv, refy_bp, refy_agg, refy_val, refy_kp, refy_tsl, cl_len, sha_len, S8.l_len, feed_len, F0_len, feed_n, F0_n, hfl, hb1, hb2] <;> omega) | decide) only [go_sem, ↓reduceIte, Nat.reduceEqDiff, reduceCtorEq, Nat.reduceLT, Nat.reduceBEq, Nat.reduceAdd, Nat.reduceSub, Nat.reduceMul, Nat.reduceMod, Int.reduceMod, Int.reduceToNat, Int.reduceNeg, h10, h11, h12, h13, h14, h15, h16, h17, Str.cells, Str_eta, feed_cat, sumF_sha, eq24, hk, hf, ho]
      refine hK5 _ ?_
      clear hK5 K5
      refine Tr.kp [6] ?_
      simp only [pk_cons, pk_nil, ↓A_cons, ↓reduceIte, Nat.reduceEqDiff, reduceCtorEq]
      refine Tr.ret ?_
      simp -implicitDefEqProofs (disch := first | omega | (simp only [List.length_append, List.length_replicate, List.length_set, List.length_drop, List.length_take, List.length_cons, List.length_nil, one_w32, one_w8, one_nI, one_nU, one_str, one_bool, one_int, one_slice, refy_sv, refy_bp, refy_agg, refy_val, refy_kp, refy_tsl, cl_len, sha_len, S8.l_len, feed_len, F0_len, feed_n, F0_n, hfl, hb1, hb2] <;> omega) | decide) only [go_sem, thenQ_n, thenQ_x, thenQ_r, blockQ_n, blockQ_r, EndsR_r, EndsR_n, resL_one, resC_tmp, resC_cell, rcP_int, rcP_bool, rcP_str, rcP_sl, rcP_arr, rcP_struct, ↓reduceIte, Nat.reduceEqDiff, reduceCtorEq]
    ·
      -- region 2 (law.go:44)
      refine Tr.rg hcx [] [some 17, some 18, some 19, some 20, some 21, some 22, some 23, some 24] [] rfl rfl rfl ?_
      simp -implicitDefEqProofs (maxSteps := 2000000) (disch := first | omega | (simp only [List.length_append, List.length_replicate, List.length_set, List.length_drop, List.length_take, List.length_cons, List.length_nil, one_w32, one_w8, one_nI, one_nU, one_str, one_bool, one_int, one_slice, refy_sv, refy_bp, refy_agg, refy_val, refy_kp, refy_tsl, cl_len, sha_len, S8.l_len, feed_len, F0_len, feed_n, F0_n, hfl, hb1, hb2] <;> omega) | decide) only [go_sem, ↓reduceIte, Nat.reduceEqDiff, reduceCtorEq, Nat.reduceLT, Nat.reduceBEq, Nat.reduceAdd, Nat.reduceSub, Nat.reduceMul, Nat.reduceMod, Int.reduceMod, Int.reduceToNat, Int.reduceNeg, h10, h11, h12, h13, h14, h15, h16, h17, Str.cells, Str_eta, feed_cat, sumF_sha, eq24, hk, hf, ho]
      refine hK4 _ ?_
      clear hK4 K4
      refine Tr.kp [0, 1, 2, 7, 24] ?_
      simp only [pk_cons, pk_nil, ↓A_cons, ↓reduceIte, Nat.reduceEqDiff, reduceCtorEq]
      refine Tr.condG fun KT KF hT hF => ?_
      simp only [ev_tmp, ev_const, ↓A_cons, ↓reduceIte, Nat.reduceEqDiff, reduceCtorEq, condG_bool, GB_true, GB_false, decide_eq_true_eq]
      refine hF ?_
      clear hT hF KT KF
      refine Tr.skip ?_
      refine hK3 _ ?_
      clear hK3 K3
      refine Tr.kp [0, 1, 2, 7] ?_
      simp only [pk_cons, pk_nil, ↓A_cons, ↓reduceIte, Nat.reduceEqDiff, reduceCtorEq]
      refine Tr.seqK fun K6 hK6 => ?_
      -- region 4 (law.go:47)
      refine Tr.rg hcx [1000031] _ [] rfl rfl rfl ?_
      simp -implicitDefEqProofs (maxSteps := 2000000) (disch := first | omega | (simp only [List.length_append, List.length_replicate, List.length_set, List.length_drop, List.length_take, List.length_cons, List.length_nil, one_w32, one_w8, one_nI, one_nU, one_str, one_bool, one_int, one_slice, refy_sv, refy_bp, refy_agg, refy_val, refy_kp, refy_tsl, cl_len, sha_len, S8.l_len, feed_len, F0_len, feed_n, F0_n, hfl, hb1, hb2] <;> omega) | decide) only [go_sem, ↓reduceIte, Nat.reduceEqDiff, reduceCtorEq, Nat.reduceLT, Nat.reduceBEq, Nat.reduceAdd, Nat.reduceSub, Nat.reduceMul, Nat.reduceMod, Int.reduceMod, Int.reduceToNat, Int.reduceNeg, h10, h11, h12, h13, h14, h15, h16, h17, Str.cells, Str_eta, feed_cat, sumF_sha, eq24, hk, hf, ho]
      refine hK6 _ ?_
      clear hK6 K6
      refine Tr.kp [0, 1, 7, 8] ?_
      simp only [pk_cons, pk_nil, ↓A_cons, ↓reduceIte, Nat.reduceEqDiff, reduceCtorEq]
      refine Tr.seqK fun K7 hK7 => ?_
      -- region 5 (law.go:48)
      refine Tr.rg hcx [] _ [none] rfl rfl rfl ?_
      simp -implicitDefEqProofs (maxSteps := 2000000) (disch := first | omega | (simp only [List.length_append, List.length_replicate, List.length_set, List.length_drop, List.length_take, List.length_cons, List.length_nil, one_w32, one_w8, one_nI, one_nU, one_str, one_bool, one_int, one_slice, refy_sv, refy_bp, refy_agg, refy_val, refy_kp, refy_tsl, cl_len, sha_len, S8.l_len, feed_len, F0_len, feed_n, F0_n, hfl, hb1, hb2] <;> omega) | decide) only [go_sem, ↓reduceIte, Nat.reduceEqDiff, reduceCtorEq, Nat.reduceLT, Nat.reduceBEq, Nat.reduceAdd, Nat.reduceSub, Nat.reduceMul, Nat.reduceMod, Int.reduceMod, Int.reduceToNat, Int.reduceNeg, h10, h11, h12, h13, h14, h15, h16, h17, Str.cells, Str_eta, feed_cat, sumF_sha, eq24, hk, hf, ho]
      refine hK7 _ ?_
      clear hK7 K7
      refine Tr.kp [0, 1, 7, 8, 9] ?_
      simp only [pk_cons, pk_nil, ↓A_cons, ↓reduceIte, Nat.reduceEqDiff, reduceCtorEq]
      refine Tr.seqK fun K8 hK8 => ?_
      refine Tr.seqK fun K9 hK9 => ?_
      -- region 6 (law.go:49)
      refine Tr.rg hcx [] _ [] rfl rfl rfl ?_
      simp -implicitDefEqProofs (maxSteps := 2000000) (disch := first | omega | (simp only [List.length_append, List.length_replicate, List.length_set, List.length_drop, List.length_take, List.length_cons, List.length_nil, one_w32, one_w8, one_nI, one_nU, one_str, one_bool, one_int, one_slice, refy_sv, refy_bp, refy_agg, refy_val, refy_kp, refy_tsl, cl_len, sha_len, S8.l_len, feed_len, F0_len, feed_n, F0_n, hfl, hb1, hb2] <;> omega) | decide) only [go_sem, ↓reduceIte, Nat.reduceEqDiff, reduceCtorEq, Nat.reduceLT, Nat.reduceBEq, Nat.reduceAdd, Nat.reduceSub, Nat.reduceMul, Nat.reduceMod, Int.reduceMod, Int.reduceToNat, Int.reduceNeg, h10, h11, h12, h13, h14, h15, h16, h17, Str.cells, Str_eta, feed_cat, sumF_sha, eq24, hk, hf, ho]
      refine hK9 _ ?_
      clear hK9 K9
      refine Tr.kp [0, 1, 7, 8, 9, 10] ?_
      simp only [pk_cons, pk_nil, ↓A_cons, ↓reduceIte, Nat.reduceEqDiff, reduceCtorEq]
      refine Tr.blk ?_
      refine Tr.loopI (α := Nat) (fun a => [(0, ?v0_20), (1, ?v1_20), (7, ?v7_20), (8, ?v8_20), (9, ?v9_20), (10, .val (nI a))]) (fun a => [some (feed F0 (ps.take a).flatten).cells]) (fun a => a ≤ k) (fun a => k - a) (0) ?_ ?le_20 ?hh_20 ?bd_20
      case hh_20 => exact by simp only [List.take_zero, List.flatten_nil, feed_nil]; rfl
      case le_20 => (simp only [Le_nil, Le_cons, ↓A_cons, ↓reduceIte, Nat.reduceEqDiff, reduceCtorEq, CLe_refl, CLe_top, CLe_full, CLe_nil, CLe_own, and_true, true_and]; all_goals (repeat' first | exact CLe.refl _ | exact True.intro | (refine CLe_sln ?_; first | with_reducible rfl | (simp only [List.take_zero]; done) | (rfl; done)) | exact CLe_nI (by omega) | exact CLe_int (by omega) | exact CLe_inI (by omega) | exact CLe_nIi (by omega) | with_reducible apply And.intro))
      · omega
      case bd_20 =>
        rintro i hi
        refine Tr.seqK fun K10 hK10 => ?_
        refine Tr.seqK fun K11 hK11 => ?_
        -- region 7 (law.go:49)
        refine Tr.rg hcx [] _ [] rfl rfl rfl ?_
        simp -implicitDefEqProofs (maxSteps := 2000000) (disch := first | omega | (simp only [List.length_append, List.length_replicate, List.length_set, List.length_drop, List.length_take, List.length_cons, List.length_nil, one_w32, one_w8, one_nI, one_nU, one_str, one_bool, one_int, one_slice, refy_sv, refy_bp, refy_agg, refy_val, refy_kp, refy_tsl, cl_len, sha_len, S8.l_len, feed_len, F0_len, feed_n, F0_n, hfl, hb1, hb2] <;> omega) | decide) only [go_sem, ↓reduceIte, Nat.reduceEqDiff, reduceCtorEq, Nat.reduceLT, Nat.reduceBEq, Nat.reduceAdd, Nat.reduceSub, Nat.reduceMul, Nat.reduceMod, Int.reduceMod, Int.reduceToNat, Int.reduceNeg, h10, h11, h12, h13, h14, h15, h16, h17, Str.cells, Str_eta, feed_cat, sumF_sha, eq24, hk, hf, ho]
        refine hK11 _ ?_
        clear hK11 K11
        refine Tr.kp [0, 1, 7, 8, 9, 10, 35] ?_
        simp only [pk_cons, pk_nil, ↓A_cons, ↓reduceIte, Nat.reduceEqDiff, reduceCtorEq]
        refine Tr.condG fun KT KF hT hF => ?_
        simp only [ev_tmp, ev_const, ↓A_cons, ↓reduceIte, Nat.reduceEqDiff, reduceCtorEq, condG_bool, GB_true, GB_false, decide_eq_true_eq]
        refine GB.dec (fun hc35 => hT ?_) (fun hc35 => hF ?_)
        ·
          clear hT hF KT KF
          have hb1 := flat_le ps i (by omega)
          refine Tr.skip ?_
          refine hK10 _ ?_
          clear hK10 K10
          refine Tr.kp [0, 1, 7, 8, 9, 10] ?_
          simp only [pk_cons, pk_nil, ↓A_cons, ↓reduceIte, Nat.reduceEqDiff, reduceCtorEq]
          refine Tr.seqK fun K12 hK12 => ?_
          refine Tr.blk ?_
          -- region 9 (law.go:50)
          refine Tr.rgD hcx hMO [] _ [] rfl rfl rfl rfl ?_
          simp -implicitDefEqProofs (maxSteps := 2000000) (disch := first | omega | (simp only [List.length_append, List.length_replicate, List.length_set, List.length_drop, List.length_take, List.length_cons, List.length_nil, one_w32, one_w8, one_nI, one_nU, one_str, one_bool, one_int, one_slice, refy_sv, refy_bp, refy_agg, refy_val, refy_kp, refy_tsl, cl_len, sha_len, S8.l_len, feed_len, F0_len, feed_n, F0_n, hfl, hb1, hb2] <;> omega) | decide) only [go_sem, ↓reduceIte, Nat.reduceEqDiff, reduceCtorEq, Nat.reduceLT, Nat.reduceBEq, Nat.reduceAdd, Nat.reduceSub, Nat.reduceMul, Nat.reduceMod, Int.reduceMod, Int.reduceToNat, Int.reduceNeg, h10, h11, h12, h13, h14, h15, h16, h17, Str.cells, Str_eta, feed_cat, sumF_sha, eq24, hk, hf, ho]
          with_reducible refine And.intro ?_ ?_
          · exact rfl
          refine hK12 _ ?_
          clear hK12 K12
          refine Tr.kp [0, 1, 7, 8, 9, 10] ?_
          simp only [pk_cons, pk_nil, ↓A_cons, ↓reduceIte, Nat.reduceEqDiff, reduceCtorEq]
          -- region 8 (law.go:49)
          refine Tr.rg hcx [1000037] _ [] rfl rfl rfl ?_
          simp -implicitDefEqProofs (maxSteps := 2000000) (disch := first | omega | (simp only [List.length_append, List.length_replicate, List.length_set, List.length_drop, List.length_take, List.length_cons, List.length_nil, one_w32, one_w8, one_nI, one_nU, one_str, one_bool, one_int, one_slice, refy_sv, refy_bp, refy_agg, refy_val, refy_kp, refy_tsl, cl_len, sha_len, S8.l_len, feed_len, F0_len, feed_n, F0_n, hfl, hb1, hb2] <;> omega) | decide) only [go_sem, ↓reduceIte, Nat.reduceEqDiff, reduceCtorEq, Nat.reduceLT, Nat.reduceBEq, Nat.reduceAdd, Nat.reduceSub, Nat.reduceMul, Nat.reduceMod, Int.reduceMod, Int.reduceToNat, Int.reduceNeg, h10, h11, h12, h13, h14, h15, h16, h17, Str.cells, Str_eta, feed_cat, sumF_sha, eq24, hk, hf, ho]
          refine ⟨i + 1, ⟨by omega, by first | omega | (simp only []; omega)⟩, ?_, by dsimp only; rw [flat_snoc ps i (by omega)]⟩
          (simp only [Le_nil, Le_cons, ↓A_cons, ↓reduceIte, Nat.reduceEqDiff, reduceCtorEq, CLe_refl, CLe_top, CLe_full, CLe_nil, CLe_own, and_true, true_and]; all_goals (repeat' first | exact CLe.refl _ | exact True.intro | (refine CLe_sln ?_; first | with_reducible rfl | (simp only [List.take_zero]; done) | (rfl; done)) | exact CLe_nI (by omega) | exact CLe_int (by omega) | exact CLe_inI (by omega) | exact CLe_nIi (by omega) | with_reducible apply And.intro))
        ·
          clear hT hF KT KF
          obtain rfl : i = k := by omega
          refine Tr.exit ?_
          refine hK8 _ ?_
          clear hK10 K10 hK8 K8
          refine Tr.kp [0, 1, 7, 8, 9] ?_
          simp only [pk_cons, pk_nil, ↓A_cons, ↓reduceIte, Nat.reduceEqDiff, reduceCtorEq]
          refine Tr.seqK fun K13 hK13 => ?_
          -- region 10 (law.go:52)
          refine Tr.rg hcx [] _ [none] rfl rfl rfl ?_
          simp -implicitDefEqProofs (maxSteps := 2000000) (disch := first | omega | (simp only [List.length_append, List.length_replicate, List.length_set, List.length_drop, List.length_take, List.length_cons, List.length_nil, one_w32, one_w8, one_nI, one_nU, one_str, one_bool, one_int, one_slice, refy_sv, refy_bp, refy_agg, refy_val, refy_kp, refy_tsl, cl_len, sha_len, S8.l_len, feed_len, F0_len, feed_n, F0_n, hfl, hb1, hb2] <;> omega) | decide) only [go_sem, ↓reduceIte, Nat.reduceEqDiff, reduceCtorEq, Nat.reduceLT, Nat.reduceBEq, Nat.reduceAdd, Nat.reduceSub, Nat.reduceMul, Nat.reduceMod, Int.reduceMod, Int.reduceToNat, Int.reduceNeg, h10, h11, h12, h13, h14, h15, h16, h17, Str.cells, Str_eta, feed_cat, sumF_sha, eq24, hk, hf, ho]
          refine hK13 _ ?_
          clear hK13 K13
          refine Tr.kp [0, 1, 7, 8, 9, 11] ?_
          simp only [pk_cons, pk_nil, ↓A_cons, ↓reduceIte, Nat.reduceEqDiff, reduceCtorEq]
          refine Tr.seqK fun K14 hK14 => ?_
          refine Tr.seqK fun K15 hK15 => ?_
          -- region 11 (law.go:53)
          refine Tr.rg hcx [1000045] _ [] rfl rfl rfl ?_
          simp -implicitDefEqProofs (maxSteps := 2000000) (disch := first | omega | (simp only [List.length_append, List.length_replicate, List.length_set, List.length_drop, List.length_take, List.length_cons, List.length_nil, one_w32, one_w8, one_nI, one_nU, one_str, one_bool, one_int, one_slice, refy_sv, refy_bp, refy_agg, refy_val, refy_kp, refy_tsl, cl_len, sha_len, S8.l_len, feed_len, F0_len, feed_n, F0_n, hfl, hb1, hb2] <;> omega) | decide) only [go_sem, ↓reduceIte, Nat.reduceEqDiff, reduceCtorEq, Nat.reduceLT, Nat.reduceBEq, Nat.reduceAdd, Nat.reduceSub, Nat.reduceMul, Nat.reduceMod, Int.reduceMod, Int.reduceToNat, Int.reduceNeg, h10, h11, h12, h13, h14, h15, h16, h17, Str.cells, Str_eta, feed_cat, sumF_sha, eq24, hk, hf, ho]
          refine hK15 _ ?_
          clear hK15 K15
          refine Tr.kp [0, 1, 7, 8, 9, 11, 12] ?_
          simp only [pk_cons, pk_nil, ↓A_cons, ↓reduceIte, Nat.reduceEqDiff, reduceCtorEq]
          refine Tr.blk ?_
          refine Tr.loopI (α := Nat) (fun a => [(0, ?v0_37), (1, ?v1_37), (7, ?v7_37), (8, ?v8_37), (9, ?v9_37), (11, ?v11_37), (12, .val (nI a))]) (fun a => [some (feed F0 (ps.take a).flatten).cells, some (feed F0 (ps.take i).flatten).cells]) (fun a => i ≤ a ∧ a ≤ ps.length) (fun a => ps.length - a) (i) ?_ ?le_37 ?hh_37 ?bd_37
          case hh_37 => exact rfl
          case le_37 => (simp only [Le_nil, Le_cons, ↓A_cons, ↓reduceIte, Nat.reduceEqDiff, reduceCtorEq, CLe_refl, CLe_top, CLe_full, CLe_nil, CLe_own, and_true, true_and]; all_goals (repeat' first | exact CLe.refl _ | exact True.intro | (refine CLe_sln ?_; first | with_reducible rfl | (simp only [List.take_zero]; done) | (rfl; done)) | exact CLe_nI (by omega) | exact CLe_int (by omega) | exact CLe_inI (by omega) | exact CLe_nIi (by omega) | with_reducible apply And.intro))
          · exact ⟨Nat.le_refl _, by omega⟩
          case bd_37 =>
            rintro j ⟨hj1, hj⟩
            refine Tr.seqK fun K16 hK16 => ?_
            refine Tr.seqK fun K17 hK17 => ?_
            -- region 12 (law.go:53)
            refine Tr.rg hcx [] _ [] rfl rfl rfl ?_
            simp -implicitDefEqProofs (maxSteps := 2000000) (disch := first | omega | (simp only [List.length_append, List.length_replicate, List.length_set, List.length_drop, List.length_take, List.length_cons, List.length_nil, one_w32, one_w8, one_nI, one_nU, one_str, one_bool, one_int, one_slice, refy_sv, refy_bp, refy_agg, refy_val, refy_kp, refy_tsl, cl_len, sha_len, S8.l_len, feed_len, F0_len, feed_n, F0_n, hfl, hb1, hb2] <;> omega) | decide) only [go_sem, ↓reduceIte, Nat.reduceEqDiff, reduceCtorEq, Nat.reduceLT, Nat.reduceBEq, Nat.reduceAdd, Nat.reduceSub, Nat.reduceMul, Nat.reduceMod, Int.reduceMod, Int.reduceToNat, Int.reduceNeg, h10, h11, h12, h13, h14, h15, h16, h17, Str.cells, Str_eta, feed_cat, sumF_sha, eq24, hk, hf, ho]
            refine hK17 _ ?_
            clear hK17 K17
            refine Tr.kp [0, 1, 7, 8, 9, 11, 12, 49] ?_
            simp only [pk_cons, pk_nil, ↓A_cons, ↓reduceIte, Nat.reduceEqDiff, reduceCtorEq]
            refine Tr.condG fun KT KF hT hF => ?_
            simp only [ev_tmp, ev_const, ↓A_cons, ↓reduceIte, Nat.reduceEqDiff, reduceCtorEq, condG_bool, GB_true, GB_false, decide_eq_true_eq]
            refine GB.dec (fun hc49 => hT ?_) (fun hc49 => hF ?_)
            ·
              clear hT hF KT KF
              have hb1 := flat_le ps j (by omega)
              refine Tr.skip ?_
              refine hK16 _ ?_
              clear hK16 K16
              refine Tr.kp [0, 1, 7, 8, 9, 11, 12] ?_
              simp only [pk_cons, pk_nil, ↓A_cons, ↓reduceIte, Nat.reduceEqDiff, reduceCtorEq]
              refine Tr.seqK fun K18 hK18 => ?_
              refine Tr.blk ?_
              -- region 14 (law.go:54)
              refine Tr.rgD hcx hMO [] _ [] rfl rfl rfl rfl ?_
              simp -implicitDefEqProofs (maxSteps := 2000000) (disch := first | omega | (simp only [List.length_append, List.length_replicate, List.length_set, List.length_drop, List.length_take, List.length_cons, List.length_nil, one_w32, one_w8, one_nI, one_nU, one_str, one_bool, one_int, one_slice, refy_sv, refy_bp, refy_agg, refy_val, refy_kp, refy_tsl, cl_len, sha_len, S8.l_len, feed_len, F0_len, feed_n, F0_n, hfl, hb1, hb2] <;> omega) | decide) only [go_sem, ↓reduceIte, Nat.reduceEqDiff, reduceCtorEq, Nat.reduceLT, Nat.reduceBEq, Nat.reduceAdd, Nat.reduceSub, Nat.reduceMul, Nat.reduceMod, Int.reduceMod, Int.reduceToNat, Int.reduceNeg, h10, h11, h12, h13, h14, h15, h16, h17, Str.cells, Str_eta, feed_cat, sumF_sha, eq24, hk, hf, ho]
              with_reducible refine And.intro ?_ ?_
              · exact rfl
              refine hK18 _ ?_
              clear hK18 K18
              refine Tr.kp [0, 1, 7, 8, 9, 11, 12] ?_
              simp only [pk_cons, pk_nil, ↓A_cons, ↓reduceIte, Nat.reduceEqDiff, reduceCtorEq]
              -- region 13 (law.go:53)
              refine Tr.rg hcx [1000051] _ [] rfl rfl rfl ?_
              simp -implicitDefEqProofs (maxSteps := 2000000) (disch := first | omega | (simp only [List.length_append, List.length_replicate, List.length_set, List.length_drop, List.length_take, List.length_cons, List.length_nil, one_w32, one_w8, one_nI, one_nU, one_str, one_bool, one_int, one_slice, refy_sv, refy_bp, refy_agg, refy_val, refy_kp, refy_tsl, cl_len, sha_len, S8.l_len, feed_len, F0_len, feed_n, F0_n, hfl, hb1, hb2] <;> omega) | decide) only [go_sem, ↓reduceIte, Nat.reduceEqDiff, reduceCtorEq, Nat.reduceLT, Nat.reduceBEq, Nat.reduceAdd, Nat.reduceSub, Nat.reduceMul, Nat.reduceMod, Int.reduceMod, Int.reduceToNat, Int.reduceNeg, h10, h11, h12, h13, h14, h15, h16, h17, Str.cells, Str_eta, feed_cat, sumF_sha, eq24, hk, hf, ho]
              refine ⟨j + 1, ⟨by omega, by first | omega | (simp only []; omega)⟩, ?_, by dsimp only; rw [flat_snoc ps j (by omega)]⟩
              (simp only [Le_nil, Le_cons, ↓A_cons, ↓reduceIte, Nat.reduceEqDiff, reduceCtorEq, CLe_refl, CLe_top, CLe_full, CLe_nil, CLe_own, and_true, true_and]; all_goals (repeat' first | exact CLe.refl _ | exact True.intro | (refine CLe_sln ?_; first | with_reducible rfl | (simp only [List.take_zero]; done) | (rfl; done)) | exact CLe_nI (by omega) | exact CLe_int (by omega) | exact CLe_inI (by omega) | exact CLe_nIi (by omega) | with_reducible apply And.intro))
            ·
              clear hT hF KT KF
              obtain rfl : j = ps.length := by omega
              simp only [List.take_length]
              refine Tr.exit ?_
              refine hK14 _ ?_
              clear hK16 K16 hK14 K14
              refine Tr.kp [0, 1, 7, 8, 9, 11] ?_
              simp only [pk_cons, pk_nil, ↓A_cons, ↓reduceIte, Nat.reduceEqDiff, reduceCtorEq]
              refine Tr.seqK fun K19 hK19 => ?_
              -- region 15 (law.go:56)
              refine Tr.rg hcx [] _ [none] rfl rfl rfl ?_
              simp -implicitDefEqProofs (maxSteps := 2000000) (disch := first | omega | (simp only [List.length_append, List.length_replicate, List.length_set, List.length_drop, List.length_take, List.length_cons, List.length_nil, one_w32, one_w8, one_nI, one_nU, one_str, one_bool, one_int, one_slice, refy_sv, refy_bp, refy_agg, refy_val, refy_kp, refy_tsl, cl_len, sha_len, S8.l_len, feed_len, F0_len, feed_n, F0_n, hfl, hb1, hb2] <;> omega) | decide) only [go_sem, ↓reduceIte, Nat.reduceEqDiff, reduceCtorEq, Nat.reduceLT, Nat.reduceBEq, Nat.reduceAdd, Nat.reduceSub, Nat.reduceMul, Nat.reduceMod, Int.reduceMod, Int.reduceToNat, Int.reduceNeg, h10, h11, h12, h13, h14, h15, h16, h17, Str.cells, Str_eta, feed_cat, sumF_sha, eq24, hk, hf, ho]
              refine hK19 _ ?_
              clear hK19 K19
              refine Tr.kp [0, 1, 7, 8, 9, 11, 13] ?_
              simp only [pk_cons, pk_nil, ↓A_cons, ↓reduceIte, Nat.reduceEqDiff, reduceCtorEq]
              refine Tr.seqK fun K20 hK20 => ?_
              -- region 16 (law.go:57)
              refine Tr.rg hcx [1000062] _ [] rfl rfl rfl ?_
              simp -implicitDefEqProofs (maxSteps := 2000000) (disch := first | omega | (simp only [List.length_append, List.length_replicate, List.length_set, List.length_drop, List.length_take, List.length_cons, List.length_nil, one_w32, one_w8, one_nI, one_nU, one_str, one_bool, one_int, one_slice, refy_sv, refy_bp, refy_agg, refy_val, refy_kp, refy_tsl, cl_len, sha_len, S8.l_len, feed_len, F0_len, feed_n, F0_n, hfl, hb1, hb2] <;> omega) | decide) only [go_sem, ↓reduceIte, Nat.reduceEqDiff, reduceCtorEq, Nat.reduceLT, Nat.reduceBEq, Nat.reduceAdd, Nat.reduceSub, Nat.reduceMul, Nat.reduceMod, Int.reduceMod, Int.reduceToNat, Int.reduceNeg, h10, h11, h12, h13, h14, h15, h16, h17, Str.cells, Str_eta, feed_cat, sumF_sha, eq24, hk, hf, ho]
              refine hK20 _ ?_
              clear hK20 K20
              refine Tr.kp [0, 1, 7, 8, 9, 11, 13, 14] ?_
              simp only [pk_cons, pk_nil, ↓A_cons, ↓reduceIte, Nat.reduceEqDiff, reduceCtorEq]
              refine Tr.seqK fun K21 hK21 => ?_
              -- region 17 (law.go:58)
              refine Tr.rg hcx [1000066] _ [] rfl rfl rfl ?_
              simp -implicitDefEqProofs (maxSteps := 2000000) (disch := first | omega | (simp only [List.length_append, List.length_replicate, List.length_set, List.length_drop, List.length_take, List.length_cons, List.length_nil, one_w32, one_w8, one_nI, one_nU, one_str, one_bool, one_int, one_slice, refy_sv, refy_bp, refy_agg, refy_val, refy_kp, refy_tsl, cl_len, sha_len, S8.l_len, feed_len, F0_len, feed_n, F0_n, hfl, hb1, hb2] <;> omega) | decide) only [go_sem, ↓reduceIte, Nat.reduceEqDiff, reduceCtorEq, Nat.reduceLT, Nat.reduceBEq, Nat.reduceAdd, Nat.reduceSub, Nat.reduceMul, Nat.reduceMod, Int.reduceMod, Int.reduceToNat, Int.reduceNeg, h10, h11, h12, h13, h14, h15, h16, h17, Str.cells, Str_eta, feed_cat, sumF_sha, eq24, hk, hf, ho]
              refine hK21 _ ?_
              clear hK21 K21
              refine Tr.kp [1, 7, 9, 11, 13, 14, 15] ?_
              simp only [pk_cons, pk_nil, ↓A_cons, ↓reduceIte, Nat.reduceEqDiff, reduceCtorEq]
              refine Tr.seqK fun K22 hK22 => ?_
              -- region 18 (law.go:59)
              refine Tr.rg hcx [1000101] [some 67, some 68, some 69, some 70, some 71, some 72, some 73, some 74, some 75, some 76, some 77, some 78, some 79, some 80, some 81, some 82, some 83, some 84, some 85, some 86, some 87, some 88, some 89, some 90, some 91, some 92, some 93, some 94, some 95, some 96, some 97, some 98, some 99, some 100, some 101, some 6] [] rfl rfl rfl ?_
              simp -implicitDefEqProofs (maxSteps := 2000000) (disch := first | omega | (simp only [List.length_append, List.length_replicate, List.length_set, List.length_drop, List.length_take, List.length_cons, List.length_nil, one_w32, one_w8, one_nI, one_nU, one_str, one_bool, one_int, one_slice, refy_sv, refy_bp, refy_agg, refy_val, refy_kp, refy_tsl, cl_len, sha_len, S8.l_len, feed_len, F0_len, feed_n, F0_n, hfl, hb1, hb2] <;> omega) | decide) only [go_sem, ↓reduceIte, Nat.reduceEqDiff, reduceCtorEq, Nat.reduceLT, Nat.reduceBEq, Nat.reduceAdd, Nat.reduceSub, Nat.reduceMul, Nat.reduceMod, Int.reduceMod, Int.reduceToNat, Int.reduceNeg, h10, h11, h12, h13, h14, h15, h16, h17, Str.cells, Str_eta, feed_cat, sumF_sha, eq24, hk, hf, ho]
              refine hK22 _ ?_
              clear hK22 K22
              refine Tr.kp [6] ?_
              simp only [pk_cons, pk_nil, ↓A_cons, ↓reduceIte, Nat.reduceEqDiff, reduceCtorEq]
              refine Tr.ret ?_
              simp -implicitDefEqProofs (disch := first | omega | (simp only [List.length_append, List.length_replicate, List.length_set, List.length_drop, List.length_take, List.length_cons, List.length_nil, one_w32, one_w8, one_nI, one_nU, one_str, one_bool, one_int, one_slice, refy_sv, refy_bp, refy_agg, refy_val, refy_kp, refy_tsl, cl_len, sha_len, S8.l_len, feed_len, F0_len, feed_n, F0_n, hfl, hb1, hb2] <;> omega) | decide) only [go_sem, thenQ_n, thenQ_x, thenQ_r, blockQ_n, blockQ_r, EndsR_r, EndsR_n, resL_one, resC_tmp, resC_cell, rcP_int, rcP_bool, rcP_str, rcP_sl, rcP_arr, rcP_struct, ↓reduceIte, Nat.reduceEqDiff, reduceCtorEq]
  ·
    rw [Bool.not_eq_true] at hf
    -- region 2 (law.go:44)
    refine Tr.rg hcx [] [some 17, some 18, some 19, some 20, some 21, some 22, some 23, some 24] [] rfl rfl rfl ?_
    simp -implicitDefEqProofs (maxSteps := 2000000) (disch := first | omega | (simp only [List.length_append, List.length_replicate, List.length_set, List.length_drop, List.length_take, List.length_cons, List.length_nil, one_w32, one_w8, one_nI, one_nU, one_str, one_bool, one_int, one_slice, refy_sv, refy_bp, refy_agg, refy_val, refy_kp, refy_tsl, cl_len, sha_len, S8.l_len, feed_len, F0_len, feed_n, F0_n, hfl, hb1, hb2] <;> omega) | decide) only [go_sem, ↓reduceIte, Nat.reduceEqDiff, reduceCtorEq, Nat.reduceLT, Nat.reduceBEq, Nat.reduceAdd, Nat.reduceSub, Nat.reduceMul, Nat.reduceMod, Int.reduceMod, Int.reduceToNat, Int.reduceNeg, h10, h11, h12, h13, h14, h15, h16, h17, Str.cells, Str_eta, feed_cat, sumF_sha, eq24, hk, hf]
    refine hK4 _ ?_
    clear hK4 K4
    refine Tr.kp [0, 1, 2, 7, 24] ?_
    simp only [pk_cons, pk_nil, ↓A_cons, ↓reduceIte, Nat.reduceEqDiff, reduceCtorEq]
    refine Tr.condG fun KT KF hT hF => ?_
    simp only [ev_tmp, ev_const, ↓A_cons, ↓reduceIte, Nat.reduceEqDiff, reduceCtorEq, condG_bool, GB_true, GB_false, decide_eq_true_eq]
    refine hT ?_
    clear hT hF KT KF
    refine Tr.seqK fun K23 hK23 => ?_
    -- region 3 (law.go:45)
    refine Tr.rg hcx [1000025] _ [] rfl rfl rfl ?_
    simp -implicitDefEqProofs (maxSteps := 2000000) (disch := first | omega | (simp only [List.length_append, List.length_replicate, List.length_set, List.length_drop, List.length_take, List.length_cons, List.length_nil, one_w32, one_w8, one_nI, one_nU, one_str, one_bool, one_int, one_slice, refy_sv, refy_bp, refy_agg, refy_val, refy_kp, refy_tsl, cl_len, sha_len, S8.l_len, feed_len, F0_len, feed_n, F0_n, hfl, hb1, hb2] <;> omega) | decide) only [go_sem, ↓reduceIte, Nat.reduceEqDiff, reduceCtorEq, Nat.reduceLT, Nat.reduceBEq, Nat.reduceAdd, Nat.reduceSub, Nat.reduceMul, Nat.reduceMod, Int.reduceMod, Int.reduceToNat, Int.reduceNeg, h10, h11, h12, h13, h14, h15, h16, h17, Str.cells, Str_eta, feed_cat, sumF_sha, eq24, hk, hf]
    refine hK23 _ ?_
    clear hK23 K23
    refine Tr.kp [6] ?_
    simp only [pk_cons, pk_nil, ↓A_cons, ↓reduceIte, Nat.reduceEqDiff, reduceCtorEq]
    refine Tr.ret ?_
    simp -implicitDefEqProofs (disch := first | omega | (simp only [List.length_append, List.length_replicate, List.length_set, List.length_drop, List.length_take, List.length_cons, List.length_nil, one_w32, one_w8, one_nI, one_nU, one_str, one_bool, one_int, one_slice, refy_sv, refy_bp, refy_agg, refy_val, refy_kp, refy_tsl, cl_len, sha_len, S8.l_len, feed_len, F0_len, feed_n, F0_n, hfl, hb1, hb2] <;> omega) | decide) only [go_sem, thenQ_n, thenQ_x, thenQ_r, blockQ_n, blockQ_r, EndsR_r, EndsR_n, resL_one, resC_tmp, resC_cell, rcP_int, rcP_bool, rcP_str, rcP_sl, rcP_arr, rcP_struct, ↓reduceIte, Nat.reduceEqDiff, reduceCtorEq]

end Go.Sx
