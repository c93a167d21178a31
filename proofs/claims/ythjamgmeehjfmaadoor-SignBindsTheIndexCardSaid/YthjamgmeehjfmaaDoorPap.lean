/-
  Package hash: contracts of functions. And what follows.
-/
import Derived.Test.YthjamgmeehjfmaaDoorPao
import Derived.Test.YthjamgmeehjfmaaDoorPal
set_option linter.unusedSimpArgs false
set_option linter.unusedVariables false
namespace Go.Sx
open Go.RowKit Go.Proofs
set_option maxRecDepth 100000
set_option maxHeartbeats 8000000
theorem X_fc66 {p : Prop} (e : p := by intro KZ hZ; simp -implicitDefEqProofs (disch := first | omega | (simp only [go_sem, lA, lD, lT, hMl, hMq, sched_len, S8.l_len, dig_len, kc_len] <;> omega) | decide) only [go_sem, ↓reduceIte, Nat.reduceEqDiff, reduceCtorEq, Nat.reduceLT, Nat.reduceBEq, Nat.reduceAdd, hM, h69, h70, h71, xor_ff, hg0, S8.l, cl_nil, hy]; exact hZ) : p := e
theorem Y_fc66 {p : Prop} (e : p := by intro KZ hZ; simp -implicitDefEqProofs (disch := first | omega | (simp only [go_sem, lA, lD, lT, hMl, hMq, sched_len, S8.l_len, dig_len, kc_len] <;> omega) | decide) only [go_sem, ↓reduceIte, Nat.reduceEqDiff, reduceCtorEq, Nat.reduceLT, Nat.reduceBEq, Nat.reduceAdd, hM, h69, h70, h71, xor_ff, hg0, S8.l, cl_nil, hy]; refine And.intro ?_ hZ; exact rfl) : p := e
theorem F_fc66 {p : Prop} (e : p := by simp -implicitDefEqProofs (disch := first | omega | (simp only [go_sem, lA, lD, lT, hMl, hMq, sched_len, S8.l_len, dig_len, kc_len] <;> omega) | decide) only [go_sem, ↓reduceIte, Nat.reduceEqDiff, reduceCtorEq]; all_goals (rw [hsha]; simp)) : p := e
theorem fc66 {gl : Nat → C} {M : Nat} {pu : Nat → List C → Option C}  (hcx : CxOK (cxP gl M pu))  (hg0 : gl 0 = .kp (cl wC kc)) (h69 : ∀ b : List UInt8, b.length < 35184372088832 → pu 69 [sl bC .no b] = some (sl bC (.own 1) (b ++ pad b.length))) (h70 : ∀ b : List UInt8, b.length = 64 → pu 70 [sl bC .no b] = some (.agg (cl wC (sched b 64)))) (h71 : ∀ x n, n < 32 → pu 71 [.val (w32 x), .val (nI n)] = some (.val (w32 (rr x n)))) (b : List UInt8) (hb : b.length < 35184372088832) : FC Tryd.prog gl 66 [sl bC .no b] [] (.agg (cl bC (sha b))) [] := by
 replace hcx := hcx.reN (M := 164)
 refine FC.ofA (cx := cxP gl 164 pu) (rs := [.cell 2 89]) rfl Tryd.func66 rfl rfl rfl (by simp only [List.length_cons, List.length_nil]; decide) (by simp only [go_sem]) ?_
 simp only [ini, go_sem]
 have hy := True.intro
 obtain ⟨Q, hQ⟩ := padM_len b
 have hpl := pad_len b.length
 have hz : zpad b.length < 64 := Nat.mod_lt _ (by decide)
 have hsha := sha_eq b
 obtain ⟨M, hM⟩ : ∃ M, b ++ pad b.length = M := ⟨_, rfl⟩
 rw [hM] at hQ hsha
 have hMl : M.length = 64 * Q := hQ
 have hMb : M.length < 35184372088932 := by rw [← hM, List.length_append, hpl]; omega
 have hMq := True.intro
 refine Tr.w hcx [] _ [none] rfl rfl rfl ?_ X_fc66
 refine Tr.w hcx [] _ [none] rfl rfl rfl ?_ X_fc66
 refine Tr.w hcx [1000022] _ [] rfl rfl rfl ?_ X_fc66
 refine Tr.seqK fun K1 hK1 => ?_
 refine Tr.w hcx [] _ [] rfl rfl rfl ?_ X_fc66
 refine Tr.k [2, 3, 4, 5] ?_
 refine Tr.blk ?_
 refine Tr.loopI (α := Nat) (fun a => [(2, ?v2_1), (3, ?v3_1), (4, ?v4_1), (5, .val (nI (64 * a)))]) (fun a => [some (cl bC (List.replicate 32 0)), some (cl wC (feed F0 (M.take (64 * a))).s.l)]) (fun a => a ≤ Q) (fun a => Q - a) (0) ?_ ?le_1 ?hh_1 ?bd_1
 case hh_1 => exact by simp only [Nat.mul_zero, List.take_zero]; rfl
 case le_1 => exact LT
 · omega
 rintro q hq
 have hMq : ((M.drop (64 * q)).take (64 * q + 64 - 64 * q)).length = min 64 (64 * Q - 64 * q) := by rw [List.length_take, List.length_drop, hMl]; omega
 refine Tr.seqK fun K2 hK2 => ?_
 refine Tr.w hcx [] _ [] rfl rfl rfl ?_ X_fc66
 refine Tr.cD rfl (fun hc26 => ?_) (fun hc26 => ?_)
 ·
  refine Tr.skip ?_
  refine hK2 _ ?_
  refine Tr.seqK fun K3 hK3 => ?_
  refine Tr.blk ?_
  refine Tr.w hcx [] _ [none] rfl rfl rfl ?_ X_fc66
  refine Tr.k [2, 3, 4, 5, 6] ?_
  refine Tr.wD hcx hMO [1000036, 1000038, 1000040, 1000042, 1000044, 1000046, 1000048, 1000050] _ [] rfl rfl rfl rfl ?_ Y_fc66
  refine Tr.k [2, 3, 4, 5, 6, 7, 8, 9, 10, 11, 12, 13, 14] ?_
  refine Tr.seqK fun K4 hK4 => ?_
  refine Tr.w hcx [] _ [] rfl rfl rfl ?_ X_fc66
  refine Tr.k [2, 3, 4, 5, 6, 7, 8, 9, 10, 11, 12, 13, 14, 15] ?_
  refine Tr.blk ?_
  refine Tr.loopI (α := Nat) (fun a => [(2, ?v2_2), (3, ?v3_2), (4, ?v4_2), (5, ?v5_2), (6, ?v6_2), (7, .val (w32 (rounds (sched ((M.drop (64 * q)).take 64) 64) (feed F0 (M.take (64 * q))).s a).a)), (8, .val (w32 (rounds (sched ((M.drop (64 * q)).take 64) 64) (feed F0 (M.take (64 * q))).s a).b)), (9, .val (w32 (rounds (sched ((M.drop (64 * q)).take 64) 64) (feed F0 (M.take (64 * q))).s a).c)), (10, .val (w32 (rounds (sched ((M.drop (64 * q)).take 64) 64) (feed F0 (M.take (64 * q))).s a).d)), (11, .val (w32 (rounds (sched ((M.drop (64 * q)).take 64) 64) (feed F0 (M.take (64 * q))).s a).e)), (12, .val (w32 (rounds (sched ((M.drop (64 * q)).take 64) 64) (feed F0 (M.take (64 * q))).s a).f)), (13, .val (w32 (rounds (sched ((M.drop (64 * q)).take 64) 64) (feed F0 (M.take (64 * q))).s a).g)), (14, .val (w32 (rounds (sched ((M.drop (64 * q)).take 64) 64) (feed F0 (M.take (64 * q))).s a).h)), (15, .val (nI a))]) (fun a => [some (cl bC (List.replicate 32 0)), some (cl wC (feed F0 (M.take (64 * q))).s.l), some (cl wC (sched ((M.drop (64 * q)).take 64) 64))]) (fun a => a ≤ 64) (fun a => 64 - a) (0) ?_ ?le_2 ?hh_2 ?bd_2
  case hh_2 => exact rfl
  case le_2 => exact LT
  · omega
  rintro i hi
  refine Tr.seqK fun K5 hK5 => ?_
  refine Tr.w hcx [] _ [] rfl rfl rfl ?_ X_fc66
  refine Tr.cD rfl (fun hc52 => ?_) (fun hc52 => ?_)
  ·
   refine Tr.skip ?_
   refine hK5 _ ?_
   refine Tr.k [2, 3, 4, 5, 6, 7, 8, 9, 10, 11, 12, 13, 14, 15] ?_
   refine Tr.seqK fun K6 hK6 => ?_
   refine Tr.blk ?_
   refine Tr.wD hcx hMO [1000081] _ [] rfl rfl rfl rfl ?_ Y_fc66
   refine Tr.k [2, 3, 4, 5, 6, 7, 8, 9, 10, 11, 12, 13, 15, 16] ?_
   refine Tr.w hcx [1000101] _ [] rfl rfl rfl ?_ X_fc66
   refine Tr.k [2, 3, 4, 5, 6, 7, 8, 9, 10, 11, 12, 13, 15, 16, 17] ?_
   refine Tr.w hcx [1000102] _ [] rfl rfl rfl ?_ X_fc66
   refine Tr.w hcx [1000103] _ [] rfl rfl rfl ?_ X_fc66
   refine Tr.w hcx [1000104] _ [] rfl rfl rfl ?_ X_fc66
   refine Tr.w hcx [1000107] _ [] rfl rfl rfl ?_ X_fc66
   refine Tr.k [2, 3, 4, 5, 6, 7, 8, 9, 11, 12, 13, 14, 15, 16, 17] ?_
   refine Tr.w hcx [1000108] _ [] rfl rfl rfl ?_ X_fc66
   refine Tr.w hcx [1000109] _ [] rfl rfl rfl ?_ X_fc66
   refine Tr.w hcx [1000110] _ [] rfl rfl rfl ?_ X_fc66
   refine Tr.v hcx [1000113] _ [] rfl rfl rfl ?_ X_fc66
   refine hK6 _ ?_
   refine Tr.k [2, 3, 4, 5, 6, 7, 8, 9, 10, 11, 12, 13, 14, 15] ?_
   refine Tr.v hcx [1000054] _ [] rfl rfl rfl ?_ X_fc66
   exact ⟨i + 1, ⟨by omega, O1⟩, LT, rfl⟩
  obtain rfl : i = 64 := by omega
  refine Tr.exit ?_
  refine hK4 _ ?_
  refine Tr.k [2, 3, 4, 5, 7, 8, 9, 10, 11, 12, 13, 14] ?_
  refine Tr.v hcx [] _ [] rfl rfl rfl ?_ X_fc66
  refine hK3 _ ?_
  refine Tr.k [2, 3, 4, 5] ?_
  refine Tr.cutA hcx 2 (by decide) ?_ ?_ ?_
  · simp only [noRefE_nil, noRefE_cons, go_sem, Bool.true_and] <;> decide
  · simp only [List.take_succ_cons, List.take_zero, noRefH_nil, noRefH_none, noRefH_some, go_sem, Bool.true_and] <;> decide
  simp only [List.take_succ_cons, List.take_zero]
  refine Tr.v hcx [1000028] _ [] rfl rfl rfl ?_ X_fc66
  exact ⟨q + 1, ⟨by omega, O1⟩, LT, by dsimp only; rw [blk_step M q (by omega)]; rfl⟩
 obtain rfl : q = Q := by omega
 rw [show 64 * q = M.length by omega, List.take_length]
 refine Tr.exit ?_
 refine hK1 _ ?_
 refine Tr.w hcx [] _ [none] rfl rfl rfl ?_ X_fc66
 refine Tr.seqK fun K7 hK7 => ?_
 refine Tr.w hcx [] _ [] rfl rfl rfl ?_ X_fc66
 refine Tr.k [2, 3, 18, 19] ?_
 refine Tr.blk ?_
 refine Tr.loopI (α := Nat) (fun a => [(2, ?v2_3), (3, ?v3_3), (18, ?v18_3), (19, .val (nI a))]) (fun a => [some (cl bC (List.replicate 32 0)), some (cl wC (feed F0 M).s.l), some (cl bC (dig (feed F0 M).s a ++ List.replicate (32 - a) 0))]) (fun a => a ≤ 32) (fun a => 32 - a) (0) ?_ ?le_3 ?hh_3 ?bd_3
 case hh_3 => exact rfl
 case le_3 => exact LT
 · omega
 rintro i hi
 refine Tr.seqK fun K8 hK8 => ?_
 refine Tr.w hcx [] _ [] rfl rfl rfl ?_ X_fc66
 refine Tr.cD rfl (fun hc148 => ?_) (fun hc148 => ?_)
 ·
  refine Tr.skip ?_
  refine hK8 _ ?_
  refine Tr.seqK fun K9 hK9 => ?_
  refine Tr.blk ?_
  refine Tr.v hcx [] _ [] rfl rfl rfl ?_ X_fc66
  refine hK9 _ ?_
  refine Tr.v hcx [1000150] _ [] rfl rfl rfl ?_ X_fc66
  exact ⟨i + 1, ⟨by omega, O1⟩, LT, by dsimp only; rw [set_rep _ _ _ _ _ (dig_len _ _) hc148, ← dig_next _ i hc148]; rfl⟩
 obtain rfl : i = 32 := by omega
 refine Tr.exit ?_
 refine hK7 _ ?_
 refine Tr.w hcx [] _ [] rfl rfl rfl ?_ X_fc66
 exact Tr.ret F_fc66
theorem X_fc64 {p : Prop} (e : p := by intro KZ hZ; simp -implicitDefEqProofs (disch := first | omega | (simp only [go_sem, lA, lD, lT, sha_len, padk_len] <;> omega) | decide) only [go_sem, ↓reduceIte, Nat.reduceEqDiff, reduceCtorEq, Nat.reduceLT, Nat.reduceBEq, Nat.reduceAdd, h66, h65, hy]; exact hZ) : p := e
theorem F_fc64 {p : Prop} (e : p := by simp -implicitDefEqProofs (disch := first | omega | (simp only [go_sem, lA, lD, lT, sha_len, padk_len] <;> omega) | decide) only [go_sem, ↓reduceIte, Nat.reduceEqDiff, reduceCtorEq]; all_goals (rw [List.take_of_length_le (by omega)])) : p := e
theorem fc64 {gl : Nat → C} {M : Nat} {pu : Nat → List C → Option C}  (hcx : CxOK (cxP gl M pu))  (h66 : ∀ b : List UInt8, b.length < 35184372088832 → pu 66 [sl bC .no b] = some (.agg (cl bC (sha b)))) (h65 : ∀ h : List UInt8, h.length = 32 → pu 65 [.agg (cl bC h)] = some (.val (str h))) (key : List UInt8) (x : UInt8) (hk : key.length < 35184372088832) : FC Tryd.prog gl 64 [.val (str key), .val (w8 x)] [] (sl bC (.own 1) (padk (keyOf key) x)) [] := by
 replace hcx := hcx.reN (M := 35)
 refine FC.ofA (cx := cxP gl 35 pu) (rs := [.tmp 4]) rfl Tryd.func64 rfl rfl rfl (by simp only [List.length_cons, List.length_nil]; decide) (by simp only [go_sem]) ?_
 simp only [ini, go_sem]
 have hy := True.intro
 have hk64 := keyOf_len key
 have hpl := padk_len (keyOf key) x
 refine Tr.w hcx [] _ [] rfl rfl rfl ?_ X_fc64
 refine Tr.w hcx [1000009] _ [] rfl rfl rfl ?_ X_fc64
 refine Tr.seqJ (α := Unit) (fun a => [(1, ?v1_1), (5, .val (str (keyOf key)))]) (fun a => []) (fun a => True) ?ja_1 ?jb_1
 case ja_1 =>
  refine Tr.w hcx [] _ [] rfl rfl rfl ?_ X_fc64
  refine Tr.cD rfl (fun hc12 => ?_) (fun hc12 => ?_)
  ·
   refine Tr.v hcx [1000016] _ [] rfl rfl rfl ?_ X_fc64
   refine ⟨(), tI, ?_, rfl⟩
   (simp only [Le_nil, Le_cons, ↓A_cons, ↓reduceIte, Nat.reduceEqDiff, CLe_refl, CLe_top, CLe_full, CLe_nil, CLe_own, and_true, true_and]; all_goals (repeat' first | exact CLe.refl _ | exact True.intro | (refine CLe_sln ?_; first | rfl | (simp only [List.take_zero]; done)) | exact CLe_nI (by omega) | exact CLe_int (by omega) | exact CLe_inI (by omega) | exact CLe_nIi (by omega) | with_reducible apply And.intro))
   all_goals (refine CLe_str ?_; unfold keyOf; first | rw [if_pos hc12] | rw [if_neg hc12])
  refine Tr.skip ?_
  refine ⟨(), tI, ?_, rfl⟩
  (simp only [Le_nil, Le_cons, ↓A_cons, ↓reduceIte, Nat.reduceEqDiff, CLe_refl, CLe_top, CLe_full, CLe_nil, CLe_own, and_true, true_and]; all_goals (repeat' first | exact CLe.refl _ | exact True.intro | (refine CLe_sln ?_; first | rfl | (simp only [List.take_zero]; done)) | exact CLe_nI (by omega) | exact CLe_int (by omega) | exact CLe_inI (by omega) | exact CLe_nIi (by omega) | with_reducible apply And.intro))
  all_goals (refine CLe_str ?_; unfold keyOf; first | rw [if_pos hc12] | rw [if_neg hc12])
 rintro a ha
 refine Tr.w hcx [] _ [] rfl rfl rfl ?_ X_fc64
 refine Tr.seqK fun K1 hK1 => ?_
 refine Tr.w hcx [] _ [] rfl rfl rfl ?_ X_fc64
 refine Tr.k [1, 5, 6, 7] ?_
 refine Tr.blk ?_
 refine Tr.loopI (α := Nat) (fun a => [(1, ?v1_2), (5, ?v5_2), (6, sl bC (.own 1) ((padk (keyOf key) x).take a)), (7, .val (nI a))]) (fun a => ?h_2) (fun a => a ≤ 64) (fun a => 64 - a) (0) ?_ ?le_2 ?hh_2 ?bd_2
 case hh_2 => exact rfl
 case le_2 => exact LT
 · omega
 rintro i hi
 refine Tr.seqK fun K2 hK2 => ?_
 refine Tr.w hcx [] _ [] rfl rfl rfl ?_ X_fc64
 refine Tr.cD rfl (fun hc18 => ?_) (fun hc18 => ?_)
 ·
  refine Tr.skip ?_
  refine hK2 _ ?_
  refine Tr.seqK fun K3 hK3 => ?_
  refine Tr.blk ?_
  refine Tr.w hcx [] _ [] rfl rfl rfl ?_ X_fc64
  refine Tr.seqK fun K4 hK4 => ?_
  refine Tr.w hcx [] _ [] rfl rfl rfl ?_ X_fc64
  refine Tr.cD rfl (fun hc24 => ?_) (fun hc24 => ?_)
  ·
   refine Tr.v hcx [1000027] _ [] rfl rfl rfl ?_ X_fc64
   refine hK4 _ ?_
   refine Tr.v hcx [28, 1000033] _ [] rfl rfl rfl ?_ X_fc64
   refine hK3 _ ?_
   refine Tr.v hcx [1000020] _ [] rfl rfl rfl ?_ X_fc64
   refine ⟨i + 1, ⟨by omega, O1⟩, ?_, rfl⟩
   (simp only [Le_nil, Le_cons, ↓A_cons, ↓reduceIte, Nat.reduceEqDiff, CLe_refl, CLe_top, CLe_full, CLe_nil, CLe_own, and_true, true_and]; all_goals (repeat' first | exact CLe.refl _ | exact True.intro | (refine CLe_sln ?_; first | rfl | (simp only [List.take_zero]; done)) | exact CLe_nI (by omega) | exact CLe_int (by omega) | exact CLe_inI (by omega) | exact CLe_nIi (by omega) | with_reducible apply And.intro))
   all_goals (refine CLe_sl ?_; rw [take_snoc _ i (by omega), padk_gt _ _ _ hk64 (by omega)]; first | rw [if_pos hc24] | rw [if_neg hc24]; try rfl)
  refine Tr.skip ?_
  refine hK4 _ ?_
  refine Tr.v hcx [28, 1000033] _ [] rfl rfl rfl ?_ X_fc64
  refine hK3 _ ?_
  refine Tr.v hcx [1000020] _ [] rfl rfl rfl ?_ X_fc64
  refine ⟨i + 1, ⟨by omega, O1⟩, ?_, rfl⟩
  (simp only [Le_nil, Le_cons, ↓A_cons, ↓reduceIte, Nat.reduceEqDiff, CLe_refl, CLe_top, CLe_full, CLe_nil, CLe_own, and_true, true_and]; all_goals (repeat' first | exact CLe.refl _ | exact True.intro | (refine CLe_sln ?_; first | rfl | (simp only [List.take_zero]; done)) | exact CLe_nI (by omega) | exact CLe_int (by omega) | exact CLe_inI (by omega) | exact CLe_nIi (by omega) | with_reducible apply And.intro))
  all_goals (refine CLe_sl ?_; rw [take_snoc _ i (by omega), padk_gt _ _ _ hk64 (by omega)]; first | rw [if_pos hc24] | rw [if_neg hc24]; try rfl)
 obtain rfl : i = 64 := by omega
 refine Tr.exit ?_
 refine hK1 _ ?_
 refine Tr.w hcx [1000034] _ [] rfl rfl rfl ?_ X_fc64
 exact Tr.ret F_fc64
theorem X_fc51 {p : Prop} (e : p := by intro KZ hZ; simp -implicitDefEqProofs (disch := first | omega | (simp only [go_sem, lA, lD, lT, sha_len, padk_len] <;> omega) | decide) only [go_sem, ↓reduceIte, Nat.reduceEqDiff, reduceCtorEq, Nat.reduceLT, Nat.reduceBEq, Nat.reduceAdd, h66, h65, h64, hy]; exact hZ) : p := e
theorem F_fc51 {p : Prop} (e : p := by simp -implicitDefEqProofs (disch := first | omega | (simp only [go_sem, lA, lD, lT, sha_len, padk_len] <;> omega) | decide) only [go_sem, ↓reduceIte, Nat.reduceEqDiff, reduceCtorEq]; all_goals (rfl)) : p := e
theorem fc51 {gl : Nat → C} {M : Nat} {pu : Nat → List C → Option C}  (hcx : CxOK (cxP gl M pu))  (h64 : ∀ (key : List UInt8) (x : UInt8), key.length < 35184372088832 → pu 64 [.val (str key), .val (w8 x)] = some (sl bC (.own 1) (padk (keyOf key) x))) (h66 : ∀ b : List UInt8, b.length < 35184372088832 → pu 66 [sl bC .no b] = some (.agg (cl bC (sha b)))) (h65 : ∀ h : List UInt8, h.length = 32 → pu 65 [.agg (cl bC h)] = some (.val (str h))) (key t : List UInt8) (hk : key.length < 1099511627776) (ht : t.length < 1099511627776) : FC Tryd.prog gl 51 [.val (str key), .val (str t)] [] (.val (str (hmac key t))) [] := by
 replace hcx := hcx.reN (M := 22)
 refine FC.ofA (cx := cxP gl 22 pu) (rs := [.tmp 4]) rfl Tryd.func51 rfl rfl rfl (by simp only [List.length_cons, List.length_nil]; decide) (by simp only [go_sem]) ?_
 simp only [ini, go_sem]
 have hy := True.intro
 refine Tr.w hcx [] _ [] rfl rfl rfl ?_ X_fc51
 refine Tr.w hcx [1000008] _ [] rfl rfl rfl ?_ X_fc51
 refine Tr.w hcx [9, 1000011] _ [] rfl rfl rfl ?_ X_fc51
 refine Tr.w hcx [1000013] _ [] rfl rfl rfl ?_ X_fc51
 refine Tr.w hcx [14, 1000018] _ [] rfl rfl rfl ?_ X_fc51
 refine Tr.w hcx [1000021] _ [] rfl rfl rfl ?_ X_fc51
 exact Tr.ret F_fc51
theorem X_fc56 {p : Prop} (e : p := by intro KZ hZ; simp -implicitDefEqProofs (disch := first | omega | (simp only [go_sem, lA, lD, lT, hl32, hl16] <;> omega) | decide) only [go_sem, ↓reduceIte, Nat.reduceEqDiff, reduceCtorEq, Nat.reduceLT, Nat.reduceBEq, Nat.reduceAdd, h66, cl_nil, hy]; exact hZ) : p := e
theorem F_fc56 {p : Prop} (e : p := by simp -implicitDefEqProofs (disch := first | omega | (simp only [go_sem, lA, lD, lT, hl32, hl16] <;> omega) | decide) only [go_sem, ↓reduceIte, Nat.reduceEqDiff, reduceCtorEq]; all_goals (simp)) : p := e
theorem fc56 {gl : Nat → C} {M : Nat} {pu : Nat → List C → Option C}  (hcx : CxOK (cxP gl M pu))  (h66 : ∀ b : List UInt8, b.length < 35184372088832 → pu 66 [sl bC .no b] = some (.agg (cl bC (sha b)))) (b : List UInt8) (hb : b.length < 35184372088832) : FC Tryd.prog gl 56 [sl bC .no b] [] (.agg (cl bC ((sha b).take 16))) [] := by
 replace hcx := hcx.reN (M := 19)
 refine FC.ofA (cx := cxP gl 19 pu) (rs := [.cell 2 23]) rfl Tryd.func56 rfl rfl rfl (by simp only [List.length_cons, List.length_nil]; decide) (by simp only [go_sem]) ?_
 simp only [ini, go_sem]
 have hy := True.intro
 have hl32 := sha_len b
 have hl16 : ((sha b).take 16).length = 16 := by simp [hl32]
 refine Tr.w hcx [] _ [none] rfl rfl rfl ?_ X_fc56
 refine Tr.w hcx [] _ [none] rfl rfl rfl ?_ X_fc56
 refine Tr.w hcx [] _ [none] rfl rfl rfl ?_ X_fc56
 refine Tr.seqK fun K1 hK1 => ?_
 refine Tr.w hcx [] _ [] rfl rfl rfl ?_ X_fc56
 refine Tr.k [2, 3, 4, 5] ?_
 refine Tr.blk ?_
 refine Tr.loopI (α := Nat) (fun a => [(2, ?v2_1), (3, ?v3_1), (4, ?v4_1), (5, .val (nI a))]) (fun a => [some (cl bC (List.replicate 16 0)), some (cl bC (sha b)), some (cl bC ((sha b).take a ++ List.replicate (16 - a) 0))]) (fun a => a ≤ 16) (fun a => 16 - a) (0) ?_ ?le_1 ?hh_1 ?bd_1
 case hh_1 => exact rfl
 case le_1 => exact LT
 · omega
 rintro i hi
 refine Tr.seqK fun K2 hK2 => ?_
 refine Tr.w hcx [] _ [] rfl rfl rfl ?_ X_fc56
 refine Tr.cD rfl (fun hc10 => ?_) (fun hc10 => ?_)
 ·
  refine Tr.skip ?_
  refine hK2 _ ?_
  refine Tr.seqK fun K3 hK3 => ?_
  refine Tr.blk ?_
  refine Tr.v hcx [] _ [] rfl rfl rfl ?_ X_fc56
  refine hK3 _ ?_
  refine Tr.v hcx [1000012] _ [] rfl rfl rfl ?_ X_fc56
  exact ⟨i + 1, ⟨by omega, O1⟩, LT, by dsimp only; rw [set_rep _ _ _ _ _ (by rw [List.length_take]; omega) hc10, take_rep _ _ _ _ (by omega)] <;> rfl⟩
 obtain rfl : i = 16 := by omega
 refine Tr.exit ?_
 refine hK1 _ ?_
 refine Tr.w hcx [] _ [] rfl rfl rfl ?_ X_fc56
 exact Tr.ret F_fc56
theorem X_fc57 {p : Prop} (e : p := by intro KZ hZ; simp -implicitDefEqProofs (disch := first | omega | (simp only [go_sem, lA, lD, lT, hlp1, hlp2] <;> omega) | decide) only [go_sem, ↓reduceIte, Nat.reduceEqDiff, reduceCtorEq, Nat.reduceLT, Nat.reduceBEq, Nat.reduceAdd, h68, hy]; exact hZ) : p := e
theorem F_fc57 {p : Prop} (e : p := by simp -implicitDefEqProofs (disch := first | omega | (simp only [go_sem, lA, lD, lT, hlp1, hlp2] <;> omega) | decide) only [go_sem, ↓reduceIte, Nat.reduceEqDiff, reduceCtorEq]; all_goals (rw [List.take_length])) : p := e
theorem fc57 {gl : Nat → C} {M : Nat} {pu : Nat → List C → Option C}  (hcx : CxOK (cxP gl M pu))  (h68 : ∀ s : List UInt8, s.length < 70368744177664 → pu 68 [.val (str s)] = some (sl bC (.own 1) (wb s))) (tag : Int) (parts : List (List UInt8)) (hl : (inp tag parts).length < 1099511627776) : FC Tryd.prog gl 57 [.val (.int .i64 tag), sl sC .no parts] [] (sl bC (.own 1) (inp tag parts)) [] := by
 replace hcx := hcx.reN (M := 24)
 refine FC.ofA (cx := cxP gl 24 pu) (rs := [.tmp 4]) rfl Tryd.func57 rfl rfl rfl (by simp only [List.length_cons, List.length_nil]; decide) (by simp only [go_sem]) ?_
 simp only [ini, go_sem]
 have hy := True.intro
 have hlp := parts_bound tag parts hl
 have hlp1 := hl
 have hpl := parts_len tag parts hl
 have hlp2 := True.intro
 refine Tr.w hcx [] _ [] rfl rfl rfl ?_ X_fc57
 refine Tr.w hcx [1000009] _ [] rfl rfl rfl ?_ X_fc57
 refine Tr.seqK fun K1 hK1 => ?_
 refine Tr.w hcx [] _ [] rfl rfl rfl ?_ X_fc57
 refine Tr.k [1, 5, 6] ?_
 refine Tr.blk ?_
 refine Tr.loopI (α := Nat) (fun a => [(1, ?v1_1), (5, sl bC (.own 1) (inp tag (parts.take a))), (6, .val (nI a))]) (fun a => ?h_1) (fun a => a ≤ parts.length) (fun a => parts.length - a) (0) ?_ ?le_1 ?hh_1 ?bd_1
 case hh_1 => exact rfl
 case le_1 => (simp only [Le_nil, Le_cons, ↓A_cons, ↓reduceIte, Nat.reduceEqDiff, CLe_refl, CLe_top, CLe_full, CLe_nil, CLe_own, and_true, true_and]; all_goals (repeat' first | exact CLe.refl _ | exact True.intro | (refine CLe_sln ?_; first | rfl | (simp only [List.take_zero]; done)) | exact CLe_nI (by omega) | exact CLe_int (by omega) | exact CLe_inI (by omega) | exact CLe_nIi (by omega) | with_reducible apply And.intro)); all_goals (exact CLe_slf (by simp [inp]))
 · omega
 rintro i hi
 refine Tr.seqK fun K2 hK2 => ?_
 refine Tr.w hcx [] _ [] rfl rfl rfl ?_ X_fc57
 refine Tr.cD rfl (fun hc13 => ?_) (fun hc13 => ?_)
 ·
  obtain ⟨hlp1, hlp2⟩ := hlp i hc13
  refine Tr.skip ?_
  refine hK2 _ ?_
  refine Tr.seqK fun K3 hK3 => ?_
  refine Tr.blk ?_
  refine Tr.v hcx [16, 1000022] _ [] rfl rfl rfl ?_ X_fc57
  refine hK3 _ ?_
  refine Tr.v hcx [1000015] _ [] rfl rfl rfl ?_ X_fc57
  refine ⟨i + 1, ⟨by omega, O1⟩, ?_, rfl⟩
  (simp only [Le_nil, Le_cons, ↓A_cons, ↓reduceIte, Nat.reduceEqDiff, CLe_refl, CLe_top, CLe_full, CLe_nil, CLe_own, and_true, true_and]; all_goals (repeat' first | exact CLe.refl _ | exact True.intro | (refine CLe_sln ?_; first | rfl | (simp only [List.take_zero]; done)) | exact CLe_nI (by omega) | exact CLe_int (by omega) | exact CLe_inI (by omega) | exact CLe_nIi (by omega) | with_reducible apply And.intro))
  all_goals (refine CLe_sl ?_; rw [inp_take tag parts i hc13])
 obtain rfl : i = parts.length := by omega
 refine Tr.exit ?_
 refine hK1 _ ?_
 refine Tr.w hcx [1000023] _ [] rfl rfl rfl ?_ X_fc57
 exact Tr.ret F_fc57
theorem X_fc35 {p : Prop} (e : p := by intro KZ hZ; simp -implicitDefEqProofs (disch := first | omega | (simp only [go_sem, lA, lD, lT, sha_len] <;> omega) | decide) only [go_sem, ↓reduceIte, Nat.reduceEqDiff, reduceCtorEq, Nat.reduceLT, Nat.reduceBEq, Nat.reduceAdd, h57, h56, hy]; exact hZ) : p := e
theorem F_fc35 {p : Prop} (e : p := by simp -implicitDefEqProofs (disch := first | omega | (simp only [go_sem, lA, lD, lT, sha_len] <;> omega) | decide) only [go_sem, ↓reduceIte, Nat.reduceEqDiff, reduceCtorEq]; all_goals (rfl)) : p := e
theorem fc35 {gl : Nat → C} {M : Nat} {pu : Nat → List C → Option C}  (hcx : CxOK (cxP gl M pu))  (h57 : ∀ (tag : Int) (parts : List (List UInt8)), (inp tag parts).length < 1099511627776 → pu 57 [.val (.int .i64 tag), sl sC .no parts] = some (sl bC (.own 1) (inp tag parts))) (h56 : ∀ b : List UInt8, b.length < 35184372088832 → pu 56 [sl bC .no b] = some (.agg (cl bC ((sha b).take 16)))) (tag : Int) (parts : List (List UInt8)) (hl : (inp tag parts).length < 1099511627776) : FC Tryd.prog gl 35 [.val (.int .i64 tag), sl sC .no parts] [] (.agg (cl bC ((sha (inp tag parts)).take 16))) [] := by
 replace hcx := hcx.reN (M := 9)
 refine FC.ofA (cx := cxP gl 9 pu) (rs := [.cell 4 23]) rfl Tryd.func35 rfl rfl rfl (by simp only [List.length_cons, List.length_nil]; decide) (by simp only [go_sem]) ?_
 simp only [ini, go_sem]
 have hy := True.intro
 refine Tr.w hcx [] _ [none] rfl rfl rfl ?_ X_fc35
 refine Tr.w hcx [] _ [] rfl rfl rfl ?_ X_fc35
 exact Tr.ret F_fc35
end Go.Sx
namespace Go.Sx
open Go.RowKit Go.Proofs
theorem hmac_len (key t : List UInt8) : (hmac key t).length = 32 := sha_len _
end Go.Sx
namespace Go.Sx
open Go.RowKit Go.Proofs
theorem gt_mem {α : Type} [Inhabited α] (l : List α) (i : Nat) (h : i < l.length) : gt l i ∈ l := by
  simp [gt, List.getD, List.getElem?_eq_getElem h]
def wInts (l : List Int) : List UInt8 := wint l.length ++ l.flatMap wint
theorem wint_len (n : Int) (h : -9223372036854775808 ≤ n ∧ n ≤ 9223372036854775807) : (wint n).length ≤ 9 := by
  unfold wint
  split
  · have := le_len 8 n.toNat (by omega)
    simp; omega
  · have := le_len 8 (-1 - n).toNat (by omega)
    simp; omega
theorem wintn_len (n : Nat) (h : n < 18446744073709551616) : (wint (n : Int)).length ≤ 9 := by
  unfold wint
  rw [if_pos (by omega)]
  have := le_len 8 n (by simpa using h)
  simp; omega
theorem fm_snoc {α β : Type} [Inhabited α] (f : α → List β) (l : List α) (i : Nat) (h : i < l.length) : (l.take i).flatMap f ++ f (gt l i) = (l.take (i + 1)).flatMap f := by
  rw [take_snoc l i h]; simp
theorem ints_le (l : List Int) (hr : ∀ x ∈ l, -9223372036854775808 ≤ x ∧ x ≤ 9223372036854775807) : ∀ i ≤ l.length, ((l.take i).flatMap wint).length ≤ 9 * i
  | 0, _ => by simp
  | i + 1, h => by
    rw [← fm_snoc wint l i (by omega), List.length_append]
    have := ints_le l hr i (by omega)
    have := wint_len (gt l i) (hr _ (gt_mem l i (by omega)))
    omega
theorem dec_len {α : Type} [DecidableEq α] {x y : List α} (h : ¬ x.length = y.length) : decide (x = y) = false := by
  rw [decide_eq_false_iff_not]; rintro rfl; exact h rfl
theorem dec_ne {α : Type} [Inhabited α] [DecidableEq α] {x y : List α} {i : Nat} (h : ¬ gt x i = gt y i) : decide (x = y) = false := by
  rw [decide_eq_false_iff_not]; rintro rfl; exact h rfl
theorem dec_eq {α : Type} [DecidableEq α] {x y : List α} {i : Nat} (hi : ¬ i < x.length) (hl : x.length = y.length) (h : x.take i = y.take i) : decide (x = y) = true := by
  rw [decide_eq_true_iff, ← List.take_of_length_le (show x.length ≤ i by omega), h, List.take_of_length_le (by omega)]
theorem take_next2 {α : Type} [Inhabited α] {x y : List α} {i : Nat} (hi : i < x.length) (hl : x.length = y.length) (h : x.take i = y.take i) (he : gt x i = gt y i) : x.take (i + 1) = y.take (i + 1) := by
  rw [take_snoc x i hi, take_snoc y i (by omega), h, he]
/-! Decoding. -/
def flipOf (x : UInt8) : UInt8 := if x < 128 then 255 else 0
def kOf (x : UInt8) : Nat := (x ^^^ flipOf x).toNat - 128
def accF (f : UInt8) (l : List UInt8) : Nat := l.foldl (fun m c => m * 256 + (c ^^^ f).toNat) 0
theorem accF_snoc (f : UInt8) (l : List UInt8) (c : UInt8) : accF f (l ++ [c]) = accF f l * 256 + (c ^^^ f).toNat := by simp [accF]
theorem accF_lt (f : UInt8) (l : List UInt8) : accF f l < 256 ^ l.length := by
  have key : ∀ n (l : List UInt8), l.length = n → accF f l < 256 ^ n := by
    intro n
    induction n with
    | zero => intro l hl; rw [List.length_eq_zero_iff.1 hl]; simp [accF]
    | succ n ih =>
      intro l hl
      have hne : l ≠ [] := by rintro rfl; simp at hl
      rw [← List.dropLast_concat_getLast hne, accF_snoc]
      have h1 := ih l.dropLast (by simp [hl])
      have h2 := (l.getLast hne ^^^ f).toNat_lt
      rw [Nat.pow_succ]; omega
  exact key _ l rfl
theorem flip_ge (x : UInt8) : 128 ≤ (x ^^^ flipOf x).toNat := by
  unfold flipOf
  split
  · rename_i h
    rw [xor255, UInt8.toNat_sub_of_le _ _ (by rw [UInt8.le_iff_toNat_le]; have := x.toNat_lt; show _ ≤ 255; omega)]
    rw [UInt8.lt_iff_toNat_lt] at h
    have h' : x.toNat < 128 := h
    show 128 ≤ 255 - x.toNat
    omega
  · rename_i h
    rw [UInt8.lt_iff_toNat_lt] at h
    have h' : ¬ x.toNat < 128 := h
    simp; omega
def getI (b : List UInt8) : Int × Nat × Nat := match b with
  | [] => (0, 0, 3)
  | x :: r =>
    if 8 < kOf x then (0, 0, 2) else
    if (x :: r).length ≤ kOf x then (0, 0, 3) else
    if 0 < kOf x ∧ gt (x :: r) 1 ^^^ flipOf x = 0 then (0, 0, 2) else
    if 9223372036854775808 ≤ accF (flipOf x) (r.take (kOf x)) then (0, 0, 2) else
    (if x < 128 then -1 - (accF (flipOf x) (r.take (kOf x)) : Int) else (accF (flipOf x) (r.take (kOf x)) : Int), kOf x + 1, 0)
section
variable {x : UInt8} {r : List UInt8} {k : Nat} (hk : kOf x = k)
include hk
theorem getI_1 (h : 8 < k) : getI (x :: r) = (0, 0, 2) := by subst hk; simp only [getI]; rw [if_pos h]
theorem getI_2 (h : ¬ 8 < k) (h2 : (x :: r).length ≤ k) : getI (x :: r) = (0, 0, 3) := by subst hk; simp only [getI]; rw [if_neg h, if_pos h2]
theorem getI_3 (h : ¬ 8 < k) (h2 : ¬ (x :: r).length ≤ k) (h3 : 0 < k) (h4 : gt (x :: r) 1 ^^^ flipOf x = 0) : getI (x :: r) = (0, 0, 2) := by
  subst hk; simp only [getI]; rw [if_neg h, if_neg h2, if_pos ⟨h3, h4⟩]
theorem getI_4 (h : ¬ 8 < k) (h2 : ¬ (x :: r).length ≤ k) (h3 : ¬ (0 < k ∧ gt (x :: r) 1 ^^^ flipOf x = 0)) (h4 : 9223372036854775808 ≤ accF (flipOf x) (r.take k)) : getI (x :: r) = (0, 0, 2) := by
  subst hk; simp only [getI]; rw [if_neg h, if_neg h2, if_neg h3, if_pos h4]
theorem getI_5 (h : ¬ 8 < k) (h2 : ¬ (x :: r).length ≤ k) (h3 : ¬ (0 < k ∧ gt (x :: r) 1 ^^^ flipOf x = 0)) (h4 : ¬ 9223372036854775808 ≤ accF (flipOf x) (r.take k)) (h5 : x < 128) : getI (x :: r) = (-1 - (accF (flipOf x) (r.take k) : Int), k + 1, 0) := by
  subst hk; simp only [getI]; rw [if_neg h, if_neg h2, if_neg h3, if_neg h4, if_pos h5]
theorem getI_6 (h : ¬ 8 < k) (h2 : ¬ (x :: r).length ≤ k) (h3 : ¬ (0 < k ∧ gt (x :: r) 1 ^^^ flipOf x = 0)) (h4 : ¬ 9223372036854775808 ≤ accF (flipOf x) (r.take k)) (h5 : ¬ x < 128) : getI (x :: r) = ((accF (flipOf x) (r.take k) : Int), k + 1, 0) := by
  subst hk; simp only [getI]; rw [if_neg h, if_neg h2, if_neg h3, if_neg h4, if_neg h5]
end
theorem flip_pos (x : UInt8) : (UInt8.ofNat 0 < flipOf x) = (x < 128) := by
  unfold flipOf
  split
  · rename_i h; simp [h]
  · rename_i h
    simp only [h, eq_iff_iff, iff_false]; decide
theorem big63 (m : Nat) (h : m < 18446744073709551616) : (0 < m >>> 63) = (9223372036854775808 ≤ m) := by
  rw [Nat.shiftRight_eq_div_pow]
  apply propext
  constructor
  · intro h2
    have := (Nat.div_pos_iff.1 h2).2
    simpa using this
  · intro h2
    exact Nat.div_pos (by simpa using h2) (by decide)
theorem acc_next (f : UInt8) (l : List UInt8) (a : Nat) (h : a < l.length) (h8 : a < 8) : (accF f (l.take a) * 2 ^ 8 % 18446744073709551616 ||| (gt l a ^^^ f).toNat) = accF f (l.take (a + 1)) := by
  rw [take_snoc l a h, accF_snoc]
  have h1 := accF_lt f (l.take a)
  rw [List.length_take, Nat.min_eq_left (by omega)] at h1
  have h2 : 256 ^ a ≤ 256 ^ 7 := Nat.pow_le_pow_right (by decide) (by omega)
  have h3 := (gt l a ^^^ f).toNat_lt
  have h4 : (256 : Nat) ^ 7 = 72057594037927936 := by decide
  rw [Nat.mod_eq_of_lt (by omega)]
  have := Nat.two_pow_add_eq_or_of_lt (i := 8) (b := (gt l a ^^^ f).toNat) (by simpa using h3) (accF f (l.take a))
  rw [Nat.mul_comm] at this
  rw [← this]
theorem kOf_cases (x : UInt8) : (x.toNat < 128 ∧ kOf x = 127 - x.toNat) ∨ (128 ≤ x.toNat ∧ kOf x = x.toNat - 128) := by
  unfold kOf flipOf
  have hx := x.toNat_lt
  split
  · rename_i h
    rw [UInt8.lt_iff_toNat_lt] at h
    have h' : x.toNat < 128 := h
    left
    refine ⟨h', ?_⟩
    rw [xor255, UInt8.toNat_sub_of_le _ _ (by rw [UInt8.le_iff_toNat_le]; show _ ≤ 255; omega)]
    show 255 - x.toNat - 128 = _
    omega
  · rename_i h
    rw [UInt8.lt_iff_toNat_lt] at h
    have h' : ¬ x.toNat < 128 := h
    right
    exact ⟨by omega, by simp⟩
theorem xflip (c x : UInt8) : (c ^^^ flipOf x).toNat = if x.toNat < 128 then 255 - c.toNat else c.toNat := by
  have e : (x < 128) = (x.toNat < 128) := by rw [UInt8.lt_iff_toNat_lt]; rfl
  unfold flipOf
  simp only [e]
  split
  · rw [xor255, UInt8.toNat_sub_of_le _ _ (by rw [UInt8.le_iff_toNat_le]; have := c.toNat_lt; show _ ≤ 255; omega)]; rfl
  · simp
theorem be_snoc (m c k : Nat) (hc : c < 256) : be (m * 256 + c) (k + 1) = be m k ++ [UInt8.ofNat c] := by
  refine ext_gt _ _ (by simp [be_len]) fun i hi => ?_
  rw [be_len] at hi
  rw [be_gt _ _ _ hi]
  rcases Nat.lt_or_ge i k with h | h
  · rw [gt_left _ _ _ (by rw [be_len]; exact h), be_gt _ _ _ h]
    congr 1
    rw [show k + 1 - 1 - i = (k - 1 - i) + 1 by omega, shr_pow, shr_pow, Nat.pow_succ, Nat.mul_comm (256 ^ (k - 1 - i)), ← Nat.div_div_eq_div_mul]
    congr 1; omega
  · have : i = k := by omega
    subst this
    rw [gt_mid _ _ _ _ (be_len _ _)]
    apply UInt8.toNat_inj.1
    simp
theorem be_acc (f : UInt8) (l : List UInt8) : be (accF f l) l.length = l.map (· ^^^ f) := by
  have key : ∀ n (l : List UInt8), l.length = n → be (accF f l) l.length = l.map (· ^^^ f) := by
    intro n
    induction n with
    | zero => intro l hl; rw [List.length_eq_zero_iff.1 hl]; rfl
    | succ n ih =>
      intro l hl
      have hne : l ≠ [] := by rintro rfl; simp at hl
      rw [← List.dropLast_concat_getLast hne, accF_snoc, List.length_append, List.length_singleton, be_snoc _ _ _ (l.getLast hne ^^^ f).toNat_lt, ih l.dropLast (by simp [hl]), List.map_append]
      simp
  exact key _ l rfl
theorem acc_ge (f : UInt8) : ∀ (l : List UInt8) (m : Nat), m * 256 ^ l.length ≤ l.foldl (fun m c => m * 256 + (c ^^^ f).toNat) m
  | [], m => by simp
  | c :: l, m => by
    refine Nat.le_trans ?_ (acc_ge f l (m * 256 + (c ^^^ f).toNat))
    rw [List.length_cons, Nat.pow_succ, Nat.mul_comm (256 ^ l.length), ← Nat.mul_assoc]
    exact Nat.mul_le_mul_right _ (by omega)
theorem acc_app (f : UInt8) (l l' : List UInt8) : accF f l * 256 ^ l'.length ≤ accF f (l ++ l') := by
  unfold accF
  rw [List.foldl_append]
  exact acc_ge f l' _
theorem xor_cancel (a b c : UInt8) : a ^^^ c = b ^^^ c ↔ a = b := by
  constructor
  · intro h
    have := congrArg (· ^^^ c) h
    simpa [UInt8.xor_assoc] using this
  · rintro rfl; rfl
/-- An encoding is read back just where it begins with no zero. -/
theorem canon {x : UInt8} {r : List UInt8} {k : Nat} (hk : kOf x = k) (h8 : k ≤ 8) (hl : k ≤ r.length) : wI (accF (flipOf x) (r.take k)) (flipOf x) = x :: r.take k ↔ ¬ (0 < k ∧ gt (x :: r) 1 ^^^ flipOf x = 0) := by
  have hkl : (r.take k).length = k := by rw [List.length_take]; omega
  have hx : x = UInt8.ofNat (128 + k) ^^^ flipOf x := by
    have hge := flip_ge x
    have hlt := (x ^^^ flipOf x).toNat_lt
    have e : UInt8.ofNat (128 + k) = x ^^^ flipOf x := by
      apply UInt8.toNat_inj.1
      unfold kOf at hk
      have e2 : (UInt8.ofNat (128 + k)).toNat = (128 + k) % 256 := rfl
      rw [e2]
      omega
    rw [e, UInt8.xor_assoc, UInt8.xor_self, UInt8.xor_zero]
  have hlt := accF_lt (flipOf x) (r.take k)
  rw [hkl] at hlt
  have hle : (le (accF (flipOf x) (r.take k))).length ≤ k := le_len k _ hlt
  unfold wI
  constructor
  · intro h
    rintro ⟨hk0, hz⟩
    have h2 : UInt8.ofNat (128 + (le (accF (flipOf x) (r.take k))).length) = UInt8.ofNat (128 + k) := by
      have h3 : UInt8.ofNat (128 + (le (accF (flipOf x) (r.take k))).length) ^^^ flipOf x = UInt8.ofNat (128 + k) ^^^ flipOf x := by
        exact (List.cons.inj h).1.trans hx
      exact (xor_cancel _ _ _).1 h3
    have h4 := congrArg UInt8.toNat h2
    simp at h4
    have h5 : (le (accF (flipOf x) (r.take k))).length = k := by omega
    -- the first digit is zero
    obtain ⟨c, r', rfl⟩ : ∃ c r', r = c :: r' := by
      cases r with
      | nil => simp at hl; omega
      | cons c r' => exact ⟨c, r', rfl⟩
    have hz' : c ^^^ flipOf x = 0 := hz
    obtain ⟨k', rfl⟩ : ∃ k', k = k' + 1 := ⟨k - 1, by omega⟩
    rw [List.take_succ_cons] at hlt h5
    have h6 : accF (flipOf x) (c :: r'.take k') = accF (flipOf x) (r'.take k') := by
      show List.foldl _ _ _ = _
      rw [List.foldl_cons, hz']; rfl
    have h7 := accF_lt (flipOf x) (r'.take k')
    have h8 : (r'.take k').length ≤ k' := by rw [List.length_take]; omega
    have h9 : (le (accF (flipOf x) (r'.take k'))).length ≤ k' := le_len k' _ (Nat.lt_of_lt_of_le h7 (Nat.pow_le_pow_right (by decide) h8))
    rw [h6] at h5
    omega
  · intro hn
    have h5 : (le (accF (flipOf x) (r.take k))).length = k := by
      refine le_len_eq k _ hlt ?_
      rcases Nat.eq_zero_or_pos k with h0 | h0
      · exact .inl h0
      · right
        obtain ⟨c, r', rfl⟩ : ∃ c r', r = c :: r' := by
          cases r with
          | nil => simp at hl; omega
          | cons c r' => exact ⟨c, r', rfl⟩
        obtain ⟨k', rfl⟩ : ∃ k', k = k' + 1 := ⟨k - 1, by omega⟩
        have hc : c ^^^ flipOf x ≠ 0 := fun h => hn ⟨h0, h⟩
        have hc' : 1 ≤ (c ^^^ flipOf x).toNat := by
          rcases Nat.eq_zero_or_pos (c ^^^ flipOf x).toNat with h | h
          · exact absurd (UInt8.toNat_inj.1 (by simpa using h)) hc
          · exact h
        rw [List.take_succ_cons]
        have h1 := acc_ge (flipOf x) (r'.take k') (0 * 256 + (c ^^^ flipOf x).toNat)
        have h2 : (r'.take k').length = k' := by rw [List.length_take]; simp at hl; omega
        rw [h2] at h1
        simp only [Nat.add_sub_cancel]
        refine Nat.le_trans ?_ h1
        rw [Nat.zero_mul, Nat.zero_add]
        exact Nat.le_mul_of_pos_left _ hc'
    rw [h5]
    rw [← hx]
    refine congrArg (List.cons x) ?_
    have h6 := be_acc (flipOf x) (r.take k)
    rw [hkl] at h6
    rw [h6, List.map_map]
    have : ((fun y => y ^^^ flipOf x) ∘ fun y => y ^^^ flipOf x) = id := by
      funext y
      show (y ^^^ flipOf x) ^^^ flipOf x = y
      rw [UInt8.xor_assoc, UInt8.xor_self, UInt8.xor_zero]
    rw [this, List.map_id]
end Go.Sx
namespace Go.Sx
theorem x128 (x : UInt8) : (x < 128) = (x.toNat < 128) := by rw [UInt8.lt_iff_toNat_lt]; rfl
theorem flip_of (x : UInt8) : (x.toNat < 128 → flipOf x = 255) ∧ (¬ x.toNat < 128 → flipOf x = 0) := by
  unfold flipOf
  have e := x128 x
  exact ⟨fun h => if_pos (e.mpr h), fun h => if_neg fun h' => h (e.mp h')⟩
section
variable {b : List UInt8} {x : UInt8} {r : List UInt8} {k : Nat} (hbe : b = x :: r) (hk : kOf x = k)
include hbe hk
theorem rg1 (h : 8 < k) : getI b = (0, 0, 2) := by subst hbe; exact getI_1 hk h
theorem rg2 (h8 : k ≤ 8) (h : b.length < k + 1) : getI b = (0, 0, 3) := by subst hbe; exact getI_2 hk (by omega) (by omega)
theorem rg3 (h8 : k ≤ 8) (hl : ¬ b.length < k + 1) (i : Nat) (hi : i + 1 ≤ k) (hc : 36028797018963967 < accF (flipOf x) ((r.take k).take i)) : getI b = (0, 0, 2) := by
  subst hbe
  by_cases h3 : 0 < k ∧ gt (x :: r) 1 ^^^ flipOf x = 0
  · exact getI_3 hk (by omega) (by omega) h3.1 h3.2
  · refine getI_4 hk (by omega) (by omega) h3 ?_
    have h1 := acc_app (flipOf x) ((r.take k).take i) ((r.take k).drop i)
    rw [List.take_append_drop] at h1
    have h2 : ((r.take k).drop i).length = k - i := by rw [List.length_drop, List.length_take]; simp at hl; omega
    rw [h2] at h1
    have h4 : 256 ^ 1 ≤ 256 ^ (k - i) := Nat.pow_le_pow_right (by decide) (by omega)
    have h5 := Nat.mul_le_mul_left (accF (flipOf x) ((r.take k).take i)) h4
    omega
theorem rtake (h8 : k ≤ 8) (hl : ¬ b.length < k + 1) (i : Nat) (hi : i + 1 ≤ k) : gt b (i + 1) = gt (r.take k) i ∧ i < (r.take k).length := by
  have _ := hk
  subst hbe
  simp at hl
  refine ⟨?_, by rw [List.length_take]; omega⟩
  rw [gt_consS]
  unfold gt
  rw [List.getD_eq_getElem?_getD, List.getD_eq_getElem?_getD, List.getElem?_take_of_lt (by omega)]
theorem raccN (h8 : k ≤ 8) (hl : ¬ b.length < k + 1) (i : Nat) (hi : i + 1 ≤ k) : 256 * accF (flipOf x) ((r.take k).take i) + (gt (r.take k) i ^^^ flipOf x).toNat = accF (flipOf x) ((r.take k).take (i + 1)) := by
  rw [take_snoc _ _ (rtake hbe hk h8 hl i hi).2, accF_snoc]
  omega
theorem rwi (h8 : k ≤ 8) (hl : ¬ b.length < k + 1) : (if x.toNat < 128 then wint (-1 - (accF (flipOf x) (r.take k) : Int)) else wint (accF (flipOf x) (r.take k))) = wI (accF (flipOf x) (r.take k)) (flipOf x) := by
  have _ := hbe
  have hle : (le (accF (flipOf x) (r.take k))).length ≤ 8 := by
    refine le_len 8 _ (Nat.lt_of_lt_of_le (accF_lt _ _) (Nat.pow_le_pow_right (by decide) ?_))
    rw [List.length_take]; omega
  split
  · rename_i h; rw [wint_neg _ hle, (flip_of x).1 h]
  · rename_i h; rw [wint_pos, (flip_of x).2 h]
theorem rcan (h8 : k ≤ 8) (hl : ¬ b.length < k + 1) : ((if x.toNat < 128 then wint (-1 - (accF (flipOf x) (r.take k) : Int)) else wint (accF (flipOf x) (r.take k))) = b.take (k + 1)) ↔ ¬ (0 < k ∧ gt (x :: r) 1 ^^^ flipOf x = 0) := by
  rw [rwi hbe hk h8 hl, ← canon hk h8 (by subst hbe; simp at hl; omega)]
  subst hbe
  rw [List.take_succ_cons]
theorem rg4n (h8 : k ≤ 8) (hl : ¬ b.length < k + 1) (h128 : x.toNat < 128) (hc : wint (-1 - (accF (flipOf x) (r.take k) : Int)) ≠ b.take (k + 1)) : getI b = (0, 0, 2) := by
  have h := rcan hbe hk h8 hl
  rw [if_pos h128] at h
  have h3 := Classical.not_not.1 (mt h.2 hc)
  subst hbe
  exact getI_3 hk (by omega) (by omega) h3.1 h3.2
theorem rg4p (h8 : k ≤ 8) (hl : ¬ b.length < k + 1) (h128 : ¬ x.toNat < 128) (hc : wint (accF (flipOf x) (r.take k)) ≠ b.take (k + 1)) : getI b = (0, 0, 2) := by
  have h := rcan hbe hk h8 hl
  rw [if_neg h128] at h
  have h3 := Classical.not_not.1 (mt h.2 hc)
  subst hbe
  exact getI_3 hk (by omega) (by omega) h3.1 h3.2
theorem rg5 (h8 : k ≤ 8) (hl : ¬ b.length < k + 1) (h128 : x.toNat < 128) (hm : accF (flipOf x) (r.take k) < 9223372036854775808) (hc : wint (-1 - (accF (flipOf x) (r.take k) : Int)) = b.take (k + 1)) : getI b = (-1 - (accF (flipOf x) (r.take k) : Int), k + 1, 0) := by
  have h := rcan hbe hk h8 hl
  rw [if_pos h128] at h
  have h3 := h.1 hc
  have hx := x128 x
  subst hbe
  exact getI_5 hk (by omega) (by omega) h3 (by omega) (by rw [hx]; exact h128)
theorem rg6 (h8 : k ≤ 8) (hl : ¬ b.length < k + 1) (h128 : ¬ x.toNat < 128) (hm : accF (flipOf x) (r.take k) < 9223372036854775808) (hc : wint (accF (flipOf x) (r.take k)) = b.take (k + 1)) : getI b = ((accF (flipOf x) (r.take k) : Int), k + 1, 0) := by
  have h := rcan hbe hk h8 hl
  rw [if_neg h128] at h
  have h3 := h.1 hc
  have hx := x128 x
  subst hbe
  exact getI_6 hk (by omega) (by omega) h3 (by omega) (by rw [hx]; exact h128)
end
end Go.Sx
namespace Go.Sx
theorem getI_spec (b : List UInt8) : getI b = (0, 0, 2) ∨ getI b = (0, 0, 3) ∨ ((getI b).2.2 = 0 ∧ 1 ≤ (getI b).2.1 ∧ (getI b).2.1 ≤ 9 ∧ (getI b).2.1 ≤ b.length ∧ -9223372036854775808 ≤ (getI b).1 ∧ (getI b).1 ≤ 9223372036854775807) := by
  rcases b with _ | ⟨x, r⟩
  · exact .inr (.inl rfl)
  · obtain ⟨k, hk⟩ : ∃ k, kOf x = k := ⟨_, rfl⟩
    by_cases h1 : 8 < k
    · exact .inl (getI_1 hk h1)
    by_cases h2 : (x :: r).length ≤ k
    · exact .inr (.inl (getI_2 hk h1 h2))
    by_cases h3 : 0 < k ∧ gt (x :: r) 1 ^^^ flipOf x = 0
    · exact .inl (getI_3 hk h1 h2 h3.1 h3.2)
    by_cases h4 : 9223372036854775808 ≤ accF (flipOf x) (r.take k)
    · exact .inl (getI_4 hk h1 h2 h3 h4)
    · right; right
      by_cases h5 : x < 128
      · rw [getI_5 hk h1 h2 h3 h4 h5]; exact ⟨rfl, Nat.le_add_left 1 k, by show k + 1 ≤ 9; omega, by show k + 1 ≤ (x :: r).length; omega, by show _ ≤ (-1 - (accF (flipOf x) (r.take k) : Int)); omega, by show (-1 - (accF (flipOf x) (r.take k) : Int)) ≤ _; omega⟩
      · rw [getI_6 hk h1 h2 h3 h4 h5]; exact ⟨rfl, Nat.le_add_left 1 k, by show k + 1 ≤ 9; omega, by show k + 1 ≤ (x :: r).length; omega, by show _ ≤ ((accF (flipOf x) (r.take k) : Int)); omega, by show ((accF (flipOf x) (r.take k) : Int)) ≤ _; omega⟩
theorem getI_bd (b : List UInt8) : (getI b).2.1 ≤ b.length ∧ (getI b).2.1 ≤ 9 ∧ (getI b).2.2 ≤ 3 ∧ -9223372036854775808 ≤ (getI b).1 ∧ (getI b).1 ≤ 9223372036854775807 := by
  rcases getI_spec b with e | e | e
  · rw [e]; exact ⟨Nat.zero_le _, by decide, by decide, by decide, by decide⟩
  · rw [e]; exact ⟨Nat.zero_le _, by decide, by decide, by decide, by decide⟩
  · exact ⟨e.2.2.2.1, e.2.2.1, by omega, e.2.2.2.2⟩
def ca (b : List UInt8) : Nat := (getI b).2.1
end Go.Sx
namespace Go.Sx
end Go.Sx
namespace Go.Sx
end Go.Sx
namespace Go.Sx
open Go.RowKit Go.Proofs
set_option maxRecDepth 100000
set_option maxHeartbeats 8000000
theorem X_fc60 {p : Prop} (e : p := by intro KZ hZ; simp -implicitDefEqProofs (disch := first | omega | (simp only [go_sem, lA, lD, lT, hb1] <;> omega) | decide) only [go_sem, ↓reduceIte, Nat.reduceEqDiff, reduceCtorEq, Nat.reduceLT, Nat.reduceBEq, Nat.reduceAdd, h26, h26n, hy]; exact hZ) : p := e
theorem F_fc60 {p : Prop} (e : p := by simp -implicitDefEqProofs (disch := first | omega | (simp only [go_sem, lA, lD, lT, hb1] <;> omega) | decide) only [go_sem, ↓reduceIte, Nat.reduceEqDiff, reduceCtorEq]; all_goals (rw [List.take_length]; rfl)) : p := e
theorem fc60 {gl : Nat → C} {M : Nat} {pu : Nat → List C → Option C}  (hcx : CxOK (cxP gl M pu))  (h26 : ∀ n : Int, -9223372036854775808 ≤ n ∧ n ≤ 9223372036854775807 → pu 26 [.val (.int .i64 n)] = some (sl bC (.own 1) (wint n))) (l : List Int) (hl : l.length < 1099511627776) (hr : ∀ x ∈ l, -9223372036854775808 ≤ x ∧ x ≤ 9223372036854775807) : FC Tryd.prog gl 60 [sl iC .no l] [] (sl bC (.own 1) (wInts l)) [] := by
 replace hcx := hcx.reN (M := 21)
 refine FC.ofA (cx := cxP gl 21 pu) (rs := [.tmp 2]) rfl Tryd.func60 rfl rfl rfl (by simp only [List.length_cons, List.length_nil]; decide) (by simp only [go_sem]) ?_
 simp only [ini, go_sem]
 have hy := True.intro
 have h26n : ∀ m : Nat, m < 9223372036854775808 → pu 26 [.val (nI m)] = some (sl bC (.own 1) (wint m)) := fun m h => h26 m (by omega)
 have hk8 := wintn_len l.length (by omega)
 have hb1 := True.intro
 refine Tr.w hcx [] _ [] rfl rfl rfl ?_ X_fc60
 refine Tr.w hcx [1000008] _ [] rfl rfl rfl ?_ X_fc60
 refine Tr.seqK fun K1 hK1 => ?_
 refine Tr.w hcx [] _ [] rfl rfl rfl ?_ X_fc60
 refine Tr.k [3, 9, 10, 11] ?_
 refine Tr.blk ?_
 refine Tr.loopI (α := Nat) (fun a => [(3, sl bC (.own 1) (wint l.length ++ (l.take a).flatMap wint)), (9, ?v9_1), (10, ?v10_1), (11, .val (nI a))]) (fun a => ?h_1) (fun a => a ≤ l.length) (fun a => l.length - a) (0) ?_ ?le_1 ?hh_1 ?bd_1
 case hh_1 => exact rfl
 case le_1 => (simp only [Le_nil, Le_cons, ↓A_cons, ↓reduceIte, Nat.reduceEqDiff, CLe_refl, CLe_top, CLe_full, CLe_nil, CLe_own, and_true, true_and]; all_goals (repeat' first | exact CLe.refl _ | exact True.intro | (refine CLe_sln ?_; first | rfl | (simp only [List.take_zero]; done)) | exact CLe_nI (by omega) | exact CLe_int (by omega) | exact CLe_inI (by omega) | exact CLe_nIi (by omega) | with_reducible apply And.intro)); all_goals (exact CLe_sl (by simp))
 · omega
 rintro i hi
 have hb0 := ints_le l hr i hi
 refine Tr.w hcx [] _ [] rfl rfl rfl ?_ X_fc60
 refine Tr.seqK fun K2 hK2 => ?_
 refine Tr.cD rfl (fun hc12 => ?_) (fun hc12 => ?_)
 ·
  have hb1 := hr _ (gt_mem l i hc12)
  have hb2 := wint_len _ hb1
  refine Tr.skip ?_
  refine hK2 _ ?_
  refine Tr.seqK fun K3 hK3 => ?_
  refine Tr.blk ?_
  refine Tr.w hcx [1000014] _ [] rfl rfl rfl ?_ X_fc60
  refine Tr.v hcx [15, 1000018] _ [] rfl rfl rfl ?_ X_fc60
  refine hK3 _ ?_
  refine Tr.v hcx [] _ [] rfl rfl rfl ?_ X_fc60
  refine ⟨i + 1, ⟨by omega, O1⟩, ?_, rfl⟩
  (simp only [Le_nil, Le_cons, ↓A_cons, ↓reduceIte, Nat.reduceEqDiff, CLe_refl, CLe_top, CLe_full, CLe_nil, CLe_own, and_true, true_and]; all_goals (repeat' first | exact CLe.refl _ | exact True.intro | (refine CLe_sln ?_; first | rfl | (simp only [List.take_zero]; done)) | exact CLe_nI (by omega) | exact CLe_int (by omega) | exact CLe_inI (by omega) | exact CLe_nIi (by omega) | with_reducible apply And.intro))
  all_goals (refine CLe_sl ?_; rw [← fm_snoc wint l i hc12]; simp)
 obtain rfl : i = l.length := by omega
 refine Tr.exit ?_
 refine hK1 _ ?_
 refine Tr.w hcx [1000020] _ [] rfl rfl rfl ?_ X_fc60
 exact Tr.ret F_fc60
theorem X_fc63 {p : Prop} (e : p := by intro KZ hZ; simp -implicitDefEqProofs (disch := first | omega | (simp only [go_sem, lA, lD, lT, hb1] <;> omega) | decide) only [go_sem, ↓reduceIte, Nat.reduceEqDiff, reduceCtorEq, Nat.reduceLT, Nat.reduceBEq, Nat.reduceAdd, h30, h30n, hy]; exact hZ) : p := e
theorem F_fc63 {p : Prop} (e : p := by simp -implicitDefEqProofs (disch := first | omega | (simp only [go_sem, lA, lD, lT, hb1] <;> omega) | decide) only [go_sem, ↓reduceIte, Nat.reduceEqDiff, reduceCtorEq]; all_goals (rw [List.take_length]; rfl)) : p := e
theorem fc63 {gl : Nat → C} {M : Nat} {pu : Nat → List C → Option C}  (hcx : CxOK (cxP gl M pu))  (h30 : ∀ n : Int, -9223372036854775808 ≤ n ∧ n ≤ 9223372036854775807 → pu 30 [.val (.int .i64 n)] = some (sl bC (.own 1) (wint n))) (l : List Int) (hl : l.length < 1099511627776) (hr : ∀ x ∈ l, -9223372036854775808 ≤ x ∧ x ≤ 9223372036854775807) : FC Tryd.prog gl 63 [sl iC .no l] [] (sl bC (.own 1) (wInts l)) [] := by
 replace hcx := hcx.reN (M := 22)
 refine FC.ofA (cx := cxP gl 22 pu) (rs := [.tmp 2]) rfl Tryd.func63 rfl rfl rfl (by simp only [List.length_cons, List.length_nil]; decide) (by simp only [go_sem]) ?_
 simp only [ini, go_sem]
 have hy := True.intro
 have h30n : ∀ m : Nat, m < 9223372036854775808 → pu 30 [.val (nI m)] = some (sl bC (.own 1) (wint m)) := fun m h => h30 m (by omega)
 have hk8 := wintn_len l.length (by omega)
 have hb1 := True.intro
 refine Tr.w hcx [] _ [] rfl rfl rfl ?_ X_fc63
 refine Tr.w hcx [1000007] _ [] rfl rfl rfl ?_ X_fc63
 refine Tr.seqK fun K1 hK1 => ?_
 refine Tr.w hcx [] _ [] rfl rfl rfl ?_ X_fc63
 refine Tr.k [0, 3, 4] ?_
 refine Tr.blk ?_
 refine Tr.loopI (α := Nat) (fun a => [(0, ?v0_1), (3, sl bC (.own 1) (wint l.length ++ (l.take a).flatMap wint)), (4, .val (nI a))]) (fun a => ?h_1) (fun a => a ≤ l.length) (fun a => l.length - a) (0) ?_ ?le_1 ?hh_1 ?bd_1
 case hh_1 => exact rfl
 case le_1 => (simp only [Le_nil, Le_cons, ↓A_cons, ↓reduceIte, Nat.reduceEqDiff, CLe_refl, CLe_top, CLe_full, CLe_nil, CLe_own, and_true, true_and]; all_goals (repeat' first | exact CLe.refl _ | exact True.intro | (refine CLe_sln ?_; first | rfl | (simp only [List.take_zero]; done)) | exact CLe_nI (by omega) | exact CLe_int (by omega) | exact CLe_inI (by omega) | exact CLe_nIi (by omega) | with_reducible apply And.intro)); all_goals (exact CLe_sl (by simp))
 · omega
 rintro i hi
 have hb0 := ints_le l hr i hi
 refine Tr.seqK fun K2 hK2 => ?_
 refine Tr.w hcx [] _ [] rfl rfl rfl ?_ X_fc63
 refine Tr.cD rfl (fun hc11 => ?_) (fun hc11 => ?_)
 ·
  have hb1 := hr _ (gt_mem l i hc11)
  have hb2 := wint_len _ hb1
  refine Tr.skip ?_
  refine hK2 _ ?_
  refine Tr.seqK fun K3 hK3 => ?_
  refine Tr.blk ?_
  refine Tr.v hcx [14, 1000020] _ [] rfl rfl rfl ?_ X_fc63
  refine hK3 _ ?_
  refine Tr.v hcx [1000013] _ [] rfl rfl rfl ?_ X_fc63
  refine ⟨i + 1, ⟨by omega, O1⟩, ?_, rfl⟩
  (simp only [Le_nil, Le_cons, ↓A_cons, ↓reduceIte, Nat.reduceEqDiff, CLe_refl, CLe_top, CLe_full, CLe_nil, CLe_own, and_true, true_and]; all_goals (repeat' first | exact CLe.refl _ | exact True.intro | (refine CLe_sln ?_; first | rfl | (simp only [List.take_zero]; done)) | exact CLe_nI (by omega) | exact CLe_int (by omega) | exact CLe_inI (by omega) | exact CLe_nIi (by omega) | with_reducible apply And.intro))
  all_goals (refine CLe_sl ?_; rw [← fm_snoc wint l i hc11]; simp)
 obtain rfl : i = l.length := by omega
 refine Tr.exit ?_
 refine hK1 _ ?_
 refine Tr.w hcx [1000021] _ [] rfl rfl rfl ?_ X_fc63
 exact Tr.ret F_fc63
theorem X_fc58 {p : Prop} (e : p := by intro KZ hZ; simp -implicitDefEqProofs (disch := first | omega | (simp only [go_sem, lA, lD, lT] <;> omega) | decide) only [go_sem, ↓reduceIte, Nat.reduceEqDiff, reduceCtorEq, Nat.reduceLT, Nat.reduceBEq, Nat.reduceAdd, hy]; exact hZ) : p := e
theorem Y_fc58 {p : Prop} (e : p := by intro KZ hZ; simp -implicitDefEqProofs (disch := first | omega | (simp only [go_sem, lA, lD, lT] <;> omega) | decide) only [go_sem, ↓reduceIte, Nat.reduceEqDiff, reduceCtorEq, Nat.reduceLT, Nat.reduceBEq, Nat.reduceAdd, hy]; refine And.intro ?_ hZ; exact rfl) : p := e
theorem F_fc58 {p : Prop} (e : p := by simp -implicitDefEqProofs (disch := first | omega | (simp only [go_sem, lA, lD, lT] <;> omega) | decide) only [go_sem, ↓reduceIte, Nat.reduceEqDiff, reduceCtorEq]; all_goals (first | rw [dec_len hc10] | rw [dec_ne hc25] | rw [dec_eq hc14 (Classical.not_not.1 hc10) hA])) : p := e
theorem fc58 {gl : Nat → C} {M : Nat} {pu : Nat → List C → Option C}  (hcx : CxOK (cxP gl M pu))  (x y : List UInt8) (hx : x.length < 9223372036854775807) : FC Tryd.prog gl 58 [sl bC .no x, sl bC .no y] [] (.val (.bool (decide (x = y)))) [] := by
 replace hcx := hcx.reN (M := 26)
 refine FC.ofA (cx := cxP gl 26 pu) (rs := [.tmp 4]) rfl Tryd.func58 rfl rfl rfl (by simp only [List.length_cons, List.length_nil]; decide) (by simp only [go_sem]) ?_
 simp only [ini, go_sem]
 have hy := True.intro
 refine Tr.w hcx [] _ [] rfl rfl rfl ?_ X_fc58
 refine Tr.seqK fun K1 hK1 => ?_
 refine Tr.w hcx [] _ [] rfl rfl rfl ?_ X_fc58
 refine Tr.cD rfl (fun hc10 => ?_) (fun hc10 => ?_)
 ·
  refine Tr.w hcx [] _ [] rfl rfl rfl ?_ X_fc58
  exact Tr.ret F_fc58
 have hll : x.length = y.length := Classical.not_not.1 hc10
 refine Tr.skip ?_
 refine hK1 _ ?_
 refine Tr.seqK fun K2 hK2 => ?_
 refine Tr.w hcx [] _ [] rfl rfl rfl ?_ X_fc58
 refine Tr.k [0, 1, 5] ?_
 refine Tr.blk ?_
 refine Tr.loopI (α := Nat) (fun a => [(0, ?v0_1), (1, ?v1_1), (5, .val (nI a))]) (fun a => ?h_1) (fun a => a ≤ x.length ∧ x.take a = y.take a) (fun a => x.length - a) (0) ?_ ?le_1 ?hh_1 ?bd_1
 case hh_1 => exact rfl
 case le_1 => exact LT
 · exact ⟨by omega, rfl⟩
 rintro i ⟨hi, hA⟩
 refine Tr.seqK fun K3 hK3 => ?_
 refine Tr.w hcx [] _ [] rfl rfl rfl ?_ X_fc58
 refine Tr.cD rfl (fun hc14 => ?_) (fun hc14 => ?_)
 ·
  refine Tr.skip ?_
  refine hK3 _ ?_
  refine Tr.seqK fun K4 hK4 => ?_
  refine Tr.blk ?_
  refine Tr.wD hcx hMO [] _ [] rfl rfl rfl rfl ?_ Y_fc58
  refine Tr.cD rfl (fun hc25 => ?_) (fun hc25 => ?_)
  ·
   refine Tr.w hcx [] _ [] rfl rfl rfl ?_ X_fc58
   exact Tr.ret F_fc58
  refine Tr.skip ?_
  refine hK4 _ ?_
  refine Tr.v hcx [1000016] _ [] rfl rfl rfl ?_ X_fc58
  exact ⟨i + 1, ⟨⟨by omega, take_next2 hc14 (Classical.not_not.1 hc10) hA (Classical.not_not.1 hc25)⟩, O1⟩, LT, rfl⟩
 refine Tr.exit ?_
 refine hK2 _ ?_
 refine Tr.w hcx [] _ [] rfl rfl rfl ?_ X_fc58
 exact Tr.ret F_fc58
end Go.Sx
namespace Go.Sx
open Go.RowKit Go.Proofs
set_option maxRecDepth 100000
set_option maxHeartbeats 8000000
theorem X_fc36 {p : Prop} (e : p := by intro KZ hZ; simp -implicitDefEqProofs (disch := first | omega | (simp only [go_sem, lA, lD, lT, hb1] <;> omega) | decide) only [go_sem, ↓reduceIte, Nat.reduceEqDiff, reduceCtorEq, Nat.reduceLT, Nat.reduceBEq, Nat.reduceAdd, Nat.add_sub_cancel, List.take_length, hk0, hy]; exact hZ) : p := e
theorem F_fc36 {p : Prop} (e : p := by simp -implicitDefEqProofs (disch := first | omega | (simp only [go_sem, lA, lD, lT, hb1] <;> omega) | decide) only [go_sem, ↓reduceIte, Nat.reduceEqDiff, reduceCtorEq]; all_goals (first | rfl | (rw [hbe, getI_1 hk hc24]; rfl) | (rw [hbe, getI_2 hk hc24 (by rw [← hbe]; exact hc27)]; rfl) | (rw [hbe, getI_3 hk hc24 (by rw [← hbe]; exact hc27) hk0 (by rw [← hbe]; exact hc32)]; rfl) | (rw [hbe, getI_4 hk hc24 (by rw [← hbe]; exact hc27) (by rw [← hbe]; first | exact fun h => hc32 h.2 | exact fun h => hk0 h.1) (by rw [← big63 _ hac2]; exact hc62)]; rfl) | (rw [hbe, getI_5 hk hc24 (by rw [← hbe]; exact hc27) (by rw [← hbe]; first | exact fun h => hc32 h.2 | exact fun h => hk0 h.1) (by rw [← big63 _ hac2]; exact hc62) (by rw [← flip_pos]; exact hc64)]; (rw [show ((18446744073709551615 - accF (flipOf x) (r.take k) : Nat) : Int) - 18446744073709551616 = -1 - (accF (flipOf x) (r.take k) : Int) by omega]; try rfl)) | (rw [hbe, getI_6 hk hc24 (by rw [← hbe]; exact hc27) (by rw [← hbe]; first | exact fun h => hc32 h.2 | exact fun h => hk0 h.1) (by rw [← big63 _ hac2]; exact hc62) (by rw [← flip_pos]; exact hc64)]; rfl))) : p := e
theorem fc36 {gl : Nat → C} {M : Nat} {pu : Nat → List C → Option C}  (hcx : CxOK (cxP gl M pu))  (b : List UInt8) (hb : b.length < 9223372036854775807) : FC Tryd.prog gl 36 [sl bC .no b] [] (.tup [.val (.int .i64 (getI b).1), .val (nI (getI b).2.1), .val (nI (getI b).2.2)]) [] := by
 replace hcx := hcx.reN (M := 71)
 refine FC.ofA (cx := cxP gl 71 pu) (rs := [.tmp 2, .tmp 3, .tmp 4]) rfl Tryd.func36 rfl rfl rfl (by simp only [List.length_cons, List.length_nil]; decide) (by simp only [go_sem]) ?_
 simp only [ini, go_sem]
 have hk0 := True.intro
 have hy := True.intro
 have hb1 := True.intro
 refine Tr.w hcx [] _ [] rfl rfl rfl ?_ X_fc36
 refine Tr.seqK fun K1 hK1 => ?_
 refine Tr.w hcx [] _ [] rfl rfl rfl ?_ X_fc36
 refine Tr.cD rfl (fun hc12 => ?_) (fun hc12 => ?_)
 ·
  obtain rfl : b = [] := List.length_eq_zero_iff.1 hc12
  refine Tr.w hcx [] _ [] rfl rfl rfl ?_ X_fc36
  exact Tr.ret F_fc36
 obtain ⟨x, r, hbe⟩ : ∃ x r, b = x :: r := by
   cases b with
   | nil => exact absurd rfl hc12
   | cons x r => exact ⟨x, r, rfl⟩
 have hge := flip_ge x
 have hlt := (x ^^^ flipOf x).toNat_lt
 obtain ⟨k, hk⟩ : ∃ k, kOf x = k := ⟨_, rfl⟩
 have hk2 : (x ^^^ flipOf x).toNat - 128 = k := hk
 have hlen : b.length = r.length + 1 := by rw [hbe]; rfl
 have hx0 : gt b 0 = x := by rw [hbe]; rfl
 have hr : b.drop 1 = r := by rw [hbe]; rfl
 refine Tr.skip ?_
 refine hK1 _ ?_
 refine Tr.w hcx [] _ [] rfl rfl rfl ?_ X_fc36
 refine Tr.seqJ (α := Unit) (fun a => [(0, ?v0_1), (5, .val (w8 (flipOf x)))]) (fun a => []) (fun a => True) ?ja_1 ?jb_1
 case ja_1 =>
  have hy := @hx0
  refine Tr.w hcx [] _ [] rfl rfl rfl ?_ X_fc36
  refine Tr.cD rfl (fun hc16 => ?_) (fun hc16 => ?_)
  ·
   have hy := True.intro
   refine Tr.v hcx [] _ [] rfl rfl rfl ?_ X_fc36
   refine ⟨(), tI, ?_, rfl⟩
   (simp only [Le_nil, Le_cons, ↓A_cons, ↓reduceIte, Nat.reduceEqDiff, CLe_refl, CLe_top, CLe_full, CLe_nil, CLe_own, and_true, true_and]; all_goals (repeat' first | exact CLe.refl _ | exact True.intro | (refine CLe_sln ?_; first | rfl | (simp only [List.take_zero]; done)) | exact CLe_nI (by omega) | exact CLe_int (by omega) | exact CLe_inI (by omega) | exact CLe_nIi (by omega) | with_reducible apply And.intro))
   all_goals (refine CLe_val ?_; show _ = w8 (if x < UInt8.ofNat 128 then UInt8.ofNat 255 else UInt8.ofNat 0); first | rw [if_pos hc16] | rw [if_neg hc16])
  refine Tr.skip ?_
  refine ⟨(), tI, ?_, rfl⟩
  (simp only [Le_nil, Le_cons, ↓A_cons, ↓reduceIte, Nat.reduceEqDiff, CLe_refl, CLe_top, CLe_full, CLe_nil, CLe_own, and_true, true_and]; all_goals (repeat' first | exact CLe.refl _ | exact True.intro | (refine CLe_sln ?_; first | rfl | (simp only [List.take_zero]; done)) | exact CLe_nI (by omega) | exact CLe_int (by omega) | exact CLe_inI (by omega) | exact CLe_nIi (by omega) | with_reducible apply And.intro))
  all_goals (refine CLe_val ?_; show _ = w8 (if x < UInt8.ofNat 128 then UInt8.ofNat 255 else UInt8.ofNat 0); first | rw [if_pos hc16] | rw [if_neg hc16])
 rintro a ha
 have hy := And.intro @hx0 @hk2
 refine Tr.w hcx [1000023] _ [] rfl rfl rfl ?_ X_fc36
 refine Tr.seqK fun K2 hK2 => ?_
 refine Tr.blk ?_
 have hy := True.intro
 refine Tr.w hcx [1000026] _ [] rfl rfl rfl ?_ X_fc36
 refine Tr.cD rfl (fun hc24 => ?_) (fun hc24 => ?_)
 ·
  refine Tr.w hcx [] _ [] rfl rfl rfl ?_ X_fc36
  exact Tr.ret F_fc36
 refine Tr.w hcx [1000031] _ [] rfl rfl rfl ?_ X_fc36
 refine Tr.cD rfl (fun hc27 => ?_) (fun hc27 => ?_)
 ·
  refine Tr.w hcx [] _ [] rfl rfl rfl ?_ X_fc36
  exact Tr.ret F_fc36
 by_cases hk0 : 0 < k
 ·
  refine Tr.w hcx [1000042] [some 33, some 34, some 35, some 36, some 37, some 38, some 39, some 40, some 41, some 42, some 32] [] rfl rfl rfl ?_ X_fc36
  refine Tr.k [0, 5, 6, 32] ?_
  refine Tr.cD rfl (fun hc32 => ?_) (fun hc32 => ?_)
  ·
   refine Tr.w hcx [] _ [] rfl rfl rfl ?_ X_fc36
   exact Tr.ret F_fc36
  refine Tr.skip ?_
  refine hK2 _ ?_
  refine Tr.w hcx [] _ [] rfl rfl rfl ?_ X_fc36
  refine Tr.seqK fun K3 hK3 => ?_
  have hy := @hr
  refine Tr.w hcx [] _ [] rfl rfl rfl ?_ X_fc36
  refine Tr.k [5, 6, 7, 46, 47, 48] ?_
  refine Tr.blk ?_
  refine Tr.loopI (α := Nat) (fun a => [(5, ?v5_2), (6, ?v6_2), (7, .val (nU (accF (flipOf x) ((r.take k).take a)))), (46, ?v46_2), (47, ?v47_2), (48, .val (nI a))]) (fun a => ?h_2) (fun a => a ≤ (r.take k).length) (fun a => (r.take k).length - a) (0) ?_ ?le_2 ?hh_2 ?bd_2
  case hh_2 => exact rfl
  case le_2 => exact LT
  · omega
  rintro i hi
  have hcl := (gt (r.take k) i ^^^ flipOf x).toNat_lt
  have hkl : (r.take k).length = k := by rw [List.length_take]; omega
  have hac := accF_lt (flipOf x) ((r.take k).take i)
  rw [List.length_take, Nat.min_eq_left hi] at hac
  have hp8 : 256 ^ i ≤ 256 ^ 8 := Nat.pow_le_pow_right (by decide) (by omega)
  have hac2 : accF (flipOf x) ((r.take k).take i) < 18446744073709551616 := Nat.lt_of_lt_of_le hac (by simpa using hp8)
  have hy := True.intro
  refine Tr.w hcx [] _ [] rfl rfl rfl ?_ X_fc36
  refine Tr.seqK fun K4 hK4 => ?_
  refine Tr.cD rfl (fun hc49 => ?_) (fun hc49 => ?_)
  ·
   refine Tr.skip ?_
   refine hK4 _ ?_
   refine Tr.seqK fun K5 hK5 => ?_
   refine Tr.blk ?_
   refine Tr.w hcx [1000051] _ [] rfl rfl rfl ?_ X_fc36
   refine Tr.v hcx [1000058] _ [] rfl rfl rfl ?_ X_fc36
   refine hK5 _ ?_
   refine Tr.v hcx [] _ [] rfl rfl rfl ?_ X_fc36
   refine ⟨i + 1, ⟨by omega, O1⟩, ?_, rfl⟩
   (simp only [Le_nil, Le_cons, ↓A_cons, ↓reduceIte, Nat.reduceEqDiff, CLe_refl, CLe_top, CLe_full, CLe_nil, CLe_own, and_true, true_and]; all_goals (repeat' first | exact CLe.refl _ | exact True.intro | (refine CLe_sln ?_; first | rfl | (simp only [List.take_zero]; done)) | exact CLe_nI (by omega) | exact CLe_int (by omega) | exact CLe_inI (by omega) | exact CLe_nIi (by omega) | with_reducible apply And.intro))
   all_goals (exact CLe_val (congrArg nU (acc_next (flipOf x) (r.take k) i hc49 (by omega))))
  obtain rfl : i = (r.take k).length := by omega
  rw [List.take_length] at *
  refine Tr.exit ?_
  refine hK3 _ ?_
  refine Tr.seqK fun K6 hK6 => ?_
  refine Tr.w hcx [] _ [] rfl rfl rfl ?_ X_fc36
  refine Tr.cD rfl (fun hc62 => ?_) (fun hc62 => ?_)
  ·
   refine Tr.w hcx [] _ [] rfl rfl rfl ?_ X_fc36
   exact Tr.ret F_fc36
  refine Tr.skip ?_
  refine hK6 _ ?_
  refine Tr.seqK fun K7 hK7 => ?_
  refine Tr.w hcx [] _ [] rfl rfl rfl ?_ X_fc36
  refine Tr.cD rfl (fun hc64 => ?_) (fun hc64 => ?_)
  ·
   refine Tr.v hcx [1000066] _ [] rfl rfl rfl ?_ X_fc36
   refine hK7 _ ?_
   refine Tr.w hcx [1000068, 1000070] _ [] rfl rfl rfl ?_ X_fc36
   exact Tr.ret F_fc36
  refine Tr.skip ?_
  refine hK7 _ ?_
  refine Tr.w hcx [1000068, 1000070] _ [] rfl rfl rfl ?_ X_fc36
  exact Tr.ret F_fc36
 refine Tr.w hcx [1000042] [some 33, some 34, some 35, some 36, some 37, some 38, some 39, some 40, some 41, some 42, some 32] [] rfl rfl rfl ?_ X_fc36
 refine Tr.k [0, 5, 6, 32] ?_
 refine Tr.cF rfl ?_
 refine Tr.skip ?_
 refine hK2 _ ?_
 refine Tr.w hcx [] _ [] rfl rfl rfl ?_ X_fc36
 refine Tr.seqK fun K8 hK8 => ?_
 have hy := @hr
 refine Tr.w hcx [] _ [] rfl rfl rfl ?_ X_fc36
 refine Tr.k [5, 6, 7, 46, 47, 48] ?_
 refine Tr.blk ?_
 refine Tr.loopI (α := Nat) (fun a => [(5, ?v5_3), (6, ?v6_3), (7, .val (nU (accF (flipOf x) ((r.take k).take a)))), (46, ?v46_3), (47, ?v47_3), (48, .val (nI a))]) (fun a => ?h_3) (fun a => a ≤ (r.take k).length) (fun a => (r.take k).length - a) (0) ?_ ?le_3 ?hh_3 ?bd_3
 case hh_3 => exact rfl
 case le_3 => exact LT
 · omega
 rintro i hi
 have hcl := (gt (r.take k) i ^^^ flipOf x).toNat_lt
 have hkl : (r.take k).length = k := by rw [List.length_take]; omega
 have hac := accF_lt (flipOf x) ((r.take k).take i)
 rw [List.length_take, Nat.min_eq_left hi] at hac
 have hp8 : 256 ^ i ≤ 256 ^ 8 := Nat.pow_le_pow_right (by decide) (by omega)
 have hac2 : accF (flipOf x) ((r.take k).take i) < 18446744073709551616 := Nat.lt_of_lt_of_le hac (by simpa using hp8)
 have hy := True.intro
 refine Tr.w hcx [] _ [] rfl rfl rfl ?_ X_fc36
 refine Tr.seqK fun K9 hK9 => ?_
 refine Tr.cD rfl (fun hc49 => ?_) (fun hc49 => ?_)
 ·
  refine Tr.skip ?_
  refine hK9 _ ?_
  refine Tr.seqK fun K10 hK10 => ?_
  refine Tr.blk ?_
  refine Tr.w hcx [1000051] _ [] rfl rfl rfl ?_ X_fc36
  refine Tr.v hcx [1000058] _ [] rfl rfl rfl ?_ X_fc36
  refine hK10 _ ?_
  refine Tr.v hcx [] _ [] rfl rfl rfl ?_ X_fc36
  refine ⟨i + 1, ⟨by omega, O1⟩, ?_, rfl⟩
  (simp only [Le_nil, Le_cons, ↓A_cons, ↓reduceIte, Nat.reduceEqDiff, CLe_refl, CLe_top, CLe_full, CLe_nil, CLe_own, and_true, true_and]; all_goals (repeat' first | exact CLe.refl _ | exact True.intro | (refine CLe_sln ?_; first | rfl | (simp only [List.take_zero]; done)) | exact CLe_nI (by omega) | exact CLe_int (by omega) | exact CLe_inI (by omega) | exact CLe_nIi (by omega) | with_reducible apply And.intro))
  all_goals (exact CLe_val (congrArg nU (acc_next (flipOf x) (r.take k) i hc49 (by omega))))
 obtain rfl : i = (r.take k).length := by omega
 rw [List.take_length] at *
 refine Tr.exit ?_
 refine hK8 _ ?_
 refine Tr.seqK fun K11 hK11 => ?_
 refine Tr.w hcx [] _ [] rfl rfl rfl ?_ X_fc36
 refine Tr.cD rfl (fun hc62 => ?_) (fun hc62 => ?_)
 ·
  refine Tr.w hcx [] _ [] rfl rfl rfl ?_ X_fc36
  exact Tr.ret F_fc36
 refine Tr.skip ?_
 refine hK11 _ ?_
 refine Tr.seqK fun K12 hK12 => ?_
 refine Tr.w hcx [] _ [] rfl rfl rfl ?_ X_fc36
 refine Tr.cD rfl (fun hc64 => ?_) (fun hc64 => ?_)
 ·
  refine Tr.v hcx [1000066] _ [] rfl rfl rfl ?_ X_fc36
  refine hK12 _ ?_
  refine Tr.w hcx [1000068, 1000070] _ [] rfl rfl rfl ?_ X_fc36
  exact Tr.ret F_fc36
 refine Tr.skip ?_
 refine hK12 _ ?_
 refine Tr.w hcx [1000068, 1000070] _ [] rfl rfl rfl ?_ X_fc36
 exact Tr.ret F_fc36
end Go.Sx
