/-
  Package hash: contracts of functions. And what follows.
-/
import Derived.Test.YthjamgmeehjfmaaDoorPan
set_option linter.unusedSimpArgs false
set_option linter.unusedVariables false
namespace Go.Sx
open Go.RowKit Go.Proofs
set_option maxRecDepth 100000
set_option maxHeartbeats 8000000
theorem X_fc62 {p : Prop} (e : p := by intro KZ hZ; simp -implicitDefEqProofs (disch := first | omega | (simp only [go_sem, lA, lD, lT, kbl_len, List.length_map, hK] <;> omega) | decide) only [go_sem, ↓reduceIte, Nat.reduceEqDiff, reduceCtorEq, Nat.reduceLT, Nat.reduceBEq, Nat.reduceAdd, hy]; exact hZ) : p := e
theorem Y_fc62 {p : Prop} (e : p := by intro KZ hZ; simp -implicitDefEqProofs (disch := first | omega | (simp only [go_sem, lA, lD, lT, kbl_len, List.length_map, hK] <;> omega) | decide) only [go_sem, ↓reduceIte, Nat.reduceEqDiff, reduceCtorEq, Nat.reduceLT, Nat.reduceBEq, Nat.reduceAdd, hy]; refine And.intro ?_ hZ; exact rfl) : p := e
theorem F_fc62 {p : Prop} (e : p := by simp -implicitDefEqProofs (disch := first | omega | (simp only [go_sem, lA, lD, lT, kbl_len, List.length_map, hK] <;> omega) | decide) only [go_sem, ↓reduceIte, Nat.reduceEqDiff, reduceCtorEq]; all_goals (simp [padk, List.take_of_length_le, List.drop_of_length_le, kbl_len])) : p := e
theorem fc62 {gl : Nat → C} {M : Nat} {pu : Nat → List C → Option C}  (hcx : CxOK (cxP gl M pu))  (x : UInt8) (key : List UInt8) (hk : key.length < 140737488355328) : FC Tryd.prog gl 62 [.val (w8 x), .kp [.val (str key)]] [] (.val (str (padk key x))) [] := by
 replace hcx := hcx.reN (M := 21)
 refine FC.ofA (cx := cxP gl 21 pu) (rs := [.tmp 3]) rfl Tryd.func62 rfl rfl rfl (by simp only [List.length_cons, List.length_nil]; decide) (by simp only [go_sem]) ?_
 simp only [ini, go_sem]
 have hy := True.intro
 refine Tr.w hcx [] _ [] rfl rfl rfl ?_ X_fc62
 refine Tr.w hcx [] _ [none] rfl rfl rfl ?_ X_fc62
 refine Tr.wD hcx hMO [] _ [] rfl rfl rfl rfl ?_ Y_fc62
 refine Tr.seqK fun K1 hK1 => ?_
 refine Tr.w hcx [] _ [] rfl rfl rfl ?_ X_fc62
 refine Tr.k [0, 4, 9] ?_
 refine Tr.blk ?_
 refine Tr.loopI (α := Nat) (fun a => [(0, ?v0_1), (4, ?v4_1), (9, .val (nI a))]) (fun a => [some (cl bC (((kbl key).take a).map (· ^^^ x) ++ (kbl key).drop a))]) (fun a => a ≤ 64) (fun a => 64 - a) (0) ?_ ?le_1 ?hh_1 ?bd_1
 case hh_1 => exact by simp [kbl]
 case le_1 => exact LT
 · omega
 rintro i hi
 have hK := kbl_len key
 refine Tr.w hcx [] _ [] rfl rfl rfl ?_ X_fc62
 refine Tr.seqK fun K2 hK2 => ?_
 refine Tr.cD rfl (fun hc10 => ?_) (fun hc10 => ?_)
 ·
  refine Tr.skip ?_
  refine hK2 _ ?_
  refine Tr.seqK fun K3 hK3 => ?_
  refine Tr.blk ?_
  refine Tr.w hcx [1000011] _ [] rfl rfl rfl ?_ X_fc62
  refine Tr.v hcx [] _ [] rfl rfl rfl ?_ X_fc62
  refine hK3 _ ?_
  refine Tr.v hcx [] _ [] rfl rfl rfl ?_ X_fc62
  exact ⟨i + 1, ⟨by omega, O1⟩, LT, by dsimp only; rw [← xk_step (kbl key) (· ^^^ x) i (by rw [kbl_len]; omega)] <;> rfl⟩
 obtain rfl : i = 64 := by omega
 refine Tr.exit ?_
 refine hK1 _ ?_
 refine Tr.w hcx [1000020] _ [] rfl rfl rfl ?_ X_fc62
 exact Tr.ret F_fc62
theorem X_fc49 {p : Prop} (e : p := by intro KZ hZ; simp -implicitDefEqProofs (disch := first | omega | (simp only [go_sem, lA, lD, lT, feed_len, F0_len, feed_n, F0_n, sha_len, padk_len, sumF_len] <;> omega) | decide) only [go_sem, ↓reduceIte, Nat.reduceEqDiff, reduceCtorEq, Nat.reduceLT, Nat.reduceBEq, Nat.reduceAdd, h61, h52, h53, h55, h62, hno, Str.cells, Str_eta, take_self, hy]; exact hZ) : p := e
theorem Y_fc49 {p : Prop} (e : p := by intro KZ hZ; simp -implicitDefEqProofs (disch := first | omega | (simp only [go_sem, lA, lD, lT, feed_len, F0_len, feed_n, F0_n, sha_len, padk_len, sumF_len] <;> omega) | decide) only [go_sem, ↓reduceIte, Nat.reduceEqDiff, reduceCtorEq, Nat.reduceLT, Nat.reduceBEq, Nat.reduceAdd, h61, h52, h53, h55, h62, hno, Str.cells, Str_eta, take_self, hy]; refine And.intro ?_ hZ; exact rfl) : p := e
theorem F_fc49 {p : Prop} (e : p := by simp -implicitDefEqProofs (disch := first | omega | (simp only [go_sem, lA, lD, lT, feed_len, F0_len, feed_n, F0_n, sha_len, padk_len, sumF_len] <;> omega) | decide) only [go_sem, ↓reduceIte, Nat.reduceEqDiff, reduceCtorEq]; all_goals (simp only [hmac, keyOf, hc11, if_true, if_false, sha, feed_app, show UInt8.ofNat 92 = 92 from id rfl, show UInt8.ofNat 54 = 54 from id rfl])) : p := e
theorem fc49 {gl : Nat → C} {M : Nat} {pu : Nat → List C → Option C}  (hcx : CxOK (cxP gl M pu))  (h61 : ∀ b : List UInt8, b.length < 140737488355328 → pu 61 [sl bC .no b] = some (.agg (cl bC (sha b)))) (h52 : pu 52 [] = some (.agg F0.cells)) (h53 : ∀ (s : S8) (blk : List UInt8) (n : Nat) (t : List UInt8), blk.length = 64 → n + t.length < 1152921504606846976 → pu 53 [.agg (cl wC s.l ++ (cl bC blk ++ [.val (nU n)])), .val (str t)] = some (.agg (feed ⟨s, blk, n⟩ t).cells)) (h55 : ∀ (s : S8) (blk : List UInt8) (n : Nat), blk.length = 64 → n < 576460752303423488 → pu 55 [.agg (cl wC s.l ++ (cl bC blk ++ [.val (nU n)]))] = some (.agg (cl bC (sumF ⟨s, blk, n⟩)))) (h62 : ∀ (x : UInt8) (key : List UInt8), key.length < 140737488355328 → pu 62 [.val (w8 x), .kp [.val (str key)]] = some (.val (str (padk key x)))) (hno : ∀ (g : Nat) (xs : List C), refy xs = true → pu g xs = none) (key t : List UInt8) (hk : key.length < 1099511627776) (ht : t.length < 1099511627776) : FC Tryd.prog gl 49 [.val (str key), .val (str t)] [] (.val (str (hmac key t))) [] := by
 replace hcx := hcx.reN (M := 35)
 refine FC.ofA (cx := cxP gl 35 pu) (rs := [.tmp 4]) rfl Tryd.func49 rfl rfl rfl (by simp only [List.length_cons, List.length_nil]; decide) (by simp only [go_sem]) ?_
 simp only [ini, go_sem]
 have hy := True.intro
 refine Tr.w hcx [] _ [none] rfl rfl rfl ?_ X_fc49
 refine Tr.seqK fun K1 hK1 => ?_
 refine Tr.w hcx [] _ [] rfl rfl rfl ?_ X_fc49
 refine Tr.cD rfl (fun hc11 => ?_) (fun hc11 => ?_)
 ·
  refine Tr.w hcx [] _ [none] rfl rfl rfl ?_ X_fc49
  refine Tr.v hcx [] _ [] rfl rfl rfl ?_ X_fc49
  refine hK1 _ ?_
  refine Tr.w hcx [1000017] _ [] rfl rfl rfl ?_ X_fc49
  refine Tr.w hcx [] _ [none] rfl rfl rfl ?_ X_fc49
  refine Tr.k [6, 7] ?_
  refine Tr.wD hcx hMO [] _ [none] rfl rfl rfl rfl ?_ Y_fc49
  refine Tr.w hcx [1000034] _ [] rfl rfl rfl ?_ X_fc49
  exact Tr.ret F_fc49
 refine Tr.skip ?_
 refine hK1 _ ?_
 refine Tr.w hcx [1000017] _ [] rfl rfl rfl ?_ X_fc49
 refine Tr.w hcx [] _ [none] rfl rfl rfl ?_ X_fc49
 refine Tr.wD hcx hMO [] _ [none] rfl rfl rfl rfl ?_ Y_fc49
 refine Tr.k [8] ?_
 refine Tr.w hcx [1000034] _ [] rfl rfl rfl ?_ X_fc49
 exact Tr.ret F_fc49
theorem X_fc34 {p : Prop} (e : p := by intro KZ hZ; simp -implicitDefEqProofs (disch := first | omega | (simp only [go_sem, lA, lD, lT, S8.l_len, feed_len, F0_len, feed_n, F0_n, sumF_len, hlp1, hlp2] <;> omega) | decide) only [go_sem, ↓reduceIte, Nat.reduceEqDiff, reduceCtorEq, Nat.reduceLT, Nat.reduceBEq, Nat.reduceAdd, h52, h53, h55, h54, Str.cells, Str_eta, sumF_len, hy]; exact hZ) : p := e
theorem Y_fc34 {p : Prop} (e : p := by intro KZ hZ; simp -implicitDefEqProofs (disch := first | omega | (simp only [go_sem, lA, lD, lT, S8.l_len, feed_len, F0_len, feed_n, F0_n, sumF_len, hlp1, hlp2] <;> omega) | decide) only [go_sem, ↓reduceIte, Nat.reduceEqDiff, reduceCtorEq, Nat.reduceLT, Nat.reduceBEq, Nat.reduceAdd, h52, h53, h55, h54, Str.cells, Str_eta, sumF_len, hy]; refine And.intro ?_ hZ; exact rfl) : p := e
theorem F_fc34 {p : Prop} (e : p := by simp -implicitDefEqProofs (disch := first | omega | (simp only [go_sem, lA, lD, lT, S8.l_len, feed_len, F0_len, feed_n, F0_n, sumF_len, hlp1, hlp2] <;> omega) | decide) only [go_sem, ↓reduceIte, Nat.reduceEqDiff, reduceCtorEq]; all_goals (simp only [sha, List.take_length])) : p := e
theorem fc34 {gl : Nat → C} {M : Nat} {pu : Nat → List C → Option C}  (hcx : CxOK (cxP gl M pu))  (h52 : pu 52 [] = some (.agg F0.cells)) (h53 : ∀ (s : S8) (blk : List UInt8) (n : Nat) (t : List UInt8), blk.length = 64 → n + t.length < 1152921504606846976 → pu 53 [.agg (cl wC s.l ++ (cl bC blk ++ [.val (nU n)])), .val (str t)] = some (.agg (feed ⟨s, blk, n⟩ t).cells)) (h55 : ∀ (s : S8) (blk : List UInt8) (n : Nat), blk.length = 64 → n < 576460752303423488 → pu 55 [.agg (cl wC s.l ++ (cl bC blk ++ [.val (nU n)]))] = some (.agg (cl bC (sumF ⟨s, blk, n⟩)))) (h54 : ∀ s : List UInt8, s.length < 70368744177664 → pu 54 [.val (str s)] = some (sl bC (.own 1) (wb s))) (tag : Int) (parts : List (List UInt8)) (hl : (inp tag parts).length < 1099511627776) : FC Tryd.prog gl 34 [.val (.int .i64 tag), sl sC .no parts] [] (.agg (cl bC ((sha (inp tag parts)).take 16))) [] := by
 replace hcx := hcx.reN (M := 32)
 refine FC.ofA (cx := cxP gl 32 pu) (rs := [.cell 4 23]) rfl Tryd.func34 rfl rfl rfl (by simp only [List.length_cons, List.length_nil]; decide) (by simp only [go_sem]) ?_
 simp only [ini, go_sem]
 have hy := True.intro
 have hlp := parts_bound tag parts hl
 have hlp1 := hl
 have hpl := parts_len tag parts hl
 have hlp2 := True.intro
 refine Tr.w hcx [] _ [none] rfl rfl rfl ?_ X_fc34
 refine Tr.wD hcx hMO [] _ [none] rfl rfl rfl rfl ?_ Y_fc34
 refine Tr.seqK fun K1 hK1 => ?_
 refine Tr.w hcx [] _ [] rfl rfl rfl ?_ X_fc34
 refine Tr.k [4, 5, 15, 16, 17] ?_
 refine Tr.blk ?_
 refine Tr.loopI (α := Nat) (fun a => [(4, ?v4_1), (5, ?v5_1), (15, ?v15_1), (16, ?v16_1), (17, .val (nI a))]) (fun a => [some (cl bC (List.replicate 16 0)), some (feed F0 (inp tag (parts.take a))).cells]) (fun a => a ≤ parts.length) (fun a => parts.length - a) (0) ?_ ?le_1 ?hh_1 ?bd_1
 case hh_1 => exact rfl
 case le_1 => exact LT
 · omega
 rintro i hi
 refine Tr.w hcx [] _ [] rfl rfl rfl ?_ X_fc34
 refine Tr.seqK fun K2 hK2 => ?_
 refine Tr.cD rfl (fun hc18 => ?_) (fun hc18 => ?_)
 ·
  obtain ⟨hlp1, hlp2⟩ := hlp i hc18
  refine Tr.skip ?_
  refine hK2 _ ?_
  refine Tr.seqK fun K3 hK3 => ?_
  refine Tr.blk ?_
  refine Tr.w hcx [1000020] _ [] rfl rfl rfl ?_ X_fc34
  refine Tr.vD hcx hMO [] _ [] rfl rfl rfl rfl ?_ Y_fc34
  refine hK3 _ ?_
  refine Tr.v hcx [] _ [] rfl rfl rfl ?_ X_fc34
  exact ⟨i + 1, ⟨by omega, O1⟩, LT, by dsimp only; rw [inp_take tag parts i hc18, feed_app] <;> rfl⟩
 obtain rfl : i = parts.length := by omega
 have hlp1 := hl
 have hlp2 := True.intro
 simp only [List.take_length]
 refine Tr.exit ?_
 refine hK1 _ ?_
 refine Tr.w hcx [] _ [none] rfl rfl rfl ?_ X_fc34
 refine Tr.w hcx [] _ [] rfl rfl rfl ?_ X_fc34
 exact Tr.ret F_fc34
end Go.Sx
namespace Go.Sx
open Go.RowKit Go.Proofs
end Go.Sx
namespace Go.Sx
open Go.RowKit Go.Proofs
set_option maxRecDepth 100000
set_option maxHeartbeats 8000000
theorem X_fc26p {p : Prop} (e : p := by intro KZ hZ; simp -implicitDefEqProofs (disch := first | omega | (simp only [go_sem, lA, lD, lT] <;> omega) | decide) only [go_sem, ↓reduceIte, Nat.reduceEqDiff, reduceCtorEq, Nat.reduceLT, Nat.reduceBEq, Nat.reduceAdd, hy]; exact hZ) : p := e
theorem F_fc26p {p : Prop} (e : p := by simp -implicitDefEqProofs (disch := first | omega | (simp only [go_sem, lA, lD, lT] <;> omega) | decide) only [go_sem, ↓reduceIte, Nat.reduceEqDiff, reduceCtorEq]; all_goals (rw [List.take_of_length_le (by simp [be_len])]; rfl)) : p := e
theorem fc26p {gl : Nat → C} {M : Nat} {pu : Nat → List C → Option C}  (hcx : CxOK (cxP gl M pu))  (m : Nat) (hm : m < 9223372036854775808) : FC Tryd.prog gl 26 [.val (nI m)] [] (sl bC (.own 1) (wI m 0)) [] := by
 replace hcx := hcx.reN (M := 47)
 refine FC.ofA (cx := cxP gl 47 pu) (rs := [.tmp 2]) rfl Tryd.func26 rfl rfl rfl (by simp only [List.length_cons, List.length_nil]; decide) (by simp only [go_sem]) ?_
 simp only [ini, go_sem]
 have hy := True.intro
 have hk8 : (le m).length ≤ 8 := le_len 8 m (by omega)
 refine Tr.w hcx [] _ [] rfl rfl rfl ?_ X_fc26p
 refine Tr.scope ?_
 refine Tr.w hcx [1000009] _ [] rfl rfl rfl ?_ X_fc26p
 refine Tr.seqK fun K1 hK1 => ?_
 refine Tr.w hcx [] _ [] rfl rfl rfl ?_ X_fc26p
 refine Tr.cN rfl ((decide_eq_false (by omega))) ?_
 refine Tr.skip ?_
 refine hK1 _ ?_
 refine Tr.w hcx [] _ [] rfl rfl rfl ?_ X_fc26p
 refine Tr.seqK fun K2 hK2 => ?_
 refine Tr.label ?_
 refine hK2 _ ?_
 refine Tr.k [3, 4, 5] ?_
 refine Tr.seqK fun K3 hK3 => ?_
 refine Tr.blk ?_
 refine Tr.loopI (α := Nat) (fun a => [(3, ?v3_1), (4, ?v4_1), (5, .val (nI a))]) (fun a => ?h_1) (fun a => a ≤ 8 ∧ m < 256 ^ a) (fun a => a) (8) ?_ ?le_1 ?hh_1 ?bd_1
 case hh_1 => exact rfl
 case le_1 => exact LT
 · exact ⟨by omega, by omega⟩
 rintro k ⟨hk, hmk⟩
 refine Tr.seqK fun K4 hK4 => ?_
 refine Tr.w hcx [] _ [] rfl rfl rfl ?_ X_fc26p
 refine Tr.cD rfl (fun hc15 => ?_) (fun hc15 => ?_)
 ·
  refine Tr.skip ?_
  refine hK4 _ ?_
  refine Tr.blk ?_
  refine Tr.seqK fun K5 hK5 => ?_
  refine Tr.w hcx [] _ [] rfl rfl rfl ?_ X_fc26p
  refine Tr.cD rfl (fun hc21 => ?_) (fun hc21 => ?_)
  ·
   have hkk := le_done m k hmk (.inr hc21)
   subst hkk
   clear hc21 hmk hk hc15
   refine Tr.exit ?_
   refine hK3 _ ?_
   refine Tr.w hcx [1000029] _ [] rfl rfl rfl ?_ X_fc26p
   refine Tr.seqK fun K6 hK6 => ?_
   have hy := @n_subG
   refine Tr.w hcx [1000031] _ [] rfl rfl rfl ?_ X_fc26p
   refine Tr.k [3, 4, 6, 7] ?_
   refine Tr.blk ?_
   refine Tr.loopI (α := Nat) (fun a => [(3, ?v3_2), (4, ?v4_2), (6, sl bC (.own 1) ((UInt8.ofNat (128 + (le m).length) ^^^ UInt8.ofNat 0) :: ((be m (le m).length).map (· ^^^ UInt8.ofNat 0)).take a)), (7, .val (.int .i64 (((le m).length : Int) - 1 - (a : Int))))]) (fun a => ?h_2) (fun a => a ≤ (le m).length) (fun a => (le m).length - a) (0) ?_ ?le_2 ?hh_2 ?bd_2
   case hh_2 => exact rfl
   case le_2 => (simp only [Le_nil, Le_cons, ↓A_cons, ↓reduceIte, Nat.reduceEqDiff, CLe_refl, CLe_top, CLe_full, CLe_nil, CLe_own, and_true, true_and]; all_goals (repeat' first | exact CLe.refl _ | exact True.intro | (refine CLe_sln ?_; first | rfl | (simp only [List.take_zero]; done)) | exact CLe_nI (by omega) | exact CLe_int (by omega) | exact CLe_inI (by omega) | exact CLe_nIi (by omega) | with_reducible apply And.intro)); all_goals first | exact CLe_slf (by simp) | exact CLe_int (by omega)
   · omega
   rintro a ha
   refine Tr.seqK fun K7 hK7 => ?_
   have hy := True.intro
   refine Tr.w hcx [] _ [] rfl rfl rfl ?_ X_fc26p
   refine Tr.cD rfl (fun hc33 => ?_) (fun hc33 => ?_)
   ·
    refine Tr.skip ?_
    refine hK7 _ ?_
    refine Tr.seqK fun K8 hK8 => ?_
    refine Tr.blk ?_
    refine Tr.v hcx [36, 1000045] _ [] rfl rfl rfl ?_ X_fc26p
    refine hK8 _ ?_
    refine Tr.v hcx [1000035] _ [] rfl rfl rfl ?_ X_fc26p
    refine ⟨a + 1, ⟨by omega, O1⟩, ?_, rfl⟩
    (simp only [Le_nil, Le_cons, ↓A_cons, ↓reduceIte, Nat.reduceEqDiff, CLe_refl, CLe_top, CLe_full, CLe_nil, CLe_own, and_true, true_and]; all_goals (repeat' first | exact CLe.refl _ | exact True.intro | (refine CLe_sln ?_; first | rfl | (simp only [List.take_zero]; done)) | exact CLe_nI (by omega) | exact CLe_int (by omega) | exact CLe_inI (by omega) | exact CLe_nIi (by omega) | with_reducible apply And.intro))
    all_goals first | exact CLe.refl _ | exact CLe_int (by omega) | (refine CLe_sl ?_; rw [← wI_next m _ a (by omega), show (((8 : Nat) : Int) * (((le m).length : Int) - 1 - (a : Int))).toNat = 8 * ((le m).length - 1 - a) by omega]; try rfl)
   obtain rfl : a = (le m).length := by omega
   refine Tr.exit ?_
   refine hK6 _ ?_
   refine Tr.w hcx [1000046] _ [] rfl rfl rfl ?_ X_fc26p
   exact Tr.ret F_fc26p
  refine Tr.skip ?_
  refine hK5 _ ?_
  refine Tr.v hcx [1000023] _ [] rfl rfl rfl ?_ X_fc26p
  refine ⟨k - 1, ⟨⟨by omega, le_less m k hc15 hc21⟩, O1⟩, ?_, rfl⟩
  (simp only [Le_nil, Le_cons, ↓A_cons, ↓reduceIte, Nat.reduceEqDiff, CLe_refl, CLe_top, CLe_full, CLe_nil, CLe_own, and_true, true_and]; all_goals (repeat' first | exact CLe.refl _ | exact True.intro | (refine CLe_sln ?_; first | rfl | (simp only [List.take_zero]; done)) | exact CLe_nI (by omega) | exact CLe_int (by omega) | exact CLe_inI (by omega) | exact CLe_nIi (by omega) | with_reducible apply And.intro))
  all_goals first | exact CLe.refl _ | exact CLe_int (by omega) | exact CLe_nI (by omega) | exact CLe_nIi (by omega) | exact CLe_inI (by omega)
 have hkk := le_done m k hmk (.inl hc15)
 subst hkk
 clear hc15 hmk hk
 refine Tr.exit ?_
 refine hK3 _ ?_
 refine Tr.w hcx [1000029] _ [] rfl rfl rfl ?_ X_fc26p
 refine Tr.seqK fun K9 hK9 => ?_
 have hy := @n_subG
 refine Tr.w hcx [1000031] _ [] rfl rfl rfl ?_ X_fc26p
 refine Tr.k [3, 4, 6, 7] ?_
 refine Tr.blk ?_
 refine Tr.loopI (α := Nat) (fun a => [(3, ?v3_3), (4, ?v4_3), (6, sl bC (.own 1) ((UInt8.ofNat (128 + (le m).length) ^^^ UInt8.ofNat 0) :: ((be m (le m).length).map (· ^^^ UInt8.ofNat 0)).take a)), (7, .val (.int .i64 (((le m).length : Int) - 1 - (a : Int))))]) (fun a => ?h_3) (fun a => a ≤ (le m).length) (fun a => (le m).length - a) (0) ?_ ?le_3 ?hh_3 ?bd_3
 case hh_3 => exact rfl
 case le_3 => (simp only [Le_nil, Le_cons, ↓A_cons, ↓reduceIte, Nat.reduceEqDiff, CLe_refl, CLe_top, CLe_full, CLe_nil, CLe_own, and_true, true_and]; all_goals (repeat' first | exact CLe.refl _ | exact True.intro | (refine CLe_sln ?_; first | rfl | (simp only [List.take_zero]; done)) | exact CLe_nI (by omega) | exact CLe_int (by omega) | exact CLe_inI (by omega) | exact CLe_nIi (by omega) | with_reducible apply And.intro)); all_goals first | exact CLe_slf (by simp) | exact CLe_int (by omega)
 · omega
 rintro a ha
 refine Tr.seqK fun K10 hK10 => ?_
 have hy := True.intro
 refine Tr.w hcx [] _ [] rfl rfl rfl ?_ X_fc26p
 refine Tr.cD rfl (fun hc33 => ?_) (fun hc33 => ?_)
 ·
  refine Tr.skip ?_
  refine hK10 _ ?_
  refine Tr.seqK fun K11 hK11 => ?_
  refine Tr.blk ?_
  refine Tr.v hcx [36, 1000045] _ [] rfl rfl rfl ?_ X_fc26p
  refine hK11 _ ?_
  refine Tr.v hcx [1000035] _ [] rfl rfl rfl ?_ X_fc26p
  refine ⟨a + 1, ⟨by omega, O1⟩, ?_, rfl⟩
  (simp only [Le_nil, Le_cons, ↓A_cons, ↓reduceIte, Nat.reduceEqDiff, CLe_refl, CLe_top, CLe_full, CLe_nil, CLe_own, and_true, true_and]; all_goals (repeat' first | exact CLe.refl _ | exact True.intro | (refine CLe_sln ?_; first | rfl | (simp only [List.take_zero]; done)) | exact CLe_nI (by omega) | exact CLe_int (by omega) | exact CLe_inI (by omega) | exact CLe_nIi (by omega) | with_reducible apply And.intro))
  all_goals first | exact CLe.refl _ | exact CLe_int (by omega) | (refine CLe_sl ?_; rw [← wI_next m _ a (by omega), show (((8 : Nat) : Int) * (((le m).length : Int) - 1 - (a : Int))).toNat = 8 * ((le m).length - 1 - a) by omega]; try rfl)
 obtain rfl : a = (le m).length := by omega
 refine Tr.exit ?_
 refine hK9 _ ?_
 refine Tr.w hcx [1000046] _ [] rfl rfl rfl ?_ X_fc26p
 exact Tr.ret F_fc26p
theorem X_fc26n {p : Prop} (e : p := by intro KZ hZ; simp -implicitDefEqProofs (disch := first | omega | (simp only [go_sem, lA, lD, lT] <;> omega) | decide) only [go_sem, ↓reduceIte, Nat.reduceEqDiff, reduceCtorEq, Nat.reduceLT, Nat.reduceBEq, Nat.reduceAdd, em, hy]; exact hZ) : p := e
theorem F_fc26n {p : Prop} (e : p := by simp -implicitDefEqProofs (disch := first | omega | (simp only [go_sem, lA, lD, lT] <;> omega) | decide) only [go_sem, ↓reduceIte, Nat.reduceEqDiff, reduceCtorEq]; all_goals (rw [List.take_of_length_le (by simp [be_len])]; rfl)) : p := e
theorem fc26n {gl : Nat → C} {M : Nat} {pu : Nat → List C → Option C}  (hcx : CxOK (cxP gl M pu))  (m : Nat) (hm : m < 9223372036854775808) : FC Tryd.prog gl 26 [.val (.int .i64 (-1 - (m : Int)))] [] (sl bC (.own 1) (wI m 255)) [] := by
 replace hcx := hcx.reN (M := 47)
 refine FC.ofA (cx := cxP gl 47 pu) (rs := [.tmp 2]) rfl Tryd.func26 rfl rfl rfl (by simp only [List.length_cons, List.length_nil]; decide) (by simp only [go_sem]) ?_
 simp only [ini, go_sem]
 have hy := True.intro
 have hk8 : (le m).length ≤ 8 := le_len 8 m (by omega)
 have em : 18446744073709551615 - ((-1 - (m : Int)) % 18446744073709551616).toNat = m := by omega
 refine Tr.w hcx [] _ [] rfl rfl rfl ?_ X_fc26n
 refine Tr.scope ?_
 refine Tr.w hcx [1000009] _ [] rfl rfl rfl ?_ X_fc26n
 refine Tr.seqK fun K1 hK1 => ?_
 refine Tr.w hcx [] _ [] rfl rfl rfl ?_ X_fc26n
 refine Tr.cP rfl ((decide_eq_true (by omega))) ?_
 refine Tr.v hcx [1000013] _ [] rfl rfl rfl ?_ X_fc26n
 refine hK1 _ ?_
 refine Tr.w hcx [] _ [] rfl rfl rfl ?_ X_fc26n
 refine Tr.seqK fun K2 hK2 => ?_
 refine Tr.label ?_
 refine hK2 _ ?_
 refine Tr.k [3, 4, 5] ?_
 refine Tr.seqK fun K3 hK3 => ?_
 refine Tr.blk ?_
 refine Tr.loopI (α := Nat) (fun a => [(3, ?v3_1), (4, ?v4_1), (5, .val (nI a))]) (fun a => ?h_1) (fun a => a ≤ 8 ∧ m < 256 ^ a) (fun a => a) (8) ?_ ?le_1 ?hh_1 ?bd_1
 case hh_1 => exact rfl
 case le_1 => exact LT
 · exact ⟨by omega, by omega⟩
 rintro k ⟨hk, hmk⟩
 refine Tr.seqK fun K4 hK4 => ?_
 refine Tr.w hcx [] _ [] rfl rfl rfl ?_ X_fc26n
 refine Tr.cD rfl (fun hc15 => ?_) (fun hc15 => ?_)
 ·
  refine Tr.skip ?_
  refine hK4 _ ?_
  refine Tr.blk ?_
  refine Tr.seqK fun K5 hK5 => ?_
  refine Tr.w hcx [] _ [] rfl rfl rfl ?_ X_fc26n
  refine Tr.cD rfl (fun hc21 => ?_) (fun hc21 => ?_)
  ·
   have hkk := le_done m k hmk (.inr hc21)
   subst hkk
   clear hc21 hmk hk hc15
   refine Tr.exit ?_
   refine hK3 _ ?_
   refine Tr.w hcx [1000029] _ [] rfl rfl rfl ?_ X_fc26n
   refine Tr.seqK fun K6 hK6 => ?_
   have hy := @n_subG
   refine Tr.w hcx [1000031] _ [] rfl rfl rfl ?_ X_fc26n
   refine Tr.k [3, 4, 6, 7] ?_
   refine Tr.blk ?_
   refine Tr.loopI (α := Nat) (fun a => [(3, ?v3_2), (4, ?v4_2), (6, sl bC (.own 1) ((UInt8.ofNat (128 + (le m).length) ^^^ UInt8.ofNat 255) :: ((be m (le m).length).map (· ^^^ UInt8.ofNat 255)).take a)), (7, .val (.int .i64 (((le m).length : Int) - 1 - (a : Int))))]) (fun a => ?h_2) (fun a => a ≤ (le m).length) (fun a => (le m).length - a) (0) ?_ ?le_2 ?hh_2 ?bd_2
   case hh_2 => exact rfl
   case le_2 => (simp only [Le_nil, Le_cons, ↓A_cons, ↓reduceIte, Nat.reduceEqDiff, CLe_refl, CLe_top, CLe_full, CLe_nil, CLe_own, and_true, true_and]; all_goals (repeat' first | exact CLe.refl _ | exact True.intro | (refine CLe_sln ?_; first | rfl | (simp only [List.take_zero]; done)) | exact CLe_nI (by omega) | exact CLe_int (by omega) | exact CLe_inI (by omega) | exact CLe_nIi (by omega) | with_reducible apply And.intro)); all_goals first | exact CLe_slf (by simp) | exact CLe_int (by omega)
   · omega
   rintro a ha
   refine Tr.seqK fun K7 hK7 => ?_
   have hy := True.intro
   refine Tr.w hcx [] _ [] rfl rfl rfl ?_ X_fc26n
   refine Tr.cD rfl (fun hc33 => ?_) (fun hc33 => ?_)
   ·
    refine Tr.skip ?_
    refine hK7 _ ?_
    refine Tr.seqK fun K8 hK8 => ?_
    refine Tr.blk ?_
    refine Tr.v hcx [36, 1000045] _ [] rfl rfl rfl ?_ X_fc26n
    refine hK8 _ ?_
    refine Tr.v hcx [1000035] _ [] rfl rfl rfl ?_ X_fc26n
    refine ⟨a + 1, ⟨by omega, O1⟩, ?_, rfl⟩
    (simp only [Le_nil, Le_cons, ↓A_cons, ↓reduceIte, Nat.reduceEqDiff, CLe_refl, CLe_top, CLe_full, CLe_nil, CLe_own, and_true, true_and]; all_goals (repeat' first | exact CLe.refl _ | exact True.intro | (refine CLe_sln ?_; first | rfl | (simp only [List.take_zero]; done)) | exact CLe_nI (by omega) | exact CLe_int (by omega) | exact CLe_inI (by omega) | exact CLe_nIi (by omega) | with_reducible apply And.intro))
    all_goals first | exact CLe.refl _ | exact CLe_int (by omega) | (refine CLe_sl ?_; rw [← wI_next m _ a (by omega), show (((8 : Nat) : Int) * (((le m).length : Int) - 1 - (a : Int))).toNat = 8 * ((le m).length - 1 - a) by omega]; try rfl)
   obtain rfl : a = (le m).length := by omega
   refine Tr.exit ?_
   refine hK6 _ ?_
   refine Tr.w hcx [1000046] _ [] rfl rfl rfl ?_ X_fc26n
   exact Tr.ret F_fc26n
  refine Tr.skip ?_
  refine hK5 _ ?_
  refine Tr.v hcx [1000023] _ [] rfl rfl rfl ?_ X_fc26n
  refine ⟨k - 1, ⟨⟨by omega, le_less m k hc15 hc21⟩, O1⟩, ?_, rfl⟩
  (simp only [Le_nil, Le_cons, ↓A_cons, ↓reduceIte, Nat.reduceEqDiff, CLe_refl, CLe_top, CLe_full, CLe_nil, CLe_own, and_true, true_and]; all_goals (repeat' first | exact CLe.refl _ | exact True.intro | (refine CLe_sln ?_; first | rfl | (simp only [List.take_zero]; done)) | exact CLe_nI (by omega) | exact CLe_int (by omega) | exact CLe_inI (by omega) | exact CLe_nIi (by omega) | with_reducible apply And.intro))
  all_goals first | exact CLe.refl _ | exact CLe_int (by omega) | exact CLe_nI (by omega) | exact CLe_nIi (by omega) | exact CLe_inI (by omega)
 have hkk := le_done m k hmk (.inl hc15)
 subst hkk
 clear hc15 hmk hk
 refine Tr.exit ?_
 refine hK3 _ ?_
 refine Tr.w hcx [1000029] _ [] rfl rfl rfl ?_ X_fc26n
 refine Tr.seqK fun K9 hK9 => ?_
 have hy := @n_subG
 refine Tr.w hcx [1000031] _ [] rfl rfl rfl ?_ X_fc26n
 refine Tr.k [3, 4, 6, 7] ?_
 refine Tr.blk ?_
 refine Tr.loopI (α := Nat) (fun a => [(3, ?v3_3), (4, ?v4_3), (6, sl bC (.own 1) ((UInt8.ofNat (128 + (le m).length) ^^^ UInt8.ofNat 255) :: ((be m (le m).length).map (· ^^^ UInt8.ofNat 255)).take a)), (7, .val (.int .i64 (((le m).length : Int) - 1 - (a : Int))))]) (fun a => ?h_3) (fun a => a ≤ (le m).length) (fun a => (le m).length - a) (0) ?_ ?le_3 ?hh_3 ?bd_3
 case hh_3 => exact rfl
 case le_3 => (simp only [Le_nil, Le_cons, ↓A_cons, ↓reduceIte, Nat.reduceEqDiff, CLe_refl, CLe_top, CLe_full, CLe_nil, CLe_own, and_true, true_and]; all_goals (repeat' first | exact CLe.refl _ | exact True.intro | (refine CLe_sln ?_; first | rfl | (simp only [List.take_zero]; done)) | exact CLe_nI (by omega) | exact CLe_int (by omega) | exact CLe_inI (by omega) | exact CLe_nIi (by omega) | with_reducible apply And.intro)); all_goals first | exact CLe_slf (by simp) | exact CLe_int (by omega)
 · omega
 rintro a ha
 refine Tr.seqK fun K10 hK10 => ?_
 have hy := True.intro
 refine Tr.w hcx [] _ [] rfl rfl rfl ?_ X_fc26n
 refine Tr.cD rfl (fun hc33 => ?_) (fun hc33 => ?_)
 ·
  refine Tr.skip ?_
  refine hK10 _ ?_
  refine Tr.seqK fun K11 hK11 => ?_
  refine Tr.blk ?_
  refine Tr.v hcx [36, 1000045] _ [] rfl rfl rfl ?_ X_fc26n
  refine hK11 _ ?_
  refine Tr.v hcx [1000035] _ [] rfl rfl rfl ?_ X_fc26n
  refine ⟨a + 1, ⟨by omega, O1⟩, ?_, rfl⟩
  (simp only [Le_nil, Le_cons, ↓A_cons, ↓reduceIte, Nat.reduceEqDiff, CLe_refl, CLe_top, CLe_full, CLe_nil, CLe_own, and_true, true_and]; all_goals (repeat' first | exact CLe.refl _ | exact True.intro | (refine CLe_sln ?_; first | rfl | (simp only [List.take_zero]; done)) | exact CLe_nI (by omega) | exact CLe_int (by omega) | exact CLe_inI (by omega) | exact CLe_nIi (by omega) | with_reducible apply And.intro))
  all_goals first | exact CLe.refl _ | exact CLe_int (by omega) | (refine CLe_sl ?_; rw [← wI_next m _ a (by omega), show (((8 : Nat) : Int) * (((le m).length : Int) - 1 - (a : Int))).toNat = 8 * ((le m).length - 1 - a) by omega]; try rfl)
 obtain rfl : a = (le m).length := by omega
 refine Tr.exit ?_
 refine hK9 _ ?_
 refine Tr.w hcx [1000046] _ [] rfl rfl rfl ?_ X_fc26n
 exact Tr.ret F_fc26n
theorem X_fc30p {p : Prop} (e : p := by intro KZ hZ; simp -implicitDefEqProofs (disch := first | omega | (simp only [go_sem, lA, lD, lT] <;> omega) | decide) only [go_sem, ↓reduceIte, Nat.reduceEqDiff, reduceCtorEq, Nat.reduceLT, Nat.reduceBEq, Nat.reduceAdd, hy]; exact hZ) : p := e
theorem F_fc30p {p : Prop} (e : p := by simp -implicitDefEqProofs (disch := first | omega | (simp only [go_sem, lA, lD, lT] <;> omega) | decide) only [go_sem, ↓reduceIte, Nat.reduceEqDiff, reduceCtorEq]; all_goals (rw [List.take_of_length_le (by simp)]; rw [← wint_pos m]; unfold wint; rw [if_pos (by omega)]; simp)) : p := e
theorem fc30p {gl : Nat → C} {M : Nat} {pu : Nat → List C → Option C}  (hcx : CxOK (cxP gl M pu))  (m : Nat) (hm : m < 9223372036854775808) : FC Tryd.prog gl 30 [.val (nI m)] [] (sl bC (.own 1) (wI m 0)) [] := by
 replace hcx := hcx.reN (M := 59)
 refine FC.ofA (cx := cxP gl 59 pu) (rs := [.tmp 2]) rfl Tryd.func30 rfl rfl rfl (by simp only [List.length_cons, List.length_nil]; decide) (by simp only [go_sem]) ?_
 simp only [ini, go_sem]
 have hy := True.intro
 have hk8 : (le m).length ≤ 8 := le_len 8 m (by omega)
 refine Tr.w hcx [] _ [] rfl rfl rfl ?_ X_fc30p
 refine Tr.w hcx [1000009] _ [] rfl rfl rfl ?_ X_fc30p
 refine Tr.seqK fun K1 hK1 => ?_
 refine Tr.w hcx [] _ [] rfl rfl rfl ?_ X_fc30p
 refine Tr.cN rfl ((decide_eq_false (by omega))) ?_
 refine Tr.skip ?_
 refine hK1 _ ?_
 refine Tr.w hcx [] _ [] rfl rfl rfl ?_ X_fc30p
 refine Tr.k [0, 3, 4] ?_
 refine Tr.seqK fun K2 hK2 => ?_
 refine Tr.blk ?_
 refine Tr.loopI (α := (Nat × List UInt8)) (fun a => [(0, ?v0_1), (3, .val (nI a.1)), (4, sl bC (.own 1) a.2)]) (fun a => ?h_1) (fun a => a.1 ≤ m ∧ a.2 ++ le a.1 = le m) (fun a => a.1) ((m, [])) ?_ ?le_1 ?hh_1 ?bd_1
 case hh_1 => exact rfl
 case le_1 => (simp only [Le_nil, Le_cons, ↓A_cons, ↓reduceIte, Nat.reduceEqDiff, CLe_refl, CLe_top, CLe_full, CLe_nil, CLe_own, and_true, true_and]; all_goals (repeat' first | exact CLe.refl _ | exact True.intro | (refine CLe_sln ?_; first | rfl | (simp only [List.take_zero]; done)) | exact CLe_nI (by omega) | exact CLe_int (by omega) | exact CLe_inI (by omega) | exact CLe_nIi (by omega) | with_reducible apply And.intro)); all_goals first | exact CLe_inI (by omega) | exact CLe.refl _
 · exact ⟨Nat.le_refl _, rfl⟩
 rintro ⟨q, ds⟩ ⟨hq, hds⟩
 have hdl : ds.length ≤ 8 := by have := congrArg List.length hds; simp only [List.length_append] at this; omega
 simp only [] at hq hds ⊢
 refine Tr.seqK fun K3 hK3 => ?_
 refine Tr.w hcx [] _ [] rfl rfl rfl ?_ X_fc30p
 refine Tr.cD rfl (fun hc15 => ?_) (fun hc15 => ?_)
 ·
  refine Tr.skip ?_
  refine hK3 _ ?_
  refine Tr.blk ?_
  refine Tr.w hcx [16, 1000021] _ [] rfl rfl rfl ?_ X_fc30p
  refine Tr.v hcx [1000023] _ [] rfl rfl rfl ?_ X_fc30p
  refine ⟨(q / 256, ds ++ [UInt8.ofNat (q % 256)]), ⟨⟨by have := Nat.div_le_self q 256; simp only []; omega, by simp only [] at hds ⊢; rw [← hds, le_pos q (by omega)]; simp⟩, by have : q / 256 < q := Nat.div_lt_self (by omega) (by decide); exact this⟩, ?_, rfl⟩
  (simp only [Le_nil, Le_cons, ↓A_cons, ↓reduceIte, Nat.reduceEqDiff, CLe_refl, CLe_top, CLe_full, CLe_nil, CLe_own, and_true, true_and]; all_goals (repeat' first | exact CLe.refl _ | exact True.intro | (refine CLe_sln ?_; first | rfl | (simp only [List.take_zero]; done)) | exact CLe_nI (by omega) | exact CLe_int (by omega) | exact CLe_inI (by omega) | exact CLe_nIi (by omega) | with_reducible apply And.intro))
  all_goals exact CLe.refl _
 obtain rfl : q = 0 := by omega
 rw [le_zero, List.append_nil] at hds
 subst hds
 clear hq hdl
 refine Tr.exit ?_
 refine hK2 _ ?_
 refine Tr.w hcx [1000025] _ [] rfl rfl rfl ?_ X_fc30p
 refine Tr.w hcx [] _ [] rfl rfl rfl ?_ X_fc30p
 refine Tr.seqK fun K4 hK4 => ?_
 refine Tr.w hcx [] _ [] rfl rfl rfl ?_ X_fc30p
 refine Tr.cP rfl ((decide_eq_true (by omega))) ?_
 refine Tr.v hcx [28, 1000033] _ [] rfl rfl rfl ?_ X_fc30p
 refine hK4 _ ?_
 refine Tr.seqK fun K5 hK5 => ?_
 have hy := @n_subG
 refine Tr.w hcx [1000041] _ [] rfl rfl rfl ?_ X_fc30p
 refine Tr.k [0, 4, 6, 7] ?_
 refine Tr.blk ?_
 refine Tr.loopI (α := Nat) (fun a => [(0, ?v0_2), (4, ?v4_2), (6, sl bC (.own 1) (UInt8.ofNat (128 + (le m).length) :: ((le m).reverse.map (fun c => c)).take a)), (7, .val (.int .i64 (((le m).length : Int) - 1 - (a : Int))))]) (fun a => ?h_2) (fun a => a ≤ (le m).length) (fun a => (le m).length - a) (0) ?_ ?le_2 ?hh_2 ?bd_2
 case hh_2 => exact rfl
 case le_2 => (simp only [Le_nil, Le_cons, ↓A_cons, ↓reduceIte, Nat.reduceEqDiff, CLe_refl, CLe_top, CLe_full, CLe_nil, CLe_own, and_true, true_and]; all_goals (repeat' first | exact CLe.refl _ | exact True.intro | (refine CLe_sln ?_; first | rfl | (simp only [List.take_zero]; done)) | exact CLe_nI (by omega) | exact CLe_int (by omega) | exact CLe_inI (by omega) | exact CLe_nIi (by omega) | with_reducible apply And.intro)); all_goals first | exact CLe_slf (by simp) | exact CLe.refl _ | exact CLe_int (by omega) | exact CLe_sl (by simp)
 · omega
 rintro a ha
 refine Tr.seqK fun K6 hK6 => ?_
 have hy := True.intro
 refine Tr.w hcx [] _ [] rfl rfl rfl ?_ X_fc30p
 refine Tr.cD rfl (fun hc43 => ?_) (fun hc43 => ?_)
 ·
  refine Tr.skip ?_
  refine hK6 _ ?_
  refine Tr.seqK fun K7 hK7 => ?_
  refine Tr.blk ?_
  refine Tr.w hcx [1000049] _ [] rfl rfl rfl ?_ X_fc30p
  refine Tr.seqK fun K8 hK8 => ?_
  refine Tr.w hcx [] _ [] rfl rfl rfl ?_ X_fc30p
  refine Tr.cN rfl ((decide_eq_false (by omega))) ?_
  refine Tr.skip ?_
  refine hK8 _ ?_
  refine Tr.v hcx [54, 1000057] _ [] rfl rfl rfl ?_ X_fc30p
  refine hK7 _ ?_
  refine Tr.v hcx [1000045] _ [] rfl rfl rfl ?_ X_fc30p
  refine ⟨a + 1, ⟨by omega, O1⟩, ?_, rfl⟩
  (simp only [Le_nil, Le_cons, ↓A_cons, ↓reduceIte, Nat.reduceEqDiff, CLe_refl, CLe_top, CLe_full, CLe_nil, CLe_own, and_true, true_and]; all_goals (repeat' first | exact CLe.refl _ | exact True.intro | (refine CLe_sln ?_; first | rfl | (simp only [List.take_zero]; done)) | exact CLe_nI (by omega) | exact CLe_int (by omega) | exact CLe_inI (by omega) | exact CLe_nIi (by omega) | with_reducible apply And.intro))
  all_goals first | exact CLe.refl _ | exact CLe_int (by omega) | (refine CLe_sl ?_; rw [← rI_next (le m) _ a (by omega), show (((le m).length : Int) - 1 - (a : Int)).toNat = (le m).length - 1 - a by omega]; try rfl)
 obtain rfl : a = (le m).length := by omega
 refine Tr.exit ?_
 refine hK5 _ ?_
 refine Tr.w hcx [1000058] _ [] rfl rfl rfl ?_ X_fc30p
 exact Tr.ret F_fc30p
theorem X_fc30n {p : Prop} (e : p := by intro KZ hZ; simp -implicitDefEqProofs (disch := first | omega | (simp only [go_sem, lA, lD, lT] <;> omega) | decide) only [go_sem, ↓reduceIte, Nat.reduceEqDiff, reduceCtorEq, Nat.reduceLT, Nat.reduceBEq, Nat.reduceAdd, hy]; exact hZ) : p := e
theorem F_fc30n {p : Prop} (e : p := by simp -implicitDefEqProofs (disch := first | omega | (simp only [go_sem, lA, lD, lT] <;> omega) | decide) only [go_sem, ↓reduceIte, Nat.reduceEqDiff, reduceCtorEq]; all_goals (rw [List.take_of_length_le (by simp)]; rw [← wint_neg m hk8]; unfold wint; rw [if_neg (by omega), show (-1 - (-1 - (m : Int))).toNat = m by omega]; rfl)) : p := e
theorem fc30n {gl : Nat → C} {M : Nat} {pu : Nat → List C → Option C}  (hcx : CxOK (cxP gl M pu))  (m : Nat) (hm : m < 9223372036854775808) : FC Tryd.prog gl 30 [.val (.int .i64 (-1 - (m : Int)))] [] (sl bC (.own 1) (wI m 255)) [] := by
 replace hcx := hcx.reN (M := 59)
 refine FC.ofA (cx := cxP gl 59 pu) (rs := [.tmp 2]) rfl Tryd.func30 rfl rfl rfl (by simp only [List.length_cons, List.length_nil]; decide) (by simp only [go_sem]) ?_
 simp only [ini, go_sem]
 have hy := True.intro
 have hk8 : (le m).length ≤ 8 := le_len 8 m (by omega)
 refine Tr.w hcx [] _ [] rfl rfl rfl ?_ X_fc30n
 refine Tr.w hcx [1000009] _ [] rfl rfl rfl ?_ X_fc30n
 refine Tr.seqK fun K1 hK1 => ?_
 refine Tr.w hcx [] _ [] rfl rfl rfl ?_ X_fc30n
 refine Tr.cP rfl ((decide_eq_true (by omega))) ?_
 refine Tr.v hcx [1000013] _ [] rfl rfl rfl ?_ X_fc30n
 refine hK1 _ ?_
 refine Tr.w hcx [] _ [] rfl rfl rfl ?_ X_fc30n
 refine Tr.k [0, 3, 4] ?_
 refine Tr.seqK fun K2 hK2 => ?_
 refine Tr.blk ?_
 refine Tr.loopI (α := (Nat × List UInt8)) (fun a => [(0, ?v0_1), (3, .val (nI a.1)), (4, sl bC (.own 1) a.2)]) (fun a => ?h_1) (fun a => a.1 ≤ m ∧ a.2 ++ le a.1 = le m) (fun a => a.1) ((m, [])) ?_ ?le_1 ?hh_1 ?bd_1
 case hh_1 => exact rfl
 case le_1 => (simp only [Le_nil, Le_cons, ↓A_cons, ↓reduceIte, Nat.reduceEqDiff, CLe_refl, CLe_top, CLe_full, CLe_nil, CLe_own, and_true, true_and]; all_goals (repeat' first | exact CLe.refl _ | exact True.intro | (refine CLe_sln ?_; first | rfl | (simp only [List.take_zero]; done)) | exact CLe_nI (by omega) | exact CLe_int (by omega) | exact CLe_inI (by omega) | exact CLe_nIi (by omega) | with_reducible apply And.intro)); all_goals first | exact CLe_inI (by omega) | exact CLe.refl _
 · exact ⟨Nat.le_refl _, rfl⟩
 rintro ⟨q, ds⟩ ⟨hq, hds⟩
 have hdl : ds.length ≤ 8 := by have := congrArg List.length hds; simp only [List.length_append] at this; omega
 simp only [] at hq hds ⊢
 refine Tr.seqK fun K3 hK3 => ?_
 refine Tr.w hcx [] _ [] rfl rfl rfl ?_ X_fc30n
 refine Tr.cD rfl (fun hc15 => ?_) (fun hc15 => ?_)
 ·
  refine Tr.skip ?_
  refine hK3 _ ?_
  refine Tr.blk ?_
  refine Tr.w hcx [16, 1000021] _ [] rfl rfl rfl ?_ X_fc30n
  refine Tr.v hcx [1000023] _ [] rfl rfl rfl ?_ X_fc30n
  refine ⟨(q / 256, ds ++ [UInt8.ofNat (q % 256)]), ⟨⟨by have := Nat.div_le_self q 256; simp only []; omega, by simp only [] at hds ⊢; rw [← hds, le_pos q (by omega)]; simp⟩, by have : q / 256 < q := Nat.div_lt_self (by omega) (by decide); exact this⟩, ?_, rfl⟩
  (simp only [Le_nil, Le_cons, ↓A_cons, ↓reduceIte, Nat.reduceEqDiff, CLe_refl, CLe_top, CLe_full, CLe_nil, CLe_own, and_true, true_and]; all_goals (repeat' first | exact CLe.refl _ | exact True.intro | (refine CLe_sln ?_; first | rfl | (simp only [List.take_zero]; done)) | exact CLe_nI (by omega) | exact CLe_int (by omega) | exact CLe_inI (by omega) | exact CLe_nIi (by omega) | with_reducible apply And.intro))
  all_goals exact CLe.refl _
 obtain rfl : q = 0 := by omega
 rw [le_zero, List.append_nil] at hds
 subst hds
 clear hq hdl
 refine Tr.exit ?_
 refine hK2 _ ?_
 refine Tr.w hcx [1000025] _ [] rfl rfl rfl ?_ X_fc30n
 refine Tr.w hcx [] _ [] rfl rfl rfl ?_ X_fc30n
 refine Tr.seqK fun K4 hK4 => ?_
 refine Tr.w hcx [] _ [] rfl rfl rfl ?_ X_fc30n
 refine Tr.cN rfl ((decide_eq_false (by omega))) ?_
 refine Tr.v hcx [34, 1000039] _ [] rfl rfl rfl ?_ X_fc30n
 refine hK4 _ ?_
 refine Tr.seqK fun K5 hK5 => ?_
 have hy := @n_subG
 refine Tr.w hcx [1000041] _ [] rfl rfl rfl ?_ X_fc30n
 refine Tr.k [0, 4, 6, 7] ?_
 refine Tr.blk ?_
 refine Tr.loopI (α := Nat) (fun a => [(0, ?v0_2), (4, ?v4_2), (6, sl bC (.own 1) (UInt8.ofNat (127 - (le m).length) :: ((le m).reverse.map (fun c => UInt8.ofNat 255 - c)).take a)), (7, .val (.int .i64 (((le m).length : Int) - 1 - (a : Int))))]) (fun a => ?h_2) (fun a => a ≤ (le m).length) (fun a => (le m).length - a) (0) ?_ ?le_2 ?hh_2 ?bd_2
 case hh_2 => exact rfl
 case le_2 => (simp only [Le_nil, Le_cons, ↓A_cons, ↓reduceIte, Nat.reduceEqDiff, CLe_refl, CLe_top, CLe_full, CLe_nil, CLe_own, and_true, true_and]; all_goals (repeat' first | exact CLe.refl _ | exact True.intro | (refine CLe_sln ?_; first | rfl | (simp only [List.take_zero]; done)) | exact CLe_nI (by omega) | exact CLe_int (by omega) | exact CLe_inI (by omega) | exact CLe_nIi (by omega) | with_reducible apply And.intro)); all_goals first | exact CLe_slf (by simp) | exact CLe.refl _ | exact CLe_int (by omega) | exact CLe_sl (by simp)
 · omega
 rintro a ha
 refine Tr.seqK fun K6 hK6 => ?_
 have hy := True.intro
 refine Tr.w hcx [] _ [] rfl rfl rfl ?_ X_fc30n
 refine Tr.cD rfl (fun hc43 => ?_) (fun hc43 => ?_)
 ·
  refine Tr.skip ?_
  refine hK6 _ ?_
  refine Tr.seqK fun K7 hK7 => ?_
  refine Tr.blk ?_
  refine Tr.w hcx [1000049] _ [] rfl rfl rfl ?_ X_fc30n
  refine Tr.seqK fun K8 hK8 => ?_
  refine Tr.w hcx [] _ [] rfl rfl rfl ?_ X_fc30n
  refine Tr.cP rfl ((decide_eq_true (by omega))) ?_
  refine Tr.v hcx [1000053] _ [] rfl rfl rfl ?_ X_fc30n
  refine hK8 _ ?_
  refine Tr.v hcx [54, 1000057] _ [] rfl rfl rfl ?_ X_fc30n
  refine hK7 _ ?_
  refine Tr.v hcx [1000045] _ [] rfl rfl rfl ?_ X_fc30n
  refine ⟨a + 1, ⟨by omega, O1⟩, ?_, rfl⟩
  (simp only [Le_nil, Le_cons, ↓A_cons, ↓reduceIte, Nat.reduceEqDiff, CLe_refl, CLe_top, CLe_full, CLe_nil, CLe_own, and_true, true_and]; all_goals (repeat' first | exact CLe.refl _ | exact True.intro | (refine CLe_sln ?_; first | rfl | (simp only [List.take_zero]; done)) | exact CLe_nI (by omega) | exact CLe_int (by omega) | exact CLe_inI (by omega) | exact CLe_nIi (by omega) | with_reducible apply And.intro))
  all_goals first | exact CLe.refl _ | exact CLe_int (by omega) | (refine CLe_sl ?_; rw [← rI_next (le m) _ a (by omega), show (((le m).length : Int) - 1 - (a : Int)).toNat = (le m).length - 1 - a by omega]; try rfl)
 obtain rfl : a = (le m).length := by omega
 refine Tr.exit ?_
 refine hK5 _ ?_
 refine Tr.w hcx [1000058] _ [] rfl rfl rfl ?_ X_fc30n
 exact Tr.ret F_fc30n
theorem X_fc54 {p : Prop} (e : p := by intro KZ hZ; simp -implicitDefEqProofs (disch := first | omega | (simp only [go_sem, lA, lD, lT] <;> omega) | decide) only [go_sem, ↓reduceIte, Nat.reduceEqDiff, reduceCtorEq, Nat.reduceLT, Nat.reduceBEq, Nat.reduceAdd, h26, hy]; exact hZ) : p := e
theorem F_fc54 {p : Prop} (e : p := by simp -implicitDefEqProofs (disch := first | omega | (simp only [go_sem, lA, lD, lT] <;> omega) | decide) only [go_sem, ↓reduceIte, Nat.reduceEqDiff, reduceCtorEq]; all_goals (unfold wb; rw [wint_pos])) : p := e
theorem fc54 {gl : Nat → C} {M : Nat} {pu : Nat → List C → Option C}  (hcx : CxOK (cxP gl M pu))  (h26 : ∀ m : Nat, m < 9223372036854775808 → pu 26 [.val (nI m)] = some (sl bC (.own 1) (wI m 0))) (s : List UInt8) (hs : s.length < 70368744177664) : FC Tryd.prog gl 54 [.val (str s)] [] (sl bC (.own 1) (wb s)) [] := by
 replace hcx := hcx.reN (M := 8)
 refine FC.ofA (cx := cxP gl 8 pu) (rs := [.tmp 2]) rfl Tryd.func54 rfl rfl rfl (by simp only [List.length_cons, List.length_nil]; decide) (by simp only [go_sem]) ?_
 simp only [ini, go_sem]
 have hy := True.intro
 have hk8 : (wI s.length 0).length ≤ 9 := by have := le_len 8 s.length (by omega); simp [wI, be_len]; omega
 refine Tr.w hcx [] _ [] rfl rfl rfl ?_ X_fc54
 refine Tr.w hcx [5, 1000007] _ [] rfl rfl rfl ?_ X_fc54
 exact Tr.ret F_fc54
theorem X_fc68 {p : Prop} (e : p := by intro KZ hZ; simp -implicitDefEqProofs (disch := first | omega | (simp only [go_sem, lA, lD, lT] <;> omega) | decide) only [go_sem, ↓reduceIte, Nat.reduceEqDiff, reduceCtorEq, Nat.reduceLT, Nat.reduceBEq, Nat.reduceAdd, h30, hy]; exact hZ) : p := e
theorem F_fc68 {p : Prop} (e : p := by simp -implicitDefEqProofs (disch := first | omega | (simp only [go_sem, lA, lD, lT] <;> omega) | decide) only [go_sem, ↓reduceIte, Nat.reduceEqDiff, reduceCtorEq]; all_goals (unfold wb; rw [wint_pos])) : p := e
theorem fc68 {gl : Nat → C} {M : Nat} {pu : Nat → List C → Option C}  (hcx : CxOK (cxP gl M pu))  (h30 : ∀ m : Nat, m < 9223372036854775808 → pu 30 [.val (nI m)] = some (sl bC (.own 1) (wI m 0))) (s : List UInt8) (hs : s.length < 70368744177664) : FC Tryd.prog gl 68 [.val (str s)] [] (sl bC (.own 1) (wb s)) [] := by
 replace hcx := hcx.reN (M := 9)
 refine FC.ofA (cx := cxP gl 9 pu) (rs := [.tmp 2]) rfl Tryd.func68 rfl rfl rfl (by simp only [List.length_cons, List.length_nil]; decide) (by simp only [go_sem]) ?_
 simp only [ini, go_sem]
 have hy := True.intro
 have hk8 : (wI s.length 0).length ≤ 9 := by have := le_len 8 s.length (by omega); simp [wI, be_len]; omega
 refine Tr.w hcx [] _ [] rfl rfl rfl ?_ X_fc68
 refine Tr.w hcx [5, 1000008] _ [] rfl rfl rfl ?_ X_fc68
 exact Tr.ret F_fc68
end Go.Sx
namespace Go.Sx
open Go.RowKit Go.Proofs
theorem word_eq (b : List UInt8) (t : Nat) (h : t < 16) : sched b (t + 1) = sched b t ++ [word4 b t] := by
  simp only [sched, h, if_true]
theorem sched_big (b : List UInt8) (t : Nat) (h : ¬ t < 16) : sched b (t + 1) = sched b t ++ [gt (sched b t) (t - 16) + (rr (gt (sched b t) (t - 15)) 7 ^^^ rr (gt (sched b t) (t - 15)) 18 ^^^ gt (sched b t) (t - 15) >>> 3) + gt (sched b t) (t - 7) +
        (rr (gt (sched b t) (t - 2)) 17 ^^^ rr (gt (sched b t) (t - 2)) 19 ^^^ gt (sched b t) (t - 2) >>> 10)] := by
  simp only [sched, h, if_false]
theorem app_rep63 {α : Type} (l : List α) (x y : α) (t : Nat) : l ++ x :: List.replicate (63 - t) y = (l ++ [x]) ++ List.replicate (64 - (t + 1)) y := by
  rw [show 64 - (t + 1) = 63 - t by omega]; simp
end Go.Sx
namespace Go.Sx
open Go.RowKit Go.Proofs
set_option maxRecDepth 100000
set_option maxHeartbeats 8000000
theorem X_fc65 {p : Prop} (e : p := by intro KZ hZ; simp -implicitDefEqProofs (disch := first | omega | (simp only [go_sem, lA, lD, lT, hh] <;> omega) | decide) only [go_sem, ↓reduceIte, Nat.reduceEqDiff, reduceCtorEq, Nat.reduceLT, Nat.reduceBEq, Nat.reduceAdd, hy]; exact hZ) : p := e
theorem F_fc65 {p : Prop} (e : p := by simp -implicitDefEqProofs (disch := first | omega | (simp only [go_sem, lA, lD, lT, hh] <;> omega) | decide) only [go_sem, ↓reduceIte, Nat.reduceEqDiff, reduceCtorEq]; all_goals (rw [List.take_of_length_le (by omega)])) : p := e
theorem fc65 {gl : Nat → C} {M : Nat} {pu : Nat → List C → Option C}  (hcx : CxOK (cxP gl M pu))  (h : List UInt8) (hh : h.length = 32) : FC Tryd.prog gl 65 [.agg (cl bC h)] [] (.val (str h)) [] := by
 replace hcx := hcx.reN (M := 17)
 refine FC.ofA (cx := cxP gl 17 pu) (rs := [.tmp 2]) rfl Tryd.func65 rfl rfl rfl (by simp only [List.length_cons, List.length_nil]; decide) (by simp only [go_sem]) ?_
 simp only [ini, go_sem]
 have hy := True.intro
 refine Tr.w hcx [] _ [none] rfl rfl rfl ?_ X_fc65
 refine Tr.w hcx [] _ [] rfl rfl rfl ?_ X_fc65
 refine Tr.seqK fun K1 hK1 => ?_
 refine Tr.w hcx [] _ [] rfl rfl rfl ?_ X_fc65
 refine Tr.k [1, 3, 4] ?_
 refine Tr.blk ?_
 refine Tr.loopI (α := Nat) (fun a => [(1, ?v1_1), (3, sl bC (.own 1) (h.take a)), (4, .val (nI a))]) (fun a => [some (cl bC h)]) (fun a => a ≤ 32) (fun a => 32 - a) (0) ?_ ?le_1 ?hh_1 ?bd_1
 case hh_1 => exact rfl
 case le_1 => exact LT
 · omega
 rintro i hi
 refine Tr.seqK fun K2 hK2 => ?_
 refine Tr.w hcx [] _ [] rfl rfl rfl ?_ X_fc65
 refine Tr.cD rfl (fun hc6 => ?_) (fun hc6 => ?_)
 ·
  refine Tr.skip ?_
  refine hK2 _ ?_
  refine Tr.seqK fun K3 hK3 => ?_
  refine Tr.blk ?_
  refine Tr.v hcx [9, 1000014] _ [] rfl rfl rfl ?_ X_fc65
  refine hK3 _ ?_
  refine Tr.v hcx [1000008] _ [] rfl rfl rfl ?_ X_fc65
  refine ⟨i + 1, ⟨by omega, O1⟩, ?_, rfl⟩
  (simp only [Le_nil, Le_cons, ↓A_cons, ↓reduceIte, Nat.reduceEqDiff, CLe_refl, CLe_top, CLe_full, CLe_nil, CLe_own, and_true, true_and]; all_goals (repeat' first | exact CLe.refl _ | exact True.intro | (refine CLe_sln ?_; first | rfl | (simp only [List.take_zero]; done)) | exact CLe_nI (by omega) | exact CLe_int (by omega) | exact CLe_inI (by omega) | exact CLe_nIi (by omega) | with_reducible apply And.intro))
  all_goals (refine CLe_sl ?_; rw [take_snoc _ _ (by omega)])
 obtain rfl : i = 32 := by omega
 refine Tr.exit ?_
 refine hK1 _ ?_
 refine Tr.w hcx [1000016] _ [] rfl rfl rfl ?_ X_fc65
 exact Tr.ret F_fc65
theorem X_fc31 {p : Prop} (e : p := by intro KZ hZ; simp -implicitDefEqProofs (disch := first | omega | (simp only [go_sem, lA, lD, lT, hh] <;> omega) | decide) only [go_sem, ↓reduceIte, Nat.reduceEqDiff, reduceCtorEq, Nat.reduceLT, Nat.reduceBEq, Nat.reduceAdd, hy]; exact hZ) : p := e
theorem F_fc31 {p : Prop} (e : p := by simp -implicitDefEqProofs (disch := first | omega | (simp only [go_sem, lA, lD, lT, hh] <;> omega) | decide) only [go_sem, ↓reduceIte, Nat.reduceEqDiff, reduceCtorEq]; all_goals (rw [List.take_of_length_le (by omega)])) : p := e
theorem fc31 {gl : Nat → C} {M : Nat} {pu : Nat → List C → Option C}  (hcx : CxOK (cxP gl M pu))  (h : List UInt8) (hh : h.length = 16) : FC Tryd.prog gl 31 [.agg (cl bC h)] [] (.val (str h)) [] := by
 replace hcx := hcx.reN (M := 17)
 refine FC.ofA (cx := cxP gl 17 pu) (rs := [.tmp 2]) rfl Tryd.func31 rfl rfl rfl (by simp only [List.length_cons, List.length_nil]; decide) (by simp only [go_sem]) ?_
 simp only [ini, go_sem]
 have hy := True.intro
 refine Tr.w hcx [] _ [none] rfl rfl rfl ?_ X_fc31
 refine Tr.w hcx [] _ [] rfl rfl rfl ?_ X_fc31
 refine Tr.seqK fun K1 hK1 => ?_
 refine Tr.w hcx [] _ [] rfl rfl rfl ?_ X_fc31
 refine Tr.k [1, 3, 4] ?_
 refine Tr.blk ?_
 refine Tr.loopI (α := Nat) (fun a => [(1, ?v1_1), (3, sl bC (.own 1) (h.take a)), (4, .val (nI a))]) (fun a => [some (cl bC h)]) (fun a => a ≤ 16) (fun a => 16 - a) (0) ?_ ?le_1 ?hh_1 ?bd_1
 case hh_1 => exact rfl
 case le_1 => exact LT
 · omega
 rintro i hi
 refine Tr.seqK fun K2 hK2 => ?_
 refine Tr.w hcx [] _ [] rfl rfl rfl ?_ X_fc31
 refine Tr.cD rfl (fun hc6 => ?_) (fun hc6 => ?_)
 ·
  refine Tr.skip ?_
  refine hK2 _ ?_
  refine Tr.seqK fun K3 hK3 => ?_
  refine Tr.blk ?_
  refine Tr.v hcx [9, 1000014] _ [] rfl rfl rfl ?_ X_fc31
  refine hK3 _ ?_
  refine Tr.v hcx [1000008] _ [] rfl rfl rfl ?_ X_fc31
  refine ⟨i + 1, ⟨by omega, O1⟩, ?_, rfl⟩
  (simp only [Le_nil, Le_cons, ↓A_cons, ↓reduceIte, Nat.reduceEqDiff, CLe_refl, CLe_top, CLe_full, CLe_nil, CLe_own, and_true, true_and]; all_goals (repeat' first | exact CLe.refl _ | exact True.intro | (refine CLe_sln ?_; first | rfl | (simp only [List.take_zero]; done)) | exact CLe_nI (by omega) | exact CLe_int (by omega) | exact CLe_inI (by omega) | exact CLe_nIi (by omega) | with_reducible apply And.intro))
  all_goals (refine CLe_sl ?_; rw [take_snoc _ _ (by omega)])
 obtain rfl : i = 16 := by omega
 refine Tr.exit ?_
 refine hK1 _ ?_
 refine Tr.w hcx [1000016] _ [] rfl rfl rfl ?_ X_fc31
 exact Tr.ret F_fc31
theorem X_fc69 {p : Prop} (e : p := by intro KZ hZ; simp -implicitDefEqProofs (disch := first | omega | (simp only [go_sem, lA, lD, lT, be64_len] <;> omega) | decide) only [go_sem, ↓reduceIte, Nat.reduceEqDiff, reduceCtorEq, Nat.reduceLT, Nat.reduceBEq, Nat.reduceAdd, hy]; exact hZ) : p := e
theorem F_fc69 {p : Prop} (e : p := by simp -implicitDefEqProofs (disch := first | omega | (simp only [go_sem, lA, lD, lT, be64_len] <;> omega) | decide) only [go_sem, ↓reduceIte, Nat.reduceEqDiff, reduceCtorEq]; all_goals (simp [pad])) : p := e
theorem fc69 {gl : Nat → C} {M : Nat} {pu : Nat → List C → Option C}  (hcx : CxOK (cxP gl M pu))  (b : List UInt8) (hb : b.length < 35184372088832) : FC Tryd.prog gl 69 [sl bC .no b] [] (sl bC (.own 1) (b ++ pad b.length)) [] := by
 replace hcx := hcx.reN (M := 37)
 refine FC.ofA (cx := cxP gl 37 pu) (rs := [.tmp 2]) rfl Tryd.func69 rfl rfl rfl (by simp only [List.length_cons, List.length_nil]; decide) (by simp only [go_sem]) ?_
 simp only [ini, go_sem]
 have hy := True.intro
 have hz : zpad b.length < 64 := Nat.mod_lt _ (by decide)
 refine Tr.w hcx [] _ [] rfl rfl rfl ?_ X_fc69
 refine Tr.w hcx [6, 1000008] _ [] rfl rfl rfl ?_ X_fc69
 refine Tr.w hcx [9, 1000011] _ [] rfl rfl rfl ?_ X_fc69
 refine Tr.k [0, 3] ?_
 refine Tr.seqK fun K1 hK1 => ?_
 refine Tr.blk ?_
 refine Tr.loopI (α := Nat) (fun a => [(0, ?v0_1), (3, sl bC (.own 1) (b ++ 128 :: List.replicate a 0))]) (fun a => ?h_1) (fun a => a ≤ zpad b.length) (fun a => zpad b.length - a) (0) ?_ ?le_1 ?hh_1 ?bd_1
 case hh_1 => exact rfl
 case le_1 => (simp only [Le_nil, Le_cons, ↓A_cons, ↓reduceIte, Nat.reduceEqDiff, CLe_refl, CLe_top, CLe_full, CLe_nil, CLe_own, and_true, true_and]; all_goals (repeat' first | exact CLe.refl _ | exact True.intro | (refine CLe_sln ?_; first | rfl | (simp only [List.take_zero]; done)) | exact CLe_nI (by omega) | exact CLe_int (by omega) | exact CLe_inI (by omega) | exact CLe_nIi (by omega) | with_reducible apply And.intro)); all_goals exact CLe_sl (by simp)
 · omega
 rintro z hzz
 have hL : (b ++ 128 :: List.replicate z 0).length = b.length + 1 + z := by simp; omega
 refine Tr.seqK fun K2 hK2 => ?_
 refine Tr.w hcx [] _ [] rfl rfl rfl ?_ X_fc69
 refine Tr.cD rfl (fun hc15 => ?_) (fun hc15 => ?_)
 ·
  refine Tr.skip ?_
  refine hK2 _ ?_
  refine Tr.blk ?_
  refine Tr.v hcx [16, 1000018] _ [] rfl rfl rfl ?_ X_fc69
  refine ⟨z + 1, ⟨by unfold zpad at *; omega, by unfold zpad at *; omega⟩, ?_, rfl⟩
  (simp only [Le_nil, Le_cons, ↓A_cons, ↓reduceIte, Nat.reduceEqDiff, CLe_refl, CLe_top, CLe_full, CLe_nil, CLe_own, and_true, true_and]; all_goals (repeat' first | exact CLe.refl _ | exact True.intro | (refine CLe_sln ?_; first | rfl | (simp only [List.take_zero]; done)) | exact CLe_nI (by omega) | exact CLe_int (by omega) | exact CLe_inI (by omega) | exact CLe_nIi (by omega) | with_reducible apply And.intro))
  all_goals (refine CLe_sl ?_; rw [← rep_snoc z]; simp)
 obtain rfl : z = zpad b.length := by unfold zpad at *; omega
 refine Tr.exit ?_
 refine hK1 _ ?_
 refine Tr.w hcx [1000022] _ [] rfl rfl rfl ?_ X_fc69
 refine Tr.seqK fun K3 hK3 => ?_
 refine Tr.w hcx [] _ [] rfl rfl rfl ?_ X_fc69
 refine Tr.k [3, 4, 5] ?_
 refine Tr.blk ?_
 refine Tr.loopI (α := Nat) (fun a => [(3, sl bC (.own 1) (b ++ 128 :: List.replicate (zpad b.length) 0 ++ be64 (8 * b.length) a)), (4, ?v4_2), (5, .val (nI a))]) (fun a => ?h_2) (fun a => a ≤ 8) (fun a => 8 - a) (0) ?_ ?le_2 ?hh_2 ?bd_2
 case hh_2 => exact rfl
 case le_2 => (simp only [Le_nil, Le_cons, ↓A_cons, ↓reduceIte, Nat.reduceEqDiff, CLe_refl, CLe_top, CLe_full, CLe_nil, CLe_own, and_true, true_and]; all_goals (repeat' first | exact CLe.refl _ | exact True.intro | (refine CLe_sln ?_; first | rfl | (simp only [List.take_zero]; done)) | exact CLe_nI (by omega) | exact CLe_int (by omega) | exact CLe_inI (by omega) | exact CLe_nIi (by omega) | with_reducible apply And.intro)); all_goals exact CLe_sl (by simp [be64])
 · omega
 rintro k hk
 refine Tr.seqK fun K4 hK4 => ?_
 refine Tr.w hcx [] _ [] rfl rfl rfl ?_ X_fc69
 refine Tr.cD rfl (fun hc24 => ?_) (fun hc24 => ?_)
 ·
  refine Tr.skip ?_
  refine hK4 _ ?_
  refine Tr.seqK fun K5 hK5 => ?_
  refine Tr.blk ?_
  refine Tr.v hcx [27, 1000035] _ [] rfl rfl rfl ?_ X_fc69
  refine hK5 _ ?_
  refine Tr.v hcx [1000026] _ [] rfl rfl rfl ?_ X_fc69
  refine ⟨k + 1, ⟨by omega, O1⟩, ?_, rfl⟩
  (simp only [Le_nil, Le_cons, ↓A_cons, ↓reduceIte, Nat.reduceEqDiff, CLe_refl, CLe_top, CLe_full, CLe_nil, CLe_own, and_true, true_and]; all_goals (repeat' first | exact CLe.refl _ | exact True.intro | (refine CLe_sln ?_; first | rfl | (simp only [List.take_zero]; done)) | exact CLe_nI (by omega) | exact CLe_int (by omega) | exact CLe_inI (by omega) | exact CLe_nIi (by omega) | with_reducible apply And.intro))
  all_goals (refine CLe_sl ?_; rw [be64_succ]; simp)
 obtain rfl : k = 8 := by omega
 refine Tr.exit ?_
 refine hK3 _ ?_
 refine Tr.w hcx [1000036] _ [] rfl rfl rfl ?_ X_fc69
 exact Tr.ret F_fc69
theorem X_fc70 {p : Prop} (e : p := by intro KZ hZ; simp -implicitDefEqProofs (disch := first | omega | (simp only [go_sem, lA, lD, lT, sched_len, hb] <;> omega) | decide) only [go_sem, ↓reduceIte, Nat.reduceEqDiff, reduceCtorEq, Nat.reduceLT, Nat.reduceBEq, Nat.reduceAdd, Nat.reduceSub, Nat.reduceMul, Nat.reduceMod, h71, gt_left, gt_mid, set_rep, sched_len, hy]; exact hZ) : p := e
theorem Y_fc70 {p : Prop} (e : p := by intro KZ hZ; simp -implicitDefEqProofs (disch := first | omega | (simp only [go_sem, lA, lD, lT, sched_len, hb] <;> omega) | decide) only [go_sem, ↓reduceIte, Nat.reduceEqDiff, reduceCtorEq, Nat.reduceLT, Nat.reduceBEq, Nat.reduceAdd, Nat.reduceSub, Nat.reduceMul, Nat.reduceMod, h71, gt_left, gt_mid, set_rep, sched_len, hy]; refine And.intro ?_ hZ; exact rfl) : p := e
theorem F_fc70 {p : Prop} (e : p := by simp -implicitDefEqProofs (disch := first | omega | (simp only [go_sem, lA, lD, lT, sched_len, hb] <;> omega) | decide) only [go_sem, ↓reduceIte, Nat.reduceEqDiff, reduceCtorEq]; all_goals (simp)) : p := e
theorem fc70 {gl : Nat → C} {M : Nat} {pu : Nat → List C → Option C}  (hcx : CxOK (cxP gl M pu))  (h71 : ∀ x n, n < 32 → pu 71 [.val (w32 x), .val (nI n)] = some (.val (w32 (rr x n)))) (b : List UInt8) (hb : b.length = 64) : FC Tryd.prog gl 70 [sl bC .no b] [] (.agg (cl wC (sched b 64))) [] := by
 replace hcx := hcx.reN (M := 101)
 refine FC.ofA (cx := cxP gl 101 pu) (rs := [.cell 2 103]) rfl Tryd.func70 rfl rfl rfl (by simp only [List.length_cons, List.length_nil]; decide) (by simp only [go_sem]) ?_
 simp only [ini, go_sem]
 have hy := True.intro
 refine Tr.w hcx [] _ [none] rfl rfl rfl ?_ X_fc70
 refine Tr.w hcx [] _ [none] rfl rfl rfl ?_ X_fc70
 refine Tr.seqK fun K1 hK1 => ?_
 refine Tr.w hcx [] _ [] rfl rfl rfl ?_ X_fc70
 refine Tr.k [0, 2, 3, 4] ?_
 refine Tr.blk ?_
 refine Tr.loopI (α := Nat) (fun a => [(0, ?v0_1), (2, ?v2_1), (3, ?v3_1), (4, .val (nI a))]) (fun a => [some (cl wC (List.replicate 64 0)), some (cl wC (sched b a ++ List.replicate (64 - a) 0))]) (fun a => a ≤ 16) (fun a => 16 - a) (0) ?_ ?le_1 ?hh_1 ?bd_1
 case hh_1 => exact rfl
 case le_1 => exact LT
 · omega
 rintro t ht
 refine Tr.seqK fun K2 hK2 => ?_
 refine Tr.w hcx [] _ [] rfl rfl rfl ?_ X_fc70
 refine Tr.cD rfl (fun hc9 => ?_) (fun hc9 => ?_)
 ·
  refine Tr.skip ?_
  refine hK2 _ ?_
  refine Tr.k [0, 2, 3, 4] ?_
  refine Tr.seqK fun K3 hK3 => ?_
  refine Tr.blk ?_
  refine Tr.vD hcx hMO [] _ [] rfl rfl rfl rfl ?_ Y_fc70
  refine hK3 _ ?_
  refine Tr.k [0, 2, 3, 4] ?_
  refine Tr.v hcx [1000011] _ [] rfl rfl rfl ?_ X_fc70
  exact ⟨t + 1, ⟨by omega, O1⟩, LT, by dsimp only; rw [word_eq b t hc9]; first | rw [app_rep] | rw [app_rep63]; rfl⟩
 obtain rfl : t = 16 := by omega
 refine Tr.exit ?_
 refine hK1 _ ?_
 refine Tr.seqK fun K4 hK4 => ?_
 refine Tr.w hcx [] _ [] rfl rfl rfl ?_ X_fc70
 refine Tr.k [2, 3, 5] ?_
 refine Tr.blk ?_
 refine Tr.loopI (α := Nat) (fun a => [(2, ?v2_2), (3, ?v3_2), (5, .val (nI a))]) (fun a => [some (cl wC (List.replicate 64 0)), some (cl wC (sched b a ++ List.replicate (64 - a) 0))]) (fun a => 16 ≤ a ∧ a ≤ 64) (fun a => 64 - a) (16) ?_ ?le_2 ?hh_2 ?bd_2
 case hh_2 => exact rfl
 case le_2 => exact LT
 · exact ⟨by omega, by omega⟩
 rintro t ht
 refine Tr.seqK fun K5 hK5 => ?_
 refine Tr.w hcx [] _ [] rfl rfl rfl ?_ X_fc70
 refine Tr.cD rfl (fun hc48 => ?_) (fun hc48 => ?_)
 ·
  refine Tr.skip ?_
  refine hK5 _ ?_
  refine Tr.seqK fun K6 hK6 => ?_
  refine Tr.blk ?_
  refine Tr.wD hcx hMO [1000067] _ [] rfl rfl rfl rfl ?_ Y_fc70
  refine Tr.k [2, 3, 5, 6] ?_
  refine Tr.wD hcx hMO [1000084] _ [] rfl rfl rfl rfl ?_ Y_fc70
  refine Tr.k [2, 3, 5, 6, 7] ?_
  refine Tr.vD hcx hMO [] _ [] rfl rfl rfl rfl ?_ Y_fc70
  refine hK6 _ ?_
  refine Tr.v hcx [1000050] _ [] rfl rfl rfl ?_ X_fc70
  exact ⟨t + 1, ⟨by omega, O1⟩, LT, by dsimp only; rw [sched_big b t (by omega)]; first | rw [app_rep] | rw [app_rep63] <;> rfl⟩
 obtain rfl : t = 64 := by omega
 refine Tr.exit ?_
 refine hK4 _ ?_
 refine Tr.w hcx [] _ [] rfl rfl rfl ?_ X_fc70
 exact Tr.ret F_fc70
end Go.Sx
