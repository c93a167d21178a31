/-
  Package hash: contracts of functions. And what follows.
-/
import Derived.Test.YthjamgmeehjfmaaDoorPan
set_option linter.unusedSimpArgs false
set_option linter.unusedVariables false
namespace Go.Sx
open Go.RowKit Go.Proofs
set_option maxRecDepth 100000 in
set_option maxHeartbeats 8000000 in
theorem fc52 {gl : Nat → C} {M : Nat} {pu : Nat → List C → Option C}  (hcx : CxOK (cxP gl M pu))  : FC Tryd.prog gl 52 ([] : List C) [] (.agg F0.cells) [] := by
 replace hcx := hcx.reN (M := 3)
 refine FC.ofA (cx := cxP gl 3 pu) (rs := [.cell 0 85]) rfl Tryd.func52 rfl rfl rfl (by simp only [List.length_cons, List.length_nil]; decide) (by simp only [Str.cells, noRef_val, noRef_agg, noRef_tup, noRef_kp, noRef_sl, noRefs_cl, noRefs_cons, noRefs_nil, noRefs_app, Bool.and_self, Bool.and_true]) ?_
 simp only [ini, go_sem]
 refine Tr.seqK fun K1 hK1 => ?_
 refine Tr.rg hcx [] _ [none] rfl rfl rfl ?_
 simp -implicitDefEqProofs (maxSteps := 2000000) (disch := first | omega | (simp only [go_sem, List.length_append, List.length_drop, List.length_take] <;> omega) | decide) only [go_sem, ↓reduceIte, Nat.reduceEqDiff, reduceCtorEq, Nat.reduceLT, Nat.reduceBEq, Nat.reduceAdd, Nat.reduceSub, Nat.reduceMul, Nat.reduceMod]
 refine hK1 _ ?_
 clear hK1 K1
 refine Tr.kp [0] ?_
 simp only [pk_cons, pk_nil, ↓A_cons, ↓reduceIte, Nat.reduceEqDiff]
 refine Tr.seqK fun K2 hK2 => ?_
 refine Tr.rg hcx [] _ [] rfl rfl rfl ?_
 simp -implicitDefEqProofs (maxSteps := 2000000) (disch := first | omega | (simp only [go_sem, List.length_append, List.length_drop, List.length_take] <;> omega) | decide) only [go_sem, ↓reduceIte, Nat.reduceEqDiff, reduceCtorEq, Nat.reduceLT, Nat.reduceBEq, Nat.reduceAdd, Nat.reduceSub, Nat.reduceMul, Nat.reduceMod]
 refine hK2 _ ?_
 clear hK2 K2
 refine Tr.kp [0] ?_
 simp only [pk_cons, pk_nil, ↓A_cons, ↓reduceIte, Nat.reduceEqDiff]
 refine Tr.ret ?_
 simp -implicitDefEqProofs (disch := first | omega | (simp only [go_sem, List.length_append, List.length_drop, List.length_take] <;> omega) | decide) only [go_sem, ↓reduceIte, Nat.reduceEqDiff, reduceCtorEq]
 all_goals (rfl)
set_option maxRecDepth 100000 in
set_option maxHeartbeats 8000000 in
theorem fc53 {gl : Nat → C} {M : Nat} {pu : Nat → List C → Option C}  (hcx : CxOK (cxP gl M pu)) (h67 : ∀ (s : S8) (b : List UInt8), b.length = 64 → pu 67 [.agg (cl wC s.l), sl bC .no b] = some (.agg (cl wC (comp s b).l))) (hno : ∀ (g : Nat) (xs : List C), refy xs = true → pu g xs = none) (F : Str) (t : List UInt8) (hb : F.blk.length = 64) (hn : F.n + t.length < 1152921504606846976) : FC Tryd.prog gl 53 [.agg F.cells, .val (str t)] [] (.agg (feed F t).cells) [] := by
 replace hcx := hcx.reN (M := 38)
 refine FC.ofA (cx := cxP gl 38 pu) (rs := [.cell 4 85]) rfl Tryd.func53 rfl rfl rfl (by simp only [List.length_cons, List.length_nil]; decide) (by simp only [Str.cells, noRef_val, noRef_agg, noRef_tup, noRef_kp, noRef_sl, noRefs_cl, noRefs_cons, noRefs_nil, noRefs_app, Bool.and_self, Bool.and_true]) ?_
 simp only [ini, go_sem]
 refine Tr.seqK fun K1 hK1 => ?_
 refine Tr.rg hcx [] _ [none, none] rfl rfl rfl ?_
 simp -implicitDefEqProofs (maxSteps := 2000000) (disch := first | omega | (simp only [go_sem, List.length_append, List.length_drop, List.length_take, S8.l_len, Z8_len] <;> omega) | decide) only [go_sem, ↓reduceIte, Nat.reduceEqDiff, reduceCtorEq, Nat.reduceLT, Nat.reduceBEq, Nat.reduceAdd, Nat.reduceSub, Nat.reduceMul, Nat.reduceMod, Str.cells, h67, hno, S8.l_len, take_drop_len]
 refine hK1 _ ?_
 clear hK1 K1
 refine Tr.kp [1, 2, 4] ?_
 simp only [pk_cons, pk_nil, ↓A_cons, ↓reduceIte, Nat.reduceEqDiff]
 refine Tr.seqK fun K2 hK2 => ?_
 refine Tr.blk ?_
 refine Tr.loopI (α := Nat) (fun a => [(1, .val (str (t.drop a))), (2, ?v2_9), (4, ?v4_9)]) (fun a => [some (feed F (t.take a)).cells, some (cl wC Z8 ++ (cl bC (List.replicate 64 0) ++ [.val (nU 0)]))]) (fun a => a ≤ t.length) (fun a => t.length - a) (0) ?_ ?le_9 ?hh_9 ?bd_9
 case hh_9 => exact rfl
 case le_9 => (simp only [Le_nil, Le_cons, ↓A_cons, ↓reduceIte, Nat.reduceEqDiff, reduceCtorEq, CLe_refl, CLe_top, CLe_full, CLe_nil, CLe_own, and_true, true_and]; all_goals (repeat' first | exact CLe.refl _ | exact True.intro | (refine CLe_sln ?_; first | with_reducible rfl | (simp only [List.take_zero]; done) | (rfl; done)) | exact CLe_nI (by omega) | exact CLe_int (by omega) | exact CLe_inI (by omega) | exact CLe_nIi (by omega) | with_reducible apply And.intro))
 · omega
 case bd_9 =>
  rintro c hc
  have hGn := feed_n (t.take c) F
  have hGb := feed_len (t.take c) F
  rw [hb] at hGb
  rw [List.length_take, Nat.min_eq_left hc] at hGn
  have hdl : (t.drop c).length = t.length - c := List.length_drop
  generalize hG : feed F (t.take c) = G at *
  generalize hL : t.drop c = L at *
  refine Tr.seqK fun K3 hK3 => ?_
  refine Tr.seqK fun K4 hK4 => ?_
  refine Tr.rg hcx [] _ [] rfl rfl rfl ?_
  simp -implicitDefEqProofs (maxSteps := 2000000) (disch := first | omega | (simp only [go_sem, List.length_append, List.length_drop, List.length_take, S8.l_len, Z8_len] <;> omega) | decide) only [go_sem, ↓reduceIte, Nat.reduceEqDiff, reduceCtorEq, Nat.reduceLT, Nat.reduceBEq, Nat.reduceAdd, Nat.reduceSub, Nat.reduceMul, Nat.reduceMod, Str.cells, h67, hno, S8.l_len, take_drop_len]
  refine hK4 _ ?_
  clear hK4 K4
  refine Tr.kp [1, 2, 4, 8] ?_
  simp only [pk_cons, pk_nil, ↓A_cons, ↓reduceIte, Nat.reduceEqDiff]
  refine Tr.condG fun KT KF hT hF => ?_
  simp only [ev_tmp, ev_const, ↓A_cons, ↓reduceIte, Nat.reduceEqDiff, reduceCtorEq, condG_bool, GB_true, GB_false, decide_eq_true_eq]
  refine GB.dec (fun hc8 => hT ?_) (fun hc8 => hF ?_)
  ·
   clear hT hF KT KF
   have hlp : 0 < L.length := List.length_pos_iff.2 hc8
   refine Tr.skip ?_
   refine hK3 _ ?_
   clear hK3 K3
   refine Tr.kp [1, 2, 4] ?_
   simp only [pk_cons, pk_nil, ↓A_cons, ↓reduceIte, Nat.reduceEqDiff]
   refine Tr.blk ?_
   refine Tr.seqK fun K5 hK5 => ?_
   refine Tr.rg hcx [1000012] _ [] rfl rfl rfl ?_
   simp -implicitDefEqProofs (maxSteps := 2000000) (disch := first | omega | (simp only [go_sem, List.length_append, List.length_drop, List.length_take, S8.l_len, Z8_len] <;> omega) | decide) only [go_sem, ↓reduceIte, Nat.reduceEqDiff, reduceCtorEq, Nat.reduceLT, Nat.reduceBEq, Nat.reduceAdd, Nat.reduceSub, Nat.reduceMul, Nat.reduceMod, Str.cells, h67, hno, S8.l_len, take_drop_len]
   refine hK5 _ ?_
   clear hK5 K5
   refine Tr.kp [1, 2, 4, 5] ?_
   simp only [pk_cons, pk_nil, ↓A_cons, ↓reduceIte, Nat.reduceEqDiff]
   refine Tr.seqK fun K6 hK6 => ?_
   refine Tr.rg hcx [1000017] _ [] rfl rfl rfl ?_
   simp -implicitDefEqProofs (maxSteps := 2000000) (disch := first | omega | (simp only [go_sem, List.length_append, List.length_drop, List.length_take, S8.l_len, Z8_len] <;> omega) | decide) only [go_sem, ↓reduceIte, Nat.reduceEqDiff, reduceCtorEq, Nat.reduceLT, Nat.reduceBEq, Nat.reduceAdd, Nat.reduceSub, Nat.reduceMul, Nat.reduceMod, Str.cells, h67, hno, S8.l_len, take_drop_len]
   refine hK6 _ ?_
   clear hK6 K6
   refine Tr.kp [1, 2, 4, 5, 6] ?_
   simp only [pk_cons, pk_nil, ↓A_cons, ↓reduceIte, Nat.reduceEqDiff]
   refine Tr.seqK fun K7 hK7 => ?_
   refine Tr.rg hcx [1000020] _ [] rfl rfl rfl ?_
   simp -implicitDefEqProofs (maxSteps := 2000000) (disch := first | omega | (simp only [go_sem, List.length_append, List.length_drop, List.length_take, S8.l_len, Z8_len] <;> omega) | decide) only [go_sem, ↓reduceIte, Nat.reduceEqDiff, reduceCtorEq, Nat.reduceLT, Nat.reduceBEq, Nat.reduceAdd, Nat.reduceSub, Nat.reduceMul, Nat.reduceMod, Str.cells, h67, hno, S8.l_len, take_drop_len]
   refine hK7 _ ?_
   clear hK7 K7
   refine Tr.kp [1, 2, 4, 5, 6] ?_
   simp only [pk_cons, pk_nil, ↓A_cons, ↓reduceIte, Nat.reduceEqDiff]
   refine Tr.seqK fun K8 hK8 => ?_
   refine Tr.rg hcx [] _ [] rfl rfl rfl ?_
   simp -implicitDefEqProofs (maxSteps := 2000000) (disch := first | omega | (simp only [go_sem, List.length_append, List.length_drop, List.length_take, S8.l_len, Z8_len] <;> omega) | decide) only [go_sem, ↓reduceIte, Nat.reduceEqDiff, reduceCtorEq, Nat.reduceLT, Nat.reduceBEq, Nat.reduceAdd, Nat.reduceSub, Nat.reduceMul, Nat.reduceMod, Str.cells, h67, hno, S8.l_len, take_drop_len]
   refine hK8 _ ?_
   clear hK8 K8
   refine Tr.kp [1, 2, 4, 5, 6] ?_
   simp only [pk_cons, pk_nil, ↓A_cons, ↓reduceIte, Nat.reduceEqDiff]
   refine Tr.seqK fun K9 hK9 => ?_
   refine Tr.rg hcx [] _ [] rfl rfl rfl ?_
   simp -implicitDefEqProofs (maxSteps := 2000000) (disch := first | omega | (simp only [go_sem, List.length_append, List.length_drop, List.length_take, S8.l_len, Z8_len] <;> omega) | decide) only [go_sem, ↓reduceIte, Nat.reduceEqDiff, reduceCtorEq, Nat.reduceLT, Nat.reduceBEq, Nat.reduceAdd, Nat.reduceSub, Nat.reduceMul, Nat.reduceMod, Str.cells, h67, hno, S8.l_len, take_drop_len]
   refine hK9 _ ?_
   clear hK9 K9
   refine Tr.kp [1, 2, 4, 30] ?_
   simp only [pk_cons, pk_nil, ↓A_cons, ↓reduceIte, Nat.reduceEqDiff]
   refine Tr.condG fun KT KF hT hF => ?_
   simp only [ev_tmp, ev_const, ↓A_cons, ↓reduceIte, Nat.reduceEqDiff, reduceCtorEq, condG_bool, GB_true, GB_false, decide_eq_true_eq]
   refine GB.dec (fun hc30 => hT ?_) (fun hc30 => hF ?_)
   ·
    clear hT hF KT KF
    refine Tr.rgD hcx hMO [] _ [] rfl rfl rfl rfl ?_
    simp -implicitDefEqProofs (maxSteps := 2000000) (disch := first | omega | (simp only [go_sem, List.length_append, List.length_drop, List.length_take, S8.l_len, Z8_len] <;> omega) | decide) only [go_sem, ↓reduceIte, Nat.reduceEqDiff, reduceCtorEq, Nat.reduceLT, Nat.reduceBEq, Nat.reduceAdd, Nat.reduceSub, Nat.reduceMul, Nat.reduceMod, Str.cells, h67, hno, S8.l_len, take_drop_len]
    with_reducible refine And.intro ?_ ?_
    · exact rfl
    refine ⟨c + min L.length (64 - G.n % 64), ⟨by omega, by first | omega | (simp only []; omega)⟩, ?_, by dsimp only; rw [add_step F G t L c hG hL hGb hc8]; first | (rw [if_pos hc30] <;> rfl) | (rw [if_neg hc30] <;> rfl)⟩
    (simp only [Le_nil, Le_cons, ↓A_cons, ↓reduceIte, Nat.reduceEqDiff, reduceCtorEq, CLe_refl, CLe_top, CLe_full, CLe_nil, CLe_own, and_true, true_and]; all_goals (repeat' first | exact CLe.refl _ | exact True.intro | (refine CLe_sln ?_; first | with_reducible rfl | (simp only [List.take_zero]; done) | (rfl; done)) | exact CLe_nI (by omega) | exact CLe_int (by omega) | exact CLe_inI (by omega) | exact CLe_nIi (by omega) | with_reducible apply And.intro))
    all_goals (rw [← hL, List.drop_drop]; exact CLe.refl _)
   ·
    clear hT hF KT KF
    refine Tr.skip ?_
    refine ⟨c + min L.length (64 - G.n % 64), ⟨by omega, by first | omega | (simp only []; omega)⟩, ?_, by dsimp only; rw [add_step F G t L c hG hL hGb hc8]; first | (rw [if_pos hc30] <;> rfl) | (rw [if_neg hc30] <;> rfl)⟩
    (simp only [Le_nil, Le_cons, ↓A_cons, ↓reduceIte, Nat.reduceEqDiff, reduceCtorEq, CLe_refl, CLe_top, CLe_full, CLe_nil, CLe_own, and_true, true_and]; all_goals (repeat' first | exact CLe.refl _ | exact True.intro | (refine CLe_sln ?_; first | with_reducible rfl | (simp only [List.take_zero]; done) | (rfl; done)) | exact CLe_nI (by omega) | exact CLe_int (by omega) | exact CLe_inI (by omega) | exact CLe_nIi (by omega) | with_reducible apply And.intro))
    all_goals (rw [← hL, List.drop_drop]; exact CLe.refl _)
  ·
   clear hT hF KT KF
   have hL0 : L = [] := Classical.not_not.1 hc8
   have hc0 : c = t.length := by rw [hL0] at hdl; simp only [List.length_nil] at hdl; omega
   have hGe : feed F t = G := by rw [← hG, hc0, List.take_length]
   refine Tr.exit ?_
   refine hK2 _ ?_
   clear hK3 K3 hK2 K2
   refine Tr.kp [2, 4] ?_
   simp only [pk_cons, pk_nil, ↓A_cons, ↓reduceIte, Nat.reduceEqDiff]
   refine Tr.seqK fun K10 hK10 => ?_
   refine Tr.rg hcx [] _ [] rfl rfl rfl ?_
   simp -implicitDefEqProofs (maxSteps := 2000000) (disch := first | omega | (simp only [go_sem, List.length_append, List.length_drop, List.length_take, S8.l_len, Z8_len] <;> omega) | decide) only [go_sem, ↓reduceIte, Nat.reduceEqDiff, reduceCtorEq, Nat.reduceLT, Nat.reduceBEq, Nat.reduceAdd, Nat.reduceSub, Nat.reduceMul, Nat.reduceMod, Str.cells, h67, hno, S8.l_len, take_drop_len]
   refine hK10 _ ?_
   clear hK10 K10
   refine Tr.kp [4] ?_
   simp only [pk_cons, pk_nil, ↓A_cons, ↓reduceIte, Nat.reduceEqDiff]
   refine Tr.ret ?_
   simp -implicitDefEqProofs (disch := first | omega | (simp only [go_sem, List.length_append, List.length_drop, List.length_take, S8.l_len, Z8_len] <;> omega) | decide) only [go_sem, ↓reduceIte, Nat.reduceEqDiff, reduceCtorEq]
   all_goals (rw [hGe]; rfl)
set_option maxRecDepth 100000 in
set_option maxHeartbeats 8000000 in
theorem fc55 {gl : Nat → C} {M : Nat} {pu : Nat → List C → Option C}  (hcx : CxOK (cxP gl M pu)) (h53 : ∀ (s : S8) (blk : List UInt8) (n : Nat) (t : List UInt8), blk.length = 64 → n + t.length < 1152921504606846976 → pu 53 [.agg (cl wC s.l ++ (cl bC blk ++ [.val (nU n)])), .val (str t)] = some (.agg (feed ⟨s, blk, n⟩ t).cells)) (F : Str) (hb : F.blk.length = 64) (hn : F.n < 576460752303423488) : FC Tryd.prog gl 55 [.agg F.cells] [] (.agg (cl bC (sumF F))) [] := by
 replace hcx := hcx.reN (M := 58)
 refine FC.ofA (cx := cxP gl 58 pu) (rs := [.cell 2 89]) rfl Tryd.func55 rfl rfl rfl (by simp only [List.length_cons, List.length_nil]; decide) (by simp only [go_sem]) ?_
 simp only [ini, go_sem]
 have hz : zpad F.n < 64 := Nat.mod_lt _ (by decide)
 refine Tr.seqK fun K1 hK1 => ?_
 refine Tr.rg hcx [] _ [none, none] rfl rfl rfl ?_
 simp -implicitDefEqProofs (maxSteps := 2000000) (disch := first | omega | (simp only [go_sem, List.length_append, List.length_drop, List.length_take, S8.l_len, be64_len, dig_len, feed_len, hb] <;> omega) | decide) only [go_sem, ↓reduceIte, Nat.reduceEqDiff, reduceCtorEq, Nat.reduceLT, Nat.reduceBEq, Nat.reduceAdd, Nat.reduceSub, Nat.reduceMul, Nat.reduceMod, Str.cells, h53, S8.l_len, be64_len, dig_len, set_rep, Str_eta]
 refine hK1 _ ?_
 clear hK1 K1
 refine Tr.kp [1, 2] ?_
 simp only [pk_cons, pk_nil, ↓A_cons, ↓reduceIte, Nat.reduceEqDiff]
 refine Tr.seqK fun K2 hK2 => ?_
 refine Tr.rg hcx [1000010] _ [] rfl rfl rfl ?_
 simp -implicitDefEqProofs (maxSteps := 2000000) (disch := first | omega | (simp only [go_sem, List.length_append, List.length_drop, List.length_take, S8.l_len, be64_len, dig_len, feed_len, hb] <;> omega) | decide) only [go_sem, ↓reduceIte, Nat.reduceEqDiff, reduceCtorEq, Nat.reduceLT, Nat.reduceBEq, Nat.reduceAdd, Nat.reduceSub, Nat.reduceMul, Nat.reduceMod, Str.cells, h53, S8.l_len, be64_len, dig_len, set_rep, Str_eta]
 refine hK2 _ ?_
 clear hK2 K2
 refine Tr.kp [1, 2, 3] ?_
 simp only [pk_cons, pk_nil, ↓A_cons, ↓reduceIte, Nat.reduceEqDiff]
 refine Tr.seqK fun K3 hK3 => ?_
 refine Tr.rg hcx [1000011] _ [] rfl rfl rfl ?_
 simp -implicitDefEqProofs (maxSteps := 2000000) (disch := first | omega | (simp only [go_sem, List.length_append, List.length_drop, List.length_take, S8.l_len, be64_len, dig_len, feed_len, hb] <;> omega) | decide) only [go_sem, ↓reduceIte, Nat.reduceEqDiff, reduceCtorEq, Nat.reduceLT, Nat.reduceBEq, Nat.reduceAdd, Nat.reduceSub, Nat.reduceMul, Nat.reduceMod, Str.cells, h53, S8.l_len, be64_len, dig_len, set_rep, Str_eta]
 refine hK3 _ ?_
 clear hK3 K3
 refine Tr.kp [1, 2, 3, 4] ?_
 simp only [pk_cons, pk_nil, ↓A_cons, ↓reduceIte, Nat.reduceEqDiff]
 refine Tr.seqK fun K4 hK4 => ?_
 refine Tr.blk ?_
 refine Tr.loopI (α := Nat) (fun a => [(1, ?v1_41), (2, ?v2_41), (3, ?v3_41), (4, sl bC (.own 1) (128 :: List.replicate a 0))]) (fun a => [some F.cells, some (cl bC (List.replicate 32 0))]) (fun a => a ≤ zpad F.n) (fun a => zpad F.n - a) (0) ?_ ?le_41 ?hh_41 ?bd_41
 case hh_41 => exact rfl
 case le_41 => (simp only [Le_nil, Le_cons, ↓A_cons, ↓reduceIte, Nat.reduceEqDiff, reduceCtorEq, CLe_refl, CLe_top, CLe_full, CLe_nil, CLe_own, and_true, true_and]; all_goals (repeat' first | exact CLe.refl _ | exact True.intro | (refine CLe_sln ?_; first | with_reducible rfl | (simp only [List.take_zero]; done) | (rfl; done)) | exact CLe_nI (by omega) | exact CLe_int (by omega) | exact CLe_inI (by omega) | exact CLe_nIi (by omega) | with_reducible apply And.intro)); exact CLe.full _ _ _
 · omega
 case bd_41 =>
  rintro z hzz
  refine Tr.seqK fun K5 hK5 => ?_
  refine Tr.seqK fun K6 hK6 => ?_
  refine Tr.rg hcx [] _ [] rfl rfl rfl ?_
  simp -implicitDefEqProofs (maxSteps := 2000000) (disch := first | omega | (simp only [go_sem, List.length_append, List.length_drop, List.length_take, S8.l_len, be64_len, dig_len, feed_len, hb] <;> omega) | decide) only [go_sem, ↓reduceIte, Nat.reduceEqDiff, reduceCtorEq, Nat.reduceLT, Nat.reduceBEq, Nat.reduceAdd, Nat.reduceSub, Nat.reduceMul, Nat.reduceMod, Str.cells, h53, S8.l_len, be64_len, dig_len, set_rep, Str_eta]
  refine hK6 _ ?_
  clear hK6 K6
  refine Tr.kp [1, 2, 3, 4, 19] ?_
  simp only [pk_cons, pk_nil, ↓A_cons, ↓reduceIte, Nat.reduceEqDiff]
  refine Tr.condG fun KT KF hT hF => ?_
  simp only [ev_tmp, ev_const, ↓A_cons, ↓reduceIte, Nat.reduceEqDiff, reduceCtorEq, condG_bool, GB_true, GB_false, decide_eq_true_eq]
  refine GB.dec (fun hc19 => hT ?_) (fun hc19 => hF ?_)
  ·
   clear hT hF KT KF
   refine Tr.skip ?_
   refine hK5 _ ?_
   clear hK5 K5
   refine Tr.kp [1, 2, 3, 4] ?_
   simp only [pk_cons, pk_nil, ↓A_cons, ↓reduceIte, Nat.reduceEqDiff]
   refine Tr.blk ?_
   refine Tr.rg hcx [20, 1000022] _ [] rfl rfl rfl ?_
   simp -implicitDefEqProofs (maxSteps := 2000000) (disch := first | omega | (simp only [go_sem, List.length_append, List.length_drop, List.length_take, S8.l_len, be64_len, dig_len, feed_len, hb] <;> omega) | decide) only [go_sem, ↓reduceIte, Nat.reduceEqDiff, reduceCtorEq, Nat.reduceLT, Nat.reduceBEq, Nat.reduceAdd, Nat.reduceSub, Nat.reduceMul, Nat.reduceMod, Str.cells, h53, S8.l_len, be64_len, dig_len, set_rep, Str_eta]
   refine ⟨z + 1, ⟨by unfold zpad at *; omega, by unfold zpad at *; omega⟩, ?_, rfl⟩
   (simp only [Le_nil, Le_cons, ↓A_cons, ↓reduceIte, Nat.reduceEqDiff, reduceCtorEq, CLe_refl, CLe_top, CLe_full, CLe_nil, CLe_own, and_true, true_and]; all_goals (repeat' first | exact CLe.refl _ | exact True.intro | (refine CLe_sln ?_; first | with_reducible rfl | (simp only [List.take_zero]; done) | (rfl; done)) | exact CLe_nI (by omega) | exact CLe_int (by omega) | exact CLe_inI (by omega) | exact CLe_nIi (by omega) | with_reducible apply And.intro))
   all_goals (rw [List.replicate_succ']; exact CLe.refl _)
  ·
   clear hT hF KT KF
   obtain rfl : z = zpad F.n := by unfold zpad at *; omega
   refine Tr.exit ?_
   refine hK4 _ ?_
   clear hK5 K5 hK4 K4
   refine Tr.kp [1, 2, 3, 4] ?_
   simp only [pk_cons, pk_nil, ↓A_cons, ↓reduceIte, Nat.reduceEqDiff]
   refine Tr.seqK fun K7 hK7 => ?_
   refine Tr.seqK fun K8 hK8 => ?_
   refine Tr.rg hcx [] _ [] rfl rfl rfl ?_
   simp -implicitDefEqProofs (maxSteps := 2000000) (disch := first | omega | (simp only [go_sem, List.length_append, List.length_drop, List.length_take, S8.l_len, be64_len, dig_len, feed_len, hb] <;> omega) | decide) only [go_sem, ↓reduceIte, Nat.reduceEqDiff, reduceCtorEq, Nat.reduceLT, Nat.reduceBEq, Nat.reduceAdd, Nat.reduceSub, Nat.reduceMul, Nat.reduceMod, Str.cells, h53, S8.l_len, be64_len, dig_len, set_rep, Str_eta]
   refine hK8 _ ?_
   clear hK8 K8
   refine Tr.kp [1, 2, 3, 4, 23] ?_
   simp only [pk_cons, pk_nil, ↓A_cons, ↓reduceIte, Nat.reduceEqDiff]
   refine Tr.blk ?_
   refine Tr.loopI (α := Nat) (fun a => [(1, ?v1_54), (2, ?v2_54), (3, ?v3_54), (4, sl bC (.own 1) (128 :: List.replicate (zpad F.n) 0 ++ be64 (8 * F.n) a)), (23, .val (nI a))]) (fun a => [some F.cells, some (cl bC (List.replicate 32 0))]) (fun a => a ≤ 8) (fun a => 8 - a) (0) ?_ ?le_54 ?hh_54 ?bd_54
   case hh_54 => exact rfl
   case le_54 => (simp only [Le_nil, Le_cons, ↓A_cons, ↓reduceIte, Nat.reduceEqDiff, reduceCtorEq, CLe_refl, CLe_top, CLe_full, CLe_nil, CLe_own, and_true, true_and]; all_goals (repeat' first | exact CLe.refl _ | exact True.intro | (refine CLe_sln ?_; first | with_reducible rfl | (simp only [List.take_zero]; done) | (rfl; done)) | exact CLe_nI (by omega) | exact CLe_int (by omega) | exact CLe_inI (by omega) | exact CLe_nIi (by omega) | with_reducible apply And.intro)); all_goals (simp only [be64, List.range_zero, List.map_nil, List.append_nil]; exact CLe.refl _)
   · omega
   case bd_54 =>
    rintro k hk
    refine Tr.seqK fun K9 hK9 => ?_
    refine Tr.rg hcx [] _ [] rfl rfl rfl ?_
    simp -implicitDefEqProofs (maxSteps := 2000000) (disch := first | omega | (simp only [go_sem, List.length_append, List.length_drop, List.length_take, S8.l_len, be64_len, dig_len, feed_len, hb] <;> omega) | decide) only [go_sem, ↓reduceIte, Nat.reduceEqDiff, reduceCtorEq, Nat.reduceLT, Nat.reduceBEq, Nat.reduceAdd, Nat.reduceSub, Nat.reduceMul, Nat.reduceMod, Str.cells, h53, S8.l_len, be64_len, dig_len, set_rep, Str_eta]
    refine hK9 _ ?_
    clear hK9 K9
    refine Tr.kp [1, 2, 3, 4, 23, 24] ?_
    simp only [pk_cons, pk_nil, ↓A_cons, ↓reduceIte, Nat.reduceEqDiff]
    refine Tr.seqK fun K10 hK10 => ?_
    refine Tr.condG fun KT KF hT hF => ?_
    simp only [ev_tmp, ev_const, ↓A_cons, ↓reduceIte, Nat.reduceEqDiff, reduceCtorEq, condG_bool, GB_true, GB_false, decide_eq_true_eq]
    refine GB.dec (fun hc24 => hT ?_) (fun hc24 => hF ?_)
    ·
     clear hT hF KT KF
     refine Tr.skip ?_
     refine hK10 _ ?_
     clear hK10 K10
     refine Tr.kp [1, 2, 3, 4, 23] ?_
     simp only [pk_cons, pk_nil, ↓A_cons, ↓reduceIte, Nat.reduceEqDiff]
     refine Tr.seqK fun K11 hK11 => ?_
     refine Tr.blk ?_
     refine Tr.seqK fun K12 hK12 => ?_
     refine Tr.rg hcx [1000025] _ [] rfl rfl rfl ?_
     simp -implicitDefEqProofs (maxSteps := 2000000) (disch := first | omega | (simp only [go_sem, List.length_append, List.length_drop, List.length_take, S8.l_len, be64_len, dig_len, feed_len, hb] <;> omega) | decide) only [go_sem, ↓reduceIte, Nat.reduceEqDiff, reduceCtorEq, Nat.reduceLT, Nat.reduceBEq, Nat.reduceAdd, Nat.reduceSub, Nat.reduceMul, Nat.reduceMod, Str.cells, h53, S8.l_len, be64_len, dig_len, set_rep, Str_eta]
     refine hK12 _ ?_
     clear hK12 K12
     refine Tr.kp [1, 2, 3, 4, 5, 23] ?_
     simp only [pk_cons, pk_nil, ↓A_cons, ↓reduceIte, Nat.reduceEqDiff]
     refine Tr.rg hcx [26, 1000034] _ [] rfl rfl rfl ?_
     simp -implicitDefEqProofs (maxSteps := 2000000) (disch := first | omega | (simp only [go_sem, List.length_append, List.length_drop, List.length_take, S8.l_len, be64_len, dig_len, feed_len, hb] <;> omega) | decide) only [go_sem, ↓reduceIte, Nat.reduceEqDiff, reduceCtorEq, Nat.reduceLT, Nat.reduceBEq, Nat.reduceAdd, Nat.reduceSub, Nat.reduceMul, Nat.reduceMod, Str.cells, h53, S8.l_len, be64_len, dig_len, set_rep, Str_eta]
     refine hK11 _ ?_
     clear hK11 K11
     refine Tr.kp [1, 2, 3, 4, 23] ?_
     simp only [pk_cons, pk_nil, ↓A_cons, ↓reduceIte, Nat.reduceEqDiff]
     refine Tr.rg hcx [] _ [] rfl rfl rfl ?_
     simp -implicitDefEqProofs (maxSteps := 2000000) (disch := first | omega | (simp only [go_sem, List.length_append, List.length_drop, List.length_take, S8.l_len, be64_len, dig_len, feed_len, hb] <;> omega) | decide) only [go_sem, ↓reduceIte, Nat.reduceEqDiff, reduceCtorEq, Nat.reduceLT, Nat.reduceBEq, Nat.reduceAdd, Nat.reduceSub, Nat.reduceMul, Nat.reduceMod, Str.cells, h53, S8.l_len, be64_len, dig_len, set_rep, Str_eta]
     refine ⟨k + 1, ⟨by omega, by first | omega | (simp only []; omega)⟩, ?_, rfl⟩
     (simp only [Le_nil, Le_cons, ↓A_cons, ↓reduceIte, Nat.reduceEqDiff, reduceCtorEq, CLe_refl, CLe_top, CLe_full, CLe_nil, CLe_own, and_true, true_and]; all_goals (repeat' first | exact CLe.refl _ | exact True.intro | (refine CLe_sln ?_; first | with_reducible rfl | (simp only [List.take_zero]; done) | (rfl; done)) | exact CLe_nI (by omega) | exact CLe_int (by omega) | exact CLe_inI (by omega) | exact CLe_nIi (by omega) | with_reducible apply And.intro))
     all_goals (rw [be64_succ, ← List.append_assoc]; exact CLe.refl _)
    ·
     clear hT hF KT KF
     obtain rfl : k = 8 := by omega
     refine Tr.exit ?_
     refine hK7 _ ?_
     clear hK10 K10 hK7 K7
     refine Tr.kp [1, 2, 4] ?_
     simp only [pk_cons, pk_nil, ↓A_cons, ↓reduceIte, Nat.reduceEqDiff]
     refine Tr.seqK fun K13 hK13 => ?_
     refine Tr.rg hcx [] _ [] rfl rfl rfl ?_
     simp -implicitDefEqProofs (maxSteps := 2000000) (disch := first | omega | (simp only [go_sem, List.length_append, List.length_drop, List.length_take, S8.l_len, be64_len, dig_len, feed_len, hb] <;> omega) | decide) only [go_sem, ↓reduceIte, Nat.reduceEqDiff, reduceCtorEq, Nat.reduceLT, Nat.reduceBEq, Nat.reduceAdd, Nat.reduceSub, Nat.reduceMul, Nat.reduceMod, Str.cells, h53, S8.l_len, be64_len, dig_len, set_rep, Str_eta]
     refine hK13 _ ?_
     clear hK13 K13
     refine Tr.kp [1, 2] ?_
     simp only [pk_cons, pk_nil, ↓A_cons, ↓reduceIte, Nat.reduceEqDiff]
     refine Tr.seqK fun K14 hK14 => ?_
     refine Tr.rg hcx [] _ [none] rfl rfl rfl ?_
     simp -implicitDefEqProofs (maxSteps := 2000000) (disch := first | omega | (simp only [go_sem, List.length_append, List.length_drop, List.length_take, S8.l_len, be64_len, dig_len, feed_len, hb] <;> omega) | decide) only [go_sem, ↓reduceIte, Nat.reduceEqDiff, reduceCtorEq, Nat.reduceLT, Nat.reduceBEq, Nat.reduceAdd, Nat.reduceSub, Nat.reduceMul, Nat.reduceMod, Str.cells, h53, S8.l_len, be64_len, dig_len, set_rep, Str_eta]
     refine hK14 _ ?_
     clear hK14 K14
     refine Tr.kp [1, 2, 6] ?_
     simp only [pk_cons, pk_nil, ↓A_cons, ↓reduceIte, Nat.reduceEqDiff]
     refine Tr.seqK fun K15 hK15 => ?_
     refine Tr.seqK fun K16 hK16 => ?_
     refine Tr.rg hcx [] _ [] rfl rfl rfl ?_
     simp -implicitDefEqProofs (maxSteps := 2000000) (disch := first | omega | (simp only [go_sem, List.length_append, List.length_drop, List.length_take, S8.l_len, be64_len, dig_len, feed_len, hb] <;> omega) | decide) only [go_sem, ↓reduceIte, Nat.reduceEqDiff, reduceCtorEq, Nat.reduceLT, Nat.reduceBEq, Nat.reduceAdd, Nat.reduceSub, Nat.reduceMul, Nat.reduceMod, Str.cells, h53, S8.l_len, be64_len, dig_len, set_rep, Str_eta]
     refine hK16 _ ?_
     clear hK16 K16
     refine Tr.kp [1, 2, 6, 40] ?_
     simp only [pk_cons, pk_nil, ↓A_cons, ↓reduceIte, Nat.reduceEqDiff]
     refine Tr.blk ?_
     refine Tr.loopI (α := Nat) (fun a => [(1, ?v1_75), (2, ?v2_75), (6, ?v6_75), (40, .val (nI a))]) (fun a => [some (feed F (pad F.n)).cells, some (cl bC (List.replicate 32 0)), some (cl bC (dig (feed F (pad F.n)).s a ++ List.replicate (32 - a) 0))]) (fun a => a ≤ 32) (fun a => 32 - a) (0) ?_ ?le_75 ?hh_75 ?bd_75
     case hh_75 => exact rfl
     case le_75 => (simp only [Le_nil, Le_cons, ↓A_cons, ↓reduceIte, Nat.reduceEqDiff, reduceCtorEq, CLe_refl, CLe_top, CLe_full, CLe_nil, CLe_own, and_true, true_and]; all_goals (repeat' first | exact CLe.refl _ | exact True.intro | (refine CLe_sln ?_; first | with_reducible rfl | (simp only [List.take_zero]; done) | (rfl; done)) | exact CLe_nI (by omega) | exact CLe_int (by omega) | exact CLe_inI (by omega) | exact CLe_nIi (by omega) | with_reducible apply And.intro))
     · omega
     case bd_75 =>
      rintro i hi
      refine Tr.seqK fun K17 hK17 => ?_
      refine Tr.rg hcx [] _ [] rfl rfl rfl ?_
      simp -implicitDefEqProofs (maxSteps := 2000000) (disch := first | omega | (simp only [go_sem, List.length_append, List.length_drop, List.length_take, S8.l_len, be64_len, dig_len, feed_len, hb] <;> omega) | decide) only [go_sem, ↓reduceIte, Nat.reduceEqDiff, reduceCtorEq, Nat.reduceLT, Nat.reduceBEq, Nat.reduceAdd, Nat.reduceSub, Nat.reduceMul, Nat.reduceMod, Str.cells, h53, S8.l_len, be64_len, dig_len, set_rep, Str_eta]
      refine hK17 _ ?_
      clear hK17 K17
      refine Tr.kp [1, 2, 6, 40, 41] ?_
      simp only [pk_cons, pk_nil, ↓A_cons, ↓reduceIte, Nat.reduceEqDiff]
      refine Tr.seqK fun K18 hK18 => ?_
      refine Tr.condG fun KT KF hT hF => ?_
      simp only [ev_tmp, ev_const, ↓A_cons, ↓reduceIte, Nat.reduceEqDiff, reduceCtorEq, condG_bool, GB_true, GB_false, decide_eq_true_eq]
      refine GB.dec (fun hc41 => hT ?_) (fun hc41 => hF ?_)
      ·
       clear hT hF KT KF
       refine Tr.skip ?_
       refine hK18 _ ?_
       clear hK18 K18
       refine Tr.kp [1, 2, 6, 40] ?_
       simp only [pk_cons, pk_nil, ↓A_cons, ↓reduceIte, Nat.reduceEqDiff]
       refine Tr.seqK fun K19 hK19 => ?_
       refine Tr.blk ?_
       refine Tr.seqK fun K20 hK20 => ?_
       refine Tr.rg hcx [1000042] _ [] rfl rfl rfl ?_
       simp -implicitDefEqProofs (maxSteps := 2000000) (disch := first | omega | (simp only [go_sem, List.length_append, List.length_drop, List.length_take, S8.l_len, be64_len, dig_len, feed_len, hb] <;> omega) | decide) only [go_sem, ↓reduceIte, Nat.reduceEqDiff, reduceCtorEq, Nat.reduceLT, Nat.reduceBEq, Nat.reduceAdd, Nat.reduceSub, Nat.reduceMul, Nat.reduceMod, Str.cells, h53, S8.l_len, be64_len, dig_len, set_rep, Str_eta]
       refine hK20 _ ?_
       clear hK20 K20
       refine Tr.kp [1, 2, 6, 7, 40] ?_
       simp only [pk_cons, pk_nil, ↓A_cons, ↓reduceIte, Nat.reduceEqDiff]
       refine Tr.rg hcx [] _ [] rfl rfl rfl ?_
       simp -implicitDefEqProofs (maxSteps := 2000000) (disch := first | omega | (simp only [go_sem, List.length_append, List.length_drop, List.length_take, S8.l_len, be64_len, dig_len, feed_len, hb] <;> omega) | decide) only [go_sem, ↓reduceIte, Nat.reduceEqDiff, reduceCtorEq, Nat.reduceLT, Nat.reduceBEq, Nat.reduceAdd, Nat.reduceSub, Nat.reduceMul, Nat.reduceMod, Str.cells, h53, S8.l_len, be64_len, dig_len, set_rep, Str_eta]
       refine hK19 _ ?_
       clear hK19 K19
       refine Tr.kp [1, 2, 6, 40] ?_
       simp only [pk_cons, pk_nil, ↓A_cons, ↓reduceIte, Nat.reduceEqDiff]
       refine Tr.rg hcx [] _ [] rfl rfl rfl ?_
       simp -implicitDefEqProofs (maxSteps := 2000000) (disch := first | omega | (simp only [go_sem, List.length_append, List.length_drop, List.length_take, S8.l_len, be64_len, dig_len, feed_len, hb] <;> omega) | decide) only [go_sem, ↓reduceIte, Nat.reduceEqDiff, reduceCtorEq, Nat.reduceLT, Nat.reduceBEq, Nat.reduceAdd, Nat.reduceSub, Nat.reduceMul, Nat.reduceMod, Str.cells, h53, S8.l_len, be64_len, dig_len, set_rep, Str_eta]
       refine ⟨i + 1, ⟨by omega, by first | omega | (simp only []; omega)⟩, ?_, by dsimp only; rw [← dig_next _ i hc41]; rfl⟩
       (simp only [Le_nil, Le_cons, ↓A_cons, ↓reduceIte, Nat.reduceEqDiff, reduceCtorEq, CLe_refl, CLe_top, CLe_full, CLe_nil, CLe_own, and_true, true_and]; all_goals (repeat' first | exact CLe.refl _ | exact True.intro | (refine CLe_sln ?_; first | with_reducible rfl | (simp only [List.take_zero]; done) | (rfl; done)) | exact CLe_nI (by omega) | exact CLe_int (by omega) | exact CLe_inI (by omega) | exact CLe_nIi (by omega) | with_reducible apply And.intro))
      ·
       clear hT hF KT KF
       obtain rfl : i = 32 := by omega
       refine Tr.exit ?_
       refine hK15 _ ?_
       clear hK18 K18 hK15 K15
       refine Tr.kp [2, 6] ?_
       simp only [pk_cons, pk_nil, ↓A_cons, ↓reduceIte, Nat.reduceEqDiff]
       refine Tr.seqK fun K21 hK21 => ?_
       refine Tr.rg hcx [] _ [] rfl rfl rfl ?_
       simp -implicitDefEqProofs (maxSteps := 2000000) (disch := first | omega | (simp only [go_sem, List.length_append, List.length_drop, List.length_take, S8.l_len, be64_len, dig_len, feed_len, hb] <;> omega) | decide) only [go_sem, ↓reduceIte, Nat.reduceEqDiff, reduceCtorEq, Nat.reduceLT, Nat.reduceBEq, Nat.reduceAdd, Nat.reduceSub, Nat.reduceMul, Nat.reduceMod, Str.cells, h53, S8.l_len, be64_len, dig_len, set_rep, Str_eta]
       refine hK21 _ ?_
       clear hK21 K21
       refine Tr.kp [2] ?_
       simp only [pk_cons, pk_nil, ↓A_cons, ↓reduceIte, Nat.reduceEqDiff]
       refine Tr.ret ?_
       simp -implicitDefEqProofs (disch := first | omega | (simp only [go_sem, List.length_append, List.length_drop, List.length_take, S8.l_len, be64_len, dig_len, feed_len, hb] <;> omega) | decide) only [go_sem, ↓reduceIte, Nat.reduceEqDiff, reduceCtorEq]
       all_goals (simp [sumF, dig_len])
set_option maxRecDepth 100000 in
set_option maxHeartbeats 8000000 in
theorem fc61 {gl : Nat → C} {M : Nat} {pu : Nat → List C → Option C}  (hcx : CxOK (cxP gl M pu)) (h52 : pu 52 [] = some (.agg F0.cells)) (h53 : ∀ (s : S8) (blk : List UInt8) (n : Nat) (t : List UInt8), blk.length = 64 → n + t.length < 1152921504606846976 → pu 53 [.agg (cl wC s.l ++ (cl bC blk ++ [.val (nU n)])), .val (str t)] = some (.agg (feed ⟨s, blk, n⟩ t).cells)) (h55 : ∀ (s : S8) (blk : List UInt8) (n : Nat), blk.length = 64 → n < 576460752303423488 → pu 55 [.agg (cl wC s.l ++ (cl bC blk ++ [.val (nU n)]))] = some (.agg (cl bC (sumF ⟨s, blk, n⟩)))) (b : List UInt8) (hb : b.length < 140737488355328) : FC Tryd.prog gl 61 [sl bC .no b] [] (.agg (cl bC (sha b))) [] := by
 replace hcx := hcx.reN (M := 8)
 refine FC.ofA (cx := cxP gl 8 pu) (rs := [.cell 2 89]) rfl Tryd.func61 rfl rfl rfl (by simp only [List.length_cons, List.length_nil]; decide) (by simp only [go_sem]) ?_
 simp only [ini, go_sem]
 refine Tr.seqK fun K1 hK1 => ?_
 refine Tr.rg hcx [] _ [none] rfl rfl rfl ?_
 simp -implicitDefEqProofs (maxSteps := 2000000) (disch := first | omega | (simp only [go_sem, List.length_append, List.length_drop, List.length_take, feed_len, F0_len, feed_n, F0_n, sha_len, sumF_len] <;> omega) | decide) only [go_sem, ↓reduceIte, Nat.reduceEqDiff, reduceCtorEq, Nat.reduceLT, Nat.reduceBEq, Nat.reduceAdd, Nat.reduceSub, Nat.reduceMul, Nat.reduceMod, h52, h53, h55, Str.cells, Str_eta, sha_len, feed_len]
 refine hK1 _ ?_
 clear hK1 K1
 refine Tr.kp [0, 2] ?_
 simp only [pk_cons, pk_nil, ↓A_cons, ↓reduceIte, Nat.reduceEqDiff]
 refine Tr.seqK fun K2 hK2 => ?_
 refine Tr.rgD hcx hMO [] _ [] rfl rfl rfl rfl ?_
 simp -implicitDefEqProofs (maxSteps := 2000000) (disch := first | omega | (simp only [go_sem, List.length_append, List.length_drop, List.length_take, feed_len, F0_len, feed_n, F0_n, sha_len, sumF_len] <;> omega) | decide) only [go_sem, ↓reduceIte, Nat.reduceEqDiff, reduceCtorEq, Nat.reduceLT, Nat.reduceBEq, Nat.reduceAdd, Nat.reduceSub, Nat.reduceMul, Nat.reduceMod, h52, h53, h55, Str.cells, Str_eta, sha_len, feed_len]
 with_reducible refine And.intro ?_ ?_
 · exact rfl
 refine hK2 _ ?_
 clear hK2 K2
 refine Tr.kp [2] ?_
 simp only [pk_cons, pk_nil, ↓A_cons, ↓reduceIte, Nat.reduceEqDiff]
 refine Tr.ret ?_
 simp -implicitDefEqProofs (disch := first | omega | (simp only [go_sem, List.length_append, List.length_drop, List.length_take, feed_len, F0_len, feed_n, F0_n, sha_len, sumF_len] <;> omega) | decide) only [go_sem, ↓reduceIte, Nat.reduceEqDiff, reduceCtorEq]
 all_goals (rfl)
end Go.Sx
namespace Go.Sx
open Go.RowKit Go.Proofs
set_option maxRecDepth 100000 in
set_option maxHeartbeats 8000000 in
theorem fc62 {gl : Nat → C} {M : Nat} {pu : Nat → List C → Option C}  (hcx : CxOK (cxP gl M pu)) (x : UInt8) (key : List UInt8) (hk : key.length < 140737488355328) : FC Tryd.prog gl 62 [.val (w8 x), .kp [.val (str key)]] [] (.val (str (padk key x))) [] := by
 replace hcx := hcx.reN (M := 21)
 refine FC.ofA (cx := cxP gl 21 pu) (rs := [.tmp 3]) rfl Tryd.func62 rfl rfl rfl (by simp only [List.length_cons, List.length_nil]; decide) (by simp only [go_sem]) ?_
 simp only [ini, go_sem]
 refine Tr.seqK fun K1 hK1 => ?_
 refine Tr.rg hcx [] _ [] rfl rfl rfl ?_
 simp -implicitDefEqProofs (maxSteps := 2000000) (disch := first | omega | (simp only [go_sem, List.length_append, List.length_drop, List.length_take, kbl_len, List.length_map, hK] <;> omega) | decide) only [go_sem, ↓reduceIte, Nat.reduceEqDiff, reduceCtorEq, Nat.reduceLT, Nat.reduceBEq, Nat.reduceAdd, Nat.reduceSub, Nat.reduceMul, Nat.reduceMod]
 refine hK1 _ ?_
 clear hK1 K1
 refine Tr.kp [0, 1] ?_
 simp only [pk_cons, pk_nil, ↓A_cons, ↓reduceIte, Nat.reduceEqDiff]
 refine Tr.seqK fun K2 hK2 => ?_
 refine Tr.rg hcx [] _ [none] rfl rfl rfl ?_
 simp -implicitDefEqProofs (maxSteps := 2000000) (disch := first | omega | (simp only [go_sem, List.length_append, List.length_drop, List.length_take, kbl_len, List.length_map, hK] <;> omega) | decide) only [go_sem, ↓reduceIte, Nat.reduceEqDiff, reduceCtorEq, Nat.reduceLT, Nat.reduceBEq, Nat.reduceAdd, Nat.reduceSub, Nat.reduceMul, Nat.reduceMod]
 refine hK2 _ ?_
 clear hK2 K2
 refine Tr.kp [0, 1, 4] ?_
 simp only [pk_cons, pk_nil, ↓A_cons, ↓reduceIte, Nat.reduceEqDiff]
 refine Tr.seqK fun K3 hK3 => ?_
 refine Tr.rgD hcx hMO [] _ [] rfl rfl rfl rfl ?_
 simp -implicitDefEqProofs (maxSteps := 2000000) (disch := first | omega | (simp only [go_sem, List.length_append, List.length_drop, List.length_take, kbl_len, List.length_map, hK] <;> omega) | decide) only [go_sem, ↓reduceIte, Nat.reduceEqDiff, reduceCtorEq, Nat.reduceLT, Nat.reduceBEq, Nat.reduceAdd, Nat.reduceSub, Nat.reduceMul, Nat.reduceMod]
 with_reducible refine And.intro ?_ ?_
 · exact rfl
 refine hK3 _ ?_
 clear hK3 K3
 refine Tr.kp [0, 4] ?_
 simp only [pk_cons, pk_nil, ↓A_cons, ↓reduceIte, Nat.reduceEqDiff]
 refine Tr.seqK fun K4 hK4 => ?_
 refine Tr.seqK fun K5 hK5 => ?_
 refine Tr.rg hcx [] _ [] rfl rfl rfl ?_
 simp -implicitDefEqProofs (maxSteps := 2000000) (disch := first | omega | (simp only [go_sem, List.length_append, List.length_drop, List.length_take, kbl_len, List.length_map, hK] <;> omega) | decide) only [go_sem, ↓reduceIte, Nat.reduceEqDiff, reduceCtorEq, Nat.reduceLT, Nat.reduceBEq, Nat.reduceAdd, Nat.reduceSub, Nat.reduceMul, Nat.reduceMod]
 refine hK5 _ ?_
 clear hK5 K5
 refine Tr.kp [0, 4, 9] ?_
 simp only [pk_cons, pk_nil, ↓A_cons, ↓reduceIte, Nat.reduceEqDiff]
 refine Tr.blk ?_
 refine Tr.loopI (α := Nat) (fun a => [(0, ?v0_10), (4, ?v4_10), (9, .val (nI a))]) (fun a => [some (cl bC (((kbl key).take a).map (· ^^^ x) ++ (kbl key).drop a))]) (fun a => a ≤ 64) (fun a => 64 - a) (0) ?_ ?le_10 ?hh_10 ?bd_10
 case hh_10 => exact by simp [kbl]
 case le_10 => (simp only [Le_nil, Le_cons, ↓A_cons, ↓reduceIte, Nat.reduceEqDiff, reduceCtorEq, CLe_refl, CLe_top, CLe_full, CLe_nil, CLe_own, and_true, true_and]; all_goals (repeat' first | exact CLe.refl _ | exact True.intro | (refine CLe_sln ?_; first | with_reducible rfl | (simp only [List.take_zero]; done) | (rfl; done)) | exact CLe_nI (by omega) | exact CLe_int (by omega) | exact CLe_inI (by omega) | exact CLe_nIi (by omega) | with_reducible apply And.intro))
 · omega
 case bd_10 =>
  rintro i hi
  have hK := kbl_len key
  refine Tr.seqK fun K6 hK6 => ?_
  refine Tr.rg hcx [] _ [] rfl rfl rfl ?_
  simp -implicitDefEqProofs (maxSteps := 2000000) (disch := first | omega | (simp only [go_sem, List.length_append, List.length_drop, List.length_take, kbl_len, List.length_map, hK] <;> omega) | decide) only [go_sem, ↓reduceIte, Nat.reduceEqDiff, reduceCtorEq, Nat.reduceLT, Nat.reduceBEq, Nat.reduceAdd, Nat.reduceSub, Nat.reduceMul, Nat.reduceMod]
  refine hK6 _ ?_
  clear hK6 K6
  refine Tr.kp [0, 4, 9, 10] ?_
  simp only [pk_cons, pk_nil, ↓A_cons, ↓reduceIte, Nat.reduceEqDiff]
  refine Tr.seqK fun K7 hK7 => ?_
  refine Tr.condG fun KT KF hT hF => ?_
  simp only [ev_tmp, ev_const, ↓A_cons, ↓reduceIte, Nat.reduceEqDiff, reduceCtorEq, condG_bool, GB_true, GB_false, decide_eq_true_eq]
  refine GB.dec (fun hc10 => hT ?_) (fun hc10 => hF ?_)
  ·
   clear hT hF KT KF
   refine Tr.skip ?_
   refine hK7 _ ?_
   clear hK7 K7
   refine Tr.kp [0, 4, 9] ?_
   simp only [pk_cons, pk_nil, ↓A_cons, ↓reduceIte, Nat.reduceEqDiff]
   refine Tr.seqK fun K8 hK8 => ?_
   refine Tr.blk ?_
   refine Tr.seqK fun K9 hK9 => ?_
   refine Tr.rg hcx [1000011] _ [] rfl rfl rfl ?_
   simp -implicitDefEqProofs (maxSteps := 2000000) (disch := first | omega | (simp only [go_sem, List.length_append, List.length_drop, List.length_take, kbl_len, List.length_map, hK] <;> omega) | decide) only [go_sem, ↓reduceIte, Nat.reduceEqDiff, reduceCtorEq, Nat.reduceLT, Nat.reduceBEq, Nat.reduceAdd, Nat.reduceSub, Nat.reduceMul, Nat.reduceMod]
   refine hK9 _ ?_
   clear hK9 K9
   refine Tr.kp [0, 4, 5, 9] ?_
   simp only [pk_cons, pk_nil, ↓A_cons, ↓reduceIte, Nat.reduceEqDiff]
   refine Tr.rg hcx [] _ [] rfl rfl rfl ?_
   simp -implicitDefEqProofs (maxSteps := 2000000) (disch := first | omega | (simp only [go_sem, List.length_append, List.length_drop, List.length_take, kbl_len, List.length_map, hK] <;> omega) | decide) only [go_sem, ↓reduceIte, Nat.reduceEqDiff, reduceCtorEq, Nat.reduceLT, Nat.reduceBEq, Nat.reduceAdd, Nat.reduceSub, Nat.reduceMul, Nat.reduceMod]
   refine hK8 _ ?_
   clear hK8 K8
   refine Tr.kp [0, 4, 9] ?_
   simp only [pk_cons, pk_nil, ↓A_cons, ↓reduceIte, Nat.reduceEqDiff]
   refine Tr.rg hcx [] _ [] rfl rfl rfl ?_
   simp -implicitDefEqProofs (maxSteps := 2000000) (disch := first | omega | (simp only [go_sem, List.length_append, List.length_drop, List.length_take, kbl_len, List.length_map, hK] <;> omega) | decide) only [go_sem, ↓reduceIte, Nat.reduceEqDiff, reduceCtorEq, Nat.reduceLT, Nat.reduceBEq, Nat.reduceAdd, Nat.reduceSub, Nat.reduceMul, Nat.reduceMod]
   refine ⟨i + 1, ⟨by omega, by first | omega | (simp only []; omega)⟩, ?_, by dsimp only; rw [← xk_step (kbl key) (· ^^^ x) i (by rw [kbl_len]; omega)]⟩
   (simp only [Le_nil, Le_cons, ↓A_cons, ↓reduceIte, Nat.reduceEqDiff, reduceCtorEq, CLe_refl, CLe_top, CLe_full, CLe_nil, CLe_own, and_true, true_and]; all_goals (repeat' first | exact CLe.refl _ | exact True.intro | (refine CLe_sln ?_; first | with_reducible rfl | (simp only [List.take_zero]; done) | (rfl; done)) | exact CLe_nI (by omega) | exact CLe_int (by omega) | exact CLe_inI (by omega) | exact CLe_nIi (by omega) | with_reducible apply And.intro))
  ·
   clear hT hF KT KF
   obtain rfl : i = 64 := by omega
   refine Tr.exit ?_
   refine hK4 _ ?_
   clear hK7 K7 hK4 K4
   refine Tr.kp [4] ?_
   simp only [pk_cons, pk_nil, ↓A_cons, ↓reduceIte, Nat.reduceEqDiff]
   refine Tr.seqK fun K10 hK10 => ?_
   refine Tr.rg hcx [1000020] _ [] rfl rfl rfl ?_
   simp -implicitDefEqProofs (maxSteps := 2000000) (disch := first | omega | (simp only [go_sem, List.length_append, List.length_drop, List.length_take, kbl_len, List.length_map, hK] <;> omega) | decide) only [go_sem, ↓reduceIte, Nat.reduceEqDiff, reduceCtorEq, Nat.reduceLT, Nat.reduceBEq, Nat.reduceAdd, Nat.reduceSub, Nat.reduceMul, Nat.reduceMod]
   refine hK10 _ ?_
   clear hK10 K10
   refine Tr.kp [3] ?_
   simp only [pk_cons, pk_nil, ↓A_cons, ↓reduceIte, Nat.reduceEqDiff]
   refine Tr.ret ?_
   simp -implicitDefEqProofs (disch := first | omega | (simp only [go_sem, List.length_append, List.length_drop, List.length_take, kbl_len, List.length_map, hK] <;> omega) | decide) only [go_sem, ↓reduceIte, Nat.reduceEqDiff, reduceCtorEq]
   all_goals (simp [padk, List.take_of_length_le, List.drop_of_length_le, kbl_len])
set_option maxRecDepth 100000 in
set_option maxHeartbeats 8000000 in
theorem fc49 {gl : Nat → C} {M : Nat} {pu : Nat → List C → Option C}  (hcx : CxOK (cxP gl M pu)) (h61 : ∀ b : List UInt8, b.length < 140737488355328 → pu 61 [sl bC .no b] = some (.agg (cl bC (sha b)))) (h52 : pu 52 [] = some (.agg F0.cells)) (h53 : ∀ (s : S8) (blk : List UInt8) (n : Nat) (t : List UInt8), blk.length = 64 → n + t.length < 1152921504606846976 → pu 53 [.agg (cl wC s.l ++ (cl bC blk ++ [.val (nU n)])), .val (str t)] = some (.agg (feed ⟨s, blk, n⟩ t).cells)) (h55 : ∀ (s : S8) (blk : List UInt8) (n : Nat), blk.length = 64 → n < 576460752303423488 → pu 55 [.agg (cl wC s.l ++ (cl bC blk ++ [.val (nU n)]))] = some (.agg (cl bC (sumF ⟨s, blk, n⟩)))) (h62 : ∀ (x : UInt8) (key : List UInt8), key.length < 140737488355328 → pu 62 [.val (w8 x), .kp [.val (str key)]] = some (.val (str (padk key x)))) (hno : ∀ (g : Nat) (xs : List C), refy xs = true → pu g xs = none) (key t : List UInt8) (hk : key.length < 1099511627776) (ht : t.length < 1099511627776) : FC Tryd.prog gl 49 [.val (str key), .val (str t)] [] (.val (str (hmac key t))) [] := by
 replace hcx := hcx.reN (M := 35)
 refine FC.ofA (cx := cxP gl 35 pu) (rs := [.tmp 4]) rfl Tryd.func49 rfl rfl rfl (by simp only [List.length_cons, List.length_nil]; decide) (by simp only [go_sem]) ?_
 simp only [ini, go_sem]
 refine Tr.seqK fun K1 hK1 => ?_
 refine Tr.rg hcx [] _ [none] rfl rfl rfl ?_
 simp -implicitDefEqProofs (maxSteps := 2000000) (disch := first | omega | (simp only [go_sem, List.length_append, List.length_drop, List.length_take, feed_len, F0_len, feed_n, F0_n, sha_len, padk_len, sumF_len] <;> omega) | decide) only [go_sem, ↓reduceIte, Nat.reduceEqDiff, reduceCtorEq, Nat.reduceLT, Nat.reduceBEq, Nat.reduceAdd, Nat.reduceSub, Nat.reduceMul, Nat.reduceMod, h61, h52, h53, h55, h62, hno, Str.cells, Str_eta, take_self]
 refine hK1 _ ?_
 clear hK1 K1
 refine Tr.kp [1, 2] ?_
 simp only [pk_cons, pk_nil, ↓A_cons, ↓reduceIte, Nat.reduceEqDiff]
 refine Tr.seqK fun K2 hK2 => ?_
 refine Tr.seqK fun K3 hK3 => ?_
 refine Tr.rg hcx [] _ [] rfl rfl rfl ?_
 simp -implicitDefEqProofs (maxSteps := 2000000) (disch := first | omega | (simp only [go_sem, List.length_append, List.length_drop, List.length_take, feed_len, F0_len, feed_n, F0_n, sha_len, padk_len, sumF_len] <;> omega) | decide) only [go_sem, ↓reduceIte, Nat.reduceEqDiff, reduceCtorEq, Nat.reduceLT, Nat.reduceBEq, Nat.reduceAdd, Nat.reduceSub, Nat.reduceMul, Nat.reduceMod, h61, h52, h53, h55, h62, hno, Str.cells, Str_eta, take_self]
 refine hK3 _ ?_
 clear hK3 K3
 refine Tr.kp [1, 2, 11] ?_
 simp only [pk_cons, pk_nil, ↓A_cons, ↓reduceIte, Nat.reduceEqDiff]
 refine Tr.condG fun KT KF hT hF => ?_
 simp only [ev_tmp, ev_const, ↓A_cons, ↓reduceIte, Nat.reduceEqDiff, reduceCtorEq, condG_bool, GB_true, GB_false, decide_eq_true_eq]
 refine GB.dec (fun hc11 => hT ?_) (fun hc11 => hF ?_)
 ·
  clear hT hF KT KF
  refine Tr.seqK fun K4 hK4 => ?_
  refine Tr.rg hcx [] _ [none] rfl rfl rfl ?_
  simp -implicitDefEqProofs (maxSteps := 2000000) (disch := first | omega | (simp only [go_sem, List.length_append, List.length_drop, List.length_take, feed_len, F0_len, feed_n, F0_n, sha_len, padk_len, sumF_len] <;> omega) | decide) only [go_sem, ↓reduceIte, Nat.reduceEqDiff, reduceCtorEq, Nat.reduceLT, Nat.reduceBEq, Nat.reduceAdd, Nat.reduceSub, Nat.reduceMul, Nat.reduceMod, h61, h52, h53, h55, h62, hno, Str.cells, Str_eta, take_self]
  refine hK4 _ ?_
  clear hK4 K4
  refine Tr.kp [1, 2, 5] ?_
  simp only [pk_cons, pk_nil, ↓A_cons, ↓reduceIte, Nat.reduceEqDiff]
  refine Tr.rg hcx [] _ [] rfl rfl rfl ?_
  simp -implicitDefEqProofs (maxSteps := 2000000) (disch := first | omega | (simp only [go_sem, List.length_append, List.length_drop, List.length_take, feed_len, F0_len, feed_n, F0_n, sha_len, padk_len, sumF_len] <;> omega) | decide) only [go_sem, ↓reduceIte, Nat.reduceEqDiff, reduceCtorEq, Nat.reduceLT, Nat.reduceBEq, Nat.reduceAdd, Nat.reduceSub, Nat.reduceMul, Nat.reduceMod, h61, h52, h53, h55, h62, hno, Str.cells, Str_eta, take_self]
  refine hK2 _ ?_
  clear hK2 K2
  refine Tr.kp [1, 2] ?_
  simp only [pk_cons, pk_nil, ↓A_cons, ↓reduceIte, Nat.reduceEqDiff]
  refine Tr.seqK fun K5 hK5 => ?_
  refine Tr.rg hcx [1000017] _ [] rfl rfl rfl ?_
  simp -implicitDefEqProofs (maxSteps := 2000000) (disch := first | omega | (simp only [go_sem, List.length_append, List.length_drop, List.length_take, feed_len, F0_len, feed_n, F0_n, sha_len, padk_len, sumF_len] <;> omega) | decide) only [go_sem, ↓reduceIte, Nat.reduceEqDiff, reduceCtorEq, Nat.reduceLT, Nat.reduceBEq, Nat.reduceAdd, Nat.reduceSub, Nat.reduceMul, Nat.reduceMod, h61, h52, h53, h55, h62, hno, Str.cells, Str_eta, take_self]
  refine hK5 _ ?_
  clear hK5 K5
  refine Tr.kp [1, 6] ?_
  simp only [pk_cons, pk_nil, ↓A_cons, ↓reduceIte, Nat.reduceEqDiff]
  refine Tr.seqK fun K6 hK6 => ?_
  refine Tr.rg hcx [] _ [none] rfl rfl rfl ?_
  simp -implicitDefEqProofs (maxSteps := 2000000) (disch := first | omega | (simp only [go_sem, List.length_append, List.length_drop, List.length_take, feed_len, F0_len, feed_n, F0_n, sha_len, padk_len, sumF_len] <;> omega) | decide) only [go_sem, ↓reduceIte, Nat.reduceEqDiff, reduceCtorEq, Nat.reduceLT, Nat.reduceBEq, Nat.reduceAdd, Nat.reduceSub, Nat.reduceMul, Nat.reduceMod, h61, h52, h53, h55, h62, hno, Str.cells, Str_eta, take_self]
  refine hK6 _ ?_
  clear hK6 K6
  refine Tr.kp [6, 7] ?_
  simp only [pk_cons, pk_nil, ↓A_cons, ↓reduceIte, Nat.reduceEqDiff]
  refine Tr.seqK fun K7 hK7 => ?_
  refine Tr.rgD hcx hMO [] _ [none] rfl rfl rfl rfl ?_
  simp -implicitDefEqProofs (maxSteps := 2000000) (disch := first | omega | (simp only [go_sem, List.length_append, List.length_drop, List.length_take, feed_len, F0_len, feed_n, F0_n, sha_len, padk_len, sumF_len] <;> omega) | decide) only [go_sem, ↓reduceIte, Nat.reduceEqDiff, reduceCtorEq, Nat.reduceLT, Nat.reduceBEq, Nat.reduceAdd, Nat.reduceSub, Nat.reduceMul, Nat.reduceMod, h61, h52, h53, h55, h62, hno, Str.cells, Str_eta, take_self]
  with_reducible refine And.intro ?_ ?_
  · exact rfl
  refine hK7 _ ?_
  clear hK7 K7
  refine Tr.kp [8] ?_
  simp only [pk_cons, pk_nil, ↓A_cons, ↓reduceIte, Nat.reduceEqDiff]
  refine Tr.seqK fun K8 hK8 => ?_
  refine Tr.rg hcx [1000034] _ [] rfl rfl rfl ?_
  simp -implicitDefEqProofs (maxSteps := 2000000) (disch := first | omega | (simp only [go_sem, List.length_append, List.length_drop, List.length_take, feed_len, F0_len, feed_n, F0_n, sha_len, padk_len, sumF_len] <;> omega) | decide) only [go_sem, ↓reduceIte, Nat.reduceEqDiff, reduceCtorEq, Nat.reduceLT, Nat.reduceBEq, Nat.reduceAdd, Nat.reduceSub, Nat.reduceMul, Nat.reduceMod, h61, h52, h53, h55, h62, hno, Str.cells, Str_eta, take_self]
  refine hK8 _ ?_
  clear hK8 K8
  refine Tr.kp [4] ?_
  simp only [pk_cons, pk_nil, ↓A_cons, ↓reduceIte, Nat.reduceEqDiff]
  refine Tr.ret ?_
  simp -implicitDefEqProofs (disch := first | omega | (simp only [go_sem, List.length_append, List.length_drop, List.length_take, feed_len, F0_len, feed_n, F0_n, sha_len, padk_len, sumF_len] <;> omega) | decide) only [go_sem, ↓reduceIte, Nat.reduceEqDiff, reduceCtorEq]
  all_goals (simp only [hmac, keyOf, hc11, if_true, if_false, sha, feed_app, show UInt8.ofNat 92 = 92 from id rfl, show UInt8.ofNat 54 = 54 from id rfl])
 ·
  clear hT hF KT KF
  refine Tr.skip ?_
  refine hK2 _ ?_
  clear hK2 K2
  refine Tr.kp [1, 2] ?_
  simp only [pk_cons, pk_nil, ↓A_cons, ↓reduceIte, Nat.reduceEqDiff]
  refine Tr.seqK fun K9 hK9 => ?_
  refine Tr.rg hcx [1000017] _ [] rfl rfl rfl ?_
  simp -implicitDefEqProofs (maxSteps := 2000000) (disch := first | omega | (simp only [go_sem, List.length_append, List.length_drop, List.length_take, feed_len, F0_len, feed_n, F0_n, sha_len, padk_len, sumF_len] <;> omega) | decide) only [go_sem, ↓reduceIte, Nat.reduceEqDiff, reduceCtorEq, Nat.reduceLT, Nat.reduceBEq, Nat.reduceAdd, Nat.reduceSub, Nat.reduceMul, Nat.reduceMod, h61, h52, h53, h55, h62, hno, Str.cells, Str_eta, take_self]
  refine hK9 _ ?_
  clear hK9 K9
  refine Tr.kp [1, 6] ?_
  simp only [pk_cons, pk_nil, ↓A_cons, ↓reduceIte, Nat.reduceEqDiff]
  refine Tr.seqK fun K10 hK10 => ?_
  refine Tr.rg hcx [] _ [none] rfl rfl rfl ?_
  simp -implicitDefEqProofs (maxSteps := 2000000) (disch := first | omega | (simp only [go_sem, List.length_append, List.length_drop, List.length_take, feed_len, F0_len, feed_n, F0_n, sha_len, padk_len, sumF_len] <;> omega) | decide) only [go_sem, ↓reduceIte, Nat.reduceEqDiff, reduceCtorEq, Nat.reduceLT, Nat.reduceBEq, Nat.reduceAdd, Nat.reduceSub, Nat.reduceMul, Nat.reduceMod, h61, h52, h53, h55, h62, hno, Str.cells, Str_eta, take_self]
  refine hK10 _ ?_
  clear hK10 K10
  refine Tr.kp [6, 7] ?_
  simp only [pk_cons, pk_nil, ↓A_cons, ↓reduceIte, Nat.reduceEqDiff]
  refine Tr.seqK fun K11 hK11 => ?_
  refine Tr.rgD hcx hMO [] _ [none] rfl rfl rfl rfl ?_
  simp -implicitDefEqProofs (maxSteps := 2000000) (disch := first | omega | (simp only [go_sem, List.length_append, List.length_drop, List.length_take, feed_len, F0_len, feed_n, F0_n, sha_len, padk_len, sumF_len] <;> omega) | decide) only [go_sem, ↓reduceIte, Nat.reduceEqDiff, reduceCtorEq, Nat.reduceLT, Nat.reduceBEq, Nat.reduceAdd, Nat.reduceSub, Nat.reduceMul, Nat.reduceMod, h61, h52, h53, h55, h62, hno, Str.cells, Str_eta, take_self]
  with_reducible refine And.intro ?_ ?_
  · exact rfl
  refine hK11 _ ?_
  clear hK11 K11
  refine Tr.kp [8] ?_
  simp only [pk_cons, pk_nil, ↓A_cons, ↓reduceIte, Nat.reduceEqDiff]
  refine Tr.seqK fun K12 hK12 => ?_
  refine Tr.rg hcx [1000034] _ [] rfl rfl rfl ?_
  simp -implicitDefEqProofs (maxSteps := 2000000) (disch := first | omega | (simp only [go_sem, List.length_append, List.length_drop, List.length_take, feed_len, F0_len, feed_n, F0_n, sha_len, padk_len, sumF_len] <;> omega) | decide) only [go_sem, ↓reduceIte, Nat.reduceEqDiff, reduceCtorEq, Nat.reduceLT, Nat.reduceBEq, Nat.reduceAdd, Nat.reduceSub, Nat.reduceMul, Nat.reduceMod, h61, h52, h53, h55, h62, hno, Str.cells, Str_eta, take_self]
  refine hK12 _ ?_
  clear hK12 K12
  refine Tr.kp [4] ?_
  simp only [pk_cons, pk_nil, ↓A_cons, ↓reduceIte, Nat.reduceEqDiff]
  refine Tr.ret ?_
  simp -implicitDefEqProofs (disch := first | omega | (simp only [go_sem, List.length_append, List.length_drop, List.length_take, feed_len, F0_len, feed_n, F0_n, sha_len, padk_len, sumF_len] <;> omega) | decide) only [go_sem, ↓reduceIte, Nat.reduceEqDiff, reduceCtorEq]
  all_goals (simp only [hmac, keyOf, hc11, if_true, if_false, sha, feed_app, show UInt8.ofNat 92 = 92 from id rfl, show UInt8.ofNat 54 = 54 from id rfl])
set_option maxRecDepth 100000 in
set_option maxHeartbeats 8000000 in
theorem fc34 {gl : Nat → C} {M : Nat} {pu : Nat → List C → Option C}  (hcx : CxOK (cxP gl M pu)) (h52 : pu 52 [] = some (.agg F0.cells)) (h53 : ∀ (s : S8) (blk : List UInt8) (n : Nat) (t : List UInt8), blk.length = 64 → n + t.length < 1152921504606846976 → pu 53 [.agg (cl wC s.l ++ (cl bC blk ++ [.val (nU n)])), .val (str t)] = some (.agg (feed ⟨s, blk, n⟩ t).cells)) (h55 : ∀ (s : S8) (blk : List UInt8) (n : Nat), blk.length = 64 → n < 576460752303423488 → pu 55 [.agg (cl wC s.l ++ (cl bC blk ++ [.val (nU n)]))] = some (.agg (cl bC (sumF ⟨s, blk, n⟩)))) (h54 : ∀ s : List UInt8, s.length < 70368744177664 → pu 54 [.val (str s)] = some (sl bC (.own 1) (wb s))) (tag : Int) (parts : List (List UInt8)) (hl : (inp tag parts).length < 1099511627776) : FC Tryd.prog gl 34 [.val (.int .i64 tag), sl sC .no parts] [] (.agg (cl bC ((sha (inp tag parts)).take 16))) [] := by
 replace hcx := hcx.reN (M := 32)
 refine FC.ofA (cx := cxP gl 32 pu) (rs := [.cell 4 23]) rfl Tryd.func34 rfl rfl rfl (by simp only [List.length_cons, List.length_nil]; decide) (by simp only [go_sem]) ?_
 simp only [ini, go_sem]
 have hlp := parts_bound tag parts hl
 have hlp1 := hl
 have hpl := parts_len tag parts hl
 have hlp2 := True.intro
 refine Tr.seqK fun K1 hK1 => ?_
 refine Tr.rg hcx [] _ [none] rfl rfl rfl ?_
 simp -implicitDefEqProofs (maxSteps := 2000000) (disch := first | omega | (simp only [go_sem, List.length_append, List.length_drop, List.length_take, S8.l_len, feed_len, F0_len, feed_n, F0_n, sumF_len, hlp1, hlp2] <;> omega) | decide) only [go_sem, ↓reduceIte, Nat.reduceEqDiff, reduceCtorEq, Nat.reduceLT, Nat.reduceBEq, Nat.reduceAdd, Nat.reduceSub, Nat.reduceMul, Nat.reduceMod, h52, h53, h55, h54, Str.cells, Str_eta, sumF_len]
 refine hK1 _ ?_
 clear hK1 K1
 refine Tr.kp [0, 1, 4] ?_
 simp only [pk_cons, pk_nil, ↓A_cons, ↓reduceIte, Nat.reduceEqDiff]
 refine Tr.seqK fun K2 hK2 => ?_
 refine Tr.rgD hcx hMO [] _ [none] rfl rfl rfl rfl ?_
 simp -implicitDefEqProofs (maxSteps := 2000000) (disch := first | omega | (simp only [go_sem, List.length_append, List.length_drop, List.length_take, S8.l_len, feed_len, F0_len, feed_n, F0_n, sumF_len, hlp1, hlp2] <;> omega) | decide) only [go_sem, ↓reduceIte, Nat.reduceEqDiff, reduceCtorEq, Nat.reduceLT, Nat.reduceBEq, Nat.reduceAdd, Nat.reduceSub, Nat.reduceMul, Nat.reduceMod, h52, h53, h55, h54, Str.cells, Str_eta, sumF_len]
 with_reducible refine And.intro ?_ ?_
 · exact rfl
 refine hK2 _ ?_
 clear hK2 K2
 refine Tr.kp [1, 4, 5] ?_
 simp only [pk_cons, pk_nil, ↓A_cons, ↓reduceIte, Nat.reduceEqDiff]
 refine Tr.seqK fun K3 hK3 => ?_
 refine Tr.seqK fun K4 hK4 => ?_
 refine Tr.rg hcx [] _ [] rfl rfl rfl ?_
 simp -implicitDefEqProofs (maxSteps := 2000000) (disch := first | omega | (simp only [go_sem, List.length_append, List.length_drop, List.length_take, S8.l_len, feed_len, F0_len, feed_n, F0_n, sumF_len, hlp1, hlp2] <;> omega) | decide) only [go_sem, ↓reduceIte, Nat.reduceEqDiff, reduceCtorEq, Nat.reduceLT, Nat.reduceBEq, Nat.reduceAdd, Nat.reduceSub, Nat.reduceMul, Nat.reduceMod, h52, h53, h55, h54, Str.cells, Str_eta, sumF_len]
 refine hK4 _ ?_
 clear hK4 K4
 refine Tr.kp [4, 5, 15, 16, 17] ?_
 simp only [pk_cons, pk_nil, ↓A_cons, ↓reduceIte, Nat.reduceEqDiff]
 refine Tr.blk ?_
 refine Tr.loopI (α := Nat) (fun a => [(4, ?v4_53), (5, ?v5_53), (15, ?v15_53), (16, ?v16_53), (17, .val (nI a))]) (fun a => [some (cl bC (List.replicate 16 0)), some (feed F0 (inp tag (parts.take a))).cells]) (fun a => a ≤ parts.length) (fun a => parts.length - a) (0) ?_ ?le_53 ?hh_53 ?bd_53
 case hh_53 => exact rfl
 case le_53 => (simp only [Le_nil, Le_cons, ↓A_cons, ↓reduceIte, Nat.reduceEqDiff, reduceCtorEq, CLe_refl, CLe_top, CLe_full, CLe_nil, CLe_own, and_true, true_and]; all_goals (repeat' first | exact CLe.refl _ | exact True.intro | (refine CLe_sln ?_; first | with_reducible rfl | (simp only [List.take_zero]; done) | (rfl; done)) | exact CLe_nI (by omega) | exact CLe_int (by omega) | exact CLe_inI (by omega) | exact CLe_nIi (by omega) | with_reducible apply And.intro))
 · omega
 case bd_53 =>
  rintro i hi
  refine Tr.seqK fun K5 hK5 => ?_
  refine Tr.rg hcx [] _ [] rfl rfl rfl ?_
  simp -implicitDefEqProofs (maxSteps := 2000000) (disch := first | omega | (simp only [go_sem, List.length_append, List.length_drop, List.length_take, S8.l_len, feed_len, F0_len, feed_n, F0_n, sumF_len, hlp1, hlp2] <;> omega) | decide) only [go_sem, ↓reduceIte, Nat.reduceEqDiff, reduceCtorEq, Nat.reduceLT, Nat.reduceBEq, Nat.reduceAdd, Nat.reduceSub, Nat.reduceMul, Nat.reduceMod, h52, h53, h55, h54, Str.cells, Str_eta, sumF_len]
  refine hK5 _ ?_
  clear hK5 K5
  refine Tr.kp [4, 5, 15, 16, 17, 18] ?_
  simp only [pk_cons, pk_nil, ↓A_cons, ↓reduceIte, Nat.reduceEqDiff]
  refine Tr.seqK fun K6 hK6 => ?_
  refine Tr.condG fun KT KF hT hF => ?_
  simp only [ev_tmp, ev_const, ↓A_cons, ↓reduceIte, Nat.reduceEqDiff, reduceCtorEq, condG_bool, GB_true, GB_false, decide_eq_true_eq]
  refine GB.dec (fun hc18 => hT ?_) (fun hc18 => hF ?_)
  ·
   clear hT hF KT KF
   obtain ⟨hlp1, hlp2⟩ := hlp i hc18
   refine Tr.skip ?_
   refine hK6 _ ?_
   clear hK6 K6
   refine Tr.kp [4, 5, 15, 16, 17] ?_
   simp only [pk_cons, pk_nil, ↓A_cons, ↓reduceIte, Nat.reduceEqDiff]
   refine Tr.seqK fun K7 hK7 => ?_
   refine Tr.blk ?_
   refine Tr.seqK fun K8 hK8 => ?_
   refine Tr.rg hcx [1000020] _ [] rfl rfl rfl ?_
   simp -implicitDefEqProofs (maxSteps := 2000000) (disch := first | omega | (simp only [go_sem, List.length_append, List.length_drop, List.length_take, S8.l_len, feed_len, F0_len, feed_n, F0_n, sumF_len, hlp1, hlp2] <;> omega) | decide) only [go_sem, ↓reduceIte, Nat.reduceEqDiff, reduceCtorEq, Nat.reduceLT, Nat.reduceBEq, Nat.reduceAdd, Nat.reduceSub, Nat.reduceMul, Nat.reduceMod, h52, h53, h55, h54, Str.cells, Str_eta, sumF_len]
   refine hK8 _ ?_
   clear hK8 K8
   refine Tr.kp [4, 5, 7, 15, 16, 17] ?_
   simp only [pk_cons, pk_nil, ↓A_cons, ↓reduceIte, Nat.reduceEqDiff]
   refine Tr.rgD hcx hMO [] _ [] rfl rfl rfl rfl ?_
   simp -implicitDefEqProofs (maxSteps := 2000000) (disch := first | omega | (simp only [go_sem, List.length_append, List.length_drop, List.length_take, S8.l_len, feed_len, F0_len, feed_n, F0_n, sumF_len, hlp1, hlp2] <;> omega) | decide) only [go_sem, ↓reduceIte, Nat.reduceEqDiff, reduceCtorEq, Nat.reduceLT, Nat.reduceBEq, Nat.reduceAdd, Nat.reduceSub, Nat.reduceMul, Nat.reduceMod, h52, h53, h55, h54, Str.cells, Str_eta, sumF_len]
   with_reducible refine And.intro ?_ ?_
   · exact rfl
   refine hK7 _ ?_
   clear hK7 K7
   refine Tr.kp [4, 5, 15, 16, 17] ?_
   simp only [pk_cons, pk_nil, ↓A_cons, ↓reduceIte, Nat.reduceEqDiff]
   refine Tr.rg hcx [] _ [] rfl rfl rfl ?_
   simp -implicitDefEqProofs (maxSteps := 2000000) (disch := first | omega | (simp only [go_sem, List.length_append, List.length_drop, List.length_take, S8.l_len, feed_len, F0_len, feed_n, F0_n, sumF_len, hlp1, hlp2] <;> omega) | decide) only [go_sem, ↓reduceIte, Nat.reduceEqDiff, reduceCtorEq, Nat.reduceLT, Nat.reduceBEq, Nat.reduceAdd, Nat.reduceSub, Nat.reduceMul, Nat.reduceMod, h52, h53, h55, h54, Str.cells, Str_eta, sumF_len]
   refine ⟨i + 1, ⟨by omega, by first | omega | (simp only []; omega)⟩, ?_, by dsimp only; rw [inp_take tag parts i hc18, feed_app]⟩
   (simp only [Le_nil, Le_cons, ↓A_cons, ↓reduceIte, Nat.reduceEqDiff, reduceCtorEq, CLe_refl, CLe_top, CLe_full, CLe_nil, CLe_own, and_true, true_and]; all_goals (repeat' first | exact CLe.refl _ | exact True.intro | (refine CLe_sln ?_; first | with_reducible rfl | (simp only [List.take_zero]; done) | (rfl; done)) | exact CLe_nI (by omega) | exact CLe_int (by omega) | exact CLe_inI (by omega) | exact CLe_nIi (by omega) | with_reducible apply And.intro))
  ·
   clear hT hF KT KF
   obtain rfl : i = parts.length := by omega
   have hlp1 := hl
   have hlp2 := True.intro
   simp only [List.take_length]
   refine Tr.exit ?_
   refine hK3 _ ?_
   clear hK6 K6 hK3 K3
   refine Tr.kp [4, 5] ?_
   simp only [pk_cons, pk_nil, ↓A_cons, ↓reduceIte, Nat.reduceEqDiff]
   refine Tr.seqK fun K9 hK9 => ?_
   refine Tr.rg hcx [] _ [none] rfl rfl rfl ?_
   simp -implicitDefEqProofs (maxSteps := 2000000) (disch := first | omega | (simp only [go_sem, List.length_append, List.length_drop, List.length_take, S8.l_len, feed_len, F0_len, feed_n, F0_n, sumF_len, hlp1, hlp2] <;> omega) | decide) only [go_sem, ↓reduceIte, Nat.reduceEqDiff, reduceCtorEq, Nat.reduceLT, Nat.reduceBEq, Nat.reduceAdd, Nat.reduceSub, Nat.reduceMul, Nat.reduceMod, h52, h53, h55, h54, Str.cells, Str_eta, sumF_len]
   refine hK9 _ ?_
   clear hK9 K9
   refine Tr.kp [4, 8] ?_
   simp only [pk_cons, pk_nil, ↓A_cons, ↓reduceIte, Nat.reduceEqDiff]
   refine Tr.seqK fun K10 hK10 => ?_
   refine Tr.rg hcx [] _ [] rfl rfl rfl ?_
   simp -implicitDefEqProofs (maxSteps := 2000000) (disch := first | omega | (simp only [go_sem, List.length_append, List.length_drop, List.length_take, S8.l_len, feed_len, F0_len, feed_n, F0_n, sumF_len, hlp1, hlp2] <;> omega) | decide) only [go_sem, ↓reduceIte, Nat.reduceEqDiff, reduceCtorEq, Nat.reduceLT, Nat.reduceBEq, Nat.reduceAdd, Nat.reduceSub, Nat.reduceMul, Nat.reduceMod, h52, h53, h55, h54, Str.cells, Str_eta, sumF_len]
   refine hK10 _ ?_
   clear hK10 K10
   refine Tr.kp [4] ?_
   simp only [pk_cons, pk_nil, ↓A_cons, ↓reduceIte, Nat.reduceEqDiff]
   refine Tr.ret ?_
   simp -implicitDefEqProofs (disch := first | omega | (simp only [go_sem, List.length_append, List.length_drop, List.length_take, S8.l_len, feed_len, F0_len, feed_n, F0_n, sumF_len, hlp1, hlp2] <;> omega) | decide) only [go_sem, ↓reduceIte, Nat.reduceEqDiff, reduceCtorEq]
   all_goals (simp only [sha, List.take_length])
end Go.Sx
namespace Go.Sx
open Go.RowKit Go.Proofs
end Go.Sx
