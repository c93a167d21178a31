/-
  Package token: marks. And what follows.
-/
import Derived.Test.YtmeplkkhnpcldaaPao
set_option linter.unusedSimpArgs false
set_option linter.unusedVariables false
namespace Go.Sx
open Go.RowKit Go.Proofs
def ofKp (k : Nat) (l : List Tok) (n : Nat) : List Nat := (List.range n).filter fun i => decide ((gt l i).k = k)
theorem ofKp_len (k : Nat) (l : List Tok) (n : Nat) : (ofKp k l n).length ≤ n := by
  unfold ofKp
  have := List.length_filter_le (fun i => decide ((gt l i).k = k)) (List.range n)
  simpa using this
theorem ofKp_T {k : Nat} {l : List Tok} {n : Nat} (h : (gt l n).k = k) : ofKp k l n ++ [n] = ofKp k l (n + 1) := by
  unfold ofKp; rw [List.range_succ, List.filter_append]; simp [h]
theorem ofKp_F {k : Nat} {l : List Tok} {n : Nat} (h : ¬ (gt l n).k = k) : ofKp k l n = ofKp k l (n + 1) := by
  unfold ofKp; rw [List.range_succ, List.filter_append]; simp [h]
set_option maxRecDepth 100000 in
set_option maxHeartbeats 8000000 in
theorem fc32 {gl : Nat → C} {M : Nat} {pu : Nat → List C → Option C}  (hcx : CxOK (cxP gl M pu)) (h15 : ∀ s : List UInt8, s.length ≤ 1000000 → pu 15 [.val (str s)] = some (sl tC .no (toks s))) (s : List UInt8) (hs : s.length ≤ 1000000) : FC Try.prog gl 32 [.val (str s)] [] (sl nC (.own 1) (marksT s)) [] := by
 replace hcx := hcx.reN (M := 25)
 refine FC.ofA (cx := cxP gl 25 pu) (rs := [.tmp 2]) rfl Try.func32 rfl rfl rfl (by simp only [List.length_cons, List.length_nil]; decide) (by simp only [go_sem]) ?_
 simp only [ini, go_sem]
 have hT := toks_len s
 have hb1 := True.intro
 refine Tr.seqK fun K1 hK1 => ?_
 refine Tr.rg hcx [] _ [] rfl rfl rfl ?_
 simp -implicitDefEqProofs (maxSteps := 2000000) (disch := first | omega | (simp only [go_sem, List.length_append, List.length_drop, List.length_take, hb1] <;> omega) | decide) only [go_sem, ↓reduceIte, Nat.reduceEqDiff, reduceCtorEq, Nat.reduceLT, Nat.reduceBEq, Nat.reduceAdd, Nat.reduceSub, Nat.reduceMul, Nat.reduceMod, h15]
 refine hK1 _ ?_
 clear hK1 K1
 refine Tr.kp [0] ?_
 simp only [pk_cons, pk_nil, ↓A_cons, ↓reduceIte, Nat.reduceEqDiff]
 refine Tr.seqK fun K2 hK2 => ?_
 refine Tr.rg hcx [1000007] _ [] rfl rfl rfl ?_
 simp -implicitDefEqProofs (maxSteps := 2000000) (disch := first | omega | (simp only [go_sem, List.length_append, List.length_drop, List.length_take, hb1] <;> omega) | decide) only [go_sem, ↓reduceIte, Nat.reduceEqDiff, reduceCtorEq, Nat.reduceLT, Nat.reduceBEq, Nat.reduceAdd, Nat.reduceSub, Nat.reduceMul, Nat.reduceMod, h15]
 refine hK2 _ ?_
 clear hK2 K2
 refine Tr.kp [3] ?_
 simp only [pk_cons, pk_nil, ↓A_cons, ↓reduceIte, Nat.reduceEqDiff]
 refine Tr.seqK fun K3 hK3 => ?_
 refine Tr.rg hcx [] _ [] rfl rfl rfl ?_
 simp -implicitDefEqProofs (maxSteps := 2000000) (disch := first | omega | (simp only [go_sem, List.length_append, List.length_drop, List.length_take, hb1] <;> omega) | decide) only [go_sem, ↓reduceIte, Nat.reduceEqDiff, reduceCtorEq, Nat.reduceLT, Nat.reduceBEq, Nat.reduceAdd, Nat.reduceSub, Nat.reduceMul, Nat.reduceMod, h15]
 refine hK3 _ ?_
 clear hK3 K3
 refine Tr.kp [3, 4] ?_
 simp only [pk_cons, pk_nil, ↓A_cons, ↓reduceIte, Nat.reduceEqDiff]
 refine Tr.seqK fun K4 hK4 => ?_
 refine Tr.seqK fun K5 hK5 => ?_
 refine Tr.rg hcx [] _ [] rfl rfl rfl ?_
 simp -implicitDefEqProofs (maxSteps := 2000000) (disch := first | omega | (simp only [go_sem, List.length_append, List.length_drop, List.length_take, hb1] <;> omega) | decide) only [go_sem, ↓reduceIte, Nat.reduceEqDiff, reduceCtorEq, Nat.reduceLT, Nat.reduceBEq, Nat.reduceAdd, Nat.reduceSub, Nat.reduceMul, Nat.reduceMod, h15]
 refine hK5 _ ?_
 clear hK5 K5
 refine Tr.kp [3, 4, 5] ?_
 simp only [pk_cons, pk_nil, ↓A_cons, ↓reduceIte, Nat.reduceEqDiff]
 refine Tr.blk ?_
 refine Tr.loopI (α := Nat) (fun a => [(3, ?v3_10), (4, sl nC (.own 1) (ofKp 3 (toks s) a)), (5, .val (nI a))]) (fun a => ?h_10) (fun a => a ≤ (toks s).length) (fun a => (toks s).length - a) (0) ?_ ?le_10 ?hh_10 ?bd_10
 case hh_10 => exact rfl
 case le_10 => (simp only [Le_nil, Le_cons, ↓A_cons, ↓reduceIte, Nat.reduceEqDiff, reduceCtorEq, CLe_refl, CLe_top, CLe_full, CLe_nil, CLe_own, and_true, true_and]; all_goals (repeat' first | exact CLe.refl _ | exact True.intro | (refine CLe_sln ?_; first | with_reducible rfl | (simp only [List.take_zero]; done) | (rfl; done)) | exact CLe_nI (by omega) | exact CLe_int (by omega) | exact CLe_inI (by omega) | exact CLe_nIi (by omega) | with_reducible apply And.intro))
 · omega
 case bd_10 =>
  rintro i hi
  have hb1 := ofKp_len 3 (toks s) i
  refine Tr.seqK fun K6 hK6 => ?_
  refine Tr.seqK fun K7 hK7 => ?_
  refine Tr.rg hcx [] _ [] rfl rfl rfl ?_
  simp -implicitDefEqProofs (maxSteps := 2000000) (disch := first | omega | (simp only [go_sem, List.length_append, List.length_drop, List.length_take, hb1] <;> omega) | decide) only [go_sem, ↓reduceIte, Nat.reduceEqDiff, reduceCtorEq, Nat.reduceLT, Nat.reduceBEq, Nat.reduceAdd, Nat.reduceSub, Nat.reduceMul, Nat.reduceMod, h15]
  refine hK7 _ ?_
  clear hK7 K7
  refine Tr.kp [3, 4, 5, 11] ?_
  simp only [pk_cons, pk_nil, ↓A_cons, ↓reduceIte, Nat.reduceEqDiff]
  refine Tr.condG fun KT KF hT hF => ?_
  simp only [ev_tmp, ev_const, ↓A_cons, ↓reduceIte, Nat.reduceEqDiff, reduceCtorEq, condG_bool, GB_true, GB_false, decide_eq_true_eq]
  refine GB.dec (fun hc11 => hT ?_) (fun hc11 => hF ?_)
  ·
   clear hT hF KT KF
   refine Tr.skip ?_
   refine hK6 _ ?_
   clear hK6 K6
   refine Tr.kp [3, 4, 5] ?_
   simp only [pk_cons, pk_nil, ↓A_cons, ↓reduceIte, Nat.reduceEqDiff]
   refine Tr.seqK fun K8 hK8 => ?_
   refine Tr.blk ?_
   refine Tr.seqK fun K9 hK9 => ?_
   refine Tr.rg hcx [] _ [] rfl rfl rfl ?_
   simp -implicitDefEqProofs (maxSteps := 2000000) (disch := first | omega | (simp only [go_sem, List.length_append, List.length_drop, List.length_take, hb1] <;> omega) | decide) only [go_sem, ↓reduceIte, Nat.reduceEqDiff, reduceCtorEq, Nat.reduceLT, Nat.reduceBEq, Nat.reduceAdd, Nat.reduceSub, Nat.reduceMul, Nat.reduceMod, h15]
   refine hK9 _ ?_
   clear hK9 K9
   refine Tr.kp [3, 4, 5, 19] ?_
   simp only [pk_cons, pk_nil, ↓A_cons, ↓reduceIte, Nat.reduceEqDiff]
   refine Tr.condG fun KT KF hT hF => ?_
   simp only [ev_tmp, ev_const, ↓A_cons, ↓reduceIte, Nat.reduceEqDiff, reduceCtorEq, condG_bool, GB_true, GB_false, decide_eq_true_eq]
   refine GB.dec (fun hc19 => hT ?_) (fun hc19 => hF ?_)
   ·
    clear hT hF KT KF
    refine Tr.rg hcx [20, 1000023] _ [] rfl rfl rfl ?_
    simp -implicitDefEqProofs (maxSteps := 2000000) (disch := first | omega | (simp only [go_sem, List.length_append, List.length_drop, List.length_take, hb1] <;> omega) | decide) only [go_sem, ↓reduceIte, Nat.reduceEqDiff, reduceCtorEq, Nat.reduceLT, Nat.reduceBEq, Nat.reduceAdd, Nat.reduceSub, Nat.reduceMul, Nat.reduceMod, h15]
    refine hK8 _ ?_
    clear hK8 K8
    refine Tr.kp [3, 4, 5] ?_
    simp only [pk_cons, pk_nil, ↓A_cons, ↓reduceIte, Nat.reduceEqDiff]
    refine Tr.rg hcx [1000013] _ [] rfl rfl rfl ?_
    simp -implicitDefEqProofs (maxSteps := 2000000) (disch := first | omega | (simp only [go_sem, List.length_append, List.length_drop, List.length_take, hb1] <;> omega) | decide) only [go_sem, ↓reduceIte, Nat.reduceEqDiff, reduceCtorEq, Nat.reduceLT, Nat.reduceBEq, Nat.reduceAdd, Nat.reduceSub, Nat.reduceMul, Nat.reduceMod, h15]
    refine ⟨i + 1, ⟨by omega, by first | omega | (simp only []; omega)⟩, ?_, rfl⟩
    (simp only [Le_nil, Le_cons, ↓A_cons, ↓reduceIte, Nat.reduceEqDiff, reduceCtorEq, CLe_refl, CLe_top, CLe_full, CLe_nil, CLe_own, and_true, true_and]; all_goals (repeat' first | exact CLe.refl _ | exact True.intro | (refine CLe_sln ?_; first | with_reducible rfl | (simp only [List.take_zero]; done) | (rfl; done)) | exact CLe_nI (by omega) | exact CLe_int (by omega) | exact CLe_inI (by omega) | exact CLe_nIi (by omega) | with_reducible apply And.intro))
    all_goals (refine CLe_sl ?_; first | exact ofKp_T hc19 | exact ofKp_F hc19)
   ·
    clear hT hF KT KF
    refine Tr.skip ?_
    refine hK8 _ ?_
    clear hK8 K8
    refine Tr.kp [3, 4, 5] ?_
    simp only [pk_cons, pk_nil, ↓A_cons, ↓reduceIte, Nat.reduceEqDiff]
    refine Tr.rg hcx [1000013] _ [] rfl rfl rfl ?_
    simp -implicitDefEqProofs (maxSteps := 2000000) (disch := first | omega | (simp only [go_sem, List.length_append, List.length_drop, List.length_take, hb1] <;> omega) | decide) only [go_sem, ↓reduceIte, Nat.reduceEqDiff, reduceCtorEq, Nat.reduceLT, Nat.reduceBEq, Nat.reduceAdd, Nat.reduceSub, Nat.reduceMul, Nat.reduceMod, h15]
    refine ⟨i + 1, ⟨by omega, by first | omega | (simp only []; omega)⟩, ?_, rfl⟩
    (simp only [Le_nil, Le_cons, ↓A_cons, ↓reduceIte, Nat.reduceEqDiff, reduceCtorEq, CLe_refl, CLe_top, CLe_full, CLe_nil, CLe_own, and_true, true_and]; all_goals (repeat' first | exact CLe.refl _ | exact True.intro | (refine CLe_sln ?_; first | with_reducible rfl | (simp only [List.take_zero]; done) | (rfl; done)) | exact CLe_nI (by omega) | exact CLe_int (by omega) | exact CLe_inI (by omega) | exact CLe_nIi (by omega) | with_reducible apply And.intro))
    all_goals (refine CLe_sl ?_; first | exact ofKp_T hc19 | exact ofKp_F hc19)
  ·
   clear hT hF KT KF
   obtain rfl : i = (toks s).length := by omega
   refine Tr.exit ?_
   refine hK4 _ ?_
   clear hK6 K6 hK4 K4
   refine Tr.kp [4] ?_
   simp only [pk_cons, pk_nil, ↓A_cons, ↓reduceIte, Nat.reduceEqDiff]
   refine Tr.seqK fun K10 hK10 => ?_
   refine Tr.rg hcx [1000024] _ [] rfl rfl rfl ?_
   simp -implicitDefEqProofs (maxSteps := 2000000) (disch := first | omega | (simp only [go_sem, List.length_append, List.length_drop, List.length_take, hb1] <;> omega) | decide) only [go_sem, ↓reduceIte, Nat.reduceEqDiff, reduceCtorEq, Nat.reduceLT, Nat.reduceBEq, Nat.reduceAdd, Nat.reduceSub, Nat.reduceMul, Nat.reduceMod, h15]
   refine hK10 _ ?_
   clear hK10 K10
   refine Tr.kp [2] ?_
   simp only [pk_cons, pk_nil, ↓A_cons, ↓reduceIte, Nat.reduceEqDiff]
   refine Tr.ret ?_
   simp -implicitDefEqProofs (disch := first | omega | (simp only [go_sem, List.length_append, List.length_drop, List.length_take, hb1] <;> omega) | decide) only [go_sem, ↓reduceIte, Nat.reduceEqDiff, reduceCtorEq]
   all_goals (rfl)
set_option maxRecDepth 100000 in
set_option maxHeartbeats 8000000 in
theorem fc49 {gl : Nat → C} {M : Nat} {pu : Nat → List C → Option C}  (hcx : CxOK (cxP gl M pu)) (l : List Tok) (k : Nat) (hl : l.length ≤ 1000000) : FC Try.prog gl 49 [sl tC .no l, .val (nI k)] [] (sl nC (.own 1) (ofK k l)) [] := by
 replace hcx := hcx.reN (M := 25)
 refine FC.ofA (cx := cxP gl 25 pu) (rs := [.tmp 4]) rfl Try.func49 rfl rfl rfl (by simp only [List.length_cons, List.length_nil]; decide) (by simp only [go_sem]) ?_
 simp only [ini, go_sem]
 have hb1 := True.intro
 refine Tr.seqK fun K1 hK1 => ?_
 refine Tr.rg hcx [] _ [] rfl rfl rfl ?_
 simp -implicitDefEqProofs (maxSteps := 2000000) (disch := first | omega | (simp only [go_sem, List.length_append, List.length_drop, List.length_take, hb1] <;> omega) | decide) only [go_sem, ↓reduceIte, Nat.reduceEqDiff, reduceCtorEq, Nat.reduceLT, Nat.reduceBEq, Nat.reduceAdd, Nat.reduceSub, Nat.reduceMul, Nat.reduceMod]
 refine hK1 _ ?_
 clear hK1 K1
 refine Tr.kp [0, 1] ?_
 simp only [pk_cons, pk_nil, ↓A_cons, ↓reduceIte, Nat.reduceEqDiff]
 refine Tr.seqK fun K2 hK2 => ?_
 refine Tr.rg hcx [] _ [] rfl rfl rfl ?_
 simp -implicitDefEqProofs (maxSteps := 2000000) (disch := first | omega | (simp only [go_sem, List.length_append, List.length_drop, List.length_take, hb1] <;> omega) | decide) only [go_sem, ↓reduceIte, Nat.reduceEqDiff, reduceCtorEq, Nat.reduceLT, Nat.reduceBEq, Nat.reduceAdd, Nat.reduceSub, Nat.reduceMul, Nat.reduceMod]
 refine hK2 _ ?_
 clear hK2 K2
 refine Tr.kp [0, 1, 5] ?_
 simp only [pk_cons, pk_nil, ↓A_cons, ↓reduceIte, Nat.reduceEqDiff]
 refine Tr.seqK fun K3 hK3 => ?_
 refine Tr.seqK fun K4 hK4 => ?_
 refine Tr.rg hcx [] _ [] rfl rfl rfl ?_
 simp -implicitDefEqProofs (maxSteps := 2000000) (disch := first | omega | (simp only [go_sem, List.length_append, List.length_drop, List.length_take, hb1] <;> omega) | decide) only [go_sem, ↓reduceIte, Nat.reduceEqDiff, reduceCtorEq, Nat.reduceLT, Nat.reduceBEq, Nat.reduceAdd, Nat.reduceSub, Nat.reduceMul, Nat.reduceMod]
 refine hK4 _ ?_
 clear hK4 K4
 refine Tr.kp [1, 5, 8, 9, 10] ?_
 simp only [pk_cons, pk_nil, ↓A_cons, ↓reduceIte, Nat.reduceEqDiff]
 refine Tr.blk ?_
 refine Tr.loopI (α := Nat) (fun a => [(1, ?v1_36), (5, sl nC (.own 1) (ofKp k l a)), (8, ?v8_36), (9, ?v9_36), (10, .val (nI a))]) (fun a => []) (fun a => a ≤ l.length) (fun a => l.length - a) (0) ?_ ?le_36 ?hh_36 ?bd_36
 case hh_36 => exact rfl
 case le_36 => (simp only [Le_nil, Le_cons, ↓A_cons, ↓reduceIte, Nat.reduceEqDiff, reduceCtorEq, CLe_refl, CLe_top, CLe_full, CLe_nil, CLe_own, and_true, true_and]; all_goals (repeat' first | exact CLe.refl _ | exact True.intro | (refine CLe_sln ?_; first | with_reducible rfl | (simp only [List.take_zero]; done) | (rfl; done)) | exact CLe_nI (by omega) | exact CLe_int (by omega) | exact CLe_inI (by omega) | exact CLe_nIi (by omega) | with_reducible apply And.intro))
 · omega
 case bd_36 =>
  rintro i hi
  have hb1 := ofKp_len k l i
  refine Tr.seqK fun K5 hK5 => ?_
  refine Tr.rg hcx [] _ [] rfl rfl rfl ?_
  simp -implicitDefEqProofs (maxSteps := 2000000) (disch := first | omega | (simp only [go_sem, List.length_append, List.length_drop, List.length_take, hb1] <;> omega) | decide) only [go_sem, ↓reduceIte, Nat.reduceEqDiff, reduceCtorEq, Nat.reduceLT, Nat.reduceBEq, Nat.reduceAdd, Nat.reduceSub, Nat.reduceMul, Nat.reduceMod]
  refine hK5 _ ?_
  clear hK5 K5
  refine Tr.kp [1, 5, 8, 9, 10, 11] ?_
  simp only [pk_cons, pk_nil, ↓A_cons, ↓reduceIte, Nat.reduceEqDiff]
  refine Tr.seqK fun K6 hK6 => ?_
  refine Tr.condG fun KT KF hT hF => ?_
  simp only [ev_tmp, ev_const, ↓A_cons, ↓reduceIte, Nat.reduceEqDiff, reduceCtorEq, condG_bool, GB_true, GB_false, decide_eq_true_eq]
  refine GB.dec (fun hc11 => hT ?_) (fun hc11 => hF ?_)
  ·
   clear hT hF KT KF
   refine Tr.skip ?_
   refine hK6 _ ?_
   clear hK6 K6
   refine Tr.kp [1, 5, 8, 9, 10] ?_
   simp only [pk_cons, pk_nil, ↓A_cons, ↓reduceIte, Nat.reduceEqDiff]
   refine Tr.seqK fun K7 hK7 => ?_
   refine Tr.blk ?_
   refine Tr.seqK fun K8 hK8 => ?_
   refine Tr.rg hcx [1000012] _ [none] rfl rfl rfl ?_
   simp -implicitDefEqProofs (maxSteps := 2000000) (disch := first | omega | (simp only [go_sem, List.length_append, List.length_drop, List.length_take, hb1] <;> omega) | decide) only [go_sem, ↓reduceIte, Nat.reduceEqDiff, reduceCtorEq, Nat.reduceLT, Nat.reduceBEq, Nat.reduceAdd, Nat.reduceSub, Nat.reduceMul, Nat.reduceMod]
   refine hK8 _ ?_
   clear hK8 K8
   refine Tr.kp [1, 5, 6, 7, 8, 9, 10] ?_
   simp only [pk_cons, pk_nil, ↓A_cons, ↓reduceIte, Nat.reduceEqDiff]
   refine Tr.seqK fun K9 hK9 => ?_
   refine Tr.rg hcx [] _ [] rfl rfl rfl ?_
   simp -implicitDefEqProofs (maxSteps := 2000000) (disch := first | omega | (simp only [go_sem, List.length_append, List.length_drop, List.length_take, hb1] <;> omega) | decide) only [go_sem, ↓reduceIte, Nat.reduceEqDiff, reduceCtorEq, Nat.reduceLT, Nat.reduceBEq, Nat.reduceAdd, Nat.reduceSub, Nat.reduceMul, Nat.reduceMod]
   refine hK9 _ ?_
   clear hK9 K9
   refine Tr.kp [1, 5, 6, 8, 9, 10, 18] ?_
   simp only [pk_cons, pk_nil, ↓A_cons, ↓reduceIte, Nat.reduceEqDiff]
   refine Tr.condG fun KT KF hT hF => ?_
   simp only [ev_tmp, ev_const, ↓A_cons, ↓reduceIte, Nat.reduceEqDiff, reduceCtorEq, condG_bool, GB_true, GB_false, decide_eq_true_eq]
   refine GB.dec (fun hc18 => hT ?_) (fun hc18 => hF ?_)
   ·
    clear hT hF KT KF
    refine Tr.rg hcx [19, 1000022] _ [] rfl rfl rfl ?_
    simp -implicitDefEqProofs (maxSteps := 2000000) (disch := first | omega | (simp only [go_sem, List.length_append, List.length_drop, List.length_take, hb1] <;> omega) | decide) only [go_sem, ↓reduceIte, Nat.reduceEqDiff, reduceCtorEq, Nat.reduceLT, Nat.reduceBEq, Nat.reduceAdd, Nat.reduceSub, Nat.reduceMul, Nat.reduceMod]
    refine hK7 _ ?_
    clear hK7 K7
    refine Tr.kp [1, 5, 8, 9, 10] ?_
    simp only [pk_cons, pk_nil, ↓A_cons, ↓reduceIte, Nat.reduceEqDiff]
    refine Tr.cutA hcx 0 (by decide) ?_ ?_ ?_
    · simp only [noRefE_nil, noRefE_cons, go_sem, Bool.true_and] <;> decide
    · simp only [List.take_succ_cons, List.take_zero, noRefH_nil, noRefH_none, noRefH_some, go_sem, Bool.true_and] <;> decide
    simp only [List.take_succ_cons, List.take_zero]
    refine Tr.rg hcx [] _ [] rfl rfl rfl ?_
    simp -implicitDefEqProofs (maxSteps := 2000000) (disch := first | omega | (simp only [go_sem, List.length_append, List.length_drop, List.length_take, hb1] <;> omega) | decide) only [go_sem, ↓reduceIte, Nat.reduceEqDiff, reduceCtorEq, Nat.reduceLT, Nat.reduceBEq, Nat.reduceAdd, Nat.reduceSub, Nat.reduceMul, Nat.reduceMod]
    refine ⟨i + 1, ⟨by omega, by first | omega | (simp only []; omega)⟩, ?_, rfl⟩
    (simp only [Le_nil, Le_cons, ↓A_cons, ↓reduceIte, Nat.reduceEqDiff, reduceCtorEq, CLe_refl, CLe_top, CLe_full, CLe_nil, CLe_own, and_true, true_and]; all_goals (repeat' first | exact CLe.refl _ | exact True.intro | (refine CLe_sln ?_; first | with_reducible rfl | (simp only [List.take_zero]; done) | (rfl; done)) | exact CLe_nI (by omega) | exact CLe_int (by omega) | exact CLe_inI (by omega) | exact CLe_nIi (by omega) | with_reducible apply And.intro))
    all_goals (refine CLe_sl ?_; first | exact ofKp_T hc18 | exact ofKp_F hc18)
   ·
    clear hT hF KT KF
    refine Tr.skip ?_
    refine hK7 _ ?_
    clear hK7 K7
    refine Tr.kp [1, 5, 8, 9, 10] ?_
    simp only [pk_cons, pk_nil, ↓A_cons, ↓reduceIte, Nat.reduceEqDiff]
    refine Tr.cutA hcx 0 (by decide) ?_ ?_ ?_
    · simp only [noRefE_nil, noRefE_cons, go_sem, Bool.true_and] <;> decide
    · simp only [List.take_succ_cons, List.take_zero, noRefH_nil, noRefH_none, noRefH_some, go_sem, Bool.true_and] <;> decide
    simp only [List.take_succ_cons, List.take_zero]
    refine Tr.rg hcx [] _ [] rfl rfl rfl ?_
    simp -implicitDefEqProofs (maxSteps := 2000000) (disch := first | omega | (simp only [go_sem, List.length_append, List.length_drop, List.length_take, hb1] <;> omega) | decide) only [go_sem, ↓reduceIte, Nat.reduceEqDiff, reduceCtorEq, Nat.reduceLT, Nat.reduceBEq, Nat.reduceAdd, Nat.reduceSub, Nat.reduceMul, Nat.reduceMod]
    refine ⟨i + 1, ⟨by omega, by first | omega | (simp only []; omega)⟩, ?_, rfl⟩
    (simp only [Le_nil, Le_cons, ↓A_cons, ↓reduceIte, Nat.reduceEqDiff, reduceCtorEq, CLe_refl, CLe_top, CLe_full, CLe_nil, CLe_own, and_true, true_and]; all_goals (repeat' first | exact CLe.refl _ | exact True.intro | (refine CLe_sln ?_; first | with_reducible rfl | (simp only [List.take_zero]; done) | (rfl; done)) | exact CLe_nI (by omega) | exact CLe_int (by omega) | exact CLe_inI (by omega) | exact CLe_nIi (by omega) | with_reducible apply And.intro))
    all_goals (refine CLe_sl ?_; first | exact ofKp_T hc18 | exact ofKp_F hc18)
  ·
   clear hT hF KT KF
   obtain rfl : i = l.length := by omega
   refine Tr.exit ?_
   refine hK3 _ ?_
   clear hK6 K6 hK3 K3
   refine Tr.kp [5] ?_
   simp only [pk_cons, pk_nil, ↓A_cons, ↓reduceIte, Nat.reduceEqDiff]
   refine Tr.seqK fun K10 hK10 => ?_
   refine Tr.rg hcx [1000024] _ [] rfl rfl rfl ?_
   simp -implicitDefEqProofs (maxSteps := 2000000) (disch := first | omega | (simp only [go_sem, List.length_append, List.length_drop, List.length_take, hb1] <;> omega) | decide) only [go_sem, ↓reduceIte, Nat.reduceEqDiff, reduceCtorEq, Nat.reduceLT, Nat.reduceBEq, Nat.reduceAdd, Nat.reduceSub, Nat.reduceMul, Nat.reduceMod]
   refine hK10 _ ?_
   clear hK10 K10
   refine Tr.kp [4] ?_
   simp only [pk_cons, pk_nil, ↓A_cons, ↓reduceIte, Nat.reduceEqDiff]
   refine Tr.ret ?_
   simp -implicitDefEqProofs (disch := first | omega | (simp only [go_sem, List.length_append, List.length_drop, List.length_take, hb1] <;> omega) | decide) only [go_sem, ↓reduceIte, Nat.reduceEqDiff, reduceCtorEq]
   all_goals (rfl)
end Go.Sx
namespace Go.Sx
open Go.RowKit Go.Proofs
def mix (s : List UInt8) (i : Nat) : List UInt8 := (s.take i).map low ++ s.drop i
theorem mix_len (s : List UInt8) (i : Nat) : (mix s i).length = s.length := by simp [mix]; omega
theorem mix_0 (s : List UInt8) : mix s 0 = s := by simp [mix]
theorem mix_all (s : List UInt8) : mix s s.length = s.map low := by simp [mix]
theorem mix_gt {s : List UInt8} {i : Nat} (h : i < s.length) : gt (mix s i) i = gt s i := by
  have e : s[i] = gt s i := by simp [gt, List.getD, List.getElem?_eq_getElem h]
  unfold mix
  rw [List.drop_eq_getElem_cons h, gt_mid _ _ _ _ (by simp; omega), e]
theorem mix_set {s : List UInt8} {i : Nat} {x : UInt8} (h : i < s.length) (hx : x = low (gt s i)) : (mix s i).set i x = mix s (i + 1) := by
  have e : s[i] = gt s i := by simp [gt, List.getD, List.getElem?_eq_getElem h]
  unfold mix
  rw [List.drop_eq_getElem_cons h, set_mid _ _ _ _ _ (by simp; omega), take_snoc s i h, List.map_append, hx]
  simp
theorem mix_F {s : List UInt8} {i : Nat} (h : i < s.length) (hx : gt s i = low (gt s i)) : mix s i = mix s (i + 1) := by
  rw [← mix_set h hx]
  have e : gt (mix s i) i = gt s i := mix_gt h
  have hl : i < (mix s i).length := by rw [mix_len]; exact h
  have e2 : (mix s i)[i] = gt s i := by rw [← e]; simp [gt, List.getD, List.getElem?_eq_getElem hl]
  rw [← e2]; exact (List.set_getElem_self hl).symm
theorem low_T {c : UInt8} (h1 : UInt8.ofNat 65 ≤ c) (h2 : c ≤ UInt8.ofNat 90) : c - UInt8.ofNat 65 + UInt8.ofNat 97 = low c := by
  have := all8 (fun c => !(decide (UInt8.ofNat 65 ≤ c) && decide (c ≤ UInt8.ofNat 90)) || decide (c - UInt8.ofNat 65 + UInt8.ofNat 97 = low c)) (by decide +kernel) c
  simp only [Bool.or_eq_true, Bool.not_eq_true', Bool.and_eq_false_iff, decide_eq_true_eq, decide_eq_false_iff_not] at this
  rcases this with (h | h) | h
  · exact absurd h1 h
  · exact absurd h2 h
  · exact h
theorem low_F {c : UInt8} (h : ¬ (UInt8.ofNat 65 ≤ c ∧ c ≤ UInt8.ofNat 90)) : c = low c := by
  have := all8 (fun c => (decide (UInt8.ofNat 65 ≤ c) && decide (c ≤ UInt8.ofNat 90)) || decide (c = low c)) (by decide +kernel) c
  simp only [Bool.or_eq_true, Bool.and_eq_true, decide_eq_true_eq] at this
  rcases this with h2 | h2
  · exact absurd h2 h
  · exact h2
set_option maxRecDepth 100000 in
set_option maxHeartbeats 8000000 in
theorem fc23 {gl : Nat → C} {M : Nat} {pu : Nat → List C → Option C}  (hcx : CxOK (cxP gl M pu)) (s : List UInt8) (hs : s.length ≤ 1000000) : FC Try.prog gl 23 [.val (str s)] [] (.val (str (s.map low))) [] := by
 replace hcx := hcx.reN (M := 36)
 refine FC.ofA (cx := cxP gl 36 pu) (rs := [.tmp 2]) rfl Try.func23 rfl rfl rfl (by simp only [List.length_cons, List.length_nil]; decide) (by simp only [go_sem]) ?_
 simp only [ini, go_sem]
 refine Tr.seqK fun K1 hK1 => ?_
 refine Tr.rg hcx [] _ [] rfl rfl rfl ?_
 simp -implicitDefEqProofs (maxSteps := 2000000) (disch := first | omega | (simp only [go_sem, List.length_append, List.length_drop, List.length_take, mix_len, List.length_map] <;> omega) | decide) only [go_sem, ↓reduceIte, Nat.reduceEqDiff, reduceCtorEq, Nat.reduceLT, Nat.reduceBEq, Nat.reduceAdd, Nat.reduceSub, Nat.reduceMul, Nat.reduceMod, Nat.zero_add, Nat.mul_one, mix_len]
 refine hK1 _ ?_
 clear hK1 K1
 refine Tr.kp [0] ?_
 simp only [pk_cons, pk_nil, ↓A_cons, ↓reduceIte, Nat.reduceEqDiff]
 refine Tr.seqK fun K2 hK2 => ?_
 refine Tr.rgG hcx [6] [1000006] _ [] rfl rfl rfl ?_
 simp -implicitDefEqProofs (maxSteps := 2000000) (disch := first | omega | (simp only [go_sem, List.length_append, List.length_drop, List.length_take, mix_len, List.length_map] <;> omega) | decide) only [go_sem, ↓reduceIte, Nat.reduceEqDiff, reduceCtorEq, Nat.reduceLT, Nat.reduceBEq, Nat.reduceAdd, Nat.reduceSub, Nat.reduceMul, Nat.reduceMod, Nat.zero_add, Nat.mul_one, mix_len]
 refine hK2 _ ?_
 clear hK2 K2
 refine Tr.kp [3] ?_
 simp only [pk_cons, pk_nil, ↓A_cons, ↓reduceIte, Nat.reduceEqDiff]
 refine Tr.seqK fun K3 hK3 => ?_
 refine Tr.seqK fun K4 hK4 => ?_
 refine Tr.rg hcx [] _ [] rfl rfl rfl ?_
 simp -implicitDefEqProofs (maxSteps := 2000000) (disch := first | omega | (simp only [go_sem, List.length_append, List.length_drop, List.length_take, mix_len, List.length_map] <;> omega) | decide) only [go_sem, ↓reduceIte, Nat.reduceEqDiff, reduceCtorEq, Nat.reduceLT, Nat.reduceBEq, Nat.reduceAdd, Nat.reduceSub, Nat.reduceMul, Nat.reduceMod, Nat.zero_add, Nat.mul_one, mix_len]
 refine hK4 _ ?_
 clear hK4 K4
 refine Tr.kp [3, 4] ?_
 simp only [pk_cons, pk_nil, ↓A_cons, ↓reduceIte, Nat.reduceEqDiff]
 refine Tr.blk ?_
 refine Tr.loopI (α := Nat) (fun a => [(3, .gv 0 s.length 1), (4, .val (nI a))]) (fun a => [some (cl bC (mix s a))]) (fun a => a ≤ s.length) (fun a => s.length - a) (0) ?_ ?le_8 ?hh_8 ?bd_8
 case hh_8 => exact by rw [mix_0]
 case le_8 => (simp only [Le_nil, Le_cons, ↓A_cons, ↓reduceIte, Nat.reduceEqDiff, reduceCtorEq, CLe_refl, CLe_top, CLe_full, CLe_nil, CLe_own, and_true, true_and]; all_goals (repeat' first | exact CLe.refl _ | exact True.intro | (refine CLe_sln ?_; first | with_reducible rfl | (simp only [List.take_zero]; done) | (rfl; done)) | exact CLe_nI (by omega) | exact CLe_int (by omega) | exact CLe_inI (by omega) | exact CLe_nIi (by omega) | with_reducible apply And.intro))
 · omega
 case bd_8 =>
  rintro i hi
  refine Tr.seqK fun K5 hK5 => ?_
  refine Tr.seqK fun K6 hK6 => ?_
  refine Tr.rg hcx [] _ [] rfl rfl rfl ?_
  simp -implicitDefEqProofs (maxSteps := 2000000) (disch := first | omega | (simp only [go_sem, List.length_append, List.length_drop, List.length_take, mix_len, List.length_map] <;> omega) | decide) only [go_sem, ↓reduceIte, Nat.reduceEqDiff, reduceCtorEq, Nat.reduceLT, Nat.reduceBEq, Nat.reduceAdd, Nat.reduceSub, Nat.reduceMul, Nat.reduceMod, Nat.zero_add, Nat.mul_one, mix_len]
  refine hK6 _ ?_
  clear hK6 K6
  refine Tr.kp [3, 4, 10] ?_
  simp only [pk_cons, pk_nil, ↓A_cons, ↓reduceIte, Nat.reduceEqDiff]
  refine Tr.condG fun KT KF hT hF => ?_
  simp only [ev_tmp, ev_const, ↓A_cons, ↓reduceIte, Nat.reduceEqDiff, reduceCtorEq, condG_bool, GB_true, GB_false, decide_eq_true_eq]
  refine GB.dec (fun hc10 => hT ?_) (fun hc10 => hF ?_)
  ·
   clear hT hF KT KF
   refine Tr.skip ?_
   refine hK5 _ ?_
   clear hK5 K5
   refine Tr.kp [3, 4] ?_
   simp only [pk_cons, pk_nil, ↓A_cons, ↓reduceIte, Nat.reduceEqDiff]
   refine Tr.seqK fun K7 hK7 => ?_
   refine Tr.blk ?_
   refine Tr.seqK fun K8 hK8 => ?_
   by_cases a1 : UInt8.ofNat 65 ≤ gt s i
   ·
    by_cases a2 : gt s i ≤ UInt8.ofNat 90
    ·
     refine Tr.rg hcx [] [some 13, some 14, some 15, some 16, some 17, some 18, some 19, some 20, some 21, some 22, some 23, some 24] [] rfl rfl rfl ?_
     simp -implicitDefEqProofs (maxSteps := 2000000) (disch := first | omega | (simp only [go_sem, List.length_append, List.length_drop, List.length_take, mix_len, List.length_map] <;> omega) | decide) only [go_sem, ↓reduceIte, Nat.reduceEqDiff, reduceCtorEq, Nat.reduceLT, Nat.reduceBEq, Nat.reduceAdd, Nat.reduceSub, Nat.reduceMul, Nat.reduceMod, Nat.zero_add, Nat.mul_one, mix_len, a1, a2, mix_gt hc10]
     refine hK8 _ ?_
     clear hK8 K8
     refine Tr.kp [3, 4, 24] ?_
     simp only [pk_cons, pk_nil, ↓A_cons, ↓reduceIte, Nat.reduceEqDiff]
     refine Tr.condG fun KT KF hT hF => ?_
     simp only [ev_tmp, ev_const, ↓A_cons, ↓reduceIte, Nat.reduceEqDiff, reduceCtorEq, condG_bool, GB_true, GB_false, decide_eq_true_eq]
     refine hT ?_
     clear hT hF KT KF
     refine Tr.rg hcx [] _ [] rfl rfl rfl ?_
     simp -implicitDefEqProofs (maxSteps := 2000000) (disch := first | omega | (simp only [go_sem, List.length_append, List.length_drop, List.length_take, mix_len, List.length_map] <;> omega) | decide) only [go_sem, ↓reduceIte, Nat.reduceEqDiff, reduceCtorEq, Nat.reduceLT, Nat.reduceBEq, Nat.reduceAdd, Nat.reduceSub, Nat.reduceMul, Nat.reduceMod, Nat.zero_add, Nat.mul_one, mix_len, a1, a2, mix_gt hc10]
     refine hK7 _ ?_
     clear hK7 K7
     refine Tr.kp [3, 4] ?_
     simp only [pk_cons, pk_nil, ↓A_cons, ↓reduceIte, Nat.reduceEqDiff]
     refine Tr.rg hcx [1000012] _ [] rfl rfl rfl ?_
     simp -implicitDefEqProofs (maxSteps := 2000000) (disch := first | omega | (simp only [go_sem, List.length_append, List.length_drop, List.length_take, mix_len, List.length_map] <;> omega) | decide) only [go_sem, ↓reduceIte, Nat.reduceEqDiff, reduceCtorEq, Nat.reduceLT, Nat.reduceBEq, Nat.reduceAdd, Nat.reduceSub, Nat.reduceMul, Nat.reduceMod, Nat.zero_add, Nat.mul_one, mix_len, a1, a2]
     refine ⟨i + 1, ⟨by omega, by first | omega | (simp only []; omega)⟩, ?_, by first | rw [mix_set hc10 (low_T a1 a2)] | rw [mix_F hc10 (low_F (by intro hh; first | exact a1 hh.1 | exact a2 hh.2))]⟩
     (simp only [Le_nil, Le_cons, ↓A_cons, ↓reduceIte, Nat.reduceEqDiff, reduceCtorEq, CLe_refl, CLe_top, CLe_full, CLe_nil, CLe_own, and_true, true_and]; all_goals (repeat' first | exact CLe.refl _ | exact True.intro | (refine CLe_sln ?_; first | with_reducible rfl | (simp only [List.take_zero]; done) | (rfl; done)) | exact CLe_nI (by omega) | exact CLe_int (by omega) | exact CLe_inI (by omega) | exact CLe_nIi (by omega) | with_reducible apply And.intro))
    ·
     refine Tr.rg hcx [] [some 13, some 14, some 15, some 16, some 17, some 18, some 19, some 20, some 21, some 22, some 23, some 24] [] rfl rfl rfl ?_
     simp -implicitDefEqProofs (maxSteps := 2000000) (disch := first | omega | (simp only [go_sem, List.length_append, List.length_drop, List.length_take, mix_len, List.length_map] <;> omega) | decide) only [go_sem, ↓reduceIte, Nat.reduceEqDiff, reduceCtorEq, Nat.reduceLT, Nat.reduceBEq, Nat.reduceAdd, Nat.reduceSub, Nat.reduceMul, Nat.reduceMod, Nat.zero_add, Nat.mul_one, mix_len, a1, a2, mix_gt hc10]
     refine hK8 _ ?_
     clear hK8 K8
     refine Tr.kp [3, 4, 24] ?_
     simp only [pk_cons, pk_nil, ↓A_cons, ↓reduceIte, Nat.reduceEqDiff]
     refine Tr.condG fun KT KF hT hF => ?_
     simp only [ev_tmp, ev_const, ↓A_cons, ↓reduceIte, Nat.reduceEqDiff, reduceCtorEq, condG_bool, GB_true, GB_false, decide_eq_true_eq]
     refine hF ?_
     clear hT hF KT KF
     refine Tr.skip ?_
     refine hK7 _ ?_
     clear hK7 K7
     refine Tr.kp [3, 4] ?_
     simp only [pk_cons, pk_nil, ↓A_cons, ↓reduceIte, Nat.reduceEqDiff]
     refine Tr.rg hcx [1000012] _ [] rfl rfl rfl ?_
     simp -implicitDefEqProofs (maxSteps := 2000000) (disch := first | omega | (simp only [go_sem, List.length_append, List.length_drop, List.length_take, mix_len, List.length_map] <;> omega) | decide) only [go_sem, ↓reduceIte, Nat.reduceEqDiff, reduceCtorEq, Nat.reduceLT, Nat.reduceBEq, Nat.reduceAdd, Nat.reduceSub, Nat.reduceMul, Nat.reduceMod, Nat.zero_add, Nat.mul_one, mix_len, a1, a2]
     refine ⟨i + 1, ⟨by omega, by first | omega | (simp only []; omega)⟩, ?_, by first | rw [mix_set hc10 (low_T a1 a2)] | rw [mix_F hc10 (low_F (by intro hh; first | exact a1 hh.1 | exact a2 hh.2))]⟩
     (simp only [Le_nil, Le_cons, ↓A_cons, ↓reduceIte, Nat.reduceEqDiff, reduceCtorEq, CLe_refl, CLe_top, CLe_full, CLe_nil, CLe_own, and_true, true_and]; all_goals (repeat' first | exact CLe.refl _ | exact True.intro | (refine CLe_sln ?_; first | with_reducible rfl | (simp only [List.take_zero]; done) | (rfl; done)) | exact CLe_nI (by omega) | exact CLe_int (by omega) | exact CLe_inI (by omega) | exact CLe_nIi (by omega) | with_reducible apply And.intro))
   ·
    refine Tr.rg hcx [] [some 13, some 14, some 15, some 16, some 17, some 18, some 19, some 20, some 21, some 22, some 23, some 24] [] rfl rfl rfl ?_
    simp -implicitDefEqProofs (maxSteps := 2000000) (disch := first | omega | (simp only [go_sem, List.length_append, List.length_drop, List.length_take, mix_len, List.length_map] <;> omega) | decide) only [go_sem, ↓reduceIte, Nat.reduceEqDiff, reduceCtorEq, Nat.reduceLT, Nat.reduceBEq, Nat.reduceAdd, Nat.reduceSub, Nat.reduceMul, Nat.reduceMod, Nat.zero_add, Nat.mul_one, mix_len, a1, mix_gt hc10]
    refine hK8 _ ?_
    clear hK8 K8
    refine Tr.kp [3, 4, 24] ?_
    simp only [pk_cons, pk_nil, ↓A_cons, ↓reduceIte, Nat.reduceEqDiff]
    refine Tr.condG fun KT KF hT hF => ?_
    simp only [ev_tmp, ev_const, ↓A_cons, ↓reduceIte, Nat.reduceEqDiff, reduceCtorEq, condG_bool, GB_true, GB_false, decide_eq_true_eq]
    refine hF ?_
    clear hT hF KT KF
    refine Tr.skip ?_
    refine hK7 _ ?_
    clear hK7 K7
    refine Tr.kp [3, 4] ?_
    simp only [pk_cons, pk_nil, ↓A_cons, ↓reduceIte, Nat.reduceEqDiff]
    refine Tr.rg hcx [1000012] _ [] rfl rfl rfl ?_
    simp -implicitDefEqProofs (maxSteps := 2000000) (disch := first | omega | (simp only [go_sem, List.length_append, List.length_drop, List.length_take, mix_len, List.length_map] <;> omega) | decide) only [go_sem, ↓reduceIte, Nat.reduceEqDiff, reduceCtorEq, Nat.reduceLT, Nat.reduceBEq, Nat.reduceAdd, Nat.reduceSub, Nat.reduceMul, Nat.reduceMod, Nat.zero_add, Nat.mul_one, mix_len, a1]
    refine ⟨i + 1, ⟨by omega, by first | omega | (simp only []; omega)⟩, ?_, by first | rw [mix_set hc10 (low_T a1 a2)] | rw [mix_F hc10 (low_F (by intro hh; first | exact a1 hh.1 | exact a2 hh.2))]⟩
    (simp only [Le_nil, Le_cons, ↓A_cons, ↓reduceIte, Nat.reduceEqDiff, reduceCtorEq, CLe_refl, CLe_top, CLe_full, CLe_nil, CLe_own, and_true, true_and]; all_goals (repeat' first | exact CLe.refl _ | exact True.intro | (refine CLe_sln ?_; first | with_reducible rfl | (simp only [List.take_zero]; done) | (rfl; done)) | exact CLe_nI (by omega) | exact CLe_int (by omega) | exact CLe_inI (by omega) | exact CLe_nIi (by omega) | with_reducible apply And.intro))
  ·
   clear hT hF KT KF
   obtain rfl : i = s.length := by omega
   refine Tr.exit ?_
   refine hK3 _ ?_
   clear hK5 K5 hK3 K3
   refine Tr.kp [3] ?_
   simp only [pk_cons, pk_nil, ↓A_cons, ↓reduceIte, Nat.reduceEqDiff]
   refine Tr.seqK fun K9 hK9 => ?_
   refine Tr.rg hcx [1000035] _ [] rfl rfl rfl ?_
   simp -implicitDefEqProofs (maxSteps := 2000000) (disch := first | omega | (simp only [go_sem, List.length_append, List.length_drop, List.length_take, mix_len, List.length_map] <;> omega) | decide) only [go_sem, ↓reduceIte, Nat.reduceEqDiff, reduceCtorEq, Nat.reduceLT, Nat.reduceBEq, Nat.reduceAdd, Nat.reduceSub, Nat.reduceMul, Nat.reduceMod, Nat.zero_add, Nat.mul_one, mix_len]
   refine hK9 _ ?_
   clear hK9 K9
   refine Tr.kp [2] ?_
   simp only [pk_cons, pk_nil, ↓A_cons, ↓reduceIte, Nat.reduceEqDiff]
   refine Tr.ret ?_
   simp -implicitDefEqProofs (disch := first | omega | (simp only [go_sem, List.length_append, List.length_drop, List.length_take, mix_len, List.length_map] <;> omega) | decide) only [go_sem, ↓reduceIte, Nat.reduceEqDiff, reduceCtorEq]
   all_goals (rw [mix_all, List.take_of_length_le (l := s.map low) (by rw [List.length_map]; exact Nat.le_refl _)])
end Go.Sx
namespace Go.Sx
open Go.RowKit Go.Proofs
theorem txt_eq (s : List UInt8) (t : Tok) : (s.drop t.a).take (t.e - t.a) = txt s t := rfl
theorem txt_len (s : List UInt8) (t : Tok) : (txt s t).length ≤ s.length := by unfold txt; simp; omega
def wordsP (s : List UInt8) (n : Nat) : List (List UInt8) := (ofKp 0 (toks s) n).map fun i => (txt s (gt (toks s) i)).map low
theorem wordsP_len (s : List UInt8) (n : Nat) : (wordsP s n).length ≤ n := by unfold wordsP; rw [List.length_map]; exact ofKp_len _ _ _
theorem wordsP_T {s : List UInt8} {n : Nat} (h : (gt (toks s) n).k = 0) : wordsP s n ++ [(txt s (gt (toks s) n)).map low] = wordsP s (n + 1) := by
  unfold wordsP; rw [← ofKp_T h]; simp
theorem wordsP_F {s : List UInt8} {n : Nat} (h : ¬ (gt (toks s) n).k = 0) : wordsP s n = wordsP s (n + 1) := by
  unfold wordsP; rw [← ofKp_F h]
theorem ofK_lt {k : Nat} {l : List Tok} {j : Nat} (h : j < (ofK k l).length) : gt (ofK k l) j < l.length := by
  have e : gt (ofK k l) j = (ofK k l)[j] := by simp [gt, List.getD, List.getElem?_eq_getElem h]
  have hm : (ofK k l)[j] ∈ ofK k l := List.getElem_mem h
  rw [e]
  have hm2 : (ofK k l)[j] ∈ List.range l.length := (List.mem_filter.1 (show (ofK k l)[j] ∈ (List.range l.length).filter (fun i => decide ((gt l i).k = k)) from hm)).1
  exact List.mem_range.1 hm2
def wordsQ (s : List UInt8) (n : Nat) : List (List UInt8) := ((ofK 0 (toks s)).take n).map fun i => (txt s (gt (toks s) i)).map low
theorem wordsQ_len (s : List UInt8) (n : Nat) : (wordsQ s n).length ≤ n := by unfold wordsQ; simp; omega
theorem wordsQ_S {s : List UInt8} {n : Nat} (h : n < (ofK 0 (toks s)).length) : wordsQ s n ++ [(txt s (gt (toks s) (gt (ofK 0 (toks s)) n))).map low] = wordsQ s (n + 1) := by
  unfold wordsQ; rw [take_snoc _ _ h]; simp
theorem ofK_len (k : Nat) (l : List Tok) : (ofK k l).length ≤ l.length := ofKp_len k l l.length
set_option maxRecDepth 100000 in
set_option maxHeartbeats 8000000 in
theorem fc31 {gl : Nat → C} {M : Nat} {pu : Nat → List C → Option C}  (hcx : CxOK (cxP gl M pu)) (h18 : ∀ s : List UInt8, s.length ≤ 1000000 → pu 18 [.val (str s)] = some (sl tC (.own 3) (toks s))) (h49 : ∀ (l : List Tok) (k : Nat), l.length ≤ 1000000 → pu 49 [sl tC .no l, .val (nI k)] = some (sl nC (.own 1) (ofK k l))) (s : List UInt8) (hs : s.length ≤ 1000000) : FC Try.prog gl 31 [.val (str s)] [] (sl nC (.own 1) (marksT s)) [] := by
 replace hcx := hcx.reN (M := 6)
 refine FC.ofA (cx := cxP gl 6 pu) (rs := [.tmp 2]) rfl Try.func31 rfl rfl rfl (by simp only [List.length_cons, List.length_nil]; decide) (by simp only [go_sem]) ?_
 simp only [ini, go_sem]
 have hT := toks_len s
 refine Tr.seqK fun K1 hK1 => ?_
 refine Tr.rg hcx [] _ [] rfl rfl rfl ?_
 simp -implicitDefEqProofs (maxSteps := 2000000) (disch := first | omega | (simp only [go_sem, List.length_append, List.length_drop, List.length_take] <;> omega) | decide) only [go_sem, ↓reduceIte, Nat.reduceEqDiff, reduceCtorEq, Nat.reduceLT, Nat.reduceBEq, Nat.reduceAdd, Nat.reduceSub, Nat.reduceMul, Nat.reduceMod, h18, h49]
 refine hK1 _ ?_
 clear hK1 K1
 refine Tr.kp [0] ?_
 simp only [pk_cons, pk_nil, ↓A_cons, ↓reduceIte, Nat.reduceEqDiff]
 refine Tr.seqK fun K2 hK2 => ?_
 refine Tr.rg hcx [1000005] _ [] rfl rfl rfl ?_
 simp -implicitDefEqProofs (maxSteps := 2000000) (disch := first | omega | (simp only [go_sem, List.length_append, List.length_drop, List.length_take] <;> omega) | decide) only [go_sem, ↓reduceIte, Nat.reduceEqDiff, reduceCtorEq, Nat.reduceLT, Nat.reduceBEq, Nat.reduceAdd, Nat.reduceSub, Nat.reduceMul, Nat.reduceMod, h18, h49]
 refine hK2 _ ?_
 clear hK2 K2
 refine Tr.kp [2] ?_
 simp only [pk_cons, pk_nil, ↓A_cons, ↓reduceIte, Nat.reduceEqDiff]
 refine Tr.ret ?_
 simp -implicitDefEqProofs (disch := first | omega | (simp only [go_sem, List.length_append, List.length_drop, List.length_take] <;> omega) | decide) only [go_sem, ↓reduceIte, Nat.reduceEqDiff, reduceCtorEq]
 all_goals (rfl)
set_option maxRecDepth 100000 in
set_option maxHeartbeats 8000000 in
theorem fc26 {gl : Nat → C} {M : Nat} {pu : Nat → List C → Option C}  (hcx : CxOK (cxP gl M pu)) (h15 : ∀ s : List UInt8, s.length ≤ 1000000 → pu 15 [.val (str s)] = some (sl tC .no (toks s))) (h23 : ∀ s : List UInt8, s.length ≤ 1000000 → pu 23 [.val (str s)] = some (.val (str (s.map low)))) (s : List UInt8) (hs : s.length ≤ 1000000) : FC Try.prog gl 26 [.val (str s)] [] (sl sC (.own 1) (wordsT s)) [] := by
 replace hcx := hcx.reN (M := 37)
 refine FC.ofA (cx := cxP gl 37 pu) (rs := [.tmp 2]) rfl Try.func26 rfl rfl rfl (by simp only [List.length_cons, List.length_nil]; decide) (by simp only [go_sem]) ?_
 simp only [ini, go_sem]
 have hT := toks_len s
 have hb1 := True.intro
 refine Tr.seqK fun K1 hK1 => ?_
 refine Tr.rg hcx [] _ [] rfl rfl rfl ?_
 simp -implicitDefEqProofs (maxSteps := 2000000) (disch := first | omega | (simp only [go_sem, List.length_append, List.length_drop, List.length_take, hb1, txt_len] <;> omega) | decide) only [go_sem, ↓reduceIte, Nat.reduceEqDiff, reduceCtorEq, Nat.reduceLT, Nat.reduceBEq, Nat.reduceAdd, Nat.reduceSub, Nat.reduceMul, Nat.reduceMod, h15, h23, txt_eq]
 refine hK1 _ ?_
 clear hK1 K1
 refine Tr.kp [0] ?_
 simp only [pk_cons, pk_nil, ↓A_cons, ↓reduceIte, Nat.reduceEqDiff]
 refine Tr.seqK fun K2 hK2 => ?_
 refine Tr.rg hcx [1000007] _ [] rfl rfl rfl ?_
 simp -implicitDefEqProofs (maxSteps := 2000000) (disch := first | omega | (simp only [go_sem, List.length_append, List.length_drop, List.length_take, hb1, txt_len] <;> omega) | decide) only [go_sem, ↓reduceIte, Nat.reduceEqDiff, reduceCtorEq, Nat.reduceLT, Nat.reduceBEq, Nat.reduceAdd, Nat.reduceSub, Nat.reduceMul, Nat.reduceMod, h15, h23, txt_eq]
 refine hK2 _ ?_
 clear hK2 K2
 refine Tr.kp [0, 3] ?_
 simp only [pk_cons, pk_nil, ↓A_cons, ↓reduceIte, Nat.reduceEqDiff]
 refine Tr.seqK fun K3 hK3 => ?_
 refine Tr.rg hcx [] _ [] rfl rfl rfl ?_
 simp -implicitDefEqProofs (maxSteps := 2000000) (disch := first | omega | (simp only [go_sem, List.length_append, List.length_drop, List.length_take, hb1, txt_len] <;> omega) | decide) only [go_sem, ↓reduceIte, Nat.reduceEqDiff, reduceCtorEq, Nat.reduceLT, Nat.reduceBEq, Nat.reduceAdd, Nat.reduceSub, Nat.reduceMul, Nat.reduceMod, h15, h23, txt_eq]
 refine hK3 _ ?_
 clear hK3 K3
 refine Tr.kp [0, 3, 4] ?_
 simp only [pk_cons, pk_nil, ↓A_cons, ↓reduceIte, Nat.reduceEqDiff]
 refine Tr.seqK fun K4 hK4 => ?_
 refine Tr.seqK fun K5 hK5 => ?_
 refine Tr.rg hcx [] _ [] rfl rfl rfl ?_
 simp -implicitDefEqProofs (maxSteps := 2000000) (disch := first | omega | (simp only [go_sem, List.length_append, List.length_drop, List.length_take, hb1, txt_len] <;> omega) | decide) only [go_sem, ↓reduceIte, Nat.reduceEqDiff, reduceCtorEq, Nat.reduceLT, Nat.reduceBEq, Nat.reduceAdd, Nat.reduceSub, Nat.reduceMul, Nat.reduceMod, h15, h23, txt_eq]
 refine hK5 _ ?_
 clear hK5 K5
 refine Tr.kp [0, 3, 4, 5] ?_
 simp only [pk_cons, pk_nil, ↓A_cons, ↓reduceIte, Nat.reduceEqDiff]
 refine Tr.blk ?_
 refine Tr.loopI (α := Nat) (fun a => [(0, ?v0_15), (3, ?v3_15), (4, sl sC (.own 1) (wordsP s a)), (5, .val (nI a))]) (fun a => ?h_15) (fun a => a ≤ (toks s).length) (fun a => (toks s).length - a) (0) ?_ ?le_15 ?hh_15 ?bd_15
 case hh_15 => exact rfl
 case le_15 => (simp only [Le_nil, Le_cons, ↓A_cons, ↓reduceIte, Nat.reduceEqDiff, reduceCtorEq, CLe_refl, CLe_top, CLe_full, CLe_nil, CLe_own, and_true, true_and]; all_goals (repeat' first | exact CLe.refl _ | exact True.intro | (refine CLe_sln ?_; first | with_reducible rfl | (simp only [List.take_zero]; done) | (rfl; done)) | exact CLe_nI (by omega) | exact CLe_int (by omega) | exact CLe_inI (by omega) | exact CLe_nIi (by omega) | with_reducible apply And.intro))
 · omega
 case bd_15 =>
  rintro i hi
  have hb1 := wordsP_len s i
  refine Tr.seqK fun K6 hK6 => ?_
  refine Tr.seqK fun K7 hK7 => ?_
  refine Tr.rg hcx [] _ [] rfl rfl rfl ?_
  simp -implicitDefEqProofs (maxSteps := 2000000) (disch := first | omega | (simp only [go_sem, List.length_append, List.length_drop, List.length_take, hb1, txt_len] <;> omega) | decide) only [go_sem, ↓reduceIte, Nat.reduceEqDiff, reduceCtorEq, Nat.reduceLT, Nat.reduceBEq, Nat.reduceAdd, Nat.reduceSub, Nat.reduceMul, Nat.reduceMod, h15, h23, txt_eq]
  refine hK7 _ ?_
  clear hK7 K7
  refine Tr.kp [0, 3, 4, 5, 11] ?_
  simp only [pk_cons, pk_nil, ↓A_cons, ↓reduceIte, Nat.reduceEqDiff]
  refine Tr.condG fun KT KF hT hF => ?_
  simp only [ev_tmp, ev_const, ↓A_cons, ↓reduceIte, Nat.reduceEqDiff, reduceCtorEq, condG_bool, GB_true, GB_false, decide_eq_true_eq]
  refine GB.dec (fun hc11 => hT ?_) (fun hc11 => hF ?_)
  ·
   clear hT hF KT KF
   have hb2 := toks_get s i hc11
   have hb3 := txt_len s (gt (toks s) i)
   refine Tr.skip ?_
   refine hK6 _ ?_
   clear hK6 K6
   refine Tr.kp [0, 3, 4, 5] ?_
   simp only [pk_cons, pk_nil, ↓A_cons, ↓reduceIte, Nat.reduceEqDiff]
   refine Tr.seqK fun K8 hK8 => ?_
   refine Tr.blk ?_
   refine Tr.seqK fun K9 hK9 => ?_
   refine Tr.rg hcx [] _ [] rfl rfl rfl ?_
   simp -implicitDefEqProofs (maxSteps := 2000000) (disch := first | omega | (simp only [go_sem, List.length_append, List.length_drop, List.length_take, hb1, txt_len] <;> omega) | decide) only [go_sem, ↓reduceIte, Nat.reduceEqDiff, reduceCtorEq, Nat.reduceLT, Nat.reduceBEq, Nat.reduceAdd, Nat.reduceSub, Nat.reduceMul, Nat.reduceMod, h15, h23, txt_eq]
   refine hK9 _ ?_
   clear hK9 K9
   refine Tr.kp [0, 3, 4, 5, 19] ?_
   simp only [pk_cons, pk_nil, ↓A_cons, ↓reduceIte, Nat.reduceEqDiff]
   refine Tr.condG fun KT KF hT hF => ?_
   simp only [ev_tmp, ev_const, ↓A_cons, ↓reduceIte, Nat.reduceEqDiff, reduceCtorEq, condG_bool, GB_true, GB_false, decide_eq_true_eq]
   refine GB.dec (fun hc19 => hT ?_) (fun hc19 => hF ?_)
   ·
    clear hT hF KT KF
    refine Tr.rgD hcx hMO [20, 1000035] _ [] rfl rfl rfl rfl ?_
    simp -implicitDefEqProofs (maxSteps := 2000000) (disch := first | omega | (simp only [go_sem, List.length_append, List.length_drop, List.length_take, hb1, txt_len] <;> omega) | decide) only [go_sem, ↓reduceIte, Nat.reduceEqDiff, reduceCtorEq, Nat.reduceLT, Nat.reduceBEq, Nat.reduceAdd, Nat.reduceSub, Nat.reduceMul, Nat.reduceMod, h15, h23, txt_eq]
    with_reducible refine And.intro ?_ ?_
    · exact rfl
    refine hK8 _ ?_
    clear hK8 K8
    refine Tr.kp [0, 3, 4, 5] ?_
    simp only [pk_cons, pk_nil, ↓A_cons, ↓reduceIte, Nat.reduceEqDiff]
    refine Tr.rg hcx [1000013] _ [] rfl rfl rfl ?_
    simp -implicitDefEqProofs (maxSteps := 2000000) (disch := first | omega | (simp only [go_sem, List.length_append, List.length_drop, List.length_take, hb1, txt_len] <;> omega) | decide) only [go_sem, ↓reduceIte, Nat.reduceEqDiff, reduceCtorEq, Nat.reduceLT, Nat.reduceBEq, Nat.reduceAdd, Nat.reduceSub, Nat.reduceMul, Nat.reduceMod, h15, h23, txt_eq]
    refine ⟨i + 1, ⟨by omega, by first | omega | (simp only []; omega)⟩, ?_, rfl⟩
    (simp only [Le_nil, Le_cons, ↓A_cons, ↓reduceIte, Nat.reduceEqDiff, reduceCtorEq, CLe_refl, CLe_top, CLe_full, CLe_nil, CLe_own, and_true, true_and]; all_goals (repeat' first | exact CLe.refl _ | exact True.intro | (refine CLe_sln ?_; first | with_reducible rfl | (simp only [List.take_zero]; done) | (rfl; done)) | exact CLe_nI (by omega) | exact CLe_int (by omega) | exact CLe_inI (by omega) | exact CLe_nIi (by omega) | with_reducible apply And.intro))
    all_goals (refine CLe_sl ?_; first | exact wordsP_T hc19 | exact wordsP_F hc19)
   ·
    clear hT hF KT KF
    refine Tr.skip ?_
    refine hK8 _ ?_
    clear hK8 K8
    refine Tr.kp [0, 3, 4, 5] ?_
    simp only [pk_cons, pk_nil, ↓A_cons, ↓reduceIte, Nat.reduceEqDiff]
    refine Tr.rg hcx [1000013] _ [] rfl rfl rfl ?_
    simp -implicitDefEqProofs (maxSteps := 2000000) (disch := first | omega | (simp only [go_sem, List.length_append, List.length_drop, List.length_take, hb1, txt_len] <;> omega) | decide) only [go_sem, ↓reduceIte, Nat.reduceEqDiff, reduceCtorEq, Nat.reduceLT, Nat.reduceBEq, Nat.reduceAdd, Nat.reduceSub, Nat.reduceMul, Nat.reduceMod, h15, h23, txt_eq]
    refine ⟨i + 1, ⟨by omega, by first | omega | (simp only []; omega)⟩, ?_, rfl⟩
    (simp only [Le_nil, Le_cons, ↓A_cons, ↓reduceIte, Nat.reduceEqDiff, reduceCtorEq, CLe_refl, CLe_top, CLe_full, CLe_nil, CLe_own, and_true, true_and]; all_goals (repeat' first | exact CLe.refl _ | exact True.intro | (refine CLe_sln ?_; first | with_reducible rfl | (simp only [List.take_zero]; done) | (rfl; done)) | exact CLe_nI (by omega) | exact CLe_int (by omega) | exact CLe_inI (by omega) | exact CLe_nIi (by omega) | with_reducible apply And.intro))
    all_goals (refine CLe_sl ?_; first | exact wordsP_T hc19 | exact wordsP_F hc19)
  ·
   clear hT hF KT KF
   obtain rfl : i = (toks s).length := by omega
   refine Tr.exit ?_
   refine hK4 _ ?_
   clear hK6 K6 hK4 K4
   refine Tr.kp [4] ?_
   simp only [pk_cons, pk_nil, ↓A_cons, ↓reduceIte, Nat.reduceEqDiff]
   refine Tr.seqK fun K10 hK10 => ?_
   refine Tr.rg hcx [1000036] _ [] rfl rfl rfl ?_
   simp -implicitDefEqProofs (maxSteps := 2000000) (disch := first | omega | (simp only [go_sem, List.length_append, List.length_drop, List.length_take, hb1, txt_len] <;> omega) | decide) only [go_sem, ↓reduceIte, Nat.reduceEqDiff, reduceCtorEq, Nat.reduceLT, Nat.reduceBEq, Nat.reduceAdd, Nat.reduceSub, Nat.reduceMul, Nat.reduceMod, h15, h23, txt_eq]
   refine hK10 _ ?_
   clear hK10 K10
   refine Tr.kp [2] ?_
   simp only [pk_cons, pk_nil, ↓A_cons, ↓reduceIte, Nat.reduceEqDiff]
   refine Tr.ret ?_
   simp -implicitDefEqProofs (disch := first | omega | (simp only [go_sem, List.length_append, List.length_drop, List.length_take, hb1, txt_len] <;> omega) | decide) only [go_sem, ↓reduceIte, Nat.reduceEqDiff, reduceCtorEq]
   all_goals (rfl)
set_option maxRecDepth 100000 in
set_option maxHeartbeats 8000000 in
theorem fc25 {gl : Nat → C} {M : Nat} {pu : Nat → List C → Option C}  (hcx : CxOK (cxP gl M pu)) (h18 : ∀ s : List UInt8, s.length ≤ 1000000 → pu 18 [.val (str s)] = some (sl tC (.own 3) (toks s))) (h22 : ∀ s : List UInt8, s.length ≤ 1000000 → pu 22 [.val (str s)] = some (.val (str (s.map low)))) (h49 : ∀ (l : List Tok) (k : Nat), l.length ≤ 1000000 → pu 49 [sl tC .no l, .val (nI k)] = some (sl nC (.own 1) (ofK k l))) (s : List UInt8) (hs : s.length ≤ 1000000) : FC Try.prog gl 25 [.val (str s)] [] (sl sC (.own 1) (wordsT s)) [] := by
 replace hcx := hcx.reN (M := 34)
 refine FC.ofA (cx := cxP gl 34 pu) (rs := [.tmp 2]) rfl Try.func25 rfl rfl rfl (by simp only [List.length_cons, List.length_nil]; decide) (by simp only [go_sem]) ?_
 simp only [ini, go_sem]
 have hT := toks_len s
 have hb1 := True.intro
 have hL := ofK_len 0 (toks s)
 refine Tr.seqK fun K1 hK1 => ?_
 refine Tr.rg hcx [] _ [] rfl rfl rfl ?_
 simp -implicitDefEqProofs (maxSteps := 2000000) (disch := first | omega | (simp only [go_sem, List.length_append, List.length_drop, List.length_take, hb1, txt_len] <;> omega) | decide) only [go_sem, ↓reduceIte, Nat.reduceEqDiff, reduceCtorEq, Nat.reduceLT, Nat.reduceBEq, Nat.reduceAdd, Nat.reduceSub, Nat.reduceMul, Nat.reduceMod, h18, h22, h49, txt_eq]
 refine hK1 _ ?_
 clear hK1 K1
 refine Tr.kp [0] ?_
 simp only [pk_cons, pk_nil, ↓A_cons, ↓reduceIte, Nat.reduceEqDiff]
 refine Tr.seqK fun K2 hK2 => ?_
 refine Tr.rg hcx [1000008] _ [] rfl rfl rfl ?_
 simp -implicitDefEqProofs (maxSteps := 2000000) (disch := first | omega | (simp only [go_sem, List.length_append, List.length_drop, List.length_take, hb1, txt_len] <;> omega) | decide) only [go_sem, ↓reduceIte, Nat.reduceEqDiff, reduceCtorEq, Nat.reduceLT, Nat.reduceBEq, Nat.reduceAdd, Nat.reduceSub, Nat.reduceMul, Nat.reduceMod, h18, h22, h49, txt_eq]
 refine hK2 _ ?_
 clear hK2 K2
 refine Tr.kp [0, 3] ?_
 simp only [pk_cons, pk_nil, ↓A_cons, ↓reduceIte, Nat.reduceEqDiff]
 refine Tr.seqK fun K3 hK3 => ?_
 refine Tr.rg hcx [] _ [] rfl rfl rfl ?_
 simp -implicitDefEqProofs (maxSteps := 2000000) (disch := first | omega | (simp only [go_sem, List.length_append, List.length_drop, List.length_take, hb1, txt_len] <;> omega) | decide) only [go_sem, ↓reduceIte, Nat.reduceEqDiff, reduceCtorEq, Nat.reduceLT, Nat.reduceBEq, Nat.reduceAdd, Nat.reduceSub, Nat.reduceMul, Nat.reduceMod, h18, h22, h49, txt_eq]
 refine hK3 _ ?_
 clear hK3 K3
 refine Tr.kp [0, 3, 4] ?_
 simp only [pk_cons, pk_nil, ↓A_cons, ↓reduceIte, Nat.reduceEqDiff]
 refine Tr.seqK fun K4 hK4 => ?_
 refine Tr.seqK fun K5 hK5 => ?_
 refine Tr.rg hcx [] _ [] rfl rfl rfl ?_
 simp -implicitDefEqProofs (maxSteps := 2000000) (disch := first | omega | (simp only [go_sem, List.length_append, List.length_drop, List.length_take, hb1, txt_len] <;> omega) | decide) only [go_sem, ↓reduceIte, Nat.reduceEqDiff, reduceCtorEq, Nat.reduceLT, Nat.reduceBEq, Nat.reduceAdd, Nat.reduceSub, Nat.reduceMul, Nat.reduceMod, h18, h22, h49, txt_eq]
 refine hK5 _ ?_
 clear hK5 K5
 refine Tr.kp [0, 3, 4, 10, 11, 12] ?_
 simp only [pk_cons, pk_nil, ↓A_cons, ↓reduceIte, Nat.reduceEqDiff]
 refine Tr.blk ?_
 refine Tr.loopI (α := Nat) (fun a => [(0, ?v0_43), (3, ?v3_43), (4, sl sC (.own 1) (wordsQ s a)), (10, ?v10_43), (11, ?v11_43), (12, .val (nI a))]) (fun a => ?h_43) (fun a => a ≤ (ofK 0 (toks s)).length) (fun a => (ofK 0 (toks s)).length - a) (0) ?_ ?le_43 ?hh_43 ?bd_43
 case hh_43 => exact rfl
 case le_43 => (simp only [Le_nil, Le_cons, ↓A_cons, ↓reduceIte, Nat.reduceEqDiff, reduceCtorEq, CLe_refl, CLe_top, CLe_full, CLe_nil, CLe_own, and_true, true_and]; all_goals (repeat' first | exact CLe.refl _ | exact True.intro | (refine CLe_sln ?_; first | with_reducible rfl | (simp only [List.take_zero]; done) | (rfl; done)) | exact CLe_nI (by omega) | exact CLe_int (by omega) | exact CLe_inI (by omega) | exact CLe_nIi (by omega) | with_reducible apply And.intro))
 · omega
 case bd_43 =>
  rintro i hi
  have hb1 := wordsQ_len s i
  refine Tr.seqK fun K6 hK6 => ?_
  refine Tr.rg hcx [] _ [] rfl rfl rfl ?_
  simp -implicitDefEqProofs (maxSteps := 2000000) (disch := first | omega | (simp only [go_sem, List.length_append, List.length_drop, List.length_take, hb1, txt_len] <;> omega) | decide) only [go_sem, ↓reduceIte, Nat.reduceEqDiff, reduceCtorEq, Nat.reduceLT, Nat.reduceBEq, Nat.reduceAdd, Nat.reduceSub, Nat.reduceMul, Nat.reduceMod, h18, h22, h49, txt_eq]
  refine hK6 _ ?_
  clear hK6 K6
  refine Tr.kp [0, 3, 4, 10, 11, 12, 13] ?_
  simp only [pk_cons, pk_nil, ↓A_cons, ↓reduceIte, Nat.reduceEqDiff]
  refine Tr.seqK fun K7 hK7 => ?_
  refine Tr.condG fun KT KF hT hF => ?_
  simp only [ev_tmp, ev_const, ↓A_cons, ↓reduceIte, Nat.reduceEqDiff, reduceCtorEq, condG_bool, GB_true, GB_false, decide_eq_true_eq]
  refine GB.dec (fun hc13 => hT ?_) (fun hc13 => hF ?_)
  ·
   clear hT hF KT KF
   have hb4 := ofK_lt hc13
   have hb2 := toks_get s _ hb4
   have hb3 := txt_len s (gt (toks s) (gt (ofK 0 (toks s)) i))
   refine Tr.skip ?_
   refine hK7 _ ?_
   clear hK7 K7
   refine Tr.kp [0, 3, 4, 10, 11, 12] ?_
   simp only [pk_cons, pk_nil, ↓A_cons, ↓reduceIte, Nat.reduceEqDiff]
   refine Tr.seqK fun K8 hK8 => ?_
   refine Tr.blk ?_
   refine Tr.seqK fun K9 hK9 => ?_
   refine Tr.rg hcx [1000015] _ [] rfl rfl rfl ?_
   simp -implicitDefEqProofs (maxSteps := 2000000) (disch := first | omega | (simp only [go_sem, List.length_append, List.length_drop, List.length_take, hb1, txt_len] <;> omega) | decide) only [go_sem, ↓reduceIte, Nat.reduceEqDiff, reduceCtorEq, Nat.reduceLT, Nat.reduceBEq, Nat.reduceAdd, Nat.reduceSub, Nat.reduceMul, Nat.reduceMod, h18, h22, h49, txt_eq]
   refine hK9 _ ?_
   clear hK9 K9
   refine Tr.kp [0, 3, 4, 6, 10, 11, 12] ?_
   simp only [pk_cons, pk_nil, ↓A_cons, ↓reduceIte, Nat.reduceEqDiff]
   refine Tr.rgD hcx hMO [16, 1000031] _ [] rfl rfl rfl rfl ?_
   simp -implicitDefEqProofs (maxSteps := 2000000) (disch := first | omega | (simp only [go_sem, List.length_append, List.length_drop, List.length_take, hb1, txt_len] <;> omega) | decide) only [go_sem, ↓reduceIte, Nat.reduceEqDiff, reduceCtorEq, Nat.reduceLT, Nat.reduceBEq, Nat.reduceAdd, Nat.reduceSub, Nat.reduceMul, Nat.reduceMod, h18, h22, h49, txt_eq]
   with_reducible refine And.intro ?_ ?_
   · exact rfl
   refine hK8 _ ?_
   clear hK8 K8
   refine Tr.kp [0, 3, 4, 10, 11, 12] ?_
   simp only [pk_cons, pk_nil, ↓A_cons, ↓reduceIte, Nat.reduceEqDiff]
   refine Tr.rg hcx [] _ [] rfl rfl rfl ?_
   simp -implicitDefEqProofs (maxSteps := 2000000) (disch := first | omega | (simp only [go_sem, List.length_append, List.length_drop, List.length_take, hb1, txt_len] <;> omega) | decide) only [go_sem, ↓reduceIte, Nat.reduceEqDiff, reduceCtorEq, Nat.reduceLT, Nat.reduceBEq, Nat.reduceAdd, Nat.reduceSub, Nat.reduceMul, Nat.reduceMod, h18, h22, h49, txt_eq]
   refine ⟨i + 1, ⟨by omega, by first | omega | (simp only []; omega)⟩, ?_, rfl⟩
   (simp only [Le_nil, Le_cons, ↓A_cons, ↓reduceIte, Nat.reduceEqDiff, reduceCtorEq, CLe_refl, CLe_top, CLe_full, CLe_nil, CLe_own, and_true, true_and]; all_goals (repeat' first | exact CLe.refl _ | exact True.intro | (refine CLe_sln ?_; first | with_reducible rfl | (simp only [List.take_zero]; done) | (rfl; done)) | exact CLe_nI (by omega) | exact CLe_int (by omega) | exact CLe_inI (by omega) | exact CLe_nIi (by omega) | with_reducible apply And.intro))
   all_goals (refine CLe_sl ?_; exact wordsQ_S hc13)
  ·
   clear hT hF KT KF
   obtain rfl : i = (ofK 0 (toks s)).length := by omega
   refine Tr.exit ?_
   refine hK4 _ ?_
   clear hK7 K7 hK4 K4
   refine Tr.kp [4] ?_
   simp only [pk_cons, pk_nil, ↓A_cons, ↓reduceIte, Nat.reduceEqDiff]
   refine Tr.seqK fun K10 hK10 => ?_
   refine Tr.rg hcx [1000033] _ [] rfl rfl rfl ?_
   simp -implicitDefEqProofs (maxSteps := 2000000) (disch := first | omega | (simp only [go_sem, List.length_append, List.length_drop, List.length_take, hb1, txt_len] <;> omega) | decide) only [go_sem, ↓reduceIte, Nat.reduceEqDiff, reduceCtorEq, Nat.reduceLT, Nat.reduceBEq, Nat.reduceAdd, Nat.reduceSub, Nat.reduceMul, Nat.reduceMod, h18, h22, h49, txt_eq]
   refine hK10 _ ?_
   clear hK10 K10
   refine Tr.kp [2] ?_
   simp only [pk_cons, pk_nil, ↓A_cons, ↓reduceIte, Nat.reduceEqDiff]
   refine Tr.ret ?_
   simp -implicitDefEqProofs (disch := first | omega | (simp only [go_sem, List.length_append, List.length_drop, List.length_take, hb1, txt_len] <;> omega) | decide) only [go_sem, ↓reduceIte, Nat.reduceEqDiff, reduceCtorEq]
   all_goals (first | rfl | (unfold wordsQ wordsT; rw [List.take_length]))
end Go.Sx
