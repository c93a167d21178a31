/-
  Package breaks: the model's Check.
-/
import Derived.Test.YtljjjkmiegeocaaPap
set_option linter.unusedSimpArgs false
set_option linter.unusedVariables false
namespace Go.Sx
open Go.RowKit Go.Proofs
theorem bef_T {l : List Int} {b w : Int} {L K : List Int} {i j : Nat} (h : gt L j + ((1 : Nat) : Int) < gt L i ∨ gt L i = gt L j + ((1 : Nat) : Int) ∧ gt K j + priR l b w (i : Int) (j : Int) < gt K i) : bef l b w L K i j = true := by
  unfold bef befI
  exact decide_eq_true (by omega)
theorem bef_F {l : List Int} {b w : Int} {L K : List Int} {i j : Nat} (h : ¬ (gt L j + ((1 : Nat) : Int) < gt L i ∨ gt L i = gt L j + ((1 : Nat) : Int) ∧ gt K j + priR l b w (i : Int) (j : Int) < gt K i)) : bef l b w L K i j = false := by
  unfold bef befI
  exact decide_eq_false (by omega)
theorem bool_T {p : Prop} [Decidable p] (h : p) : some (C.val (.bool true)) = some (C.val (.bool (decide p))) := by rw [decide_eq_true h]
theorem bool_F {p : Prop} [Decidable p] (h : ¬ p) : some (C.val (.bool false)) = some (C.val (.bool (decide p))) := by rw [decide_eq_false h]
set_option maxRecDepth 100000 in
set_option maxHeartbeats 8000000 in
theorem fc44 {gl : Nat → C} {M : Nat} {pu : Nat → List C → Option C}  (hcx : CxOK (cxP gl M pu)) (h42 : ∀ (l : List Int) (b w i j : Int), Fine l b w → 0 ≤ i ∧ i < j ∧ j ≤ l.length → pu 42 [sl iC .no l, .val (.int .i64 b), .val (.int .i64 w), .val (.int .i64 i), .val (.int .i64 j)] = some (.val (.int .i64 (freR l b w i j)))) (h43 : ∀ (l : List Int) (b w i j : Int), Fine l b w → 0 ≤ i ∧ i < j ∧ j ≤ l.length → pu 43 [sl iC .no l, .val (.int .i64 b), .val (.int .i64 w), .val (.int .i64 i), .val (.int .i64 j)] = some (.val (.int .i64 (priR l b w i j)))) (l : List Int) (b w : Int) (E L K : List Int) (hl : LI l) (hL : LI L) (hK : LI K) (hF : Fine l b w) : FC Try.prog gl 44 [sl iC .no l, .val (.int .i64 b), .val (.int .i64 w), .agg [sl iC .no E, sl iC .no L, sl iC .no K]] [] (.val (.bool (decide (shwP l b w L K)))) [] := by
 replace hcx := hcx.reN (M := 142)
 refine FC.ofA (cx := cxP gl 142 pu) (rs := [.tmp 8]) rfl Try.func44 rfl rfl rfl (by simp only [List.length_cons, List.length_nil]; decide) (by simp only [go_sem]) ?_
 simp only [ini, go_sem]
 have hl1 := hl.1
 have hL1 := hL.1
 have hK1 := hK.1
 have hF1 := hF.1
 refine Tr.seqK fun K1 hK1 => ?_
 refine Tr.rg hcx [] _ [none] rfl rfl rfl ?_
 simp -implicitDefEqProofs (maxSteps := 2000000) (disch := first | omega | (simp only [go_sem, List.length_append, List.length_drop, List.length_take] <;> omega) | decide) only [go_sem, ↓reduceIte, Nat.reduceEqDiff, reduceCtorEq, Nat.reduceLT, Nat.reduceBEq, Nat.reduceAdd, Nat.reduceSub, Nat.reduceMul, Nat.reduceMod]
 refine hK1 _ ?_
 clear hK1 K1
 refine Tr.kp [0, 1, 2, 7] ?_
 simp only [pk_cons, pk_nil, ↓A_cons, ↓reduceIte, Nat.reduceEqDiff]
 refine Tr.seqK fun K2 hK2 => ?_
 refine Tr.rg hcx [1000016] _ [] rfl rfl rfl ?_
 simp -implicitDefEqProofs (maxSteps := 2000000) (disch := first | omega | (simp only [go_sem, List.length_append, List.length_drop, List.length_take] <;> omega) | decide) only [go_sem, ↓reduceIte, Nat.reduceEqDiff, reduceCtorEq, Nat.reduceLT, Nat.reduceBEq, Nat.reduceAdd, Nat.reduceSub, Nat.reduceMul, Nat.reduceMod]
 refine hK2 _ ?_
 clear hK2 K2
 refine Tr.kp [0, 1, 2, 7, 9] ?_
 simp only [pk_cons, pk_nil, ↓A_cons, ↓reduceIte, Nat.reduceEqDiff]
 refine Tr.seqK fun K3 hK3 => ?_
 refine Tr.seqK fun K4 hK4 => ?_
 by_cases c2 : L.length = l.length + 1
 ·
  have c2o := c2
  replace c2 := eq_true c2
  by_cases c3 : K.length = l.length + 1
  ·
   have c3o := c3
   replace c3 := eq_true c3
   refine Tr.rg hcx [] [some 17, some 18, some 19, some 20, some 21, some 22, some 23, some 24, some 25, some 26, some 27, some 28, some 29, some 30] [] rfl rfl rfl ?_
   simp -implicitDefEqProofs (maxSteps := 2000000) (disch := first | omega | (simp only [go_sem, List.length_append, List.length_drop, List.length_take] <;> omega) | decide) only [go_sem, ↓reduceIte, Nat.reduceEqDiff, reduceCtorEq, Nat.reduceLT, Nat.reduceBEq, Nat.reduceAdd, Nat.reduceSub, Nat.reduceMul, Nat.reduceMod, c2, c3]
   refine hK4 _ ?_
   clear hK4 K4
   refine Tr.kp [0, 1, 2, 7, 9, 30] ?_
   simp only [pk_cons, pk_nil, ↓A_cons, ↓reduceIte, Nat.reduceEqDiff]
   refine Tr.condG fun KT KF hT hF => ?_
   simp only [ev_tmp, ev_const, ↓A_cons, ↓reduceIte, Nat.reduceEqDiff, reduceCtorEq, condG_bool, GB_true, GB_false, decide_eq_true_eq]
   refine hF ?_
   clear hT hF KT KF
   refine Tr.skip ?_
   refine hK3 _ ?_
   clear hK3 K3
   refine Tr.kp [0, 1, 2, 7, 9] ?_
   simp only [pk_cons, pk_nil, ↓A_cons, ↓reduceIte, Nat.reduceEqDiff]
   refine Tr.seqK fun K5 hK5 => ?_
   refine Tr.seqK fun K6 hK6 => ?_
   refine Tr.rg hcx [] _ [] rfl rfl rfl ?_
   simp -implicitDefEqProofs (maxSteps := 2000000) (disch := first | omega | (simp only [go_sem, List.length_append, List.length_drop, List.length_take] <;> omega) | decide) only [go_sem, ↓reduceIte, Nat.reduceEqDiff, reduceCtorEq, Nat.reduceLT, Nat.reduceBEq, Nat.reduceAdd, Nat.reduceSub, Nat.reduceMul, Nat.reduceMod, c2, c3]
   refine hK6 _ ?_
   clear hK6 K6
   refine Tr.kp [0, 1, 2, 7, 9, 10] ?_
   simp only [pk_cons, pk_nil, ↓A_cons, ↓reduceIte, Nat.reduceEqDiff]
   refine Tr.blk ?_
   refine Tr.loopI (α := Nat) (fun a => [(0, ?v0_16), (1, ?v1_16), (2, ?v2_16), (7, ?v7_16), (9, ?v9_16), (10, .val (nI a))]) (fun a => [some [sl iC .no E, sl iC .no L, sl iC .no K]]) (fun a => a ≤ l.length + 1 ∧ ∀ j, j < a → 0 ≤ gt L j ∧ gt L j ≤ 256 ∧ 0 ≤ gt K j ∧ gt K j ≤ 4294967296) (fun a => l.length + 1 - a) (0) ⟨Nat.zero_le _, fun j hj => absurd hj (Nat.not_lt_zero j)⟩ ?le_16 ?hh_16 ?bd_16
   case hh_16 => exact rfl
   case le_16 => (simp only [Le_nil, Le_cons, ↓A_cons, ↓reduceIte, Nat.reduceEqDiff, reduceCtorEq, CLe_refl, CLe_top, CLe_full, CLe_nil, CLe_own, and_true, true_and]; all_goals (repeat' first | exact CLe.refl _ | exact True.intro | (refine CLe_sln ?_; first | with_reducible rfl | (simp only [List.take_zero]; done) | (rfl; done)) | exact CLe_nI (by omega) | exact CLe_int (by omega) | exact CLe_inI (by omega) | exact CLe_nIi (by omega) | with_reducible apply And.intro))
   case bd_16 =>
    rintro k ⟨hk, hA⟩
    refine Tr.seqK fun K7 hK7 => ?_
    refine Tr.seqK fun K8 hK8 => ?_
    refine Tr.rg hcx [] _ [] rfl rfl rfl ?_
    simp -implicitDefEqProofs (maxSteps := 2000000) (disch := first | omega | (simp only [go_sem, List.length_append, List.length_drop, List.length_take] <;> omega) | decide) only [go_sem, ↓reduceIte, Nat.reduceEqDiff, reduceCtorEq, Nat.reduceLT, Nat.reduceBEq, Nat.reduceAdd, Nat.reduceSub, Nat.reduceMul, Nat.reduceMod, c2, c3]
    refine hK8 _ ?_
    clear hK8 K8
    refine Tr.kp [0, 1, 2, 7, 9, 10, 33] ?_
    simp only [pk_cons, pk_nil, ↓A_cons, ↓reduceIte, Nat.reduceEqDiff]
    refine Tr.condG fun KT KF hT hF => ?_
    simp only [ev_tmp, ev_const, ↓A_cons, ↓reduceIte, Nat.reduceEqDiff, reduceCtorEq, condG_bool, GB_true, GB_false, decide_eq_true_eq]
    refine GB.dec (fun hc33 => hT ?_) (fun hc33 => hF ?_)
    ·
     clear hT hF KT KF
     have hLk := hL.2 k (by omega)
     have hKk := hK.2 k (by omega)
     refine Tr.skip ?_
     refine hK7 _ ?_
     clear hK7 K7
     refine Tr.kp [0, 1, 2, 7, 9, 10] ?_
     simp only [pk_cons, pk_nil, ↓A_cons, ↓reduceIte, Nat.reduceEqDiff]
     refine Tr.seqK fun K9 hK9 => ?_
     refine Tr.blk ?_
     refine Tr.seqK fun K10 hK10 => ?_
     by_cases f1 : gt L k < ((0 : Nat) : Int)
     ·
      have f1o := f1
      replace f1 := eq_true f1
      refine Tr.rg hcx [] [some 36, some 37, some 38, some 39, some 40, some 41, some 42, some 43, some 44, some 45, some 46, some 47, some 48, some 49, some 50, some 51, some 52, some 53, some 54, some 55, some 56, some 57, some 58, some 59, some 60, some 61, some 62, some 63, some 64, some 65] [] rfl rfl rfl ?_
      simp -implicitDefEqProofs (maxSteps := 2000000) (disch := first | omega | (simp only [go_sem, List.length_append, List.length_drop, List.length_take] <;> omega) | decide) only [go_sem, ↓reduceIte, Nat.reduceEqDiff, reduceCtorEq, Nat.reduceLT, Nat.reduceBEq, Nat.reduceAdd, Nat.reduceSub, Nat.reduceMul, Nat.reduceMod, c2, c3, f1]
      refine hK10 _ ?_
      clear hK10 K10
      refine Tr.kp [0, 1, 2, 7, 9, 10, 65] ?_
      simp only [pk_cons, pk_nil, ↓A_cons, ↓reduceIte, Nat.reduceEqDiff]
      refine Tr.condG fun KT KF hT hF => ?_
      simp only [ev_tmp, ev_const, ↓A_cons, ↓reduceIte, Nat.reduceEqDiff, reduceCtorEq, condG_bool, GB_true, GB_false, decide_eq_true_eq]
      refine hT ?_
      clear hT hF KT KF
      refine Tr.seqK fun K11 hK11 => ?_
      refine Tr.rg hcx [] _ [] rfl rfl rfl ?_
      simp -implicitDefEqProofs (maxSteps := 2000000) (disch := first | omega | (simp only [go_sem, List.length_append, List.length_drop, List.length_take] <;> omega) | decide) only [go_sem, ↓reduceIte, Nat.reduceEqDiff, reduceCtorEq, Nat.reduceLT, Nat.reduceBEq, Nat.reduceAdd, Nat.reduceSub, Nat.reduceMul, Nat.reduceMod, c2, c3, f1]
      refine hK11 _ ?_
      clear hK11 K11
      refine Tr.kp [8] ?_
      simp only [pk_cons, pk_nil, ↓A_cons, ↓reduceIte, Nat.reduceEqDiff]
      refine Tr.ret ?_
      simp -implicitDefEqProofs (disch := first | omega | (simp only [go_sem, List.length_append, List.length_drop, List.length_take] <;> omega) | decide) only [go_sem, ↓reduceIte, Nat.reduceEqDiff, reduceCtorEq]
      all_goals (first | exact bool_F (fun h => by first | exact c2o h.1 | exact c3o h.2.1) | exact bool_F (fun h => by have := h.2.2.1 k (by omega); omega) | exact bool_F (fun h => low_no hj1 hj3 hfm (bef_T (by omega)) (h.2.2.2.1 i (by omega))) | exact bool_F (fun h => by first | exact h1o h.2.2.2.2.1 | exact h2o h.2.2.2.2.2) | exact bool_T ⟨c2o, c3o, hA, hB, h1o, h2o⟩)
     ·
      have f1o := f1
      replace f1 := eq_false f1
      by_cases f2 : ((256 : Nat) : Int) < gt L k
      ·
       have f2o := f2
       replace f2 := eq_true f2
       refine Tr.rg hcx [] [some 36, some 37, some 38, some 39, some 40, some 41, some 42, some 43, some 44, some 45, some 46, some 47, some 48, some 49, some 50, some 51, some 52, some 53, some 54, some 55, some 56, some 57, some 58, some 59, some 60, some 61, some 62, some 63, some 64, some 65] [] rfl rfl rfl ?_
       simp -implicitDefEqProofs (maxSteps := 2000000) (disch := first | omega | (simp only [go_sem, List.length_append, List.length_drop, List.length_take] <;> omega) | decide) only [go_sem, ↓reduceIte, Nat.reduceEqDiff, reduceCtorEq, Nat.reduceLT, Nat.reduceBEq, Nat.reduceAdd, Nat.reduceSub, Nat.reduceMul, Nat.reduceMod, c2, c3, f1, f2]
       refine hK10 _ ?_
       clear hK10 K10
       refine Tr.kp [0, 1, 2, 7, 9, 10, 65] ?_
       simp only [pk_cons, pk_nil, ↓A_cons, ↓reduceIte, Nat.reduceEqDiff]
       refine Tr.condG fun KT KF hT hF => ?_
       simp only [ev_tmp, ev_const, ↓A_cons, ↓reduceIte, Nat.reduceEqDiff, reduceCtorEq, condG_bool, GB_true, GB_false, decide_eq_true_eq]
       refine hT ?_
       clear hT hF KT KF
       refine Tr.seqK fun K12 hK12 => ?_
       refine Tr.rg hcx [] _ [] rfl rfl rfl ?_
       simp -implicitDefEqProofs (maxSteps := 2000000) (disch := first | omega | (simp only [go_sem, List.length_append, List.length_drop, List.length_take] <;> omega) | decide) only [go_sem, ↓reduceIte, Nat.reduceEqDiff, reduceCtorEq, Nat.reduceLT, Nat.reduceBEq, Nat.reduceAdd, Nat.reduceSub, Nat.reduceMul, Nat.reduceMod, c2, c3, f1, f2]
       refine hK12 _ ?_
       clear hK12 K12
       refine Tr.kp [8] ?_
       simp only [pk_cons, pk_nil, ↓A_cons, ↓reduceIte, Nat.reduceEqDiff]
       refine Tr.ret ?_
       simp -implicitDefEqProofs (disch := first | omega | (simp only [go_sem, List.length_append, List.length_drop, List.length_take] <;> omega) | decide) only [go_sem, ↓reduceIte, Nat.reduceEqDiff, reduceCtorEq]
       all_goals (first | exact bool_F (fun h => by first | exact c2o h.1 | exact c3o h.2.1) | exact bool_F (fun h => by have := h.2.2.1 k (by omega); omega) | exact bool_F (fun h => low_no hj1 hj3 hfm (bef_T (by omega)) (h.2.2.2.1 i (by omega))) | exact bool_F (fun h => by first | exact h1o h.2.2.2.2.1 | exact h2o h.2.2.2.2.2) | exact bool_T ⟨c2o, c3o, hA, hB, h1o, h2o⟩)
      ·
       have f2o := f2
       replace f2 := eq_false f2
       by_cases f3 : gt K k < ((0 : Nat) : Int)
       ·
        have f3o := f3
        replace f3 := eq_true f3
        refine Tr.rg hcx [] [some 36, some 37, some 38, some 39, some 40, some 41, some 42, some 43, some 44, some 45, some 46, some 47, some 48, some 49, some 50, some 51, some 52, some 53, some 54, some 55, some 56, some 57, some 58, some 59, some 60, some 61, some 62, some 63, some 64, some 65] [] rfl rfl rfl ?_
        simp -implicitDefEqProofs (maxSteps := 2000000) (disch := first | omega | (simp only [go_sem, List.length_append, List.length_drop, List.length_take] <;> omega) | decide) only [go_sem, ↓reduceIte, Nat.reduceEqDiff, reduceCtorEq, Nat.reduceLT, Nat.reduceBEq, Nat.reduceAdd, Nat.reduceSub, Nat.reduceMul, Nat.reduceMod, c2, c3, f1, f2, f3]
        refine hK10 _ ?_
        clear hK10 K10
        refine Tr.kp [0, 1, 2, 7, 9, 10, 65] ?_
        simp only [pk_cons, pk_nil, ↓A_cons, ↓reduceIte, Nat.reduceEqDiff]
        refine Tr.condG fun KT KF hT hF => ?_
        simp only [ev_tmp, ev_const, ↓A_cons, ↓reduceIte, Nat.reduceEqDiff, reduceCtorEq, condG_bool, GB_true, GB_false, decide_eq_true_eq]
        refine hT ?_
        clear hT hF KT KF
        refine Tr.seqK fun K13 hK13 => ?_
        refine Tr.rg hcx [] _ [] rfl rfl rfl ?_
        simp -implicitDefEqProofs (maxSteps := 2000000) (disch := first | omega | (simp only [go_sem, List.length_append, List.length_drop, List.length_take] <;> omega) | decide) only [go_sem, ↓reduceIte, Nat.reduceEqDiff, reduceCtorEq, Nat.reduceLT, Nat.reduceBEq, Nat.reduceAdd, Nat.reduceSub, Nat.reduceMul, Nat.reduceMod, c2, c3, f1, f2, f3]
        refine hK13 _ ?_
        clear hK13 K13
        refine Tr.kp [8] ?_
        simp only [pk_cons, pk_nil, ↓A_cons, ↓reduceIte, Nat.reduceEqDiff]
        refine Tr.ret ?_
        simp -implicitDefEqProofs (disch := first | omega | (simp only [go_sem, List.length_append, List.length_drop, List.length_take] <;> omega) | decide) only [go_sem, ↓reduceIte, Nat.reduceEqDiff, reduceCtorEq]
        all_goals (first | exact bool_F (fun h => by first | exact c2o h.1 | exact c3o h.2.1) | exact bool_F (fun h => by have := h.2.2.1 k (by omega); omega) | exact bool_F (fun h => low_no hj1 hj3 hfm (bef_T (by omega)) (h.2.2.2.1 i (by omega))) | exact bool_F (fun h => by first | exact h1o h.2.2.2.2.1 | exact h2o h.2.2.2.2.2) | exact bool_T ⟨c2o, c3o, hA, hB, h1o, h2o⟩)
       ·
        have f3o := f3
        replace f3 := eq_false f3
        by_cases f4 : ((4294967296 : Nat) : Int) < gt K k
        ·
         have f4o := f4
         replace f4 := eq_true f4
         refine Tr.rg hcx [] [some 36, some 37, some 38, some 39, some 40, some 41, some 42, some 43, some 44, some 45, some 46, some 47, some 48, some 49, some 50, some 51, some 52, some 53, some 54, some 55, some 56, some 57, some 58, some 59, some 60, some 61, some 62, some 63, some 64, some 65] [] rfl rfl rfl ?_
         simp -implicitDefEqProofs (maxSteps := 2000000) (disch := first | omega | (simp only [go_sem, List.length_append, List.length_drop, List.length_take] <;> omega) | decide) only [go_sem, ↓reduceIte, Nat.reduceEqDiff, reduceCtorEq, Nat.reduceLT, Nat.reduceBEq, Nat.reduceAdd, Nat.reduceSub, Nat.reduceMul, Nat.reduceMod, c2, c3, f1, f2, f3, f4]
         refine hK10 _ ?_
         clear hK10 K10
         refine Tr.kp [0, 1, 2, 7, 9, 10, 65] ?_
         simp only [pk_cons, pk_nil, ↓A_cons, ↓reduceIte, Nat.reduceEqDiff]
         refine Tr.condG fun KT KF hT hF => ?_
         simp only [ev_tmp, ev_const, ↓A_cons, ↓reduceIte, Nat.reduceEqDiff, reduceCtorEq, condG_bool, GB_true, GB_false, decide_eq_true_eq]
         refine hT ?_
         clear hT hF KT KF
         refine Tr.seqK fun K14 hK14 => ?_
         refine Tr.rg hcx [] _ [] rfl rfl rfl ?_
         simp -implicitDefEqProofs (maxSteps := 2000000) (disch := first | omega | (simp only [go_sem, List.length_append, List.length_drop, List.length_take] <;> omega) | decide) only [go_sem, ↓reduceIte, Nat.reduceEqDiff, reduceCtorEq, Nat.reduceLT, Nat.reduceBEq, Nat.reduceAdd, Nat.reduceSub, Nat.reduceMul, Nat.reduceMod, c2, c3, f1, f2, f3, f4]
         refine hK14 _ ?_
         clear hK14 K14
         refine Tr.kp [8] ?_
         simp only [pk_cons, pk_nil, ↓A_cons, ↓reduceIte, Nat.reduceEqDiff]
         refine Tr.ret ?_
         simp -implicitDefEqProofs (disch := first | omega | (simp only [go_sem, List.length_append, List.length_drop, List.length_take] <;> omega) | decide) only [go_sem, ↓reduceIte, Nat.reduceEqDiff, reduceCtorEq]
         all_goals (first | exact bool_F (fun h => by first | exact c2o h.1 | exact c3o h.2.1) | exact bool_F (fun h => by have := h.2.2.1 k (by omega); omega) | exact bool_F (fun h => low_no hj1 hj3 hfm (bef_T (by omega)) (h.2.2.2.1 i (by omega))) | exact bool_F (fun h => by first | exact h1o h.2.2.2.2.1 | exact h2o h.2.2.2.2.2) | exact bool_T ⟨c2o, c3o, hA, hB, h1o, h2o⟩)
        ·
         have f4o := f4
         replace f4 := eq_false f4
         refine Tr.rg hcx [] [some 36, some 37, some 38, some 39, some 40, some 41, some 42, some 43, some 44, some 45, some 46, some 47, some 48, some 49, some 50, some 51, some 52, some 53, some 54, some 55, some 56, some 57, some 58, some 59, some 60, some 61, some 62, some 63, some 64, some 65] [] rfl rfl rfl ?_
         simp -implicitDefEqProofs (maxSteps := 2000000) (disch := first | omega | (simp only [go_sem, List.length_append, List.length_drop, List.length_take] <;> omega) | decide) only [go_sem, ↓reduceIte, Nat.reduceEqDiff, reduceCtorEq, Nat.reduceLT, Nat.reduceBEq, Nat.reduceAdd, Nat.reduceSub, Nat.reduceMul, Nat.reduceMod, c2, c3, f1, f2, f3, f4]
         refine hK10 _ ?_
         clear hK10 K10
         refine Tr.kp [0, 1, 2, 7, 9, 10, 65] ?_
         simp only [pk_cons, pk_nil, ↓A_cons, ↓reduceIte, Nat.reduceEqDiff]
         refine Tr.condG fun KT KF hT hF => ?_
         simp only [ev_tmp, ev_const, ↓A_cons, ↓reduceIte, Nat.reduceEqDiff, reduceCtorEq, condG_bool, GB_true, GB_false, decide_eq_true_eq]
         refine hF ?_
         clear hT hF KT KF
         refine Tr.skip ?_
         refine hK9 _ ?_
         clear hK9 K9
         refine Tr.kp [0, 1, 2, 7, 9, 10] ?_
         simp only [pk_cons, pk_nil, ↓A_cons, ↓reduceIte, Nat.reduceEqDiff]
         refine Tr.rg hcx [1000035] _ [] rfl rfl rfl ?_
         simp -implicitDefEqProofs (maxSteps := 2000000) (disch := first | omega | (simp only [go_sem, List.length_append, List.length_drop, List.length_take] <;> omega) | decide) only [go_sem, ↓reduceIte, Nat.reduceEqDiff, reduceCtorEq, Nat.reduceLT, Nat.reduceBEq, Nat.reduceAdd, Nat.reduceSub, Nat.reduceMul, Nat.reduceMod, c2, c3, f1, f2, f3, f4]
         refine ⟨k + 1, ⟨⟨by omega, fun j hj => (Nat.lt_or_eq_of_le (Nat.le_of_lt_succ hj)).elim (hA j) (fun q => q ▸ (by omega))⟩, by first | omega | (simp only []; omega)⟩, ?_, rfl⟩
         (simp only [Le_nil, Le_cons, ↓A_cons, ↓reduceIte, Nat.reduceEqDiff, reduceCtorEq, CLe_refl, CLe_top, CLe_full, CLe_nil, CLe_own, and_true, true_and]; all_goals (repeat' first | exact CLe.refl _ | exact True.intro | (refine CLe_sln ?_; first | with_reducible rfl | (simp only [List.take_zero]; done) | (rfl; done)) | exact CLe_nI (by omega) | exact CLe_int (by omega) | exact CLe_inI (by omega) | exact CLe_nIi (by omega) | with_reducible apply And.intro))
    ·
     clear hT hF KT KF
     obtain rfl : k = l.length + 1 := by omega
     refine Tr.exit ?_
     refine hK5 _ ?_
     clear hK7 K7 hK5 K5
     refine Tr.kp [0, 1, 2, 7, 9] ?_
     simp only [pk_cons, pk_nil, ↓A_cons, ↓reduceIte, Nat.reduceEqDiff]
     refine Tr.seqK fun K15 hK15 => ?_
     refine Tr.seqK fun K16 hK16 => ?_
     refine Tr.rg hcx [] _ [] rfl rfl rfl ?_
     simp -implicitDefEqProofs (maxSteps := 2000000) (disch := first | omega | (simp only [go_sem, List.length_append, List.length_drop, List.length_take] <;> omega) | decide) only [go_sem, ↓reduceIte, Nat.reduceEqDiff, reduceCtorEq, Nat.reduceLT, Nat.reduceBEq, Nat.reduceAdd, Nat.reduceSub, Nat.reduceMul, Nat.reduceMod, c2, c3]
     refine hK16 _ ?_
     clear hK16 K16
     refine Tr.kp [0, 1, 2, 7, 9, 11] ?_
     simp only [pk_cons, pk_nil, ↓A_cons, ↓reduceIte, Nat.reduceEqDiff]
     refine Tr.blk ?_
     refine Tr.loopI (α := Nat) (fun a => [(0, ?v0_37), (1, ?v1_37), (2, ?v2_37), (7, ?v7_37), (9, ?v9_37), (11, .val (nI a))]) (fun a => [some [sl iC .no E, sl iC .no L, sl iC .no K]]) (fun a => a ≤ l.length ∧ ∀ j, j < a → lowOK l b w L K j) (fun a => l.length - a) (0) ⟨Nat.zero_le _, fun j hj => absurd hj (Nat.not_lt_zero j)⟩ ?le_37 ?hh_37 ?bd_37
     case hh_37 => exact rfl
     case le_37 => (simp only [Le_nil, Le_cons, ↓A_cons, ↓reduceIte, Nat.reduceEqDiff, reduceCtorEq, CLe_refl, CLe_top, CLe_full, CLe_nil, CLe_own, and_true, true_and]; all_goals (repeat' first | exact CLe.refl _ | exact True.intro | (refine CLe_sln ?_; first | with_reducible rfl | (simp only [List.take_zero]; done) | (rfl; done)) | exact CLe_nI (by omega) | exact CLe_int (by omega) | exact CLe_inI (by omega) | exact CLe_nIi (by omega) | with_reducible apply And.intro))
     case bd_37 =>
      rintro i ⟨hi, hB⟩
      refine Tr.seqK fun K17 hK17 => ?_
      refine Tr.seqK fun K18 hK18 => ?_
      refine Tr.rg hcx [] _ [] rfl rfl rfl ?_
      simp -implicitDefEqProofs (maxSteps := 2000000) (disch := first | omega | (simp only [go_sem, List.length_append, List.length_drop, List.length_take] <;> omega) | decide) only [go_sem, ↓reduceIte, Nat.reduceEqDiff, reduceCtorEq, Nat.reduceLT, Nat.reduceBEq, Nat.reduceAdd, Nat.reduceSub, Nat.reduceMul, Nat.reduceMod, c2, c3]
      refine hK18 _ ?_
      clear hK18 K18
      refine Tr.kp [0, 1, 2, 7, 9, 11, 68] ?_
      simp only [pk_cons, pk_nil, ↓A_cons, ↓reduceIte, Nat.reduceEqDiff]
      refine Tr.condG fun KT KF hT hF => ?_
      simp only [ev_tmp, ev_const, ↓A_cons, ↓reduceIte, Nat.reduceEqDiff, reduceCtorEq, condG_bool, GB_true, GB_false, decide_eq_true_eq]
      refine GB.dec (fun hc68 => hT ?_) (fun hc68 => hF ?_)
      ·
       clear hT hF KT KF
       refine Tr.skip ?_
       refine hK17 _ ?_
       clear hK17 K17
       refine Tr.kp [0, 1, 2, 7, 9, 11] ?_
       simp only [pk_cons, pk_nil, ↓A_cons, ↓reduceIte, Nat.reduceEqDiff]
       refine Tr.seqK fun K19 hK19 => ?_
       refine Tr.blk ?_
       refine Tr.seqK fun K20 hK20 => ?_
       refine Tr.rg hcx [1000072] _ [] rfl rfl rfl ?_
       simp -implicitDefEqProofs (maxSteps := 2000000) (disch := first | omega | (simp only [go_sem, List.length_append, List.length_drop, List.length_take] <;> omega) | decide) only [go_sem, ↓reduceIte, Nat.reduceEqDiff, reduceCtorEq, Nat.reduceLT, Nat.reduceBEq, Nat.reduceAdd, Nat.reduceSub, Nat.reduceMul, Nat.reduceMod, c2, c3]
       refine hK20 _ ?_
       clear hK20 K20
       refine Tr.kp [0, 1, 2, 7, 9, 11, 12] ?_
       simp only [pk_cons, pk_nil, ↓A_cons, ↓reduceIte, Nat.reduceEqDiff]
       refine Tr.blk ?_
       refine Tr.loopI (α := Nat) (fun a => [(0, ?v0_49), (1, ?v1_49), (2, ?v2_49), (7, ?v7_49), (9, ?v9_49), (11, ?v11_49), (12, .val (nI a))]) (fun a => [some [sl iC .no E, sl iC .no L, sl iC .no K]]) (fun a => i < a ∧ a ≤ l.length + 1 ∧ (∀ m, i < m → m < a → 0 ≤ freR l b w (i : Int) (m : Int)) ∧ (∀ m, i < m → m < a → bef l b w L K i m = false)) (fun a => l.length + 1 - a) (i + 1) ⟨Nat.lt_succ_self _, by omega, fun m h1 h2 => by omega, fun m h1 h2 => by omega⟩ ?le_49 ?hh_49 ?bd_49
       case hh_49 => exact rfl
       case le_49 => (simp only [Le_nil, Le_cons, ↓A_cons, ↓reduceIte, Nat.reduceEqDiff, reduceCtorEq, CLe_refl, CLe_top, CLe_full, CLe_nil, CLe_own, and_true, true_and]; all_goals (repeat' first | exact CLe.refl _ | exact True.intro | (refine CLe_sln ?_; first | with_reducible rfl | (simp only [List.take_zero]; done) | (rfl; done)) | exact CLe_nI (by omega) | exact CLe_int (by omega) | exact CLe_inI (by omega) | exact CLe_nIi (by omega) | with_reducible apply And.intro))
       case bd_49 =>
        rintro j ⟨hj1, hj2, hfr, hbm⟩
        refine Tr.seqK fun K21 hK21 => ?_
        refine Tr.seqK fun K22 hK22 => ?_
        refine Tr.rg hcx [] _ [] rfl rfl rfl ?_
        simp -implicitDefEqProofs (maxSteps := 2000000) (disch := first | omega | (simp only [go_sem, List.length_append, List.length_drop, List.length_take] <;> omega) | decide) only [go_sem, ↓reduceIte, Nat.reduceEqDiff, reduceCtorEq, Nat.reduceLT, Nat.reduceBEq, Nat.reduceAdd, Nat.reduceSub, Nat.reduceMul, Nat.reduceMod, c2, c3]
        refine hK22 _ ?_
        clear hK22 K22
        refine Tr.kp [0, 1, 2, 7, 9, 11, 12, 75] ?_
        simp only [pk_cons, pk_nil, ↓A_cons, ↓reduceIte, Nat.reduceEqDiff]
        refine Tr.condG fun KT KF hT hF => ?_
        simp only [ev_tmp, ev_const, ↓A_cons, ↓reduceIte, Nat.reduceEqDiff, reduceCtorEq, condG_bool, GB_true, GB_false, decide_eq_true_eq]
        refine GB.dec (fun hc75 => hT ?_) (fun hc75 => hF ?_)
        ·
         clear hT hF KT KF
         have hj3 : j ≤ l.length := hc75
         have h42' := h42 l b w (i : Int) (j : Int) hF ⟨by omega, by omega, by omega⟩
         have h42n : pu 42 [sl iC .no l, .val (.int .i64 b), .val (.int .i64 w), .val (nI i), .val (nI j)] = some (.val (.int .i64 (freR l b w (i : Int) (j : Int)))) := h42'
         have h43' := h43 l b w (i : Int) (j : Int) hF ⟨by omega, by omega, by omega⟩
         have h43n : pu 43 [sl iC .no l, .val (.int .i64 b), .val (.int .i64 w), .val (nI i), .val (nI j)] = some (.val (.int .i64 (priR l b w (i : Int) (j : Int)))) := h43'
         have hpb := priR_b hF (i := (i : Int)) (j := (j : Int)) (by omega) (by omega)
         have hLj := hA j (by omega)
         have hLi := hA i (by omega)
         refine Tr.skip ?_
         refine hK21 _ ?_
         clear hK21 K21
         refine Tr.kp [0, 1, 2, 7, 9, 11, 12] ?_
         simp only [pk_cons, pk_nil, ↓A_cons, ↓reduceIte, Nat.reduceEqDiff]
         refine Tr.seqK fun K23 hK23 => ?_
         refine Tr.blk ?_
         refine Tr.seqK fun K24 hK24 => ?_
         refine Tr.seqK fun K25 hK25 => ?_
         refine Tr.rg hcx [] _ [] rfl rfl rfl ?_
         simp -implicitDefEqProofs (maxSteps := 2000000) (disch := first | omega | (simp only [go_sem, List.length_append, List.length_drop, List.length_take] <;> omega) | decide) only [go_sem, ↓reduceIte, Nat.reduceEqDiff, reduceCtorEq, Nat.reduceLT, Nat.reduceBEq, Nat.reduceAdd, Nat.reduceSub, Nat.reduceMul, Nat.reduceMod, c2, c3, h42n]
         refine hK25 _ ?_
         clear hK25 K25
         refine Tr.kp [0, 1, 2, 7, 9, 11, 12, 84] ?_
         simp only [pk_cons, pk_nil, ↓A_cons, ↓reduceIte, Nat.reduceEqDiff]
         refine Tr.condG fun KT KF hT hF => ?_
         simp only [ev_tmp, ev_const, ↓A_cons, ↓reduceIte, Nat.reduceEqDiff, reduceCtorEq, condG_bool, GB_true, GB_false, decide_eq_true_eq]
         refine GB.dec (fun hc84 => hT ?_) (fun hc84 => hF ?_)
         ·
          clear hT hF KT KF
          refine Tr.exit ?_
          refine hK19 _ ?_
          clear hK24 K24 hK23 K23 hK19 K19
          refine Tr.kp [0, 1, 2, 7, 9, 11] ?_
          simp only [pk_cons, pk_nil, ↓A_cons, ↓reduceIte, Nat.reduceEqDiff]
          refine Tr.rg hcx [1000070] _ [] rfl rfl rfl ?_
          simp -implicitDefEqProofs (maxSteps := 2000000) (disch := first | omega | (simp only [go_sem, List.length_append, List.length_drop, List.length_take] <;> omega) | decide) only [go_sem, ↓reduceIte, Nat.reduceEqDiff, reduceCtorEq, Nat.reduceLT, Nat.reduceBEq, Nat.reduceAdd, Nat.reduceSub, Nat.reduceMul, Nat.reduceMod, c2, c3]
          refine ⟨i + 1, ⟨⟨by omega, fun j hj => (Nat.lt_or_eq_of_le (Nat.le_of_lt_succ hj)).elim (hB j) (fun q => q ▸ low_of hbm hj1 (by first | (left; omega) | (right; omega)))⟩, by first | omega | (simp only []; omega)⟩, ?_, rfl⟩
          (simp only [Le_nil, Le_cons, ↓A_cons, ↓reduceIte, Nat.reduceEqDiff, reduceCtorEq, CLe_refl, CLe_top, CLe_full, CLe_nil, CLe_own, and_true, true_and]; all_goals (repeat' first | exact CLe.refl _ | exact True.intro | (refine CLe_sln ?_; first | with_reducible rfl | (simp only [List.take_zero]; done) | (rfl; done)) | exact CLe_nI (by omega) | exact CLe_int (by omega) | exact CLe_inI (by omega) | exact CLe_nIi (by omega) | with_reducible apply And.intro))
         ·
          clear hT hF KT KF
          have hfm : ∀ m, i < m → m ≤ j → 0 ≤ freR l b w (i : Int) (m : Int) := fun m h1 h2 => (Nat.lt_or_eq_of_le h2).elim (hfr m h1) (fun q => q ▸ (by omega))
          have hfm' : ∀ m, i < m → m < j + 1 → 0 ≤ freR l b w (i : Int) (m : Int) := fun m h1 h2 => hfm m h1 (by omega)
          refine Tr.skip ?_
          refine hK24 _ ?_
          clear hK24 K24
          refine Tr.kp [0, 1, 2, 7, 9, 11, 12] ?_
          simp only [pk_cons, pk_nil, ↓A_cons, ↓reduceIte, Nat.reduceEqDiff]
          refine Tr.seqK fun K26 hK26 => ?_
          refine Tr.rg hcx [1000090] _ [] rfl rfl rfl ?_
          simp -implicitDefEqProofs (maxSteps := 2000000) (disch := first | omega | (simp only [go_sem, List.length_append, List.length_drop, List.length_take] <;> omega) | decide) only [go_sem, ↓reduceIte, Nat.reduceEqDiff, reduceCtorEq, Nat.reduceLT, Nat.reduceBEq, Nat.reduceAdd, Nat.reduceSub, Nat.reduceMul, Nat.reduceMod, c2, c3]
          refine hK26 _ ?_
          clear hK26 K26
          refine Tr.kp [0, 1, 2, 7, 9, 11, 12, 13] ?_
          simp only [pk_cons, pk_nil, ↓A_cons, ↓reduceIte, Nat.reduceEqDiff]
          refine Tr.seqK fun K27 hK27 => ?_
          refine Tr.rgD hcx hMO [1000102] _ [] rfl rfl rfl rfl ?_
          simp -implicitDefEqProofs (maxSteps := 2000000) (disch := first | omega | (simp only [go_sem, List.length_append, List.length_drop, List.length_take] <;> omega) | decide) only [go_sem, ↓reduceIte, Nat.reduceEqDiff, reduceCtorEq, Nat.reduceLT, Nat.reduceBEq, Nat.reduceAdd, Nat.reduceSub, Nat.reduceMul, Nat.reduceMod, c2, c3, h43n]
          with_reducible refine And.intro ?_ ?_
          · exact rfl
          refine hK27 _ ?_
          clear hK27 K27
          refine Tr.kp [0, 1, 2, 7, 9, 11, 12, 13, 14] ?_
          simp only [pk_cons, pk_nil, ↓A_cons, ↓reduceIte, Nat.reduceEqDiff]
          refine Tr.seqK fun K28 hK28 => ?_
          by_cases g1 : gt L j + ((1 : Nat) : Int) < gt L i
          ·
           have g1o := g1
           replace g1 := eq_true g1
           refine Tr.rg hcx [] [some 103, some 104, some 105, some 106, some 107, some 108, some 109, some 110, some 111, some 112, some 113, some 114, some 115, some 116, some 117, some 118, some 119, some 120, some 121, some 122, some 123, some 124, some 125, some 126, some 127] [] rfl rfl rfl ?_
           simp -implicitDefEqProofs (maxSteps := 2000000) (disch := first | omega | (simp only [go_sem, List.length_append, List.length_drop, List.length_take] <;> omega) | decide) only [go_sem, ↓reduceIte, Nat.reduceEqDiff, reduceCtorEq, Nat.reduceLT, Nat.reduceBEq, Nat.reduceAdd, Nat.reduceSub, Nat.reduceMul, Nat.reduceMod, c2, c3, g1]
           refine hK28 _ ?_
           clear hK28 K28
           refine Tr.kp [0, 1, 2, 7, 9, 11, 12, 127] ?_
           simp only [pk_cons, pk_nil, ↓A_cons, ↓reduceIte, Nat.reduceEqDiff]
           refine Tr.condG fun KT KF hT hF => ?_
           simp only [ev_tmp, ev_const, ↓A_cons, ↓reduceIte, Nat.reduceEqDiff, reduceCtorEq, condG_bool, GB_true, GB_false, decide_eq_true_eq]
           refine hT ?_
           clear hT hF KT KF
           refine Tr.seqK fun K29 hK29 => ?_
           refine Tr.rg hcx [] _ [] rfl rfl rfl ?_
           simp -implicitDefEqProofs (maxSteps := 2000000) (disch := first | omega | (simp only [go_sem, List.length_append, List.length_drop, List.length_take] <;> omega) | decide) only [go_sem, ↓reduceIte, Nat.reduceEqDiff, reduceCtorEq, Nat.reduceLT, Nat.reduceBEq, Nat.reduceAdd, Nat.reduceSub, Nat.reduceMul, Nat.reduceMod, c2, c3, g1]
           refine hK29 _ ?_
           clear hK29 K29
           refine Tr.kp [8] ?_
           simp only [pk_cons, pk_nil, ↓A_cons, ↓reduceIte, Nat.reduceEqDiff]
           refine Tr.ret ?_
           simp -implicitDefEqProofs (disch := first | omega | (simp only [go_sem, List.length_append, List.length_drop, List.length_take] <;> omega) | decide) only [go_sem, ↓reduceIte, Nat.reduceEqDiff, reduceCtorEq]
           all_goals (first | exact bool_F (fun h => by first | exact c2o h.1 | exact c3o h.2.1) | exact bool_F (fun h => by have := h.2.2.1 k (by omega); omega) | exact bool_F (fun h => low_no hj1 hj3 hfm (bef_T (by omega)) (h.2.2.2.1 i (by omega))) | exact bool_F (fun h => by first | exact h1o h.2.2.2.2.1 | exact h2o h.2.2.2.2.2) | exact bool_T ⟨c2o, c3o, hA, hB, h1o, h2o⟩)
          ·
           have g1o := g1
           replace g1 := eq_false g1
           by_cases g2 : gt L i = gt L j + ((1 : Nat) : Int)
           ·
            have g2o := g2
            replace g2 := eq_true g2
            by_cases g3 : gt K j + priR l b w (i : Int) (j : Int) < gt K i
            ·
             have g3o := g3
             replace g3 := eq_true g3
             refine Tr.rg hcx [] [some 103, some 104, some 105, some 106, some 107, some 108, some 109, some 110, some 111, some 112, some 113, some 114, some 115, some 116, some 117, some 118, some 119, some 120, some 121, some 122, some 123, some 124, some 125, some 126, some 127] [] rfl rfl rfl ?_
             simp -implicitDefEqProofs (maxSteps := 2000000) (disch := first | omega | (simp only [go_sem, List.length_append, List.length_drop, List.length_take] <;> omega) | decide) only [go_sem, ↓reduceIte, Nat.reduceEqDiff, reduceCtorEq, Nat.reduceLT, Nat.reduceBEq, Nat.reduceAdd, Nat.reduceSub, Nat.reduceMul, Nat.reduceMod, c2, c3, g1, g2, g3]
             refine hK28 _ ?_
             clear hK28 K28
             refine Tr.kp [0, 1, 2, 7, 9, 11, 12, 127] ?_
             simp only [pk_cons, pk_nil, ↓A_cons, ↓reduceIte, Nat.reduceEqDiff]
             refine Tr.condG fun KT KF hT hF => ?_
             simp only [ev_tmp, ev_const, ↓A_cons, ↓reduceIte, Nat.reduceEqDiff, reduceCtorEq, condG_bool, GB_true, GB_false, decide_eq_true_eq]
             refine hT ?_
             clear hT hF KT KF
             refine Tr.seqK fun K30 hK30 => ?_
             refine Tr.rg hcx [] _ [] rfl rfl rfl ?_
             simp -implicitDefEqProofs (maxSteps := 2000000) (disch := first | omega | (simp only [go_sem, List.length_append, List.length_drop, List.length_take] <;> omega) | decide) only [go_sem, ↓reduceIte, Nat.reduceEqDiff, reduceCtorEq, Nat.reduceLT, Nat.reduceBEq, Nat.reduceAdd, Nat.reduceSub, Nat.reduceMul, Nat.reduceMod, c2, c3, g1, g2, g3]
             refine hK30 _ ?_
             clear hK30 K30
             refine Tr.kp [8] ?_
             simp only [pk_cons, pk_nil, ↓A_cons, ↓reduceIte, Nat.reduceEqDiff]
             refine Tr.ret ?_
             simp -implicitDefEqProofs (disch := first | omega | (simp only [go_sem, List.length_append, List.length_drop, List.length_take] <;> omega) | decide) only [go_sem, ↓reduceIte, Nat.reduceEqDiff, reduceCtorEq]
             all_goals (first | exact bool_F (fun h => by first | exact c2o h.1 | exact c3o h.2.1) | exact bool_F (fun h => by have := h.2.2.1 k (by omega); omega) | exact bool_F (fun h => low_no hj1 hj3 hfm (bef_T (by omega)) (h.2.2.2.1 i (by omega))) | exact bool_F (fun h => by first | exact h1o h.2.2.2.2.1 | exact h2o h.2.2.2.2.2) | exact bool_T ⟨c2o, c3o, hA, hB, h1o, h2o⟩)
            ·
             have g3o := g3
             replace g3 := eq_false g3
             refine Tr.rg hcx [] [some 103, some 104, some 105, some 106, some 107, some 108, some 109, some 110, some 111, some 112, some 113, some 114, some 115, some 116, some 117, some 118, some 119, some 120, some 121, some 122, some 123, some 124, some 125, some 126, some 127] [] rfl rfl rfl ?_
             simp -implicitDefEqProofs (maxSteps := 2000000) (disch := first | omega | (simp only [go_sem, List.length_append, List.length_drop, List.length_take] <;> omega) | decide) only [go_sem, ↓reduceIte, Nat.reduceEqDiff, reduceCtorEq, Nat.reduceLT, Nat.reduceBEq, Nat.reduceAdd, Nat.reduceSub, Nat.reduceMul, Nat.reduceMod, c2, c3, g1, g2, g3]
             refine hK28 _ ?_
             clear hK28 K28
             refine Tr.kp [0, 1, 2, 7, 9, 11, 12, 127] ?_
             simp only [pk_cons, pk_nil, ↓A_cons, ↓reduceIte, Nat.reduceEqDiff]
             refine Tr.condG fun KT KF hT hF => ?_
             simp only [ev_tmp, ev_const, ↓A_cons, ↓reduceIte, Nat.reduceEqDiff, reduceCtorEq, condG_bool, GB_true, GB_false, decide_eq_true_eq]
             refine hF ?_
             clear hT hF KT KF
             refine Tr.skip ?_
             refine hK23 _ ?_
             clear hK23 K23
             refine Tr.kp [0, 1, 2, 7, 9, 11, 12] ?_
             simp only [pk_cons, pk_nil, ↓A_cons, ↓reduceIte, Nat.reduceEqDiff]
             refine Tr.rg hcx [1000077] _ [] rfl rfl rfl ?_
             simp -implicitDefEqProofs (maxSteps := 2000000) (disch := first | omega | (simp only [go_sem, List.length_append, List.length_drop, List.length_take] <;> omega) | decide) only [go_sem, ↓reduceIte, Nat.reduceEqDiff, reduceCtorEq, Nat.reduceLT, Nat.reduceBEq, Nat.reduceAdd, Nat.reduceSub, Nat.reduceMul, Nat.reduceMod, c2, c3, g1, g2, g3]
             refine ⟨j + 1, ⟨⟨by omega, by omega, hfm', fun m h1 h2 => (Nat.lt_or_eq_of_le (Nat.le_of_lt_succ h2)).elim (hbm m h1) (fun q => q ▸ bef_F (by omega))⟩, by first | omega | (simp only []; omega)⟩, ?_, rfl⟩
             (simp only [Le_nil, Le_cons, ↓A_cons, ↓reduceIte, Nat.reduceEqDiff, reduceCtorEq, CLe_refl, CLe_top, CLe_full, CLe_nil, CLe_own, and_true, true_and]; all_goals (repeat' first | exact CLe.refl _ | exact True.intro | (refine CLe_sln ?_; first | with_reducible rfl | (simp only [List.take_zero]; done) | (rfl; done)) | exact CLe_nI (by omega) | exact CLe_int (by omega) | exact CLe_inI (by omega) | exact CLe_nIi (by omega) | with_reducible apply And.intro))
           ·
            have g2o := g2
            replace g2 := eq_false g2
            refine Tr.rg hcx [] [some 103, some 104, some 105, some 106, some 107, some 108, some 109, some 110, some 111, some 112, some 113, some 114, some 115, some 116, some 117, some 118, some 119, some 120, some 121, some 122, some 123, some 124, some 125, some 126, some 127] [] rfl rfl rfl ?_
            simp -implicitDefEqProofs (maxSteps := 2000000) (disch := first | omega | (simp only [go_sem, List.length_append, List.length_drop, List.length_take] <;> omega) | decide) only [go_sem, ↓reduceIte, Nat.reduceEqDiff, reduceCtorEq, Nat.reduceLT, Nat.reduceBEq, Nat.reduceAdd, Nat.reduceSub, Nat.reduceMul, Nat.reduceMod, c2, c3, g1, g2]
            refine hK28 _ ?_
            clear hK28 K28
            refine Tr.kp [0, 1, 2, 7, 9, 11, 12, 127] ?_
            simp only [pk_cons, pk_nil, ↓A_cons, ↓reduceIte, Nat.reduceEqDiff]
            refine Tr.condG fun KT KF hT hF => ?_
            simp only [ev_tmp, ev_const, ↓A_cons, ↓reduceIte, Nat.reduceEqDiff, reduceCtorEq, condG_bool, GB_true, GB_false, decide_eq_true_eq]
            refine hF ?_
            clear hT hF KT KF
            refine Tr.skip ?_
            refine hK23 _ ?_
            clear hK23 K23
            refine Tr.kp [0, 1, 2, 7, 9, 11, 12] ?_
            simp only [pk_cons, pk_nil, ↓A_cons, ↓reduceIte, Nat.reduceEqDiff]
            refine Tr.rg hcx [1000077] _ [] rfl rfl rfl ?_
            simp -implicitDefEqProofs (maxSteps := 2000000) (disch := first | omega | (simp only [go_sem, List.length_append, List.length_drop, List.length_take] <;> omega) | decide) only [go_sem, ↓reduceIte, Nat.reduceEqDiff, reduceCtorEq, Nat.reduceLT, Nat.reduceBEq, Nat.reduceAdd, Nat.reduceSub, Nat.reduceMul, Nat.reduceMod, c2, c3, g1, g2]
            refine ⟨j + 1, ⟨⟨by omega, by omega, hfm', fun m h1 h2 => (Nat.lt_or_eq_of_le (Nat.le_of_lt_succ h2)).elim (hbm m h1) (fun q => q ▸ bef_F (by omega))⟩, by first | omega | (simp only []; omega)⟩, ?_, rfl⟩
            (simp only [Le_nil, Le_cons, ↓A_cons, ↓reduceIte, Nat.reduceEqDiff, reduceCtorEq, CLe_refl, CLe_top, CLe_full, CLe_nil, CLe_own, and_true, true_and]; all_goals (repeat' first | exact CLe.refl _ | exact True.intro | (refine CLe_sln ?_; first | with_reducible rfl | (simp only [List.take_zero]; done) | (rfl; done)) | exact CLe_nI (by omega) | exact CLe_int (by omega) | exact CLe_inI (by omega) | exact CLe_nIi (by omega) | with_reducible apply And.intro))
        ·
         clear hT hF KT KF
         refine Tr.exit ?_
         refine hK19 _ ?_
         clear hK21 K21 hK19 K19
         refine Tr.kp [0, 1, 2, 7, 9, 11] ?_
         simp only [pk_cons, pk_nil, ↓A_cons, ↓reduceIte, Nat.reduceEqDiff]
         refine Tr.rg hcx [1000070] _ [] rfl rfl rfl ?_
         simp -implicitDefEqProofs (maxSteps := 2000000) (disch := first | omega | (simp only [go_sem, List.length_append, List.length_drop, List.length_take] <;> omega) | decide) only [go_sem, ↓reduceIte, Nat.reduceEqDiff, reduceCtorEq, Nat.reduceLT, Nat.reduceBEq, Nat.reduceAdd, Nat.reduceSub, Nat.reduceMul, Nat.reduceMod, c2, c3]
         refine ⟨i + 1, ⟨⟨by omega, fun j hj => (Nat.lt_or_eq_of_le (Nat.le_of_lt_succ hj)).elim (hB j) (fun q => q ▸ low_of hbm hj1 (by first | (left; omega) | (right; omega)))⟩, by first | omega | (simp only []; omega)⟩, ?_, rfl⟩
         (simp only [Le_nil, Le_cons, ↓A_cons, ↓reduceIte, Nat.reduceEqDiff, reduceCtorEq, CLe_refl, CLe_top, CLe_full, CLe_nil, CLe_own, and_true, true_and]; all_goals (repeat' first | exact CLe.refl _ | exact True.intro | (refine CLe_sln ?_; first | with_reducible rfl | (simp only [List.take_zero]; done) | (rfl; done)) | exact CLe_nI (by omega) | exact CLe_int (by omega) | exact CLe_inI (by omega) | exact CLe_nIi (by omega) | with_reducible apply And.intro))
      ·
       clear hT hF KT KF
       obtain rfl : i = l.length := by omega
       refine Tr.exit ?_
       refine hK15 _ ?_
       clear hK17 K17 hK15 K15
       refine Tr.kp [7, 9] ?_
       simp only [pk_cons, pk_nil, ↓A_cons, ↓reduceIte, Nat.reduceEqDiff]
       refine Tr.seqK fun K31 hK31 => ?_
       by_cases h1 : gt L l.length = ((0 : Nat) : Int)
       ·
        have h1o := h1
        replace h1 := eq_true h1
        by_cases h2 : gt K l.length = ((0 : Nat) : Int)
        ·
         have h2o := h2
         replace h2 := eq_true h2
         refine Tr.rg hcx [1000141] [some 128, some 129, some 130, some 131, some 132, some 133, some 134, some 135, some 136, some 137, some 138, some 139, some 140, some 141, some 8] [] rfl rfl rfl ?_
         simp -implicitDefEqProofs (maxSteps := 2000000) (disch := first | omega | (simp only [go_sem, List.length_append, List.length_drop, List.length_take] <;> omega) | decide) only [go_sem, ↓reduceIte, Nat.reduceEqDiff, reduceCtorEq, Nat.reduceLT, Nat.reduceBEq, Nat.reduceAdd, Nat.reduceSub, Nat.reduceMul, Nat.reduceMod, c2, c3, h1, h2]
         refine hK31 _ ?_
         clear hK31 K31
         refine Tr.kp [8] ?_
         simp only [pk_cons, pk_nil, ↓A_cons, ↓reduceIte, Nat.reduceEqDiff]
         refine Tr.ret ?_
         simp -implicitDefEqProofs (disch := first | omega | (simp only [go_sem, List.length_append, List.length_drop, List.length_take] <;> omega) | decide) only [go_sem, ↓reduceIte, Nat.reduceEqDiff, reduceCtorEq]
         all_goals (first | exact bool_F (fun h => by first | exact c2o h.1 | exact c3o h.2.1) | exact bool_F (fun h => by have := h.2.2.1 k (by omega); omega) | exact bool_F (fun h => low_no hj1 hj3 hfm (bef_T (by omega)) (h.2.2.2.1 i (by omega))) | exact bool_F (fun h => by first | exact h1o h.2.2.2.2.1 | exact h2o h.2.2.2.2.2) | exact bool_T ⟨c2o, c3o, hA, hB, h1o, h2o⟩)
        ·
         have h2o := h2
         replace h2 := eq_false h2
         refine Tr.rg hcx [1000141] [some 128, some 129, some 130, some 131, some 132, some 133, some 134, some 135, some 136, some 137, some 138, some 139, some 140, some 141, some 8] [] rfl rfl rfl ?_
         simp -implicitDefEqProofs (maxSteps := 2000000) (disch := first | omega | (simp only [go_sem, List.length_append, List.length_drop, List.length_take] <;> omega) | decide) only [go_sem, ↓reduceIte, Nat.reduceEqDiff, reduceCtorEq, Nat.reduceLT, Nat.reduceBEq, Nat.reduceAdd, Nat.reduceSub, Nat.reduceMul, Nat.reduceMod, c2, c3, h1, h2]
         refine hK31 _ ?_
         clear hK31 K31
         refine Tr.kp [8] ?_
         simp only [pk_cons, pk_nil, ↓A_cons, ↓reduceIte, Nat.reduceEqDiff]
         refine Tr.ret ?_
         simp -implicitDefEqProofs (disch := first | omega | (simp only [go_sem, List.length_append, List.length_drop, List.length_take] <;> omega) | decide) only [go_sem, ↓reduceIte, Nat.reduceEqDiff, reduceCtorEq]
         all_goals (first | exact bool_F (fun h => by first | exact c2o h.1 | exact c3o h.2.1) | exact bool_F (fun h => by have := h.2.2.1 k (by omega); omega) | exact bool_F (fun h => low_no hj1 hj3 hfm (bef_T (by omega)) (h.2.2.2.1 i (by omega))) | exact bool_F (fun h => by first | exact h1o h.2.2.2.2.1 | exact h2o h.2.2.2.2.2) | exact bool_T ⟨c2o, c3o, hA, hB, h1o, h2o⟩)
       ·
        have h1o := h1
        replace h1 := eq_false h1
        refine Tr.rg hcx [1000141] [some 128, some 129, some 130, some 131, some 132, some 133, some 134, some 135, some 136, some 137, some 138, some 139, some 140, some 141, some 8] [] rfl rfl rfl ?_
        simp -implicitDefEqProofs (maxSteps := 2000000) (disch := first | omega | (simp only [go_sem, List.length_append, List.length_drop, List.length_take] <;> omega) | decide) only [go_sem, ↓reduceIte, Nat.reduceEqDiff, reduceCtorEq, Nat.reduceLT, Nat.reduceBEq, Nat.reduceAdd, Nat.reduceSub, Nat.reduceMul, Nat.reduceMod, c2, c3, h1]
        refine hK31 _ ?_
        clear hK31 K31
        refine Tr.kp [8] ?_
        simp only [pk_cons, pk_nil, ↓A_cons, ↓reduceIte, Nat.reduceEqDiff]
        refine Tr.ret ?_
        simp -implicitDefEqProofs (disch := first | omega | (simp only [go_sem, List.length_append, List.length_drop, List.length_take] <;> omega) | decide) only [go_sem, ↓reduceIte, Nat.reduceEqDiff, reduceCtorEq]
        all_goals (first | exact bool_F (fun h => by first | exact c2o h.1 | exact c3o h.2.1) | exact bool_F (fun h => by have := h.2.2.1 k (by omega); omega) | exact bool_F (fun h => low_no hj1 hj3 hfm (bef_T (by omega)) (h.2.2.2.1 i (by omega))) | exact bool_F (fun h => by first | exact h1o h.2.2.2.2.1 | exact h2o h.2.2.2.2.2) | exact bool_T ⟨c2o, c3o, hA, hB, h1o, h2o⟩)
  ·
   have c3o := c3
   replace c3 := eq_false c3
   refine Tr.rg hcx [] [some 17, some 18, some 19, some 20, some 21, some 22, some 23, some 24, some 25, some 26, some 27, some 28, some 29, some 30] [] rfl rfl rfl ?_
   simp -implicitDefEqProofs (maxSteps := 2000000) (disch := first | omega | (simp only [go_sem, List.length_append, List.length_drop, List.length_take] <;> omega) | decide) only [go_sem, ↓reduceIte, Nat.reduceEqDiff, reduceCtorEq, Nat.reduceLT, Nat.reduceBEq, Nat.reduceAdd, Nat.reduceSub, Nat.reduceMul, Nat.reduceMod, c2, c3]
   refine hK4 _ ?_
   clear hK4 K4
   refine Tr.kp [0, 1, 2, 7, 9, 30] ?_
   simp only [pk_cons, pk_nil, ↓A_cons, ↓reduceIte, Nat.reduceEqDiff]
   refine Tr.condG fun KT KF hT hF => ?_
   simp only [ev_tmp, ev_const, ↓A_cons, ↓reduceIte, Nat.reduceEqDiff, reduceCtorEq, condG_bool, GB_true, GB_false, decide_eq_true_eq]
   refine hT ?_
   clear hT hF KT KF
   refine Tr.seqK fun K32 hK32 => ?_
   refine Tr.rg hcx [] _ [] rfl rfl rfl ?_
   simp -implicitDefEqProofs (maxSteps := 2000000) (disch := first | omega | (simp only [go_sem, List.length_append, List.length_drop, List.length_take] <;> omega) | decide) only [go_sem, ↓reduceIte, Nat.reduceEqDiff, reduceCtorEq, Nat.reduceLT, Nat.reduceBEq, Nat.reduceAdd, Nat.reduceSub, Nat.reduceMul, Nat.reduceMod, c2, c3]
   refine hK32 _ ?_
   clear hK32 K32
   refine Tr.kp [8] ?_
   simp only [pk_cons, pk_nil, ↓A_cons, ↓reduceIte, Nat.reduceEqDiff]
   refine Tr.ret ?_
   simp -implicitDefEqProofs (disch := first | omega | (simp only [go_sem, List.length_append, List.length_drop, List.length_take] <;> omega) | decide) only [go_sem, ↓reduceIte, Nat.reduceEqDiff, reduceCtorEq]
   all_goals (first | exact bool_F (fun h => by first | exact c2o h.1 | exact c3o h.2.1) | exact bool_F (fun h => by have := h.2.2.1 k (by omega); omega) | exact bool_F (fun h => low_no hj1 hj3 hfm (bef_T (by omega)) (h.2.2.2.1 i (by omega))) | exact bool_F (fun h => by first | exact h1o h.2.2.2.2.1 | exact h2o h.2.2.2.2.2) | exact bool_T ⟨c2o, c3o, hA, hB, h1o, h2o⟩)
 ·
  have c2o := c2
  replace c2 := eq_false c2
  refine Tr.rg hcx [] [some 17, some 18, some 19, some 20, some 21, some 22, some 23, some 24, some 25, some 26, some 27, some 28, some 29, some 30] [] rfl rfl rfl ?_
  simp -implicitDefEqProofs (maxSteps := 2000000) (disch := first | omega | (simp only [go_sem, List.length_append, List.length_drop, List.length_take] <;> omega) | decide) only [go_sem, ↓reduceIte, Nat.reduceEqDiff, reduceCtorEq, Nat.reduceLT, Nat.reduceBEq, Nat.reduceAdd, Nat.reduceSub, Nat.reduceMul, Nat.reduceMod, c2]
  refine hK4 _ ?_
  clear hK4 K4
  refine Tr.kp [0, 1, 2, 7, 9, 30] ?_
  simp only [pk_cons, pk_nil, ↓A_cons, ↓reduceIte, Nat.reduceEqDiff]
  refine Tr.condG fun KT KF hT hF => ?_
  simp only [ev_tmp, ev_const, ↓A_cons, ↓reduceIte, Nat.reduceEqDiff, reduceCtorEq, condG_bool, GB_true, GB_false, decide_eq_true_eq]
  refine hT ?_
  clear hT hF KT KF
  refine Tr.seqK fun K33 hK33 => ?_
  refine Tr.rg hcx [] _ [] rfl rfl rfl ?_
  simp -implicitDefEqProofs (maxSteps := 2000000) (disch := first | omega | (simp only [go_sem, List.length_append, List.length_drop, List.length_take] <;> omega) | decide) only [go_sem, ↓reduceIte, Nat.reduceEqDiff, reduceCtorEq, Nat.reduceLT, Nat.reduceBEq, Nat.reduceAdd, Nat.reduceSub, Nat.reduceMul, Nat.reduceMod, c2]
  refine hK33 _ ?_
  clear hK33 K33
  refine Tr.kp [8] ?_
  simp only [pk_cons, pk_nil, ↓A_cons, ↓reduceIte, Nat.reduceEqDiff]
  refine Tr.ret ?_
  simp -implicitDefEqProofs (disch := first | omega | (simp only [go_sem, List.length_append, List.length_drop, List.length_take] <;> omega) | decide) only [go_sem, ↓reduceIte, Nat.reduceEqDiff, reduceCtorEq]
  all_goals (first | exact bool_F (fun h => by first | exact c2o h.1 | exact c3o h.2.1) | exact bool_F (fun h => by have := h.2.2.1 k (by omega); omega) | exact bool_F (fun h => low_no hj1 hj3 hfm (bef_T (by omega)) (h.2.2.2.1 i (by omega))) | exact bool_F (fun h => by first | exact h1o h.2.2.2.2.1 | exact h2o h.2.2.2.2.2) | exact bool_T ⟨c2o, c3o, hA, hB, h1o, h2o⟩)
set_option maxRecDepth 100000 in
set_option maxHeartbeats 8000000 in
theorem fc25 {gl : Nat → C} {M : Nat} {pu : Nat → List C → Option C}  (hcx : CxOK (cxP gl M pu)) (h27 : ∀ (l : List Int) (b w : Int), LI l → (-9223372036854775808 ≤ b ∧ b ≤ 9223372036854775807) → (-9223372036854775808 ≤ w ∧ w ≤ 9223372036854775807) → pu 27 [sl iC .no l, .val (.int .i64 b), .val (.int .i64 w)] = some (.val (nI (errE l b w)))) (h22 : ∀ (l : List Int) (b w : Int) (e : List Int), LI l → (-9223372036854775808 ≤ b ∧ b ≤ 9223372036854775807) → (-9223372036854775808 ≤ w ∧ w ≤ 9223372036854775807) → LI e → pu 22 [sl iC .no l, .val (.int .i64 b), .val (.int .i64 w), sl iC .no e] = some (.tup [.val (nI (costT l b w e).1), .val (.int .i64 (costT l b w e).2.1), .val (nI (costT l b w e).2.2)])) (h44 : ∀ (l : List Int) (b w : Int) (E L K : List Int), LI l → LI L → LI K → Fine l b w → pu 44 [sl iC .no l, .val (.int .i64 b), .val (.int .i64 w), .agg [sl iC .no E, sl iC .no L, sl iC .no K]] = some (.val (.bool (decide (shwP l b w L K))))) (l : List Int) (b w : Int) (hl : LI l) (hb : -9223372036854775808 ≤ b ∧ b ≤ 9223372036854775807) (hw : -9223372036854775808 ≤ w ∧ w ≤ 9223372036854775807) (E L K : List Int) (hE : LI E) (hL : LI L) (hK : LI K) : FC Try.prog gl 25 [sl iC .no l, .val (.int .i64 b), .val (.int .i64 w), .agg [sl iC .no E, sl iC .no L, sl iC .no K]] [] (.val (nI (chkT l b w E L K))) [] := by
 replace hcx := hcx.reN (M := 54)
 refine FC.ofA (cx := cxP gl 54 pu) (rs := [.tmp 8]) rfl Try.func25 rfl rfl rfl (by simp only [List.length_cons, List.length_nil]; decide) (by simp only [go_sem]) ?_
 simp only [ini, go_sem]
 have hl1 := hl.1
 have hL1 := hL.1
 have hK1 := hK.1
 have h27' := h27 l b w hl hb hw
 have h22' := h22 l b w E hl hb hw hE
 refine Tr.seqK fun K1 hK1 => ?_
 refine Tr.rg hcx [] _ [none] rfl rfl rfl ?_
 simp -implicitDefEqProofs (maxSteps := 2000000) (disch := first | omega | (simp only [go_sem, List.length_append, List.length_drop, List.length_take] <;> omega) | decide) only [go_sem, ↓reduceIte, Nat.reduceEqDiff, reduceCtorEq, Nat.reduceLT, Nat.reduceBEq, Nat.reduceAdd, Nat.reduceSub, Nat.reduceMul, Nat.reduceMod]
 refine hK1 _ ?_
 clear hK1 K1
 refine Tr.kp [0, 1, 2, 7] ?_
 simp only [pk_cons, pk_nil, ↓A_cons, ↓reduceIte, Nat.reduceEqDiff]
 refine Tr.seqK fun K2 hK2 => ?_
 by_cases b0 : errE l b w = 0
 ·
  have hF := errE_0.1 b0
  have hF1 := hF.1
  rw [b0] at h27'
  have h44' := h44 l b w E L K hl hL hK hF
  refine Tr.rg hcx [1000016] _ [] rfl rfl rfl ?_
  simp -implicitDefEqProofs (maxSteps := 2000000) (disch := first | omega | (simp only [go_sem, List.length_append, List.length_drop, List.length_take] <;> omega) | decide) only [go_sem, ↓reduceIte, Nat.reduceEqDiff, reduceCtorEq, Nat.reduceLT, Nat.reduceBEq, Nat.reduceAdd, Nat.reduceSub, Nat.reduceMul, Nat.reduceMod, b0, h27']
  refine hK2 _ ?_
  clear hK2 K2
  refine Tr.kp [0, 1, 2, 7, 9] ?_
  simp only [pk_cons, pk_nil, ↓A_cons, ↓reduceIte, Nat.reduceEqDiff]
  refine Tr.seqK fun K3 hK3 => ?_
  refine Tr.seqK fun K4 hK4 => ?_
  refine Tr.rg hcx [] _ [] rfl rfl rfl ?_
  simp -implicitDefEqProofs (maxSteps := 2000000) (disch := first | omega | (simp only [go_sem, List.length_append, List.length_drop, List.length_take] <;> omega) | decide) only [go_sem, ↓reduceIte, Nat.reduceEqDiff, reduceCtorEq, Nat.reduceLT, Nat.reduceBEq, Nat.reduceAdd, Nat.reduceSub, Nat.reduceMul, Nat.reduceMod, b0]
  refine hK4 _ ?_
  clear hK4 K4
  refine Tr.kp [0, 1, 2, 7, 9, 18] ?_
  simp only [pk_cons, pk_nil, ↓A_cons, ↓reduceIte, Nat.reduceEqDiff]
  refine Tr.condG fun KT KF hT hF => ?_
  simp only [ev_tmp, ev_const, ↓A_cons, ↓reduceIte, Nat.reduceEqDiff, reduceCtorEq, condG_bool, GB_true, GB_false, decide_eq_true_eq]
  refine hF ?_
  clear hT hF KT KF
  refine Tr.skip ?_
  refine hK3 _ ?_
  clear hK3 K3
  refine Tr.kp [0, 1, 2, 7] ?_
  simp only [pk_cons, pk_nil, ↓A_cons, ↓reduceIte, Nat.reduceEqDiff]
  refine Tr.seqK fun K5 hK5 => ?_
  refine Tr.rg hcx [1000027, 1000028, 1000029] _ [] rfl rfl rfl ?_
  simp -implicitDefEqProofs (maxSteps := 2000000) (disch := first | omega | (simp only [go_sem, List.length_append, List.length_drop, List.length_take] <;> omega) | decide) only [go_sem, ↓reduceIte, Nat.reduceEqDiff, reduceCtorEq, Nat.reduceLT, Nat.reduceBEq, Nat.reduceAdd, Nat.reduceSub, Nat.reduceMul, Nat.reduceMod, b0, h22']
  refine hK5 _ ?_
  clear hK5 K5
  refine Tr.kp [0, 1, 2, 7, 10, 11, 12] ?_
  simp only [pk_cons, pk_nil, ↓A_cons, ↓reduceIte, Nat.reduceEqDiff]
  refine Tr.seqK fun K6 hK6 => ?_
  refine Tr.seqK fun K7 hK7 => ?_
  by_cases c1 : (costT l b w E).2.2 = 0
  ·
   have c1o := c1
   replace c1 := eq_true c1
   by_cases c2 : shwP l b w L K
   ·
    have c2o := c2
    replace c2 := eq_true c2
    refine Tr.rg hcx [] [some 30, some 31, some 32, some 33, some 34, some 35, some 36, some 37, some 38, some 39] [] rfl rfl rfl ?_
    simp -implicitDefEqProofs (maxSteps := 2000000) (disch := first | omega | (simp only [go_sem, List.length_append, List.length_drop, List.length_take] <;> omega) | decide) only [go_sem, ↓reduceIte, Nat.reduceEqDiff, reduceCtorEq, Nat.reduceLT, Nat.reduceBEq, Nat.reduceAdd, Nat.reduceSub, Nat.reduceMul, Nat.reduceMod, b0, c1, c2, h44', Bool.not_true, Bool.not_false]
    refine hK7 _ ?_
    clear hK7 K7
    refine Tr.kp [7, 10, 11, 39] ?_
    simp only [pk_cons, pk_nil, ↓A_cons, ↓reduceIte, Nat.reduceEqDiff]
    refine Tr.condG fun KT KF hT hF => ?_
    simp only [ev_tmp, ev_const, ↓A_cons, ↓reduceIte, Nat.reduceEqDiff, reduceCtorEq, condG_bool, GB_true, GB_false, decide_eq_true_eq]
    refine hF ?_
    clear hT hF KT KF
    refine Tr.skip ?_
    refine hK6 _ ?_
    clear hK6 K6
    refine Tr.kp [7, 10, 11] ?_
    simp only [pk_cons, pk_nil, ↓A_cons, ↓reduceIte, Nat.reduceEqDiff]
    refine Tr.seqK fun K8 hK8 => ?_
    refine Tr.seqK fun K9 hK9 => ?_
    by_cases d1 : gt L 0 = ((costT l b w E).1 : Int)
    ·
     have d1o := d1
     replace d1 := eq_true d1
     by_cases d2 : gt K 0 = (costT l b w E).2.1
     ·
      have d2o := d2
      replace d2 := eq_true d2
      have hL0 : 0 < L.length := by have := c2o.1; omega
      have hK0 : 0 < K.length := by have := c2o.2.1; omega
      refine Tr.rg hcx [] [some 40, some 41, some 42, some 43, some 44, some 45, some 46, some 47, some 48, some 49, some 50, some 51, some 52, some 53] [] rfl rfl rfl ?_
      simp -implicitDefEqProofs (maxSteps := 2000000) (disch := first | omega | (simp only [go_sem, List.length_append, List.length_drop, List.length_take] <;> omega) | decide) only [go_sem, ↓reduceIte, Nat.reduceEqDiff, reduceCtorEq, Nat.reduceLT, Nat.reduceBEq, Nat.reduceAdd, Nat.reduceSub, Nat.reduceMul, Nat.reduceMod, b0, c1, c2, d1, d2]
      refine hK9 _ ?_
      clear hK9 K9
      refine Tr.kp [53] ?_
      simp only [pk_cons, pk_nil, ↓A_cons, ↓reduceIte, Nat.reduceEqDiff]
      refine Tr.condG fun KT KF hT hF => ?_
      simp only [ev_tmp, ev_const, ↓A_cons, ↓reduceIte, Nat.reduceEqDiff, reduceCtorEq, condG_bool, GB_true, GB_false, decide_eq_true_eq]
      refine hF ?_
      clear hT hF KT KF
      refine Tr.skip ?_
      refine hK8 _ ?_
      clear hK8 K8
      refine Tr.kp [] ?_
      simp only [pk_cons, pk_nil, ↓A_cons, ↓reduceIte, Nat.reduceEqDiff]
      refine Tr.seqK fun K10 hK10 => ?_
      refine Tr.rg hcx [] _ [] rfl rfl rfl ?_
      simp -implicitDefEqProofs (maxSteps := 2000000) (disch := first | omega | (simp only [go_sem, List.length_append, List.length_drop, List.length_take] <;> omega) | decide) only [go_sem, ↓reduceIte, Nat.reduceEqDiff, reduceCtorEq, Nat.reduceLT, Nat.reduceBEq, Nat.reduceAdd, Nat.reduceSub, Nat.reduceMul, Nat.reduceMod, b0, c1, c2, d1, d2]
      refine hK10 _ ?_
      clear hK10 K10
      refine Tr.kp [8] ?_
      simp only [pk_cons, pk_nil, ↓A_cons, ↓reduceIte, Nat.reduceEqDiff]
      refine Tr.ret ?_
      simp -implicitDefEqProofs (disch := first | omega | (simp only [go_sem, List.length_append, List.length_drop, List.length_take] <;> omega) | decide) only [go_sem, ↓reduceIte, Nat.reduceEqDiff, reduceCtorEq]
      all_goals (first | (rw [chk_e b0]; try rfl) | (rw [chk_17 b0 (fun h => by first | exact c1o h.1 | exact c2o h.2.1)]; try rfl) | (rw [chk_17 b0 (fun h => by first | exact d1o h.2.2.1 | exact d2o h.2.2.2)]; try rfl) | (rw [chk_0 b0 c1o c2o d1o d2o]; try rfl))
     ·
      have d2o := d2
      replace d2 := eq_false d2
      have hL0 : 0 < L.length := by have := c2o.1; omega
      have hK0 : 0 < K.length := by have := c2o.2.1; omega
      refine Tr.rg hcx [] [some 40, some 41, some 42, some 43, some 44, some 45, some 46, some 47, some 48, some 49, some 50, some 51, some 52, some 53] [] rfl rfl rfl ?_
      simp -implicitDefEqProofs (maxSteps := 2000000) (disch := first | omega | (simp only [go_sem, List.length_append, List.length_drop, List.length_take] <;> omega) | decide) only [go_sem, ↓reduceIte, Nat.reduceEqDiff, reduceCtorEq, Nat.reduceLT, Nat.reduceBEq, Nat.reduceAdd, Nat.reduceSub, Nat.reduceMul, Nat.reduceMod, b0, c1, c2, d1, d2]
      refine hK9 _ ?_
      clear hK9 K9
      refine Tr.kp [53] ?_
      simp only [pk_cons, pk_nil, ↓A_cons, ↓reduceIte, Nat.reduceEqDiff]
      refine Tr.condG fun KT KF hT hF => ?_
      simp only [ev_tmp, ev_const, ↓A_cons, ↓reduceIte, Nat.reduceEqDiff, reduceCtorEq, condG_bool, GB_true, GB_false, decide_eq_true_eq]
      refine hT ?_
      clear hT hF KT KF
      refine Tr.seqK fun K11 hK11 => ?_
      refine Tr.rg hcx [] _ [] rfl rfl rfl ?_
      simp -implicitDefEqProofs (maxSteps := 2000000) (disch := first | omega | (simp only [go_sem, List.length_append, List.length_drop, List.length_take] <;> omega) | decide) only [go_sem, ↓reduceIte, Nat.reduceEqDiff, reduceCtorEq, Nat.reduceLT, Nat.reduceBEq, Nat.reduceAdd, Nat.reduceSub, Nat.reduceMul, Nat.reduceMod, b0, c1, c2, d1, d2]
      refine hK11 _ ?_
      clear hK11 K11
      refine Tr.kp [8] ?_
      simp only [pk_cons, pk_nil, ↓A_cons, ↓reduceIte, Nat.reduceEqDiff]
      refine Tr.ret ?_
      simp -implicitDefEqProofs (disch := first | omega | (simp only [go_sem, List.length_append, List.length_drop, List.length_take] <;> omega) | decide) only [go_sem, ↓reduceIte, Nat.reduceEqDiff, reduceCtorEq]
      all_goals (first | (rw [chk_e b0]; try rfl) | (rw [chk_17 b0 (fun h => by first | exact c1o h.1 | exact c2o h.2.1)]; try rfl) | (rw [chk_17 b0 (fun h => by first | exact d1o h.2.2.1 | exact d2o h.2.2.2)]; try rfl) | (rw [chk_0 b0 c1o c2o d1o d2o]; try rfl))
    ·
     have d1o := d1
     replace d1 := eq_false d1
     have hL0 : 0 < L.length := by have := c2o.1; omega
     have hK0 : 0 < K.length := by have := c2o.2.1; omega
     refine Tr.rg hcx [] [some 40, some 41, some 42, some 43, some 44, some 45, some 46, some 47, some 48, some 49, some 50, some 51, some 52, some 53] [] rfl rfl rfl ?_
     simp -implicitDefEqProofs (maxSteps := 2000000) (disch := first | omega | (simp only [go_sem, List.length_append, List.length_drop, List.length_take] <;> omega) | decide) only [go_sem, ↓reduceIte, Nat.reduceEqDiff, reduceCtorEq, Nat.reduceLT, Nat.reduceBEq, Nat.reduceAdd, Nat.reduceSub, Nat.reduceMul, Nat.reduceMod, b0, c1, c2, d1]
     refine hK9 _ ?_
     clear hK9 K9
     refine Tr.kp [53] ?_
     simp only [pk_cons, pk_nil, ↓A_cons, ↓reduceIte, Nat.reduceEqDiff]
     refine Tr.condG fun KT KF hT hF => ?_
     simp only [ev_tmp, ev_const, ↓A_cons, ↓reduceIte, Nat.reduceEqDiff, reduceCtorEq, condG_bool, GB_true, GB_false, decide_eq_true_eq]
     refine hT ?_
     clear hT hF KT KF
     refine Tr.seqK fun K12 hK12 => ?_
     refine Tr.rg hcx [] _ [] rfl rfl rfl ?_
     simp -implicitDefEqProofs (maxSteps := 2000000) (disch := first | omega | (simp only [go_sem, List.length_append, List.length_drop, List.length_take] <;> omega) | decide) only [go_sem, ↓reduceIte, Nat.reduceEqDiff, reduceCtorEq, Nat.reduceLT, Nat.reduceBEq, Nat.reduceAdd, Nat.reduceSub, Nat.reduceMul, Nat.reduceMod, b0, c1, c2, d1]
     refine hK12 _ ?_
     clear hK12 K12
     refine Tr.kp [8] ?_
     simp only [pk_cons, pk_nil, ↓A_cons, ↓reduceIte, Nat.reduceEqDiff]
     refine Tr.ret ?_
     simp -implicitDefEqProofs (disch := first | omega | (simp only [go_sem, List.length_append, List.length_drop, List.length_take] <;> omega) | decide) only [go_sem, ↓reduceIte, Nat.reduceEqDiff, reduceCtorEq]
     all_goals (first | (rw [chk_e b0]; try rfl) | (rw [chk_17 b0 (fun h => by first | exact c1o h.1 | exact c2o h.2.1)]; try rfl) | (rw [chk_17 b0 (fun h => by first | exact d1o h.2.2.1 | exact d2o h.2.2.2)]; try rfl) | (rw [chk_0 b0 c1o c2o d1o d2o]; try rfl))
   ·
    have c2o := c2
    replace c2 := eq_false c2
    refine Tr.rg hcx [] [some 30, some 31, some 32, some 33, some 34, some 35, some 36, some 37, some 38, some 39] [] rfl rfl rfl ?_
    simp -implicitDefEqProofs (maxSteps := 2000000) (disch := first | omega | (simp only [go_sem, List.length_append, List.length_drop, List.length_take] <;> omega) | decide) only [go_sem, ↓reduceIte, Nat.reduceEqDiff, reduceCtorEq, Nat.reduceLT, Nat.reduceBEq, Nat.reduceAdd, Nat.reduceSub, Nat.reduceMul, Nat.reduceMod, b0, c1, c2, h44', Bool.not_true, Bool.not_false]
    refine hK7 _ ?_
    clear hK7 K7
    refine Tr.kp [7, 10, 11, 39] ?_
    simp only [pk_cons, pk_nil, ↓A_cons, ↓reduceIte, Nat.reduceEqDiff]
    refine Tr.condG fun KT KF hT hF => ?_
    simp only [ev_tmp, ev_const, ↓A_cons, ↓reduceIte, Nat.reduceEqDiff, reduceCtorEq, condG_bool, GB_true, GB_false, decide_eq_true_eq]
    refine hT ?_
    clear hT hF KT KF
    refine Tr.seqK fun K13 hK13 => ?_
    refine Tr.rg hcx [] _ [] rfl rfl rfl ?_
    simp -implicitDefEqProofs (maxSteps := 2000000) (disch := first | omega | (simp only [go_sem, List.length_append, List.length_drop, List.length_take] <;> omega) | decide) only [go_sem, ↓reduceIte, Nat.reduceEqDiff, reduceCtorEq, Nat.reduceLT, Nat.reduceBEq, Nat.reduceAdd, Nat.reduceSub, Nat.reduceMul, Nat.reduceMod, b0, c1, c2]
    refine hK13 _ ?_
    clear hK13 K13
    refine Tr.kp [8] ?_
    simp only [pk_cons, pk_nil, ↓A_cons, ↓reduceIte, Nat.reduceEqDiff]
    refine Tr.ret ?_
    simp -implicitDefEqProofs (disch := first | omega | (simp only [go_sem, List.length_append, List.length_drop, List.length_take] <;> omega) | decide) only [go_sem, ↓reduceIte, Nat.reduceEqDiff, reduceCtorEq]
    all_goals (first | (rw [chk_e b0]; try rfl) | (rw [chk_17 b0 (fun h => by first | exact c1o h.1 | exact c2o h.2.1)]; try rfl) | (rw [chk_17 b0 (fun h => by first | exact d1o h.2.2.1 | exact d2o h.2.2.2)]; try rfl) | (rw [chk_0 b0 c1o c2o d1o d2o]; try rfl))
  ·
   have c1o := c1
   replace c1 := eq_false c1
   refine Tr.rg hcx [] [some 30, some 31, some 32, some 33, some 34, some 35, some 36, some 37, some 38, some 39] [] rfl rfl rfl ?_
   simp -implicitDefEqProofs (maxSteps := 2000000) (disch := first | omega | (simp only [go_sem, List.length_append, List.length_drop, List.length_take] <;> omega) | decide) only [go_sem, ↓reduceIte, Nat.reduceEqDiff, reduceCtorEq, Nat.reduceLT, Nat.reduceBEq, Nat.reduceAdd, Nat.reduceSub, Nat.reduceMul, Nat.reduceMod, b0, c1, h44', Bool.not_true, Bool.not_false]
   refine hK7 _ ?_
   clear hK7 K7
   refine Tr.kp [7, 10, 11, 39] ?_
   simp only [pk_cons, pk_nil, ↓A_cons, ↓reduceIte, Nat.reduceEqDiff]
   refine Tr.condG fun KT KF hT hF => ?_
   simp only [ev_tmp, ev_const, ↓A_cons, ↓reduceIte, Nat.reduceEqDiff, reduceCtorEq, condG_bool, GB_true, GB_false, decide_eq_true_eq]
   refine hT ?_
   clear hT hF KT KF
   refine Tr.seqK fun K14 hK14 => ?_
   refine Tr.rg hcx [] _ [] rfl rfl rfl ?_
   simp -implicitDefEqProofs (maxSteps := 2000000) (disch := first | omega | (simp only [go_sem, List.length_append, List.length_drop, List.length_take] <;> omega) | decide) only [go_sem, ↓reduceIte, Nat.reduceEqDiff, reduceCtorEq, Nat.reduceLT, Nat.reduceBEq, Nat.reduceAdd, Nat.reduceSub, Nat.reduceMul, Nat.reduceMod, b0, c1]
   refine hK14 _ ?_
   clear hK14 K14
   refine Tr.kp [8] ?_
   simp only [pk_cons, pk_nil, ↓A_cons, ↓reduceIte, Nat.reduceEqDiff]
   refine Tr.ret ?_
   simp -implicitDefEqProofs (disch := first | omega | (simp only [go_sem, List.length_append, List.length_drop, List.length_take] <;> omega) | decide) only [go_sem, ↓reduceIte, Nat.reduceEqDiff, reduceCtorEq]
   all_goals (first | (rw [chk_e b0]; try rfl) | (rw [chk_17 b0 (fun h => by first | exact c1o h.1 | exact c2o h.2.1)]; try rfl) | (rw [chk_17 b0 (fun h => by first | exact d1o h.2.2.1 | exact d2o h.2.2.2)]; try rfl) | (rw [chk_0 b0 c1o c2o d1o d2o]; try rfl))
 ·
  skip
  refine Tr.rg hcx [1000016] _ [] rfl rfl rfl ?_
  simp -implicitDefEqProofs (maxSteps := 2000000) (disch := first | omega | (simp only [go_sem, List.length_append, List.length_drop, List.length_take] <;> omega) | decide) only [go_sem, ↓reduceIte, Nat.reduceEqDiff, reduceCtorEq, Nat.reduceLT, Nat.reduceBEq, Nat.reduceAdd, Nat.reduceSub, Nat.reduceMul, Nat.reduceMod, b0, h27']
  refine hK2 _ ?_
  clear hK2 K2
  refine Tr.kp [0, 1, 2, 7, 9] ?_
  simp only [pk_cons, pk_nil, ↓A_cons, ↓reduceIte, Nat.reduceEqDiff]
  refine Tr.seqK fun K15 hK15 => ?_
  refine Tr.seqK fun K16 hK16 => ?_
  refine Tr.rg hcx [] _ [] rfl rfl rfl ?_
  simp -implicitDefEqProofs (maxSteps := 2000000) (disch := first | omega | (simp only [go_sem, List.length_append, List.length_drop, List.length_take] <;> omega) | decide) only [go_sem, ↓reduceIte, Nat.reduceEqDiff, reduceCtorEq, Nat.reduceLT, Nat.reduceBEq, Nat.reduceAdd, Nat.reduceSub, Nat.reduceMul, Nat.reduceMod, b0]
  refine hK16 _ ?_
  clear hK16 K16
  refine Tr.kp [0, 1, 2, 7, 9, 18] ?_
  simp only [pk_cons, pk_nil, ↓A_cons, ↓reduceIte, Nat.reduceEqDiff]
  refine Tr.condG fun KT KF hT hF => ?_
  simp only [ev_tmp, ev_const, ↓A_cons, ↓reduceIte, Nat.reduceEqDiff, reduceCtorEq, condG_bool, GB_true, GB_false, decide_eq_true_eq]
  refine hT ?_
  clear hT hF KT KF
  refine Tr.seqK fun K17 hK17 => ?_
  refine Tr.rg hcx [1000019] _ [] rfl rfl rfl ?_
  simp -implicitDefEqProofs (maxSteps := 2000000) (disch := first | omega | (simp only [go_sem, List.length_append, List.length_drop, List.length_take] <;> omega) | decide) only [go_sem, ↓reduceIte, Nat.reduceEqDiff, reduceCtorEq, Nat.reduceLT, Nat.reduceBEq, Nat.reduceAdd, Nat.reduceSub, Nat.reduceMul, Nat.reduceMod, b0]
  refine hK17 _ ?_
  clear hK17 K17
  refine Tr.kp [8] ?_
  simp only [pk_cons, pk_nil, ↓A_cons, ↓reduceIte, Nat.reduceEqDiff]
  refine Tr.ret ?_
  simp -implicitDefEqProofs (disch := first | omega | (simp only [go_sem, List.length_append, List.length_drop, List.length_take] <;> omega) | decide) only [go_sem, ↓reduceIte, Nat.reduceEqDiff, reduceCtorEq]
  all_goals (first | (rw [chk_e b0]; try rfl) | (rw [chk_17 b0 (fun h => by first | exact c1o h.1 | exact c2o h.2.1)]; try rfl) | (rw [chk_17 b0 (fun h => by first | exact d1o h.2.2.1 | exact d2o h.2.2.2)]; try rfl) | (rw [chk_0 b0 c1o c2o d1o d2o]; try rfl))
end Go.Sx
