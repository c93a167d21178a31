/-
  Package breaks: Check. And what follows.
-/
import Derived.Test.YtljjjkmiegeocaaPam
set_option linter.unusedSimpArgs false
set_option linter.unusedVariables false
namespace Go.Sx
open Go.RowKit Go.Proofs
theorem bsA_int2 (u : TypeDesc) (y : Nat) (a c : Int) : bsA (some ⟨u, 1, y, [nI 0]⟩) 2 [(0, .val (.int .i64 a)), (1, .val (.int .i64 c))] = some (vp (sl iC .full [a, c])) := by
  rw [bsA_one u y 2 (nI 0) _ rfl (by decide)]; rfl
attribute [go_sem high] bsA_int2
set_option maxRecDepth 100000 in
set_option maxHeartbeats 8000000 in
theorem fc23 {gl : Nat → C} {M : Nat} {pu : Nat → List C → Option C}  (hcx : CxOK (cxP gl M pu)) (h37 : ∀ (l : List Int) (b w : Int), LI l → (-9223372036854775808 ≤ b ∧ b ≤ 9223372036854775807) → (-9223372036854775808 ≤ w ∧ w ≤ 9223372036854775807) → Fine l b w → pu 37 [sl iC .no l, .val (.int .i64 b), .val (.int .i64 w)] = some (.tup [.agg [sl iC .no (sumsL l b l.length), .val (.int .i64 b), .val (.int .i64 w)], .val (nI 0)])) (h37e : ∀ (l : List Int) (b w : Int), LI l → (-9223372036854775808 ≤ b ∧ b ≤ 9223372036854775807) → (-9223372036854775808 ≤ w ∧ w ≤ 9223372036854775807) → errE l b w ≠ 0 → pu 37 [sl iC .no l, .val (.int .i64 b), .val (.int .i64 w)] = some (.tup [.agg [.val (.slice none 0 0), .val (nI 0), .val (nI 0)], .val (nI (errE l b w))])) (h38 : ∀ (S : List Int) (b w : Int), Col S b w → pu 38 [.agg [sl iC .no S, .val (.int .i64 b), .val (.int .i64 w)]] = some (.val (nI (S.length - 1)))) (h39 : ∀ (S : List Int) (b w i j : Int), Col S b w → 0 ≤ i ∧ i < S.length ∧ 0 ≤ j ∧ j < S.length → pu 39 [.agg [sl iC .no S, .val (.int .i64 b), .val (.int .i64 w)], .val (.int .i64 i), .val (.int .i64 j)] = some (.val (.int .i64 (freS S b w i j)))) (h40 : ∀ (S : List Int) (b w i j : Int), Col S b w → 0 ≤ i ∧ i < S.length ∧ 0 ≤ j ∧ j < S.length → pu 40 [.agg [sl iC .no S, .val (.int .i64 b), .val (.int .i64 w)], .val (.int .i64 i), .val (.int .i64 j)] = some (.val (.int .i64 (priS S b w i j)))) (h21 : ∀ (l : List Int) (b w : Int) (e : List Int), LI l → (-9223372036854775808 ≤ b ∧ b ≤ 9223372036854775807) → (-9223372036854775808 ≤ w ∧ w ≤ 9223372036854775807) → LI e → pu 21 [sl iC .no l, .val (.int .i64 b), .val (.int .i64 w), sl iC .no e] = some (.tup [.val (nI (costT l b w e).1), .val (.int .i64 (costT l b w e).2.1), .val (nI (costT l b w e).2.2)])) (h41 : ∀ a1 a2 b1 b2 : Int, pu 41 [sl iC .no [a1, a2], sl iC .no [b1, b2]] = some (.val (.bool (befI a1 a2 b1 b2)))) (l : List Int) (b w : Int) (hl : LI l) (hb : -9223372036854775808 ≤ b ∧ b ≤ 9223372036854775807) (hw : -9223372036854775808 ≤ w ∧ w ≤ 9223372036854775807) (E L K : List Int) (hE : LI E) (hL : LI L) (hK : LI K) : FC Try.prog gl 23 [sl iC .no l, .val (.int .i64 b), .val (.int .i64 w), .agg [sl iC .no E, sl iC .no L, sl iC .no K]] [] (.val (nI (chkT l b w E L K))) [] := by
 replace hcx := hcx.reN (M := 171)
 refine FC.ofA (cx := cxP gl 171 pu) (rs := [.tmp 8]) rfl Try.func23 rfl rfl rfl (by simp only [List.length_cons, List.length_nil]; decide) (by simp only [go_sem]) ?_
 simp only [ini, go_sem]
 have hl1 := hl.1
 have hL1 := hL.1
 have hK1 := hK.1
 have h21' := h21 l b w E hl hb hw hE
 refine Tr.seqK fun K1 hK1 => ?_
 refine Tr.rg hcx [] _ [none] rfl rfl rfl ?_
 simp -implicitDefEqProofs (maxSteps := 2000000) (disch := first | omega | (simp only [go_sem, List.length_append, List.length_drop, List.length_take] <;> omega) | decide) only [go_sem, ↓reduceIte, Nat.reduceEqDiff, reduceCtorEq, Nat.reduceLT, Nat.reduceBEq, Nat.reduceAdd, Nat.reduceSub, Nat.reduceMul, Nat.reduceMod]
 refine hK1 _ ?_
 clear hK1 K1
 refine Tr.kp [0, 1, 2, 7] ?_
 simp only [pk_cons, pk_nil, ↓A_cons, ↓reduceIte, Nat.reduceEqDiff]
 refine Tr.seqK fun K2 hK2 => ?_
 by_cases b0 : errE l b w = 0
 ·
  have hF := errE_0.1 b0
  have h37' := h37 l b w hl hb hw hF
  have hF1 := hF.1
  have hcol := fine_col hF
  have hSl := sumsL_len l b l.length
  have h38' := h38 (sumsL l b l.length) b w hcol
  rw [show (sumsL l b l.length).length - 1 = l.length by omega] at h38'
  refine Tr.rg hcx [1000023] _ [none] rfl rfl rfl ?_
  simp -implicitDefEqProofs (maxSteps := 2000000) (disch := first | omega | (simp only [go_sem, List.length_append, List.length_drop, List.length_take] <;> omega) | decide) only [go_sem, ↓reduceIte, Nat.reduceEqDiff, reduceCtorEq, Nat.reduceLT, Nat.reduceBEq, Nat.reduceAdd, Nat.reduceSub, Nat.reduceMul, Nat.reduceMod, b0, h37']
  refine hK2 _ ?_
  clear hK2 K2
  refine Tr.kp [0, 1, 2, 7, 9, 10] ?_
  simp only [pk_cons, pk_nil, ↓A_cons, ↓reduceIte, Nat.reduceEqDiff]
  refine Tr.seqK fun K3 hK3 => ?_
  refine Tr.seqK fun K4 hK4 => ?_
  refine Tr.rg hcx [] _ [] rfl rfl rfl ?_
  simp -implicitDefEqProofs (maxSteps := 2000000) (disch := first | omega | (simp only [go_sem, List.length_append, List.length_drop, List.length_take] <;> omega) | decide) only [go_sem, ↓reduceIte, Nat.reduceEqDiff, reduceCtorEq, Nat.reduceLT, Nat.reduceBEq, Nat.reduceAdd, Nat.reduceSub, Nat.reduceMul, Nat.reduceMod, b0]
  refine hK4 _ ?_
  clear hK4 K4
  refine Tr.kp [0, 1, 2, 7, 9, 10, 25] ?_
  simp only [pk_cons, pk_nil, ↓A_cons, ↓reduceIte, Nat.reduceEqDiff]
  refine Tr.condG fun KT KF hT hF => ?_
  simp only [ev_tmp, ev_const, ↓A_cons, ↓reduceIte, Nat.reduceEqDiff, reduceCtorEq, condG_bool, GB_true, GB_false, decide_eq_true_eq]
  refine hF ?_
  clear hT hF KT KF
  refine Tr.skip ?_
  refine hK3 _ ?_
  clear hK3 K3
  refine Tr.kp [0, 1, 2, 7, 9] ?_
  simp only [pk_cons, pk_nil, ↓A_cons, ↓reduceIte, Nat.reduceEqDiff]
  refine Tr.seqK fun K5 hK5 => ?_
  refine Tr.rg hcx [1000028] _ [] rfl rfl rfl ?_
  simp -implicitDefEqProofs (maxSteps := 2000000) (disch := first | omega | (simp only [go_sem, List.length_append, List.length_drop, List.length_take] <;> omega) | decide) only [go_sem, ↓reduceIte, Nat.reduceEqDiff, reduceCtorEq, Nat.reduceLT, Nat.reduceBEq, Nat.reduceAdd, Nat.reduceSub, Nat.reduceMul, Nat.reduceMod, b0, h38']
  refine hK5 _ ?_
  clear hK5 K5
  refine Tr.kp [0, 1, 2, 7, 9, 11] ?_
  simp only [pk_cons, pk_nil, ↓A_cons, ↓reduceIte, Nat.reduceEqDiff]
  refine Tr.seqK fun K6 hK6 => ?_
  refine Tr.rg hcx [1000036, 1000037, 1000038] _ [] rfl rfl rfl ?_
  simp -implicitDefEqProofs (maxSteps := 2000000) (disch := first | omega | (simp only [go_sem, List.length_append, List.length_drop, List.length_take] <;> omega) | decide) only [go_sem, ↓reduceIte, Nat.reduceEqDiff, reduceCtorEq, Nat.reduceLT, Nat.reduceBEq, Nat.reduceAdd, Nat.reduceSub, Nat.reduceMul, Nat.reduceMod, b0, h21']
  refine hK6 _ ?_
  clear hK6 K6
  refine Tr.kp [7, 9, 10, 11, 12, 13] ?_
  simp only [pk_cons, pk_nil, ↓A_cons, ↓reduceIte, Nat.reduceEqDiff]
  refine Tr.seqK fun K7 hK7 => ?_
  refine Tr.seqK fun K8 hK8 => ?_
  by_cases c1 : (costT l b w E).2.2 = 0
  ·
   have c1o := c1
   replace c1 := eq_true c1
   by_cases c2 : L.length = l.length + 1
   ·
    have c2o := c2
    replace c2 := eq_true c2
    by_cases c3 : K.length = l.length + 1
    ·
     have c3o := c3
     replace c3 := eq_true c3
     by_cases c4 : gt L l.length = ((0 : Nat) : Int)
     ·
      have c4o := c4
      replace c4 := eq_true c4
      by_cases c5 : gt K l.length = ((0 : Nat) : Int)
      ·
       have c5o := c5
       replace c5 := eq_true c5
       refine Tr.rg hcx [] [some 39, some 40, some 41, some 42, some 43, some 44, some 45, some 46, some 47, some 48, some 49, some 50, some 51, some 52, some 53, some 54, some 55, some 56, some 57, some 58, some 59, some 60, some 61, some 62, some 63, some 64, some 65, some 66, some 67, some 68, some 69, some 70, some 71, some 72] [] rfl rfl rfl ?_
       simp -implicitDefEqProofs (maxSteps := 2000000) (disch := first | omega | (simp only [go_sem, List.length_append, List.length_drop, List.length_take] <;> omega) | decide) only [go_sem, ↓reduceIte, Nat.reduceEqDiff, reduceCtorEq, Nat.reduceLT, Nat.reduceBEq, Nat.reduceAdd, Nat.reduceSub, Nat.reduceMul, Nat.reduceMod, b0, c1, c2, c3, c4, c5]
       refine hK8 _ ?_
       clear hK8 K8
       refine Tr.kp [7, 9, 11, 12, 13, 72] ?_
       simp only [pk_cons, pk_nil, ↓A_cons, ↓reduceIte, Nat.reduceEqDiff]
       refine Tr.condG fun KT KF hT hF => ?_
       simp only [ev_tmp, ev_const, ↓A_cons, ↓reduceIte, Nat.reduceEqDiff, reduceCtorEq, condG_bool, GB_true, GB_false, decide_eq_true_eq]
       refine hF ?_
       clear hT hF KT KF
       refine Tr.skip ?_
       refine hK7 _ ?_
       clear hK7 K7
       refine Tr.kp [7, 9, 11, 12, 13] ?_
       simp only [pk_cons, pk_nil, ↓A_cons, ↓reduceIte, Nat.reduceEqDiff]
       refine Tr.seqK fun K9 hK9 => ?_
       refine Tr.seqK fun K10 hK10 => ?_
       refine Tr.rg hcx [] _ [] rfl rfl rfl ?_
       simp -implicitDefEqProofs (maxSteps := 2000000) (disch := first | omega | (simp only [go_sem, List.length_append, List.length_drop, List.length_take] <;> omega) | decide) only [go_sem, ↓reduceIte, Nat.reduceEqDiff, reduceCtorEq, Nat.reduceLT, Nat.reduceBEq, Nat.reduceAdd, Nat.reduceSub, Nat.reduceMul, Nat.reduceMod, b0, c1, c2, c3, c4, c5]
       refine hK10 _ ?_
       clear hK10 K10
       refine Tr.kp [7, 9, 11, 12, 13, 74, 75] ?_
       simp only [pk_cons, pk_nil, ↓A_cons, ↓reduceIte, Nat.reduceEqDiff]
       refine Tr.blk ?_
       refine Tr.loopI (α := Nat) (fun a => [(7, ?v7_28), (9, ?v9_28), (11, ?v11_28), (12, ?v12_28), (13, ?v13_28), (74, ?v74_28), (75, .val (nI a))]) (fun a => [some [sl iC .no E, sl iC .no L, sl iC .no K], some [sl iC .no (sumsL l b l.length), .val (.int .i64 b), .val (.int .i64 w)]]) (fun a => a ≤ l.length + 1 ∧ ∀ j, j < a → 0 ≤ gt L j ∧ gt L j ≤ 256 ∧ 0 ≤ gt K j ∧ gt K j ≤ 4294967296) (fun a => l.length + 1 - a) (0) ⟨Nat.zero_le _, fun j hj => absurd hj (Nat.not_lt_zero j)⟩ ?le_28 ?hh_28 ?bd_28
       case hh_28 => exact rfl
       case le_28 => (simp only [Le_nil, Le_cons, ↓A_cons, ↓reduceIte, Nat.reduceEqDiff, reduceCtorEq, CLe_refl, CLe_top, CLe_full, CLe_nil, CLe_own, and_true, true_and]; all_goals (repeat' first | exact CLe.refl _ | exact True.intro | (refine CLe_sln ?_; first | with_reducible rfl | (simp only [List.take_zero]; done) | (rfl; done)) | exact CLe_nI (by omega) | exact CLe_int (by omega) | exact CLe_inI (by omega) | exact CLe_nIi (by omega) | with_reducible apply And.intro))
       case bd_28 =>
        rintro k ⟨hk, hA⟩
        refine Tr.seqK fun K11 hK11 => ?_
        refine Tr.rg hcx [] _ [] rfl rfl rfl ?_
        simp -implicitDefEqProofs (maxSteps := 2000000) (disch := first | omega | (simp only [go_sem, List.length_append, List.length_drop, List.length_take] <;> omega) | decide) only [go_sem, ↓reduceIte, Nat.reduceEqDiff, reduceCtorEq, Nat.reduceLT, Nat.reduceBEq, Nat.reduceAdd, Nat.reduceSub, Nat.reduceMul, Nat.reduceMod, b0, c1, c2, c3, c4, c5]
        refine hK11 _ ?_
        clear hK11 K11
        refine Tr.kp [7, 9, 11, 12, 13, 74, 75, 76] ?_
        simp only [pk_cons, pk_nil, ↓A_cons, ↓reduceIte, Nat.reduceEqDiff]
        refine Tr.seqK fun K12 hK12 => ?_
        refine Tr.condG fun KT KF hT hF => ?_
        simp only [ev_tmp, ev_const, ↓A_cons, ↓reduceIte, Nat.reduceEqDiff, reduceCtorEq, condG_bool, GB_true, GB_false, decide_eq_true_eq]
        refine GB.dec (fun hc76 => hT ?_) (fun hc76 => hF ?_)
        ·
         clear hT hF KT KF
         have hLk := hL.2 k (by omega)
         have hKk := hK.2 k (by omega)
         refine Tr.skip ?_
         refine hK12 _ ?_
         clear hK12 K12
         refine Tr.kp [7, 9, 11, 12, 13, 74, 75] ?_
         simp only [pk_cons, pk_nil, ↓A_cons, ↓reduceIte, Nat.reduceEqDiff]
         refine Tr.seqK fun K13 hK13 => ?_
         refine Tr.blk ?_
         refine Tr.seqK fun K14 hK14 => ?_
         refine Tr.rg hcx [1000077] _ [] rfl rfl rfl ?_
         simp -implicitDefEqProofs (maxSteps := 2000000) (disch := first | omega | (simp only [go_sem, List.length_append, List.length_drop, List.length_take] <;> omega) | decide) only [go_sem, ↓reduceIte, Nat.reduceEqDiff, reduceCtorEq, Nat.reduceLT, Nat.reduceBEq, Nat.reduceAdd, Nat.reduceSub, Nat.reduceMul, Nat.reduceMod, b0, c1, c2, c3, c4, c5]
         refine hK14 _ ?_
         clear hK14 K14
         refine Tr.kp [7, 9, 11, 12, 13, 14, 74, 75] ?_
         simp only [pk_cons, pk_nil, ↓A_cons, ↓reduceIte, Nat.reduceEqDiff]
         refine Tr.seqK fun K15 hK15 => ?_
         by_cases f1 : gt L k < ((0 : Nat) : Int)
         ·
          have f1o := f1
          replace f1 := eq_true f1
          refine Tr.rg hcx [] [some 78, some 79, some 80, some 81, some 82, some 83, some 84, some 85, some 86, some 87, some 88, some 89, some 90, some 91, some 92, some 93, some 94, some 95, some 96, some 97, some 98, some 99, some 100, some 101, some 102, some 103, some 104, some 105, some 106, some 107] [] rfl rfl rfl ?_
          simp -implicitDefEqProofs (maxSteps := 2000000) (disch := first | omega | (simp only [go_sem, List.length_append, List.length_drop, List.length_take] <;> omega) | decide) only [go_sem, ↓reduceIte, Nat.reduceEqDiff, reduceCtorEq, Nat.reduceLT, Nat.reduceBEq, Nat.reduceAdd, Nat.reduceSub, Nat.reduceMul, Nat.reduceMod, b0, c1, c2, c3, c4, c5, f1]
          refine hK15 _ ?_
          clear hK15 K15
          refine Tr.kp [7, 9, 11, 12, 13, 74, 75, 107] ?_
          simp only [pk_cons, pk_nil, ↓A_cons, ↓reduceIte, Nat.reduceEqDiff]
          refine Tr.condG fun KT KF hT hF => ?_
          simp only [ev_tmp, ev_const, ↓A_cons, ↓reduceIte, Nat.reduceEqDiff, reduceCtorEq, condG_bool, GB_true, GB_false, decide_eq_true_eq]
          refine hT ?_
          clear hT hF KT KF
          refine Tr.seqK fun K16 hK16 => ?_
          refine Tr.rg hcx [] _ [] rfl rfl rfl ?_
          simp -implicitDefEqProofs (maxSteps := 2000000) (disch := first | omega | (simp only [go_sem, List.length_append, List.length_drop, List.length_take] <;> omega) | decide) only [go_sem, ↓reduceIte, Nat.reduceEqDiff, reduceCtorEq, Nat.reduceLT, Nat.reduceBEq, Nat.reduceAdd, Nat.reduceSub, Nat.reduceMul, Nat.reduceMod, b0, c1, c2, c3, c4, c5, f1]
          refine hK16 _ ?_
          clear hK16 K16
          refine Tr.kp [8] ?_
          simp only [pk_cons, pk_nil, ↓A_cons, ↓reduceIte, Nat.reduceEqDiff]
          refine Tr.ret ?_
          simp -implicitDefEqProofs (disch := first | omega | (simp only [go_sem, List.length_append, List.length_drop, List.length_take] <;> omega) | decide) only [go_sem, ↓reduceIte, Nat.reduceEqDiff, reduceCtorEq]
          all_goals (first | (rw [chk_e b0]; try rfl) | (rw [chk_17 b0 (fun h => by first | exact c1o h.1 | exact c2o h.2.1.1 | exact c3o h.2.1.2.1 | exact c4o h.2.1.2.2.2.2.1 | exact c5o h.2.1.2.2.2.2.2)]; try rfl) | (rw [chk_17 b0 (fun h => by have := h.2.1.2.2.1 k (by omega); omega)]; try rfl) | (rw [chk_17 b0 (fun h => by first | exact d1o h.2.2.1 | exact d2o h.2.2.2)]; try rfl) | (rw [chk_17 b0 (fun h => low_no hj1 e1o hfm hcb (h.2.1.2.2.2.1 i (by omega)))]; try rfl) | (rw [chk_0 b0 c1o ⟨c2o, c3o, hA, hB, c4o, c5o⟩ d1o d2o]; try rfl))
         ·
          have f1o := f1
          replace f1 := eq_false f1
          by_cases f2 : ((256 : Nat) : Int) < gt L k
          ·
           have f2o := f2
           replace f2 := eq_true f2
           refine Tr.rg hcx [] [some 78, some 79, some 80, some 81, some 82, some 83, some 84, some 85, some 86, some 87, some 88, some 89, some 90, some 91, some 92, some 93, some 94, some 95, some 96, some 97, some 98, some 99, some 100, some 101, some 102, some 103, some 104, some 105, some 106, some 107] [] rfl rfl rfl ?_
           simp -implicitDefEqProofs (maxSteps := 2000000) (disch := first | omega | (simp only [go_sem, List.length_append, List.length_drop, List.length_take] <;> omega) | decide) only [go_sem, ↓reduceIte, Nat.reduceEqDiff, reduceCtorEq, Nat.reduceLT, Nat.reduceBEq, Nat.reduceAdd, Nat.reduceSub, Nat.reduceMul, Nat.reduceMod, b0, c1, c2, c3, c4, c5, f1, f2]
           refine hK15 _ ?_
           clear hK15 K15
           refine Tr.kp [7, 9, 11, 12, 13, 74, 75, 107] ?_
           simp only [pk_cons, pk_nil, ↓A_cons, ↓reduceIte, Nat.reduceEqDiff]
           refine Tr.condG fun KT KF hT hF => ?_
           simp only [ev_tmp, ev_const, ↓A_cons, ↓reduceIte, Nat.reduceEqDiff, reduceCtorEq, condG_bool, GB_true, GB_false, decide_eq_true_eq]
           refine hT ?_
           clear hT hF KT KF
           refine Tr.seqK fun K17 hK17 => ?_
           refine Tr.rg hcx [] _ [] rfl rfl rfl ?_
           simp -implicitDefEqProofs (maxSteps := 2000000) (disch := first | omega | (simp only [go_sem, List.length_append, List.length_drop, List.length_take] <;> omega) | decide) only [go_sem, ↓reduceIte, Nat.reduceEqDiff, reduceCtorEq, Nat.reduceLT, Nat.reduceBEq, Nat.reduceAdd, Nat.reduceSub, Nat.reduceMul, Nat.reduceMod, b0, c1, c2, c3, c4, c5, f1, f2]
           refine hK17 _ ?_
           clear hK17 K17
           refine Tr.kp [8] ?_
           simp only [pk_cons, pk_nil, ↓A_cons, ↓reduceIte, Nat.reduceEqDiff]
           refine Tr.ret ?_
           simp -implicitDefEqProofs (disch := first | omega | (simp only [go_sem, List.length_append, List.length_drop, List.length_take] <;> omega) | decide) only [go_sem, ↓reduceIte, Nat.reduceEqDiff, reduceCtorEq]
           all_goals (first | (rw [chk_e b0]; try rfl) | (rw [chk_17 b0 (fun h => by first | exact c1o h.1 | exact c2o h.2.1.1 | exact c3o h.2.1.2.1 | exact c4o h.2.1.2.2.2.2.1 | exact c5o h.2.1.2.2.2.2.2)]; try rfl) | (rw [chk_17 b0 (fun h => by have := h.2.1.2.2.1 k (by omega); omega)]; try rfl) | (rw [chk_17 b0 (fun h => by first | exact d1o h.2.2.1 | exact d2o h.2.2.2)]; try rfl) | (rw [chk_17 b0 (fun h => low_no hj1 e1o hfm hcb (h.2.1.2.2.2.1 i (by omega)))]; try rfl) | (rw [chk_0 b0 c1o ⟨c2o, c3o, hA, hB, c4o, c5o⟩ d1o d2o]; try rfl))
          ·
           have f2o := f2
           replace f2 := eq_false f2
           by_cases f3 : gt K k < ((0 : Nat) : Int)
           ·
            have f3o := f3
            replace f3 := eq_true f3
            refine Tr.rg hcx [] [some 78, some 79, some 80, some 81, some 82, some 83, some 84, some 85, some 86, some 87, some 88, some 89, some 90, some 91, some 92, some 93, some 94, some 95, some 96, some 97, some 98, some 99, some 100, some 101, some 102, some 103, some 104, some 105, some 106, some 107] [] rfl rfl rfl ?_
            simp -implicitDefEqProofs (maxSteps := 2000000) (disch := first | omega | (simp only [go_sem, List.length_append, List.length_drop, List.length_take] <;> omega) | decide) only [go_sem, ↓reduceIte, Nat.reduceEqDiff, reduceCtorEq, Nat.reduceLT, Nat.reduceBEq, Nat.reduceAdd, Nat.reduceSub, Nat.reduceMul, Nat.reduceMod, b0, c1, c2, c3, c4, c5, f1, f2, f3]
            refine hK15 _ ?_
            clear hK15 K15
            refine Tr.kp [7, 9, 11, 12, 13, 74, 75, 107] ?_
            simp only [pk_cons, pk_nil, ↓A_cons, ↓reduceIte, Nat.reduceEqDiff]
            refine Tr.condG fun KT KF hT hF => ?_
            simp only [ev_tmp, ev_const, ↓A_cons, ↓reduceIte, Nat.reduceEqDiff, reduceCtorEq, condG_bool, GB_true, GB_false, decide_eq_true_eq]
            refine hT ?_
            clear hT hF KT KF
            refine Tr.seqK fun K18 hK18 => ?_
            refine Tr.rg hcx [] _ [] rfl rfl rfl ?_
            simp -implicitDefEqProofs (maxSteps := 2000000) (disch := first | omega | (simp only [go_sem, List.length_append, List.length_drop, List.length_take] <;> omega) | decide) only [go_sem, ↓reduceIte, Nat.reduceEqDiff, reduceCtorEq, Nat.reduceLT, Nat.reduceBEq, Nat.reduceAdd, Nat.reduceSub, Nat.reduceMul, Nat.reduceMod, b0, c1, c2, c3, c4, c5, f1, f2, f3]
            refine hK18 _ ?_
            clear hK18 K18
            refine Tr.kp [8] ?_
            simp only [pk_cons, pk_nil, ↓A_cons, ↓reduceIte, Nat.reduceEqDiff]
            refine Tr.ret ?_
            simp -implicitDefEqProofs (disch := first | omega | (simp only [go_sem, List.length_append, List.length_drop, List.length_take] <;> omega) | decide) only [go_sem, ↓reduceIte, Nat.reduceEqDiff, reduceCtorEq]
            all_goals (first | (rw [chk_e b0]; try rfl) | (rw [chk_17 b0 (fun h => by first | exact c1o h.1 | exact c2o h.2.1.1 | exact c3o h.2.1.2.1 | exact c4o h.2.1.2.2.2.2.1 | exact c5o h.2.1.2.2.2.2.2)]; try rfl) | (rw [chk_17 b0 (fun h => by have := h.2.1.2.2.1 k (by omega); omega)]; try rfl) | (rw [chk_17 b0 (fun h => by first | exact d1o h.2.2.1 | exact d2o h.2.2.2)]; try rfl) | (rw [chk_17 b0 (fun h => low_no hj1 e1o hfm hcb (h.2.1.2.2.2.1 i (by omega)))]; try rfl) | (rw [chk_0 b0 c1o ⟨c2o, c3o, hA, hB, c4o, c5o⟩ d1o d2o]; try rfl))
           ·
            have f3o := f3
            replace f3 := eq_false f3
            by_cases f4 : ((4294967296 : Nat) : Int) < gt K k
            ·
             have f4o := f4
             replace f4 := eq_true f4
             refine Tr.rg hcx [] [some 78, some 79, some 80, some 81, some 82, some 83, some 84, some 85, some 86, some 87, some 88, some 89, some 90, some 91, some 92, some 93, some 94, some 95, some 96, some 97, some 98, some 99, some 100, some 101, some 102, some 103, some 104, some 105, some 106, some 107] [] rfl rfl rfl ?_
             simp -implicitDefEqProofs (maxSteps := 2000000) (disch := first | omega | (simp only [go_sem, List.length_append, List.length_drop, List.length_take] <;> omega) | decide) only [go_sem, ↓reduceIte, Nat.reduceEqDiff, reduceCtorEq, Nat.reduceLT, Nat.reduceBEq, Nat.reduceAdd, Nat.reduceSub, Nat.reduceMul, Nat.reduceMod, b0, c1, c2, c3, c4, c5, f1, f2, f3, f4]
             refine hK15 _ ?_
             clear hK15 K15
             refine Tr.kp [7, 9, 11, 12, 13, 74, 75, 107] ?_
             simp only [pk_cons, pk_nil, ↓A_cons, ↓reduceIte, Nat.reduceEqDiff]
             refine Tr.condG fun KT KF hT hF => ?_
             simp only [ev_tmp, ev_const, ↓A_cons, ↓reduceIte, Nat.reduceEqDiff, reduceCtorEq, condG_bool, GB_true, GB_false, decide_eq_true_eq]
             refine hT ?_
             clear hT hF KT KF
             refine Tr.seqK fun K19 hK19 => ?_
             refine Tr.rg hcx [] _ [] rfl rfl rfl ?_
             simp -implicitDefEqProofs (maxSteps := 2000000) (disch := first | omega | (simp only [go_sem, List.length_append, List.length_drop, List.length_take] <;> omega) | decide) only [go_sem, ↓reduceIte, Nat.reduceEqDiff, reduceCtorEq, Nat.reduceLT, Nat.reduceBEq, Nat.reduceAdd, Nat.reduceSub, Nat.reduceMul, Nat.reduceMod, b0, c1, c2, c3, c4, c5, f1, f2, f3, f4]
             refine hK19 _ ?_
             clear hK19 K19
             refine Tr.kp [8] ?_
             simp only [pk_cons, pk_nil, ↓A_cons, ↓reduceIte, Nat.reduceEqDiff]
             refine Tr.ret ?_
             simp -implicitDefEqProofs (disch := first | omega | (simp only [go_sem, List.length_append, List.length_drop, List.length_take] <;> omega) | decide) only [go_sem, ↓reduceIte, Nat.reduceEqDiff, reduceCtorEq]
             all_goals (first | (rw [chk_e b0]; try rfl) | (rw [chk_17 b0 (fun h => by first | exact c1o h.1 | exact c2o h.2.1.1 | exact c3o h.2.1.2.1 | exact c4o h.2.1.2.2.2.2.1 | exact c5o h.2.1.2.2.2.2.2)]; try rfl) | (rw [chk_17 b0 (fun h => by have := h.2.1.2.2.1 k (by omega); omega)]; try rfl) | (rw [chk_17 b0 (fun h => by first | exact d1o h.2.2.1 | exact d2o h.2.2.2)]; try rfl) | (rw [chk_17 b0 (fun h => low_no hj1 e1o hfm hcb (h.2.1.2.2.2.1 i (by omega)))]; try rfl) | (rw [chk_0 b0 c1o ⟨c2o, c3o, hA, hB, c4o, c5o⟩ d1o d2o]; try rfl))
            ·
             have f4o := f4
             replace f4 := eq_false f4
             refine Tr.rg hcx [] [some 78, some 79, some 80, some 81, some 82, some 83, some 84, some 85, some 86, some 87, some 88, some 89, some 90, some 91, some 92, some 93, some 94, some 95, some 96, some 97, some 98, some 99, some 100, some 101, some 102, some 103, some 104, some 105, some 106, some 107] [] rfl rfl rfl ?_
             simp -implicitDefEqProofs (maxSteps := 2000000) (disch := first | omega | (simp only [go_sem, List.length_append, List.length_drop, List.length_take] <;> omega) | decide) only [go_sem, ↓reduceIte, Nat.reduceEqDiff, reduceCtorEq, Nat.reduceLT, Nat.reduceBEq, Nat.reduceAdd, Nat.reduceSub, Nat.reduceMul, Nat.reduceMod, b0, c1, c2, c3, c4, c5, f1, f2, f3, f4]
             refine hK15 _ ?_
             clear hK15 K15
             refine Tr.kp [7, 9, 11, 12, 13, 74, 75, 107] ?_
             simp only [pk_cons, pk_nil, ↓A_cons, ↓reduceIte, Nat.reduceEqDiff]
             refine Tr.condG fun KT KF hT hF => ?_
             simp only [ev_tmp, ev_const, ↓A_cons, ↓reduceIte, Nat.reduceEqDiff, reduceCtorEq, condG_bool, GB_true, GB_false, decide_eq_true_eq]
             refine hF ?_
             clear hT hF KT KF
             refine Tr.skip ?_
             refine hK13 _ ?_
             clear hK13 K13
             refine Tr.kp [7, 9, 11, 12, 13, 74, 75] ?_
             simp only [pk_cons, pk_nil, ↓A_cons, ↓reduceIte, Nat.reduceEqDiff]
             refine Tr.rg hcx [] _ [] rfl rfl rfl ?_
             simp -implicitDefEqProofs (maxSteps := 2000000) (disch := first | omega | (simp only [go_sem, List.length_append, List.length_drop, List.length_take] <;> omega) | decide) only [go_sem, ↓reduceIte, Nat.reduceEqDiff, reduceCtorEq, Nat.reduceLT, Nat.reduceBEq, Nat.reduceAdd, Nat.reduceSub, Nat.reduceMul, Nat.reduceMod, b0, c1, c2, c3, c4, c5, f1, f2, f3, f4]
             refine ⟨k + 1, ⟨⟨by omega, fun j hj => (Nat.lt_or_eq_of_le (Nat.le_of_lt_succ hj)).elim (hA j) (fun q => q ▸ (by omega))⟩, by first | omega | (simp only []; omega)⟩, ?_, rfl⟩
             (simp only [Le_nil, Le_cons, ↓A_cons, ↓reduceIte, Nat.reduceEqDiff, reduceCtorEq, CLe_refl, CLe_top, CLe_full, CLe_nil, CLe_own, and_true, true_and]; all_goals (repeat' first | exact CLe.refl _ | exact True.intro | (refine CLe_sln ?_; first | with_reducible rfl | (simp only [List.take_zero]; done) | (rfl; done)) | exact CLe_nI (by omega) | exact CLe_int (by omega) | exact CLe_inI (by omega) | exact CLe_nIi (by omega) | with_reducible apply And.intro))
        ·
         clear hT hF KT KF
         obtain rfl : k = l.length + 1 := by omega
         refine Tr.exit ?_
         refine hK9 _ ?_
         clear hK12 K12 hK9 K9
         refine Tr.kp [7, 9, 11, 12, 13] ?_
         simp only [pk_cons, pk_nil, ↓A_cons, ↓reduceIte, Nat.reduceEqDiff]
         refine Tr.seqK fun K20 hK20 => ?_
         refine Tr.seqK fun K21 hK21 => ?_
         by_cases d1 : gt L 0 = ((costT l b w E).1 : Int)
         ·
          have d1o := d1
          replace d1 := eq_true d1
          by_cases d2 : gt K 0 = (costT l b w E).2.1
          ·
           have d2o := d2
           replace d2 := eq_true d2
           refine Tr.rg hcx [] [some 109, some 110, some 111, some 112, some 113, some 114, some 115, some 116, some 117, some 118, some 119, some 120, some 121, some 122] [] rfl rfl rfl ?_
           simp -implicitDefEqProofs (maxSteps := 2000000) (disch := first | omega | (simp only [go_sem, List.length_append, List.length_drop, List.length_take] <;> omega) | decide) only [go_sem, ↓reduceIte, Nat.reduceEqDiff, reduceCtorEq, Nat.reduceLT, Nat.reduceBEq, Nat.reduceAdd, Nat.reduceSub, Nat.reduceMul, Nat.reduceMod, b0, c1, c2, c3, c4, c5, d1, d2]
           refine hK21 _ ?_
           clear hK21 K21
           refine Tr.kp [7, 9, 11, 122] ?_
           simp only [pk_cons, pk_nil, ↓A_cons, ↓reduceIte, Nat.reduceEqDiff]
           refine Tr.condG fun KT KF hT hF => ?_
           simp only [ev_tmp, ev_const, ↓A_cons, ↓reduceIte, Nat.reduceEqDiff, reduceCtorEq, condG_bool, GB_true, GB_false, decide_eq_true_eq]
           refine hF ?_
           clear hT hF KT KF
           refine Tr.skip ?_
           refine hK20 _ ?_
           clear hK20 K20
           refine Tr.kp [7, 9, 11] ?_
           simp only [pk_cons, pk_nil, ↓A_cons, ↓reduceIte, Nat.reduceEqDiff]
           refine Tr.seqK fun K22 hK22 => ?_
           refine Tr.seqK fun K23 hK23 => ?_
           refine Tr.rg hcx [] _ [] rfl rfl rfl ?_
           simp -implicitDefEqProofs (maxSteps := 2000000) (disch := first | omega | (simp only [go_sem, List.length_append, List.length_drop, List.length_take] <;> omega) | decide) only [go_sem, ↓reduceIte, Nat.reduceEqDiff, reduceCtorEq, Nat.reduceLT, Nat.reduceBEq, Nat.reduceAdd, Nat.reduceSub, Nat.reduceMul, Nat.reduceMod, b0, c1, c2, c3, c4, c5, d1, d2]
           refine hK23 _ ?_
           clear hK23 K23
           refine Tr.kp [7, 9, 11, 123, 124] ?_
           simp only [pk_cons, pk_nil, ↓A_cons, ↓reduceIte, Nat.reduceEqDiff]
           refine Tr.blk ?_
           refine Tr.loopI (α := Nat) (fun a => [(7, ?v7_59), (9, ?v9_59), (11, ?v11_59), (123, ?v123_59), (124, .val (nI a))]) (fun a => [some [sl iC .no E, sl iC .no L, sl iC .no K], some [sl iC .no (sumsL l b l.length), .val (.int .i64 b), .val (.int .i64 w)]]) (fun a => a ≤ l.length ∧ ∀ j, j < a → lowOK l b w L K j) (fun a => l.length - a) (0) ⟨Nat.zero_le _, fun j hj => absurd hj (Nat.not_lt_zero j)⟩ ?le_59 ?hh_59 ?bd_59
           case hh_59 => exact rfl
           case le_59 => (simp only [Le_nil, Le_cons, ↓A_cons, ↓reduceIte, Nat.reduceEqDiff, reduceCtorEq, CLe_refl, CLe_top, CLe_full, CLe_nil, CLe_own, and_true, true_and]; all_goals (repeat' first | exact CLe.refl _ | exact True.intro | (refine CLe_sln ?_; first | with_reducible rfl | (simp only [List.take_zero]; done) | (rfl; done)) | exact CLe_nI (by omega) | exact CLe_int (by omega) | exact CLe_inI (by omega) | exact CLe_nIi (by omega) | with_reducible apply And.intro))
           case bd_59 =>
            rintro i ⟨hi, hB⟩
            refine Tr.seqK fun K24 hK24 => ?_
            refine Tr.rg hcx [] _ [] rfl rfl rfl ?_
            simp -implicitDefEqProofs (maxSteps := 2000000) (disch := first | omega | (simp only [go_sem, List.length_append, List.length_drop, List.length_take] <;> omega) | decide) only [go_sem, ↓reduceIte, Nat.reduceEqDiff, reduceCtorEq, Nat.reduceLT, Nat.reduceBEq, Nat.reduceAdd, Nat.reduceSub, Nat.reduceMul, Nat.reduceMod, b0, c1, c2, c3, c4, c5, d1, d2]
            refine hK24 _ ?_
            clear hK24 K24
            refine Tr.kp [7, 9, 11, 123, 124, 125] ?_
            simp only [pk_cons, pk_nil, ↓A_cons, ↓reduceIte, Nat.reduceEqDiff]
            refine Tr.seqK fun K25 hK25 => ?_
            refine Tr.condG fun KT KF hT hF => ?_
            simp only [ev_tmp, ev_const, ↓A_cons, ↓reduceIte, Nat.reduceEqDiff, reduceCtorEq, condG_bool, GB_true, GB_false, decide_eq_true_eq]
            refine GB.dec (fun hc125 => hT ?_) (fun hc125 => hF ?_)
            ·
             clear hT hF KT KF
             refine Tr.skip ?_
             refine hK25 _ ?_
             clear hK25 K25
             refine Tr.kp [7, 9, 11, 123, 124] ?_
             simp only [pk_cons, pk_nil, ↓A_cons, ↓reduceIte, Nat.reduceEqDiff]
             refine Tr.seqK fun K26 hK26 => ?_
             refine Tr.blk ?_
             refine Tr.seqK fun K27 hK27 => ?_
             refine Tr.rg hcx [1000126] _ [] rfl rfl rfl ?_
             simp -implicitDefEqProofs (maxSteps := 2000000) (disch := first | omega | (simp only [go_sem, List.length_append, List.length_drop, List.length_take] <;> omega) | decide) only [go_sem, ↓reduceIte, Nat.reduceEqDiff, reduceCtorEq, Nat.reduceLT, Nat.reduceBEq, Nat.reduceAdd, Nat.reduceSub, Nat.reduceMul, Nat.reduceMod, b0, c1, c2, c3, c4, c5, d1, d2]
             refine hK27 _ ?_
             clear hK27 K27
             refine Tr.kp [7, 9, 11, 15, 123, 124] ?_
             simp only [pk_cons, pk_nil, ↓A_cons, ↓reduceIte, Nat.reduceEqDiff]
             refine Tr.seqK fun K28 hK28 => ?_
             refine Tr.rg hcx [1000128] _ [] rfl rfl rfl ?_
             simp -implicitDefEqProofs (maxSteps := 2000000) (disch := first | omega | (simp only [go_sem, List.length_append, List.length_drop, List.length_take] <;> omega) | decide) only [go_sem, ↓reduceIte, Nat.reduceEqDiff, reduceCtorEq, Nat.reduceLT, Nat.reduceBEq, Nat.reduceAdd, Nat.reduceSub, Nat.reduceMul, Nat.reduceMod, b0, c1, c2, c3, c4, c5, d1, d2]
             refine hK28 _ ?_
             clear hK28 K28
             refine Tr.kp [7, 9, 11, 15, 16, 123, 124] ?_
             simp only [pk_cons, pk_nil, ↓A_cons, ↓reduceIte, Nat.reduceEqDiff]
             refine Tr.blk ?_
             refine Tr.loopI (α := Nat) (fun a => [(7, ?v7_73), (9, ?v9_73), (11, ?v11_73), (15, ?v15_73), (16, .val (nI a)), (123, ?v123_73), (124, ?v124_73)]) (fun a => [some [sl iC .no E, sl iC .no L, sl iC .no K], some [sl iC .no (sumsL l b l.length), .val (.int .i64 b), .val (.int .i64 w)]]) (fun a => i < a ∧ a ≤ l.length + 1 ∧ (∀ m, i < m → m < a → 0 ≤ freR l b w (i : Int) (m : Int)) ∧ (∀ m, i < m → m < a → bef l b w L K i m = false)) (fun a => l.length + 1 - a) (i + 1) ⟨Nat.lt_succ_self _, by omega, fun m h1 h2 => by omega, fun m h1 h2 => by omega⟩ ?le_73 ?hh_73 ?bd_73
             case hh_73 => exact rfl
             case le_73 => (simp only [Le_nil, Le_cons, ↓A_cons, ↓reduceIte, Nat.reduceEqDiff, reduceCtorEq, CLe_refl, CLe_top, CLe_full, CLe_nil, CLe_own, and_true, true_and]; all_goals (repeat' first | exact CLe.refl _ | exact True.intro | (refine CLe_sln ?_; first | with_reducible rfl | (simp only [List.take_zero]; done) | (rfl; done)) | exact CLe_nI (by omega) | exact CLe_int (by omega) | exact CLe_inI (by omega) | exact CLe_nIi (by omega) | with_reducible apply And.intro))
             case bd_73 =>
              rintro j ⟨hj1, hj2, hfr, hbm⟩
              refine Tr.seqK fun K29 hK29 => ?_
              refine Tr.seqK fun K30 hK30 => ?_
              by_cases e1 : j ≤ l.length
              ·
               have e1o := e1
               replace e1 := eq_true e1
               have h39' := (h39 (sumsL l b l.length) b w (i : Int) (j : Int) hcol ⟨by omega, by omega, by omega, by omega⟩).trans (congrArg (fun z => some (C.val (.int .i64 z))) (freS_R (by omega) (by omega) (by omega)))
               have h39n : pu 39 [.agg [sl iC .no (sumsL l b l.length), .val (.int .i64 b), .val (.int .i64 w)], .val (nI i), .val (nI j)] = some (.val (.int .i64 (freR l b w (i : Int) (j : Int)))) := h39'
               by_cases e2 : ((0 : Nat) : Int) ≤ freR l b w (i : Int) (j : Int)
               ·
                have e2o := e2
                replace e2 := eq_true e2
                have hfm : ∀ m, i < m → m ≤ j → 0 ≤ freR l b w (i : Int) (m : Int) := fun m h1 h2 => (Nat.lt_or_eq_of_le h2).elim (hfr m h1) (fun q => q ▸ e2o)
                have hfm' : ∀ m, i < m → m < j + 1 → 0 ≤ freR l b w (i : Int) (m : Int) := fun m h1 h2 => hfm m h1 (by omega)
                have h40' := (h40 (sumsL l b l.length) b w (i : Int) (j : Int) hcol ⟨by omega, by omega, by omega, by omega⟩).trans (congrArg (fun z => some (C.val (.int .i64 z))) (priS_R (by omega) (by omega) (by omega)))
                have h40n : pu 40 [.agg [sl iC .no (sumsL l b l.length), .val (.int .i64 b), .val (.int .i64 w)], .val (nI i), .val (nI j)] = some (.val (.int .i64 (priR l b w (i : Int) (j : Int)))) := h40'
                have hpb := priR_b hF (i := (i : Int)) (j := (j : Int)) (by omega) (by omega)
                have hLj := hA j (by omega)
                have hLi := hA i (by omega)
                have h41' : pu 41 [sl iC .no [gt L j + ((1 : Nat) : Int), gt K j + priR l b w (i : Int) (j : Int)], sl iC .no [gt L i, gt K i]] = some (.val (.bool (bef l b w L K i j))) := h41 _ _ _ _
                refine Tr.rg hcx [] [some 129, some 130, some 131, some 132, some 133, some 134, some 135, some 136, some 137, some 138] [] rfl rfl rfl ?_
                simp -implicitDefEqProofs (maxSteps := 2000000) (disch := first | omega | (simp only [go_sem, List.length_append, List.length_drop, List.length_take] <;> omega) | decide) only [go_sem, ↓reduceIte, Nat.reduceEqDiff, reduceCtorEq, Nat.reduceLT, Nat.reduceBEq, Nat.reduceAdd, Nat.reduceSub, Nat.reduceMul, Nat.reduceMod, b0, c1, c2, c3, c4, c5, d1, d2, e1, e2, h39n]
                refine hK30 _ ?_
                clear hK30 K30
                refine Tr.kp [7, 9, 11, 15, 16, 123, 124, 138] ?_
                simp only [pk_cons, pk_nil, ↓A_cons, ↓reduceIte, Nat.reduceEqDiff]
                refine Tr.condG fun KT KF hT hF => ?_
                simp only [ev_tmp, ev_const, ↓A_cons, ↓reduceIte, Nat.reduceEqDiff, reduceCtorEq, condG_bool, GB_true, GB_false, decide_eq_true_eq]
                refine hT ?_
                clear hT hF KT KF
                refine Tr.skip ?_
                refine hK29 _ ?_
                clear hK29 K29
                refine Tr.kp [7, 9, 11, 15, 16, 123, 124] ?_
                simp only [pk_cons, pk_nil, ↓A_cons, ↓reduceIte, Nat.reduceEqDiff]
                refine Tr.seqK fun K31 hK31 => ?_
                refine Tr.blk ?_
                refine Tr.seqK fun K32 hK32 => ?_
                refine Tr.rgD hcx hMO [] _ [] rfl rfl rfl rfl ?_
                simp -implicitDefEqProofs (maxSteps := 2000000) (disch := first | omega | (simp only [go_sem, List.length_append, List.length_drop, List.length_take] <;> omega) | decide) only [go_sem, ↓reduceIte, Nat.reduceEqDiff, reduceCtorEq, Nat.reduceLT, Nat.reduceBEq, Nat.reduceAdd, Nat.reduceSub, Nat.reduceMul, Nat.reduceMod, b0, c1, c2, c3, c4, c5, d1, d2, e1, e2, h40n, h41']
                with_reducible refine And.intro ?_ ?_
                · exact rfl
                refine hK32 _ ?_
                clear hK32 K32
                refine Tr.kp [7, 9, 11, 15, 16, 123, 124, 169] ?_
                simp only [pk_cons, pk_nil, ↓A_cons, ↓reduceIte, Nat.reduceEqDiff]
                refine Tr.condG fun KT KF hT hF => ?_
                simp only [ev_tmp, ev_const, ↓A_cons, ↓reduceIte, Nat.reduceEqDiff, reduceCtorEq, condG_bool, GB_true, GB_false, decide_eq_true_eq]
                refine GB.mk (fun hc169 => hT ?_) (fun hc169 => hF ?_)
                ·
                 clear hT hF KT KF
                 have hcb := hc169
                 refine Tr.seqK fun K33 hK33 => ?_
                 refine Tr.rg hcx [] _ [] rfl rfl rfl ?_
                 simp -implicitDefEqProofs (maxSteps := 2000000) (disch := first | omega | (simp only [go_sem, List.length_append, List.length_drop, List.length_take] <;> omega) | decide) only [go_sem, ↓reduceIte, Nat.reduceEqDiff, reduceCtorEq, Nat.reduceLT, Nat.reduceBEq, Nat.reduceAdd, Nat.reduceSub, Nat.reduceMul, Nat.reduceMod, b0, c1, c2, c3, c4, c5, d1, d2, e1, e2]
                 refine hK33 _ ?_
                 clear hK33 K33
                 refine Tr.kp [8] ?_
                 simp only [pk_cons, pk_nil, ↓A_cons, ↓reduceIte, Nat.reduceEqDiff]
                 refine Tr.ret ?_
                 simp -implicitDefEqProofs (disch := first | omega | (simp only [go_sem, List.length_append, List.length_drop, List.length_take] <;> omega) | decide) only [go_sem, ↓reduceIte, Nat.reduceEqDiff, reduceCtorEq]
                 all_goals (first | (rw [chk_e b0]; try rfl) | (rw [chk_17 b0 (fun h => by first | exact c1o h.1 | exact c2o h.2.1.1 | exact c3o h.2.1.2.1 | exact c4o h.2.1.2.2.2.2.1 | exact c5o h.2.1.2.2.2.2.2)]; try rfl) | (rw [chk_17 b0 (fun h => by have := h.2.1.2.2.1 k (by omega); omega)]; try rfl) | (rw [chk_17 b0 (fun h => by first | exact d1o h.2.2.1 | exact d2o h.2.2.2)]; try rfl) | (rw [chk_17 b0 (fun h => low_no hj1 e1o hfm hcb (h.2.1.2.2.2.1 i (by omega)))]; try rfl) | (rw [chk_0 b0 c1o ⟨c2o, c3o, hA, hB, c4o, c5o⟩ d1o d2o]; try rfl))
                ·
                 clear hT hF KT KF
                 refine Tr.skip ?_
                 refine hK31 _ ?_
                 clear hK31 K31
                 refine Tr.kp [7, 9, 11, 15, 16, 123, 124] ?_
                 simp only [pk_cons, pk_nil, ↓A_cons, ↓reduceIte, Nat.reduceEqDiff]
                 refine Tr.rg hcx [1000140] _ [] rfl rfl rfl ?_
                 simp -implicitDefEqProofs (maxSteps := 2000000) (disch := first | omega | (simp only [go_sem, List.length_append, List.length_drop, List.length_take] <;> omega) | decide) only [go_sem, ↓reduceIte, Nat.reduceEqDiff, reduceCtorEq, Nat.reduceLT, Nat.reduceBEq, Nat.reduceAdd, Nat.reduceSub, Nat.reduceMul, Nat.reduceMod, b0, c1, c2, c3, c4, c5, d1, d2, e1, e2]
                 refine ⟨j + 1, ⟨⟨by omega, by omega, hfm', fun m h1 h2 => (Nat.lt_or_eq_of_le (Nat.le_of_lt_succ h2)).elim (hbm m h1) (fun q => q ▸ hc169)⟩, by first | omega | (simp only []; omega)⟩, ?_, rfl⟩
                 (simp only [Le_nil, Le_cons, ↓A_cons, ↓reduceIte, Nat.reduceEqDiff, reduceCtorEq, CLe_refl, CLe_top, CLe_full, CLe_nil, CLe_own, and_true, true_and]; all_goals (repeat' first | exact CLe.refl _ | exact True.intro | (refine CLe_sln ?_; first | with_reducible rfl | (simp only [List.take_zero]; done) | (rfl; done)) | exact CLe_nI (by omega) | exact CLe_int (by omega) | exact CLe_inI (by omega) | exact CLe_nIi (by omega) | with_reducible apply And.intro))
               ·
                have e2o := e2
                replace e2 := eq_false e2
                refine Tr.rg hcx [] [some 129, some 130, some 131, some 132, some 133, some 134, some 135, some 136, some 137, some 138] [] rfl rfl rfl ?_
                simp -implicitDefEqProofs (maxSteps := 2000000) (disch := first | omega | (simp only [go_sem, List.length_append, List.length_drop, List.length_take] <;> omega) | decide) only [go_sem, ↓reduceIte, Nat.reduceEqDiff, reduceCtorEq, Nat.reduceLT, Nat.reduceBEq, Nat.reduceAdd, Nat.reduceSub, Nat.reduceMul, Nat.reduceMod, b0, c1, c2, c3, c4, c5, d1, d2, e1, e2, h39n]
                refine hK30 _ ?_
                clear hK30 K30
                refine Tr.kp [7, 9, 11, 15, 16, 123, 124, 138] ?_
                simp only [pk_cons, pk_nil, ↓A_cons, ↓reduceIte, Nat.reduceEqDiff]
                refine Tr.condG fun KT KF hT hF => ?_
                simp only [ev_tmp, ev_const, ↓A_cons, ↓reduceIte, Nat.reduceEqDiff, reduceCtorEq, condG_bool, GB_true, GB_false, decide_eq_true_eq]
                refine hF ?_
                clear hT hF KT KF
                refine Tr.exit ?_
                refine hK26 _ ?_
                clear hK29 K29 hK26 K26
                refine Tr.kp [7, 9, 11, 123, 124] ?_
                simp only [pk_cons, pk_nil, ↓A_cons, ↓reduceIte, Nat.reduceEqDiff]
                refine Tr.rg hcx [] _ [] rfl rfl rfl ?_
                simp -implicitDefEqProofs (maxSteps := 2000000) (disch := first | omega | (simp only [go_sem, List.length_append, List.length_drop, List.length_take] <;> omega) | decide) only [go_sem, ↓reduceIte, Nat.reduceEqDiff, reduceCtorEq, Nat.reduceLT, Nat.reduceBEq, Nat.reduceAdd, Nat.reduceSub, Nat.reduceMul, Nat.reduceMod, b0, c1, c2, c3, c4, c5, d1, d2, e1, e2]
                refine ⟨i + 1, ⟨⟨by omega, fun j hj => (Nat.lt_or_eq_of_le (Nat.le_of_lt_succ hj)).elim (hB j) (fun q => q ▸ low_of hbm hj1 (by first | (left; omega) | (right; omega)))⟩, by first | omega | (simp only []; omega)⟩, ?_, rfl⟩
                (simp only [Le_nil, Le_cons, ↓A_cons, ↓reduceIte, Nat.reduceEqDiff, reduceCtorEq, CLe_refl, CLe_top, CLe_full, CLe_nil, CLe_own, and_true, true_and]; all_goals (repeat' first | exact CLe.refl _ | exact True.intro | (refine CLe_sln ?_; first | with_reducible rfl | (simp only [List.take_zero]; done) | (rfl; done)) | exact CLe_nI (by omega) | exact CLe_int (by omega) | exact CLe_inI (by omega) | exact CLe_nIi (by omega) | with_reducible apply And.intro))
              ·
               have e1o := e1
               replace e1 := eq_false e1
               have h39n := True.intro
               refine Tr.rg hcx [] [some 129, some 130, some 131, some 132, some 133, some 134, some 135, some 136, some 137, some 138] [] rfl rfl rfl ?_
               simp -implicitDefEqProofs (maxSteps := 2000000) (disch := first | omega | (simp only [go_sem, List.length_append, List.length_drop, List.length_take] <;> omega) | decide) only [go_sem, ↓reduceIte, Nat.reduceEqDiff, reduceCtorEq, Nat.reduceLT, Nat.reduceBEq, Nat.reduceAdd, Nat.reduceSub, Nat.reduceMul, Nat.reduceMod, b0, c1, c2, c3, c4, c5, d1, d2, e1, h39n]
               refine hK30 _ ?_
               clear hK30 K30
               refine Tr.kp [7, 9, 11, 15, 16, 123, 124, 138] ?_
               simp only [pk_cons, pk_nil, ↓A_cons, ↓reduceIte, Nat.reduceEqDiff]
               refine Tr.condG fun KT KF hT hF => ?_
               simp only [ev_tmp, ev_const, ↓A_cons, ↓reduceIte, Nat.reduceEqDiff, reduceCtorEq, condG_bool, GB_true, GB_false, decide_eq_true_eq]
               refine hF ?_
               clear hT hF KT KF
               refine Tr.exit ?_
               refine hK26 _ ?_
               clear hK29 K29 hK26 K26
               refine Tr.kp [7, 9, 11, 123, 124] ?_
               simp only [pk_cons, pk_nil, ↓A_cons, ↓reduceIte, Nat.reduceEqDiff]
               refine Tr.rg hcx [] _ [] rfl rfl rfl ?_
               simp -implicitDefEqProofs (maxSteps := 2000000) (disch := first | omega | (simp only [go_sem, List.length_append, List.length_drop, List.length_take] <;> omega) | decide) only [go_sem, ↓reduceIte, Nat.reduceEqDiff, reduceCtorEq, Nat.reduceLT, Nat.reduceBEq, Nat.reduceAdd, Nat.reduceSub, Nat.reduceMul, Nat.reduceMod, b0, c1, c2, c3, c4, c5, d1, d2, e1]
               refine ⟨i + 1, ⟨⟨by omega, fun j hj => (Nat.lt_or_eq_of_le (Nat.le_of_lt_succ hj)).elim (hB j) (fun q => q ▸ low_of hbm hj1 (by first | (left; omega) | (right; omega)))⟩, by first | omega | (simp only []; omega)⟩, ?_, rfl⟩
               (simp only [Le_nil, Le_cons, ↓A_cons, ↓reduceIte, Nat.reduceEqDiff, reduceCtorEq, CLe_refl, CLe_top, CLe_full, CLe_nil, CLe_own, and_true, true_and]; all_goals (repeat' first | exact CLe.refl _ | exact True.intro | (refine CLe_sln ?_; first | with_reducible rfl | (simp only [List.take_zero]; done) | (rfl; done)) | exact CLe_nI (by omega) | exact CLe_int (by omega) | exact CLe_inI (by omega) | exact CLe_nIi (by omega) | with_reducible apply And.intro))
            ·
             clear hT hF KT KF
             obtain rfl : i = l.length := by omega
             refine Tr.exit ?_
             refine hK22 _ ?_
             clear hK25 K25 hK22 K22
             refine Tr.kp [] ?_
             simp only [pk_cons, pk_nil, ↓A_cons, ↓reduceIte, Nat.reduceEqDiff]
             refine Tr.seqK fun K34 hK34 => ?_
             refine Tr.rg hcx [] _ [] rfl rfl rfl ?_
             simp -implicitDefEqProofs (maxSteps := 2000000) (disch := first | omega | (simp only [go_sem, List.length_append, List.length_drop, List.length_take] <;> omega) | decide) only [go_sem, ↓reduceIte, Nat.reduceEqDiff, reduceCtorEq, Nat.reduceLT, Nat.reduceBEq, Nat.reduceAdd, Nat.reduceSub, Nat.reduceMul, Nat.reduceMod, b0, c1, c2, c3, c4, c5, d1, d2]
             refine hK34 _ ?_
             clear hK34 K34
             refine Tr.kp [8] ?_
             simp only [pk_cons, pk_nil, ↓A_cons, ↓reduceIte, Nat.reduceEqDiff]
             refine Tr.ret ?_
             simp -implicitDefEqProofs (disch := first | omega | (simp only [go_sem, List.length_append, List.length_drop, List.length_take] <;> omega) | decide) only [go_sem, ↓reduceIte, Nat.reduceEqDiff, reduceCtorEq]
             all_goals (first | (rw [chk_e b0]; try rfl) | (rw [chk_17 b0 (fun h => by first | exact c1o h.1 | exact c2o h.2.1.1 | exact c3o h.2.1.2.1 | exact c4o h.2.1.2.2.2.2.1 | exact c5o h.2.1.2.2.2.2.2)]; try rfl) | (rw [chk_17 b0 (fun h => by have := h.2.1.2.2.1 k (by omega); omega)]; try rfl) | (rw [chk_17 b0 (fun h => by first | exact d1o h.2.2.1 | exact d2o h.2.2.2)]; try rfl) | (rw [chk_17 b0 (fun h => low_no hj1 e1o hfm hcb (h.2.1.2.2.2.1 i (by omega)))]; try rfl) | (rw [chk_0 b0 c1o ⟨c2o, c3o, hA, hB, c4o, c5o⟩ d1o d2o]; try rfl))
          ·
           have d2o := d2
           replace d2 := eq_false d2
           refine Tr.rg hcx [] [some 109, some 110, some 111, some 112, some 113, some 114, some 115, some 116, some 117, some 118, some 119, some 120, some 121, some 122] [] rfl rfl rfl ?_
           simp -implicitDefEqProofs (maxSteps := 2000000) (disch := first | omega | (simp only [go_sem, List.length_append, List.length_drop, List.length_take] <;> omega) | decide) only [go_sem, ↓reduceIte, Nat.reduceEqDiff, reduceCtorEq, Nat.reduceLT, Nat.reduceBEq, Nat.reduceAdd, Nat.reduceSub, Nat.reduceMul, Nat.reduceMod, b0, c1, c2, c3, c4, c5, d1, d2]
           refine hK21 _ ?_
           clear hK21 K21
           refine Tr.kp [7, 9, 11, 122] ?_
           simp only [pk_cons, pk_nil, ↓A_cons, ↓reduceIte, Nat.reduceEqDiff]
           refine Tr.condG fun KT KF hT hF => ?_
           simp only [ev_tmp, ev_const, ↓A_cons, ↓reduceIte, Nat.reduceEqDiff, reduceCtorEq, condG_bool, GB_true, GB_false, decide_eq_true_eq]
           refine hT ?_
           clear hT hF KT KF
           refine Tr.seqK fun K35 hK35 => ?_
           refine Tr.rg hcx [] _ [] rfl rfl rfl ?_
           simp -implicitDefEqProofs (maxSteps := 2000000) (disch := first | omega | (simp only [go_sem, List.length_append, List.length_drop, List.length_take] <;> omega) | decide) only [go_sem, ↓reduceIte, Nat.reduceEqDiff, reduceCtorEq, Nat.reduceLT, Nat.reduceBEq, Nat.reduceAdd, Nat.reduceSub, Nat.reduceMul, Nat.reduceMod, b0, c1, c2, c3, c4, c5, d1, d2]
           refine hK35 _ ?_
           clear hK35 K35
           refine Tr.kp [8] ?_
           simp only [pk_cons, pk_nil, ↓A_cons, ↓reduceIte, Nat.reduceEqDiff]
           refine Tr.ret ?_
           simp -implicitDefEqProofs (disch := first | omega | (simp only [go_sem, List.length_append, List.length_drop, List.length_take] <;> omega) | decide) only [go_sem, ↓reduceIte, Nat.reduceEqDiff, reduceCtorEq]
           all_goals (first | (rw [chk_e b0]; try rfl) | (rw [chk_17 b0 (fun h => by first | exact c1o h.1 | exact c2o h.2.1.1 | exact c3o h.2.1.2.1 | exact c4o h.2.1.2.2.2.2.1 | exact c5o h.2.1.2.2.2.2.2)]; try rfl) | (rw [chk_17 b0 (fun h => by have := h.2.1.2.2.1 k (by omega); omega)]; try rfl) | (rw [chk_17 b0 (fun h => by first | exact d1o h.2.2.1 | exact d2o h.2.2.2)]; try rfl) | (rw [chk_17 b0 (fun h => low_no hj1 e1o hfm hcb (h.2.1.2.2.2.1 i (by omega)))]; try rfl) | (rw [chk_0 b0 c1o ⟨c2o, c3o, hA, hB, c4o, c5o⟩ d1o d2o]; try rfl))
         ·
          have d1o := d1
          replace d1 := eq_false d1
          refine Tr.rg hcx [] [some 109, some 110, some 111, some 112, some 113, some 114, some 115, some 116, some 117, some 118, some 119, some 120, some 121, some 122] [] rfl rfl rfl ?_
          simp -implicitDefEqProofs (maxSteps := 2000000) (disch := first | omega | (simp only [go_sem, List.length_append, List.length_drop, List.length_take] <;> omega) | decide) only [go_sem, ↓reduceIte, Nat.reduceEqDiff, reduceCtorEq, Nat.reduceLT, Nat.reduceBEq, Nat.reduceAdd, Nat.reduceSub, Nat.reduceMul, Nat.reduceMod, b0, c1, c2, c3, c4, c5, d1]
          refine hK21 _ ?_
          clear hK21 K21
          refine Tr.kp [7, 9, 11, 122] ?_
          simp only [pk_cons, pk_nil, ↓A_cons, ↓reduceIte, Nat.reduceEqDiff]
          refine Tr.condG fun KT KF hT hF => ?_
          simp only [ev_tmp, ev_const, ↓A_cons, ↓reduceIte, Nat.reduceEqDiff, reduceCtorEq, condG_bool, GB_true, GB_false, decide_eq_true_eq]
          refine hT ?_
          clear hT hF KT KF
          refine Tr.seqK fun K36 hK36 => ?_
          refine Tr.rg hcx [] _ [] rfl rfl rfl ?_
          simp -implicitDefEqProofs (maxSteps := 2000000) (disch := first | omega | (simp only [go_sem, List.length_append, List.length_drop, List.length_take] <;> omega) | decide) only [go_sem, ↓reduceIte, Nat.reduceEqDiff, reduceCtorEq, Nat.reduceLT, Nat.reduceBEq, Nat.reduceAdd, Nat.reduceSub, Nat.reduceMul, Nat.reduceMod, b0, c1, c2, c3, c4, c5, d1]
          refine hK36 _ ?_
          clear hK36 K36
          refine Tr.kp [8] ?_
          simp only [pk_cons, pk_nil, ↓A_cons, ↓reduceIte, Nat.reduceEqDiff]
          refine Tr.ret ?_
          simp -implicitDefEqProofs (disch := first | omega | (simp only [go_sem, List.length_append, List.length_drop, List.length_take] <;> omega) | decide) only [go_sem, ↓reduceIte, Nat.reduceEqDiff, reduceCtorEq]
          all_goals (first | (rw [chk_e b0]; try rfl) | (rw [chk_17 b0 (fun h => by first | exact c1o h.1 | exact c2o h.2.1.1 | exact c3o h.2.1.2.1 | exact c4o h.2.1.2.2.2.2.1 | exact c5o h.2.1.2.2.2.2.2)]; try rfl) | (rw [chk_17 b0 (fun h => by have := h.2.1.2.2.1 k (by omega); omega)]; try rfl) | (rw [chk_17 b0 (fun h => by first | exact d1o h.2.2.1 | exact d2o h.2.2.2)]; try rfl) | (rw [chk_17 b0 (fun h => low_no hj1 e1o hfm hcb (h.2.1.2.2.2.1 i (by omega)))]; try rfl) | (rw [chk_0 b0 c1o ⟨c2o, c3o, hA, hB, c4o, c5o⟩ d1o d2o]; try rfl))
      ·
       have c5o := c5
       replace c5 := eq_false c5
       refine Tr.rg hcx [] [some 39, some 40, some 41, some 42, some 43, some 44, some 45, some 46, some 47, some 48, some 49, some 50, some 51, some 52, some 53, some 54, some 55, some 56, some 57, some 58, some 59, some 60, some 61, some 62, some 63, some 64, some 65, some 66, some 67, some 68, some 69, some 70, some 71, some 72] [] rfl rfl rfl ?_
       simp -implicitDefEqProofs (maxSteps := 2000000) (disch := first | omega | (simp only [go_sem, List.length_append, List.length_drop, List.length_take] <;> omega) | decide) only [go_sem, ↓reduceIte, Nat.reduceEqDiff, reduceCtorEq, Nat.reduceLT, Nat.reduceBEq, Nat.reduceAdd, Nat.reduceSub, Nat.reduceMul, Nat.reduceMod, b0, c1, c2, c3, c4, c5]
       refine hK8 _ ?_
       clear hK8 K8
       refine Tr.kp [7, 9, 11, 12, 13, 72] ?_
       simp only [pk_cons, pk_nil, ↓A_cons, ↓reduceIte, Nat.reduceEqDiff]
       refine Tr.condG fun KT KF hT hF => ?_
       simp only [ev_tmp, ev_const, ↓A_cons, ↓reduceIte, Nat.reduceEqDiff, reduceCtorEq, condG_bool, GB_true, GB_false, decide_eq_true_eq]
       refine hT ?_
       clear hT hF KT KF
       refine Tr.seqK fun K37 hK37 => ?_
       refine Tr.rg hcx [] _ [] rfl rfl rfl ?_
       simp -implicitDefEqProofs (maxSteps := 2000000) (disch := first | omega | (simp only [go_sem, List.length_append, List.length_drop, List.length_take] <;> omega) | decide) only [go_sem, ↓reduceIte, Nat.reduceEqDiff, reduceCtorEq, Nat.reduceLT, Nat.reduceBEq, Nat.reduceAdd, Nat.reduceSub, Nat.reduceMul, Nat.reduceMod, b0, c1, c2, c3, c4, c5]
       refine hK37 _ ?_
       clear hK37 K37
       refine Tr.kp [8] ?_
       simp only [pk_cons, pk_nil, ↓A_cons, ↓reduceIte, Nat.reduceEqDiff]
       refine Tr.ret ?_
       simp -implicitDefEqProofs (disch := first | omega | (simp only [go_sem, List.length_append, List.length_drop, List.length_take] <;> omega) | decide) only [go_sem, ↓reduceIte, Nat.reduceEqDiff, reduceCtorEq]
       all_goals (first | (rw [chk_e b0]; try rfl) | (rw [chk_17 b0 (fun h => by first | exact c1o h.1 | exact c2o h.2.1.1 | exact c3o h.2.1.2.1 | exact c4o h.2.1.2.2.2.2.1 | exact c5o h.2.1.2.2.2.2.2)]; try rfl) | (rw [chk_17 b0 (fun h => by have := h.2.1.2.2.1 k (by omega); omega)]; try rfl) | (rw [chk_17 b0 (fun h => by first | exact d1o h.2.2.1 | exact d2o h.2.2.2)]; try rfl) | (rw [chk_17 b0 (fun h => low_no hj1 e1o hfm hcb (h.2.1.2.2.2.1 i (by omega)))]; try rfl) | (rw [chk_0 b0 c1o ⟨c2o, c3o, hA, hB, c4o, c5o⟩ d1o d2o]; try rfl))
     ·
      have c4o := c4
      replace c4 := eq_false c4
      refine Tr.rg hcx [] [some 39, some 40, some 41, some 42, some 43, some 44, some 45, some 46, some 47, some 48, some 49, some 50, some 51, some 52, some 53, some 54, some 55, some 56, some 57, some 58, some 59, some 60, some 61, some 62, some 63, some 64, some 65, some 66, some 67, some 68, some 69, some 70, some 71, some 72] [] rfl rfl rfl ?_
      simp -implicitDefEqProofs (maxSteps := 2000000) (disch := first | omega | (simp only [go_sem, List.length_append, List.length_drop, List.length_take] <;> omega) | decide) only [go_sem, ↓reduceIte, Nat.reduceEqDiff, reduceCtorEq, Nat.reduceLT, Nat.reduceBEq, Nat.reduceAdd, Nat.reduceSub, Nat.reduceMul, Nat.reduceMod, b0, c1, c2, c3, c4]
      refine hK8 _ ?_
      clear hK8 K8
      refine Tr.kp [7, 9, 11, 12, 13, 72] ?_
      simp only [pk_cons, pk_nil, ↓A_cons, ↓reduceIte, Nat.reduceEqDiff]
      refine Tr.condG fun KT KF hT hF => ?_
      simp only [ev_tmp, ev_const, ↓A_cons, ↓reduceIte, Nat.reduceEqDiff, reduceCtorEq, condG_bool, GB_true, GB_false, decide_eq_true_eq]
      refine hT ?_
      clear hT hF KT KF
      refine Tr.seqK fun K38 hK38 => ?_
      refine Tr.rg hcx [] _ [] rfl rfl rfl ?_
      simp -implicitDefEqProofs (maxSteps := 2000000) (disch := first | omega | (simp only [go_sem, List.length_append, List.length_drop, List.length_take] <;> omega) | decide) only [go_sem, ↓reduceIte, Nat.reduceEqDiff, reduceCtorEq, Nat.reduceLT, Nat.reduceBEq, Nat.reduceAdd, Nat.reduceSub, Nat.reduceMul, Nat.reduceMod, b0, c1, c2, c3, c4]
      refine hK38 _ ?_
      clear hK38 K38
      refine Tr.kp [8] ?_
      simp only [pk_cons, pk_nil, ↓A_cons, ↓reduceIte, Nat.reduceEqDiff]
      refine Tr.ret ?_
      simp -implicitDefEqProofs (disch := first | omega | (simp only [go_sem, List.length_append, List.length_drop, List.length_take] <;> omega) | decide) only [go_sem, ↓reduceIte, Nat.reduceEqDiff, reduceCtorEq]
      all_goals (first | (rw [chk_e b0]; try rfl) | (rw [chk_17 b0 (fun h => by first | exact c1o h.1 | exact c2o h.2.1.1 | exact c3o h.2.1.2.1 | exact c4o h.2.1.2.2.2.2.1 | exact c5o h.2.1.2.2.2.2.2)]; try rfl) | (rw [chk_17 b0 (fun h => by have := h.2.1.2.2.1 k (by omega); omega)]; try rfl) | (rw [chk_17 b0 (fun h => by first | exact d1o h.2.2.1 | exact d2o h.2.2.2)]; try rfl) | (rw [chk_17 b0 (fun h => low_no hj1 e1o hfm hcb (h.2.1.2.2.2.1 i (by omega)))]; try rfl) | (rw [chk_0 b0 c1o ⟨c2o, c3o, hA, hB, c4o, c5o⟩ d1o d2o]; try rfl))
    ·
     have c3o := c3
     replace c3 := eq_false c3
     refine Tr.rg hcx [] [some 39, some 40, some 41, some 42, some 43, some 44, some 45, some 46, some 47, some 48, some 49, some 50, some 51, some 52, some 53, some 54, some 55, some 56, some 57, some 58, some 59, some 60, some 61, some 62, some 63, some 64, some 65, some 66, some 67, some 68, some 69, some 70, some 71, some 72] [] rfl rfl rfl ?_
     simp -implicitDefEqProofs (maxSteps := 2000000) (disch := first | omega | (simp only [go_sem, List.length_append, List.length_drop, List.length_take] <;> omega) | decide) only [go_sem, ↓reduceIte, Nat.reduceEqDiff, reduceCtorEq, Nat.reduceLT, Nat.reduceBEq, Nat.reduceAdd, Nat.reduceSub, Nat.reduceMul, Nat.reduceMod, b0, c1, c2, c3]
     refine hK8 _ ?_
     clear hK8 K8
     refine Tr.kp [7, 9, 11, 12, 13, 72] ?_
     simp only [pk_cons, pk_nil, ↓A_cons, ↓reduceIte, Nat.reduceEqDiff]
     refine Tr.condG fun KT KF hT hF => ?_
     simp only [ev_tmp, ev_const, ↓A_cons, ↓reduceIte, Nat.reduceEqDiff, reduceCtorEq, condG_bool, GB_true, GB_false, decide_eq_true_eq]
     refine hT ?_
     clear hT hF KT KF
     refine Tr.seqK fun K39 hK39 => ?_
     refine Tr.rg hcx [] _ [] rfl rfl rfl ?_
     simp -implicitDefEqProofs (maxSteps := 2000000) (disch := first | omega | (simp only [go_sem, List.length_append, List.length_drop, List.length_take] <;> omega) | decide) only [go_sem, ↓reduceIte, Nat.reduceEqDiff, reduceCtorEq, Nat.reduceLT, Nat.reduceBEq, Nat.reduceAdd, Nat.reduceSub, Nat.reduceMul, Nat.reduceMod, b0, c1, c2, c3]
     refine hK39 _ ?_
     clear hK39 K39
     refine Tr.kp [8] ?_
     simp only [pk_cons, pk_nil, ↓A_cons, ↓reduceIte, Nat.reduceEqDiff]
     refine Tr.ret ?_
     simp -implicitDefEqProofs (disch := first | omega | (simp only [go_sem, List.length_append, List.length_drop, List.length_take] <;> omega) | decide) only [go_sem, ↓reduceIte, Nat.reduceEqDiff, reduceCtorEq]
     all_goals (first | (rw [chk_e b0]; try rfl) | (rw [chk_17 b0 (fun h => by first | exact c1o h.1 | exact c2o h.2.1.1 | exact c3o h.2.1.2.1 | exact c4o h.2.1.2.2.2.2.1 | exact c5o h.2.1.2.2.2.2.2)]; try rfl) | (rw [chk_17 b0 (fun h => by have := h.2.1.2.2.1 k (by omega); omega)]; try rfl) | (rw [chk_17 b0 (fun h => by first | exact d1o h.2.2.1 | exact d2o h.2.2.2)]; try rfl) | (rw [chk_17 b0 (fun h => low_no hj1 e1o hfm hcb (h.2.1.2.2.2.1 i (by omega)))]; try rfl) | (rw [chk_0 b0 c1o ⟨c2o, c3o, hA, hB, c4o, c5o⟩ d1o d2o]; try rfl))
   ·
    have c2o := c2
    replace c2 := eq_false c2
    refine Tr.rg hcx [] [some 39, some 40, some 41, some 42, some 43, some 44, some 45, some 46, some 47, some 48, some 49, some 50, some 51, some 52, some 53, some 54, some 55, some 56, some 57, some 58, some 59, some 60, some 61, some 62, some 63, some 64, some 65, some 66, some 67, some 68, some 69, some 70, some 71, some 72] [] rfl rfl rfl ?_
    simp -implicitDefEqProofs (maxSteps := 2000000) (disch := first | omega | (simp only [go_sem, List.length_append, List.length_drop, List.length_take] <;> omega) | decide) only [go_sem, ↓reduceIte, Nat.reduceEqDiff, reduceCtorEq, Nat.reduceLT, Nat.reduceBEq, Nat.reduceAdd, Nat.reduceSub, Nat.reduceMul, Nat.reduceMod, b0, c1, c2]
    refine hK8 _ ?_
    clear hK8 K8
    refine Tr.kp [7, 9, 11, 12, 13, 72] ?_
    simp only [pk_cons, pk_nil, ↓A_cons, ↓reduceIte, Nat.reduceEqDiff]
    refine Tr.condG fun KT KF hT hF => ?_
    simp only [ev_tmp, ev_const, ↓A_cons, ↓reduceIte, Nat.reduceEqDiff, reduceCtorEq, condG_bool, GB_true, GB_false, decide_eq_true_eq]
    refine hT ?_
    clear hT hF KT KF
    refine Tr.seqK fun K40 hK40 => ?_
    refine Tr.rg hcx [] _ [] rfl rfl rfl ?_
    simp -implicitDefEqProofs (maxSteps := 2000000) (disch := first | omega | (simp only [go_sem, List.length_append, List.length_drop, List.length_take] <;> omega) | decide) only [go_sem, ↓reduceIte, Nat.reduceEqDiff, reduceCtorEq, Nat.reduceLT, Nat.reduceBEq, Nat.reduceAdd, Nat.reduceSub, Nat.reduceMul, Nat.reduceMod, b0, c1, c2]
    refine hK40 _ ?_
    clear hK40 K40
    refine Tr.kp [8] ?_
    simp only [pk_cons, pk_nil, ↓A_cons, ↓reduceIte, Nat.reduceEqDiff]
    refine Tr.ret ?_
    simp -implicitDefEqProofs (disch := first | omega | (simp only [go_sem, List.length_append, List.length_drop, List.length_take] <;> omega) | decide) only [go_sem, ↓reduceIte, Nat.reduceEqDiff, reduceCtorEq]
    all_goals (first | (rw [chk_e b0]; try rfl) | (rw [chk_17 b0 (fun h => by first | exact c1o h.1 | exact c2o h.2.1.1 | exact c3o h.2.1.2.1 | exact c4o h.2.1.2.2.2.2.1 | exact c5o h.2.1.2.2.2.2.2)]; try rfl) | (rw [chk_17 b0 (fun h => by have := h.2.1.2.2.1 k (by omega); omega)]; try rfl) | (rw [chk_17 b0 (fun h => by first | exact d1o h.2.2.1 | exact d2o h.2.2.2)]; try rfl) | (rw [chk_17 b0 (fun h => low_no hj1 e1o hfm hcb (h.2.1.2.2.2.1 i (by omega)))]; try rfl) | (rw [chk_0 b0 c1o ⟨c2o, c3o, hA, hB, c4o, c5o⟩ d1o d2o]; try rfl))
  ·
   have c1o := c1
   replace c1 := eq_false c1
   refine Tr.rg hcx [] [some 39, some 40, some 41, some 42, some 43, some 44, some 45, some 46, some 47, some 48, some 49, some 50, some 51, some 52, some 53, some 54, some 55, some 56, some 57, some 58, some 59, some 60, some 61, some 62, some 63, some 64, some 65, some 66, some 67, some 68, some 69, some 70, some 71, some 72] [] rfl rfl rfl ?_
   simp -implicitDefEqProofs (maxSteps := 2000000) (disch := first | omega | (simp only [go_sem, List.length_append, List.length_drop, List.length_take] <;> omega) | decide) only [go_sem, ↓reduceIte, Nat.reduceEqDiff, reduceCtorEq, Nat.reduceLT, Nat.reduceBEq, Nat.reduceAdd, Nat.reduceSub, Nat.reduceMul, Nat.reduceMod, b0, c1]
   refine hK8 _ ?_
   clear hK8 K8
   refine Tr.kp [7, 9, 11, 12, 13, 72] ?_
   simp only [pk_cons, pk_nil, ↓A_cons, ↓reduceIte, Nat.reduceEqDiff]
   refine Tr.condG fun KT KF hT hF => ?_
   simp only [ev_tmp, ev_const, ↓A_cons, ↓reduceIte, Nat.reduceEqDiff, reduceCtorEq, condG_bool, GB_true, GB_false, decide_eq_true_eq]
   refine hT ?_
   clear hT hF KT KF
   refine Tr.seqK fun K41 hK41 => ?_
   refine Tr.rg hcx [] _ [] rfl rfl rfl ?_
   simp -implicitDefEqProofs (maxSteps := 2000000) (disch := first | omega | (simp only [go_sem, List.length_append, List.length_drop, List.length_take] <;> omega) | decide) only [go_sem, ↓reduceIte, Nat.reduceEqDiff, reduceCtorEq, Nat.reduceLT, Nat.reduceBEq, Nat.reduceAdd, Nat.reduceSub, Nat.reduceMul, Nat.reduceMod, b0, c1]
   refine hK41 _ ?_
   clear hK41 K41
   refine Tr.kp [8] ?_
   simp only [pk_cons, pk_nil, ↓A_cons, ↓reduceIte, Nat.reduceEqDiff]
   refine Tr.ret ?_
   simp -implicitDefEqProofs (disch := first | omega | (simp only [go_sem, List.length_append, List.length_drop, List.length_take] <;> omega) | decide) only [go_sem, ↓reduceIte, Nat.reduceEqDiff, reduceCtorEq]
   all_goals (first | (rw [chk_e b0]; try rfl) | (rw [chk_17 b0 (fun h => by first | exact c1o h.1 | exact c2o h.2.1.1 | exact c3o h.2.1.2.1 | exact c4o h.2.1.2.2.2.2.1 | exact c5o h.2.1.2.2.2.2.2)]; try rfl) | (rw [chk_17 b0 (fun h => by have := h.2.1.2.2.1 k (by omega); omega)]; try rfl) | (rw [chk_17 b0 (fun h => by first | exact d1o h.2.2.1 | exact d2o h.2.2.2)]; try rfl) | (rw [chk_17 b0 (fun h => low_no hj1 e1o hfm hcb (h.2.1.2.2.2.1 i (by omega)))]; try rfl) | (rw [chk_0 b0 c1o ⟨c2o, c3o, hA, hB, c4o, c5o⟩ d1o d2o]; try rfl))
 ·
  have h37' := h37e l b w hl hb hw b0
  refine Tr.rg hcx [1000023] _ [none] rfl rfl rfl ?_
  simp -implicitDefEqProofs (maxSteps := 2000000) (disch := first | omega | (simp only [go_sem, List.length_append, List.length_drop, List.length_take] <;> omega) | decide) only [go_sem, ↓reduceIte, Nat.reduceEqDiff, reduceCtorEq, Nat.reduceLT, Nat.reduceBEq, Nat.reduceAdd, Nat.reduceSub, Nat.reduceMul, Nat.reduceMod, b0, h37']
  refine hK2 _ ?_
  clear hK2 K2
  refine Tr.kp [0, 1, 2, 7, 9, 10] ?_
  simp only [pk_cons, pk_nil, ↓A_cons, ↓reduceIte, Nat.reduceEqDiff]
  refine Tr.seqK fun K42 hK42 => ?_
  refine Tr.seqK fun K43 hK43 => ?_
  refine Tr.rg hcx [] _ [] rfl rfl rfl ?_
  simp -implicitDefEqProofs (maxSteps := 2000000) (disch := first | omega | (simp only [go_sem, List.length_append, List.length_drop, List.length_take] <;> omega) | decide) only [go_sem, ↓reduceIte, Nat.reduceEqDiff, reduceCtorEq, Nat.reduceLT, Nat.reduceBEq, Nat.reduceAdd, Nat.reduceSub, Nat.reduceMul, Nat.reduceMod, b0]
  refine hK43 _ ?_
  clear hK43 K43
  refine Tr.kp [0, 1, 2, 7, 9, 10, 25] ?_
  simp only [pk_cons, pk_nil, ↓A_cons, ↓reduceIte, Nat.reduceEqDiff]
  refine Tr.condG fun KT KF hT hF => ?_
  simp only [ev_tmp, ev_const, ↓A_cons, ↓reduceIte, Nat.reduceEqDiff, reduceCtorEq, condG_bool, GB_true, GB_false, decide_eq_true_eq]
  refine hT ?_
  clear hT hF KT KF
  refine Tr.seqK fun K44 hK44 => ?_
  refine Tr.rg hcx [1000026] _ [] rfl rfl rfl ?_
  simp -implicitDefEqProofs (maxSteps := 2000000) (disch := first | omega | (simp only [go_sem, List.length_append, List.length_drop, List.length_take] <;> omega) | decide) only [go_sem, ↓reduceIte, Nat.reduceEqDiff, reduceCtorEq, Nat.reduceLT, Nat.reduceBEq, Nat.reduceAdd, Nat.reduceSub, Nat.reduceMul, Nat.reduceMod, b0]
  refine hK44 _ ?_
  clear hK44 K44
  refine Tr.kp [8] ?_
  simp only [pk_cons, pk_nil, ↓A_cons, ↓reduceIte, Nat.reduceEqDiff]
  refine Tr.ret ?_
  simp -implicitDefEqProofs (disch := first | omega | (simp only [go_sem, List.length_append, List.length_drop, List.length_take] <;> omega) | decide) only [go_sem, ↓reduceIte, Nat.reduceEqDiff, reduceCtorEq]
  all_goals (first | (rw [chk_e b0]; try rfl) | (rw [chk_17 b0 (fun h => by first | exact c1o h.1 | exact c2o h.2.1.1 | exact c3o h.2.1.2.1 | exact c4o h.2.1.2.2.2.2.1 | exact c5o h.2.1.2.2.2.2.2)]; try rfl) | (rw [chk_17 b0 (fun h => by have := h.2.1.2.2.1 k (by omega); omega)]; try rfl) | (rw [chk_17 b0 (fun h => by first | exact d1o h.2.2.1 | exact d2o h.2.2.2)]; try rfl) | (rw [chk_17 b0 (fun h => low_no hj1 e1o hfm hcb (h.2.1.2.2.2.1 i (by omega)))]; try rfl) | (rw [chk_0 b0 c1o ⟨c2o, c3o, hA, hB, c4o, c5o⟩ d1o d2o]; try rfl))
end Go.Sx
namespace Go.Sx
open Go.RowKit Go.Proofs
end Go.Sx
