/-
  Package breaks: Greedy. And what follows.
-/
import Derived.Test.YtljjjkmiegeocaaPal
import Derived.Test.YtljjjkmiegeocaaPai
set_option linter.unusedSimpArgs false
set_option linter.unusedVariables false
namespace Go.Sx
open Go.RowKit Go.Proofs
theorem Tr.nil2 {cx : Cx} {n : Nat} {c : Code} {h : Hp} {Q : Ex → St → Prop} {α : Type} (f : α → List C) (r : Rt) {k1 k2 : Nat} {a : C} (h12 : k2 ≠ k1) (H : Tr cx n c ⟨A [(k1, sl f r []), (k2, a)], h⟩ Q) : Tr cx n c ⟨A [(k1, .val (.slice none 0 0)), (k2, a)], h⟩ Q := by
  refine Tr.live (st := ⟨A [(k1, .val (.slice none 0 0)), (k2, a)], h⟩) [(k1, sl f r []), (k2, a)] ?_ H
  simp only [Le_cons, Le_nil, and_true]
  refine ⟨?_, ?_⟩
  · have : A [(k1, .val (.slice none 0 0)), (k2, a)] k1 = .val (.slice none 0 0) := by simp [A_cons]
    rw [this]; exact CLe_sln rfl
  · have : A [(k1, .val (.slice none 0 0)), (k2, a)] k2 = a := by simp [A_cons, h12]
    rw [this]; exact CLe.refl _
theorem CLe_ono {α : Type} (f : α → List C) (s : Nat) (l : List α) : CLe (sl f (.own s) l) (sl f .no l) := of_eq_true (CLe_own f s l)
theorem freR_1 {l : List Int} {b w : Int} (k : Nat) : freR l b w (k : Int) ((k : Int) + 1) = w - gt l k := by
  rw [freR_0 l b w k (by omega)]; rfl
theorem wide_at {l : List Int} {b w : Int} (hE : errE l b w = 0) {k : Nat} (hk : k < l.length) (h : w - gt l k < 0) : greT l b w = ([], 21) := by
  unfold greT; rw [if_neg (by simp [hE]), if_pos (wideW_T hk (by omega))]
theorem gre_e {l : List Int} {b w : Int} (hE : ¬ errE l b w = 0) : greT l b w = ([], errE l b w) := if_pos hE
theorem gre_w {l : List Int} {b w : Int} (hE : errE l b w = 0) (hw : wideW l w = true) : greT l b w = ([], 21) := by
  unfold greT; rw [if_neg (by simp [hE]), if_pos hw]
theorem gre_0 {l : List Int} {b w : Int} (hE : errE l b w = 0) (hw : ∀ i, i < l.length → gt l i ≤ w) : greT l b w = (greL l b w, 0) := by
  unfold greT; rw [if_neg (by simp [hE]), if_neg (by rw [wideW_F hw]; simp)]
theorem greL_0 {l : List Int} {b w : Int} (h : l.length = 0) : greL l b w = [] := if_pos h
theorem greL_n {l : List Int} {b w : Int} (h : ¬ l.length = 0) : greL l b w = (greR l b w l.length).2 ++ [(l.length : Int)] := if_neg h
set_option maxRecDepth 100000 in
set_option maxHeartbeats 8000000 in
theorem fc13 {gl : Nat → C} {M : Nat} {pu : Nat → List C → Option C}  (hcx : CxOK (cxP gl M pu)) (h37 : ∀ (l : List Int) (b w : Int), LI l → (-9223372036854775808 ≤ b ∧ b ≤ 9223372036854775807) → (-9223372036854775808 ≤ w ∧ w ≤ 9223372036854775807) → Fine l b w → pu 37 [sl iC .no l, .val (.int .i64 b), .val (.int .i64 w)] = some (.tup [.agg [sl iC .no (sumsL l b l.length), .val (.int .i64 b), .val (.int .i64 w)], .val (nI 0)])) (h37e : ∀ (l : List Int) (b w : Int), LI l → (-9223372036854775808 ≤ b ∧ b ≤ 9223372036854775807) → (-9223372036854775808 ≤ w ∧ w ≤ 9223372036854775807) → errE l b w ≠ 0 → pu 37 [sl iC .no l, .val (.int .i64 b), .val (.int .i64 w)] = some (.tup [.agg [.val (.slice none 0 0), .val (nI 0), .val (nI 0)], .val (nI (errE l b w))])) (h38 : ∀ (S : List Int) (b w : Int), Col S b w → pu 38 [.agg [sl iC .no S, .val (.int .i64 b), .val (.int .i64 w)]] = some (.val (nI (S.length - 1)))) (h39 : ∀ (S : List Int) (b w i j : Int), Col S b w → 0 ≤ i ∧ i < S.length ∧ 0 ≤ j ∧ j < S.length → pu 39 [.agg [sl iC .no S, .val (.int .i64 b), .val (.int .i64 w)], .val (.int .i64 i), .val (.int .i64 j)] = some (.val (.int .i64 (freS S b w i j)))) (l : List Int) (b w : Int) (hl : LI l) (hb : -9223372036854775808 ≤ b ∧ b ≤ 9223372036854775807) (hw : -9223372036854775808 ≤ w ∧ w ≤ 9223372036854775807) : FC Try.prog gl 13 [sl iC .no l, .val (.int .i64 b), .val (.int .i64 w)] [] (.tup [sl iC .no (greT l b w).1, .val (nI (greT l b w).2)]) [] := by
 replace hcx := hcx.reN (M := 55)
 refine FC.ofA (cx := cxP gl 55 pu) (rs := [.tmp 6, .tmp 7]) rfl Try.func13 rfl rfl rfl (by simp only [List.length_cons, List.length_nil]; decide) (by simp only [go_sem]) ?_
 simp only [ini, go_sem]
 have hl1 := hl.1
 have hb1 := True.intro
 refine Tr.seqK fun K1 hK1 => ?_
 refine Tr.rg hcx [] _ [] rfl rfl rfl ?_
 simp -implicitDefEqProofs (maxSteps := 2000000) (disch := first | omega | (simp only [go_sem, List.length_append, List.length_drop, List.length_take, hb1] <;> omega) | decide) only [go_sem, ↓reduceIte, Nat.reduceEqDiff, reduceCtorEq, Nat.reduceLT, Nat.reduceBEq, Nat.reduceAdd, Nat.reduceSub, Nat.reduceMul, Nat.reduceMod, List.nil_append]
 refine hK1 _ ?_
 clear hK1 K1
 refine Tr.kp [0, 1, 2] ?_
 simp only [pk_cons, pk_nil, ↓A_cons, ↓reduceIte, Nat.reduceEqDiff]
 refine Tr.seqK fun K2 hK2 => ?_
 by_cases b0 : errE l b w = 0
 ·
  have hF := errE_0.1 b0
  have h37' := h37 l b w hl hb hw hF
  have hF1 := hF.1
  have hcol := fine_col hF
  have hSl := sumsL_len l b l.length
  have h38' := h38 (sumsL l b l.length) b w hcol
  rw [show (sumsL l b l.length).length - 1 = l.length by omega] at h38'
  refine Tr.rg hcx [1000019] _ [none] rfl rfl rfl ?_
  simp -implicitDefEqProofs (maxSteps := 2000000) (disch := first | omega | (simp only [go_sem, List.length_append, List.length_drop, List.length_take, hb1] <;> omega) | decide) only [go_sem, ↓reduceIte, Nat.reduceEqDiff, reduceCtorEq, Nat.reduceLT, Nat.reduceBEq, Nat.reduceAdd, Nat.reduceSub, Nat.reduceMul, Nat.reduceMod, List.nil_append, b0, h37']
  refine hK2 _ ?_
  clear hK2 K2
  refine Tr.kp [8, 9] ?_
  simp only [pk_cons, pk_nil, ↓A_cons, ↓reduceIte, Nat.reduceEqDiff]
  refine Tr.seqK fun K3 hK3 => ?_
  refine Tr.seqK fun K4 hK4 => ?_
  refine Tr.rg hcx [] _ [] rfl rfl rfl ?_
  simp -implicitDefEqProofs (maxSteps := 2000000) (disch := first | omega | (simp only [go_sem, List.length_append, List.length_drop, List.length_take, hb1] <;> omega) | decide) only [go_sem, ↓reduceIte, Nat.reduceEqDiff, reduceCtorEq, Nat.reduceLT, Nat.reduceBEq, Nat.reduceAdd, Nat.reduceSub, Nat.reduceMul, Nat.reduceMod, List.nil_append, b0]
  refine hK4 _ ?_
  clear hK4 K4
  refine Tr.kp [8, 9, 21] ?_
  simp only [pk_cons, pk_nil, ↓A_cons, ↓reduceIte, Nat.reduceEqDiff]
  refine Tr.condG fun KT KF hT hF => ?_
  simp only [ev_tmp, ev_const, ↓A_cons, ↓reduceIte, Nat.reduceEqDiff, reduceCtorEq, condG_bool, GB_true, GB_false, decide_eq_true_eq]
  refine hF ?_
  clear hT hF KT KF
  refine Tr.skip ?_
  refine hK3 _ ?_
  clear hK3 K3
  refine Tr.kp [8] ?_
  simp only [pk_cons, pk_nil, ↓A_cons, ↓reduceIte, Nat.reduceEqDiff]
  refine Tr.seqK fun K5 hK5 => ?_
  refine Tr.rg hcx [] _ [] rfl rfl rfl ?_
  simp -implicitDefEqProofs (maxSteps := 2000000) (disch := first | omega | (simp only [go_sem, List.length_append, List.length_drop, List.length_take, hb1] <;> omega) | decide) only [go_sem, ↓reduceIte, Nat.reduceEqDiff, reduceCtorEq, Nat.reduceLT, Nat.reduceBEq, Nat.reduceAdd, Nat.reduceSub, Nat.reduceMul, Nat.reduceMod, List.nil_append, b0]
  refine hK5 _ ?_
  clear hK5 K5
  refine Tr.kp [8, 10] ?_
  simp only [pk_cons, pk_nil, ↓A_cons, ↓reduceIte, Nat.reduceEqDiff]
  refine Tr.seqK fun K6 hK6 => ?_
  refine Tr.rg hcx [] _ [] rfl rfl rfl ?_
  simp -implicitDefEqProofs (maxSteps := 2000000) (disch := first | omega | (simp only [go_sem, List.length_append, List.length_drop, List.length_take, hb1] <;> omega) | decide) only [go_sem, ↓reduceIte, Nat.reduceEqDiff, reduceCtorEq, Nat.reduceLT, Nat.reduceBEq, Nat.reduceAdd, Nat.reduceSub, Nat.reduceMul, Nat.reduceMod, List.nil_append, b0]
  refine hK6 _ ?_
  clear hK6 K6
  refine Tr.kp [8, 10, 11] ?_
  simp only [pk_cons, pk_nil, ↓A_cons, ↓reduceIte, Nat.reduceEqDiff]
  refine Tr.seqK fun K7 hK7 => ?_
  refine Tr.seqK fun K8 hK8 => ?_
  refine Tr.rg hcx [] _ [] rfl rfl rfl ?_
  simp -implicitDefEqProofs (maxSteps := 2000000) (disch := first | omega | (simp only [go_sem, List.length_append, List.length_drop, List.length_take, hb1] <;> omega) | decide) only [go_sem, ↓reduceIte, Nat.reduceEqDiff, reduceCtorEq, Nat.reduceLT, Nat.reduceBEq, Nat.reduceAdd, Nat.reduceSub, Nat.reduceMul, Nat.reduceMod, List.nil_append, b0, h38']
  refine hK8 _ ?_
  clear hK8 K8
  refine Tr.kp [8, 10, 11, 24, 25] ?_
  simp only [pk_cons, pk_nil, ↓A_cons, ↓reduceIte, Nat.reduceEqDiff]
  refine Tr.blk ?_
  refine Tr.loopI (α := Nat) (fun a => [(8, ?v8_20), (10, sl iC (.own 1) (greR l b w a).2), (11, .val (.int .i64 (greR l b w a).1)), (24, ?v24_20), (25, .val (nI a))]) (fun a => ?h_20) (fun a => a ≤ l.length ∧ ∀ j, j < a → gt l j ≤ w) (fun a => l.length - a) (0) ⟨Nat.zero_le _, fun j hj => absurd hj (Nat.not_lt_zero j)⟩ ?le_20 ?hh_20 ?bd_20
  case hh_20 => exact rfl
  case le_20 => (simp only [Le_nil, Le_cons, ↓A_cons, ↓reduceIte, Nat.reduceEqDiff, reduceCtorEq, CLe_refl, CLe_top, CLe_full, CLe_nil, CLe_own, and_true, true_and]; all_goals (repeat' first | exact CLe.refl _ | exact True.intro | (refine CLe_sln ?_; first | with_reducible rfl | (simp only [List.take_zero]; done) | (rfl; done)) | exact CLe_nI (by omega) | exact CLe_int (by omega) | exact CLe_inI (by omega) | exact CLe_nIi (by omega) | with_reducible apply And.intro)); all_goals first | exact CLe.refl _ | exact CLe_sln rfl
  case bd_20 =>
   rintro k ⟨hk, hA⟩
   have hgi := greR_in l b w k
   have hb1 := hgi.2.2.2
   refine Tr.seqK fun K9 hK9 => ?_
   refine Tr.rg hcx [] _ [] rfl rfl rfl ?_
   simp -implicitDefEqProofs (maxSteps := 2000000) (disch := first | omega | (simp only [go_sem, List.length_append, List.length_drop, List.length_take, hb1] <;> omega) | decide) only [go_sem, ↓reduceIte, Nat.reduceEqDiff, reduceCtorEq, Nat.reduceLT, Nat.reduceBEq, Nat.reduceAdd, Nat.reduceSub, Nat.reduceMul, Nat.reduceMod, List.nil_append, b0]
   refine hK9 _ ?_
   clear hK9 K9
   refine Tr.kp [8, 10, 11, 24, 25, 26] ?_
   simp only [pk_cons, pk_nil, ↓A_cons, ↓reduceIte, Nat.reduceEqDiff]
   refine Tr.seqK fun K10 hK10 => ?_
   refine Tr.condG fun KT KF hT hF => ?_
   simp only [ev_tmp, ev_const, ↓A_cons, ↓reduceIte, Nat.reduceEqDiff, reduceCtorEq, condG_bool, GB_true, GB_false, decide_eq_true_eq]
   refine GB.dec (fun hc26 => hT ?_) (fun hc26 => hF ?_)
   ·
    clear hT hF KT KF
    have hw1 := hF.2.2.2 k hc26
    have h39' := (h39 (sumsL l b l.length) b w (k : Int) ((k : Int) + 1) hcol ⟨by omega, by omega, by omega, by omega⟩).trans (congrArg (fun z => some (C.val (.int .i64 z))) ((freS_R (by omega) (by omega) (by omega)).trans (freR_1 k)))
    have h39n : pu 39 [.agg [sl iC .no (sumsL l b l.length), .val (.int .i64 b), .val (.int .i64 w)], .val (nI k), .val (nI (k + 1))] = some (.val (.int .i64 (w - gt l k))) := h39'
    have h39o := (h39 (sumsL l b l.length) b w (greR l b w k).1 ((k : Int) + 1) hcol ⟨by omega, by omega, by omega, by omega⟩).trans (congrArg (fun z => some (C.val (.int .i64 z))) (freS_R (by omega) (by omega) (by omega)))
    have h39m : pu 39 [.agg [sl iC .no (sumsL l b l.length), .val (.int .i64 b), .val (.int .i64 w)], .val (.int .i64 (greR l b w k).1), .val (nI (k + 1))] = some (.val (.int .i64 (freR l b w (greR l b w k).1 ((k : Int) + 1)))) := h39o
    have hfb := freR_b hF (i := (greR l b w k).1) (j := (k : Int) + 1) (by omega) (by omega)
    refine Tr.skip ?_
    refine hK10 _ ?_
    clear hK10 K10
    refine Tr.kp [8, 10, 11, 24, 25] ?_
    simp only [pk_cons, pk_nil, ↓A_cons, ↓reduceIte, Nat.reduceEqDiff]
    refine Tr.seqK fun K11 hK11 => ?_
    refine Tr.blk ?_
    refine Tr.seqK fun K12 hK12 => ?_
    refine Tr.rg hcx [1000027] _ [] rfl rfl rfl ?_
    simp -implicitDefEqProofs (maxSteps := 2000000) (disch := first | omega | (simp only [go_sem, List.length_append, List.length_drop, List.length_take, hb1] <;> omega) | decide) only [go_sem, ↓reduceIte, Nat.reduceEqDiff, reduceCtorEq, Nat.reduceLT, Nat.reduceBEq, Nat.reduceAdd, Nat.reduceSub, Nat.reduceMul, Nat.reduceMod, List.nil_append, b0]
    refine hK12 _ ?_
    clear hK12 K12
    refine Tr.kp [8, 10, 11, 12, 24, 25] ?_
    simp only [pk_cons, pk_nil, ↓A_cons, ↓reduceIte, Nat.reduceEqDiff]
    refine Tr.seqK fun K13 hK13 => ?_
    refine Tr.seqK fun K14 hK14 => ?_
    refine Tr.rg hcx [] _ [] rfl rfl rfl ?_
    simp -implicitDefEqProofs (maxSteps := 2000000) (disch := first | omega | (simp only [go_sem, List.length_append, List.length_drop, List.length_take, hb1] <;> omega) | decide) only [go_sem, ↓reduceIte, Nat.reduceEqDiff, reduceCtorEq, Nat.reduceLT, Nat.reduceBEq, Nat.reduceAdd, Nat.reduceSub, Nat.reduceMul, Nat.reduceMod, List.nil_append, b0, h39n]
    refine hK14 _ ?_
    clear hK14 K14
    refine Tr.kp [8, 10, 11, 12, 24, 25, 33] ?_
    simp only [pk_cons, pk_nil, ↓A_cons, ↓reduceIte, Nat.reduceEqDiff]
    refine Tr.condG fun KT KF hT hF => ?_
    simp only [ev_tmp, ev_const, ↓A_cons, ↓reduceIte, Nat.reduceEqDiff, reduceCtorEq, condG_bool, GB_true, GB_false, decide_eq_true_eq]
    refine GB.dec (fun hc33 => hT ?_) (fun hc33 => hF ?_)
    ·
     clear hT hF KT KF
     refine Tr.seqK fun K15 hK15 => ?_
     refine Tr.rg hcx [] _ [] rfl rfl rfl ?_
     simp -implicitDefEqProofs (maxSteps := 2000000) (disch := first | omega | (simp only [go_sem, List.length_append, List.length_drop, List.length_take, hb1] <;> omega) | decide) only [go_sem, ↓reduceIte, Nat.reduceEqDiff, reduceCtorEq, Nat.reduceLT, Nat.reduceBEq, Nat.reduceAdd, Nat.reduceSub, Nat.reduceMul, Nat.reduceMod, List.nil_append, b0]
     refine hK15 _ ?_
     clear hK15 K15
     refine Tr.kp [6, 7] ?_
     simp only [pk_cons, pk_nil, ↓A_cons, ↓reduceIte, Nat.reduceEqDiff]
     first | refine Tr.nil2 iC .no (by decide) ?_ | skip
     refine Tr.ret ?_
     simp -implicitDefEqProofs (disch := first | omega | (simp only [go_sem, List.length_append, List.length_drop, List.length_take, hb1] <;> omega) | decide) only [go_sem, ↓reduceIte, Nat.reduceEqDiff, reduceCtorEq]
     all_goals (first | (rw [gre_e b0]; try rfl) | (rw [wide_at b0 hc26 (by omega)]; try rfl) | (rw [gre_w b0 b3]; try rfl) | (rw [gre_0 b0 hA]; try rfl))
    ·
     clear hT hF KT KF
     refine Tr.skip ?_
     refine hK13 _ ?_
     clear hK13 K13
     refine Tr.kp [8, 10, 11, 12, 24, 25] ?_
     simp only [pk_cons, pk_nil, ↓A_cons, ↓reduceIte, Nat.reduceEqDiff]
     refine Tr.seqK fun K16 hK16 => ?_
     refine Tr.rg hcx [] _ [] rfl rfl rfl ?_
     simp -implicitDefEqProofs (maxSteps := 2000000) (disch := first | omega | (simp only [go_sem, List.length_append, List.length_drop, List.length_take, hb1] <;> omega) | decide) only [go_sem, ↓reduceIte, Nat.reduceEqDiff, reduceCtorEq, Nat.reduceLT, Nat.reduceBEq, Nat.reduceAdd, Nat.reduceSub, Nat.reduceMul, Nat.reduceMod, List.nil_append, b0, h39m]
     refine hK16 _ ?_
     clear hK16 K16
     refine Tr.kp [8, 10, 11, 12, 24, 25, 39] ?_
     simp only [pk_cons, pk_nil, ↓A_cons, ↓reduceIte, Nat.reduceEqDiff]
     refine Tr.condG fun KT KF hT hF => ?_
     simp only [ev_tmp, ev_const, ↓A_cons, ↓reduceIte, Nat.reduceEqDiff, reduceCtorEq, condG_bool, GB_true, GB_false, decide_eq_true_eq]
     refine GB.dec (fun hc39 => hT ?_) (fun hc39 => hF ?_)
     ·
      clear hT hF KT KF
      refine Tr.seqK fun K17 hK17 => ?_
      refine Tr.rg hcx [40, 1000043] _ [] rfl rfl rfl ?_
      simp -implicitDefEqProofs (maxSteps := 2000000) (disch := first | omega | (simp only [go_sem, List.length_append, List.length_drop, List.length_take, hb1] <;> omega) | decide) only [go_sem, ↓reduceIte, Nat.reduceEqDiff, reduceCtorEq, Nat.reduceLT, Nat.reduceBEq, Nat.reduceAdd, Nat.reduceSub, Nat.reduceMul, Nat.reduceMod, List.nil_append, b0]
      refine hK17 _ ?_
      clear hK17 K17
      refine Tr.kp [8, 10, 12, 24, 25] ?_
      simp only [pk_cons, pk_nil, ↓A_cons, ↓reduceIte, Nat.reduceEqDiff]
      refine Tr.rg hcx [1000044] _ [] rfl rfl rfl ?_
      simp -implicitDefEqProofs (maxSteps := 2000000) (disch := first | omega | (simp only [go_sem, List.length_append, List.length_drop, List.length_take, hb1] <;> omega) | decide) only [go_sem, ↓reduceIte, Nat.reduceEqDiff, reduceCtorEq, Nat.reduceLT, Nat.reduceBEq, Nat.reduceAdd, Nat.reduceSub, Nat.reduceMul, Nat.reduceMod, List.nil_append, b0]
      refine hK11 _ ?_
      clear hK11 K11
      refine Tr.kp [8, 10, 11, 24, 25] ?_
      simp only [pk_cons, pk_nil, ↓A_cons, ↓reduceIte, Nat.reduceEqDiff]
      refine Tr.rg hcx [] _ [] rfl rfl rfl ?_
      simp -implicitDefEqProofs (maxSteps := 2000000) (disch := first | omega | (simp only [go_sem, List.length_append, List.length_drop, List.length_take, hb1] <;> omega) | decide) only [go_sem, ↓reduceIte, Nat.reduceEqDiff, reduceCtorEq, Nat.reduceLT, Nat.reduceBEq, Nat.reduceAdd, Nat.reduceSub, Nat.reduceMul, Nat.reduceMod, List.nil_append, b0]
      refine ⟨k + 1, ⟨⟨by omega, fun j hj => (Nat.lt_or_eq_of_le (Nat.le_of_lt_succ hj)).elim (hA j) (fun q => q ▸ (by omega))⟩, by first | omega | (simp only []; omega)⟩, ?_, rfl⟩
      (simp only [Le_nil, Le_cons, ↓A_cons, ↓reduceIte, Nat.reduceEqDiff, reduceCtorEq, CLe_refl, CLe_top, CLe_full, CLe_nil, CLe_own, and_true, true_and]; all_goals (repeat' first | exact CLe.refl _ | exact True.intro | (refine CLe_sln ?_; first | with_reducible rfl | (simp only [List.take_zero]; done) | (rfl; done)) | exact CLe_nI (by omega) | exact CLe_int (by omega) | exact CLe_inI (by omega) | exact CLe_nIi (by omega) | with_reducible apply And.intro))
      all_goals first | (rw [greR_T (by omega)]; exact CLe.refl _) | (rw [greR_F (by omega)]; exact CLe.refl _)
     ·
      clear hT hF KT KF
      refine Tr.skip ?_
      refine hK11 _ ?_
      clear hK11 K11
      refine Tr.kp [8, 10, 11, 24, 25] ?_
      simp only [pk_cons, pk_nil, ↓A_cons, ↓reduceIte, Nat.reduceEqDiff]
      refine Tr.rg hcx [] _ [] rfl rfl rfl ?_
      simp -implicitDefEqProofs (maxSteps := 2000000) (disch := first | omega | (simp only [go_sem, List.length_append, List.length_drop, List.length_take, hb1] <;> omega) | decide) only [go_sem, ↓reduceIte, Nat.reduceEqDiff, reduceCtorEq, Nat.reduceLT, Nat.reduceBEq, Nat.reduceAdd, Nat.reduceSub, Nat.reduceMul, Nat.reduceMod, List.nil_append, b0]
      refine ⟨k + 1, ⟨⟨by omega, fun j hj => (Nat.lt_or_eq_of_le (Nat.le_of_lt_succ hj)).elim (hA j) (fun q => q ▸ (by omega))⟩, by first | omega | (simp only []; omega)⟩, ?_, rfl⟩
      (simp only [Le_nil, Le_cons, ↓A_cons, ↓reduceIte, Nat.reduceEqDiff, reduceCtorEq, CLe_refl, CLe_top, CLe_full, CLe_nil, CLe_own, and_true, true_and]; all_goals (repeat' first | exact CLe.refl _ | exact True.intro | (refine CLe_sln ?_; first | with_reducible rfl | (simp only [List.take_zero]; done) | (rfl; done)) | exact CLe_nI (by omega) | exact CLe_int (by omega) | exact CLe_inI (by omega) | exact CLe_nIi (by omega) | with_reducible apply And.intro))
      all_goals first | (rw [greR_T (by omega)]; exact CLe.refl _) | (rw [greR_F (by omega)]; exact CLe.refl _)
   ·
    clear hT hF KT KF
    obtain rfl : k = l.length := by omega
    refine Tr.exit ?_
    refine hK7 _ ?_
    clear hK10 K10 hK7 K7
    refine Tr.kp [8, 10] ?_
    simp only [pk_cons, pk_nil, ↓A_cons, ↓reduceIte, Nat.reduceEqDiff]
    refine Tr.seqJ (α := Unit) (fun a => [(10, sl iC .no (greL l b w))]) (fun a => [some [sl iC .no (sumsL l b l.length), .val (.int .i64 b), .val (.int .i64 w)]]) (fun a => True) ?ja_47 ?jb_47
    case ja_47 =>
     refine Tr.seqK fun K18 hK18 => ?_
     refine Tr.rg hcx [] _ [] rfl rfl rfl ?_
     simp -implicitDefEqProofs (maxSteps := 2000000) (disch := first | omega | (simp only [go_sem, List.length_append, List.length_drop, List.length_take, hb1] <;> omega) | decide) only [go_sem, ↓reduceIte, Nat.reduceEqDiff, reduceCtorEq, Nat.reduceLT, Nat.reduceBEq, Nat.reduceAdd, Nat.reduceSub, Nat.reduceMul, Nat.reduceMod, List.nil_append, b0, h38']
     refine hK18 _ ?_
     clear hK18 K18
     refine Tr.kp [8, 10, 48] ?_
     simp only [pk_cons, pk_nil, ↓A_cons, ↓reduceIte, Nat.reduceEqDiff]
     refine Tr.condG fun KT KF hT hF => ?_
     simp only [ev_tmp, ev_const, ↓A_cons, ↓reduceIte, Nat.reduceEqDiff, reduceCtorEq, condG_bool, GB_true, GB_false, decide_eq_true_eq]
     refine GB.dec (fun hc48 => hT ?_) (fun hc48 => hF ?_)
     ·
      clear hT hF KT KF
      refine Tr.rg hcx [49, 1000053] _ [] rfl rfl rfl ?_
      simp -implicitDefEqProofs (maxSteps := 2000000) (disch := first | omega | (simp only [go_sem, List.length_append, List.length_drop, List.length_take, hb1] <;> omega) | decide) only [go_sem, ↓reduceIte, Nat.reduceEqDiff, reduceCtorEq, Nat.reduceLT, Nat.reduceBEq, Nat.reduceAdd, Nat.reduceSub, Nat.reduceMul, Nat.reduceMod, List.nil_append, b0, h38']
      refine ⟨(), trivial, ?_, rfl⟩
      (simp only [Le_nil, Le_cons, ↓A_cons, ↓reduceIte, Nat.reduceEqDiff, reduceCtorEq, CLe_refl, CLe_top, CLe_full, CLe_nil, CLe_own, and_true, true_and]; all_goals (repeat' first | exact CLe.refl _ | exact True.intro | (refine CLe_sln ?_; first | with_reducible rfl | (simp only [List.take_zero]; done) | (rfl; done)) | exact CLe_nI (by omega) | exact CLe_int (by omega) | exact CLe_inI (by omega) | exact CLe_nIi (by omega) | with_reducible apply And.intro))
      all_goals first | (rw [greL_n (by omega)]; exact CLe_ono _ _ _) | ((have h0 : l.length = 0 := (by omega)); rw [greL_0 h0]; simp only [h0]; exact CLe_ono _ _ _)
     ·
      clear hT hF KT KF
      refine Tr.skip ?_
      refine ⟨(), trivial, ?_, rfl⟩
      (simp only [Le_nil, Le_cons, ↓A_cons, ↓reduceIte, Nat.reduceEqDiff, reduceCtorEq, CLe_refl, CLe_top, CLe_full, CLe_nil, CLe_own, and_true, true_and]; all_goals (repeat' first | exact CLe.refl _ | exact True.intro | (refine CLe_sln ?_; first | with_reducible rfl | (simp only [List.take_zero]; done) | (rfl; done)) | exact CLe_nI (by omega) | exact CLe_int (by omega) | exact CLe_inI (by omega) | exact CLe_nIi (by omega) | with_reducible apply And.intro))
      all_goals first | (rw [greL_n (by omega)]; exact CLe_ono _ _ _) | ((have h0 : l.length = 0 := (by omega)); rw [greL_0 h0]; simp only [h0]; exact CLe_ono _ _ _)
    case jb_47 =>
     rintro a ha
     refine Tr.seqK fun K19 hK19 => ?_
     refine Tr.rg hcx [1000054] _ [] rfl rfl rfl ?_
     simp -implicitDefEqProofs (maxSteps := 2000000) (disch := first | omega | (simp only [go_sem, List.length_append, List.length_drop, List.length_take, hb1] <;> omega) | decide) only [go_sem, ↓reduceIte, Nat.reduceEqDiff, reduceCtorEq, Nat.reduceLT, Nat.reduceBEq, Nat.reduceAdd, Nat.reduceSub, Nat.reduceMul, Nat.reduceMod, List.nil_append, b0]
     refine hK19 _ ?_
     clear hK19 K19
     refine Tr.kp [6, 7] ?_
     simp only [pk_cons, pk_nil, ↓A_cons, ↓reduceIte, Nat.reduceEqDiff]
     first | refine Tr.nil2 iC .no (by decide) ?_ | skip
     refine Tr.ret ?_
     simp -implicitDefEqProofs (disch := first | omega | (simp only [go_sem, List.length_append, List.length_drop, List.length_take, hb1] <;> omega) | decide) only [go_sem, ↓reduceIte, Nat.reduceEqDiff, reduceCtorEq]
     all_goals (first | (rw [gre_e b0]; try rfl) | (rw [wide_at b0 hc26 (by omega)]; try rfl) | (rw [gre_w b0 b3]; try rfl) | (rw [gre_0 b0 hA]; try rfl))
 ·
  have h37' := h37e l b w hl hb hw b0
  refine Tr.rg hcx [1000019] _ [none] rfl rfl rfl ?_
  simp -implicitDefEqProofs (maxSteps := 2000000) (disch := first | omega | (simp only [go_sem, List.length_append, List.length_drop, List.length_take, hb1] <;> omega) | decide) only [go_sem, ↓reduceIte, Nat.reduceEqDiff, reduceCtorEq, Nat.reduceLT, Nat.reduceBEq, Nat.reduceAdd, Nat.reduceSub, Nat.reduceMul, Nat.reduceMod, List.nil_append, b0, h37']
  refine hK2 _ ?_
  clear hK2 K2
  refine Tr.kp [8, 9] ?_
  simp only [pk_cons, pk_nil, ↓A_cons, ↓reduceIte, Nat.reduceEqDiff]
  refine Tr.seqK fun K20 hK20 => ?_
  refine Tr.seqK fun K21 hK21 => ?_
  refine Tr.rg hcx [] _ [] rfl rfl rfl ?_
  simp -implicitDefEqProofs (maxSteps := 2000000) (disch := first | omega | (simp only [go_sem, List.length_append, List.length_drop, List.length_take, hb1] <;> omega) | decide) only [go_sem, ↓reduceIte, Nat.reduceEqDiff, reduceCtorEq, Nat.reduceLT, Nat.reduceBEq, Nat.reduceAdd, Nat.reduceSub, Nat.reduceMul, Nat.reduceMod, List.nil_append, b0]
  refine hK21 _ ?_
  clear hK21 K21
  refine Tr.kp [8, 9, 21] ?_
  simp only [pk_cons, pk_nil, ↓A_cons, ↓reduceIte, Nat.reduceEqDiff]
  refine Tr.condG fun KT KF hT hF => ?_
  simp only [ev_tmp, ev_const, ↓A_cons, ↓reduceIte, Nat.reduceEqDiff, reduceCtorEq, condG_bool, GB_true, GB_false, decide_eq_true_eq]
  refine hT ?_
  clear hT hF KT KF
  refine Tr.seqK fun K22 hK22 => ?_
  refine Tr.rg hcx [1000022] _ [] rfl rfl rfl ?_
  simp -implicitDefEqProofs (maxSteps := 2000000) (disch := first | omega | (simp only [go_sem, List.length_append, List.length_drop, List.length_take, hb1] <;> omega) | decide) only [go_sem, ↓reduceIte, Nat.reduceEqDiff, reduceCtorEq, Nat.reduceLT, Nat.reduceBEq, Nat.reduceAdd, Nat.reduceSub, Nat.reduceMul, Nat.reduceMod, List.nil_append, b0]
  refine hK22 _ ?_
  clear hK22 K22
  refine Tr.kp [6, 7] ?_
  simp only [pk_cons, pk_nil, ↓A_cons, ↓reduceIte, Nat.reduceEqDiff]
  first | refine Tr.nil2 iC .no (by decide) ?_ | skip
  refine Tr.ret ?_
  simp -implicitDefEqProofs (disch := first | omega | (simp only [go_sem, List.length_append, List.length_drop, List.length_take, hb1] <;> omega) | decide) only [go_sem, ↓reduceIte, Nat.reduceEqDiff, reduceCtorEq]
  all_goals (first | (rw [gre_e b0]; try rfl) | (rw [wide_at b0 hc26 (by omega)]; try rfl) | (rw [gre_w b0 b3]; try rfl) | (rw [gre_0 b0 hA]; try rfl))
end Go.Sx
namespace Go.Sx
def rngOK (L K : List Int) (n : Nat) : Prop := ∀ k, k < n + 1 → 0 ≤ gt L k ∧ gt L k ≤ 256 ∧ 0 ≤ gt K k ∧ gt K k ≤ 4294967296
def bef (l : List Int) (b w : Int) (L K : List Int) (i j : Nat) : Bool := befI (gt L j + 1) (gt K j + priR l b w (i : Int) (j : Int)) (gt L i) (gt K i)
def lowOK (l : List Int) (b w : Int) (L K : List Int) (i : Nat) : Prop := ∀ j, j < l.length + 1 → i < j → (∀ m, m < j + 1 → i < m → 0 ≤ freR l b w (i : Int) (m : Int)) → bef l b w L K i j = false
def shwP (l : List Int) (b w : Int) (L K : List Int) : Prop := L.length = l.length + 1 ∧ K.length = l.length + 1 ∧ rngOK L K l.length ∧ (∀ i, i < l.length → lowOK l b w L K i) ∧ gt L l.length = 0 ∧ gt K l.length = 0
instance (L K : List Int) (n : Nat) : Decidable (rngOK L K n) := by unfold rngOK; infer_instance
instance (l : List Int) (b w : Int) (L K : List Int) (i : Nat) : Decidable (lowOK l b w L K i) := by unfold lowOK; infer_instance
instance (l : List Int) (b w : Int) (L K : List Int) : Decidable (shwP l b w L K) := by unfold shwP; infer_instance
def chkT (l : List Int) (b w : Int) (E L K : List Int) : Nat :=
  if errE l b w ≠ 0 then errE l b w else if (costT l b w E).2.2 = 0 ∧ shwP l b w L K ∧ gt L 0 = ((costT l b w E).1 : Int) ∧ gt K 0 = (costT l b w E).2.1 then 0 else 17
section
variable {l : List Int} {b w : Int} {E L K : List Int}
theorem chk_e (h : ¬ errE l b w = 0) : chkT l b w E L K = errE l b w := if_pos h
theorem chk_0 (h : errE l b w = 0) (h1 : (costT l b w E).2.2 = 0) (h2 : shwP l b w L K) (h3 : gt L 0 = ((costT l b w E).1 : Int)) (h4 : gt K 0 = (costT l b w E).2.1) : chkT l b w E L K = 0 := by
  unfold chkT; rw [if_neg (by simp [h]), if_pos ⟨h1, h2, h3, h4⟩]
theorem chk_17 (h : errE l b w = 0) (hx : ¬ ((costT l b w E).2.2 = 0 ∧ shwP l b w L K ∧ gt L 0 = ((costT l b w E).1 : Int) ∧ gt K 0 = (costT l b w E).2.1)) : chkT l b w E L K = 17 := by
  unfold chkT; rw [if_neg (by simp [h]), if_neg hx]
theorem low_of {i j : Nat} (h : ∀ m, i < m → m < j → bef l b w L K i m = false) (hij : i < j) (hx : j = l.length + 1 ∨ freR l b w (i : Int) (j : Int) < 0) : lowOK l b w L K i := fun k hk hik hf => by
  by_cases hkj : k < j
  · exact h k hik hkj
  · rcases hx with hx | hx
    · omega
    · have := hf j (by omega) hij
      omega
theorem low_no {i j : Nat} (hij : i < j) (hj : j ≤ l.length) (hf : ∀ m, i < m → m ≤ j → 0 ≤ freR l b w (i : Int) (m : Int)) (hb : bef l b w L K i j = true) : ¬ lowOK l b w L K i := fun h => by
  have := h j (by omega) hij (fun m hm him => hf m him (by omega))
  rw [hb] at this; cases this
end
end Go.Sx
