/-
  Package breaks: Greedy. And what follows.
-/
import Derived.Test.YtljjjkmiegeocaaPan
import Derived.Test.YtljjjkmiegeocaaPai
import Derived.Test.YtljjjkmiegeocaaPam
set_option linter.unusedSimpArgs false
set_option linter.unusedVariables false
namespace Go.Sx
open Go.RowKit Go.Proofs
theorem Tr.nil2 {cx : Cx} {n : Nat} {c : Code} {h : Hp} {Q : Ex → St → Prop} {α : Type} (f : α → List C) (r : Rt) {k1 k2 : Nat} {a : C} (h12 : k2 ≠ k1) (H : Tr cx n c ⟨A [(k1, sl f r []), (k2, a)], h⟩ Q) : Tr cx n c ⟨A [(k1, .val (.slice none 0 0)), (k2, a)], h⟩ Q := by
  refine Tr.live (st := ⟨A [(k1, .val (.slice none 0 0)), (k2, a)], h⟩) [(k1, sl f r []), (k2, a)] ?_ H
  simp only [Le_cons, Le_nil, and_true]
  refine ⟨?_, ?_⟩
  · have : A [(k1, .val (.slice none 0 0)), (k2, a)] k1 = .val (.slice none 0 0) := by simp [A_cons]
    rw [this]; exact CLe_sln rfl
  · have : A [(k1, .val (.slice none 0 0)), (k2, a)] k2 = a := by simp [A_cons, h12]
    rw [this]; exact CLe.refl _
theorem CLe_ono {α : Type} (f : α → List C) (s : Nat) (l : List α) : CLe (sl f (.own s) l) (sl f .no l) := of_eq_true (CLe_own f s l)
theorem freR_1 {l : List Int} {b w : Int} (k : Nat) : freR l b w (k : Int) ((k : Int) + 1) = w - gt l k := by
  rw [freR_0 l b w k (by omega)]; rfl
theorem wide_at {l : List Int} {b w : Int} (hE : errE l b w = 0) {k : Nat} (hk : k < l.length) (h : w - gt l k < 0) : greT l b w = ([], 21) := by
  unfold greT; rw [if_neg (by simp [hE]), if_pos (wideW_T hk (by omega))]
theorem gre_e {l : List Int} {b w : Int} (hE : ¬ errE l b w = 0) : greT l b w = ([], errE l b w) := if_pos hE
theorem gre_w {l : List Int} {b w : Int} (hE : errE l b w = 0) (hw : wideW l w = true) : greT l b w = ([], 21) := by
  unfold greT; rw [if_neg (by simp [hE]), if_pos hw]
theorem gre_0 {l : List Int} {b w : Int} (hE : errE l b w = 0) (hw : ∀ i, i < l.length → gt l i ≤ w) : greT l b w = (greL l b w, 0) := by
  unfold greT; rw [if_neg (by simp [hE]), if_neg (by rw [wideW_F hw]; simp)]
/-- The other way: line by line. -/
def GS (l : List Int) (b w : Int) (a : Nat × List Int) : Prop := a.1 ≤ l.length ∧ a.2.length ≤ a.1 ∧ (a.1 < l.length → greR l b w (a.1 + 1) = ((a.1 : Int), a.2)) ∧ (a.1 = l.length → a.2 = greL l b w)
theorem GS_0 {l : List Int} {b w : Int} (hw : ∀ i, i < l.length → gt l i ≤ w) : GS l b w (0, []) :=
  ⟨Nat.zero_le _, Nat.le_refl _, fun h => greR_1 (hw 0 h), fun h => (if_pos h.symm).symm⟩
theorem GS_S {l : List Int} {b w : Int} {f j : Nat} {out : List Int} (hg : GS l b w (f, out)) (hf : f < j) (hj : j ≤ l.length) (hr : greR l b w j = ((f : Int), out)) (hx : j = l.length ∨ freR l b w (f : Int) ((j : Int) + 1) < 0) : GS l b w (j, out ++ [(j : Int)]) := by
  refine ⟨hj, ?_, fun h => ?_, fun h => ?_⟩
  · have := hg.2.1
    simp only [List.length_append, List.length_singleton] at this ⊢
    omega
  · have hq := hx.resolve_left (by simp only [] at h; omega)
    have e : freR l b w (greR l b w j).1 ((j : Int) + 1) < 0 := by rw [hr]; exact hq
    rw [greR_T e, hr]
  · simp only [] at h
    unfold greL
    rw [if_neg (by omega), ← h, hr]
theorem greL_0 {l : List Int} {b w : Int} (h : l.length = 0) : greL l b w = [] := if_pos h
theorem greL_n {l : List Int} {b w : Int} (h : ¬ l.length = 0) : greL l b w = (greR l b w l.length).2 ++ [(l.length : Int)] := if_neg h
set_option maxRecDepth 100000 in
set_option maxHeartbeats 8000000 in
theorem fc13 {gl : Nat → C} {M : Nat} {pu : Nat → List C → Option C}  (hcx : CxOK (cxP gl M pu)) (h37 : ∀ (l : List Int) (b w : Int), LI l → (-9223372036854775808 ≤ b ∧ b ≤ 9223372036854775807) → (-9223372036854775808 ≤ w ∧ w ≤ 9223372036854775807) → Fine l b w → pu 37 [sl iC .no l, .val (.int .i64 b), .val (.int .i64 w)] = some (.tup [.agg [sl iC .no (sumsL l b l.length), .val (.int .i64 b), .val (.int .i64 w)], .val (nI 0)])) (h37e : ∀ (l : List Int) (b w : Int), LI l → (-9223372036854775808 ≤ b ∧ b ≤ 9223372036854775807) → (-9223372036854775808 ≤ w ∧ w ≤ 9223372036854775807) → errE l b w ≠ 0 → pu 37 [sl iC .no l, .val (.int .i64 b), .val (.int .i64 w)] = some (.tup [.agg [.val (.slice none 0 0), .val (nI 0), .val (nI 0)], .val (nI (errE l b w))])) (h38 : ∀ (S : List Int) (b w : Int), Col S b w → pu 38 [.agg [sl iC .no S, .val (.int .i64 b), .val (.int .i64 w)]] = some (.val (nI (S.length - 1)))) (h39 : ∀ (S : List Int) (b w i j : Int), Col S b w → 0 ≤ i ∧ i < S.length ∧ 0 ≤ j ∧ j < S.length → pu 39 [.agg [sl iC .no S, .val (.int .i64 b), .val (.int .i64 w)], .val (.int .i64 i), .val (.int .i64 j)] = some (.val (.int .i64 (freS S b w i j)))) (l : List Int) (b w : Int) (hl : LI l) (hb : -9223372036854775808 ≤ b ∧ b ≤ 9223372036854775807) (hw : -9223372036854775808 ≤ w ∧ w ≤ 9223372036854775807) : FC Try.prog gl 13 [sl iC .no l, .val (.int .i64 b), .val (.int .i64 w)] [] (.tup [sl iC .no (greT l b w).1, .val (nI (greT l b w).2)]) [] := by
 replace hcx := hcx.reN (M := 55)
 refine FC.ofA (cx := cxP gl 55 pu) (rs := [.tmp 6, .tmp 7]) rfl Try.func13 rfl rfl rfl (by simp only [List.length_cons, List.length_nil]; decide) (by simp only [go_sem]) ?_
 simp only [ini, go_sem]
 have hl1 := hl.1
 have hb1 := True.intro
 refine Tr.seqK fun K1 hK1 => ?_
 refine Tr.rg hcx [] _ [] rfl rfl rfl ?_
 simp -implicitDefEqProofs (maxSteps := 2000000) (disch := first | omega | (simp only [go_sem, List.length_append, List.length_drop, List.length_take, hb1] <;> omega) | decide) only [go_sem, ↓reduceIte, Nat.reduceEqDiff, reduceCtorEq, Nat.reduceLT, Nat.reduceBEq, Nat.reduceAdd, Nat.reduceSub, Nat.reduceMul, Nat.reduceMod, List.nil_append]
 refine hK1 _ ?_
 clear hK1 K1
 refine Tr.kp [0, 1, 2] ?_
 simp only [pk_cons, pk_nil, ↓A_cons, ↓reduceIte, Nat.reduceEqDiff]
 refine Tr.seqK fun K2 hK2 => ?_
 by_cases b0 : errE l b w = 0
 ·
  have hF := errE_0.1 b0
  have h37' := h37 l b w hl hb hw hF
  have hF1 := hF.1
  have hcol := fine_col hF
  have hSl := sumsL_len l b l.length
  have h38' := h38 (sumsL l b l.length) b w hcol
  rw [show (sumsL l b l.length).length - 1 = l.length by omega] at h38'
  refine Tr.rg hcx [1000019] _ [none] rfl rfl rfl ?_
  simp -implicitDefEqProofs (maxSteps := 2000000) (disch := first | omega | (simp only [go_sem, List.length_append, List.length_drop, List.length_take, hb1] <;> omega) | decide) only [go_sem, ↓reduceIte, Nat.reduceEqDiff, reduceCtorEq, Nat.reduceLT, Nat.reduceBEq, Nat.reduceAdd, Nat.reduceSub, Nat.reduceMul, Nat.reduceMod, List.nil_append, b0, h37']
  refine hK2 _ ?_
  clear hK2 K2
  refine Tr.kp [8, 9] ?_
  simp only [pk_cons, pk_nil, ↓A_cons, ↓reduceIte, Nat.reduceEqDiff]
  refine Tr.seqK fun K3 hK3 => ?_
  refine Tr.seqK fun K4 hK4 => ?_
  refine Tr.rg hcx [] _ [] rfl rfl rfl ?_
  simp -implicitDefEqProofs (maxSteps := 2000000) (disch := first | omega | (simp only [go_sem, List.length_append, List.length_drop, List.length_take, hb1] <;> omega) | decide) only [go_sem, ↓reduceIte, Nat.reduceEqDiff, reduceCtorEq, Nat.reduceLT, Nat.reduceBEq, Nat.reduceAdd, Nat.reduceSub, Nat.reduceMul, Nat.reduceMod, List.nil_append, b0]
  refine hK4 _ ?_
  clear hK4 K4
  refine Tr.kp [8, 9, 21] ?_
  simp only [pk_cons, pk_nil, ↓A_cons, ↓reduceIte, Nat.reduceEqDiff]
  refine Tr.condG fun KT KF hT hF => ?_
  simp only [ev_tmp, ev_const, ↓A_cons, ↓reduceIte, Nat.reduceEqDiff, reduceCtorEq, condG_bool, GB_true, GB_false, decide_eq_true_eq]
  refine hF ?_
  clear hT hF KT KF
  refine Tr.skip ?_
  refine hK3 _ ?_
  clear hK3 K3
  refine Tr.kp [8] ?_
  simp only [pk_cons, pk_nil, ↓A_cons, ↓reduceIte, Nat.reduceEqDiff]
  refine Tr.seqK fun K5 hK5 => ?_
  refine Tr.rg hcx [] _ [] rfl rfl rfl ?_
  simp -implicitDefEqProofs (maxSteps := 2000000) (disch := first | omega | (simp only [go_sem, List.length_append, List.length_drop, List.length_take, hb1] <;> omega) | decide) only [go_sem, ↓reduceIte, Nat.reduceEqDiff, reduceCtorEq, Nat.reduceLT, Nat.reduceBEq, Nat.reduceAdd, Nat.reduceSub, Nat.reduceMul, Nat.reduceMod, List.nil_append, b0]
  refine hK5 _ ?_
  clear hK5 K5
  refine Tr.kp [8, 10] ?_
  simp only [pk_cons, pk_nil, ↓A_cons, ↓reduceIte, Nat.reduceEqDiff]
  refine Tr.seqK fun K6 hK6 => ?_
  refine Tr.rg hcx [] _ [] rfl rfl rfl ?_
  simp -implicitDefEqProofs (maxSteps := 2000000) (disch := first | omega | (simp only [go_sem, List.length_append, List.length_drop, List.length_take, hb1] <;> omega) | decide) only [go_sem, ↓reduceIte, Nat.reduceEqDiff, reduceCtorEq, Nat.reduceLT, Nat.reduceBEq, Nat.reduceAdd, Nat.reduceSub, Nat.reduceMul, Nat.reduceMod, List.nil_append, b0]
  refine hK6 _ ?_
  clear hK6 K6
  refine Tr.kp [8, 10, 11] ?_
  simp only [pk_cons, pk_nil, ↓A_cons, ↓reduceIte, Nat.reduceEqDiff]
  refine Tr.seqK fun K7 hK7 => ?_
  refine Tr.seqK fun K8 hK8 => ?_
  refine Tr.rg hcx [] _ [] rfl rfl rfl ?_
  simp -implicitDefEqProofs (maxSteps := 2000000) (disch := first | omega | (simp only [go_sem, List.length_append, List.length_drop, List.length_take, hb1] <;> omega) | decide) only [go_sem, ↓reduceIte, Nat.reduceEqDiff, reduceCtorEq, Nat.reduceLT, Nat.reduceBEq, Nat.reduceAdd, Nat.reduceSub, Nat.reduceMul, Nat.reduceMod, List.nil_append, b0, h38']
  refine hK8 _ ?_
  clear hK8 K8
  refine Tr.kp [8, 10, 11, 24, 25] ?_
  simp only [pk_cons, pk_nil, ↓A_cons, ↓reduceIte, Nat.reduceEqDiff]
  refine Tr.blk ?_
  refine Tr.loopI (α := Nat) (fun a => [(8, ?v8_20), (10, sl iC (.own 1) (greR l b w a).2), (11, .val (.int .i64 (greR l b w a).1)), (24, ?v24_20), (25, .val (nI a))]) (fun a => ?h_20) (fun a => a ≤ l.length ∧ ∀ j, j < a → gt l j ≤ w) (fun a => l.length - a) (0) ⟨Nat.zero_le _, fun j hj => absurd hj (Nat.not_lt_zero j)⟩ ?le_20 ?hh_20 ?bd_20
  case hh_20 => exact rfl
  case le_20 => (simp only [Le_nil, Le_cons, ↓A_cons, ↓reduceIte, Nat.reduceEqDiff, reduceCtorEq, CLe_refl, CLe_top, CLe_full, CLe_nil, CLe_own, and_true, true_and]; all_goals (repeat' first | exact CLe.refl _ | exact True.intro | (refine CLe_sln ?_; first | with_reducible rfl | (simp only [List.take_zero]; done) | (rfl; done)) | exact CLe_nI (by omega) | exact CLe_int (by omega) | exact CLe_inI (by omega) | exact CLe_nIi (by omega) | with_reducible apply And.intro)); all_goals first | exact CLe.refl _ | exact CLe_sln rfl
  case bd_20 =>
   rintro k ⟨hk, hA⟩
   have hgi := greR_in l b w k
   have hb1 := hgi.2.2.2
   refine Tr.seqK fun K9 hK9 => ?_
   refine Tr.rg hcx [] _ [] rfl rfl rfl ?_
   simp -implicitDefEqProofs (maxSteps := 2000000) (disch := first | omega | (simp only [go_sem, List.length_append, List.length_drop, List.length_take, hb1] <;> omega) | decide) only [go_sem, ↓reduceIte, Nat.reduceEqDiff, reduceCtorEq, Nat.reduceLT, Nat.reduceBEq, Nat.reduceAdd, Nat.reduceSub, Nat.reduceMul, Nat.reduceMod, List.nil_append, b0]
   refine hK9 _ ?_
   clear hK9 K9
   refine Tr.kp [8, 10, 11, 24, 25, 26] ?_
   simp only [pk_cons, pk_nil, ↓A_cons, ↓reduceIte, Nat.reduceEqDiff]
   refine Tr.seqK fun K10 hK10 => ?_
   refine Tr.condG fun KT KF hT hF => ?_
   simp only [ev_tmp, ev_const, ↓A_cons, ↓reduceIte, Nat.reduceEqDiff, reduceCtorEq, condG_bool, GB_true, GB_false, decide_eq_true_eq]
   refine GB.dec (fun hc26 => hT ?_) (fun hc26 => hF ?_)
   ·
    clear hT hF KT KF
    have hw1 := hF.2.2.2 k hc26
    have h39' := (h39 (sumsL l b l.length) b w (k : Int) ((k : Int) + 1) hcol ⟨by omega, by omega, by omega, by omega⟩).trans (congrArg (fun z => some (C.val (.int .i64 z))) ((freS_R (by omega) (by omega) (by omega)).trans (freR_1 k)))
    have h39n : pu 39 [.agg [sl iC .no (sumsL l b l.length), .val (.int .i64 b), .val (.int .i64 w)], .val (nI k), .val (nI (k + 1))] = some (.val (.int .i64 (w - gt l k))) := h39'
    have h39o := (h39 (sumsL l b l.length) b w (greR l b w k).1 ((k : Int) + 1) hcol ⟨by omega, by omega, by omega, by omega⟩).trans (congrArg (fun z => some (C.val (.int .i64 z))) (freS_R (by omega) (by omega) (by omega)))
    have h39m : pu 39 [.agg [sl iC .no (sumsL l b l.length), .val (.int .i64 b), .val (.int .i64 w)], .val (.int .i64 (greR l b w k).1), .val (nI (k + 1))] = some (.val (.int .i64 (freR l b w (greR l b w k).1 ((k : Int) + 1)))) := h39o
    have hfb := freR_b hF (i := (greR l b w k).1) (j := (k : Int) + 1) (by omega) (by omega)
    refine Tr.skip ?_
    refine hK10 _ ?_
    clear hK10 K10
    refine Tr.kp [8, 10, 11, 24, 25] ?_
    simp only [pk_cons, pk_nil, ↓A_cons, ↓reduceIte, Nat.reduceEqDiff]
    refine Tr.seqK fun K11 hK11 => ?_
    refine Tr.blk ?_
    refine Tr.seqK fun K12 hK12 => ?_
    refine Tr.rg hcx [1000027] _ [] rfl rfl rfl ?_
    simp -implicitDefEqProofs (maxSteps := 2000000) (disch := first | omega | (simp only [go_sem, List.length_append, List.length_drop, List.length_take, hb1] <;> omega) | decide) only [go_sem, ↓reduceIte, Nat.reduceEqDiff, reduceCtorEq, Nat.reduceLT, Nat.reduceBEq, Nat.reduceAdd, Nat.reduceSub, Nat.reduceMul, Nat.reduceMod, List.nil_append, b0]
    refine hK12 _ ?_
    clear hK12 K12
    refine Tr.kp [8, 10, 11, 12, 24, 25] ?_
    simp only [pk_cons, pk_nil, ↓A_cons, ↓reduceIte, Nat.reduceEqDiff]
    refine Tr.seqK fun K13 hK13 => ?_
    refine Tr.seqK fun K14 hK14 => ?_
    refine Tr.rg hcx [] _ [] rfl rfl rfl ?_
    simp -implicitDefEqProofs (maxSteps := 2000000) (disch := first | omega | (simp only [go_sem, List.length_append, List.length_drop, List.length_take, hb1] <;> omega) | decide) only [go_sem, ↓reduceIte, Nat.reduceEqDiff, reduceCtorEq, Nat.reduceLT, Nat.reduceBEq, Nat.reduceAdd, Nat.reduceSub, Nat.reduceMul, Nat.reduceMod, List.nil_append, b0, h39n]
    refine hK14 _ ?_
    clear hK14 K14
    refine Tr.kp [8, 10, 11, 12, 24, 25, 33] ?_
    simp only [pk_cons, pk_nil, ↓A_cons, ↓reduceIte, Nat.reduceEqDiff]
    refine Tr.condG fun KT KF hT hF => ?_
    simp only [ev_tmp, ev_const, ↓A_cons, ↓reduceIte, Nat.reduceEqDiff, reduceCtorEq, condG_bool, GB_true, GB_false, decide_eq_true_eq]
    refine GB.dec (fun hc33 => hT ?_) (fun hc33 => hF ?_)
    ·
     clear hT hF KT KF
     refine Tr.seqK fun K15 hK15 => ?_
     refine Tr.rg hcx [] _ [] rfl rfl rfl ?_
     simp -implicitDefEqProofs (maxSteps := 2000000) (disch := first | omega | (simp only [go_sem, List.length_append, List.length_drop, List.length_take, hb1] <;> omega) | decide) only [go_sem, ↓reduceIte, Nat.reduceEqDiff, reduceCtorEq, Nat.reduceLT, Nat.reduceBEq, Nat.reduceAdd, Nat.reduceSub, Nat.reduceMul, Nat.reduceMod, List.nil_append, b0]
     refine hK15 _ ?_
     clear hK15 K15
     refine Tr.kp [6, 7] ?_
     simp only [pk_cons, pk_nil, ↓A_cons, ↓reduceIte, Nat.reduceEqDiff]
     first | refine Tr.nil2 iC .no (by decide) ?_ | skip
     refine Tr.ret ?_
     simp -implicitDefEqProofs (disch := first | omega | (simp only [go_sem, List.length_append, List.length_drop, List.length_take, hb1] <;> omega) | decide) only [go_sem, ↓reduceIte, Nat.reduceEqDiff, reduceCtorEq]
     all_goals (first | (rw [gre_e b0]; try rfl) | (rw [wide_at b0 hc26 (by omega)]; try rfl) | (rw [gre_w b0 b3]; try rfl) | (rw [gre_0 b0 hA]; try rfl))
    ·
     clear hT hF KT KF
     refine Tr.skip ?_
     refine hK13 _ ?_
     clear hK13 K13
     refine Tr.kp [8, 10, 11, 12, 24, 25] ?_
     simp only [pk_cons, pk_nil, ↓A_cons, ↓reduceIte, Nat.reduceEqDiff]
     refine Tr.seqK fun K16 hK16 => ?_
     refine Tr.rg hcx [] _ [] rfl rfl rfl ?_
     simp -implicitDefEqProofs (maxSteps := 2000000) (disch := first | omega | (simp only [go_sem, List.length_append, List.length_drop, List.length_take, hb1] <;> omega) | decide) only [go_sem, ↓reduceIte, Nat.reduceEqDiff, reduceCtorEq, Nat.reduceLT, Nat.reduceBEq, Nat.reduceAdd, Nat.reduceSub, Nat.reduceMul, Nat.reduceMod, List.nil_append, b0, h39m]
     refine hK16 _ ?_
     clear hK16 K16
     refine Tr.kp [8, 10, 11, 12, 24, 25, 39] ?_
     simp only [pk_cons, pk_nil, ↓A_cons, ↓reduceIte, Nat.reduceEqDiff]
     refine Tr.condG fun KT KF hT hF => ?_
     simp only [ev_tmp, ev_const, ↓A_cons, ↓reduceIte, Nat.reduceEqDiff, reduceCtorEq, condG_bool, GB_true, GB_false, decide_eq_true_eq]
     refine GB.dec (fun hc39 => hT ?_) (fun hc39 => hF ?_)
     ·
      clear hT hF KT KF
      refine Tr.seqK fun K17 hK17 => ?_
      refine Tr.rg hcx [40, 1000043] _ [] rfl rfl rfl ?_
      simp -implicitDefEqProofs (maxSteps := 2000000) (disch := first | omega | (simp only [go_sem, List.length_append, List.length_drop, List.length_take, hb1] <;> omega) | decide) only [go_sem, ↓reduceIte, Nat.reduceEqDiff, reduceCtorEq, Nat.reduceLT, Nat.reduceBEq, Nat.reduceAdd, Nat.reduceSub, Nat.reduceMul, Nat.reduceMod, List.nil_append, b0]
      refine hK17 _ ?_
      clear hK17 K17
      refine Tr.kp [8, 10, 12, 24, 25] ?_
      simp only [pk_cons, pk_nil, ↓A_cons, ↓reduceIte, Nat.reduceEqDiff]
      refine Tr.rg hcx [1000044] _ [] rfl rfl rfl ?_
      simp -implicitDefEqProofs (maxSteps := 2000000) (disch := first | omega | (simp only [go_sem, List.length_append, List.length_drop, List.length_take, hb1] <;> omega) | decide) only [go_sem, ↓reduceIte, Nat.reduceEqDiff, reduceCtorEq, Nat.reduceLT, Nat.reduceBEq, Nat.reduceAdd, Nat.reduceSub, Nat.reduceMul, Nat.reduceMod, List.nil_append, b0]
      refine hK11 _ ?_
      clear hK11 K11
      refine Tr.kp [8, 10, 11, 24, 25] ?_
      simp only [pk_cons, pk_nil, ↓A_cons, ↓reduceIte, Nat.reduceEqDiff]
      refine Tr.rg hcx [] _ [] rfl rfl rfl ?_
      simp -implicitDefEqProofs (maxSteps := 2000000) (disch := first | omega | (simp only [go_sem, List.length_append, List.length_drop, List.length_take, hb1] <;> omega) | decide) only [go_sem, ↓reduceIte, Nat.reduceEqDiff, reduceCtorEq, Nat.reduceLT, Nat.reduceBEq, Nat.reduceAdd, Nat.reduceSub, Nat.reduceMul, Nat.reduceMod, List.nil_append, b0]
      refine ⟨k + 1, ⟨⟨by omega, fun j hj => (Nat.lt_or_eq_of_le (Nat.le_of_lt_succ hj)).elim (hA j) (fun q => q ▸ (by omega))⟩, by first | omega | (simp only []; omega)⟩, ?_, rfl⟩
      (simp only [Le_nil, Le_cons, ↓A_cons, ↓reduceIte, Nat.reduceEqDiff, reduceCtorEq, CLe_refl, CLe_top, CLe_full, CLe_nil, CLe_own, and_true, true_and]; all_goals (repeat' first | exact CLe.refl _ | exact True.intro | (refine CLe_sln ?_; first | with_reducible rfl | (simp only [List.take_zero]; done) | (rfl; done)) | exact CLe_nI (by omega) | exact CLe_int (by omega) | exact CLe_inI (by omega) | exact CLe_nIi (by omega) | with_reducible apply And.intro))
      all_goals first | (rw [greR_T (by omega)]; exact CLe.refl _) | (rw [greR_F (by omega)]; exact CLe.refl _)
     ·
      clear hT hF KT KF
      refine Tr.skip ?_
      refine hK11 _ ?_
      clear hK11 K11
      refine Tr.kp [8, 10, 11, 24, 25] ?_
      simp only [pk_cons, pk_nil, ↓A_cons, ↓reduceIte, Nat.reduceEqDiff]
      refine Tr.rg hcx [] _ [] rfl rfl rfl ?_
      simp -implicitDefEqProofs (maxSteps := 2000000) (disch := first | omega | (simp only [go_sem, List.length_append, List.length_drop, List.length_take, hb1] <;> omega) | decide) only [go_sem, ↓reduceIte, Nat.reduceEqDiff, reduceCtorEq, Nat.reduceLT, Nat.reduceBEq, Nat.reduceAdd, Nat.reduceSub, Nat.reduceMul, Nat.reduceMod, List.nil_append, b0]
      refine ⟨k + 1, ⟨⟨by omega, fun j hj => (Nat.lt_or_eq_of_le (Nat.le_of_lt_succ hj)).elim (hA j) (fun q => q ▸ (by omega))⟩, by first | omega | (simp only []; omega)⟩, ?_, rfl⟩
      (simp only [Le_nil, Le_cons, ↓A_cons, ↓reduceIte, Nat.reduceEqDiff, reduceCtorEq, CLe_refl, CLe_top, CLe_full, CLe_nil, CLe_own, and_true, true_and]; all_goals (repeat' first | exact CLe.refl _ | exact True.intro | (refine CLe_sln ?_; first | with_reducible rfl | (simp only [List.take_zero]; done) | (rfl; done)) | exact CLe_nI (by omega) | exact CLe_int (by omega) | exact CLe_inI (by omega) | exact CLe_nIi (by omega) | with_reducible apply And.intro))
      all_goals first | (rw [greR_T (by omega)]; exact CLe.refl _) | (rw [greR_F (by omega)]; exact CLe.refl _)
   ·
    clear hT hF KT KF
    obtain rfl : k = l.length := by omega
    refine Tr.exit ?_
    refine hK7 _ ?_
    clear hK10 K10 hK7 K7
    refine Tr.kp [8, 10] ?_
    simp only [pk_cons, pk_nil, ↓A_cons, ↓reduceIte, Nat.reduceEqDiff]
    refine Tr.seqJ (α := Unit) (fun a => [(10, sl iC .no (greL l b w))]) (fun a => [some [sl iC .no (sumsL l b l.length), .val (.int .i64 b), .val (.int .i64 w)]]) (fun a => True) ?ja_47 ?jb_47
    case ja_47 =>
     refine Tr.seqK fun K18 hK18 => ?_
     refine Tr.rg hcx [] _ [] rfl rfl rfl ?_
     simp -implicitDefEqProofs (maxSteps := 2000000) (disch := first | omega | (simp only [go_sem, List.length_append, List.length_drop, List.length_take, hb1] <;> omega) | decide) only [go_sem, ↓reduceIte, Nat.reduceEqDiff, reduceCtorEq, Nat.reduceLT, Nat.reduceBEq, Nat.reduceAdd, Nat.reduceSub, Nat.reduceMul, Nat.reduceMod, List.nil_append, b0, h38']
     refine hK18 _ ?_
     clear hK18 K18
     refine Tr.kp [8, 10, 48] ?_
     simp only [pk_cons, pk_nil, ↓A_cons, ↓reduceIte, Nat.reduceEqDiff]
     refine Tr.condG fun KT KF hT hF => ?_
     simp only [ev_tmp, ev_const, ↓A_cons, ↓reduceIte, Nat.reduceEqDiff, reduceCtorEq, condG_bool, GB_true, GB_false, decide_eq_true_eq]
     refine GB.dec (fun hc48 => hT ?_) (fun hc48 => hF ?_)
     ·
      clear hT hF KT KF
      refine Tr.rg hcx [49, 1000053] _ [] rfl rfl rfl ?_
      simp -implicitDefEqProofs (maxSteps := 2000000) (disch := first | omega | (simp only [go_sem, List.length_append, List.length_drop, List.length_take, hb1] <;> omega) | decide) only [go_sem, ↓reduceIte, Nat.reduceEqDiff, reduceCtorEq, Nat.reduceLT, Nat.reduceBEq, Nat.reduceAdd, Nat.reduceSub, Nat.reduceMul, Nat.reduceMod, List.nil_append, b0, h38']
      refine ⟨(), trivial, ?_, rfl⟩
      (simp only [Le_nil, Le_cons, ↓A_cons, ↓reduceIte, Nat.reduceEqDiff, reduceCtorEq, CLe_refl, CLe_top, CLe_full, CLe_nil, CLe_own, and_true, true_and]; all_goals (repeat' first | exact CLe.refl _ | exact True.intro | (refine CLe_sln ?_; first | with_reducible rfl | (simp only [List.take_zero]; done) | (rfl; done)) | exact CLe_nI (by omega) | exact CLe_int (by omega) | exact CLe_inI (by omega) | exact CLe_nIi (by omega) | with_reducible apply And.intro))
      all_goals first | (rw [greL_n (by omega)]; exact CLe_ono _ _ _) | ((have h0 : l.length = 0 := (by omega)); rw [greL_0 h0]; simp only [h0]; exact CLe_ono _ _ _)
     ·
      clear hT hF KT KF
      refine Tr.skip ?_
      refine ⟨(), trivial, ?_, rfl⟩
      (simp only [Le_nil, Le_cons, ↓A_cons, ↓reduceIte, Nat.reduceEqDiff, reduceCtorEq, CLe_refl, CLe_top, CLe_full, CLe_nil, CLe_own, and_true, true_and]; all_goals (repeat' first | exact CLe.refl _ | exact True.intro | (refine CLe_sln ?_; first | with_reducible rfl | (simp only [List.take_zero]; done) | (rfl; done)) | exact CLe_nI (by omega) | exact CLe_int (by omega) | exact CLe_inI (by omega) | exact CLe_nIi (by omega) | with_reducible apply And.intro))
      all_goals first | (rw [greL_n (by omega)]; exact CLe_ono _ _ _) | ((have h0 : l.length = 0 := (by omega)); rw [greL_0 h0]; simp only [h0]; exact CLe_ono _ _ _)
    case jb_47 =>
     rintro a ha
     refine Tr.seqK fun K19 hK19 => ?_
     refine Tr.rg hcx [1000054] _ [] rfl rfl rfl ?_
     simp -implicitDefEqProofs (maxSteps := 2000000) (disch := first | omega | (simp only [go_sem, List.length_append, List.length_drop, List.length_take, hb1] <;> omega) | decide) only [go_sem, ↓reduceIte, Nat.reduceEqDiff, reduceCtorEq, Nat.reduceLT, Nat.reduceBEq, Nat.reduceAdd, Nat.reduceSub, Nat.reduceMul, Nat.reduceMod, List.nil_append, b0]
     refine hK19 _ ?_
     clear hK19 K19
     refine Tr.kp [6, 7] ?_
     simp only [pk_cons, pk_nil, ↓A_cons, ↓reduceIte, Nat.reduceEqDiff]
     first | refine Tr.nil2 iC .no (by decide) ?_ | skip
     refine Tr.ret ?_
     simp -implicitDefEqProofs (disch := first | omega | (simp only [go_sem, List.length_append, List.length_drop, List.length_take, hb1] <;> omega) | decide) only [go_sem, ↓reduceIte, Nat.reduceEqDiff, reduceCtorEq]
     all_goals (first | (rw [gre_e b0]; try rfl) | (rw [wide_at b0 hc26 (by omega)]; try rfl) | (rw [gre_w b0 b3]; try rfl) | (rw [gre_0 b0 hA]; try rfl))
 ·
  have h37' := h37e l b w hl hb hw b0
  refine Tr.rg hcx [1000019] _ [none] rfl rfl rfl ?_
  simp -implicitDefEqProofs (maxSteps := 2000000) (disch := first | omega | (simp only [go_sem, List.length_append, List.length_drop, List.length_take, hb1] <;> omega) | decide) only [go_sem, ↓reduceIte, Nat.reduceEqDiff, reduceCtorEq, Nat.reduceLT, Nat.reduceBEq, Nat.reduceAdd, Nat.reduceSub, Nat.reduceMul, Nat.reduceMod, List.nil_append, b0, h37']
  refine hK2 _ ?_
  clear hK2 K2
  refine Tr.kp [8, 9] ?_
  simp only [pk_cons, pk_nil, ↓A_cons, ↓reduceIte, Nat.reduceEqDiff]
  refine Tr.seqK fun K20 hK20 => ?_
  refine Tr.seqK fun K21 hK21 => ?_
  refine Tr.rg hcx [] _ [] rfl rfl rfl ?_
  simp -implicitDefEqProofs (maxSteps := 2000000) (disch := first | omega | (simp only [go_sem, List.length_append, List.length_drop, List.length_take, hb1] <;> omega) | decide) only [go_sem, ↓reduceIte, Nat.reduceEqDiff, reduceCtorEq, Nat.reduceLT, Nat.reduceBEq, Nat.reduceAdd, Nat.reduceSub, Nat.reduceMul, Nat.reduceMod, List.nil_append, b0]
  refine hK21 _ ?_
  clear hK21 K21
  refine Tr.kp [8, 9, 21] ?_
  simp only [pk_cons, pk_nil, ↓A_cons, ↓reduceIte, Nat.reduceEqDiff]
  refine Tr.condG fun KT KF hT hF => ?_
  simp only [ev_tmp, ev_const, ↓A_cons, ↓reduceIte, Nat.reduceEqDiff, reduceCtorEq, condG_bool, GB_true, GB_false, decide_eq_true_eq]
  refine hT ?_
  clear hT hF KT KF
  refine Tr.seqK fun K22 hK22 => ?_
  refine Tr.rg hcx [1000022] _ [] rfl rfl rfl ?_
  simp -implicitDefEqProofs (maxSteps := 2000000) (disch := first | omega | (simp only [go_sem, List.length_append, List.length_drop, List.length_take, hb1] <;> omega) | decide) only [go_sem, ↓reduceIte, Nat.reduceEqDiff, reduceCtorEq, Nat.reduceLT, Nat.reduceBEq, Nat.reduceAdd, Nat.reduceSub, Nat.reduceMul, Nat.reduceMod, List.nil_append, b0]
  refine hK22 _ ?_
  clear hK22 K22
  refine Tr.kp [6, 7] ?_
  simp only [pk_cons, pk_nil, ↓A_cons, ↓reduceIte, Nat.reduceEqDiff]
  first | refine Tr.nil2 iC .no (by decide) ?_ | skip
  refine Tr.ret ?_
  simp -implicitDefEqProofs (disch := first | omega | (simp only [go_sem, List.length_append, List.length_drop, List.length_take, hb1] <;> omega) | decide) only [go_sem, ↓reduceIte, Nat.reduceEqDiff, reduceCtorEq]
  all_goals (first | (rw [gre_e b0]; try rfl) | (rw [wide_at b0 hc26 (by omega)]; try rfl) | (rw [gre_w b0 b3]; try rfl) | (rw [gre_0 b0 hA]; try rfl))
set_option maxRecDepth 100000 in
set_option maxHeartbeats 8000000 in
theorem fc14 {gl : Nat → C} {M : Nat} {pu : Nat → List C → Option C}  (hcx : CxOK (cxP gl M pu)) (h26 : ∀ (l : List Int) (w : Int), LI l → pu 26 [sl iC .no l, .val (.int .i64 w)] = some (.val (.bool (wideW l w)))) (h27 : ∀ (l : List Int) (b w : Int), LI l → (-9223372036854775808 ≤ b ∧ b ≤ 9223372036854775807) → (-9223372036854775808 ≤ w ∧ w ≤ 9223372036854775807) → pu 27 [sl iC .no l, .val (.int .i64 b), .val (.int .i64 w)] = some (.val (nI (errE l b w)))) (h42 : ∀ (l : List Int) (b w i j : Int), Fine l b w → 0 ≤ i ∧ i < j ∧ j ≤ l.length → pu 42 [sl iC .no l, .val (.int .i64 b), .val (.int .i64 w), .val (.int .i64 i), .val (.int .i64 j)] = some (.val (.int .i64 (freR l b w i j)))) (l : List Int) (b w : Int) (hl : LI l) (hb : -9223372036854775808 ≤ b ∧ b ≤ 9223372036854775807) (hw : -9223372036854775808 ≤ w ∧ w ≤ 9223372036854775807) : FC Try.prog gl 14 [sl iC .no l, .val (.int .i64 b), .val (.int .i64 w)] [] (.tup [sl iC .no (greT l b w).1, .val (nI (greT l b w).2)]) [] := by
 replace hcx := hcx.reN (M := 54)
 refine FC.ofA (cx := cxP gl 54 pu) (rs := [.tmp 6, .tmp 7]) rfl Try.func14 rfl rfl rfl (by simp only [List.length_cons, List.length_nil]; decide) (by simp only [go_sem]) ?_
 simp only [ini, go_sem]
 have hl1 := hl.1
 have h27' := h27 l b w hl hb hw
 have h26' := h26 l w hl
 have hb1 := True.intro
 refine Tr.seqK fun K1 hK1 => ?_
 refine Tr.rg hcx [] _ [] rfl rfl rfl ?_
 simp -implicitDefEqProofs (maxSteps := 2000000) (disch := first | omega | (simp only [go_sem, List.length_append, List.length_drop, List.length_take, hb1] <;> omega) | decide) only [go_sem, ↓reduceIte, Nat.reduceEqDiff, reduceCtorEq, Nat.reduceLT, Nat.reduceBEq, Nat.reduceAdd, Nat.reduceSub, Nat.reduceMul, Nat.reduceMod]
 refine hK1 _ ?_
 clear hK1 K1
 refine Tr.kp [0, 1, 2] ?_
 simp only [pk_cons, pk_nil, ↓A_cons, ↓reduceIte, Nat.reduceEqDiff]
 refine Tr.seqK fun K2 hK2 => ?_
 by_cases b0 : errE l b w = 0
 ·
  have hF := errE_0.1 b0
  have hF1 := hF.1
  rw [b0] at h27'
  refine Tr.rg hcx [1000015] _ [] rfl rfl rfl ?_
  simp -implicitDefEqProofs (maxSteps := 2000000) (disch := first | omega | (simp only [go_sem, List.length_append, List.length_drop, List.length_take, hb1] <;> omega) | decide) only [go_sem, ↓reduceIte, Nat.reduceEqDiff, reduceCtorEq, Nat.reduceLT, Nat.reduceBEq, Nat.reduceAdd, Nat.reduceSub, Nat.reduceMul, Nat.reduceMod, b0, h27']
  refine hK2 _ ?_
  clear hK2 K2
  refine Tr.kp [0, 1, 2, 8] ?_
  simp only [pk_cons, pk_nil, ↓A_cons, ↓reduceIte, Nat.reduceEqDiff]
  refine Tr.seqK fun K3 hK3 => ?_
  refine Tr.seqK fun K4 hK4 => ?_
  by_cases b3 : wideW l w = true
  ·
   skip
   refine Tr.rg hcx [] [some 16, some 17, some 18, some 19, some 20, some 21, some 22] [] rfl rfl rfl ?_
   simp -implicitDefEqProofs (maxSteps := 2000000) (disch := first | omega | (simp only [go_sem, List.length_append, List.length_drop, List.length_take, hb1] <;> omega) | decide) only [go_sem, ↓reduceIte, Nat.reduceEqDiff, reduceCtorEq, Nat.reduceLT, Nat.reduceBEq, Nat.reduceAdd, Nat.reduceSub, Nat.reduceMul, Nat.reduceMod, b0, b3, h27', h26']
   refine hK4 _ ?_
   clear hK4 K4
   refine Tr.kp [0, 1, 2, 8, 22] ?_
   simp only [pk_cons, pk_nil, ↓A_cons, ↓reduceIte, Nat.reduceEqDiff]
   refine Tr.condG fun KT KF hT hF => ?_
   simp only [ev_tmp, ev_const, ↓A_cons, ↓reduceIte, Nat.reduceEqDiff, reduceCtorEq, condG_bool, GB_true, GB_false, decide_eq_true_eq]
   refine hT ?_
   clear hT hF KT KF
   refine Tr.rg hcx [] _ [] rfl rfl rfl ?_
   simp -implicitDefEqProofs (maxSteps := 2000000) (disch := first | omega | (simp only [go_sem, List.length_append, List.length_drop, List.length_take, hb1] <;> omega) | decide) only [go_sem, ↓reduceIte, Nat.reduceEqDiff, reduceCtorEq, Nat.reduceLT, Nat.reduceBEq, Nat.reduceAdd, Nat.reduceSub, Nat.reduceMul, Nat.reduceMod, b0, b3]
   refine hK3 _ ?_
   clear hK3 K3
   refine Tr.kp [0, 1, 2, 8] ?_
   simp only [pk_cons, pk_nil, ↓A_cons, ↓reduceIte, Nat.reduceEqDiff]
   refine Tr.seqK fun K5 hK5 => ?_
   refine Tr.seqK fun K6 hK6 => ?_
   refine Tr.rg hcx [] _ [] rfl rfl rfl ?_
   simp -implicitDefEqProofs (maxSteps := 2000000) (disch := first | omega | (simp only [go_sem, List.length_append, List.length_drop, List.length_take, hb1] <;> omega) | decide) only [go_sem, ↓reduceIte, Nat.reduceEqDiff, reduceCtorEq, Nat.reduceLT, Nat.reduceBEq, Nat.reduceAdd, Nat.reduceSub, Nat.reduceMul, Nat.reduceMod, b0, b3]
   refine hK6 _ ?_
   clear hK6 K6
   refine Tr.kp [0, 1, 2, 8, 24] ?_
   simp only [pk_cons, pk_nil, ↓A_cons, ↓reduceIte, Nat.reduceEqDiff]
   refine Tr.condG fun KT KF hT hF => ?_
   simp only [ev_tmp, ev_const, ↓A_cons, ↓reduceIte, Nat.reduceEqDiff, reduceCtorEq, condG_bool, GB_true, GB_false, decide_eq_true_eq]
   refine hT ?_
   clear hT hF KT KF
   refine Tr.seqK fun K7 hK7 => ?_
   refine Tr.rg hcx [1000025] _ [] rfl rfl rfl ?_
   simp -implicitDefEqProofs (maxSteps := 2000000) (disch := first | omega | (simp only [go_sem, List.length_append, List.length_drop, List.length_take, hb1] <;> omega) | decide) only [go_sem, ↓reduceIte, Nat.reduceEqDiff, reduceCtorEq, Nat.reduceLT, Nat.reduceBEq, Nat.reduceAdd, Nat.reduceSub, Nat.reduceMul, Nat.reduceMod, b0, b3]
   refine hK7 _ ?_
   clear hK7 K7
   refine Tr.kp [6, 7] ?_
   simp only [pk_cons, pk_nil, ↓A_cons, ↓reduceIte, Nat.reduceEqDiff]
   first | refine Tr.nil2 iC .no (by decide) ?_ | skip
   refine Tr.ret ?_
   simp -implicitDefEqProofs (disch := first | omega | (simp only [go_sem, List.length_append, List.length_drop, List.length_take, hb1] <;> omega) | decide) only [go_sem, ↓reduceIte, Nat.reduceEqDiff, reduceCtorEq]
   all_goals (first | (rw [gre_e b0]; try rfl) | (rw [wide_at b0 hc26 (by omega)]; try rfl) | (rw [gre_w b0 b3]; try rfl) | (rw [gre_0 b0 hA]; try rfl))
  ·
   replace b3 : wideW l w = false := by simpa using b3
   have hA := wideW_n b3
   refine Tr.rg hcx [] [some 16, some 17, some 18, some 19, some 20, some 21, some 22] [] rfl rfl rfl ?_
   simp -implicitDefEqProofs (maxSteps := 2000000) (disch := first | omega | (simp only [go_sem, List.length_append, List.length_drop, List.length_take, hb1] <;> omega) | decide) only [go_sem, ↓reduceIte, Nat.reduceEqDiff, reduceCtorEq, Nat.reduceLT, Nat.reduceBEq, Nat.reduceAdd, Nat.reduceSub, Nat.reduceMul, Nat.reduceMod, b0, b3, h27', h26']
   refine hK4 _ ?_
   clear hK4 K4
   refine Tr.kp [0, 1, 2, 8, 22] ?_
   simp only [pk_cons, pk_nil, ↓A_cons, ↓reduceIte, Nat.reduceEqDiff]
   refine Tr.condG fun KT KF hT hF => ?_
   simp only [ev_tmp, ev_const, ↓A_cons, ↓reduceIte, Nat.reduceEqDiff, reduceCtorEq, condG_bool, GB_true, GB_false, decide_eq_true_eq]
   refine hF ?_
   clear hT hF KT KF
   refine Tr.skip ?_
   refine hK3 _ ?_
   clear hK3 K3
   refine Tr.kp [0, 1, 2, 8] ?_
   simp only [pk_cons, pk_nil, ↓A_cons, ↓reduceIte, Nat.reduceEqDiff]
   refine Tr.seqK fun K8 hK8 => ?_
   refine Tr.seqK fun K9 hK9 => ?_
   refine Tr.rg hcx [] _ [] rfl rfl rfl ?_
   simp -implicitDefEqProofs (maxSteps := 2000000) (disch := first | omega | (simp only [go_sem, List.length_append, List.length_drop, List.length_take, hb1] <;> omega) | decide) only [go_sem, ↓reduceIte, Nat.reduceEqDiff, reduceCtorEq, Nat.reduceLT, Nat.reduceBEq, Nat.reduceAdd, Nat.reduceSub, Nat.reduceMul, Nat.reduceMod, b0, b3]
   refine hK9 _ ?_
   clear hK9 K9
   refine Tr.kp [0, 1, 2, 8, 24] ?_
   simp only [pk_cons, pk_nil, ↓A_cons, ↓reduceIte, Nat.reduceEqDiff]
   refine Tr.condG fun KT KF hT hF => ?_
   simp only [ev_tmp, ev_const, ↓A_cons, ↓reduceIte, Nat.reduceEqDiff, reduceCtorEq, condG_bool, GB_true, GB_false, decide_eq_true_eq]
   refine hF ?_
   clear hT hF KT KF
   refine Tr.skip ?_
   refine hK8 _ ?_
   clear hK8 K8
   refine Tr.kp [0, 1, 2] ?_
   simp only [pk_cons, pk_nil, ↓A_cons, ↓reduceIte, Nat.reduceEqDiff]
   refine Tr.seqK fun K10 hK10 => ?_
   refine Tr.rg hcx [] _ [] rfl rfl rfl ?_
   simp -implicitDefEqProofs (maxSteps := 2000000) (disch := first | omega | (simp only [go_sem, List.length_append, List.length_drop, List.length_take, hb1] <;> omega) | decide) only [go_sem, ↓reduceIte, Nat.reduceEqDiff, reduceCtorEq, Nat.reduceLT, Nat.reduceBEq, Nat.reduceAdd, Nat.reduceSub, Nat.reduceMul, Nat.reduceMod, b0, b3]
   refine hK10 _ ?_
   clear hK10 K10
   refine Tr.kp [0, 1, 2, 9] ?_
   simp only [pk_cons, pk_nil, ↓A_cons, ↓reduceIte, Nat.reduceEqDiff]
   refine Tr.seqK fun K11 hK11 => ?_
   refine Tr.rg hcx [] _ [] rfl rfl rfl ?_
   simp -implicitDefEqProofs (maxSteps := 2000000) (disch := first | omega | (simp only [go_sem, List.length_append, List.length_drop, List.length_take, hb1] <;> omega) | decide) only [go_sem, ↓reduceIte, Nat.reduceEqDiff, reduceCtorEq, Nat.reduceLT, Nat.reduceBEq, Nat.reduceAdd, Nat.reduceSub, Nat.reduceMul, Nat.reduceMod, b0, b3]
   refine hK11 _ ?_
   clear hK11 K11
   refine Tr.kp [0, 1, 2, 9, 10] ?_
   simp only [pk_cons, pk_nil, ↓A_cons, ↓reduceIte, Nat.reduceEqDiff]
   refine Tr.seqJ (α := Unit) (fun a => [(9, sl iC .no (greL l b w))]) (fun a => []) (fun a => True) ?ja_78 ?jb_78
   case ja_78 =>
    refine Tr.blk ?_
    refine Tr.loopI (α := (Nat × List Int)) (fun a => [(0, ?v0_80), (1, ?v1_80), (2, ?v2_80), (9, sl iC (.own 1) a.2), (10, .val (nI a.1))]) (fun a => ?h_80) (fun a => GS l b w a) (fun a => l.length - a.1) ((0, [])) (GS_0 hA) ?le_80 ?hh_80 ?bd_80
    case hh_80 => exact rfl
    case le_80 => (simp only [Le_nil, Le_cons, ↓A_cons, ↓reduceIte, Nat.reduceEqDiff, reduceCtorEq, CLe_refl, CLe_top, CLe_full, CLe_nil, CLe_own, and_true, true_and]; all_goals (repeat' first | exact CLe.refl _ | exact True.intro | (refine CLe_sln ?_; first | with_reducible rfl | (simp only [List.take_zero]; done) | (rfl; done)) | exact CLe_nI (by omega) | exact CLe_int (by omega) | exact CLe_inI (by omega) | exact CLe_nIi (by omega) | with_reducible apply And.intro)); all_goals exact CLe_sln rfl
    case bd_80 =>
     rintro ⟨f, out⟩ hg
     dsimp only at *
     have hg1 := hg.1
     have hg2 := hg.2.1
     simp only [] at hg1 hg2
     have hb1 := hg2
     refine Tr.seqK fun K12 hK12 => ?_
     refine Tr.seqK fun K13 hK13 => ?_
     refine Tr.rg hcx [] _ [] rfl rfl rfl ?_
     simp -implicitDefEqProofs (maxSteps := 2000000) (disch := first | omega | (simp only [go_sem, List.length_append, List.length_drop, List.length_take, hb1] <;> omega) | decide) only [go_sem, ↓reduceIte, Nat.reduceEqDiff, reduceCtorEq, Nat.reduceLT, Nat.reduceBEq, Nat.reduceAdd, Nat.reduceSub, Nat.reduceMul, Nat.reduceMod, b0, b3]
     refine hK13 _ ?_
     clear hK13 K13
     refine Tr.kp [0, 1, 2, 9, 10, 29] ?_
     simp only [pk_cons, pk_nil, ↓A_cons, ↓reduceIte, Nat.reduceEqDiff]
     refine Tr.condG fun KT KF hT hF => ?_
     simp only [ev_tmp, ev_const, ↓A_cons, ↓reduceIte, Nat.reduceEqDiff, reduceCtorEq, condG_bool, GB_true, GB_false, decide_eq_true_eq]
     refine GB.dec (fun hc29 => hT ?_) (fun hc29 => hF ?_)
     ·
      clear hT hF KT KF
      refine Tr.skip ?_
      refine hK12 _ ?_
      clear hK12 K12
      refine Tr.kp [0, 1, 2, 9, 10] ?_
      simp only [pk_cons, pk_nil, ↓A_cons, ↓reduceIte, Nat.reduceEqDiff]
      refine Tr.blk ?_
      refine Tr.seqK fun K14 hK14 => ?_
      refine Tr.rg hcx [1000031] _ [] rfl rfl rfl ?_
      simp -implicitDefEqProofs (maxSteps := 2000000) (disch := first | omega | (simp only [go_sem, List.length_append, List.length_drop, List.length_take, hb1] <;> omega) | decide) only [go_sem, ↓reduceIte, Nat.reduceEqDiff, reduceCtorEq, Nat.reduceLT, Nat.reduceBEq, Nat.reduceAdd, Nat.reduceSub, Nat.reduceMul, Nat.reduceMod, b0, b3]
      refine hK14 _ ?_
      clear hK14 K14
      refine Tr.kp [0, 1, 2, 9, 10, 11] ?_
      simp only [pk_cons, pk_nil, ↓A_cons, ↓reduceIte, Nat.reduceEqDiff]
      refine Tr.seqK fun K15 hK15 => ?_
      refine Tr.blk ?_
      refine Tr.loopI (α := Nat) (fun a => [(0, ?v0_92), (1, ?v1_92), (2, ?v2_92), (9, ?v9_92), (10, ?v10_92), (11, .val (nI a))]) (fun a => ?h_92) (fun a => f < a ∧ a ≤ l.length ∧ greR l b w a = ((f : Int), out)) (fun a => l.length - a) (f + 1) ⟨Nat.lt_succ_self _, hc29, hg.2.2.1 hc29⟩ ?le_92 ?hh_92 ?bd_92
      case hh_92 => exact rfl
      case le_92 => (simp only [Le_nil, Le_cons, ↓A_cons, ↓reduceIte, Nat.reduceEqDiff, reduceCtorEq, CLe_refl, CLe_top, CLe_full, CLe_nil, CLe_own, and_true, true_and]; all_goals (repeat' first | exact CLe.refl _ | exact True.intro | (refine CLe_sln ?_; first | with_reducible rfl | (simp only [List.take_zero]; done) | (rfl; done)) | exact CLe_nI (by omega) | exact CLe_int (by omega) | exact CLe_inI (by omega) | exact CLe_nIi (by omega) | with_reducible apply And.intro))
      case bd_92 =>
       rintro j ⟨hj1, hj2, hr⟩
       refine Tr.seqK fun K16 hK16 => ?_
       refine Tr.seqK fun K17 hK17 => ?_
       by_cases b4 : j < l.length
       ·
        have h42' := h42 l b w (f : Int) ((j : Int) + 1) hF ⟨by omega, by omega, by omega⟩
        have h42n : pu 42 [sl iC .no l, .val (.int .i64 b), .val (.int .i64 w), .val (nI f), .val (nI (j + 1))] = some (.val (.int .i64 (freR l b w (f : Int) ((j : Int) + 1)))) := h42'
        by_cases b5 : ((0 : Nat) : Int) ≤ freR l b w (f : Int) ((j : Int) + 1)
        ·
         refine Tr.rg hcx [] [some 32, some 33, some 34, some 35, some 36, some 37, some 38, some 39, some 40, some 41, some 42, some 43, some 44, some 45] [] rfl rfl rfl ?_
         simp -implicitDefEqProofs (maxSteps := 2000000) (disch := first | omega | (simp only [go_sem, List.length_append, List.length_drop, List.length_take, hb1] <;> omega) | decide) only [go_sem, ↓reduceIte, Nat.reduceEqDiff, reduceCtorEq, Nat.reduceLT, Nat.reduceBEq, Nat.reduceAdd, Nat.reduceSub, Nat.reduceMul, Nat.reduceMod, b0, b3, b4, b5, h42n]
         refine hK17 _ ?_
         clear hK17 K17
         refine Tr.kp [0, 1, 2, 9, 10, 11, 45] ?_
         simp only [pk_cons, pk_nil, ↓A_cons, ↓reduceIte, Nat.reduceEqDiff]
         refine Tr.condG fun KT KF hT hF => ?_
         simp only [ev_tmp, ev_const, ↓A_cons, ↓reduceIte, Nat.reduceEqDiff, reduceCtorEq, condG_bool, GB_true, GB_false, decide_eq_true_eq]
         refine hT ?_
         clear hT hF KT KF
         refine Tr.skip ?_
         refine hK16 _ ?_
         clear hK16 K16
         refine Tr.kp [0, 1, 2, 9, 10, 11] ?_
         simp only [pk_cons, pk_nil, ↓A_cons, ↓reduceIte, Nat.reduceEqDiff]
         refine Tr.blk ?_
         refine Tr.rg hcx [1000047] _ [] rfl rfl rfl ?_
         simp -implicitDefEqProofs (maxSteps := 2000000) (disch := first | omega | (simp only [go_sem, List.length_append, List.length_drop, List.length_take, hb1] <;> omega) | decide) only [go_sem, ↓reduceIte, Nat.reduceEqDiff, reduceCtorEq, Nat.reduceLT, Nat.reduceBEq, Nat.reduceAdd, Nat.reduceSub, Nat.reduceMul, Nat.reduceMod, b0, b3, b4, b5]
         refine ⟨j + 1, ⟨⟨by omega, by omega, by rw [greR_F (by rw [hr]; exact Int.not_lt.2 b5)]; exact hr⟩, by first | omega | (simp only []; omega)⟩, ?_, rfl⟩
         (simp only [Le_nil, Le_cons, ↓A_cons, ↓reduceIte, Nat.reduceEqDiff, reduceCtorEq, CLe_refl, CLe_top, CLe_full, CLe_nil, CLe_own, and_true, true_and]; all_goals (repeat' first | exact CLe.refl _ | exact True.intro | (refine CLe_sln ?_; first | with_reducible rfl | (simp only [List.take_zero]; done) | (rfl; done)) | exact CLe_nI (by omega) | exact CLe_int (by omega) | exact CLe_inI (by omega) | exact CLe_nIi (by omega) | with_reducible apply And.intro))
        ·
         refine Tr.rg hcx [] [some 32, some 33, some 34, some 35, some 36, some 37, some 38, some 39, some 40, some 41, some 42, some 43, some 44, some 45] [] rfl rfl rfl ?_
         simp -implicitDefEqProofs (maxSteps := 2000000) (disch := first | omega | (simp only [go_sem, List.length_append, List.length_drop, List.length_take, hb1] <;> omega) | decide) only [go_sem, ↓reduceIte, Nat.reduceEqDiff, reduceCtorEq, Nat.reduceLT, Nat.reduceBEq, Nat.reduceAdd, Nat.reduceSub, Nat.reduceMul, Nat.reduceMod, b0, b3, b4, b5, h42n]
         refine hK17 _ ?_
         clear hK17 K17
         refine Tr.kp [0, 1, 2, 9, 10, 11, 45] ?_
         simp only [pk_cons, pk_nil, ↓A_cons, ↓reduceIte, Nat.reduceEqDiff]
         refine Tr.condG fun KT KF hT hF => ?_
         simp only [ev_tmp, ev_const, ↓A_cons, ↓reduceIte, Nat.reduceEqDiff, reduceCtorEq, condG_bool, GB_true, GB_false, decide_eq_true_eq]
         refine hF ?_
         clear hT hF KT KF
         refine Tr.exit ?_
         refine hK15 _ ?_
         clear hK16 K16 hK15 K15
         refine Tr.kp [0, 1, 2, 9, 11] ?_
         simp only [pk_cons, pk_nil, ↓A_cons, ↓reduceIte, Nat.reduceEqDiff]
         refine Tr.seqK fun K18 hK18 => ?_
         refine Tr.rg hcx [48, 1000051] _ [] rfl rfl rfl ?_
         simp -implicitDefEqProofs (maxSteps := 2000000) (disch := first | omega | (simp only [go_sem, List.length_append, List.length_drop, List.length_take, hb1] <;> omega) | decide) only [go_sem, ↓reduceIte, Nat.reduceEqDiff, reduceCtorEq, Nat.reduceLT, Nat.reduceBEq, Nat.reduceAdd, Nat.reduceSub, Nat.reduceMul, Nat.reduceMod, b0, b3, b4, b5]
         refine hK18 _ ?_
         clear hK18 K18
         refine Tr.kp [0, 1, 2, 9, 11] ?_
         simp only [pk_cons, pk_nil, ↓A_cons, ↓reduceIte, Nat.reduceEqDiff]
         refine Tr.rg hcx [1000052] _ [] rfl rfl rfl ?_
         simp -implicitDefEqProofs (maxSteps := 2000000) (disch := first | omega | (simp only [go_sem, List.length_append, List.length_drop, List.length_take, hb1] <;> omega) | decide) only [go_sem, ↓reduceIte, Nat.reduceEqDiff, reduceCtorEq, Nat.reduceLT, Nat.reduceBEq, Nat.reduceAdd, Nat.reduceSub, Nat.reduceMul, Nat.reduceMod, b0, b3, b4, b5]
         refine ⟨(j, out ++ [(j : Int)]), ⟨GS_S hg hj1 hj2 hr (by first | (left; omega) | (right; omega)), by simp only []; omega⟩, ?_, rfl⟩
         (simp only [Le_nil, Le_cons, ↓A_cons, ↓reduceIte, Nat.reduceEqDiff, reduceCtorEq, CLe_refl, CLe_top, CLe_full, CLe_nil, CLe_own, and_true, true_and]; all_goals (repeat' first | exact CLe.refl _ | exact True.intro | (refine CLe_sln ?_; first | with_reducible rfl | (simp only [List.take_zero]; done) | (rfl; done)) | exact CLe_nI (by omega) | exact CLe_int (by omega) | exact CLe_inI (by omega) | exact CLe_nIi (by omega) | with_reducible apply And.intro))
       ·
        have h42n := True.intro
        refine Tr.rg hcx [] [some 32, some 33, some 34, some 35, some 36, some 37, some 38, some 39, some 40, some 41, some 42, some 43, some 44, some 45] [] rfl rfl rfl ?_
        simp -implicitDefEqProofs (maxSteps := 2000000) (disch := first | omega | (simp only [go_sem, List.length_append, List.length_drop, List.length_take, hb1] <;> omega) | decide) only [go_sem, ↓reduceIte, Nat.reduceEqDiff, reduceCtorEq, Nat.reduceLT, Nat.reduceBEq, Nat.reduceAdd, Nat.reduceSub, Nat.reduceMul, Nat.reduceMod, b0, b3, b4, h42n]
        refine hK17 _ ?_
        clear hK17 K17
        refine Tr.kp [0, 1, 2, 9, 10, 11, 45] ?_
        simp only [pk_cons, pk_nil, ↓A_cons, ↓reduceIte, Nat.reduceEqDiff]
        refine Tr.condG fun KT KF hT hF => ?_
        simp only [ev_tmp, ev_const, ↓A_cons, ↓reduceIte, Nat.reduceEqDiff, reduceCtorEq, condG_bool, GB_true, GB_false, decide_eq_true_eq]
        refine hF ?_
        clear hT hF KT KF
        refine Tr.exit ?_
        refine hK15 _ ?_
        clear hK16 K16 hK15 K15
        refine Tr.kp [0, 1, 2, 9, 11] ?_
        simp only [pk_cons, pk_nil, ↓A_cons, ↓reduceIte, Nat.reduceEqDiff]
        refine Tr.seqK fun K19 hK19 => ?_
        refine Tr.rg hcx [48, 1000051] _ [] rfl rfl rfl ?_
        simp -implicitDefEqProofs (maxSteps := 2000000) (disch := first | omega | (simp only [go_sem, List.length_append, List.length_drop, List.length_take, hb1] <;> omega) | decide) only [go_sem, ↓reduceIte, Nat.reduceEqDiff, reduceCtorEq, Nat.reduceLT, Nat.reduceBEq, Nat.reduceAdd, Nat.reduceSub, Nat.reduceMul, Nat.reduceMod, b0, b3, b4]
        refine hK19 _ ?_
        clear hK19 K19
        refine Tr.kp [0, 1, 2, 9, 11] ?_
        simp only [pk_cons, pk_nil, ↓A_cons, ↓reduceIte, Nat.reduceEqDiff]
        refine Tr.rg hcx [1000052] _ [] rfl rfl rfl ?_
        simp -implicitDefEqProofs (maxSteps := 2000000) (disch := first | omega | (simp only [go_sem, List.length_append, List.length_drop, List.length_take, hb1] <;> omega) | decide) only [go_sem, ↓reduceIte, Nat.reduceEqDiff, reduceCtorEq, Nat.reduceLT, Nat.reduceBEq, Nat.reduceAdd, Nat.reduceSub, Nat.reduceMul, Nat.reduceMod, b0, b3, b4]
        refine ⟨(j, out ++ [(j : Int)]), ⟨GS_S hg hj1 hj2 hr (by first | (left; omega) | (right; omega)), by simp only []; omega⟩, ?_, rfl⟩
        (simp only [Le_nil, Le_cons, ↓A_cons, ↓reduceIte, Nat.reduceEqDiff, reduceCtorEq, CLe_refl, CLe_top, CLe_full, CLe_nil, CLe_own, and_true, true_and]; all_goals (repeat' first | exact CLe.refl _ | exact True.intro | (refine CLe_sln ?_; first | with_reducible rfl | (simp only [List.take_zero]; done) | (rfl; done)) | exact CLe_nI (by omega) | exact CLe_int (by omega) | exact CLe_inI (by omega) | exact CLe_nIi (by omega) | with_reducible apply And.intro))
     ·
      clear hT hF KT KF
      have hfl : f = l.length := by omega
      have hfin := hg.2.2.2 hfl
      simp only [] at hfin
      refine Tr.exit ?_
      refine ⟨(), trivial, ?_, rfl⟩
      (simp only [Le_nil, Le_cons, ↓A_cons, ↓reduceIte, Nat.reduceEqDiff, reduceCtorEq, CLe_refl, CLe_top, CLe_full, CLe_nil, CLe_own, and_true, true_and]; all_goals (repeat' first | exact CLe.refl _ | exact True.intro | (refine CLe_sln ?_; first | with_reducible rfl | (simp only [List.take_zero]; done) | (rfl; done)) | exact CLe_nI (by omega) | exact CLe_int (by omega) | exact CLe_inI (by omega) | exact CLe_nIi (by omega) | with_reducible apply And.intro))
      all_goals (rw [← hfin]; exact CLe_ono _ _ _)
   case jb_78 =>
    rintro a ha
    refine Tr.seqK fun K20 hK20 => ?_
    refine Tr.rg hcx [1000053] _ [] rfl rfl rfl ?_
    simp -implicitDefEqProofs (maxSteps := 2000000) (disch := first | omega | (simp only [go_sem, List.length_append, List.length_drop, List.length_take, hb1] <;> omega) | decide) only [go_sem, ↓reduceIte, Nat.reduceEqDiff, reduceCtorEq, Nat.reduceLT, Nat.reduceBEq, Nat.reduceAdd, Nat.reduceSub, Nat.reduceMul, Nat.reduceMod, b0, b3]
    refine hK20 _ ?_
    clear hK20 K20
    refine Tr.kp [6, 7] ?_
    simp only [pk_cons, pk_nil, ↓A_cons, ↓reduceIte, Nat.reduceEqDiff]
    first | refine Tr.nil2 iC .no (by decide) ?_ | skip
    refine Tr.ret ?_
    simp -implicitDefEqProofs (disch := first | omega | (simp only [go_sem, List.length_append, List.length_drop, List.length_take, hb1] <;> omega) | decide) only [go_sem, ↓reduceIte, Nat.reduceEqDiff, reduceCtorEq]
    all_goals (first | (rw [gre_e b0]; try rfl) | (rw [wide_at b0 hc26 (by omega)]; try rfl) | (rw [gre_w b0 b3]; try rfl) | (rw [gre_0 b0 hA]; try rfl))
 ·
  skip
  refine Tr.rg hcx [1000015] _ [] rfl rfl rfl ?_
  simp -implicitDefEqProofs (maxSteps := 2000000) (disch := first | omega | (simp only [go_sem, List.length_append, List.length_drop, List.length_take, hb1] <;> omega) | decide) only [go_sem, ↓reduceIte, Nat.reduceEqDiff, reduceCtorEq, Nat.reduceLT, Nat.reduceBEq, Nat.reduceAdd, Nat.reduceSub, Nat.reduceMul, Nat.reduceMod, b0, h27']
  refine hK2 _ ?_
  clear hK2 K2
  refine Tr.kp [0, 1, 2, 8] ?_
  simp only [pk_cons, pk_nil, ↓A_cons, ↓reduceIte, Nat.reduceEqDiff]
  refine Tr.seqK fun K21 hK21 => ?_
  refine Tr.seqK fun K22 hK22 => ?_
  refine Tr.rg hcx [] [some 16, some 17, some 18, some 19, some 20, some 21, some 22] [] rfl rfl rfl ?_
  simp -implicitDefEqProofs (maxSteps := 2000000) (disch := first | omega | (simp only [go_sem, List.length_append, List.length_drop, List.length_take, hb1] <;> omega) | decide) only [go_sem, ↓reduceIte, Nat.reduceEqDiff, reduceCtorEq, Nat.reduceLT, Nat.reduceBEq, Nat.reduceAdd, Nat.reduceSub, Nat.reduceMul, Nat.reduceMod, b0, h27', h26']
  refine hK22 _ ?_
  clear hK22 K22
  refine Tr.kp [0, 1, 2, 8, 22] ?_
  simp only [pk_cons, pk_nil, ↓A_cons, ↓reduceIte, Nat.reduceEqDiff]
  refine Tr.condG fun KT KF hT hF => ?_
  simp only [ev_tmp, ev_const, ↓A_cons, ↓reduceIte, Nat.reduceEqDiff, reduceCtorEq, condG_bool, GB_true, GB_false, decide_eq_true_eq]
  refine hF ?_
  clear hT hF KT KF
  refine Tr.skip ?_
  refine hK21 _ ?_
  clear hK21 K21
  refine Tr.kp [0, 1, 2, 8] ?_
  simp only [pk_cons, pk_nil, ↓A_cons, ↓reduceIte, Nat.reduceEqDiff]
  refine Tr.seqK fun K23 hK23 => ?_
  refine Tr.seqK fun K24 hK24 => ?_
  refine Tr.rg hcx [] _ [] rfl rfl rfl ?_
  simp -implicitDefEqProofs (maxSteps := 2000000) (disch := first | omega | (simp only [go_sem, List.length_append, List.length_drop, List.length_take, hb1] <;> omega) | decide) only [go_sem, ↓reduceIte, Nat.reduceEqDiff, reduceCtorEq, Nat.reduceLT, Nat.reduceBEq, Nat.reduceAdd, Nat.reduceSub, Nat.reduceMul, Nat.reduceMod, b0]
  refine hK24 _ ?_
  clear hK24 K24
  refine Tr.kp [0, 1, 2, 8, 24] ?_
  simp only [pk_cons, pk_nil, ↓A_cons, ↓reduceIte, Nat.reduceEqDiff]
  refine Tr.condG fun KT KF hT hF => ?_
  simp only [ev_tmp, ev_const, ↓A_cons, ↓reduceIte, Nat.reduceEqDiff, reduceCtorEq, condG_bool, GB_true, GB_false, decide_eq_true_eq]
  refine hT ?_
  clear hT hF KT KF
  refine Tr.seqK fun K25 hK25 => ?_
  refine Tr.rg hcx [1000025] _ [] rfl rfl rfl ?_
  simp -implicitDefEqProofs (maxSteps := 2000000) (disch := first | omega | (simp only [go_sem, List.length_append, List.length_drop, List.length_take, hb1] <;> omega) | decide) only [go_sem, ↓reduceIte, Nat.reduceEqDiff, reduceCtorEq, Nat.reduceLT, Nat.reduceBEq, Nat.reduceAdd, Nat.reduceSub, Nat.reduceMul, Nat.reduceMod, b0]
  refine hK25 _ ?_
  clear hK25 K25
  refine Tr.kp [6, 7] ?_
  simp only [pk_cons, pk_nil, ↓A_cons, ↓reduceIte, Nat.reduceEqDiff]
  first | refine Tr.nil2 iC .no (by decide) ?_ | skip
  refine Tr.ret ?_
  simp -implicitDefEqProofs (disch := first | omega | (simp only [go_sem, List.length_append, List.length_drop, List.length_take, hb1] <;> omega) | decide) only [go_sem, ↓reduceIte, Nat.reduceEqDiff, reduceCtorEq]
  all_goals (first | (rw [gre_e b0]; try rfl) | (rw [wide_at b0 hc26 (by omega)]; try rfl) | (rw [gre_w b0 b3]; try rfl) | (rw [gre_0 b0 hA]; try rfl))
end Go.Sx
namespace Go.Sx
def rngOK (L K : List Int) (n : Nat) : Prop := ∀ k, k < n + 1 → 0 ≤ gt L k ∧ gt L k ≤ 256 ∧ 0 ≤ gt K k ∧ gt K k ≤ 4294967296
def bef (l : List Int) (b w : Int) (L K : List Int) (i j : Nat) : Bool := befI (gt L j + 1) (gt K j + priR l b w (i : Int) (j : Int)) (gt L i) (gt K i)
def lowOK (l : List Int) (b w : Int) (L K : List Int) (i : Nat) : Prop := ∀ j, j < l.length + 1 → i < j → (∀ m, m < j + 1 → i < m → 0 ≤ freR l b w (i : Int) (m : Int)) → bef l b w L K i j = false
def shwP (l : List Int) (b w : Int) (L K : List Int) : Prop := L.length = l.length + 1 ∧ K.length = l.length + 1 ∧ rngOK L K l.length ∧ (∀ i, i < l.length → lowOK l b w L K i) ∧ gt L l.length = 0 ∧ gt K l.length = 0
instance (L K : List Int) (n : Nat) : Decidable (rngOK L K n) := by unfold rngOK; infer_instance
instance (l : List Int) (b w : Int) (L K : List Int) (i : Nat) : Decidable (lowOK l b w L K i) := by unfold lowOK; infer_instance
instance (l : List Int) (b w : Int) (L K : List Int) : Decidable (shwP l b w L K) := by unfold shwP; infer_instance
def chkT (l : List Int) (b w : Int) (E L K : List Int) : Nat :=
  if errE l b w ≠ 0 then errE l b w else if (costT l b w E).2.2 = 0 ∧ shwP l b w L K ∧ gt L 0 = ((costT l b w E).1 : Int) ∧ gt K 0 = (costT l b w E).2.1 then 0 else 17
section
variable {l : List Int} {b w : Int} {E L K : List Int}
theorem chk_e (h : ¬ errE l b w = 0) : chkT l b w E L K = errE l b w := if_pos h
theorem chk_0 (h : errE l b w = 0) (h1 : (costT l b w E).2.2 = 0) (h2 : shwP l b w L K) (h3 : gt L 0 = ((costT l b w E).1 : Int)) (h4 : gt K 0 = (costT l b w E).2.1) : chkT l b w E L K = 0 := by
  unfold chkT; rw [if_neg (by simp [h]), if_pos ⟨h1, h2, h3, h4⟩]
theorem chk_17 (h : errE l b w = 0) (hx : ¬ ((costT l b w E).2.2 = 0 ∧ shwP l b w L K ∧ gt L 0 = ((costT l b w E).1 : Int) ∧ gt K 0 = (costT l b w E).2.1)) : chkT l b w E L K = 17 := by
  unfold chkT; rw [if_neg (by simp [h]), if_neg hx]
theorem low_of {i j : Nat} (h : ∀ m, i < m → m < j → bef l b w L K i m = false) (hij : i < j) (hx : j = l.length + 1 ∨ freR l b w (i : Int) (j : Int) < 0) : lowOK l b w L K i := fun k hk hik hf => by
  by_cases hkj : k < j
  · exact h k hik hkj
  · rcases hx with hx | hx
    · omega
    · have := hf j (by omega) hij
      omega
theorem low_no {i j : Nat} (hij : i < j) (hj : j ≤ l.length) (hf : ∀ m, i < m → m ≤ j → 0 ≤ freR l b w (i : Int) (m : Int)) (hb : bef l b w L K i j = true) : ¬ lowOK l b w L K i := fun h => by
  have := h j (by omega) hij (fun m hm him => hf m him (by omega))
  rw [hb] at this; cases this
end
end Go.Sx
