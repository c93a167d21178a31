/-
  Package breaks: the model's Fill. And what follows.
-/
import Derived.Test.YtljjjkmiegeocaaPar
import Derived.Test.YtljjjkmiegeocaaPaj
set_option linter.unusedSimpArgs false
set_option linter.unusedVariables false
namespace Go.Sx
open Go.RowKit Go.Proofs
theorem Tr.certM {cx : Cx} (hcx : CxOK cx) {c : Code} {v : Value} {o L K : List Int} {m : Nat} {x3 x4 : Option (List C)} {Q : Ex → St → Prop} (hL : m = L.length) (hK : m = K.length) (hm : 0 < m)
    (H : ∀ r, Tr cx 0 c ⟨A [(6, .bp 0 0), (7, .val v)], some [sl iC .no o, sl iC .no L, sl iC .no K] :: r⟩ Q) :
    Tr cx 0 c ⟨A [(6, .bp 0 0), (7, .val v)], [some [sl iC .no o, .sv 1 0 m, .sv 2 0 m], some (cl iC L), some (cl iC K), x3, x4]⟩ Q := by
  have h0 : ∀ (z : List C), liveC (some (sl iC .no o :: z)) = some (sl iC .no o :: z) := fun z => rfl
  refine Tr.fzA hcx 1 (cl iC L) (by simp only [at_consS, at_cons0]; exact liv_i L (by omega)) (Nat.zero_le _) (fun j hj => absurd hj (Nat.not_lt_zero j)) ?_
  simp only [mapE_cons, mapE_nil, fzY_cl, fzH, List.map_cons, List.map_nil, Option.map_some, fzCs_cons, fzCs_nil, fzCs_cl, fzC_sl, fzC_val, fzC_bp, fzC_sv, sv_full L m hL, okF_eq, at_cons0, at_consS, h0, liv_i K (by omega), List.set_cons_succ, List.set_cons_zero, ↓reduceIte, Nat.reduceEqDiff, Option.isSome_some, Bool.true_and, reduceCtorEq, Nat.reduceBNe, show ((0 : Nat) != 1) = true from rfl, show ((2 : Nat) != 1) = true from rfl, show ((0 : Nat) = 1) = False from eq_false (by decide)]
  refine Tr.fzA hcx 2 (cl iC K) (by simp only [at_consS, at_cons0]; exact liv_i K (by omega)) (Nat.zero_le _) (fun j hj => absurd hj (Nat.not_lt_zero j)) ?_
  simp only [mapE_cons, mapE_nil, fzY_cl, fzH, List.map_cons, List.map_nil, Option.map_some, fzCs_cons, fzCs_nil, fzCs_cl, fzC_sl, fzC_val, fzC_bp, fzC_sv, sv_full K m hK, okF_eq, at_cons0, at_consS, h0, List.set_cons_succ, List.set_cons_zero, ↓reduceIte, Nat.reduceEqDiff, Option.isSome_some, Bool.true_and, reduceCtorEq, Nat.reduceBNe, show ((0 : Nat) != 2) = true from rfl, show ((0 : Nat) = 2) = False from eq_false (by decide)]
  exact H _
theorem gt_sete (l : List Int) (k : Nat) (x : Int) (h : k < l.length) : gt (l.set k x) k = x := by rw [gt_set _ _ _ _ h, if_pos rfl]
theorem gt_setn (l : List Int) (k j : Nat) (x : Int) (h : k ≠ j) : gt (l.set k x) j = gt l j := by
  simp only [gt, List.getD, List.getElem?_set]
  rw [if_neg h]
theorem int_nI {x : Int} {k : Nat} (h : x = (k : Int)) : C.val (.int .i64 x) = C.val (nI k) := by subst h; rfl
set_option maxRecDepth 100000 in
set_option maxHeartbeats 8000000 in
theorem fc12 {gl : Nat → C} {M : Nat} {pu : Nat → List C → Option C}  (hcx : CxOK (cxP gl M pu)) (h26 : ∀ (l : List Int) (w : Int), LI l → pu 26 [sl iC .no l, .val (.int .i64 w)] = some (.val (.bool (wideW l w)))) (h27 : ∀ (l : List Int) (b w : Int), LI l → (-9223372036854775808 ≤ b ∧ b ≤ 9223372036854775807) → (-9223372036854775808 ≤ w ∧ w ≤ 9223372036854775807) → pu 27 [sl iC .no l, .val (.int .i64 b), .val (.int .i64 w)] = some (.val (nI (errE l b w)))) (h42 : ∀ (l : List Int) (b w i j : Int), Fine l b w → 0 ≤ i ∧ i < j ∧ j ≤ l.length → pu 42 [sl iC .no l, .val (.int .i64 b), .val (.int .i64 w), .val (.int .i64 i), .val (.int .i64 j)] = some (.val (.int .i64 (freR l b w i j)))) (h43 : ∀ (l : List Int) (b w i j : Int), Fine l b w → 0 ≤ i ∧ i < j ∧ j ≤ l.length → pu 43 [sl iC .no l, .val (.int .i64 b), .val (.int .i64 w), .val (.int .i64 i), .val (.int .i64 j)] = some (.val (.int .i64 (priR l b w i j)))) (l : List Int) (b w : Int) (hl : LI l) (hb : -9223372036854775808 ≤ b ∧ b ≤ 9223372036854775807) (hw : -9223372036854775808 ≤ w ∧ w ≤ 9223372036854775807) : FC Try.prog gl 12 [sl iC .no l, .val (.int .i64 b), .val (.int .i64 w)] [] (.tup [.agg [sl iC .no (fillT l b w).1, sl iC .no (fillT l b w).2.1, sl iC .no (fillT l b w).2.2.1], .val (nI (fillT l b w).2.2.2)]) [] := by
 replace hcx := hcx.reN (M := 144)
 refine FC.ofA (cx := cxP gl 144 pu) (rs := [.cell 6 32, .tmp 7]) rfl Try.func12 rfl rfl rfl (by simp only [List.length_cons, List.length_nil]; decide) (by simp only [go_sem]) ?_
 simp only [ini, go_sem]
 have hl1 := hl.1
 have h27' := h27 l b w hl hb hw
 have h26' := h26 l w hl
 have hsL := True.intro
 have hsK := True.intro
 have hsF := True.intro
 refine Tr.seqK fun K1 hK1 => ?_
 refine Tr.rg hcx [] _ [none] rfl rfl rfl ?_
 simp -implicitDefEqProofs (maxSteps := 2000000) (disch := first | omega | (simp only [go_sem, List.length_append, List.length_drop, List.length_take, hsL, hsK, hsF] <;> omega) | decide) only [go_sem, ↓reduceIte, Nat.reduceEqDiff, reduceCtorEq, Nat.reduceLT, Nat.reduceBEq, Nat.reduceAdd, Nat.reduceSub, Nat.reduceMul, Nat.reduceMod, hsL, hsK, hsF, List.set_set, List.length_set, decide_not, Bool.or_true, Bool.true_or, Bool.or_false, Bool.false_or, decide_true, decide_false]
 refine hK1 _ ?_
 clear hK1 K1
 refine Tr.kp [0, 1, 2, 6] ?_
 simp only [pk_cons, pk_nil, ↓A_cons, ↓reduceIte, Nat.reduceEqDiff]
 refine Tr.seqK fun K2 hK2 => ?_
 by_cases b0 : errE l b w = 0
 ·
  have hF := errE_0.1 b0
  have hF1 := hF.1
  rw [b0] at h27'
  refine Tr.rg hcx [1000020] _ [] rfl rfl rfl ?_
  simp -implicitDefEqProofs (maxSteps := 2000000) (disch := first | omega | (simp only [go_sem, List.length_append, List.length_drop, List.length_take, hsL, hsK, hsF] <;> omega) | decide) only [go_sem, ↓reduceIte, Nat.reduceEqDiff, reduceCtorEq, Nat.reduceLT, Nat.reduceBEq, Nat.reduceAdd, Nat.reduceSub, Nat.reduceMul, Nat.reduceMod, hsL, hsK, hsF, List.set_set, List.length_set, decide_not, Bool.or_true, Bool.true_or, Bool.or_false, Bool.false_or, decide_true, decide_false, b0, h27']
  refine hK2 _ ?_
  clear hK2 K2
  refine Tr.kp [0, 1, 2, 6, 8] ?_
  simp only [pk_cons, pk_nil, ↓A_cons, ↓reduceIte, Nat.reduceEqDiff]
  refine Tr.seqK fun K3 hK3 => ?_
  refine Tr.seqK fun K4 hK4 => ?_
  by_cases b3 : wideW l w = true
  ·
   skip
   refine Tr.rg hcx [] [some 21, some 22, some 23, some 24, some 25, some 26, some 27] [] rfl rfl rfl ?_
   simp -implicitDefEqProofs (maxSteps := 2000000) (disch := first | omega | (simp only [go_sem, List.length_append, List.length_drop, List.length_take, hsL, hsK, hsF] <;> omega) | decide) only [go_sem, ↓reduceIte, Nat.reduceEqDiff, reduceCtorEq, Nat.reduceLT, Nat.reduceBEq, Nat.reduceAdd, Nat.reduceSub, Nat.reduceMul, Nat.reduceMod, hsL, hsK, hsF, List.set_set, List.length_set, decide_not, Bool.or_true, Bool.true_or, Bool.or_false, Bool.false_or, decide_true, decide_false, b0, b3, h27', h26']
   refine hK4 _ ?_
   clear hK4 K4
   refine Tr.kp [0, 1, 2, 6, 8, 27] ?_
   simp only [pk_cons, pk_nil, ↓A_cons, ↓reduceIte, Nat.reduceEqDiff]
   refine Tr.condG fun KT KF hT hF => ?_
   simp only [ev_tmp, ev_const, ↓A_cons, ↓reduceIte, Nat.reduceEqDiff, reduceCtorEq, condG_bool, GB_true, GB_false, decide_eq_true_eq]
   refine hT ?_
   clear hT hF KT KF
   refine Tr.rg hcx [] _ [] rfl rfl rfl ?_
   simp -implicitDefEqProofs (maxSteps := 2000000) (disch := first | omega | (simp only [go_sem, List.length_append, List.length_drop, List.length_take, hsL, hsK, hsF] <;> omega) | decide) only [go_sem, ↓reduceIte, Nat.reduceEqDiff, reduceCtorEq, Nat.reduceLT, Nat.reduceBEq, Nat.reduceAdd, Nat.reduceSub, Nat.reduceMul, Nat.reduceMod, hsL, hsK, hsF, List.set_set, List.length_set, decide_not, Bool.or_true, Bool.true_or, Bool.or_false, Bool.false_or, decide_true, decide_false, b0, b3]
   refine hK3 _ ?_
   clear hK3 K3
   refine Tr.kp [0, 1, 2, 6, 8] ?_
   simp only [pk_cons, pk_nil, ↓A_cons, ↓reduceIte, Nat.reduceEqDiff]
   refine Tr.seqK fun K5 hK5 => ?_
   refine Tr.seqK fun K6 hK6 => ?_
   refine Tr.rg hcx [] _ [] rfl rfl rfl ?_
   simp -implicitDefEqProofs (maxSteps := 2000000) (disch := first | omega | (simp only [go_sem, List.length_append, List.length_drop, List.length_take, hsL, hsK, hsF] <;> omega) | decide) only [go_sem, ↓reduceIte, Nat.reduceEqDiff, reduceCtorEq, Nat.reduceLT, Nat.reduceBEq, Nat.reduceAdd, Nat.reduceSub, Nat.reduceMul, Nat.reduceMod, hsL, hsK, hsF, List.set_set, List.length_set, decide_not, Bool.or_true, Bool.true_or, Bool.or_false, Bool.false_or, decide_true, decide_false, b0, b3]
   refine hK6 _ ?_
   clear hK6 K6
   refine Tr.kp [0, 1, 2, 6, 8, 29] ?_
   simp only [pk_cons, pk_nil, ↓A_cons, ↓reduceIte, Nat.reduceEqDiff]
   refine Tr.condG fun KT KF hT hF => ?_
   simp only [ev_tmp, ev_const, ↓A_cons, ↓reduceIte, Nat.reduceEqDiff, reduceCtorEq, condG_bool, GB_true, GB_false, decide_eq_true_eq]
   refine hT ?_
   clear hT hF KT KF
   refine Tr.seqK fun K7 hK7 => ?_
   refine Tr.rg hcx [1000031] _ [] rfl rfl rfl ?_
   simp -implicitDefEqProofs (maxSteps := 2000000) (disch := first | omega | (simp only [go_sem, List.length_append, List.length_drop, List.length_take, hsL, hsK, hsF] <;> omega) | decide) only [go_sem, ↓reduceIte, Nat.reduceEqDiff, reduceCtorEq, Nat.reduceLT, Nat.reduceBEq, Nat.reduceAdd, Nat.reduceSub, Nat.reduceMul, Nat.reduceMod, hsL, hsK, hsF, List.set_set, List.length_set, decide_not, Bool.or_true, Bool.true_or, Bool.or_false, Bool.false_or, decide_true, decide_false, b0, b3]
   refine hK7 _ ?_
   clear hK7 K7
   refine Tr.kp [6, 7] ?_
   simp only [pk_cons, pk_nil, ↓A_cons, ↓reduceIte, Nat.reduceEqDiff]
   first | refine Tr.cert0 ?_ | (refine Tr.certM hcx (by rw [(dp_len l b w l.length).1]) (by rw [(dp_len l b w l.length).2]) (Nat.succ_pos _) fun _ => ?_)
   refine Tr.ret ?_
   simp -implicitDefEqProofs (disch := first | omega | (simp only [go_sem, List.length_append, List.length_drop, List.length_take, hsL, hsK, hsF] <;> omega) | decide) only [go_sem, ↓reduceIte, Nat.reduceEqDiff, reduceCtorEq]
   all_goals (first | (rw [fill_e b0]; try rfl) | (rw [fill_w b0 b3]; try rfl) | (rw [fill_0 b0 hA, ← hr]; try rfl))
  ·
   replace b3 : wideW l w = false := by simpa using b3
   have hA := wideW_n b3
   refine Tr.rg hcx [] [some 21, some 22, some 23, some 24, some 25, some 26, some 27] [] rfl rfl rfl ?_
   simp -implicitDefEqProofs (maxSteps := 2000000) (disch := first | omega | (simp only [go_sem, List.length_append, List.length_drop, List.length_take, hsL, hsK, hsF] <;> omega) | decide) only [go_sem, ↓reduceIte, Nat.reduceEqDiff, reduceCtorEq, Nat.reduceLT, Nat.reduceBEq, Nat.reduceAdd, Nat.reduceSub, Nat.reduceMul, Nat.reduceMod, hsL, hsK, hsF, List.set_set, List.length_set, decide_not, Bool.or_true, Bool.true_or, Bool.or_false, Bool.false_or, decide_true, decide_false, b0, b3, h27', h26']
   refine hK4 _ ?_
   clear hK4 K4
   refine Tr.kp [0, 1, 2, 6, 8, 27] ?_
   simp only [pk_cons, pk_nil, ↓A_cons, ↓reduceIte, Nat.reduceEqDiff]
   refine Tr.condG fun KT KF hT hF => ?_
   simp only [ev_tmp, ev_const, ↓A_cons, ↓reduceIte, Nat.reduceEqDiff, reduceCtorEq, condG_bool, GB_true, GB_false, decide_eq_true_eq]
   refine hF ?_
   clear hT hF KT KF
   refine Tr.skip ?_
   refine hK3 _ ?_
   clear hK3 K3
   refine Tr.kp [0, 1, 2, 6, 8] ?_
   simp only [pk_cons, pk_nil, ↓A_cons, ↓reduceIte, Nat.reduceEqDiff]
   refine Tr.seqK fun K8 hK8 => ?_
   refine Tr.seqK fun K9 hK9 => ?_
   refine Tr.rg hcx [] _ [] rfl rfl rfl ?_
   simp -implicitDefEqProofs (maxSteps := 2000000) (disch := first | omega | (simp only [go_sem, List.length_append, List.length_drop, List.length_take, hsL, hsK, hsF] <;> omega) | decide) only [go_sem, ↓reduceIte, Nat.reduceEqDiff, reduceCtorEq, Nat.reduceLT, Nat.reduceBEq, Nat.reduceAdd, Nat.reduceSub, Nat.reduceMul, Nat.reduceMod, hsL, hsK, hsF, List.set_set, List.length_set, decide_not, Bool.or_true, Bool.true_or, Bool.or_false, Bool.false_or, decide_true, decide_false, b0, b3]
   refine hK9 _ ?_
   clear hK9 K9
   refine Tr.kp [0, 1, 2, 6, 8, 29] ?_
   simp only [pk_cons, pk_nil, ↓A_cons, ↓reduceIte, Nat.reduceEqDiff]
   refine Tr.condG fun KT KF hT hF => ?_
   simp only [ev_tmp, ev_const, ↓A_cons, ↓reduceIte, Nat.reduceEqDiff, reduceCtorEq, condG_bool, GB_true, GB_false, decide_eq_true_eq]
   refine hF ?_
   clear hT hF KT KF
   refine Tr.skip ?_
   refine hK8 _ ?_
   clear hK8 K8
   refine Tr.kp [0, 1, 2, 6] ?_
   simp only [pk_cons, pk_nil, ↓A_cons, ↓reduceIte, Nat.reduceEqDiff]
   refine Tr.seqK fun K10 hK10 => ?_
   refine Tr.rg hcx [1000033] _ [] rfl rfl rfl ?_
   simp -implicitDefEqProofs (maxSteps := 2000000) (disch := first | omega | (simp only [go_sem, List.length_append, List.length_drop, List.length_take, hsL, hsK, hsF] <;> omega) | decide) only [go_sem, ↓reduceIte, Nat.reduceEqDiff, reduceCtorEq, Nat.reduceLT, Nat.reduceBEq, Nat.reduceAdd, Nat.reduceSub, Nat.reduceMul, Nat.reduceMod, hsL, hsK, hsF, List.set_set, List.length_set, decide_not, Bool.or_true, Bool.true_or, Bool.or_false, Bool.false_or, decide_true, decide_false, b0, b3]
   refine hK10 _ ?_
   clear hK10 K10
   refine Tr.kp [0, 1, 2, 6, 9] ?_
   simp only [pk_cons, pk_nil, ↓A_cons, ↓reduceIte, Nat.reduceEqDiff]
   refine Tr.seqK fun K11 hK11 => ?_
   refine Tr.rgD hcx hMO [] _ [none, none, none] rfl rfl rfl rfl ?_
   simp -implicitDefEqProofs (maxSteps := 2000000) (disch := first | omega | (simp only [go_sem, List.length_append, List.length_drop, List.length_take, hsL, hsK, hsF] <;> omega) | decide) only [go_sem, ↓reduceIte, Nat.reduceEqDiff, reduceCtorEq, Nat.reduceLT, Nat.reduceBEq, Nat.reduceAdd, Nat.reduceSub, Nat.reduceMul, Nat.reduceMod, hsL, hsK, hsF, List.set_set, List.length_set, decide_not, Bool.or_true, Bool.true_or, Bool.or_false, Bool.false_or, decide_true, decide_false, b0, b3]
   with_reducible refine And.intro ?_ ?_
   · exact rfl
   refine hK11 _ ?_
   clear hK11 K11
   refine Tr.kp [0, 1, 2, 6, 9, 10] ?_
   simp only [pk_cons, pk_nil, ↓A_cons, ↓reduceIte, Nat.reduceEqDiff]
   refine Tr.seqK fun K12 hK12 => ?_
   refine Tr.rg hcx [1000043] _ [none] rfl rfl rfl ?_
   simp -implicitDefEqProofs (maxSteps := 2000000) (disch := first | omega | (simp only [go_sem, List.length_append, List.length_drop, List.length_take, hsL, hsK, hsF] <;> omega) | decide) only [go_sem, ↓reduceIte, Nat.reduceEqDiff, reduceCtorEq, Nat.reduceLT, Nat.reduceBEq, Nat.reduceAdd, Nat.reduceSub, Nat.reduceMul, Nat.reduceMod, hsL, hsK, hsF, List.set_set, List.length_set, decide_not, Bool.or_true, Bool.true_or, Bool.or_false, Bool.false_or, decide_true, decide_false, b0, b3]
   refine hK12 _ ?_
   clear hK12 K12
   refine Tr.kp [0, 1, 2, 6, 9, 10, 11] ?_
   simp only [pk_cons, pk_nil, ↓A_cons, ↓reduceIte, Nat.reduceEqDiff]
   refine Tr.seqK fun K13 hK13 => ?_
   refine Tr.seqK fun K14 hK14 => ?_
   refine Tr.rg hcx [1000045] _ [] rfl rfl rfl ?_
   simp -implicitDefEqProofs (maxSteps := 2000000) (disch := first | omega | (simp only [go_sem, List.length_append, List.length_drop, List.length_take, hsL, hsK, hsF] <;> omega) | decide) only [go_sem, ↓reduceIte, Nat.reduceEqDiff, reduceCtorEq, Nat.reduceLT, Nat.reduceBEq, Nat.reduceAdd, Nat.reduceSub, Nat.reduceMul, Nat.reduceMod, hsL, hsK, hsF, List.set_set, List.length_set, decide_not, Bool.or_true, Bool.true_or, Bool.or_false, Bool.false_or, decide_true, decide_false, b0, b3, n_subG]
   refine hK14 _ ?_
   clear hK14 K14
   refine Tr.kp [0, 1, 2, 6, 9, 10, 11, 12] ?_
   simp only [pk_cons, pk_nil, ↓A_cons, ↓reduceIte, Nat.reduceEqDiff]
   refine Tr.blk ?_
   refine Tr.loopI (α := Nat) (fun a => [(0, ?v0_28), (1, ?v1_28), (2, ?v2_28), (6, ?v6_28), (9, ?v9_28), (10, ?v10_28), (11, ?v11_28), (12, .val (.int .i64 ((l.length : Int) - 1 - (a : Int))))]) (fun a => [some [.val (.slice none 0 0), .val (.slice none 0 0), .val (.slice none 0 0)], some (cl iC (dp l b w a).1), some (cl iC (dp l b w a).2), some [.val (.slice none 0 0), .sv 1 0 (l.length + 1), .sv 2 0 (l.length + 1)], some (cl iC (FL l b w (l.length + 1) a))]) (fun a => a ≤ l.length) (fun a => l.length - a) (0) (Nat.zero_le _) ?le_28 ?hh_28 ?bd_28
   case hh_28 => exact by rw [FL_0]; rfl
   case le_28 => (simp only [Le_nil, Le_cons, ↓A_cons, ↓reduceIte, Nat.reduceEqDiff, reduceCtorEq, CLe_refl, CLe_top, CLe_full, CLe_nil, CLe_own, and_true, true_and]; all_goals (repeat' first | exact CLe.refl _ | exact True.intro | (refine CLe_sln ?_; first | with_reducible rfl | (simp only [List.take_zero]; done) | (rfl; done)) | exact CLe_nI (by omega) | exact CLe_int (by omega) | exact CLe_inI (by omega) | exact CLe_nIi (by omega) | with_reducible apply And.intro)); all_goals exact CLe_int (by omega)
   case bd_28 =>
    rintro c hc
    refine Tr.seqK fun K15 hK15 => ?_
    refine Tr.seqK fun K16 hK16 => ?_
    by_cases c1 : c < l.length
    ·
     have c1o := c1
     have hsL := (dp_len l b w c).1
     have hsK := (dp_len l b w c).2
     have hsF := FL_len l b w (l.length + 1) c
     generalize hk : l.length - 1 - c = k
     rw [int_nI (show ((l.length : Int) - 1 - (c : Int)) = (k : Int) by omega)]
     have hkw := hA k (by omega)
     have hgk := hF.2.2.2 k (by omega)
     refine Tr.rg hcx [] _ [] rfl rfl rfl ?_
     simp -implicitDefEqProofs (maxSteps := 2000000) (disch := first | omega | (simp only [go_sem, List.length_append, List.length_drop, List.length_take, hsL, hsK, hsF] <;> omega) | decide) only [go_sem, ↓reduceIte, Nat.reduceEqDiff, reduceCtorEq, Nat.reduceLT, Nat.reduceBEq, Nat.reduceAdd, Nat.reduceSub, Nat.reduceMul, Nat.reduceMod, hsL, hsK, hsF, List.set_set, List.length_set, decide_not, Bool.or_true, Bool.true_or, Bool.or_false, Bool.false_or, decide_true, decide_false, b0, b3, c1]
     refine hK16 _ ?_
     clear hK16 K16
     refine Tr.kp [0, 1, 2, 6, 9, 10, 11, 12, 47] ?_
     simp only [pk_cons, pk_nil, ↓A_cons, ↓reduceIte, Nat.reduceEqDiff]
     refine Tr.condG fun KT KF hT hF => ?_
     simp only [ev_tmp, ev_const, ↓A_cons, ↓reduceIte, Nat.reduceEqDiff, reduceCtorEq, condG_bool, GB_true, GB_false, decide_eq_true_eq]
     refine GB.pos ((by first | exact decide_eq_true (by omega) | omega)) (hT ?_)
     clear hT hF KT KF
     refine Tr.skip ?_
     refine hK15 _ ?_
     clear hK15 K15
     refine Tr.kp [0, 1, 2, 6, 9, 10, 11, 12] ?_
     simp only [pk_cons, pk_nil, ↓A_cons, ↓reduceIte, Nat.reduceEqDiff]
     refine Tr.seqK fun K17 hK17 => ?_
     refine Tr.blk ?_
     refine Tr.seqK fun K18 hK18 => ?_
     refine Tr.rg hcx [1000051] _ [] rfl rfl rfl ?_
     simp -implicitDefEqProofs (maxSteps := 2000000) (disch := first | omega | (simp only [go_sem, List.length_append, List.length_drop, List.length_take, hsL, hsK, hsF] <;> omega) | decide) only [go_sem, ↓reduceIte, Nat.reduceEqDiff, reduceCtorEq, Nat.reduceLT, Nat.reduceBEq, Nat.reduceAdd, Nat.reduceSub, Nat.reduceMul, Nat.reduceMod, hsL, hsK, hsF, List.set_set, List.length_set, decide_not, Bool.or_true, Bool.true_or, Bool.or_false, Bool.false_or, decide_true, decide_false, b0, b3, c1]
     refine hK18 _ ?_
     clear hK18 K18
     refine Tr.kp [0, 1, 2, 6, 9, 10, 11, 12, 13] ?_
     simp only [pk_cons, pk_nil, ↓A_cons, ↓reduceIte, Nat.reduceEqDiff]
     refine Tr.blk ?_
     refine Tr.loopI (α := Nat) (fun a => [(0, ?v0_40), (1, ?v1_40), (2, ?v2_40), (6, ?v6_40), (9, ?v9_40), (10, ?v10_40), (11, ?v11_40), (12, ?v12_40), (13, .val (nI (k + 1 + a)))]) (fun a => [some [.val (.slice none 0 0), .val (.slice none 0 0), .val (.slice none 0 0)], some (cl iC (if a = 0 then (dp l b w c).1 else (dp l b w c).1.set k (bst l b w (dp l b w c).1 (dp l b w c).2 k a).1)), some (cl iC (if a = 0 then (dp l b w c).2 else (dp l b w c).2.set k (bst l b w (dp l b w c).1 (dp l b w c).2 k a).2.1)), some [.val (.slice none 0 0), .sv 1 0 (l.length + 1), .sv 2 0 (l.length + 1)], some (cl iC (if a = 0 then FL l b w (l.length + 1) c else (FL l b w (l.length + 1) c).set k (((bst l b w (dp l b w c).1 (dp l b w c).2 k a).2.2 : Nat) : Int)))]) (fun a => k + 1 + a ≤ l.length + 1 ∧ ∀ q, q < a → 0 ≤ freR l b w (k : Int) ((k + 1 + q : Nat) : Int)) (fun a => l.length + 1 - a) (0) ⟨by omega, fun q hq => absurd hq (Nat.not_lt_zero q)⟩ ?le_40 ?hh_40 ?bd_40
     case hh_40 => exact rfl
     case le_40 => (simp only [Le_nil, Le_cons, ↓A_cons, ↓reduceIte, Nat.reduceEqDiff, reduceCtorEq, CLe_refl, CLe_top, CLe_full, CLe_nil, CLe_own, and_true, true_and]; all_goals (repeat' first | exact CLe.refl _ | exact True.intro | (refine CLe_sln ?_; first | with_reducible rfl | (simp only [List.take_zero]; done) | (rfl; done)) | exact CLe_nI (by omega) | exact CLe_int (by omega) | exact CLe_inI (by omega) | exact CLe_nIi (by omega) | with_reducible apply And.intro)); all_goals exact CLe_nI (by omega)
     case bd_40 =>
      rintro m ⟨hm, hfr⟩
      refine Tr.seqK fun K19 hK19 => ?_
      refine Tr.seqK fun K20 hK20 => ?_
      by_cases e1 : k + 1 + m ≤ l.length
      ·
       have e1o := e1
       replace e1 := eq_true e1
       have h42m : pu 42 [sl iC .no l, .val (.int .i64 b), .val (.int .i64 w), .val (nI k), .val (nI (k + 1 + m))] = some (.val (.int .i64 (freR l b w (k : Int) ((k + 1 + m : Nat) : Int)))) := h42 l b w (k : Int) (((k + 1 + m) : Nat) : Int) hF ⟨by omega, by omega, by omega⟩
       have h43m :  pu 43 [sl iC .no l, .val (.int .i64 b), .val (.int .i64 w), .val (nI k), .val (nI (k + 1 + m))] = some (.val (.int .i64 (priR l b w (k : Int) ((k + 1 + m : Nat) : Int)))) := h43 l b w (k : Int) (((k + 1 + m) : Nat) : Int) hF ⟨by omega, by omega, by omega⟩
       have hpb := priR_b hF (i := (k : Int)) (j := (((k + 1 + m) : Nat) : Int)) (by omega) (by omega)
       have hdb := dp_bc hF c (by omega) (fun q h1 h2 => hA q h2) ((k + 1 + m)) (by omega)
       refine Tr.rg hcx [] _ [] rfl rfl rfl ?_
       simp -implicitDefEqProofs (maxSteps := 2000000) (disch := first | omega | (simp only [go_sem, List.length_append, List.length_drop, List.length_take, hsL, hsK, hsF] <;> omega) | decide) only [go_sem, ↓reduceIte, Nat.reduceEqDiff, reduceCtorEq, Nat.reduceLT, Nat.reduceBEq, Nat.reduceAdd, Nat.reduceSub, Nat.reduceMul, Nat.reduceMod, hsL, hsK, hsF, List.set_set, List.length_set, decide_not, Bool.or_true, Bool.true_or, Bool.or_false, Bool.false_or, decide_true, decide_false, b0, b3, c1, e1]
       refine hK20 _ ?_
       clear hK20 K20
       refine Tr.kp [0, 1, 2, 6, 9, 10, 11, 12, 13, 54] ?_
       simp only [pk_cons, pk_nil, ↓A_cons, ↓reduceIte, Nat.reduceEqDiff]
       refine Tr.condG fun KT KF hT hF => ?_
       simp only [ev_tmp, ev_const, ↓A_cons, ↓reduceIte, Nat.reduceEqDiff, reduceCtorEq, condG_bool, GB_true, GB_false, decide_eq_true_eq]
       refine hT ?_
       clear hT hF KT KF
       refine Tr.skip ?_
       refine hK19 _ ?_
       clear hK19 K19
       refine Tr.kp [0, 1, 2, 6, 9, 10, 11, 12, 13] ?_
       simp only [pk_cons, pk_nil, ↓A_cons, ↓reduceIte, Nat.reduceEqDiff]
       refine Tr.seqK fun K21 hK21 => ?_
       refine Tr.blk ?_
       refine Tr.seqK fun K22 hK22 => ?_
       refine Tr.seqK fun K23 hK23 => ?_
       refine Tr.rg hcx [] _ [] rfl rfl rfl ?_
       simp -implicitDefEqProofs (maxSteps := 2000000) (disch := first | omega | (simp only [go_sem, List.length_append, List.length_drop, List.length_take, hsL, hsK, hsF] <;> omega) | decide) only [go_sem, ↓reduceIte, Nat.reduceEqDiff, reduceCtorEq, Nat.reduceLT, Nat.reduceBEq, Nat.reduceAdd, Nat.reduceSub, Nat.reduceMul, Nat.reduceMod, hsL, hsK, hsF, List.set_set, List.length_set, decide_not, Bool.or_true, Bool.true_or, Bool.or_false, Bool.false_or, decide_true, decide_false, b0, b3, c1, e1, h42m]
       refine hK23 _ ?_
       clear hK23 K23
       refine Tr.kp [0, 1, 2, 6, 9, 10, 11, 12, 13, 63] ?_
       simp only [pk_cons, pk_nil, ↓A_cons, ↓reduceIte, Nat.reduceEqDiff]
       refine Tr.condG fun KT KF hT hF => ?_
       simp only [ev_tmp, ev_const, ↓A_cons, ↓reduceIte, Nat.reduceEqDiff, reduceCtorEq, condG_bool, GB_true, GB_false, decide_eq_true_eq]
       refine GB.dec (fun hc63 => hT ?_) (fun hc63 => hF ?_)
       ·
        clear hT hF KT KF
        refine Tr.exit ?_
        refine hK17 _ ?_
        clear hK22 K22 hK21 K21 hK17 K17
        refine Tr.kp [0, 1, 2, 6, 9, 10, 11, 12] ?_
        simp only [pk_cons, pk_nil, ↓A_cons, ↓reduceIte, Nat.reduceEqDiff]
        have hm0 : ¬ m = 0 := fun h => by subst h; have hx := freR_1 (l := l) (b := b) (w := w) k; rw [show (k : Int) + 1 = ((k + 1 + 0 : Nat) : Int) by omega] at hx; omega
        have hm0f : (m = 0) = False := eq_false hm0
        have hfit := fit_of (l := l) (b := b) (w := w) (k := k) (c := m) (by omega) hfr (by first | (left; omega) | (right; omega))
        have hnx : nxt l b w k = (bst l b w (dp l b w c).1 (dp l b w c).2 k m).2.2 := by unfold nxt bs; rw [show l.length - 1 - k = c by omega, show l.length - 1 - c = k by omega, hfit]
        refine Tr.rg hcx [1000049] _ [] rfl rfl rfl ?_
        simp -implicitDefEqProofs (maxSteps := 2000000) (disch := first | omega | (simp only [go_sem, List.length_append, List.length_drop, List.length_take, hsL, hsK, hsF] <;> omega) | decide) only [go_sem, ↓reduceIte, Nat.reduceEqDiff, reduceCtorEq, Nat.reduceLT, Nat.reduceBEq, Nat.reduceAdd, Nat.reduceSub, Nat.reduceMul, Nat.reduceMod, hsL, hsK, hsF, List.set_set, List.length_set, decide_not, Bool.or_true, Bool.true_or, Bool.or_false, Bool.false_or, decide_true, decide_false, b0, b3, c1, e1, hm0f, n_subG]
        refine ⟨c + 1, ⟨by omega, by first | omega | (simp only []; omega)⟩, ?_, by dsimp only; rw [← FL_S (by omega) (by omega), hk, hnx]; simp only [dp, hk, hfit, hm0f, if_false]⟩
        (simp only [Le_nil, Le_cons, ↓A_cons, ↓reduceIte, Nat.reduceEqDiff, reduceCtorEq, CLe_refl, CLe_top, CLe_full, CLe_nil, CLe_own, and_true, true_and]; all_goals (repeat' first | exact CLe.refl _ | exact True.intro | (refine CLe_sln ?_; first | with_reducible rfl | (simp only [List.take_zero]; done) | (rfl; done)) | exact CLe_nI (by omega) | exact CLe_int (by omega) | exact CLe_inI (by omega) | exact CLe_nIi (by omega) | with_reducible apply And.intro))
        all_goals exact CLe_int (by omega)
       ·
        clear hT hF KT KF
        refine Tr.skip ?_
        refine hK22 _ ?_
        clear hK22 K22
        refine Tr.kp [0, 1, 2, 6, 9, 10, 11, 12, 13] ?_
        simp only [pk_cons, pk_nil, ↓A_cons, ↓reduceIte, Nat.reduceEqDiff]
        refine Tr.seqK fun K24 hK24 => ?_
        by_cases m0 : m = 0
        ·
         have m0o := m0
         replace m0 := eq_true m0
         have hbs := bst_T (l := l) (b := b) (w := w) (L := (dp l b w c).1) (K := (dp l b w c).2) (k := k) (m := m) (.inl m0o)
         have hj1 : (k + 1 + m = k + 1) = True := eq_true (by omega)
         refine Tr.rg hcx [1000069] _ [] rfl rfl rfl ?_
         simp -implicitDefEqProofs (maxSteps := 2000000) (disch := first | omega | (simp only [go_sem, List.length_append, List.length_drop, List.length_take, hsL, hsK, hsF] <;> omega) | decide) only [go_sem, ↓reduceIte, Nat.reduceEqDiff, reduceCtorEq, Nat.reduceLT, Nat.reduceBEq, Nat.reduceAdd, Nat.reduceSub, Nat.reduceMul, Nat.reduceMod, hsL, hsK, hsF, List.set_set, List.length_set, decide_not, Bool.or_true, Bool.true_or, Bool.or_false, Bool.false_or, decide_true, decide_false, b0, b3, c1, e1, m0, gt_setn]
         refine hK24 _ ?_
         clear hK24 K24
         refine Tr.kp [0, 1, 2, 6, 9, 10, 11, 12, 13, 14] ?_
         simp only [pk_cons, pk_nil, ↓A_cons, ↓reduceIte, Nat.reduceEqDiff]
         refine Tr.seqK fun K25 hK25 => ?_
         refine Tr.rgD hcx hMO [1000081] _ [] rfl rfl rfl rfl ?_
         simp -implicitDefEqProofs (maxSteps := 2000000) (disch := first | omega | (simp only [go_sem, List.length_append, List.length_drop, List.length_take, hsL, hsK, hsF] <;> omega) | decide) only [go_sem, ↓reduceIte, Nat.reduceEqDiff, reduceCtorEq, Nat.reduceLT, Nat.reduceBEq, Nat.reduceAdd, Nat.reduceSub, Nat.reduceMul, Nat.reduceMod, hsL, hsK, hsF, List.set_set, List.length_set, decide_not, Bool.or_true, Bool.true_or, Bool.or_false, Bool.false_or, decide_true, decide_false, b0, b3, c1, e1, m0, h43m, gt_setn]
         with_reducible refine And.intro ?_ ?_
         · exact rfl
         refine hK25 _ ?_
         clear hK25 K25
         refine Tr.kp [0, 1, 2, 6, 9, 10, 11, 12, 13, 14, 15] ?_
         simp only [pk_cons, pk_nil, ↓A_cons, ↓reduceIte, Nat.reduceEqDiff]
         refine Tr.seqK fun K26 hK26 => ?_
         refine Tr.rg hcx [] [some 82, some 83, some 84, some 85, some 86, some 87, some 88, some 89, some 90, some 91, some 92, some 93, some 94, some 95, some 96, some 97, some 98, some 99, some 100, some 101, some 102, some 103, some 104, some 105, some 106, some 107, some 108, some 109, some 110, some 111, some 112] [] rfl rfl rfl ?_
         simp -implicitDefEqProofs (maxSteps := 2000000) (disch := first | omega | (simp only [go_sem, List.length_append, List.length_drop, List.length_take, hsL, hsK, hsF] <;> omega) | decide) only [go_sem, ↓reduceIte, Nat.reduceEqDiff, reduceCtorEq, Nat.reduceLT, Nat.reduceBEq, Nat.reduceAdd, Nat.reduceSub, Nat.reduceMul, Nat.reduceMod, hsL, hsK, hsF, List.set_set, List.length_set, decide_not, Bool.or_true, Bool.true_or, Bool.or_false, Bool.false_or, decide_true, decide_false, b0, b3, c1, e1, m0, hj1, gt_sete]
         refine hK26 _ ?_
         clear hK26 K26
         refine Tr.kp [0, 1, 2, 6, 9, 10, 11, 12, 13, 14, 15, 112] ?_
         simp only [pk_cons, pk_nil, ↓A_cons, ↓reduceIte, Nat.reduceEqDiff]
         refine Tr.condG fun KT KF hT hF => ?_
         simp only [ev_tmp, ev_const, ↓A_cons, ↓reduceIte, Nat.reduceEqDiff, reduceCtorEq, condG_bool, GB_true, GB_false, decide_eq_true_eq]
         refine hT ?_
         clear hT hF KT KF
         refine Tr.seqK fun K27 hK27 => ?_
         refine Tr.rg hcx [] _ [] rfl rfl rfl ?_
         simp -implicitDefEqProofs (maxSteps := 2000000) (disch := first | omega | (simp only [go_sem, List.length_append, List.length_drop, List.length_take, hsL, hsK, hsF] <;> omega) | decide) only [go_sem, ↓reduceIte, Nat.reduceEqDiff, reduceCtorEq, Nat.reduceLT, Nat.reduceBEq, Nat.reduceAdd, Nat.reduceSub, Nat.reduceMul, Nat.reduceMod, hsL, hsK, hsF, List.set_set, List.length_set, decide_not, Bool.or_true, Bool.true_or, Bool.or_false, Bool.false_or, decide_true, decide_false, b0, b3, c1, e1, m0]
         refine hK27 _ ?_
         clear hK27 K27
         refine Tr.kp [0, 1, 2, 6, 9, 10, 11, 12, 13, 15] ?_
         simp only [pk_cons, pk_nil, ↓A_cons, ↓reduceIte, Nat.reduceEqDiff]
         refine Tr.seqK fun K28 hK28 => ?_
         refine Tr.rg hcx [] _ [] rfl rfl rfl ?_
         simp -implicitDefEqProofs (maxSteps := 2000000) (disch := first | omega | (simp only [go_sem, List.length_append, List.length_drop, List.length_take, hsL, hsK, hsF] <;> omega) | decide) only [go_sem, ↓reduceIte, Nat.reduceEqDiff, reduceCtorEq, Nat.reduceLT, Nat.reduceBEq, Nat.reduceAdd, Nat.reduceSub, Nat.reduceMul, Nat.reduceMod, hsL, hsK, hsF, List.set_set, List.length_set, decide_not, Bool.or_true, Bool.true_or, Bool.or_false, Bool.false_or, decide_true, decide_false, b0, b3, c1, e1, m0]
         refine hK28 _ ?_
         clear hK28 K28
         refine Tr.kp [0, 1, 2, 6, 9, 10, 11, 12, 13] ?_
         simp only [pk_cons, pk_nil, ↓A_cons, ↓reduceIte, Nat.reduceEqDiff]
         refine Tr.rg hcx [] _ [] rfl rfl rfl ?_
         simp -implicitDefEqProofs (maxSteps := 2000000) (disch := first | omega | (simp only [go_sem, List.length_append, List.length_drop, List.length_take, hsL, hsK, hsF] <;> omega) | decide) only [go_sem, ↓reduceIte, Nat.reduceEqDiff, reduceCtorEq, Nat.reduceLT, Nat.reduceBEq, Nat.reduceAdd, Nat.reduceSub, Nat.reduceMul, Nat.reduceMod, hsL, hsK, hsF, List.set_set, List.length_set, decide_not, Bool.or_true, Bool.true_or, Bool.or_false, Bool.false_or, decide_true, decide_false, b0, b3, c1, e1, m0]
         refine hK21 _ ?_
         clear hK21 K21
         refine Tr.kp [0, 1, 2, 6, 9, 10, 11, 12, 13] ?_
         simp only [pk_cons, pk_nil, ↓A_cons, ↓reduceIte, Nat.reduceEqDiff]
         refine Tr.rg hcx [1000056] _ [] rfl rfl rfl ?_
         simp -implicitDefEqProofs (maxSteps := 2000000) (disch := first | omega | (simp only [go_sem, List.length_append, List.length_drop, List.length_take, hsL, hsK, hsF] <;> omega) | decide) only [go_sem, ↓reduceIte, Nat.reduceEqDiff, reduceCtorEq, Nat.reduceLT, Nat.reduceBEq, Nat.reduceAdd, Nat.reduceSub, Nat.reduceMul, Nat.reduceMod, hsL, hsK, hsF, List.set_set, List.length_set, decide_not, Bool.or_true, Bool.true_or, Bool.or_false, Bool.false_or, decide_true, decide_false, b0, b3, c1, e1, m0]
         refine ⟨m + 1, ⟨⟨by omega, fun q hq => (Nat.lt_or_eq_of_le (Nat.le_of_lt_succ hq)).elim (hfr q) (fun e => e ▸ (by omega))⟩, by first | omega | (simp only []; omega)⟩, ?_, by dsimp only; rw [if_neg (Nat.succ_ne_zero m), if_neg (Nat.succ_ne_zero m), if_neg (Nat.succ_ne_zero m), hbs]; try (first | rfl | (rw [List.set_set, List.set_set, List.set_set]))⟩
         (simp only [Le_nil, Le_cons, ↓A_cons, ↓reduceIte, Nat.reduceEqDiff, reduceCtorEq, CLe_refl, CLe_top, CLe_full, CLe_nil, CLe_own, and_true, true_and]; all_goals (repeat' first | exact CLe.refl _ | exact True.intro | (refine CLe_sln ?_; first | with_reducible rfl | (simp only [List.take_zero]; done) | (rfl; done)) | exact CLe_nI (by omega) | exact CLe_int (by omega) | exact CLe_inI (by omega) | exact CLe_nIi (by omega) | with_reducible apply And.intro))
        ·
         have m0o := m0
         replace m0 := eq_false m0
         have hj1 : (k + 1 + m = k + 1) = False := eq_false (by omega)
         refine Tr.rg hcx [1000069] _ [] rfl rfl rfl ?_
         simp -implicitDefEqProofs (maxSteps := 2000000) (disch := first | omega | (simp only [go_sem, List.length_append, List.length_drop, List.length_take, hsL, hsK, hsF] <;> omega) | decide) only [go_sem, ↓reduceIte, Nat.reduceEqDiff, reduceCtorEq, Nat.reduceLT, Nat.reduceBEq, Nat.reduceAdd, Nat.reduceSub, Nat.reduceMul, Nat.reduceMod, hsL, hsK, hsF, List.set_set, List.length_set, decide_not, Bool.or_true, Bool.true_or, Bool.or_false, Bool.false_or, decide_true, decide_false, b0, b3, c1, e1, m0, gt_setn]
         refine hK24 _ ?_
         clear hK24 K24
         refine Tr.kp [0, 1, 2, 6, 9, 10, 11, 12, 13, 14] ?_
         simp only [pk_cons, pk_nil, ↓A_cons, ↓reduceIte, Nat.reduceEqDiff]
         refine Tr.seqK fun K29 hK29 => ?_
         refine Tr.rgD hcx hMO [1000081] _ [] rfl rfl rfl rfl ?_
         simp -implicitDefEqProofs (maxSteps := 2000000) (disch := first | omega | (simp only [go_sem, List.length_append, List.length_drop, List.length_take, hsL, hsK, hsF] <;> omega) | decide) only [go_sem, ↓reduceIte, Nat.reduceEqDiff, reduceCtorEq, Nat.reduceLT, Nat.reduceBEq, Nat.reduceAdd, Nat.reduceSub, Nat.reduceMul, Nat.reduceMod, hsL, hsK, hsF, List.set_set, List.length_set, decide_not, Bool.or_true, Bool.true_or, Bool.or_false, Bool.false_or, decide_true, decide_false, b0, b3, c1, e1, m0, h43m, gt_setn]
         with_reducible refine And.intro ?_ ?_
         · exact rfl
         refine hK29 _ ?_
         clear hK29 K29
         refine Tr.kp [0, 1, 2, 6, 9, 10, 11, 12, 13, 14, 15] ?_
         simp only [pk_cons, pk_nil, ↓A_cons, ↓reduceIte, Nat.reduceEqDiff]
         refine Tr.seqK fun K30 hK30 => ?_
         by_cases q1 : gt (dp l b w c).1 (k + 1 + m) + ((1 : Nat) : Int) < (bst l b w (dp l b w c).1 (dp l b w c).2 k m).1
         ·
          have q1o := q1
          replace q1 := eq_true q1
          have hbs := bst_T (l := l) (b := b) (w := w) (L := (dp l b w c).1) (K := (dp l b w c).2) (k := k) (m := m) (.inr (decide_eq_true (by omega)))
          refine Tr.rg hcx [] [some 82, some 83, some 84, some 85, some 86, some 87, some 88, some 89, some 90, some 91, some 92, some 93, some 94, some 95, some 96, some 97, some 98, some 99, some 100, some 101, some 102, some 103, some 104, some 105, some 106, some 107, some 108, some 109, some 110, some 111, some 112] [] rfl rfl rfl ?_
          simp -implicitDefEqProofs (maxSteps := 2000000) (disch := first | omega | (simp only [go_sem, List.length_append, List.length_drop, List.length_take, hsL, hsK, hsF] <;> omega) | decide) only [go_sem, ↓reduceIte, Nat.reduceEqDiff, reduceCtorEq, Nat.reduceLT, Nat.reduceBEq, Nat.reduceAdd, Nat.reduceSub, Nat.reduceMul, Nat.reduceMod, hsL, hsK, hsF, List.set_set, List.length_set, decide_not, Bool.or_true, Bool.true_or, Bool.or_false, Bool.false_or, decide_true, decide_false, b0, b3, c1, e1, m0, q1, hj1, gt_sete]
          refine hK30 _ ?_
          clear hK30 K30
          refine Tr.kp [0, 1, 2, 6, 9, 10, 11, 12, 13, 14, 15, 112] ?_
          simp only [pk_cons, pk_nil, ↓A_cons, ↓reduceIte, Nat.reduceEqDiff]
          refine Tr.condG fun KT KF hT hF => ?_
          simp only [ev_tmp, ev_const, ↓A_cons, ↓reduceIte, Nat.reduceEqDiff, reduceCtorEq, condG_bool, GB_true, GB_false, decide_eq_true_eq]
          refine hT ?_
          clear hT hF KT KF
          refine Tr.seqK fun K31 hK31 => ?_
          refine Tr.rg hcx [] _ [] rfl rfl rfl ?_
          simp -implicitDefEqProofs (maxSteps := 2000000) (disch := first | omega | (simp only [go_sem, List.length_append, List.length_drop, List.length_take, hsL, hsK, hsF] <;> omega) | decide) only [go_sem, ↓reduceIte, Nat.reduceEqDiff, reduceCtorEq, Nat.reduceLT, Nat.reduceBEq, Nat.reduceAdd, Nat.reduceSub, Nat.reduceMul, Nat.reduceMod, hsL, hsK, hsF, List.set_set, List.length_set, decide_not, Bool.or_true, Bool.true_or, Bool.or_false, Bool.false_or, decide_true, decide_false, b0, b3, c1, e1, m0, q1]
          refine hK31 _ ?_
          clear hK31 K31
          refine Tr.kp [0, 1, 2, 6, 9, 10, 11, 12, 13, 15] ?_
          simp only [pk_cons, pk_nil, ↓A_cons, ↓reduceIte, Nat.reduceEqDiff]
          refine Tr.seqK fun K32 hK32 => ?_
          refine Tr.rg hcx [] _ [] rfl rfl rfl ?_
          simp -implicitDefEqProofs (maxSteps := 2000000) (disch := first | omega | (simp only [go_sem, List.length_append, List.length_drop, List.length_take, hsL, hsK, hsF] <;> omega) | decide) only [go_sem, ↓reduceIte, Nat.reduceEqDiff, reduceCtorEq, Nat.reduceLT, Nat.reduceBEq, Nat.reduceAdd, Nat.reduceSub, Nat.reduceMul, Nat.reduceMod, hsL, hsK, hsF, List.set_set, List.length_set, decide_not, Bool.or_true, Bool.true_or, Bool.or_false, Bool.false_or, decide_true, decide_false, b0, b3, c1, e1, m0, q1]
          refine hK32 _ ?_
          clear hK32 K32
          refine Tr.kp [0, 1, 2, 6, 9, 10, 11, 12, 13] ?_
          simp only [pk_cons, pk_nil, ↓A_cons, ↓reduceIte, Nat.reduceEqDiff]
          refine Tr.rg hcx [] _ [] rfl rfl rfl ?_
          simp -implicitDefEqProofs (maxSteps := 2000000) (disch := first | omega | (simp only [go_sem, List.length_append, List.length_drop, List.length_take, hsL, hsK, hsF] <;> omega) | decide) only [go_sem, ↓reduceIte, Nat.reduceEqDiff, reduceCtorEq, Nat.reduceLT, Nat.reduceBEq, Nat.reduceAdd, Nat.reduceSub, Nat.reduceMul, Nat.reduceMod, hsL, hsK, hsF, List.set_set, List.length_set, decide_not, Bool.or_true, Bool.true_or, Bool.or_false, Bool.false_or, decide_true, decide_false, b0, b3, c1, e1, m0, q1]
          refine hK21 _ ?_
          clear hK21 K21
          refine Tr.kp [0, 1, 2, 6, 9, 10, 11, 12, 13] ?_
          simp only [pk_cons, pk_nil, ↓A_cons, ↓reduceIte, Nat.reduceEqDiff]
          refine Tr.rg hcx [1000056] _ [] rfl rfl rfl ?_
          simp -implicitDefEqProofs (maxSteps := 2000000) (disch := first | omega | (simp only [go_sem, List.length_append, List.length_drop, List.length_take, hsL, hsK, hsF] <;> omega) | decide) only [go_sem, ↓reduceIte, Nat.reduceEqDiff, reduceCtorEq, Nat.reduceLT, Nat.reduceBEq, Nat.reduceAdd, Nat.reduceSub, Nat.reduceMul, Nat.reduceMod, hsL, hsK, hsF, List.set_set, List.length_set, decide_not, Bool.or_true, Bool.true_or, Bool.or_false, Bool.false_or, decide_true, decide_false, b0, b3, c1, e1, m0, q1]
          refine ⟨m + 1, ⟨⟨by omega, fun q hq => (Nat.lt_or_eq_of_le (Nat.le_of_lt_succ hq)).elim (hfr q) (fun e => e ▸ (by omega))⟩, by first | omega | (simp only []; omega)⟩, ?_, by dsimp only; rw [if_neg (Nat.succ_ne_zero m), if_neg (Nat.succ_ne_zero m), if_neg (Nat.succ_ne_zero m), hbs]; try (first | rfl | (rw [List.set_set, List.set_set, List.set_set]))⟩
          (simp only [Le_nil, Le_cons, ↓A_cons, ↓reduceIte, Nat.reduceEqDiff, reduceCtorEq, CLe_refl, CLe_top, CLe_full, CLe_nil, CLe_own, and_true, true_and]; all_goals (repeat' first | exact CLe.refl _ | exact True.intro | (refine CLe_sln ?_; first | with_reducible rfl | (simp only [List.take_zero]; done) | (rfl; done)) | exact CLe_nI (by omega) | exact CLe_int (by omega) | exact CLe_inI (by omega) | exact CLe_nIi (by omega) | with_reducible apply And.intro))
         ·
          have q1o := q1
          replace q1 := eq_false q1
          by_cases q2 : gt (dp l b w c).1 (k + 1 + m) + ((1 : Nat) : Int) = (bst l b w (dp l b w c).1 (dp l b w c).2 k m).1
          ·
           have q2o := q2
           replace q2 := eq_true q2
           by_cases q3 : gt (dp l b w c).2 (k + 1 + m) + priR l b w (k : Int) (((k + 1 + m) : Nat) : Int) < (bst l b w (dp l b w c).1 (dp l b w c).2 k m).2.1
           ·
            have q3o := q3
            replace q3 := eq_true q3
            have hbs := bst_T (l := l) (b := b) (w := w) (L := (dp l b w c).1) (K := (dp l b w c).2) (k := k) (m := m) (.inr (decide_eq_true (by omega)))
            refine Tr.rg hcx [] [some 82, some 83, some 84, some 85, some 86, some 87, some 88, some 89, some 90, some 91, some 92, some 93, some 94, some 95, some 96, some 97, some 98, some 99, some 100, some 101, some 102, some 103, some 104, some 105, some 106, some 107, some 108, some 109, some 110, some 111, some 112] [] rfl rfl rfl ?_
            simp -implicitDefEqProofs (maxSteps := 2000000) (disch := first | omega | (simp only [go_sem, List.length_append, List.length_drop, List.length_take, hsL, hsK, hsF] <;> omega) | decide) only [go_sem, ↓reduceIte, Nat.reduceEqDiff, reduceCtorEq, Nat.reduceLT, Nat.reduceBEq, Nat.reduceAdd, Nat.reduceSub, Nat.reduceMul, Nat.reduceMod, hsL, hsK, hsF, List.set_set, List.length_set, decide_not, Bool.or_true, Bool.true_or, Bool.or_false, Bool.false_or, decide_true, decide_false, b0, b3, c1, e1, m0, q1, q2, q3, hj1, gt_sete]
            refine hK30 _ ?_
            clear hK30 K30
            refine Tr.kp [0, 1, 2, 6, 9, 10, 11, 12, 13, 14, 15, 112] ?_
            simp only [pk_cons, pk_nil, ↓A_cons, ↓reduceIte, Nat.reduceEqDiff]
            refine Tr.condG fun KT KF hT hF => ?_
            simp only [ev_tmp, ev_const, ↓A_cons, ↓reduceIte, Nat.reduceEqDiff, reduceCtorEq, condG_bool, GB_true, GB_false, decide_eq_true_eq]
            refine hT ?_
            clear hT hF KT KF
            refine Tr.seqK fun K33 hK33 => ?_
            refine Tr.rg hcx [] _ [] rfl rfl rfl ?_
            simp -implicitDefEqProofs (maxSteps := 2000000) (disch := first | omega | (simp only [go_sem, List.length_append, List.length_drop, List.length_take, hsL, hsK, hsF] <;> omega) | decide) only [go_sem, ↓reduceIte, Nat.reduceEqDiff, reduceCtorEq, Nat.reduceLT, Nat.reduceBEq, Nat.reduceAdd, Nat.reduceSub, Nat.reduceMul, Nat.reduceMod, hsL, hsK, hsF, List.set_set, List.length_set, decide_not, Bool.or_true, Bool.true_or, Bool.or_false, Bool.false_or, decide_true, decide_false, b0, b3, c1, e1, m0, q1, q2, q3]
            refine hK33 _ ?_
            clear hK33 K33
            refine Tr.kp [0, 1, 2, 6, 9, 10, 11, 12, 13, 15] ?_
            simp only [pk_cons, pk_nil, ↓A_cons, ↓reduceIte, Nat.reduceEqDiff]
            refine Tr.seqK fun K34 hK34 => ?_
            refine Tr.rg hcx [] _ [] rfl rfl rfl ?_
            simp -implicitDefEqProofs (maxSteps := 2000000) (disch := first | omega | (simp only [go_sem, List.length_append, List.length_drop, List.length_take, hsL, hsK, hsF] <;> omega) | decide) only [go_sem, ↓reduceIte, Nat.reduceEqDiff, reduceCtorEq, Nat.reduceLT, Nat.reduceBEq, Nat.reduceAdd, Nat.reduceSub, Nat.reduceMul, Nat.reduceMod, hsL, hsK, hsF, List.set_set, List.length_set, decide_not, Bool.or_true, Bool.true_or, Bool.or_false, Bool.false_or, decide_true, decide_false, b0, b3, c1, e1, m0, q1, q2, q3]
            refine hK34 _ ?_
            clear hK34 K34
            refine Tr.kp [0, 1, 2, 6, 9, 10, 11, 12, 13] ?_
            simp only [pk_cons, pk_nil, ↓A_cons, ↓reduceIte, Nat.reduceEqDiff]
            refine Tr.rg hcx [] _ [] rfl rfl rfl ?_
            simp -implicitDefEqProofs (maxSteps := 2000000) (disch := first | omega | (simp only [go_sem, List.length_append, List.length_drop, List.length_take, hsL, hsK, hsF] <;> omega) | decide) only [go_sem, ↓reduceIte, Nat.reduceEqDiff, reduceCtorEq, Nat.reduceLT, Nat.reduceBEq, Nat.reduceAdd, Nat.reduceSub, Nat.reduceMul, Nat.reduceMod, hsL, hsK, hsF, List.set_set, List.length_set, decide_not, Bool.or_true, Bool.true_or, Bool.or_false, Bool.false_or, decide_true, decide_false, b0, b3, c1, e1, m0, q1, q2, q3]
            refine hK21 _ ?_
            clear hK21 K21
            refine Tr.kp [0, 1, 2, 6, 9, 10, 11, 12, 13] ?_
            simp only [pk_cons, pk_nil, ↓A_cons, ↓reduceIte, Nat.reduceEqDiff]
            refine Tr.rg hcx [1000056] _ [] rfl rfl rfl ?_
            simp -implicitDefEqProofs (maxSteps := 2000000) (disch := first | omega | (simp only [go_sem, List.length_append, List.length_drop, List.length_take, hsL, hsK, hsF] <;> omega) | decide) only [go_sem, ↓reduceIte, Nat.reduceEqDiff, reduceCtorEq, Nat.reduceLT, Nat.reduceBEq, Nat.reduceAdd, Nat.reduceSub, Nat.reduceMul, Nat.reduceMod, hsL, hsK, hsF, List.set_set, List.length_set, decide_not, Bool.or_true, Bool.true_or, Bool.or_false, Bool.false_or, decide_true, decide_false, b0, b3, c1, e1, m0, q1, q2, q3]
            refine ⟨m + 1, ⟨⟨by omega, fun q hq => (Nat.lt_or_eq_of_le (Nat.le_of_lt_succ hq)).elim (hfr q) (fun e => e ▸ (by omega))⟩, by first | omega | (simp only []; omega)⟩, ?_, by dsimp only; rw [if_neg (Nat.succ_ne_zero m), if_neg (Nat.succ_ne_zero m), if_neg (Nat.succ_ne_zero m), hbs]; try (first | rfl | (rw [List.set_set, List.set_set, List.set_set]))⟩
            (simp only [Le_nil, Le_cons, ↓A_cons, ↓reduceIte, Nat.reduceEqDiff, reduceCtorEq, CLe_refl, CLe_top, CLe_full, CLe_nil, CLe_own, and_true, true_and]; all_goals (repeat' first | exact CLe.refl _ | exact True.intro | (refine CLe_sln ?_; first | with_reducible rfl | (simp only [List.take_zero]; done) | (rfl; done)) | exact CLe_nI (by omega) | exact CLe_int (by omega) | exact CLe_inI (by omega) | exact CLe_nIi (by omega) | with_reducible apply And.intro))
           ·
            have q3o := q3
            replace q3 := eq_false q3
            have hbs := bst_F (l := l) (b := b) (w := w) (L := (dp l b w c).1) (K := (dp l b w c).2) (k := k) (m := m) m0o (decide_eq_false (by omega))
            refine Tr.rg hcx [] [some 82, some 83, some 84, some 85, some 86, some 87, some 88, some 89, some 90, some 91, some 92, some 93, some 94, some 95, some 96, some 97, some 98, some 99, some 100, some 101, some 102, some 103, some 104, some 105, some 106, some 107, some 108, some 109, some 110, some 111, some 112] [] rfl rfl rfl ?_
            simp -implicitDefEqProofs (maxSteps := 2000000) (disch := first | omega | (simp only [go_sem, List.length_append, List.length_drop, List.length_take, hsL, hsK, hsF] <;> omega) | decide) only [go_sem, ↓reduceIte, Nat.reduceEqDiff, reduceCtorEq, Nat.reduceLT, Nat.reduceBEq, Nat.reduceAdd, Nat.reduceSub, Nat.reduceMul, Nat.reduceMod, hsL, hsK, hsF, List.set_set, List.length_set, decide_not, Bool.or_true, Bool.true_or, Bool.or_false, Bool.false_or, decide_true, decide_false, b0, b3, c1, e1, m0, q1, q2, q3, hj1, gt_sete]
            refine hK30 _ ?_
            clear hK30 K30
            refine Tr.kp [0, 1, 2, 6, 9, 10, 11, 12, 13, 14, 15, 112] ?_
            simp only [pk_cons, pk_nil, ↓A_cons, ↓reduceIte, Nat.reduceEqDiff]
            refine Tr.condG fun KT KF hT hF => ?_
            simp only [ev_tmp, ev_const, ↓A_cons, ↓reduceIte, Nat.reduceEqDiff, reduceCtorEq, condG_bool, GB_true, GB_false, decide_eq_true_eq]
            refine hF ?_
            clear hT hF KT KF
            refine Tr.skip ?_
            refine hK21 _ ?_
            clear hK21 K21
            refine Tr.kp [0, 1, 2, 6, 9, 10, 11, 12, 13] ?_
            simp only [pk_cons, pk_nil, ↓A_cons, ↓reduceIte, Nat.reduceEqDiff]
            refine Tr.rg hcx [1000056] _ [] rfl rfl rfl ?_
            simp -implicitDefEqProofs (maxSteps := 2000000) (disch := first | omega | (simp only [go_sem, List.length_append, List.length_drop, List.length_take, hsL, hsK, hsF] <;> omega) | decide) only [go_sem, ↓reduceIte, Nat.reduceEqDiff, reduceCtorEq, Nat.reduceLT, Nat.reduceBEq, Nat.reduceAdd, Nat.reduceSub, Nat.reduceMul, Nat.reduceMod, hsL, hsK, hsF, List.set_set, List.length_set, decide_not, Bool.or_true, Bool.true_or, Bool.or_false, Bool.false_or, decide_true, decide_false, b0, b3, c1, e1, m0, q1, q2, q3]
            refine ⟨m + 1, ⟨⟨by omega, fun q hq => (Nat.lt_or_eq_of_le (Nat.le_of_lt_succ hq)).elim (hfr q) (fun e => e ▸ (by omega))⟩, by first | omega | (simp only []; omega)⟩, ?_, by dsimp only; rw [if_neg (Nat.succ_ne_zero m), if_neg (Nat.succ_ne_zero m), if_neg (Nat.succ_ne_zero m), hbs]; try (first | rfl | (rw [List.set_set, List.set_set, List.set_set]))⟩
            (simp only [Le_nil, Le_cons, ↓A_cons, ↓reduceIte, Nat.reduceEqDiff, reduceCtorEq, CLe_refl, CLe_top, CLe_full, CLe_nil, CLe_own, and_true, true_and]; all_goals (repeat' first | exact CLe.refl _ | exact True.intro | (refine CLe_sln ?_; first | with_reducible rfl | (simp only [List.take_zero]; done) | (rfl; done)) | exact CLe_nI (by omega) | exact CLe_int (by omega) | exact CLe_inI (by omega) | exact CLe_nIi (by omega) | with_reducible apply And.intro))
          ·
           have q2o := q2
           replace q2 := eq_false q2
           have hbs := bst_F (l := l) (b := b) (w := w) (L := (dp l b w c).1) (K := (dp l b w c).2) (k := k) (m := m) m0o (decide_eq_false (by omega))
           refine Tr.rg hcx [] [some 82, some 83, some 84, some 85, some 86, some 87, some 88, some 89, some 90, some 91, some 92, some 93, some 94, some 95, some 96, some 97, some 98, some 99, some 100, some 101, some 102, some 103, some 104, some 105, some 106, some 107, some 108, some 109, some 110, some 111, some 112] [] rfl rfl rfl ?_
           simp -implicitDefEqProofs (maxSteps := 2000000) (disch := first | omega | (simp only [go_sem, List.length_append, List.length_drop, List.length_take, hsL, hsK, hsF] <;> omega) | decide) only [go_sem, ↓reduceIte, Nat.reduceEqDiff, reduceCtorEq, Nat.reduceLT, Nat.reduceBEq, Nat.reduceAdd, Nat.reduceSub, Nat.reduceMul, Nat.reduceMod, hsL, hsK, hsF, List.set_set, List.length_set, decide_not, Bool.or_true, Bool.true_or, Bool.or_false, Bool.false_or, decide_true, decide_false, b0, b3, c1, e1, m0, q1, q2, hj1, gt_sete]
           refine hK30 _ ?_
           clear hK30 K30
           refine Tr.kp [0, 1, 2, 6, 9, 10, 11, 12, 13, 14, 15, 112] ?_
           simp only [pk_cons, pk_nil, ↓A_cons, ↓reduceIte, Nat.reduceEqDiff]
           refine Tr.condG fun KT KF hT hF => ?_
           simp only [ev_tmp, ev_const, ↓A_cons, ↓reduceIte, Nat.reduceEqDiff, reduceCtorEq, condG_bool, GB_true, GB_false, decide_eq_true_eq]
           refine hF ?_
           clear hT hF KT KF
           refine Tr.skip ?_
           refine hK21 _ ?_
           clear hK21 K21
           refine Tr.kp [0, 1, 2, 6, 9, 10, 11, 12, 13] ?_
           simp only [pk_cons, pk_nil, ↓A_cons, ↓reduceIte, Nat.reduceEqDiff]
           refine Tr.rg hcx [1000056] _ [] rfl rfl rfl ?_
           simp -implicitDefEqProofs (maxSteps := 2000000) (disch := first | omega | (simp only [go_sem, List.length_append, List.length_drop, List.length_take, hsL, hsK, hsF] <;> omega) | decide) only [go_sem, ↓reduceIte, Nat.reduceEqDiff, reduceCtorEq, Nat.reduceLT, Nat.reduceBEq, Nat.reduceAdd, Nat.reduceSub, Nat.reduceMul, Nat.reduceMod, hsL, hsK, hsF, List.set_set, List.length_set, decide_not, Bool.or_true, Bool.true_or, Bool.or_false, Bool.false_or, decide_true, decide_false, b0, b3, c1, e1, m0, q1, q2]
           refine ⟨m + 1, ⟨⟨by omega, fun q hq => (Nat.lt_or_eq_of_le (Nat.le_of_lt_succ hq)).elim (hfr q) (fun e => e ▸ (by omega))⟩, by first | omega | (simp only []; omega)⟩, ?_, by dsimp only; rw [if_neg (Nat.succ_ne_zero m), if_neg (Nat.succ_ne_zero m), if_neg (Nat.succ_ne_zero m), hbs]; try (first | rfl | (rw [List.set_set, List.set_set, List.set_set]))⟩
           (simp only [Le_nil, Le_cons, ↓A_cons, ↓reduceIte, Nat.reduceEqDiff, reduceCtorEq, CLe_refl, CLe_top, CLe_full, CLe_nil, CLe_own, and_true, true_and]; all_goals (repeat' first | exact CLe.refl _ | exact True.intro | (refine CLe_sln ?_; first | with_reducible rfl | (simp only [List.take_zero]; done) | (rfl; done)) | exact CLe_nI (by omega) | exact CLe_int (by omega) | exact CLe_inI (by omega) | exact CLe_nIi (by omega) | with_reducible apply And.intro))
      ·
       have e1o := e1
       replace e1 := eq_false e1
       refine Tr.rg hcx [] _ [] rfl rfl rfl ?_
       simp -implicitDefEqProofs (maxSteps := 2000000) (disch := first | omega | (simp only [go_sem, List.length_append, List.length_drop, List.length_take, hsL, hsK, hsF] <;> omega) | decide) only [go_sem, ↓reduceIte, Nat.reduceEqDiff, reduceCtorEq, Nat.reduceLT, Nat.reduceBEq, Nat.reduceAdd, Nat.reduceSub, Nat.reduceMul, Nat.reduceMod, hsL, hsK, hsF, List.set_set, List.length_set, decide_not, Bool.or_true, Bool.true_or, Bool.or_false, Bool.false_or, decide_true, decide_false, b0, b3, c1, e1]
       refine hK20 _ ?_
       clear hK20 K20
       refine Tr.kp [0, 1, 2, 6, 9, 10, 11, 12, 13, 54] ?_
       simp only [pk_cons, pk_nil, ↓A_cons, ↓reduceIte, Nat.reduceEqDiff]
       refine Tr.condG fun KT KF hT hF => ?_
       simp only [ev_tmp, ev_const, ↓A_cons, ↓reduceIte, Nat.reduceEqDiff, reduceCtorEq, condG_bool, GB_true, GB_false, decide_eq_true_eq]
       refine hF ?_
       clear hT hF KT KF
       refine Tr.exit ?_
       refine hK17 _ ?_
       clear hK19 K19 hK17 K17
       refine Tr.kp [0, 1, 2, 6, 9, 10, 11, 12] ?_
       simp only [pk_cons, pk_nil, ↓A_cons, ↓reduceIte, Nat.reduceEqDiff]
       have hm0 : ¬ m = 0 := fun h => by subst h; have hx := freR_1 (l := l) (b := b) (w := w) k; rw [show (k : Int) + 1 = ((k + 1 + 0 : Nat) : Int) by omega] at hx; omega
       have hm0f : (m = 0) = False := eq_false hm0
       have hfit := fit_of (l := l) (b := b) (w := w) (k := k) (c := m) (by omega) hfr (by first | (left; omega) | (right; omega))
       have hnx : nxt l b w k = (bst l b w (dp l b w c).1 (dp l b w c).2 k m).2.2 := by unfold nxt bs; rw [show l.length - 1 - k = c by omega, show l.length - 1 - c = k by omega, hfit]
       refine Tr.rg hcx [1000049] _ [] rfl rfl rfl ?_
       simp -implicitDefEqProofs (maxSteps := 2000000) (disch := first | omega | (simp only [go_sem, List.length_append, List.length_drop, List.length_take, hsL, hsK, hsF] <;> omega) | decide) only [go_sem, ↓reduceIte, Nat.reduceEqDiff, reduceCtorEq, Nat.reduceLT, Nat.reduceBEq, Nat.reduceAdd, Nat.reduceSub, Nat.reduceMul, Nat.reduceMod, hsL, hsK, hsF, List.set_set, List.length_set, decide_not, Bool.or_true, Bool.true_or, Bool.or_false, Bool.false_or, decide_true, decide_false, b0, b3, c1, e1, hm0f, n_subG]
       refine ⟨c + 1, ⟨by omega, by first | omega | (simp only []; omega)⟩, ?_, by dsimp only; rw [← FL_S (by omega) (by omega), hk, hnx]; simp only [dp, hk, hfit, hm0f, if_false]⟩
       (simp only [Le_nil, Le_cons, ↓A_cons, ↓reduceIte, Nat.reduceEqDiff, reduceCtorEq, CLe_refl, CLe_top, CLe_full, CLe_nil, CLe_own, and_true, true_and]; all_goals (repeat' first | exact CLe.refl _ | exact True.intro | (refine CLe_sln ?_; first | with_reducible rfl | (simp only [List.take_zero]; done) | (rfl; done)) | exact CLe_nI (by omega) | exact CLe_int (by omega) | exact CLe_inI (by omega) | exact CLe_nIi (by omega) | with_reducible apply And.intro))
       all_goals exact CLe_int (by omega)
    ·
     skip
     refine Tr.rg hcx [] _ [] rfl rfl rfl ?_
     simp -implicitDefEqProofs (maxSteps := 2000000) (disch := first | omega | (simp only [go_sem, List.length_append, List.length_drop, List.length_take, hsL, hsK, hsF] <;> omega) | decide) only [go_sem, ↓reduceIte, Nat.reduceEqDiff, reduceCtorEq, Nat.reduceLT, Nat.reduceBEq, Nat.reduceAdd, Nat.reduceSub, Nat.reduceMul, Nat.reduceMod, hsL, hsK, hsF, List.set_set, List.length_set, decide_not, Bool.or_true, Bool.true_or, Bool.or_false, Bool.false_or, decide_true, decide_false, b0, b3, c1]
     refine hK16 _ ?_
     clear hK16 K16
     refine Tr.kp [0, 1, 2, 6, 9, 10, 11, 12, 47] ?_
     simp only [pk_cons, pk_nil, ↓A_cons, ↓reduceIte, Nat.reduceEqDiff]
     refine Tr.condG fun KT KF hT hF => ?_
     simp only [ev_tmp, ev_const, ↓A_cons, ↓reduceIte, Nat.reduceEqDiff, reduceCtorEq, condG_bool, GB_true, GB_false, decide_eq_true_eq]
     refine GB.neg ((by first | exact decide_eq_false (by omega) | omega)) (hF ?_)
     clear hT hF KT KF
     refine Tr.exit ?_
     refine hK13 _ ?_
     clear hK15 K15 hK13 K13
     refine Tr.kp [6, 9, 10, 11] ?_
     simp only [pk_cons, pk_nil, ↓A_cons, ↓reduceIte, Nat.reduceEqDiff]
     refine Tr.seqK fun K35 hK35 => ?_
     refine Tr.seqK fun K36 hK36 => ?_
     obtain rfl : c = l.length := by omega
     have hnin := fun k (hk : k < l.length) => nxt_in (b := b) (w := w) hk ⟨fit_pos hk (hA k hk), fit_le l b w k⟩
     have hsF := FL_len l b w (l.length + 1) l.length
     refine Tr.bxc 3 0 (sl iC (.own 1) []) [.val (.slice none 0 0), .sv 1 0 (l.length + 1), .sv 2 0 (l.length + 1)] (by simp only [go_sem]) rfl (CLe_sln rfl) rfl ?_
     simp only [List.set_cons_succ, List.set_cons_zero]
     refine Tr.rg hcx [] _ [] rfl rfl rfl ?_
     simp -implicitDefEqProofs (maxSteps := 2000000) (disch := first | omega | (simp only [go_sem, List.length_append, List.length_drop, List.length_take, hsL, hsK, hsF] <;> omega) | decide) only [go_sem, ↓reduceIte, Nat.reduceEqDiff, reduceCtorEq, Nat.reduceLT, Nat.reduceBEq, Nat.reduceAdd, Nat.reduceSub, Nat.reduceMul, Nat.reduceMod, hsL, hsK, hsF, List.set_set, List.length_set, decide_not, Bool.or_true, Bool.true_or, Bool.or_false, Bool.false_or, decide_true, decide_false, b0, b3, c1]
     refine hK36 _ ?_
     clear hK36 K36
     refine Tr.kp [6, 9, 10, 11, 16] ?_
     simp only [pk_cons, pk_nil, ↓A_cons, ↓reduceIte, Nat.reduceEqDiff]
     refine Tr.blk ?_
     refine Tr.loopI (α := (Nat × List Int)) (fun a => [(6, ?v6_74), (9, ?v9_74), (10, ?v10_74), (11, ?v11_74), (16, .val (nI a.1))]) (fun a => [some [.val (.slice none 0 0), .val (.slice none 0 0), .val (.slice none 0 0)], some (cl iC (dp l b w l.length).1), some (cl iC (dp l b w l.length).2), some [sl iC (.own 1) a.2, .sv 1 0 (l.length + 1), .sv 2 0 (l.length + 1)], some (cl iC (FL l b w (l.length + 1) l.length))]) (fun a => a.1 ≤ l.length ∧ a.2.length ≤ a.1 ∧ a.2 ++ chn l b w (l.length - a.1) a.1 = endF l b w) (fun a => l.length - a.1) ((0, [])) ⟨Nat.zero_le _, Nat.le_refl _, rfl⟩ ?le_74 ?hh_74 ?bd_74
     case hh_74 => exact rfl
     case le_74 => (simp only [Le_nil, Le_cons, ↓A_cons, ↓reduceIte, Nat.reduceEqDiff, reduceCtorEq, CLe_refl, CLe_top, CLe_full, CLe_nil, CLe_own, and_true, true_and]; all_goals (repeat' first | exact CLe.refl _ | exact True.intro | (refine CLe_sln ?_; first | with_reducible rfl | (simp only [List.take_zero]; done) | (rfl; done)) | exact CLe_nI (by omega) | exact CLe_int (by omega) | exact CLe_inI (by omega) | exact CLe_nIi (by omega) | with_reducible apply And.intro))
     case bd_74 =>
      rintro ⟨k, out⟩ ⟨hk, ho, hr⟩
      dsimp only at *
      refine Tr.seqK fun K37 hK37 => ?_
      refine Tr.seqK fun K38 hK38 => ?_
      refine Tr.rg hcx [] _ [] rfl rfl rfl ?_
      simp -implicitDefEqProofs (maxSteps := 2000000) (disch := first | omega | (simp only [go_sem, List.length_append, List.length_drop, List.length_take, hsL, hsK, hsF] <;> omega) | decide) only [go_sem, ↓reduceIte, Nat.reduceEqDiff, reduceCtorEq, Nat.reduceLT, Nat.reduceBEq, Nat.reduceAdd, Nat.reduceSub, Nat.reduceMul, Nat.reduceMod, hsL, hsK, hsF, List.set_set, List.length_set, decide_not, Bool.or_true, Bool.true_or, Bool.or_false, Bool.false_or, decide_true, decide_false, b0, b3, c1]
      refine hK38 _ ?_
      clear hK38 K38
      refine Tr.kp [6, 9, 10, 11, 16, 129] ?_
      simp only [pk_cons, pk_nil, ↓A_cons, ↓reduceIte, Nat.reduceEqDiff]
      refine Tr.condG fun KT KF hT hF => ?_
      simp only [ev_tmp, ev_const, ↓A_cons, ↓reduceIte, Nat.reduceEqDiff, reduceCtorEq, condG_bool, GB_true, GB_false, decide_eq_true_eq]
      refine GB.dec (fun hc129 => hT ?_) (fun hc129 => hF ?_)
      ·
       clear hT hF KT KF
       have hFk : gt (FL l b w (l.length + 1) l.length) k = ((nxt l b w k : Nat) : Int) := by rw [FL_gt _ _ _ _ _ _ (by omega), if_pos ⟨by omega, hc129⟩]
       refine Tr.skip ?_
       refine hK37 _ ?_
       clear hK37 K37
       refine Tr.kp [6, 9, 10, 11, 16] ?_
       simp only [pk_cons, pk_nil, ↓A_cons, ↓reduceIte, Nat.reduceEqDiff]
       refine Tr.seqK fun K39 hK39 => ?_
       refine Tr.blk ?_
       refine Tr.rgD hcx hMO [135] _ [] rfl rfl rfl rfl ?_
       simp -implicitDefEqProofs (maxSteps := 2000000) (disch := first | omega | (simp only [go_sem, List.length_append, List.length_drop, List.length_take, hsL, hsK, hsF] <;> omega) | decide) only [go_sem, ↓reduceIte, Nat.reduceEqDiff, reduceCtorEq, Nat.reduceLT, Nat.reduceBEq, Nat.reduceAdd, Nat.reduceSub, Nat.reduceMul, Nat.reduceMod, hsL, hsK, hsF, List.set_set, List.length_set, decide_not, Bool.or_true, Bool.true_or, Bool.or_false, Bool.false_or, decide_true, decide_false, b0, b3, c1, hFk]
       with_reducible refine And.intro ?_ ?_
       · exact rfl
       refine hK39 _ ?_
       clear hK39 K39
       refine Tr.kp [6, 9, 10, 11, 16] ?_
       simp only [pk_cons, pk_nil, ↓A_cons, ↓reduceIte, Nat.reduceEqDiff]
       refine Tr.rg hcx [1000133] _ [] rfl rfl rfl ?_
       simp -implicitDefEqProofs (maxSteps := 2000000) (disch := first | omega | (simp only [go_sem, List.length_append, List.length_drop, List.length_take, hsL, hsK, hsF] <;> omega) | decide) only [go_sem, ↓reduceIte, Nat.reduceEqDiff, reduceCtorEq, Nat.reduceLT, Nat.reduceBEq, Nat.reduceAdd, Nat.reduceSub, Nat.reduceMul, Nat.reduceMod, hsL, hsK, hsF, List.set_set, List.length_set, decide_not, Bool.or_true, Bool.true_or, Bool.or_false, Bool.false_or, decide_true, decide_false, b0, b3, c1, hFk]
       refine ⟨(nxt l b w k, out ++ [((nxt l b w k : Nat) : Int)]), ⟨⟨(hnin k hc129).2, by have h1 := (hnin k hc129).1; simp only [List.length_append, List.length_singleton] at *; omega, by rw [← hr, chn_S (fun k hk => (hnin k hk).1) hc129]; simp⟩, by have h1 := hnin k hc129; simp only []; omega⟩, ?_, rfl⟩
       (simp only [Le_nil, Le_cons, ↓A_cons, ↓reduceIte, Nat.reduceEqDiff, reduceCtorEq, CLe_refl, CLe_top, CLe_full, CLe_nil, CLe_own, and_true, true_and]; all_goals (repeat' first | exact CLe.refl _ | exact True.intro | (refine CLe_sln ?_; first | with_reducible rfl | (simp only [List.take_zero]; done) | (rfl; done)) | exact CLe_nI (by omega) | exact CLe_int (by omega) | exact CLe_inI (by omega) | exact CLe_nIi (by omega) | with_reducible apply And.intro))
      ·
       clear hT hF KT KF
       obtain rfl : k = l.length := by omega
       rw [chn_E l b w (Nat.lt_irrefl _), List.append_nil] at hr
       refine Tr.exit ?_
       refine hK35 _ ?_
       clear hK37 K37 hK35 K35
       refine Tr.kp [6, 10] ?_
       simp only [pk_cons, pk_nil, ↓A_cons, ↓reduceIte, Nat.reduceEqDiff]
       refine Tr.seqK fun K40 hK40 => ?_
       refine Tr.rg hcx [] _ [] rfl rfl rfl ?_
       simp -implicitDefEqProofs (maxSteps := 2000000) (disch := first | omega | (simp only [go_sem, List.length_append, List.length_drop, List.length_take, hsL, hsK, hsF] <;> omega) | decide) only [go_sem, ↓reduceIte, Nat.reduceEqDiff, reduceCtorEq, Nat.reduceLT, Nat.reduceBEq, Nat.reduceAdd, Nat.reduceSub, Nat.reduceMul, Nat.reduceMod, hsL, hsK, hsF, List.set_set, List.length_set, decide_not, Bool.or_true, Bool.true_or, Bool.or_false, Bool.false_or, decide_true, decide_false, b0, b3, c1]
       refine hK40 _ ?_
       clear hK40 K40
       refine Tr.kp [6, 7] ?_
       simp only [pk_cons, pk_nil, ↓A_cons, ↓reduceIte, Nat.reduceEqDiff]
       first | refine Tr.cert0 ?_ | (refine Tr.certM hcx (by rw [(dp_len l b w l.length).1]) (by rw [(dp_len l b w l.length).2]) (Nat.succ_pos _) fun _ => ?_)
       refine Tr.ret ?_
       simp -implicitDefEqProofs (disch := first | omega | (simp only [go_sem, List.length_append, List.length_drop, List.length_take, hsL, hsK, hsF] <;> omega) | decide) only [go_sem, ↓reduceIte, Nat.reduceEqDiff, reduceCtorEq]
       all_goals (first | (rw [fill_e b0]; try rfl) | (rw [fill_w b0 b3]; try rfl) | (rw [fill_0 b0 hA, ← hr]; try rfl))
 ·
  skip
  refine Tr.rg hcx [1000020] _ [] rfl rfl rfl ?_
  simp -implicitDefEqProofs (maxSteps := 2000000) (disch := first | omega | (simp only [go_sem, List.length_append, List.length_drop, List.length_take, hsL, hsK, hsF] <;> omega) | decide) only [go_sem, ↓reduceIte, Nat.reduceEqDiff, reduceCtorEq, Nat.reduceLT, Nat.reduceBEq, Nat.reduceAdd, Nat.reduceSub, Nat.reduceMul, Nat.reduceMod, hsL, hsK, hsF, List.set_set, List.length_set, decide_not, Bool.or_true, Bool.true_or, Bool.or_false, Bool.false_or, decide_true, decide_false, b0, h27']
  refine hK2 _ ?_
  clear hK2 K2
  refine Tr.kp [0, 1, 2, 6, 8] ?_
  simp only [pk_cons, pk_nil, ↓A_cons, ↓reduceIte, Nat.reduceEqDiff]
  refine Tr.seqK fun K41 hK41 => ?_
  refine Tr.seqK fun K42 hK42 => ?_
  refine Tr.rg hcx [] [some 21, some 22, some 23, some 24, some 25, some 26, some 27] [] rfl rfl rfl ?_
  simp -implicitDefEqProofs (maxSteps := 2000000) (disch := first | omega | (simp only [go_sem, List.length_append, List.length_drop, List.length_take, hsL, hsK, hsF] <;> omega) | decide) only [go_sem, ↓reduceIte, Nat.reduceEqDiff, reduceCtorEq, Nat.reduceLT, Nat.reduceBEq, Nat.reduceAdd, Nat.reduceSub, Nat.reduceMul, Nat.reduceMod, hsL, hsK, hsF, List.set_set, List.length_set, decide_not, Bool.or_true, Bool.true_or, Bool.or_false, Bool.false_or, decide_true, decide_false, b0, h27', h26']
  refine hK42 _ ?_
  clear hK42 K42
  refine Tr.kp [0, 1, 2, 6, 8, 27] ?_
  simp only [pk_cons, pk_nil, ↓A_cons, ↓reduceIte, Nat.reduceEqDiff]
  refine Tr.condG fun KT KF hT hF => ?_
  simp only [ev_tmp, ev_const, ↓A_cons, ↓reduceIte, Nat.reduceEqDiff, reduceCtorEq, condG_bool, GB_true, GB_false, decide_eq_true_eq]
  refine hF ?_
  clear hT hF KT KF
  refine Tr.skip ?_
  refine hK41 _ ?_
  clear hK41 K41
  refine Tr.kp [0, 1, 2, 6, 8] ?_
  simp only [pk_cons, pk_nil, ↓A_cons, ↓reduceIte, Nat.reduceEqDiff]
  refine Tr.seqK fun K43 hK43 => ?_
  refine Tr.seqK fun K44 hK44 => ?_
  refine Tr.rg hcx [] _ [] rfl rfl rfl ?_
  simp -implicitDefEqProofs (maxSteps := 2000000) (disch := first | omega | (simp only [go_sem, List.length_append, List.length_drop, List.length_take, hsL, hsK, hsF] <;> omega) | decide) only [go_sem, ↓reduceIte, Nat.reduceEqDiff, reduceCtorEq, Nat.reduceLT, Nat.reduceBEq, Nat.reduceAdd, Nat.reduceSub, Nat.reduceMul, Nat.reduceMod, hsL, hsK, hsF, List.set_set, List.length_set, decide_not, Bool.or_true, Bool.true_or, Bool.or_false, Bool.false_or, decide_true, decide_false, b0]
  refine hK44 _ ?_
  clear hK44 K44
  refine Tr.kp [0, 1, 2, 6, 8, 29] ?_
  simp only [pk_cons, pk_nil, ↓A_cons, ↓reduceIte, Nat.reduceEqDiff]
  refine Tr.condG fun KT KF hT hF => ?_
  simp only [ev_tmp, ev_const, ↓A_cons, ↓reduceIte, Nat.reduceEqDiff, reduceCtorEq, condG_bool, GB_true, GB_false, decide_eq_true_eq]
  refine hT ?_
  clear hT hF KT KF
  refine Tr.seqK fun K45 hK45 => ?_
  refine Tr.rg hcx [1000031] _ [] rfl rfl rfl ?_
  simp -implicitDefEqProofs (maxSteps := 2000000) (disch := first | omega | (simp only [go_sem, List.length_append, List.length_drop, List.length_take, hsL, hsK, hsF] <;> omega) | decide) only [go_sem, ↓reduceIte, Nat.reduceEqDiff, reduceCtorEq, Nat.reduceLT, Nat.reduceBEq, Nat.reduceAdd, Nat.reduceSub, Nat.reduceMul, Nat.reduceMod, hsL, hsK, hsF, List.set_set, List.length_set, decide_not, Bool.or_true, Bool.true_or, Bool.or_false, Bool.false_or, decide_true, decide_false, b0]
  refine hK45 _ ?_
  clear hK45 K45
  refine Tr.kp [6, 7] ?_
  simp only [pk_cons, pk_nil, ↓A_cons, ↓reduceIte, Nat.reduceEqDiff]
  first | refine Tr.cert0 ?_ | (refine Tr.certM hcx (by rw [(dp_len l b w l.length).1]) (by rw [(dp_len l b w l.length).2]) (Nat.succ_pos _) fun _ => ?_)
  refine Tr.ret ?_
  simp -implicitDefEqProofs (disch := first | omega | (simp only [go_sem, List.length_append, List.length_drop, List.length_take, hsL, hsK, hsF] <;> omega) | decide) only [go_sem, ↓reduceIte, Nat.reduceEqDiff, reduceCtorEq]
  all_goals (first | (rw [fill_e b0]; try rfl) | (rw [fill_w b0 b3]; try rfl) | (rw [fill_0 b0 hA, ← hr]; try rfl))
end Go.Sx
namespace Go.Sx
end Go.Sx
namespace Go.Sx
structure Tok where
  a : Nat
  e : Nat
  k : Nat
deriving DecidableEq
instance : Inhabited Tok := ⟨⟨0, 0, 0⟩⟩
def kd (c : UInt8) : Nat := if (97 ≤ c ∧ c ≤ 122) ∨ (65 ≤ c ∧ c ≤ 90) then 0 else if 48 ≤ c ∧ c ≤ 57 then 1 else if c = 64 then 3 else 2
/-- The tokens from a place on; a token may be open. -/
def spl (p : Nat) : Option (Nat × Nat) → List UInt8 → List Tok
  | none, [] => []
  | some (a, k), [] => [⟨a, p, k⟩]
  | none, c :: r => if c = 32 then spl (p + 1) none r else spl (p + 1) (some (p, kd c)) r
  | some (a, k), c :: r => if c ≠ 32 ∧ k < 2 ∧ kd c = k then spl (p + 1) (some (a, k)) r else
      ⟨a, p, k⟩ :: (if c = 32 then spl (p + 1) none r else spl (p + 1) (some (p, kd c)) r)
def toks (s : List UInt8) : List Tok := spl 0 none s
def partT (s : List UInt8) (f t : Nat) : List UInt8 := (s.drop (gt (toks s) f).a).take ((gt (toks s) (t - 1)).e - (gt (toks s) f).a)
def part (s : List UInt8) (f t : Int) : List UInt8 := if f < 0 ∨ t ≤ f ∨ ((toks s).length : Int) < t then [] else partT s f.toNat t.toNat
end Go.Sx
