/-
  Package token: joins, in plain terms. And what follows.
-/
import Derived.Test.YtmeplkkhnpcldaaPav
import Derived.Test.YtmeplkkhnpcldaaPas
import Derived.Test.YtmeplkkhnpcldaaPak
set_option linter.unusedSimpArgs false
set_option linter.unusedVariables false
namespace Go.Sx
theorem okT_at : ∀ (s : List UInt8) (p : Bool), okT p s = true → ∀ i, i < s.length → 32 ≤ gt s i ∧ gt s i ≤ 126 ∧ (gt s i = 32 → (i = 0 → p = false) ∧ i + 1 ≠ s.length ∧ (0 < i → gt s (i - 1) ≠ 32))
  | [], p, _, i, hi => by simp at hi
  | c :: r, p, h, i, hi => by
    unfold okT at h
    by_cases hc : c = 32
    · subst hc
      rw [if_pos rfl, Bool.and_eq_true, Bool.not_eq_true'] at h
      have hr : r ≠ [] := by rintro rfl; simp [okT] at h
      cases i with
      | zero =>
        rw [gt_cons0]
        refine ⟨by decide, by decide, fun _ => ⟨fun _ => h.1, fun e => ?_, fun h => absurd h (Nat.lt_irrefl 0)⟩⟩
        have : r.length = 0 := by simpa using e.symm
        exact hr (List.length_eq_zero_iff.1 this)
      | succ i =>
        have ih := okT_at r true h.2 i (by simpa using hi)
        rw [gt_consS]
        refine ⟨ih.1, ih.2.1, fun e => ?_⟩
        obtain ⟨j1, j2, j3⟩ := ih.2.2 e
        refine ⟨fun h => absurd h (by omega), by simpa using j2, fun _ => ?_⟩
        cases i with
        | zero => exact absurd (j1 rfl) (by decide)
        | succ i => rw [Nat.add_sub_cancel, gt_consS]; have := j3 (by omega); rwa [Nat.add_sub_cancel] at this
    · rw [if_neg hc, Bool.and_eq_true, Bool.and_eq_true, decide_eq_true_eq, decide_eq_true_eq] at h
      cases i with
      | zero =>
        rw [gt_cons0]
        exact ⟨h.1.1, h.1.2, fun e => absurd e hc⟩
      | succ i =>
        have ih := okT_at r false h.2 i (by simpa using hi)
        rw [gt_consS]
        refine ⟨ih.1, ih.2.1, fun e => ?_⟩
        obtain ⟨j1, j2, j3⟩ := ih.2.2 e
        refine ⟨fun h => absurd h (by omega), by simpa using j2, fun _ => ?_⟩
        cases i with
        | zero => rw [gt_cons0]; exact hc
        | succ i => rw [Nat.add_sub_cancel, gt_consS]; have := j3 (by omega); rwa [Nat.add_sub_cancel] at this
theorem valid_of {s : List UInt8} (h : okT true s = true) (h0 : 0 < s.length) (hl : s.length ≤ 256) : validE s = 0 := by
  have hb : ¬ bad s = true := by
    intro hb
    obtain ⟨i, hi, hx⟩ := List.any_eq_true.1 hb
    obtain ⟨q1, q2, q3⟩ := okT_at s true h i (List.mem_range.1 hi)
    unfold badAt at hx
    simp only [Bool.or_eq_true, Bool.and_eq_true, decide_eq_true_eq] at hx
    rcases hx with (hx | hx) | ⟨hx, hy⟩
    · exact absurd q1 (by simpa using hx)
    · exact absurd q2 (by simpa using hx)
    · obtain ⟨j1, j2, j3⟩ := q3 hx
      rcases hy with (hy | hy) | hy
      · exact absurd (j1 hy) (by decide)
      · exact j2 hy
      · rcases Nat.eq_zero_or_pos i with h0 | h0
        · exact absurd (j1 h0) (by decide)
        · exact j3 h0 hy
  have ht := toks_len s
  unfold validE
  rw [if_neg (by omega), if_neg hb, if_neg (by rintro rfl; simp at h0), if_neg (by omega)]
theorem valid_mark (l : List Int) : validE (markT l 0) = 0 := by
  obtain ⟨h1, h2, h3⟩ := markT_ok l 0
  exact valid_of h1 h3 (by omega)
theorem valid_join (l m : List Int) : validE (joinT (markT l 0) (markT m 0)) = 0 := by
  obtain ⟨h1, h2, h3⟩ := markT_ok l 0
  obtain ⟨k1, k2, k3⟩ := markT_ok m 0
  exact valid_of (okT_app _ _ _ h1 k1) (by unfold joinT; simp; omega) (by unfold joinT; simp; omega)
theorem joinT_len (a b : List UInt8) : (joinT a b).length = a.length + 1 + b.length := by unfold joinT; simp; omega
theorem toks_joinT (a b : List UInt8) : toks (joinT a b) = toks a ++ (toks b).map (shT (a.length + 1)) := toks_join a b
theorem toks_joinL (a b : List UInt8) : (toks (joinT a b)).length = (toks a).length + (toks b).length := by rw [toks_joinT]; simp
theorem join_gtL (a b : List UInt8) {i : Nat} (h : i < (toks a).length) : gt (toks (joinT a b)) i = gt (toks a) i := by rw [toks_joinT, gt_left _ _ _ h]
theorem gt_right {α : Type} [Inhabited α] (l r : List α) (t : Nat) (h : l.length ≤ t) : gt (l ++ r) t = gt r (t - l.length) := by
  simp only [gt, List.getD]
  rw [List.getElem?_append_right h]
theorem join_gtR (a b : List UInt8) {i : Nat} (h : ¬ i < (toks a).length) (h2 : i - (toks a).length < (toks b).length) : gt (toks (joinT a b)) i = ⟨(gt (toks b) (i - (toks a).length)).a + a.length + 1, (gt (toks b) (i - (toks a).length)).e + a.length + 1, (gt (toks b) (i - (toks a).length)).k⟩ := by
  rw [toks_joinT, gt_right _ _ _ (by omega), gt_map _ _ _ h2]; rfl
end Go.Sx
namespace Go.Sx
open Go.RowKit Go.Proofs
end Go.Sx
namespace Go.Sx
open Go.RowKit Go.Proofs
set_option maxRecDepth 100000 in
set_option maxHeartbeats 8000000 in
theorem fc28b {gl : Nat → C} {M : Nat} {pu : Nat → List C → Option C}  (hcx : CxOK (cxF gl M pu)) (h18 : ∀ s : List UInt8, s.length ≤ 1000000 → pu 18 [.val (str s)] = some (sl tC (.own 3) (toks s))) (h50 : ∀ (s : List UInt8) (l : List Tok) (i : Nat), i + 1 < l.length ∧ l.length ≤ 1000000 ∧ (gt l i).a < s.length ∧ s.length ≤ 1000000 → pu 50 [.val (nI i), .kp [.val (str s)], .kp [sl tC .no l]] = some (.val (.bool (stopI s l i)))) (hno : ∀ (g : Nat) (xs : List C), refy xs = true → pu g xs = none) (s : List UInt8) (hs : s.length ≤ 1000000) : FC Try.prog gl 28 [.val (str s)] [] (.gv 0 (sents s).length 2) [some (cl pC (sents s))] := by
 replace hcx := hcx.reN (M := 37)
 refine FC.ofH (cx := cxF gl 37 pu) (rs := [.tmp 2]) rfl Try.func28 rfl rfl rfl (by simp only [List.length_cons, List.length_nil]; decide)  ?_
 simp only [ini, go_sem]
 have hT := toks_len s
 have hb1 := True.intro
 refine Tr.seqK fun K1 hK1 => ?_
 refine Tr.rg hcx [] _ [none] rfl rfl rfl ?_
 simp -implicitDefEqProofs (maxSteps := 2000000) (disch := first | omega | (simp only [go_sem, List.length_append, List.length_drop, List.length_take, hb1] <;> omega) | decide) only [go_sem, ↓reduceIte, Nat.reduceEqDiff, reduceCtorEq, Nat.reduceLT, Nat.reduceBEq, Nat.reduceAdd, Nat.reduceSub, Nat.reduceMul, Nat.reduceMod, h18, h50, hno]
 refine hK1 _ ?_
 clear hK1 K1
 refine Tr.kp [1] ?_
 simp only [pk_cons, pk_nil, ↓A_cons, ↓reduceIte, Nat.reduceEqDiff]
 refine Tr.seqK fun K2 hK2 => ?_
 refine Tr.rg hcx [] _ [none] rfl rfl rfl ?_
 simp -implicitDefEqProofs (maxSteps := 2000000) (disch := first | omega | (simp only [go_sem, List.length_append, List.length_drop, List.length_take, hb1] <;> omega) | decide) only [go_sem, ↓reduceIte, Nat.reduceEqDiff, reduceCtorEq, Nat.reduceLT, Nat.reduceBEq, Nat.reduceAdd, Nat.reduceSub, Nat.reduceMul, Nat.reduceMod, h18, h50, hno]
 refine hK2 _ ?_
 clear hK2 K2
 refine Tr.kp [1, 3] ?_
 simp only [pk_cons, pk_nil, ↓A_cons, ↓reduceIte, Nat.reduceEqDiff]
 refine Tr.seqK fun K3 hK3 => ?_
 refine Tr.rg hcx [1000010] _ [] rfl rfl rfl ?_
 simp -implicitDefEqProofs (maxSteps := 2000000) (disch := first | omega | (simp only [go_sem, List.length_append, List.length_drop, List.length_take, hb1] <;> omega) | decide) only [go_sem, ↓reduceIte, Nat.reduceEqDiff, reduceCtorEq, Nat.reduceLT, Nat.reduceBEq, Nat.reduceAdd, Nat.reduceSub, Nat.reduceMul, Nat.reduceMod, h18, h50, hno]
 refine hK3 _ ?_
 clear hK3 K3
 refine Tr.kp [3, 4] ?_
 simp only [pk_cons, pk_nil, ↓A_cons, ↓reduceIte, Nat.reduceEqDiff]
 refine Tr.seqK fun K4 hK4 => ?_
 refine Tr.rg hcx [] _ [] rfl rfl rfl ?_
 simp -implicitDefEqProofs (maxSteps := 2000000) (disch := first | omega | (simp only [go_sem, List.length_append, List.length_drop, List.length_take, hb1] <;> omega) | decide) only [go_sem, ↓reduceIte, Nat.reduceEqDiff, reduceCtorEq, Nat.reduceLT, Nat.reduceBEq, Nat.reduceAdd, Nat.reduceSub, Nat.reduceMul, Nat.reduceMod, h18, h50, hno]
 refine hK4 _ ?_
 clear hK4 K4
 refine Tr.kp [3, 4, 5] ?_
 simp only [pk_cons, pk_nil, ↓A_cons, ↓reduceIte, Nat.reduceEqDiff]
 refine Tr.seqK fun K5 hK5 => ?_
 refine Tr.rg hcx [] _ [] rfl rfl rfl ?_
 simp -implicitDefEqProofs (maxSteps := 2000000) (disch := first | omega | (simp only [go_sem, List.length_append, List.length_drop, List.length_take, hb1] <;> omega) | decide) only [go_sem, ↓reduceIte, Nat.reduceEqDiff, reduceCtorEq, Nat.reduceLT, Nat.reduceBEq, Nat.reduceAdd, Nat.reduceSub, Nat.reduceMul, Nat.reduceMod, h18, h50, hno]
 refine hK5 _ ?_
 clear hK5 K5
 refine Tr.kp [3, 4, 5, 6] ?_
 simp only [pk_cons, pk_nil, ↓A_cons, ↓reduceIte, Nat.reduceEqDiff]
 refine Tr.seqK fun K6 hK6 => ?_
 refine Tr.seqK fun K7 hK7 => ?_
 refine Tr.rg hcx [] _ [] rfl rfl rfl ?_
 simp -implicitDefEqProofs (maxSteps := 2000000) (disch := first | omega | (simp only [go_sem, List.length_append, List.length_drop, List.length_take, hb1] <;> omega) | decide) only [go_sem, ↓reduceIte, Nat.reduceEqDiff, reduceCtorEq, Nat.reduceLT, Nat.reduceBEq, Nat.reduceAdd, Nat.reduceSub, Nat.reduceMul, Nat.reduceMod, h18, h50, hno]
 refine hK7 _ ?_
 clear hK7 K7
 refine Tr.kp [3, 4, 5, 6, 12, 13] ?_
 simp only [pk_cons, pk_nil, ↓A_cons, ↓reduceIte, Nat.reduceEqDiff]
 refine Tr.blk ?_
 refine Tr.virt ?_
 simp only [List.cons_append, List.nil_append]
 refine Tr.loopM hcx (α := Nat) (fun a => [(3, ?v3_14), (4, ?v4_14), (5, .gv 2 (senR s (toks s) a).2.length 2), (6, .val (nI (senR s (toks s) a).1)), (12, ?v12_14), (13, .val (nI a))]) (fun a => [some [.val (str s)], some [sl tC (.own 3) (toks s)], some (cl pC (senR s (toks s) a).2)]) (fun a => a ≤ (toks s).length) (fun a => (toks s).length - a) (0) ?_ ?le_14 ?hh_14 ?bd_14
 case hh_14 => exact rfl
 case le_14 => (simp only [Le_nil, Le_cons, ↓A_cons, ↓reduceIte, Nat.reduceEqDiff, reduceCtorEq, CLe_refl, CLe_top, CLe_full, CLe_nil, CLe_own, and_true, true_and]; all_goals (repeat' first | exact CLe.refl _ | exact True.intro | (refine CLe_sln ?_; first | with_reducible rfl | (simp only [List.take_zero]; done) | (rfl; done)) | exact CLe_nI (by omega) | exact CLe_int (by omega) | exact CLe_inI (by omega) | exact CLe_nIi (by omega) | with_reducible apply And.intro)); all_goals first | exact CLe.nilG 2 2 | exact CLe.refl _
 · omega
 case bd_14 =>
  rintro i hi
  have hb1 := senR_le s (toks s) i
  refine Tr.seqK fun K8 hK8 => ?_
  refine Tr.rg hcx [] _ [] rfl rfl rfl ?_
  simp -implicitDefEqProofs (maxSteps := 2000000) (disch := first | omega | (simp only [go_sem, List.length_append, List.length_drop, List.length_take, hb1] <;> omega) | decide) only [go_sem, ↓reduceIte, Nat.reduceEqDiff, reduceCtorEq, Nat.reduceLT, Nat.reduceBEq, Nat.reduceAdd, Nat.reduceSub, Nat.reduceMul, Nat.reduceMod, h18, h50, hno]
  refine hK8 _ ?_
  clear hK8 K8
  refine Tr.kp [3, 4, 5, 6, 12, 13, 14] ?_
  simp only [pk_cons, pk_nil, ↓A_cons, ↓reduceIte, Nat.reduceEqDiff]
  refine Tr.seqK fun K9 hK9 => ?_
  refine Tr.condG fun KT KF hT hF => ?_
  simp only [ev_tmp, ev_const, ↓A_cons, ↓reduceIte, Nat.reduceEqDiff, reduceCtorEq, condG_bool, GB_true, GB_false, decide_eq_true_eq]
  refine GB.dec (fun hc14 => hT ?_) (fun hc14 => hF ?_)
  ·
   clear hT hF KT KF
   have hb2 := toks_get s i hc14
   refine Tr.skip ?_
   refine hK9 _ ?_
   clear hK9 K9
   refine Tr.kp [3, 4, 5, 6, 12, 13] ?_
   simp only [pk_cons, pk_nil, ↓A_cons, ↓reduceIte, Nat.reduceEqDiff]
   refine Tr.seqK fun K10 hK10 => ?_
   refine Tr.blk ?_
   refine Tr.seqK fun K11 hK11 => ?_
   refine Tr.rg hcx [1000015] _ [] rfl rfl rfl ?_
   simp -implicitDefEqProofs (maxSteps := 2000000) (disch := first | omega | (simp only [go_sem, List.length_append, List.length_drop, List.length_take, hb1] <;> omega) | decide) only [go_sem, ↓reduceIte, Nat.reduceEqDiff, reduceCtorEq, Nat.reduceLT, Nat.reduceBEq, Nat.reduceAdd, Nat.reduceSub, Nat.reduceMul, Nat.reduceMod, h18, h50, hno]
   refine hK11 _ ?_
   clear hK11 K11
   refine Tr.kp [3, 4, 5, 6, 7, 12, 13] ?_
   simp only [pk_cons, pk_nil, ↓A_cons, ↓reduceIte, Nat.reduceEqDiff]
   refine Tr.seqK fun K12 hK12 => ?_
   by_cases b1 : i = (toks s).length - 1
   ·
    have b1o := b1
    replace b1 := eq_true b1
    have hsn := senR_T (s := s) (l := toks s) (i := i) (.inl (by omega))
    refine Tr.rg hcx [] [some 16, some 17, some 18, some 19, some 20, some 21, some 22, some 23, some 24, some 25] [] rfl rfl rfl ?_
    simp -implicitDefEqProofs (maxSteps := 2000000) (disch := first | omega | (simp only [go_sem, List.length_append, List.length_drop, List.length_take, hb1] <;> omega) | decide) only [go_sem, ↓reduceIte, Nat.reduceEqDiff, reduceCtorEq, Nat.reduceLT, Nat.reduceBEq, Nat.reduceAdd, Nat.reduceSub, Nat.reduceMul, Nat.reduceMod, h18, h50, hno, b1]
    refine hK12 _ ?_
    clear hK12 K12
    refine Tr.kp [3, 4, 5, 6, 7, 12, 13, 25] ?_
    simp only [pk_cons, pk_nil, ↓A_cons, ↓reduceIte, Nat.reduceEqDiff]
    refine Tr.condG fun KT KF hT hF => ?_
    simp only [ev_tmp, ev_const, ↓A_cons, ↓reduceIte, Nat.reduceEqDiff, reduceCtorEq, condG_bool, GB_true, GB_false, decide_eq_true_eq]
    refine hT ?_
    clear hT hF KT KF
    refine Tr.seqK fun K13 hK13 => ?_
    refine Tr.rgG hcx [32] [26, 1000032] _ [] rfl rfl rfl ?_
    simp -implicitDefEqProofs (maxSteps := 2000000) (disch := first | omega | (simp only [go_sem, List.length_append, List.length_drop, List.length_take, hb1] <;> omega) | decide) only [go_sem, ↓reduceIte, Nat.reduceEqDiff, reduceCtorEq, Nat.reduceLT, Nat.reduceBEq, Nat.reduceAdd, Nat.reduceSub, Nat.reduceMul, Nat.reduceMod, h18, h50, hno, b1]
    refine hK13 _ ?_
    clear hK13 K13
    refine Tr.kp [3, 4, 5, 7, 12, 13] ?_
    simp only [pk_cons, pk_nil, ↓A_cons, ↓reduceIte, Nat.reduceEqDiff]
    refine Tr.rg hcx [1000034] _ [] rfl rfl rfl ?_
    simp -implicitDefEqProofs (maxSteps := 2000000) (disch := first | omega | (simp only [go_sem, List.length_append, List.length_drop, List.length_take, hb1] <;> omega) | decide) only [go_sem, ↓reduceIte, Nat.reduceEqDiff, reduceCtorEq, Nat.reduceLT, Nat.reduceBEq, Nat.reduceAdd, Nat.reduceSub, Nat.reduceMul, Nat.reduceMod, h18, h50, hno, b1]
    refine hK10 _ ?_
    clear hK10 K10
    refine Tr.kp [3, 4, 5, 6, 12, 13] ?_
    simp only [pk_cons, pk_nil, ↓A_cons, ↓reduceIte, Nat.reduceEqDiff]
    refine Tr.rg hcx [] _ [] rfl rfl rfl ?_
    simp -implicitDefEqProofs (maxSteps := 2000000) (disch := first | omega | (simp only [go_sem, List.length_append, List.length_drop, List.length_take, hb1] <;> omega) | decide) only [go_sem, ↓reduceIte, Nat.reduceEqDiff, reduceCtorEq, Nat.reduceLT, Nat.reduceBEq, Nat.reduceAdd, Nat.reduceSub, Nat.reduceMul, Nat.reduceMod, h18, h50, hno, b1]
    first
    | ((refine ⟨[0, 1, 2], ⟨by decide, by decide, by decide⟩, i + 1, ⟨by omega, by first | omega | (simp only []; omega)⟩, ?_, by simp only [mvH_eq, mvHa_nil, mvHa_cons, hget_0, hget_S, Option.map_some, Option.map_none, mvCs_cl, mvCs_f, mvCs_nil, mvCs_cons, mvC_val, mvC_top, mvC_sl, mvC_gv, mvC_sv, mvC_bp, mvC_agg, mvC_kp, mvGv_some, mvGv_none, mvSv_some, mvSv_none, mvBp_some, mvBp_none, loc_nil, loc_cons, ↓reduceIte, Nat.reduceEqDiff, reduceCtorEq, Nat.reduceAdd, Nat.zero_add, Nat.one_ne_zero, Nat.zero_ne_one, mvC_fn]; rw [hsn]⟩); (simp only [Le_nil, Le_cons, ↓A_cons, CLe_refl, CLe_top, CLe_full, CLe_nil, CLe_own, and_true, true_and, mvH_eq, mvHa_nil, mvHa_cons, hget_0, hget_S, Option.map_some, Option.map_none, mvCs_cl, mvCs_f, mvCs_nil, mvCs_cons, mvC_val, mvC_top, mvC_sl, mvC_gv, mvC_sv, mvC_bp, mvC_agg, mvC_kp, mvGv_some, mvGv_none, mvSv_some, mvSv_none, mvBp_some, mvBp_none, loc_nil, loc_cons, ↓reduceIte, Nat.reduceEqDiff, reduceCtorEq, Nat.reduceAdd, Nat.zero_add, Nat.one_ne_zero, Nat.zero_ne_one, mvC_fn]; all_goals (repeat' first | exact CLe.refl _ | exact True.intro | (with_reducible refine And.intro ?_ ?_))); (all_goals first | exact CLe.refl _ | (rw [hsn, List.length_append]; exact CLe.refl _) | (rw [hsn]; exact CLe.refl _)); (done))
    | ((refine ⟨[0, 1, 3], ⟨by decide, by decide, by decide⟩, i + 1, ⟨by omega, by first | omega | (simp only []; omega)⟩, ?_, by simp only [mvH_eq, mvHa_nil, mvHa_cons, hget_0, hget_S, Option.map_some, Option.map_none, mvCs_cl, mvCs_f, mvCs_nil, mvCs_cons, mvC_val, mvC_top, mvC_sl, mvC_gv, mvC_sv, mvC_bp, mvC_agg, mvC_kp, mvGv_some, mvGv_none, mvSv_some, mvSv_none, mvBp_some, mvBp_none, loc_nil, loc_cons, ↓reduceIte, Nat.reduceEqDiff, reduceCtorEq, Nat.reduceAdd, Nat.zero_add, Nat.one_ne_zero, Nat.zero_ne_one, mvC_fn]; rw [hsn]⟩); (simp only [Le_nil, Le_cons, ↓A_cons, CLe_refl, CLe_top, CLe_full, CLe_nil, CLe_own, and_true, true_and, mvH_eq, mvHa_nil, mvHa_cons, hget_0, hget_S, Option.map_some, Option.map_none, mvCs_cl, mvCs_f, mvCs_nil, mvCs_cons, mvC_val, mvC_top, mvC_sl, mvC_gv, mvC_sv, mvC_bp, mvC_agg, mvC_kp, mvGv_some, mvGv_none, mvSv_some, mvSv_none, mvBp_some, mvBp_none, loc_nil, loc_cons, ↓reduceIte, Nat.reduceEqDiff, reduceCtorEq, Nat.reduceAdd, Nat.zero_add, Nat.one_ne_zero, Nat.zero_ne_one, mvC_fn]; all_goals (repeat' first | exact CLe.refl _ | exact True.intro | (with_reducible refine And.intro ?_ ?_))); (all_goals first | exact CLe.refl _ | (rw [hsn, List.length_append]; exact CLe.refl _) | (rw [hsn]; exact CLe.refl _)); (done))
   ·
    have b1o := b1
    refine Tr.rg hcx [] [some 16, some 17, some 18, some 19, some 20, some 21, some 22, some 23, some 24, some 25] [] rfl rfl rfl ?_
    simp -implicitDefEqProofs (maxSteps := 2000000) (disch := first | omega | (simp only [go_sem, List.length_append, List.length_drop, List.length_take, hb1] <;> omega) | decide) only [go_sem, ↓reduceIte, Nat.reduceEqDiff, reduceCtorEq, Nat.reduceLT, Nat.reduceBEq, Nat.reduceAdd, Nat.reduceSub, Nat.reduceMul, Nat.reduceMod, h18, h50, hno, b1]
    refine hK12 _ ?_
    clear hK12 K12
    refine Tr.kp [3, 4, 5, 6, 7, 12, 13, 25] ?_
    simp only [pk_cons, pk_nil, ↓A_cons, ↓reduceIte, Nat.reduceEqDiff]
    refine Tr.condG fun KT KF hT hF => ?_
    simp only [ev_tmp, ev_const, ↓A_cons, ↓reduceIte, Nat.reduceEqDiff, reduceCtorEq, condG_bool, GB_true, GB_false, decide_eq_true_eq]
    refine GB.mk (fun hc25 => hT ?_) (fun hc25 => hF ?_)
    ·
     clear hT hF KT KF
     first | have hsn := senR_T (s := s) (l := toks s) (i := i) (.inr hc25) | skip
     refine Tr.seqK fun K14 hK14 => ?_
     refine Tr.rgG hcx [32] [26, 1000032] _ [] rfl rfl rfl ?_
     simp -implicitDefEqProofs (maxSteps := 2000000) (disch := first | omega | (simp only [go_sem, List.length_append, List.length_drop, List.length_take, hb1] <;> omega) | decide) only [go_sem, ↓reduceIte, Nat.reduceEqDiff, reduceCtorEq, Nat.reduceLT, Nat.reduceBEq, Nat.reduceAdd, Nat.reduceSub, Nat.reduceMul, Nat.reduceMod, h18, h50, hno, b1]
     refine hK14 _ ?_
     clear hK14 K14
     refine Tr.kp [3, 4, 5, 7, 12, 13] ?_
     simp only [pk_cons, pk_nil, ↓A_cons, ↓reduceIte, Nat.reduceEqDiff]
     refine Tr.rg hcx [1000034] _ [] rfl rfl rfl ?_
     simp -implicitDefEqProofs (maxSteps := 2000000) (disch := first | omega | (simp only [go_sem, List.length_append, List.length_drop, List.length_take, hb1] <;> omega) | decide) only [go_sem, ↓reduceIte, Nat.reduceEqDiff, reduceCtorEq, Nat.reduceLT, Nat.reduceBEq, Nat.reduceAdd, Nat.reduceSub, Nat.reduceMul, Nat.reduceMod, h18, h50, hno, b1]
     refine hK10 _ ?_
     clear hK10 K10
     refine Tr.kp [3, 4, 5, 6, 12, 13] ?_
     simp only [pk_cons, pk_nil, ↓A_cons, ↓reduceIte, Nat.reduceEqDiff]
     refine Tr.rg hcx [] _ [] rfl rfl rfl ?_
     simp -implicitDefEqProofs (maxSteps := 2000000) (disch := first | omega | (simp only [go_sem, List.length_append, List.length_drop, List.length_take, hb1] <;> omega) | decide) only [go_sem, ↓reduceIte, Nat.reduceEqDiff, reduceCtorEq, Nat.reduceLT, Nat.reduceBEq, Nat.reduceAdd, Nat.reduceSub, Nat.reduceMul, Nat.reduceMod, h18, h50, hno, b1]
     first
     | ((refine ⟨[0, 1, 2], ⟨by decide, by decide, by decide⟩, i + 1, ⟨by omega, by first | omega | (simp only []; omega)⟩, ?_, by simp only [mvH_eq, mvHa_nil, mvHa_cons, hget_0, hget_S, Option.map_some, Option.map_none, mvCs_cl, mvCs_f, mvCs_nil, mvCs_cons, mvC_val, mvC_top, mvC_sl, mvC_gv, mvC_sv, mvC_bp, mvC_agg, mvC_kp, mvGv_some, mvGv_none, mvSv_some, mvSv_none, mvBp_some, mvBp_none, loc_nil, loc_cons, ↓reduceIte, Nat.reduceEqDiff, reduceCtorEq, Nat.reduceAdd, Nat.zero_add, Nat.one_ne_zero, Nat.zero_ne_one, mvC_fn]; rw [hsn]⟩); (simp only [Le_nil, Le_cons, ↓A_cons, CLe_refl, CLe_top, CLe_full, CLe_nil, CLe_own, and_true, true_and, mvH_eq, mvHa_nil, mvHa_cons, hget_0, hget_S, Option.map_some, Option.map_none, mvCs_cl, mvCs_f, mvCs_nil, mvCs_cons, mvC_val, mvC_top, mvC_sl, mvC_gv, mvC_sv, mvC_bp, mvC_agg, mvC_kp, mvGv_some, mvGv_none, mvSv_some, mvSv_none, mvBp_some, mvBp_none, loc_nil, loc_cons, ↓reduceIte, Nat.reduceEqDiff, reduceCtorEq, Nat.reduceAdd, Nat.zero_add, Nat.one_ne_zero, Nat.zero_ne_one, mvC_fn]; all_goals (repeat' first | exact CLe.refl _ | exact True.intro | (with_reducible refine And.intro ?_ ?_))); (all_goals first | exact CLe.refl _ | (rw [hsn, List.length_append]; exact CLe.refl _) | (rw [hsn]; exact CLe.refl _)); (done))
     | ((refine ⟨[0, 1, 3], ⟨by decide, by decide, by decide⟩, i + 1, ⟨by omega, by first | omega | (simp only []; omega)⟩, ?_, by simp only [mvH_eq, mvHa_nil, mvHa_cons, hget_0, hget_S, Option.map_some, Option.map_none, mvCs_cl, mvCs_f, mvCs_nil, mvCs_cons, mvC_val, mvC_top, mvC_sl, mvC_gv, mvC_sv, mvC_bp, mvC_agg, mvC_kp, mvGv_some, mvGv_none, mvSv_some, mvSv_none, mvBp_some, mvBp_none, loc_nil, loc_cons, ↓reduceIte, Nat.reduceEqDiff, reduceCtorEq, Nat.reduceAdd, Nat.zero_add, Nat.one_ne_zero, Nat.zero_ne_one, mvC_fn]; rw [hsn]⟩); (simp only [Le_nil, Le_cons, ↓A_cons, CLe_refl, CLe_top, CLe_full, CLe_nil, CLe_own, and_true, true_and, mvH_eq, mvHa_nil, mvHa_cons, hget_0, hget_S, Option.map_some, Option.map_none, mvCs_cl, mvCs_f, mvCs_nil, mvCs_cons, mvC_val, mvC_top, mvC_sl, mvC_gv, mvC_sv, mvC_bp, mvC_agg, mvC_kp, mvGv_some, mvGv_none, mvSv_some, mvSv_none, mvBp_some, mvBp_none, loc_nil, loc_cons, ↓reduceIte, Nat.reduceEqDiff, reduceCtorEq, Nat.reduceAdd, Nat.zero_add, Nat.one_ne_zero, Nat.zero_ne_one, mvC_fn]; all_goals (repeat' first | exact CLe.refl _ | exact True.intro | (with_reducible refine And.intro ?_ ?_))); (all_goals first | exact CLe.refl _ | (rw [hsn, List.length_append]; exact CLe.refl _) | (rw [hsn]; exact CLe.refl _)); (done))
    ·
     clear hT hF KT KF
     have hsn := senR_F (s := s) (l := toks s) (i := i) (fun h => h.elim (fun h => by omega) (fun h => by rw [hc25] at h; cases h))
     refine Tr.skip ?_
     refine hK10 _ ?_
     clear hK10 K10
     refine Tr.kp [3, 4, 5, 6, 12, 13] ?_
     simp only [pk_cons, pk_nil, ↓A_cons, ↓reduceIte, Nat.reduceEqDiff]
     refine Tr.rg hcx [] _ [] rfl rfl rfl ?_
     simp -implicitDefEqProofs (maxSteps := 2000000) (disch := first | omega | (simp only [go_sem, List.length_append, List.length_drop, List.length_take, hb1] <;> omega) | decide) only [go_sem, ↓reduceIte, Nat.reduceEqDiff, reduceCtorEq, Nat.reduceLT, Nat.reduceBEq, Nat.reduceAdd, Nat.reduceSub, Nat.reduceMul, Nat.reduceMod, h18, h50, hno, b1]
     first
     | ((refine ⟨[0, 1, 2], ⟨by decide, by decide, by decide⟩, i + 1, ⟨by omega, by first | omega | (simp only []; omega)⟩, ?_, by simp only [mvH_eq, mvHa_nil, mvHa_cons, hget_0, hget_S, Option.map_some, Option.map_none, mvCs_cl, mvCs_f, mvCs_nil, mvCs_cons, mvC_val, mvC_top, mvC_sl, mvC_gv, mvC_sv, mvC_bp, mvC_agg, mvC_kp, mvGv_some, mvGv_none, mvSv_some, mvSv_none, mvBp_some, mvBp_none, loc_nil, loc_cons, ↓reduceIte, Nat.reduceEqDiff, reduceCtorEq, Nat.reduceAdd, Nat.zero_add, Nat.one_ne_zero, Nat.zero_ne_one, mvC_fn]; rw [hsn]⟩); (simp only [Le_nil, Le_cons, ↓A_cons, CLe_refl, CLe_top, CLe_full, CLe_nil, CLe_own, and_true, true_and, mvH_eq, mvHa_nil, mvHa_cons, hget_0, hget_S, Option.map_some, Option.map_none, mvCs_cl, mvCs_f, mvCs_nil, mvCs_cons, mvC_val, mvC_top, mvC_sl, mvC_gv, mvC_sv, mvC_bp, mvC_agg, mvC_kp, mvGv_some, mvGv_none, mvSv_some, mvSv_none, mvBp_some, mvBp_none, loc_nil, loc_cons, ↓reduceIte, Nat.reduceEqDiff, reduceCtorEq, Nat.reduceAdd, Nat.zero_add, Nat.one_ne_zero, Nat.zero_ne_one, mvC_fn]; all_goals (repeat' first | exact CLe.refl _ | exact True.intro | (with_reducible refine And.intro ?_ ?_))); (all_goals first | exact CLe.refl _ | (rw [hsn, List.length_append]; exact CLe.refl _) | (rw [hsn]; exact CLe.refl _)); (done))
     | ((refine ⟨[0, 1, 3], ⟨by decide, by decide, by decide⟩, i + 1, ⟨by omega, by first | omega | (simp only []; omega)⟩, ?_, by simp only [mvH_eq, mvHa_nil, mvHa_cons, hget_0, hget_S, Option.map_some, Option.map_none, mvCs_cl, mvCs_f, mvCs_nil, mvCs_cons, mvC_val, mvC_top, mvC_sl, mvC_gv, mvC_sv, mvC_bp, mvC_agg, mvC_kp, mvGv_some, mvGv_none, mvSv_some, mvSv_none, mvBp_some, mvBp_none, loc_nil, loc_cons, ↓reduceIte, Nat.reduceEqDiff, reduceCtorEq, Nat.reduceAdd, Nat.zero_add, Nat.one_ne_zero, Nat.zero_ne_one, mvC_fn]; rw [hsn]⟩); (simp only [Le_nil, Le_cons, ↓A_cons, CLe_refl, CLe_top, CLe_full, CLe_nil, CLe_own, and_true, true_and, mvH_eq, mvHa_nil, mvHa_cons, hget_0, hget_S, Option.map_some, Option.map_none, mvCs_cl, mvCs_f, mvCs_nil, mvCs_cons, mvC_val, mvC_top, mvC_sl, mvC_gv, mvC_sv, mvC_bp, mvC_agg, mvC_kp, mvGv_some, mvGv_none, mvSv_some, mvSv_none, mvBp_some, mvBp_none, loc_nil, loc_cons, ↓reduceIte, Nat.reduceEqDiff, reduceCtorEq, Nat.reduceAdd, Nat.zero_add, Nat.one_ne_zero, Nat.zero_ne_one, mvC_fn]; all_goals (repeat' first | exact CLe.refl _ | exact True.intro | (with_reducible refine And.intro ?_ ?_))); (all_goals first | exact CLe.refl _ | (rw [hsn, List.length_append]; exact CLe.refl _) | (rw [hsn]; exact CLe.refl _)); (done))
  ·
   clear hT hF KT KF
   obtain rfl : i = (toks s).length := by omega
   refine Tr.exit ?_
   refine hK6 _ ?_
   clear hK9 K9 hK6 K6
   refine Tr.kp [5] ?_
   simp only [pk_cons, pk_nil, ↓A_cons, ↓reduceIte, Nat.reduceEqDiff]
   refine Tr.seqK fun K15 hK15 => ?_
   refine Tr.rg hcx [1000036] _ [] rfl rfl rfl ?_
   simp -implicitDefEqProofs (maxSteps := 2000000) (disch := first | omega | (simp only [go_sem, List.length_append, List.length_drop, List.length_take, hb1] <;> omega) | decide) only [go_sem, ↓reduceIte, Nat.reduceEqDiff, reduceCtorEq, Nat.reduceLT, Nat.reduceBEq, Nat.reduceAdd, Nat.reduceSub, Nat.reduceMul, Nat.reduceMod, h18, h50, hno]
   refine hK15 _ ?_
   clear hK15 K15
   refine Tr.kp [2] ?_
   simp only [pk_cons, pk_nil, ↓A_cons, ↓reduceIte, Nat.reduceEqDiff]
   refine Tr.mvA hcx [2] ⟨by decide, by decide, by decide⟩ ?_
   simp only [mapE_cons, mapE_nil, mvH_eq, mvHa_nil, mvHa_cons, hget_0, hget_S, Option.map_some, Option.map_none, mvCs_cl, mvCs_f, mvCs_nil, mvCs_cons, mvC_val, mvC_top, mvC_sl, mvC_gv, mvC_sv, mvC_bp, mvC_agg, mvC_kp, mvGv_some, mvGv_none, mvSv_some, mvSv_none, mvBp_some, mvBp_none, loc_nil, loc_cons, ↓reduceIte, Nat.reduceEqDiff, reduceCtorEq, Nat.reduceAdd, Nat.zero_add, Nat.one_ne_zero, Nat.zero_ne_one, mvC_fn]
   refine Tr.ret ?_
   simp -implicitDefEqProofs (disch := first | omega | (simp only [go_sem, List.length_append, List.length_drop, List.length_take, hb1] <;> omega) | decide) only [go_sem, ↓reduceIte, Nat.reduceEqDiff, reduceCtorEq]
   all_goals (exact ⟨rfl, rfl⟩)
set_option maxRecDepth 100000 in
set_option maxHeartbeats 8000000 in
theorem fc28c {gl : Nat → C} {M : Nat} {pu : Nat → List C → Option C}  (hcx : CxOK (cxF gl M pu)) (h18 : ∀ s : List UInt8, s.length ≤ 1000000 → pu 18 [.val (str s)] = some (sl tC (.own 3) (toks s))) (h50 : ∀ (s : List UInt8) (l : List Tok) (i : Nat), i + 1 < l.length ∧ l.length ≤ 1000000 ∧ (gt l i).a < s.length ∧ s.length ≤ 1000000 → pu 50 [.val (nI i), .kp [.val (str s)], .kp [sl tC .no l]] = some (.val (.bool (stopI s l i)))) (hno : ∀ (g : Nat) (xs : List C), refy xs = true → pu g xs = none) (Y : List (Nat × Nat)) (s : List UInt8) (hs : s.length ≤ 1000000) : FC Try.prog gl 28 [.val (str s)] [some (cl pC Y)] (.gv 1 (sents s).length 2) [some (cl pC Y), some (cl pC (sents s))] := by
 replace hcx := hcx.reN (M := 37)
 refine FC.ofH (cx := cxF gl 37 pu) (rs := [.tmp 2]) rfl Try.func28 rfl rfl rfl (by simp only [List.length_cons, List.length_nil]; decide)  ?_
 simp only [ini, go_sem]
 have hT := toks_len s
 have hb1 := True.intro
 refine Tr.seqK fun K1 hK1 => ?_
 refine Tr.rg hcx [] _ [none] rfl rfl rfl ?_
 simp -implicitDefEqProofs (maxSteps := 2000000) (disch := first | omega | (simp only [go_sem, List.length_append, List.length_drop, List.length_take, hb1] <;> omega) | decide) only [go_sem, ↓reduceIte, Nat.reduceEqDiff, reduceCtorEq, Nat.reduceLT, Nat.reduceBEq, Nat.reduceAdd, Nat.reduceSub, Nat.reduceMul, Nat.reduceMod, h18, h50, hno]
 refine hK1 _ ?_
 clear hK1 K1
 refine Tr.kp [1] ?_
 simp only [pk_cons, pk_nil, ↓A_cons, ↓reduceIte, Nat.reduceEqDiff]
 refine Tr.seqK fun K2 hK2 => ?_
 refine Tr.rg hcx [] _ [none] rfl rfl rfl ?_
 simp -implicitDefEqProofs (maxSteps := 2000000) (disch := first | omega | (simp only [go_sem, List.length_append, List.length_drop, List.length_take, hb1] <;> omega) | decide) only [go_sem, ↓reduceIte, Nat.reduceEqDiff, reduceCtorEq, Nat.reduceLT, Nat.reduceBEq, Nat.reduceAdd, Nat.reduceSub, Nat.reduceMul, Nat.reduceMod, h18, h50, hno]
 refine hK2 _ ?_
 clear hK2 K2
 refine Tr.kp [1, 3] ?_
 simp only [pk_cons, pk_nil, ↓A_cons, ↓reduceIte, Nat.reduceEqDiff]
 refine Tr.seqK fun K3 hK3 => ?_
 refine Tr.rg hcx [1000010] _ [] rfl rfl rfl ?_
 simp -implicitDefEqProofs (maxSteps := 2000000) (disch := first | omega | (simp only [go_sem, List.length_append, List.length_drop, List.length_take, hb1] <;> omega) | decide) only [go_sem, ↓reduceIte, Nat.reduceEqDiff, reduceCtorEq, Nat.reduceLT, Nat.reduceBEq, Nat.reduceAdd, Nat.reduceSub, Nat.reduceMul, Nat.reduceMod, h18, h50, hno]
 refine hK3 _ ?_
 clear hK3 K3
 refine Tr.kp [3, 4] ?_
 simp only [pk_cons, pk_nil, ↓A_cons, ↓reduceIte, Nat.reduceEqDiff]
 refine Tr.seqK fun K4 hK4 => ?_
 refine Tr.rg hcx [] _ [] rfl rfl rfl ?_
 simp -implicitDefEqProofs (maxSteps := 2000000) (disch := first | omega | (simp only [go_sem, List.length_append, List.length_drop, List.length_take, hb1] <;> omega) | decide) only [go_sem, ↓reduceIte, Nat.reduceEqDiff, reduceCtorEq, Nat.reduceLT, Nat.reduceBEq, Nat.reduceAdd, Nat.reduceSub, Nat.reduceMul, Nat.reduceMod, h18, h50, hno]
 refine hK4 _ ?_
 clear hK4 K4
 refine Tr.kp [3, 4, 5] ?_
 simp only [pk_cons, pk_nil, ↓A_cons, ↓reduceIte, Nat.reduceEqDiff]
 refine Tr.seqK fun K5 hK5 => ?_
 refine Tr.rg hcx [] _ [] rfl rfl rfl ?_
 simp -implicitDefEqProofs (maxSteps := 2000000) (disch := first | omega | (simp only [go_sem, List.length_append, List.length_drop, List.length_take, hb1] <;> omega) | decide) only [go_sem, ↓reduceIte, Nat.reduceEqDiff, reduceCtorEq, Nat.reduceLT, Nat.reduceBEq, Nat.reduceAdd, Nat.reduceSub, Nat.reduceMul, Nat.reduceMod, h18, h50, hno]
 refine hK5 _ ?_
 clear hK5 K5
 refine Tr.kp [3, 4, 5, 6] ?_
 simp only [pk_cons, pk_nil, ↓A_cons, ↓reduceIte, Nat.reduceEqDiff]
 refine Tr.seqK fun K6 hK6 => ?_
 refine Tr.seqK fun K7 hK7 => ?_
 refine Tr.rg hcx [] _ [] rfl rfl rfl ?_
 simp -implicitDefEqProofs (maxSteps := 2000000) (disch := first | omega | (simp only [go_sem, List.length_append, List.length_drop, List.length_take, hb1] <;> omega) | decide) only [go_sem, ↓reduceIte, Nat.reduceEqDiff, reduceCtorEq, Nat.reduceLT, Nat.reduceBEq, Nat.reduceAdd, Nat.reduceSub, Nat.reduceMul, Nat.reduceMod, h18, h50, hno]
 refine hK7 _ ?_
 clear hK7 K7
 refine Tr.kp [3, 4, 5, 6, 12, 13] ?_
 simp only [pk_cons, pk_nil, ↓A_cons, ↓reduceIte, Nat.reduceEqDiff]
 refine Tr.blk ?_
 refine Tr.virt ?_
 simp only [List.cons_append, List.nil_append]
 refine Tr.loopM hcx (α := Nat) (fun a => [(3, ?v3_50), (4, ?v4_50), (5, .gv 3 (senR s (toks s) a).2.length 2), (6, .val (nI (senR s (toks s) a).1)), (12, ?v12_50), (13, .val (nI a))]) (fun a => [some (cl pC Y), some [.val (str s)], some [sl tC (.own 3) (toks s)], some (cl pC (senR s (toks s) a).2)]) (fun a => a ≤ (toks s).length) (fun a => (toks s).length - a) (0) ?_ ?le_50 ?hh_50 ?bd_50
 case hh_50 => exact rfl
 case le_50 => (simp only [Le_nil, Le_cons, ↓A_cons, ↓reduceIte, Nat.reduceEqDiff, reduceCtorEq, CLe_refl, CLe_top, CLe_full, CLe_nil, CLe_own, and_true, true_and]; all_goals (repeat' first | exact CLe.refl _ | exact True.intro | (refine CLe_sln ?_; first | with_reducible rfl | (simp only [List.take_zero]; done) | (rfl; done)) | exact CLe_nI (by omega) | exact CLe_int (by omega) | exact CLe_inI (by omega) | exact CLe_nIi (by omega) | with_reducible apply And.intro)); all_goals first | exact CLe.nilG 3 2 | exact CLe.refl _
 · omega
 case bd_50 =>
  rintro i hi
  have hb1 := senR_le s (toks s) i
  refine Tr.seqK fun K8 hK8 => ?_
  refine Tr.rg hcx [] _ [] rfl rfl rfl ?_
  simp -implicitDefEqProofs (maxSteps := 2000000) (disch := first | omega | (simp only [go_sem, List.length_append, List.length_drop, List.length_take, hb1] <;> omega) | decide) only [go_sem, ↓reduceIte, Nat.reduceEqDiff, reduceCtorEq, Nat.reduceLT, Nat.reduceBEq, Nat.reduceAdd, Nat.reduceSub, Nat.reduceMul, Nat.reduceMod, h18, h50, hno]
  refine hK8 _ ?_
  clear hK8 K8
  refine Tr.kp [3, 4, 5, 6, 12, 13, 14] ?_
  simp only [pk_cons, pk_nil, ↓A_cons, ↓reduceIte, Nat.reduceEqDiff]
  refine Tr.seqK fun K9 hK9 => ?_
  refine Tr.condG fun KT KF hT hF => ?_
  simp only [ev_tmp, ev_const, ↓A_cons, ↓reduceIte, Nat.reduceEqDiff, reduceCtorEq, condG_bool, GB_true, GB_false, decide_eq_true_eq]
  refine GB.dec (fun hc14 => hT ?_) (fun hc14 => hF ?_)
  ·
   clear hT hF KT KF
   have hb2 := toks_get s i hc14
   refine Tr.skip ?_
   refine hK9 _ ?_
   clear hK9 K9
   refine Tr.kp [3, 4, 5, 6, 12, 13] ?_
   simp only [pk_cons, pk_nil, ↓A_cons, ↓reduceIte, Nat.reduceEqDiff]
   refine Tr.seqK fun K10 hK10 => ?_
   refine Tr.blk ?_
   refine Tr.seqK fun K11 hK11 => ?_
   refine Tr.rg hcx [1000015] _ [] rfl rfl rfl ?_
   simp -implicitDefEqProofs (maxSteps := 2000000) (disch := first | omega | (simp only [go_sem, List.length_append, List.length_drop, List.length_take, hb1] <;> omega) | decide) only [go_sem, ↓reduceIte, Nat.reduceEqDiff, reduceCtorEq, Nat.reduceLT, Nat.reduceBEq, Nat.reduceAdd, Nat.reduceSub, Nat.reduceMul, Nat.reduceMod, h18, h50, hno]
   refine hK11 _ ?_
   clear hK11 K11
   refine Tr.kp [3, 4, 5, 6, 7, 12, 13] ?_
   simp only [pk_cons, pk_nil, ↓A_cons, ↓reduceIte, Nat.reduceEqDiff]
   refine Tr.seqK fun K12 hK12 => ?_
   by_cases b1 : i = (toks s).length - 1
   ·
    have b1o := b1
    replace b1 := eq_true b1
    have hsn := senR_T (s := s) (l := toks s) (i := i) (.inl (by omega))
    refine Tr.rg hcx [] [some 16, some 17, some 18, some 19, some 20, some 21, some 22, some 23, some 24, some 25] [] rfl rfl rfl ?_
    simp -implicitDefEqProofs (maxSteps := 2000000) (disch := first | omega | (simp only [go_sem, List.length_append, List.length_drop, List.length_take, hb1] <;> omega) | decide) only [go_sem, ↓reduceIte, Nat.reduceEqDiff, reduceCtorEq, Nat.reduceLT, Nat.reduceBEq, Nat.reduceAdd, Nat.reduceSub, Nat.reduceMul, Nat.reduceMod, h18, h50, hno, b1]
    refine hK12 _ ?_
    clear hK12 K12
    refine Tr.kp [3, 4, 5, 6, 7, 12, 13, 25] ?_
    simp only [pk_cons, pk_nil, ↓A_cons, ↓reduceIte, Nat.reduceEqDiff]
    refine Tr.condG fun KT KF hT hF => ?_
    simp only [ev_tmp, ev_const, ↓A_cons, ↓reduceIte, Nat.reduceEqDiff, reduceCtorEq, condG_bool, GB_true, GB_false, decide_eq_true_eq]
    refine hT ?_
    clear hT hF KT KF
    refine Tr.seqK fun K13 hK13 => ?_
    refine Tr.rgG hcx [32] [26, 1000032] _ [] rfl rfl rfl ?_
    simp -implicitDefEqProofs (maxSteps := 2000000) (disch := first | omega | (simp only [go_sem, List.length_append, List.length_drop, List.length_take, hb1] <;> omega) | decide) only [go_sem, ↓reduceIte, Nat.reduceEqDiff, reduceCtorEq, Nat.reduceLT, Nat.reduceBEq, Nat.reduceAdd, Nat.reduceSub, Nat.reduceMul, Nat.reduceMod, h18, h50, hno, b1]
    refine hK13 _ ?_
    clear hK13 K13
    refine Tr.kp [3, 4, 5, 7, 12, 13] ?_
    simp only [pk_cons, pk_nil, ↓A_cons, ↓reduceIte, Nat.reduceEqDiff]
    refine Tr.rg hcx [1000034] _ [] rfl rfl rfl ?_
    simp -implicitDefEqProofs (maxSteps := 2000000) (disch := first | omega | (simp only [go_sem, List.length_append, List.length_drop, List.length_take, hb1] <;> omega) | decide) only [go_sem, ↓reduceIte, Nat.reduceEqDiff, reduceCtorEq, Nat.reduceLT, Nat.reduceBEq, Nat.reduceAdd, Nat.reduceSub, Nat.reduceMul, Nat.reduceMod, h18, h50, hno, b1]
    refine hK10 _ ?_
    clear hK10 K10
    refine Tr.kp [3, 4, 5, 6, 12, 13] ?_
    simp only [pk_cons, pk_nil, ↓A_cons, ↓reduceIte, Nat.reduceEqDiff]
    refine Tr.rg hcx [] _ [] rfl rfl rfl ?_
    simp -implicitDefEqProofs (maxSteps := 2000000) (disch := first | omega | (simp only [go_sem, List.length_append, List.length_drop, List.length_take, hb1] <;> omega) | decide) only [go_sem, ↓reduceIte, Nat.reduceEqDiff, reduceCtorEq, Nat.reduceLT, Nat.reduceBEq, Nat.reduceAdd, Nat.reduceSub, Nat.reduceMul, Nat.reduceMod, h18, h50, hno, b1]
    first
    | ((refine ⟨[0, 1, 2, 3], ⟨by decide, by decide, by decide⟩, i + 1, ⟨by omega, by first | omega | (simp only []; omega)⟩, ?_, by simp only [mvH_eq, mvHa_nil, mvHa_cons, hget_0, hget_S, Option.map_some, Option.map_none, mvCs_cl, mvCs_f, mvCs_nil, mvCs_cons, mvC_val, mvC_top, mvC_sl, mvC_gv, mvC_sv, mvC_bp, mvC_agg, mvC_kp, mvGv_some, mvGv_none, mvSv_some, mvSv_none, mvBp_some, mvBp_none, loc_nil, loc_cons, ↓reduceIte, Nat.reduceEqDiff, reduceCtorEq, Nat.reduceAdd, Nat.zero_add, Nat.one_ne_zero, Nat.zero_ne_one, mvC_fn]; rw [hsn]⟩); (simp only [Le_nil, Le_cons, ↓A_cons, CLe_refl, CLe_top, CLe_full, CLe_nil, CLe_own, and_true, true_and, mvH_eq, mvHa_nil, mvHa_cons, hget_0, hget_S, Option.map_some, Option.map_none, mvCs_cl, mvCs_f, mvCs_nil, mvCs_cons, mvC_val, mvC_top, mvC_sl, mvC_gv, mvC_sv, mvC_bp, mvC_agg, mvC_kp, mvGv_some, mvGv_none, mvSv_some, mvSv_none, mvBp_some, mvBp_none, loc_nil, loc_cons, ↓reduceIte, Nat.reduceEqDiff, reduceCtorEq, Nat.reduceAdd, Nat.zero_add, Nat.one_ne_zero, Nat.zero_ne_one, mvC_fn]; all_goals (repeat' first | exact CLe.refl _ | exact True.intro | (with_reducible refine And.intro ?_ ?_))); (all_goals first | exact CLe.refl _ | (rw [hsn, List.length_append]; exact CLe.refl _) | (rw [hsn]; exact CLe.refl _)); (done))
    | ((refine ⟨[0, 1, 2, 4], ⟨by decide, by decide, by decide⟩, i + 1, ⟨by omega, by first | omega | (simp only []; omega)⟩, ?_, by simp only [mvH_eq, mvHa_nil, mvHa_cons, hget_0, hget_S, Option.map_some, Option.map_none, mvCs_cl, mvCs_f, mvCs_nil, mvCs_cons, mvC_val, mvC_top, mvC_sl, mvC_gv, mvC_sv, mvC_bp, mvC_agg, mvC_kp, mvGv_some, mvGv_none, mvSv_some, mvSv_none, mvBp_some, mvBp_none, loc_nil, loc_cons, ↓reduceIte, Nat.reduceEqDiff, reduceCtorEq, Nat.reduceAdd, Nat.zero_add, Nat.one_ne_zero, Nat.zero_ne_one, mvC_fn]; rw [hsn]⟩); (simp only [Le_nil, Le_cons, ↓A_cons, CLe_refl, CLe_top, CLe_full, CLe_nil, CLe_own, and_true, true_and, mvH_eq, mvHa_nil, mvHa_cons, hget_0, hget_S, Option.map_some, Option.map_none, mvCs_cl, mvCs_f, mvCs_nil, mvCs_cons, mvC_val, mvC_top, mvC_sl, mvC_gv, mvC_sv, mvC_bp, mvC_agg, mvC_kp, mvGv_some, mvGv_none, mvSv_some, mvSv_none, mvBp_some, mvBp_none, loc_nil, loc_cons, ↓reduceIte, Nat.reduceEqDiff, reduceCtorEq, Nat.reduceAdd, Nat.zero_add, Nat.one_ne_zero, Nat.zero_ne_one, mvC_fn]; all_goals (repeat' first | exact CLe.refl _ | exact True.intro | (with_reducible refine And.intro ?_ ?_))); (all_goals first | exact CLe.refl _ | (rw [hsn, List.length_append]; exact CLe.refl _) | (rw [hsn]; exact CLe.refl _)); (done))
   ·
    have b1o := b1
    refine Tr.rg hcx [] [some 16, some 17, some 18, some 19, some 20, some 21, some 22, some 23, some 24, some 25] [] rfl rfl rfl ?_
    simp -implicitDefEqProofs (maxSteps := 2000000) (disch := first | omega | (simp only [go_sem, List.length_append, List.length_drop, List.length_take, hb1] <;> omega) | decide) only [go_sem, ↓reduceIte, Nat.reduceEqDiff, reduceCtorEq, Nat.reduceLT, Nat.reduceBEq, Nat.reduceAdd, Nat.reduceSub, Nat.reduceMul, Nat.reduceMod, h18, h50, hno, b1]
    refine hK12 _ ?_
    clear hK12 K12
    refine Tr.kp [3, 4, 5, 6, 7, 12, 13, 25] ?_
    simp only [pk_cons, pk_nil, ↓A_cons, ↓reduceIte, Nat.reduceEqDiff]
    refine Tr.condG fun KT KF hT hF => ?_
    simp only [ev_tmp, ev_const, ↓A_cons, ↓reduceIte, Nat.reduceEqDiff, reduceCtorEq, condG_bool, GB_true, GB_false, decide_eq_true_eq]
    refine GB.mk (fun hc25 => hT ?_) (fun hc25 => hF ?_)
    ·
     clear hT hF KT KF
     first | have hsn := senR_T (s := s) (l := toks s) (i := i) (.inr hc25) | skip
     refine Tr.seqK fun K14 hK14 => ?_
     refine Tr.rgG hcx [32] [26, 1000032] _ [] rfl rfl rfl ?_
     simp -implicitDefEqProofs (maxSteps := 2000000) (disch := first | omega | (simp only [go_sem, List.length_append, List.length_drop, List.length_take, hb1] <;> omega) | decide) only [go_sem, ↓reduceIte, Nat.reduceEqDiff, reduceCtorEq, Nat.reduceLT, Nat.reduceBEq, Nat.reduceAdd, Nat.reduceSub, Nat.reduceMul, Nat.reduceMod, h18, h50, hno, b1]
     refine hK14 _ ?_
     clear hK14 K14
     refine Tr.kp [3, 4, 5, 7, 12, 13] ?_
     simp only [pk_cons, pk_nil, ↓A_cons, ↓reduceIte, Nat.reduceEqDiff]
     refine Tr.rg hcx [1000034] _ [] rfl rfl rfl ?_
     simp -implicitDefEqProofs (maxSteps := 2000000) (disch := first | omega | (simp only [go_sem, List.length_append, List.length_drop, List.length_take, hb1] <;> omega) | decide) only [go_sem, ↓reduceIte, Nat.reduceEqDiff, reduceCtorEq, Nat.reduceLT, Nat.reduceBEq, Nat.reduceAdd, Nat.reduceSub, Nat.reduceMul, Nat.reduceMod, h18, h50, hno, b1]
     refine hK10 _ ?_
     clear hK10 K10
     refine Tr.kp [3, 4, 5, 6, 12, 13] ?_
     simp only [pk_cons, pk_nil, ↓A_cons, ↓reduceIte, Nat.reduceEqDiff]
     refine Tr.rg hcx [] _ [] rfl rfl rfl ?_
     simp -implicitDefEqProofs (maxSteps := 2000000) (disch := first | omega | (simp only [go_sem, List.length_append, List.length_drop, List.length_take, hb1] <;> omega) | decide) only [go_sem, ↓reduceIte, Nat.reduceEqDiff, reduceCtorEq, Nat.reduceLT, Nat.reduceBEq, Nat.reduceAdd, Nat.reduceSub, Nat.reduceMul, Nat.reduceMod, h18, h50, hno, b1]
     first
     | ((refine ⟨[0, 1, 2, 3], ⟨by decide, by decide, by decide⟩, i + 1, ⟨by omega, by first | omega | (simp only []; omega)⟩, ?_, by simp only [mvH_eq, mvHa_nil, mvHa_cons, hget_0, hget_S, Option.map_some, Option.map_none, mvCs_cl, mvCs_f, mvCs_nil, mvCs_cons, mvC_val, mvC_top, mvC_sl, mvC_gv, mvC_sv, mvC_bp, mvC_agg, mvC_kp, mvGv_some, mvGv_none, mvSv_some, mvSv_none, mvBp_some, mvBp_none, loc_nil, loc_cons, ↓reduceIte, Nat.reduceEqDiff, reduceCtorEq, Nat.reduceAdd, Nat.zero_add, Nat.one_ne_zero, Nat.zero_ne_one, mvC_fn]; rw [hsn]⟩); (simp only [Le_nil, Le_cons, ↓A_cons, CLe_refl, CLe_top, CLe_full, CLe_nil, CLe_own, and_true, true_and, mvH_eq, mvHa_nil, mvHa_cons, hget_0, hget_S, Option.map_some, Option.map_none, mvCs_cl, mvCs_f, mvCs_nil, mvCs_cons, mvC_val, mvC_top, mvC_sl, mvC_gv, mvC_sv, mvC_bp, mvC_agg, mvC_kp, mvGv_some, mvGv_none, mvSv_some, mvSv_none, mvBp_some, mvBp_none, loc_nil, loc_cons, ↓reduceIte, Nat.reduceEqDiff, reduceCtorEq, Nat.reduceAdd, Nat.zero_add, Nat.one_ne_zero, Nat.zero_ne_one, mvC_fn]; all_goals (repeat' first | exact CLe.refl _ | exact True.intro | (with_reducible refine And.intro ?_ ?_))); (all_goals first | exact CLe.refl _ | (rw [hsn, List.length_append]; exact CLe.refl _) | (rw [hsn]; exact CLe.refl _)); (done))
     | ((refine ⟨[0, 1, 2, 4], ⟨by decide, by decide, by decide⟩, i + 1, ⟨by omega, by first | omega | (simp only []; omega)⟩, ?_, by simp only [mvH_eq, mvHa_nil, mvHa_cons, hget_0, hget_S, Option.map_some, Option.map_none, mvCs_cl, mvCs_f, mvCs_nil, mvCs_cons, mvC_val, mvC_top, mvC_sl, mvC_gv, mvC_sv, mvC_bp, mvC_agg, mvC_kp, mvGv_some, mvGv_none, mvSv_some, mvSv_none, mvBp_some, mvBp_none, loc_nil, loc_cons, ↓reduceIte, Nat.reduceEqDiff, reduceCtorEq, Nat.reduceAdd, Nat.zero_add, Nat.one_ne_zero, Nat.zero_ne_one, mvC_fn]; rw [hsn]⟩); (simp only [Le_nil, Le_cons, ↓A_cons, CLe_refl, CLe_top, CLe_full, CLe_nil, CLe_own, and_true, true_and, mvH_eq, mvHa_nil, mvHa_cons, hget_0, hget_S, Option.map_some, Option.map_none, mvCs_cl, mvCs_f, mvCs_nil, mvCs_cons, mvC_val, mvC_top, mvC_sl, mvC_gv, mvC_sv, mvC_bp, mvC_agg, mvC_kp, mvGv_some, mvGv_none, mvSv_some, mvSv_none, mvBp_some, mvBp_none, loc_nil, loc_cons, ↓reduceIte, Nat.reduceEqDiff, reduceCtorEq, Nat.reduceAdd, Nat.zero_add, Nat.one_ne_zero, Nat.zero_ne_one, mvC_fn]; all_goals (repeat' first | exact CLe.refl _ | exact True.intro | (with_reducible refine And.intro ?_ ?_))); (all_goals first | exact CLe.refl _ | (rw [hsn, List.length_append]; exact CLe.refl _) | (rw [hsn]; exact CLe.refl _)); (done))
    ·
     clear hT hF KT KF
     have hsn := senR_F (s := s) (l := toks s) (i := i) (fun h => h.elim (fun h => by omega) (fun h => by rw [hc25] at h; cases h))
     refine Tr.skip ?_
     refine hK10 _ ?_
     clear hK10 K10
     refine Tr.kp [3, 4, 5, 6, 12, 13] ?_
     simp only [pk_cons, pk_nil, ↓A_cons, ↓reduceIte, Nat.reduceEqDiff]
     refine Tr.rg hcx [] _ [] rfl rfl rfl ?_
     simp -implicitDefEqProofs (maxSteps := 2000000) (disch := first | omega | (simp only [go_sem, List.length_append, List.length_drop, List.length_take, hb1] <;> omega) | decide) only [go_sem, ↓reduceIte, Nat.reduceEqDiff, reduceCtorEq, Nat.reduceLT, Nat.reduceBEq, Nat.reduceAdd, Nat.reduceSub, Nat.reduceMul, Nat.reduceMod, h18, h50, hno, b1]
     first
     | ((refine ⟨[0, 1, 2, 3], ⟨by decide, by decide, by decide⟩, i + 1, ⟨by omega, by first | omega | (simp only []; omega)⟩, ?_, by simp only [mvH_eq, mvHa_nil, mvHa_cons, hget_0, hget_S, Option.map_some, Option.map_none, mvCs_cl, mvCs_f, mvCs_nil, mvCs_cons, mvC_val, mvC_top, mvC_sl, mvC_gv, mvC_sv, mvC_bp, mvC_agg, mvC_kp, mvGv_some, mvGv_none, mvSv_some, mvSv_none, mvBp_some, mvBp_none, loc_nil, loc_cons, ↓reduceIte, Nat.reduceEqDiff, reduceCtorEq, Nat.reduceAdd, Nat.zero_add, Nat.one_ne_zero, Nat.zero_ne_one, mvC_fn]; rw [hsn]⟩); (simp only [Le_nil, Le_cons, ↓A_cons, CLe_refl, CLe_top, CLe_full, CLe_nil, CLe_own, and_true, true_and, mvH_eq, mvHa_nil, mvHa_cons, hget_0, hget_S, Option.map_some, Option.map_none, mvCs_cl, mvCs_f, mvCs_nil, mvCs_cons, mvC_val, mvC_top, mvC_sl, mvC_gv, mvC_sv, mvC_bp, mvC_agg, mvC_kp, mvGv_some, mvGv_none, mvSv_some, mvSv_none, mvBp_some, mvBp_none, loc_nil, loc_cons, ↓reduceIte, Nat.reduceEqDiff, reduceCtorEq, Nat.reduceAdd, Nat.zero_add, Nat.one_ne_zero, Nat.zero_ne_one, mvC_fn]; all_goals (repeat' first | exact CLe.refl _ | exact True.intro | (with_reducible refine And.intro ?_ ?_))); (all_goals first | exact CLe.refl _ | (rw [hsn, List.length_append]; exact CLe.refl _) | (rw [hsn]; exact CLe.refl _)); (done))
     | ((refine ⟨[0, 1, 2, 4], ⟨by decide, by decide, by decide⟩, i + 1, ⟨by omega, by first | omega | (simp only []; omega)⟩, ?_, by simp only [mvH_eq, mvHa_nil, mvHa_cons, hget_0, hget_S, Option.map_some, Option.map_none, mvCs_cl, mvCs_f, mvCs_nil, mvCs_cons, mvC_val, mvC_top, mvC_sl, mvC_gv, mvC_sv, mvC_bp, mvC_agg, mvC_kp, mvGv_some, mvGv_none, mvSv_some, mvSv_none, mvBp_some, mvBp_none, loc_nil, loc_cons, ↓reduceIte, Nat.reduceEqDiff, reduceCtorEq, Nat.reduceAdd, Nat.zero_add, Nat.one_ne_zero, Nat.zero_ne_one, mvC_fn]; rw [hsn]⟩); (simp only [Le_nil, Le_cons, ↓A_cons, CLe_refl, CLe_top, CLe_full, CLe_nil, CLe_own, and_true, true_and, mvH_eq, mvHa_nil, mvHa_cons, hget_0, hget_S, Option.map_some, Option.map_none, mvCs_cl, mvCs_f, mvCs_nil, mvCs_cons, mvC_val, mvC_top, mvC_sl, mvC_gv, mvC_sv, mvC_bp, mvC_agg, mvC_kp, mvGv_some, mvGv_none, mvSv_some, mvSv_none, mvBp_some, mvBp_none, loc_nil, loc_cons, ↓reduceIte, Nat.reduceEqDiff, reduceCtorEq, Nat.reduceAdd, Nat.zero_add, Nat.one_ne_zero, Nat.zero_ne_one, mvC_fn]; all_goals (repeat' first | exact CLe.refl _ | exact True.intro | (with_reducible refine And.intro ?_ ?_))); (all_goals first | exact CLe.refl _ | (rw [hsn, List.length_append]; exact CLe.refl _) | (rw [hsn]; exact CLe.refl _)); (done))
  ·
   clear hT hF KT KF
   obtain rfl : i = (toks s).length := by omega
   refine Tr.exit ?_
   refine hK6 _ ?_
   clear hK9 K9 hK6 K6
   refine Tr.kp [5] ?_
   simp only [pk_cons, pk_nil, ↓A_cons, ↓reduceIte, Nat.reduceEqDiff]
   refine Tr.seqK fun K15 hK15 => ?_
   refine Tr.rg hcx [1000036] _ [] rfl rfl rfl ?_
   simp -implicitDefEqProofs (maxSteps := 2000000) (disch := first | omega | (simp only [go_sem, List.length_append, List.length_drop, List.length_take, hb1] <;> omega) | decide) only [go_sem, ↓reduceIte, Nat.reduceEqDiff, reduceCtorEq, Nat.reduceLT, Nat.reduceBEq, Nat.reduceAdd, Nat.reduceSub, Nat.reduceMul, Nat.reduceMod, h18, h50, hno]
   refine hK15 _ ?_
   clear hK15 K15
   refine Tr.kp [2] ?_
   simp only [pk_cons, pk_nil, ↓A_cons, ↓reduceIte, Nat.reduceEqDiff]
   refine Tr.mvA hcx [0, 3] ⟨by decide, by decide, by decide⟩ ?_
   simp only [mapE_cons, mapE_nil, mvH_eq, mvHa_nil, mvHa_cons, hget_0, hget_S, Option.map_some, Option.map_none, mvCs_cl, mvCs_f, mvCs_nil, mvCs_cons, mvC_val, mvC_top, mvC_sl, mvC_gv, mvC_sv, mvC_bp, mvC_agg, mvC_kp, mvGv_some, mvGv_none, mvSv_some, mvSv_none, mvBp_some, mvBp_none, loc_nil, loc_cons, ↓reduceIte, Nat.reduceEqDiff, reduceCtorEq, Nat.reduceAdd, Nat.zero_add, Nat.one_ne_zero, Nat.zero_ne_one, mvC_fn]
   refine Tr.ret ?_
   simp -implicitDefEqProofs (disch := first | omega | (simp only [go_sem, List.length_append, List.length_drop, List.length_take, hb1] <;> omega) | decide) only [go_sem, ↓reduceIte, Nat.reduceEqDiff, reduceCtorEq]
   all_goals (exact ⟨rfl, rfl⟩)
end Go.Sx
namespace Go.Sx
theorem stop_one (s : List UInt8) (i : Nat) (h : i < (toks s).length) :
    (decide (part s i (i + 1 : Nat) = [46]) || decide (part s i (i + 1 : Nat) = [63]) || decide (part s i (i + 1 : Nat) = [33])) = isStop (gt s (gt (toks s) i).a) := by
  obtain ⟨⟨q1, q2, q3, q4⟩, q5, q6, q7, q8⟩ := toks_at s i h
  rw [part_one s i h]
  have hd : s.drop (gt (toks s) i).a = gt s (gt (toks s) i).a :: s.drop ((gt (toks s) i).a + 1) := drop_cons (by omega)
  obtain ⟨m, hm⟩ : ∃ m, (gt (toks s) i).e - (gt (toks s) i).a = m + 1 := ⟨(gt (toks s) i).e - (gt (toks s) i).a - 1, by omega⟩
  have hk := (q6 _ (Nat.le_refl _) q2).2
  have key : ∀ c : UInt8, kd c = 2 → ((s.drop (gt (toks s) i).a).take ((gt (toks s) i).e - (gt (toks s) i).a) = [c] ↔ gt s (gt (toks s) i).a = c) := fun c hc => by
    rw [hd, hm, List.take_succ_cons]
    constructor
    · intro h; exact (List.cons.inj h).1
    · intro h
      rw [h] at hk
      have : (gt (toks s) i).e = (gt (toks s) i).a + 1 := q7 (by omega)
      have hm0 : m = 0 := by omega
      rw [hm0, h, List.take_zero]
  unfold isStop
  simp only [key 46 (by decide), key 63 (by decide), key 33 (by decide)]
def stopV (s : List UInt8) (l : List Tok) (i : Nat) : Bool := (decide (i + 1 = l.length) || decide ((gt l i).e < (gt l (i + 1)).a)) && isStop (gt s (gt l i).a)
theorem stopV_I {s : List UInt8} {l : List Tok} {i : Nat} (h : i + 1 < l.length) : stopV s l i = stopI s l i := by
  unfold stopV stopI
  have : decide (i + 1 = l.length) = false := by simp; omega
  rw [this, Bool.false_or, Bool.and_comm]
theorem stopV_last {s : List UInt8} {l : List Tok} {i : Nat} (h : i + 1 = l.length) : stopV s l i = isStop (gt s (gt l i).a) := by
  unfold stopV
  have : decide (i + 1 = l.length) = true := by simp [h]
  rw [this, Bool.true_or, Bool.true_and]
/-- Sentences from a token to another. -/
def Seg (s : List UInt8) (l : List Tok) : Nat → List (Nat × Nat) → Nat → Prop
  | a, [], b => a = b
  | a, p :: r, b => p.1 = a ∧ a < p.2 ∧ p.2 ≤ l.length ∧ (∀ j, a ≤ j → j + 1 < p.2 → stopI s l j = false) ∧ (p.2 < l.length → stopI s l (p.2 - 1) = true) ∧ Seg s l p.2 r b
theorem Seg.snoc {s : List UInt8} {l : List Tok} : ∀ {out : List (Nat × Nat)} {a b : Nat} {p : Nat × Nat}, Seg s l a out b → p.1 = b → b < p.2 → p.2 ≤ l.length → (∀ j, b ≤ j → j + 1 < p.2 → stopI s l j = false) → (p.2 < l.length → stopI s l (p.2 - 1) = true) → Seg s l a (out ++ [p]) p.2
  | [], a, b, p, h, h1, h2, h3, h4, h5 => by
    have h : a = b := h
    subst h
    exact ⟨h1, h2, h3, h4, h5, rfl⟩
  | q :: r, a, b, p, h, h1, h2, h3, h4, h5 => by
    obtain ⟨g1, g2, g3, g4, g5, g6⟩ := h
    exact ⟨g1, g2, g3, g4, g5, g6.snoc h1 h2 h3 h4 h5⟩
theorem senR_seg (s : List UInt8) (l : List Tok) : ∀ n, n ≤ l.length → (senR s l n).1 ≤ n ∧ Seg s l 0 (senR s l n).2 (senR s l n).1 ∧ (∀ j, (senR s l n).1 ≤ j → j < n → stopI s l j = false) ∧ (n = l.length → (senR s l n).1 = n)
  | 0, _ => ⟨Nat.le_refl _, rfl, fun j h1 h2 => by omega, fun _ => rfl⟩
  | n + 1, h => by
    obtain ⟨h1, h2, h3, h4⟩ := senR_seg s l n (by omega)
    by_cases hc : n + 1 = l.length ∨ stopI s l n = true
    · have e : senR s l (n + 1) = (n + 1, (senR s l n).2 ++ [((senR s l n).1, n + 1)]) := by rw [senR, senF, if_pos hc]
      rw [e]
      refine ⟨Nat.le_refl _, ?_, fun j g1 g2 => by simp only [] at g1; omega, fun _ => rfl⟩
      refine h2.snoc rfl (by simp only []; omega) h (fun j g1 g2 => h3 j g1 (by simp only [] at g2; omega)) (fun g => ?_)
      rcases hc with hc | hc
      · simp only [] at g; omega
      · exact hc
    · have e : senR s l (n + 1) = senR s l n := by rw [senR, senF, if_neg hc]
      rw [e]
      refine ⟨by omega, h2, fun j g1 g2 => ?_, fun g => absurd (.inl g) hc⟩
      by_cases hj : j < n
      · exact h3 j g1 hj
      · have : j = n := by omega
        subst this
        cases hb : stopI s l j with
        | false => rfl
        | true => exact absurd (.inr hb) hc
def preP (a : Nat) (y : List (Nat × Nat)) (k : Nat) : Nat := if k = 0 then a else (gt y (k - 1)).2
theorem preP_S (a : Nat) (y : List (Nat × Nat)) (k : Nat) : preP a y (k + 1) = (gt y k).2 := by unfold preP; rw [if_neg (by omega)]; rfl
theorem preP_cons (a : Nat) (p : Nat × Nat) (r : List (Nat × Nat)) (k : Nat) : preP a (p :: r) (k + 1) = preP p.2 r k := by
  rw [preP_S]
  cases k with
  | zero => rfl
  | succ k => rw [preP_S, gt_consS]
theorem Seg.get {s : List UInt8} {l : List Tok} : ∀ {out : List (Nat × Nat)} {a b : Nat}, Seg s l a out b → ∀ k, k < out.length → (gt out k).1 = preP a out k ∧ (gt out k).1 < (gt out k).2 ∧ (gt out k).2 ≤ l.length ∧ (∀ j, (gt out k).1 ≤ j → j + 1 < (gt out k).2 → stopI s l j = false) ∧ ((gt out k).2 < l.length → stopI s l ((gt out k).2 - 1) = true)
  | [], a, b, _, k, hk => by simp at hk
  | p :: r, a, b, h, 0, _ => by
    obtain ⟨g1, g2, g3, g4, g5, g6⟩ := h
    rw [gt_cons0]
    subst g1
    exact ⟨rfl, g2, g3, g4, g5⟩
  | p :: r, a, b, h, k + 1, hk => by
    obtain ⟨g1, g2, g3, g4, g5, g6⟩ := h
    have ih := g6.get k (by simpa using hk)
    rw [gt_consS, preP_cons]
    exact ih
theorem Seg.fin {s : List UInt8} {l : List Tok} : ∀ {out : List (Nat × Nat)} {a b : Nat}, Seg s l a out b → preP a out out.length = b
  | [], a, b, h => h
  | p :: r, a, b, h => by
    obtain ⟨g1, g2, g3, g4, g5, g6⟩ := h
    rw [List.length_cons, preP_cons]
    exact g6.fin
theorem sents_seg (s : List UInt8) : Seg s (toks s) 0 (sents s) (toks s).length := by
  obtain ⟨h1, h2, h3, h4⟩ := senR_seg s (toks s) (toks s).length (Nat.le_refl _)
  rw [h4 rfl] at h2
  exact h2
theorem sents_at (s : List UInt8) (k : Nat) (hk : k < (sents s).length) : (gt (sents s) k).1 = preP 0 (sents s) k ∧ (gt (sents s) k).1 < (gt (sents s) k).2 ∧ (gt (sents s) k).2 ≤ (toks s).length ∧
    (∀ j, (gt (sents s) k).1 ≤ j → j < (gt (sents s) k).2 → ((gt (sents s) k).2 < (toks s).length → j + 1 = (gt (sents s) k).2 → stopV s (toks s) j = true) ∧ (j + 1 < (gt (sents s) k).2 → stopV s (toks s) j = false)) := by
  obtain ⟨g1, g2, g3, g4, g5⟩ := (sents_seg s).get k hk
  refine ⟨g1, g2, g3, fun j h1 h2 => ⟨fun h3 h4 => ?_, fun h3 => ?_⟩⟩
  · rw [stopV_I (by omega)]
    have := g5 h3
    rwa [← h4, Nat.add_sub_cancel] at this
  · rw [stopV_I (by omega)]; exact g4 j h1 h3
theorem sents_end (s : List UInt8) : preP 0 (sents s) (sents s).length = (toks s).length := (sents_seg s).fin
theorem sents_pos {s : List UInt8} (h : 0 < (toks s).length) : 0 < (sents s).length := by
  rcases Nat.eq_zero_or_pos (sents s).length with h0 | h0
  · have := sents_end s
    rw [h0] at this
    have h2 : (0 : Nat) = (toks s).length := this
    omega
  · exact h0
/-! Joins. -/
theorem gt_joinL {a b : List UInt8} {i : Nat} (h : i < a.length) : gt (joinT a b) i = gt a i := gt_left _ _ _ h
theorem gt_joinR (a b : List UInt8) (i : Nat) : gt (joinT a b) (i + (a.length + 1)) = gt b i := by
  unfold joinT
  rw [gt_right _ _ _ (by omega), show i + (a.length + 1) - a.length = i + 1 by omega, gt_consS]
theorem stopI_L {a b : List UInt8} {i : Nat} (h : i + 1 < (toks a).length) : stopI (joinT a b) (toks (joinT a b)) i = stopI a (toks a) i := by
  have hg := toks_get a i (by omega)
  unfold stopI
  rw [join_gtL a b (by omega), join_gtL a b h, gt_joinL (by omega)]
theorem stopI_M {a b : List UInt8} (h : 0 < (toks a).length) (hb : 0 < (toks b).length) : stopI (joinT a b) (toks (joinT a b)) ((toks a).length - 1) = isStop (gt a (gt (toks a) ((toks a).length - 1)).a) := by
  have hg := toks_get a ((toks a).length - 1) (by omega)
  unfold stopI
  rw [join_gtL a b (by omega), gt_joinL (by omega), show (toks a).length - 1 + 1 = (toks a).length by omega, join_gtR a b (by omega) (by omega)]
  simp only []
  rw [decide_eq_true (by omega), Bool.and_true]
theorem stopI_R {a b : List UInt8} {i : Nat} (h : i + 1 < (toks b).length) : stopI (joinT a b) (toks (joinT a b)) ((toks a).length + i) = stopI b (toks b) i := by
  unfold stopI
  rw [join_gtR a b (by omega) (by omega), join_gtR a b (by omega) (by omega)]
  simp only [show (toks a).length + i - (toks a).length = i by omega, show (toks a).length + i + 1 - (toks a).length = i + 1 by omega, show (toks a).length + (i + 1) - (toks a).length = i + 1 by omega, Nat.add_assoc]
  rw [gt_joinR]
  congr 1
  rw [decide_eq_decide]; omega
def shP (n : Nat) (p : Nat × Nat) : Nat × Nat := (n + p.1, n + p.2)
theorem senR_L (a b : List UInt8) (hb : 0 < (toks b).length) : ∀ i, i < (toks a).length → senR (joinT a b) (toks (joinT a b)) i = senR a (toks a) i
  | 0, _ => rfl
  | i + 1, h => by
    have hl := toks_joinL a b
    rw [senR, senR, senR_L a b hb i (by omega)]
    unfold senF
    rw [stopI_L h]
    have e1 : ¬ i + 1 = (toks (joinT a b)).length := by omega
    have e2 : ¬ i + 1 = (toks a).length := by omega
    simp only [e1, e2, false_or]
/-- The state behind the first text, if its last token is a stop. -/
theorem senR_T2 (a b : List UInt8) (ha : 0 < (toks a).length) (hb : 0 < (toks b).length) (hs : isStop (gt a (gt (toks a) ((toks a).length - 1)).a) = true) :
    ∀ i, i ≤ (toks b).length → senR (joinT a b) (toks (joinT a b)) ((toks a).length + i) = ((toks a).length + (senR b (toks b) i).1, sents a ++ (senR b (toks b) i).2.map (shP (toks a).length))
  | 0, _ => by
    obtain ⟨n, hn⟩ : ∃ n, (toks a).length = n + 1 := ⟨(toks a).length - 1, by omega⟩
    have hl := toks_joinL a b
    have e1 : senR (joinT a b) (toks (joinT a b)) (n + 1) = (n + 1, (senR a (toks a) n).2 ++ [((senR a (toks a) n).1, n + 1)]) := by
      rw [senR, senR_L a b hb n (by omega)]
      unfold senF
      rw [if_pos]
      right
      have := stopI_M ha hb
      rw [show (toks a).length - 1 = n by omega] at this hs
      rw [this]; exact hs
    have e2 : sents a = (senR a (toks a) n).2 ++ [((senR a (toks a) n).1, n + 1)] := by
      unfold sents
      rw [hn, senR]
      unfold senF
      rw [if_pos (.inl hn.symm)]
    simp only [hn, Nat.add_zero, e1, e2, senR, List.map_nil, List.append_nil]
  | i + 1, h => by
    have ih := senR_T2 a b ha hb hs i (by omega)
    have hl := toks_joinL a b
    rw [← Nat.add_assoc, senR, ih, senR]
    by_cases hc : i + 1 = (toks b).length ∨ stopI b (toks b) i = true
    · have hc2 : (toks a).length + i + 1 = (toks (joinT a b)).length ∨ stopI (joinT a b) (toks (joinT a b)) ((toks a).length + i) = true := by
        by_cases he : i + 1 = (toks b).length
        · left; omega
        · right; rw [stopI_R (by omega)]; exact hc.resolve_left he
      unfold senF
      rw [if_pos hc, if_pos hc2]
      simp only [List.map_append, List.map_cons, List.map_nil, List.append_assoc, shP, Nat.add_assoc]
    · have hc2 : ¬ ((toks a).length + i + 1 = (toks (joinT a b)).length ∨ stopI (joinT a b) (toks (joinT a b)) ((toks a).length + i) = true) := by
        rintro (h2 | h2)
        · exact hc (.inl (by omega))
        · by_cases he : i + 1 = (toks b).length
          · exact hc (.inl he)
          · rw [stopI_R (by omega)] at h2; exact hc (.inr h2)
      unfold senF
      rw [if_neg hc, if_neg hc2]
def goOn (n c : Nat) (out : List (Nat × Nat)) (st : Nat × List (Nat × Nat)) : Nat × List (Nat × Nat) := match st.2 with
  | [] => (c, out)
  | p :: r => (n + st.1, out ++ (c, n + p.2) :: r.map (shP n))
theorem senR_nil (s : List UInt8) (l : List Tok) : ∀ n, (senR s l n).2 = [] → (senR s l n).1 = 0
  | 0, _ => rfl
  | n + 1, h => by
    rw [senR] at h ⊢
    unfold senF at h ⊢
    split at h
    · simp at h
    · rename_i hc
      rw [if_neg hc]
      exact senR_nil s l n h
theorem senR_F2 (a b : List UInt8) (ha : 0 < (toks a).length) (hb : 0 < (toks b).length) (hs : isStop (gt a (gt (toks a) ((toks a).length - 1)).a) = false) :
    ∀ i, i ≤ (toks b).length → senR (joinT a b) (toks (joinT a b)) ((toks a).length + i) = goOn (toks a).length (senR a (toks a) ((toks a).length - 1)).1 (senR a (toks a) ((toks a).length - 1)).2 (senR b (toks b) i)
  | 0, _ => by
    obtain ⟨n, hn⟩ : ∃ n, (toks a).length = n + 1 := ⟨(toks a).length - 1, by omega⟩
    have hl := toks_joinL a b
    have hM := stopI_M ha hb
    rw [hn, Nat.add_sub_cancel] at hM hs ⊢
    have e : senR (joinT a b) (toks (joinT a b)) (n + 1) = senF (joinT a b) (toks (joinT a b)) n (senR (joinT a b) (toks (joinT a b)) n) := rfl
    rw [Nat.add_zero, e, senR_L a b hb n (by omega)]
    unfold senF
    rw [if_neg]
    · rfl
    · rintro (h2 | h2)
      · omega
      · rw [hM, hs] at h2; cases h2
  | i + 1, h => by
    have ih := senR_F2 a b ha hb hs i (by omega)
    have hl := toks_joinL a b
    have hz := senR_nil b (toks b) i
    rw [← Nat.add_assoc, senR, ih, senR]
    generalize senR b (toks b) i = st at hz
    obtain ⟨c', out'⟩ := st
    by_cases hc : i + 1 = (toks b).length ∨ stopI b (toks b) i = true
    · have hc2 : (toks a).length + i + 1 = (toks (joinT a b)).length ∨ stopI (joinT a b) (toks (joinT a b)) ((toks a).length + i) = true := by
        by_cases he : i + 1 = (toks b).length
        · left; omega
        · right; rw [stopI_R (by omega)]; exact hc.resolve_left he
      unfold senF
      rw [if_pos hc, if_pos hc2]
      cases out' with
      | nil => simp only [goOn, List.nil_append, List.map_nil, Nat.add_assoc]
      | cons p r => simp only [goOn, List.cons_append, List.map_append, List.map_cons, List.map_nil, List.append_assoc, shP, Nat.add_assoc]
    · have hc2 : ¬ ((toks a).length + i + 1 = (toks (joinT a b)).length ∨ stopI (joinT a b) (toks (joinT a b)) ((toks a).length + i) = true) := by
        rintro (h2 | h2)
        · exact hc (.inl (by omega))
        · by_cases he : i + 1 = (toks b).length
          · exact hc (.inl he)
          · rw [stopI_R (by omega)] at h2; exact hc (.inr h2)
      unfold senF
      rw [if_neg hc, if_neg hc2]
/-- The last sentence of a text. -/
theorem sents_last {a : List UInt8} (ha : 0 < (toks a).length) : sents a = (senR a (toks a) ((toks a).length - 1)).2 ++ [((senR a (toks a) ((toks a).length - 1)).1, (toks a).length)] := by
  obtain ⟨n, hn⟩ : ∃ n, (toks a).length = n + 1 := ⟨(toks a).length - 1, by omega⟩
  unfold sents
  rw [hn, Nat.add_sub_cancel, senR]
  unfold senF
  rw [if_pos (.inl hn.symm)]
theorem sents_joinT {a b : List UInt8} (ha : 0 < (toks a).length) (hb : 0 < (toks b).length) (hs : isStop (gt a (gt (toks a) ((toks a).length - 1)).a) = true) : sents (joinT a b) = sents a ++ (sents b).map (shP (toks a).length) := by
  have := senR_T2 a b ha hb hs (toks b).length (Nat.le_refl _)
  unfold sents
  rw [toks_joinL, this]
  rfl
theorem sents_joinF {a b : List UInt8} (ha : 0 < (toks a).length) (hb : 0 < (toks b).length) (hs : isStop (gt a (gt (toks a) ((toks a).length - 1)).a) = false) :
    ∃ p r, sents b = p :: r ∧ sents (joinT a b) = (sents a).take ((sents a).length - 1) ++ ((gt (sents a) ((sents a).length - 1)).1, (toks a).length + p.2) :: r.map (shP (toks a).length) ∧ (gt (sents a) ((sents a).length - 1)).1 < (toks a).length := by
  have h1 := senR_F2 a b ha hb hs (toks b).length (Nat.le_refl _)
  have h2 := sents_pos hb
  have h3 := sents_last ha
  have h4 := (senR_seg a (toks a) ((toks a).length - 1) (by omega)).1
  cases hq : sents b with
  | nil => rw [hq] at h2; simp at h2
  | cons p r =>
    refine ⟨p, r, rfl, ?_, ?_⟩
    · have e : sents (joinT a b) = (senR (joinT a b) (toks (joinT a b)) ((toks a).length + (toks b).length)).2 := by unfold sents; rw [toks_joinL]
      rw [e, h1, h3]
      unfold goOn
      have e2 : (senR b (toks b) (toks b).length).2 = p :: r := hq
      rw [e2]
      simp only [List.length_append, List.length_singleton, Nat.add_sub_cancel, List.take_left]
      rw [gt_mid _ _ _ _ rfl]
    · rw [h3, List.length_append, List.length_singleton, Nat.add_sub_cancel, gt_mid _ _ _ _ rfl]
      simp only []; omega
end Go.Sx
namespace Go.Sx
open Go.RowKit
section
variable {cx : Cx} {n : Nat} {Q : Ex → St → Prop} {st : St} {G : Gh} {h : Hp} {w : World}
theorem liveC_take {cells : List C} (hl : liveC (some cells) = some cells) (k : Nat) : liveC (some (cells.take k)) = some (cells.take k) := by
  cases cells with
  | nil => simp [liveC]
  | cons c r =>
    cases k with
    | zero => simp [liveC]
    | succ k =>
      rw [List.take_succ_cons]
      unfold liveC at hl ⊢
      split at hl
      · cases hl
      · rename_i hn
        split
        · rename_i h2; cases h2; exact absurd rfl (hn _ _)
        · rfl
theorem WorldOK.shr (H : WorldOK G h w) {b : Nat} {cells : List C} (hb : h.at b = some cells) (k : Nat) : WorldOK G (h.set b (some (cells.take k))) w := by
  have hlt := Hp.at_lt hb
  have hlive := liveC_take (Hp.at_live hb) k
  have key : ∀ b' c', Hp.at (h.set b (some (cells.take k))) b' = some c' → ∃ c0, h.at b' = some c0 ∧ ∃ m, c' = c0.take m := fun b' c' x => by
    rw [Hp.at_set hlt] at x
    split at x
    · rename_i e; subst e; rw [hlive] at x; cases x; exact ⟨cells, hb, k, rfl⟩
    · exact ⟨c', x, c'.length, (List.take_length).symm⟩
  refine ⟨H.known, fun b' c' x => ?_, fun b' blk x => ?_, fun b1 b2 c1 c2 blk x x' y y' => ?_, H.sep, H.tlt, fun b' c' off s m xs blk v x hc hm hv => ?_, H.siz⟩
  · obtain ⟨c0, h0, m, rfl⟩ := key b' c' x
    rcases H.box b' c0 h0 with ⟨rfl, hE⟩ | ⟨blk, cs, e, q1, q2, q3, q4, q5⟩
    · exact .inl ⟨by simp, hE⟩
    · refine .inr ⟨blk, cs, e, q1, q2, by rw [List.length_take]; omega, ?_, q5⟩
      have := q4.take m
      rw [List.take_take] at this
      rw [List.length_take]
      exact this
  · obtain ⟨⟨c, hc⟩, hl⟩ := H.dom b' blk x
    refine ⟨?_, hl⟩
    by_cases e : b' = b
    · subst e; exact ⟨cells.take k, by rw [List.getElem?_set_self hlt]⟩
    · exact ⟨c, by rw [List.getElem?_set_ne (fun h => e h.symm)]; exact hc⟩
  · obtain ⟨d1, e1, _⟩ := key b1 c1 x
    obtain ⟨d2, e2, _⟩ := key b2 c2 x'
    exact H.inj b1 b2 d1 d2 blk e1 e2 y y'
  · obtain ⟨c0, h0, k2, rfl⟩ := key b' c' x
    refine H.own b' c0 off s m xs blk v h0 ?_ hm hv
    rw [List.getElem?_take] at hc
    split at hc
    · exact hc
    · cases hc
theorem Tr.shr {c : Code} (b k : Nat) {cells : List C} (hb : st.h.at b = some cells) (H : Tr cx n c ⟨st.env, st.h.set b (some (cells.take k))⟩ Q) : Tr cx n c st Q := fun G w a S R hR =>
  H G w a ⟨S.defers, S.size, S.pre.ok.shr hb k, S.pre.env, S.pre.glob⟩ R hR
theorem Tr.shrA {c : Code} {e : List (Nat × C)} {h : Hp} (b k : Nat) (cells : List C) (hb : h.at b = some cells) (H : Tr cx n c ⟨A e, h.set b (some (cells.take k))⟩ Q) : Tr cx n c ⟨A e, h⟩ Q := Tr.shr b k hb H
/-- Other tables. -/
theorem Tr.sw {P : Program} {N : Nat} {gl : Nat → C} {pu pu' : Nat → List C → Option C} {hp hp' : Nat → List C → Hp → Option (C × Hp)} {gr gr' : Nat → Bool} {c : Code} (H : Tr ⟨P, N, gl, pu', hp', gr'⟩ n c st Q) : Tr ⟨P, N, gl, pu, hp, gr⟩ n c st Q := fun G w a S R hR => H G w a ⟨S.defers, S.size, ⟨S.pre.ok, S.pre.env, S.pre.glob⟩⟩ R fun x s G' w' a' q S' F => hR x s G' w' a' q ⟨S'.defers, S'.size, ⟨S'.pre.ok, S'.pre.env, S'.pre.glob⟩⟩ F
end
end Go.Sx
