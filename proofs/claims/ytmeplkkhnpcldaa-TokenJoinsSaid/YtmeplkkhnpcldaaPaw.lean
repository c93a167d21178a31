/-
  Package token: parts, valid texts, cuts and joins, in plain terms. And what follows.
-/
import Derived.Test.YtmeplkkhnpcldaaPav
set_option linter.unusedSimpArgs false
set_option linter.unusedVariables false
namespace Go.Sx
theorem preE_S (at' : Nat) (l : List Tok) (k : Nat) : preE at' l (k + 1) = (gt l k).e := by unfold preE; rw [if_neg (by omega)]; rfl
theorem not_bad {s : List UInt8} (h : ¬ bad s = true) (i : Nat) (hi : i < s.length) : badAt s i = false := by
  cases hb : badAt s i with
  | false => rfl
  | true => exact absurd (List.any_eq_true.2 ⟨i, List.mem_range.2 hi, hb⟩) h
theorem valid_facts {s : List UInt8} (h : validE s = 0) : s.length ≤ 4096 ∧ ¬ bad s = true ∧ 0 < s.length ∧ (toks s).length ≤ 256 := by
  unfold validE at h
  split at h
  · cases h
  · rename_i h1
    split at h
    · cases h
    · rename_i h2
      split at h
      · cases h
      · rename_i h3
        split at h
        · cases h
        · rename_i h4
          exact ⟨by omega, h2, List.length_pos_iff.2 h3, by omega⟩
theorem first_ne {s : List UInt8} (h : validE s = 0) : gt s 0 ≠ 32 := fun e => by
  obtain ⟨_, h2, h3, _⟩ := valid_facts h
  have := not_bad h2 0 h3
  unfold badAt at this
  rw [e] at this
  simp at this
theorem last_ne {s : List UInt8} (h : validE s = 0) : gt s (s.length - 1) ≠ 32 := fun e => by
  obtain ⟨_, h2, h3, _⟩ := valid_facts h
  have := not_bad h2 (s.length - 1) (by omega)
  unfold badAt at this
  rw [e] at this
  have e2 : s.length - 1 + 1 = s.length := by omega
  simp [e2] at this
theorem toks_pos {s : List UInt8} (h : validE s = 0) : 0 < (toks s).length := by
  rcases Nat.eq_zero_or_pos (toks s).length with h0 | h0
  · exfalso
    have := (toks_cov s).tail 0 (by rw [h0]; exact Nat.le_refl _) (valid_facts h).2.2.1
    exact first_ne h this
  · exact h0
theorem tok_first {s : List UInt8} (h : validE s = 0) : (gt (toks s) 0).a = 0 := by
  rcases Nat.eq_zero_or_pos (gt (toks s) 0).a with h0 | h0
  · exact h0
  · exfalso
    exact first_ne h ((toks_at s 0 (toks_pos h)).2.1 0 (Nat.zero_le _) h0)
theorem tok_last {s : List UInt8} (h : validE s = 0) : (gt (toks s) ((toks s).length - 1)).e = s.length := by
  have hp := toks_pos h
  have h1 := (toks_at s ((toks s).length - 1) (by omega)).1.2.2.1
  rcases Nat.lt_or_eq_of_le h1 with h0 | h0
  · exfalso
    refine last_ne h ((toks_cov s).tail (s.length - 1) ?_ (by omega))
    obtain ⟨m, hm⟩ : ∃ m, (toks s).length = m + 1 := ⟨(toks s).length - 1, by omega⟩
    rw [hm, preE_S]
    rw [hm, Nat.add_sub_cancel] at h0
    omega
  · exact h0
end Go.Sx
namespace Go.Sx
open Go.RowKit Go.Proofs
end Go.Sx
namespace Go.Sx
theorem okT_at : ∀ (s : List UInt8) (p : Bool), okT p s = true → ∀ i, i < s.length → 32 ≤ gt s i ∧ gt s i ≤ 126 ∧ (gt s i = 32 → (i = 0 → p = false) ∧ i + 1 ≠ s.length ∧ (0 < i → gt s (i - 1) ≠ 32))
  | [], p, _, i, hi => by simp at hi
  | c :: r, p, h, i, hi => by
    unfold okT at h
    by_cases hc : c = 32
    · subst hc
      rw [if_pos rfl, Bool.and_eq_true, Bool.not_eq_true'] at h
      have hr : r ≠ [] := by rintro rfl; simp [okT] at h
      cases i with
      | zero =>
        rw [gt_cons0]
        refine ⟨by decide, by decide, fun _ => ⟨fun _ => h.1, fun e => ?_, fun h => absurd h (Nat.lt_irrefl 0)⟩⟩
        have : r.length = 0 := by simpa using e.symm
        exact hr (List.length_eq_zero_iff.1 this)
      | succ i =>
        have ih := okT_at r true h.2 i (by simpa using hi)
        rw [gt_consS]
        refine ⟨ih.1, ih.2.1, fun e => ?_⟩
        obtain ⟨j1, j2, j3⟩ := ih.2.2 e
        refine ⟨fun h => absurd h (by omega), by simpa using j2, fun _ => ?_⟩
        cases i with
        | zero => exact absurd (j1 rfl) (by decide)
        | succ i => rw [Nat.add_sub_cancel, gt_consS]; have := j3 (by omega); rwa [Nat.add_sub_cancel] at this
    · rw [if_neg hc, Bool.and_eq_true, Bool.and_eq_true, decide_eq_true_eq, decide_eq_true_eq] at h
      cases i with
      | zero =>
        rw [gt_cons0]
        exact ⟨h.1.1, h.1.2, fun e => absurd e hc⟩
      | succ i =>
        have ih := okT_at r false h.2 i (by simpa using hi)
        rw [gt_consS]
        refine ⟨ih.1, ih.2.1, fun e => ?_⟩
        obtain ⟨j1, j2, j3⟩ := ih.2.2 e
        refine ⟨fun h => absurd h (by omega), by simpa using j2, fun _ => ?_⟩
        cases i with
        | zero => rw [gt_cons0]; exact hc
        | succ i => rw [Nat.add_sub_cancel, gt_consS]; have := j3 (by omega); rwa [Nat.add_sub_cancel] at this
theorem valid_of {s : List UInt8} (h : okT true s = true) (h0 : 0 < s.length) (hl : s.length ≤ 256) : validE s = 0 := by
  have hb : ¬ bad s = true := by
    intro hb
    obtain ⟨i, hi, hx⟩ := List.any_eq_true.1 hb
    obtain ⟨q1, q2, q3⟩ := okT_at s true h i (List.mem_range.1 hi)
    unfold badAt at hx
    simp only [Bool.or_eq_true, Bool.and_eq_true, decide_eq_true_eq] at hx
    rcases hx with (hx | hx) | ⟨hx, hy⟩
    · exact absurd q1 (by simpa using hx)
    · exact absurd q2 (by simpa using hx)
    · obtain ⟨j1, j2, j3⟩ := q3 hx
      rcases hy with (hy | hy) | hy
      · exact absurd (j1 hy) (by decide)
      · exact j2 hy
      · rcases Nat.eq_zero_or_pos i with h0 | h0
        · exact absurd (j1 h0) (by decide)
        · exact j3 h0 hy
  have ht := toks_len s
  unfold validE
  rw [if_neg (by omega), if_neg hb, if_neg (by rintro rfl; simp at h0), if_neg (by omega)]
theorem valid_mark (l : List Int) : validE (markT l 0) = 0 := by
  obtain ⟨h1, h2, h3⟩ := markT_ok l 0
  exact valid_of h1 h3 (by omega)
theorem valid_join (l m : List Int) : validE (joinT (markT l 0) (markT m 0)) = 0 := by
  obtain ⟨h1, h2, h3⟩ := markT_ok l 0
  obtain ⟨k1, k2, k3⟩ := markT_ok m 0
  exact valid_of (okT_app _ _ _ h1 k1) (by unfold joinT; simp; omega) (by unfold joinT; simp; omega)
theorem joinT_len (a b : List UInt8) : (joinT a b).length = a.length + 1 + b.length := by unfold joinT; simp; omega
theorem toks_joinT (a b : List UInt8) : toks (joinT a b) = toks a ++ (toks b).map (shT (a.length + 1)) := toks_join a b
theorem toks_joinL (a b : List UInt8) : (toks (joinT a b)).length = (toks a).length + (toks b).length := by rw [toks_joinT]; simp
theorem join_gtL (a b : List UInt8) {i : Nat} (h : i < (toks a).length) : gt (toks (joinT a b)) i = gt (toks a) i := by rw [toks_joinT, gt_left _ _ _ h]
theorem gt_right {α : Type} [Inhabited α] (l r : List α) (t : Nat) (h : l.length ≤ t) : gt (l ++ r) t = gt r (t - l.length) := by
  simp only [gt, List.getD]
  rw [List.getElem?_append_right h]
theorem join_gtR (a b : List UInt8) {i : Nat} (h : ¬ i < (toks a).length) (h2 : i - (toks a).length < (toks b).length) : gt (toks (joinT a b)) i = ⟨(gt (toks b) (i - (toks a).length)).a + a.length + 1, (gt (toks b) (i - (toks a).length)).e + a.length + 1, (gt (toks b) (i - (toks a).length)).k⟩ := by
  rw [toks_joinT, gt_right _ _ _ (by omega), gt_map _ _ _ h2]; rfl
theorem ofK_join (k d : Nat) (x y : List Tok) : ofK k (x ++ y.map (shT d)) = ofK k x ++ (ofK k y).map (· + x.length) := by
  unfold ofK
  rw [List.length_append, List.length_map, List.range_add, List.filter_append]
  congr 1
  · refine List.filter_congr fun i hi => ?_
    rw [gt_left _ _ _ (List.mem_range.1 hi)]
  · rw [List.filter_map]
    have e : List.filter ((fun i => decide ((gt (x ++ y.map (shT d)) i).k = k)) ∘ fun i => x.length + i) (List.range y.length) = List.filter (fun i => decide ((gt y i).k = k)) (List.range y.length) := by
      refine List.filter_congr fun i hi => ?_
      simp only [Function.comp]
      rw [gt_right _ _ _ (by omega), Nat.add_sub_cancel_left, gt_map _ _ _ (List.mem_range.1 hi)]
      rfl
    rw [e]
    refine List.map_congr_left fun i _ => ?_
    omega
theorem marks_join (a b : List UInt8) : marksT (joinT a b) = marksT a ++ (marksT b).map (· + (toks a).length) := by
  unfold marksT
  rw [toks_joinT, ofK_join]
theorem ofK_ltJ {k : Nat} {l : List Tok} {i : Nat} (h : i ∈ ofK k l) : i < l.length := by
  unfold ofK at h
  exact List.mem_range.1 (List.mem_filter.1 h).1
theorem words_join (a b : List UInt8) : wordsT (joinT a b) = wordsT a ++ wordsT b := by
  unfold wordsT
  rw [toks_joinT, ofK_join, List.map_append, List.map_map]
  congr 1
  · refine List.map_congr_left fun i hi => ?_
    have hl := ofK_ltJ hi
    have hg := toks_get a i hl
    rw [gt_left _ _ _ hl]
    congr 1
    unfold txt joinT
    rw [List.drop_append_of_le_length (by omega), List.take_append_of_le_length (by rw [List.length_drop]; omega)]
  · refine List.map_congr_left fun i hi => ?_
    have hl := ofK_ltJ hi
    simp only [Function.comp]
    rw [gt_right _ _ _ (by omega), Nat.add_sub_cancel, gt_map _ _ _ hl]
    congr 1
    unfold txt joinT shT
    simp only []
    rw [show (gt (toks b) i).a + (a.length + 1) = a.length + (1 + (gt (toks b) i).a) by omega, ← List.drop_drop, List.drop_left, ← List.drop_drop]
    rw [show (gt (toks b) i).e + (a.length + 1) - (a.length + (1 + (gt (toks b) i).a)) = (gt (toks b) i).e - (gt (toks b) i).a by omega]
    rfl
theorem marks_lt (s : List UInt8) (i : Nat) (h : i < (marksT s).length) : gt (marksT s) i < (toks s).length := ofK_ltJ (gt_mem h)
theorem cut_join {a b : List UInt8} (ha : validE a = 0) (hb : validE b = 0) (hs : validE (joinT a b) = 0) : cutT (joinT a b) ((toks a).length : Int) = (a, b, 0) := by
  have h1 := toks_pos ha
  have h2 := toks_pos hb
  have h3 := toks_joinL a b
  have h4 := tok_last ha
  have h5 := tok_first hb
  have e1 : (gt (toks (joinT a b)) (toks a).length).a = a.length + 1 := by
    rw [join_gtR a b (Nat.lt_irrefl _) (by omega), Nat.sub_self]
    simp only []; omega
  have e2 : (gt (toks (joinT a b)) ((toks a).length - 1)).e = a.length := by
    rw [join_gtL a b (by omega)]; exact h4
  unfold cutT
  rw [if_neg (by rw [hs]; simp)]
  simp only [Int.toNat_natCast]
  rw [e1, e2, if_neg (by omega), Nat.add_sub_cancel]
  unfold joinT
  rw [List.take_left, ← List.drop_drop, List.drop_left]
  rfl
theorem cut_back {s : List UInt8} (hs : validE s = 0) (k : Int) : ((cutT s k).2.2 = 0 → joinT (cutT s k).1 (cutT s k).2.1 = s) ∧ ((cutT s k).2.2 ≠ 0 → (cutT s k).2.2 = 5) ∧ (cutT s k).1.length ≤ s.length ∧ (cutT s k).2.1.length ≤ s.length := by
  unfold cutT
  rw [if_neg (by rw [hs]; simp)]
  split
  · exact ⟨fun h => absurd h (by decide), fun _ => rfl, Nat.zero_le _, Nat.zero_le _⟩
  · rename_i h
    simp only [not_or] at h
    obtain ⟨h1, h2, h3⟩ := h
    obtain ⟨n, hn⟩ : ∃ n : Nat, k = ((n + 1 : Nat) : Int) := ⟨(k - 1).toNat, by omega⟩
    subst hn
    simp only [Int.toNat_natCast, Nat.add_sub_cancel] at h3 ⊢
    have hlt : n + 1 < (toks s).length := by omega
    obtain ⟨⟨q1, q2, q3, q4⟩, q5, _⟩ := toks_at s (n + 1) hlt
    rw [preE_S] at q1 q5
    have h32 := q5 ((gt (toks s) (n + 1)).a - 1) (by omega) (by omega)
    refine ⟨fun _ => ?_, fun h => absurd rfl h, by rw [List.length_take]; omega, by rw [List.length_drop]; omega⟩
    unfold joinT
    have e : s.drop ((gt (toks s) (n + 1)).a - 1) = 32 :: s.drop (gt (toks s) (n + 1)).a := by
      rw [drop_cons (by omega), h32, show (gt (toks s) (n + 1)).a - 1 + 1 = (gt (toks s) (n + 1)).a by omega]
    rw [← e, List.take_append_drop]
end Go.Sx
namespace Go.Sx
open Go.RowKit Go.Proofs
set_option maxRecDepth 100000 in
set_option maxHeartbeats 8000000 in
theorem fc8 {gl : Nat → C} {M : Nat} {pu : Nat → List C → Option C}  (hcx : CxOK (cxP gl M pu)) (h12 : ∀ s : List UInt8, s.length ≤ 1000000 → pu 12 [.val (str s)] = some (.val (nI (validE s)))) (h14 : pu 14 [] = some (.val (.bool true))) (h18 : ∀ s : List UInt8, s.length ≤ 1000000 → pu 18 [.val (str s)] = some (sl tC (.own 3) (toks s))) (h19 : ∀ (n : Int) (m : Nat), -9223372036854775808 ≤ n ∧ n ≤ 9223372036854775807 ∧ 0 < m ∧ m ≤ 9223372036854775807 → pu 19 [.val (.int .i64 n), .val (nI m)] = some (.val (nI (aroundI n m)))) (h24 : ∀ x y : List (List UInt8), x.length < 9223372036854775807 → pu 24 [sl sC .no x, sl sC .no y] = some (.val (.bool (decide (x = y))))) (h25 : ∀ s : List UInt8, s.length ≤ 1000000 → pu 25 [.val (str s)] = some (sl sC (.own 1) (wordsT s))) (h31 : ∀ s : List UInt8, s.length ≤ 1000000 → pu 31 [.val (str s)] = some (sl nC (.own 1) (marksT s))) (h33 : ∀ a b : List UInt8, a.length ≤ 1000000 → b.length ≤ 1000000 → pu 33 [.val (str a), .val (str b)] = some (.val (str (joinT a b)))) (h35 : ∀ (s : List UInt8) (k : Int), s.length ≤ 1000000 → -9223372036854775808 ≤ k ∧ k ≤ 9223372036854775807 → pu 35 [.val (str s), .val (.int .i64 k)] = some (.tup [.val (str (cutT s k).1), .val (str (cutT s k).2.1), .val (nI (cutT s k).2.2)])) (h37 : ∀ (l : List Int) (k : Nat), LI l → k ≤ 900 → pu 37 [sl iC .no l, .val (nI k)] = some (.val (str (markT l k)))) (h38 : ∀ (l a b : List Nat) (n : Nat), l = a ++ b.map (· + n) → a.length + b.length ≤ 1000000 ∧ n ≤ 1000000 → (∀ i, i < b.length → gt b i ≤ 1000000) → pu 38 [sl nC .no l, sl nC .no a, sl nC .no b, .val (nI n)] = some (.val (.bool true))) (l m : List Int) (k : Int) (hl : LI l) (hm : LI m) (hk : -9223372036854775808 ≤ k ∧ k ≤ 9223372036854775807) : FC Try.prog gl 8 [sl iC .no l, sl iC .no m, .val (.int .i64 k)] [] (.val (.bool true)) [] := by
 replace hcx := hcx.reN (M := 196)
 refine FC.ofA (cx := cxP gl 196 pu) (rs := [.tmp 6]) rfl Try.func8 rfl rfl rfl (by simp only [List.length_cons, List.length_nil]; decide) (by simp only [go_sem]) ?_
 simp only [ini, go_sem]
 obtain ⟨A, hA, vA, e37a⟩ : ∃ A : List UInt8, A.length ≤ 96 ∧ validE A = 0 ∧ pu 37 [sl iC .no l, .val (nI 0)] = some (.val (str A)) ∧ A = markT l 0 := ⟨markT l 0, (markT_ok l 0).2.1, valid_mark l, h37 l 0 hl (by decide), rfl⟩
 obtain ⟨B, hB, vB, e37b⟩ : ∃ B : List UInt8, B.length ≤ 96 ∧ validE B = 0 ∧ pu 37 [sl iC .no m, .val (nI 0)] = some (.val (str B)) ∧ B = markT m 0 := ⟨markT m 0, (markT_ok m 0).2.1, valid_mark m, h37 m 0 hm (by decide), rfl⟩
 obtain ⟨e37a, eA⟩ := e37a
 obtain ⟨e37b, eB⟩ := e37b
 have vS : validE (joinT A B) = 0 := by rw [eA, eB]; exact valid_join l m
 have hS := joinT_len A B
 have hX := toks_len A
 have hY := toks_len B
 have hZ := toks_joinL A B
 have pX := toks_pos vA
 have pY := toks_pos vB
 have hz0 : ((toks (joinT A B)).length = 0) = False := eq_false (by omega)
 have hz1 : ((toks (joinT A B)).length = (toks A).length + (toks B).length) = True := eq_true hZ
 have hW1 := wordsT_len A
 have hW2 := wordsT_len B
 have hM1 := marksT_len A
 have hM2 := marksT_len B
 have hwj := words_join A B
 have e38 := h38 _ _ _ _ (marks_join A B) ⟨by omega, by omega⟩ (fun i hi => by have := marks_lt B i hi; omega)
 have hcj := cut_join vA vB vS
 have hkr := around_lt k (m := (toks (joinT A B)).length) (by omega)
 have hcb := cut_back vS (aroundI k (toks (joinT A B)).length)
 have hc1 := hcb.2.2.1
 have hc2 := hcb.2.2.2
 have h35n : ∀ (s : List UInt8) (k : Nat), s.length ≤ 1000000 → k ≤ 9223372036854775807 → pu 35 [.val (str s), .val (nI k)] = some (.tup [.val (str (cutT s k).1), .val (str (cutT s k).2.1), .val (nI (cutT s k).2.2)]) := fun s k h1 h2 => h35 s k h1 (by omega)
 refine Tr.seqK fun K1 hK1 => ?_
 -- region 0 (law.go:162)
 refine Tr.rg hcx [] _ [] rfl rfl rfl ?_
 simp -implicitDefEqProofs (maxSteps := 2000000) (disch := first | omega | (simp only [go_sem, List.length_append, List.length_drop, List.length_take, hS, hZ] <;> omega) | decide) only [go_sem, ↓reduceIte, Nat.reduceEqDiff, reduceCtorEq, Nat.reduceLT, Nat.reduceBEq, Nat.reduceAdd, Nat.reduceSub, Nat.reduceMul, Nat.reduceMod, Int.reduceMod, Int.reduceToNat, Int.reduceNeg, e37a, e37b, h12, h14, h18, h19, h24, h25, h31, h33, h35n, e38, eq_self, decide_true, decide_false, not_true_eq_false, not_false_eq_true]
 refine hK1 _ ?_
 clear hK1 K1
 refine Tr.kp [0, 1, 2] ?_
 simp only [pk_cons, pk_nil, ↓A_cons, ↓reduceIte, Nat.reduceEqDiff, reduceCtorEq]
 refine Tr.seqK fun K2 hK2 => ?_
 -- region 1 (law.go:163)
 refine Tr.rg hcx [1000018] _ [] rfl rfl rfl ?_
 simp -implicitDefEqProofs (maxSteps := 2000000) (disch := first | omega | (simp only [go_sem, List.length_append, List.length_drop, List.length_take, hS, hZ] <;> omega) | decide) only [go_sem, ↓reduceIte, Nat.reduceEqDiff, reduceCtorEq, Nat.reduceLT, Nat.reduceBEq, Nat.reduceAdd, Nat.reduceSub, Nat.reduceMul, Nat.reduceMod, Int.reduceMod, Int.reduceToNat, Int.reduceNeg, e37a, e37b, h12, h14, h18, h19, h24, h25, h31, h33, h35n, e38, eq_self, decide_true, decide_false, not_true_eq_false, not_false_eq_true]
 refine hK2 _ ?_
 clear hK2 K2
 refine Tr.kp [1, 2, 7] ?_
 simp only [pk_cons, pk_nil, ↓A_cons, ↓reduceIte, Nat.reduceEqDiff, reduceCtorEq]
 refine Tr.seqK fun K3 hK3 => ?_
 -- region 2 (law.go:164)
 refine Tr.rg hcx [1000020] _ [] rfl rfl rfl ?_
 simp -implicitDefEqProofs (maxSteps := 2000000) (disch := first | omega | (simp only [go_sem, List.length_append, List.length_drop, List.length_take, hS, hZ] <;> omega) | decide) only [go_sem, ↓reduceIte, Nat.reduceEqDiff, reduceCtorEq, Nat.reduceLT, Nat.reduceBEq, Nat.reduceAdd, Nat.reduceSub, Nat.reduceMul, Nat.reduceMod, Int.reduceMod, Int.reduceToNat, Int.reduceNeg, e37a, e37b, h12, h14, h18, h19, h24, h25, h31, h33, h35n, e38, eq_self, decide_true, decide_false, not_true_eq_false, not_false_eq_true]
 refine hK3 _ ?_
 clear hK3 K3
 refine Tr.kp [2, 7, 8] ?_
 simp only [pk_cons, pk_nil, ↓A_cons, ↓reduceIte, Nat.reduceEqDiff, reduceCtorEq]
 refine Tr.seqK fun K4 hK4 => ?_
 -- region 3 (law.go:165)
 refine Tr.rg hcx [1000023] _ [] rfl rfl rfl ?_
 simp -implicitDefEqProofs (maxSteps := 2000000) (disch := first | omega | (simp only [go_sem, List.length_append, List.length_drop, List.length_take, hS, hZ] <;> omega) | decide) only [go_sem, ↓reduceIte, Nat.reduceEqDiff, reduceCtorEq, Nat.reduceLT, Nat.reduceBEq, Nat.reduceAdd, Nat.reduceSub, Nat.reduceMul, Nat.reduceMod, Int.reduceMod, Int.reduceToNat, Int.reduceNeg, e37a, e37b, h12, h14, h18, h19, h24, h25, h31, h33, h35n, e38, eq_self, decide_true, decide_false, not_true_eq_false, not_false_eq_true]
 refine hK4 _ ?_
 clear hK4 K4
 refine Tr.kp [2, 7, 8, 9] ?_
 simp only [pk_cons, pk_nil, ↓A_cons, ↓reduceIte, Nat.reduceEqDiff, reduceCtorEq]
 refine Tr.seqK fun K5 hK5 => ?_
 -- region 4 (law.go:166)
 refine Tr.rg hcx [1000025] _ [] rfl rfl rfl ?_
 simp -implicitDefEqProofs (maxSteps := 2000000) (disch := first | omega | (simp only [go_sem, List.length_append, List.length_drop, List.length_take, hS, hZ] <;> omega) | decide) only [go_sem, ↓reduceIte, Nat.reduceEqDiff, reduceCtorEq, Nat.reduceLT, Nat.reduceBEq, Nat.reduceAdd, Nat.reduceSub, Nat.reduceMul, Nat.reduceMod, Int.reduceMod, Int.reduceToNat, Int.reduceNeg, e37a, e37b, h12, h14, h18, h19, h24, h25, h31, h33, h35n, e38, eq_self, decide_true, decide_false, not_true_eq_false, not_false_eq_true]
 refine hK5 _ ?_
 clear hK5 K5
 refine Tr.kp [2, 7, 8, 9, 10] ?_
 simp only [pk_cons, pk_nil, ↓A_cons, ↓reduceIte, Nat.reduceEqDiff, reduceCtorEq]
 refine Tr.seqK fun K6 hK6 => ?_
 -- region 5 (law.go:167)
 refine Tr.rg hcx [1000027] _ [] rfl rfl rfl ?_
 simp -implicitDefEqProofs (maxSteps := 2000000) (disch := first | omega | (simp only [go_sem, List.length_append, List.length_drop, List.length_take, hS, hZ] <;> omega) | decide) only [go_sem, ↓reduceIte, Nat.reduceEqDiff, reduceCtorEq, Nat.reduceLT, Nat.reduceBEq, Nat.reduceAdd, Nat.reduceSub, Nat.reduceMul, Nat.reduceMod, Int.reduceMod, Int.reduceToNat, Int.reduceNeg, e37a, e37b, h12, h14, h18, h19, h24, h25, h31, h33, h35n, e38, eq_self, decide_true, decide_false, not_true_eq_false, not_false_eq_true]
 refine hK6 _ ?_
 clear hK6 K6
 refine Tr.kp [2, 7, 8, 9, 10, 11] ?_
 simp only [pk_cons, pk_nil, ↓A_cons, ↓reduceIte, Nat.reduceEqDiff, reduceCtorEq]
 refine Tr.seqK fun K7 hK7 => ?_
 -- region 6 (law.go:168)
 refine Tr.rg hcx [1000029] _ [] rfl rfl rfl ?_
 simp -implicitDefEqProofs (maxSteps := 2000000) (disch := first | omega | (simp only [go_sem, List.length_append, List.length_drop, List.length_take, hS, hZ] <;> omega) | decide) only [go_sem, ↓reduceIte, Nat.reduceEqDiff, reduceCtorEq, Nat.reduceLT, Nat.reduceBEq, Nat.reduceAdd, Nat.reduceSub, Nat.reduceMul, Nat.reduceMod, Int.reduceMod, Int.reduceToNat, Int.reduceNeg, e37a, e37b, h12, h14, h18, h19, h24, h25, h31, h33, h35n, e38, eq_self, decide_true, decide_false, not_true_eq_false, not_false_eq_true]
 refine hK7 _ ?_
 clear hK7 K7
 refine Tr.kp [2, 7, 8, 9, 10, 11, 12] ?_
 simp only [pk_cons, pk_nil, ↓A_cons, ↓reduceIte, Nat.reduceEqDiff, reduceCtorEq]
 refine Tr.seqK fun K8 hK8 => ?_
 refine Tr.seqK fun K9 hK9 => ?_
 -- region 7 (law.go:169)
 refine Tr.rg hcx [] [some 30, some 31, some 32, some 33, some 34, some 35, some 36, some 37, some 38, some 39, some 40, some 41, some 42, some 43, some 44, some 45, some 46, some 47, some 48, some 49, some 50, some 51, some 52, some 53, some 54, some 55, some 56, some 57] [] rfl rfl rfl ?_
 simp -implicitDefEqProofs (maxSteps := 2000000) (disch := first | omega | (simp only [go_sem, List.length_append, List.length_drop, List.length_take, hS, hZ] <;> omega) | decide) only [go_sem, ↓reduceIte, Nat.reduceEqDiff, reduceCtorEq, Nat.reduceLT, Nat.reduceBEq, Nat.reduceAdd, Nat.reduceSub, Nat.reduceMul, Nat.reduceMod, Int.reduceMod, Int.reduceToNat, Int.reduceNeg, e37a, e37b, h12, h14, h18, h19, h24, h25, h31, h33, h35n, e38, eq_self, decide_true, decide_false, not_true_eq_false, not_false_eq_true, vA, vB, vS, hz0, hz1]
 refine hK9 _ ?_
 clear hK9 K9
 refine Tr.kp [2, 7, 8, 9, 10, 11, 12, 57] ?_
 simp only [pk_cons, pk_nil, ↓A_cons, ↓reduceIte, Nat.reduceEqDiff, reduceCtorEq]
 refine Tr.condG fun KT KF hT hF => ?_
 simp only [ev_tmp, ev_const, ↓A_cons, ↓reduceIte, Nat.reduceEqDiff, reduceCtorEq, condG_bool, GB_true, GB_false, decide_eq_true_eq]
 refine hF ?_
 clear hT hF KT KF
 refine Tr.skip ?_
 refine hK8 _ ?_
 clear hK8 K8
 refine Tr.kp [2, 7, 8, 9, 10, 11, 12] ?_
 simp only [pk_cons, pk_nil, ↓A_cons, ↓reduceIte, Nat.reduceEqDiff, reduceCtorEq]
 refine Tr.seqK fun K10 hK10 => ?_
 refine Tr.seqK fun K11 hK11 => ?_
 -- region 9 (law.go:172)
 refine Tr.rg hcx [] _ [] rfl rfl rfl ?_
 simp -implicitDefEqProofs (maxSteps := 2000000) (disch := first | omega | (simp only [go_sem, List.length_append, List.length_drop, List.length_take, hS, hZ] <;> omega) | decide) only [go_sem, ↓reduceIte, Nat.reduceEqDiff, reduceCtorEq, Nat.reduceLT, Nat.reduceBEq, Nat.reduceAdd, Nat.reduceSub, Nat.reduceMul, Nat.reduceMod, Int.reduceMod, Int.reduceToNat, Int.reduceNeg, e37a, e37b, h12, h14, h18, h19, h24, h25, h31, h33, h35n, e38, eq_self, decide_true, decide_false, not_true_eq_false, not_false_eq_true]
 refine hK11 _ ?_
 clear hK11 K11
 refine Tr.kp [2, 7, 8, 9, 10, 11, 12, 13] ?_
 simp only [pk_cons, pk_nil, ↓A_cons, ↓reduceIte, Nat.reduceEqDiff, reduceCtorEq]
 refine Tr.blk ?_
 refine Tr.loopI (α := Nat) (fun a => [(2, ?v2_26), (7, ?v7_26), (8, ?v8_26), (9, ?v9_26), (10, ?v10_26), (11, ?v11_26), (12, ?v12_26), (13, .val (nI a))]) (fun a => ?h_26) (fun a => a ≤ (toks (joinT A B)).length) (fun a => (toks (joinT A B)).length - a) (0) ?_ ?le_26 ?hh_26 ?bd_26
 case hh_26 => exact rfl
 case le_26 => (simp only [Le_nil, Le_cons, ↓A_cons, ↓reduceIte, Nat.reduceEqDiff, reduceCtorEq, CLe_refl, CLe_top, CLe_full, CLe_nil, CLe_own, and_true, true_and]; all_goals (repeat' first | exact CLe.refl _ | exact True.intro | (refine CLe_sln ?_; first | with_reducible rfl | (simp only [List.take_zero]; done) | (rfl; done)) | exact CLe_nI (by omega) | exact CLe_int (by omega) | exact CLe_inI (by omega) | exact CLe_nIi (by omega) | with_reducible apply And.intro))
 · omega
 case bd_26 =>
  rintro i hi
  refine Tr.seqK fun K12 hK12 => ?_
  refine Tr.seqK fun K13 hK13 => ?_
  -- region 10 (law.go:172)
  refine Tr.rg hcx [] _ [] rfl rfl rfl ?_
  simp -implicitDefEqProofs (maxSteps := 2000000) (disch := first | omega | (simp only [go_sem, List.length_append, List.length_drop, List.length_take, hS, hZ] <;> omega) | decide) only [go_sem, ↓reduceIte, Nat.reduceEqDiff, reduceCtorEq, Nat.reduceLT, Nat.reduceBEq, Nat.reduceAdd, Nat.reduceSub, Nat.reduceMul, Nat.reduceMod, Int.reduceMod, Int.reduceToNat, Int.reduceNeg, e37a, e37b, h12, h14, h18, h19, h24, h25, h31, h33, h35n, e38, eq_self, decide_true, decide_false, not_true_eq_false, not_false_eq_true]
  refine hK13 _ ?_
  clear hK13 K13
  refine Tr.kp [2, 7, 8, 9, 10, 11, 12, 13, 61] ?_
  simp only [pk_cons, pk_nil, ↓A_cons, ↓reduceIte, Nat.reduceEqDiff, reduceCtorEq]
  refine Tr.condG fun KT KF hT hF => ?_
  simp only [ev_tmp, ev_const, ↓A_cons, ↓reduceIte, Nat.reduceEqDiff, reduceCtorEq, condG_bool, GB_true, GB_false, decide_eq_true_eq]
  refine GB.dec (fun hc61 => hT ?_) (fun hc61 => hF ?_)
  ·
   clear hT hF KT KF
   refine Tr.skip ?_
   refine hK12 _ ?_
   clear hK12 K12
   refine Tr.kp [2, 7, 8, 9, 10, 11, 12, 13] ?_
   simp only [pk_cons, pk_nil, ↓A_cons, ↓reduceIte, Nat.reduceEqDiff, reduceCtorEq]
   refine Tr.seqK fun K14 hK14 => ?_
   refine Tr.blk ?_
   refine Tr.seqK fun K15 hK15 => ?_
   refine Tr.seqK fun K16 hK16 => ?_
   by_cases b1 : i < (toks A).length
   ·
    have hbn : ((toks A).length ≤ i) = False := eq_false (by omega)
    have hgz := join_gtL A B b1
    -- region 12 (law.go:173)
    refine Tr.rgD hcx hMO [] [some 64, some 65, some 66, some 67, some 68, some 69, some 70, some 71, some 72, some 73, some 74, some 75, some 76, some 77, some 78] [] rfl rfl rfl rfl ?_
    simp -implicitDefEqProofs (maxSteps := 2000000) (disch := first | omega | (simp only [go_sem, List.length_append, List.length_drop, List.length_take, hS, hZ] <;> omega) | decide) only [go_sem, ↓reduceIte, Nat.reduceEqDiff, reduceCtorEq, Nat.reduceLT, Nat.reduceBEq, Nat.reduceAdd, Nat.reduceSub, Nat.reduceMul, Nat.reduceMod, Int.reduceMod, Int.reduceToNat, Int.reduceNeg, e37a, e37b, h12, h14, h18, h19, h24, h25, h31, h33, h35n, e38, eq_self, decide_true, decide_false, not_true_eq_false, not_false_eq_true, b1, hgz, eq52]
    with_reducible refine And.intro ?_ ?_
    · exact rfl
    refine hK16 _ ?_
    clear hK16 K16
    refine Tr.kp [2, 7, 8, 9, 10, 11, 12, 13, 78] ?_
    simp only [pk_cons, pk_nil, ↓A_cons, ↓reduceIte, Nat.reduceEqDiff, reduceCtorEq]
    refine Tr.condG fun KT KF hT hF => ?_
    simp only [ev_tmp, ev_const, ↓A_cons, ↓reduceIte, Nat.reduceEqDiff, reduceCtorEq, condG_bool, GB_true, GB_false, decide_eq_true_eq]
    refine hF ?_
    clear hT hF KT KF
    refine Tr.skip ?_
    refine hK15 _ ?_
    clear hK15 K15
    refine Tr.kp [2, 7, 8, 9, 10, 11, 12, 13] ?_
    simp only [pk_cons, pk_nil, ↓A_cons, ↓reduceIte, Nat.reduceEqDiff, reduceCtorEq]
    refine Tr.seqK fun K17 hK17 => ?_
    -- region 14 (law.go:176)
    refine Tr.rgD hcx hMO [] [some 79, some 80, some 81, some 82, some 83, some 84, some 85, some 86, some 87, some 88, some 89, some 90, some 91, some 92, some 93, some 94, some 95, some 96, some 97, some 98, some 99, some 100, some 101, some 102, some 103, some 104, some 105, some 106, some 107, some 108, some 109, some 110, some 111, some 112, some 113, some 114, some 115, some 116, some 117, some 118, some 119, some 120, some 121, some 122] [] rfl rfl rfl rfl ?_
    simp -implicitDefEqProofs (maxSteps := 2000000) (disch := first | omega | (simp only [go_sem, List.length_append, List.length_drop, List.length_take, hS, hZ] <;> omega) | decide) only [go_sem, ↓reduceIte, Nat.reduceEqDiff, reduceCtorEq, Nat.reduceLT, Nat.reduceBEq, Nat.reduceAdd, Nat.reduceSub, Nat.reduceMul, Nat.reduceMod, Int.reduceMod, Int.reduceToNat, Int.reduceNeg, e37a, e37b, h12, h14, h18, h19, h24, h25, h31, h33, h35n, e38, eq_self, decide_true, decide_false, not_true_eq_false, not_false_eq_true, b1, hbn, hgz, eq52b]
    with_reducible refine And.intro ?_ ?_
    · exact rfl
    refine hK17 _ ?_
    clear hK17 K17
    refine Tr.kp [2, 7, 8, 9, 10, 11, 12, 13, 122] ?_
    simp only [pk_cons, pk_nil, ↓A_cons, ↓reduceIte, Nat.reduceEqDiff, reduceCtorEq]
    refine Tr.condG fun KT KF hT hF => ?_
    simp only [ev_tmp, ev_const, ↓A_cons, ↓reduceIte, Nat.reduceEqDiff, reduceCtorEq, condG_bool, GB_true, GB_false, decide_eq_true_eq]
    refine hF ?_
    clear hT hF KT KF
    refine Tr.skip ?_
    refine hK14 _ ?_
    clear hK14 K14
    refine Tr.kp [2, 7, 8, 9, 10, 11, 12, 13] ?_
    simp only [pk_cons, pk_nil, ↓A_cons, ↓reduceIte, Nat.reduceEqDiff, reduceCtorEq]
    -- region 11 (law.go:172)
    refine Tr.rg hcx [1000063] _ [] rfl rfl rfl ?_
    simp -implicitDefEqProofs (maxSteps := 2000000) (disch := first | omega | (simp only [go_sem, List.length_append, List.length_drop, List.length_take, hS, hZ] <;> omega) | decide) only [go_sem, ↓reduceIte, Nat.reduceEqDiff, reduceCtorEq, Nat.reduceLT, Nat.reduceBEq, Nat.reduceAdd, Nat.reduceSub, Nat.reduceMul, Nat.reduceMod, Int.reduceMod, Int.reduceToNat, Int.reduceNeg, e37a, e37b, h12, h14, h18, h19, h24, h25, h31, h33, h35n, e38, eq_self, decide_true, decide_false, not_true_eq_false, not_false_eq_true, b1]
    refine ⟨i + 1, ⟨by omega, by first | omega | (simp only []; omega)⟩, ?_, rfl⟩
    (simp only [Le_nil, Le_cons, ↓A_cons, ↓reduceIte, Nat.reduceEqDiff, reduceCtorEq, CLe_refl, CLe_top, CLe_full, CLe_nil, CLe_own, and_true, true_and]; all_goals (repeat' first | exact CLe.refl _ | exact True.intro | (refine CLe_sln ?_; first | with_reducible rfl | (simp only [List.take_zero]; done) | (rfl; done)) | exact CLe_nI (by omega) | exact CLe_int (by omega) | exact CLe_inI (by omega) | exact CLe_nIi (by omega) | with_reducible apply And.intro))
   ·
    have hbn : ((toks A).length ≤ i) = True := eq_true (by omega)
    have hbi : i - (toks A).length < (toks B).length := by omega
    have hgz := join_gtR A B b1 hbi
    have hby := toks_get B _ hbi
    -- region 12 (law.go:173)
    refine Tr.rgD hcx hMO [] [some 64, some 65, some 66, some 67, some 68, some 69, some 70, some 71, some 72, some 73, some 74, some 75, some 76, some 77, some 78] [] rfl rfl rfl rfl ?_
    simp -implicitDefEqProofs (maxSteps := 2000000) (disch := first | omega | (simp only [go_sem, List.length_append, List.length_drop, List.length_take, hS, hZ] <;> omega) | decide) only [go_sem, ↓reduceIte, Nat.reduceEqDiff, reduceCtorEq, Nat.reduceLT, Nat.reduceBEq, Nat.reduceAdd, Nat.reduceSub, Nat.reduceMul, Nat.reduceMod, Int.reduceMod, Int.reduceToNat, Int.reduceNeg, e37a, e37b, h12, h14, h18, h19, h24, h25, h31, h33, h35n, e38, eq_self, decide_true, decide_false, not_true_eq_false, not_false_eq_true, b1, hgz, eq52]
    with_reducible refine And.intro ?_ ?_
    · exact rfl
    refine hK16 _ ?_
    clear hK16 K16
    refine Tr.kp [2, 7, 8, 9, 10, 11, 12, 13, 78] ?_
    simp only [pk_cons, pk_nil, ↓A_cons, ↓reduceIte, Nat.reduceEqDiff, reduceCtorEq]
    refine Tr.condG fun KT KF hT hF => ?_
    simp only [ev_tmp, ev_const, ↓A_cons, ↓reduceIte, Nat.reduceEqDiff, reduceCtorEq, condG_bool, GB_true, GB_false, decide_eq_true_eq]
    refine hF ?_
    clear hT hF KT KF
    refine Tr.skip ?_
    refine hK15 _ ?_
    clear hK15 K15
    refine Tr.kp [2, 7, 8, 9, 10, 11, 12, 13] ?_
    simp only [pk_cons, pk_nil, ↓A_cons, ↓reduceIte, Nat.reduceEqDiff, reduceCtorEq]
    refine Tr.seqK fun K18 hK18 => ?_
    -- region 14 (law.go:176)
    refine Tr.rgD hcx hMO [] [some 79, some 80, some 81, some 82, some 83, some 84, some 85, some 86, some 87, some 88, some 89, some 90, some 91, some 92, some 93, some 94, some 95, some 96, some 97, some 98, some 99, some 100, some 101, some 102, some 103, some 104, some 105, some 106, some 107, some 108, some 109, some 110, some 111, some 112, some 113, some 114, some 115, some 116, some 117, some 118, some 119, some 120, some 121, some 122] [] rfl rfl rfl rfl ?_
    simp -implicitDefEqProofs (maxSteps := 2000000) (disch := first | omega | (simp only [go_sem, List.length_append, List.length_drop, List.length_take, hS, hZ] <;> omega) | decide) only [go_sem, ↓reduceIte, Nat.reduceEqDiff, reduceCtorEq, Nat.reduceLT, Nat.reduceBEq, Nat.reduceAdd, Nat.reduceSub, Nat.reduceMul, Nat.reduceMod, Int.reduceMod, Int.reduceToNat, Int.reduceNeg, e37a, e37b, h12, h14, h18, h19, h24, h25, h31, h33, h35n, e38, eq_self, decide_true, decide_false, not_true_eq_false, not_false_eq_true, b1, hbn, hgz, eq52b]
    with_reducible refine And.intro ?_ ?_
    · exact rfl
    refine hK18 _ ?_
    clear hK18 K18
    refine Tr.kp [2, 7, 8, 9, 10, 11, 12, 13, 122] ?_
    simp only [pk_cons, pk_nil, ↓A_cons, ↓reduceIte, Nat.reduceEqDiff, reduceCtorEq]
    refine Tr.condG fun KT KF hT hF => ?_
    simp only [ev_tmp, ev_const, ↓A_cons, ↓reduceIte, Nat.reduceEqDiff, reduceCtorEq, condG_bool, GB_true, GB_false, decide_eq_true_eq]
    refine hF ?_
    clear hT hF KT KF
    refine Tr.skip ?_
    refine hK14 _ ?_
    clear hK14 K14
    refine Tr.kp [2, 7, 8, 9, 10, 11, 12, 13] ?_
    simp only [pk_cons, pk_nil, ↓A_cons, ↓reduceIte, Nat.reduceEqDiff, reduceCtorEq]
    -- region 11 (law.go:172)
    refine Tr.rg hcx [1000063] _ [] rfl rfl rfl ?_
    simp -implicitDefEqProofs (maxSteps := 2000000) (disch := first | omega | (simp only [go_sem, List.length_append, List.length_drop, List.length_take, hS, hZ] <;> omega) | decide) only [go_sem, ↓reduceIte, Nat.reduceEqDiff, reduceCtorEq, Nat.reduceLT, Nat.reduceBEq, Nat.reduceAdd, Nat.reduceSub, Nat.reduceMul, Nat.reduceMod, Int.reduceMod, Int.reduceToNat, Int.reduceNeg, e37a, e37b, h12, h14, h18, h19, h24, h25, h31, h33, h35n, e38, eq_self, decide_true, decide_false, not_true_eq_false, not_false_eq_true, b1]
    refine ⟨i + 1, ⟨by omega, by first | omega | (simp only []; omega)⟩, ?_, rfl⟩
    (simp only [Le_nil, Le_cons, ↓A_cons, ↓reduceIte, Nat.reduceEqDiff, reduceCtorEq, CLe_refl, CLe_top, CLe_full, CLe_nil, CLe_own, and_true, true_and]; all_goals (repeat' first | exact CLe.refl _ | exact True.intro | (refine CLe_sln ?_; first | with_reducible rfl | (simp only [List.take_zero]; done) | (rfl; done)) | exact CLe_nI (by omega) | exact CLe_int (by omega) | exact CLe_inI (by omega) | exact CLe_nIi (by omega) | with_reducible apply And.intro))
  ·
   clear hT hF KT KF
   refine Tr.exit ?_
   refine hK10 _ ?_
   clear hK12 K12 hK10 K10
   refine Tr.kp [2, 7, 8, 9, 10, 12] ?_
   simp only [pk_cons, pk_nil, ↓A_cons, ↓reduceIte, Nat.reduceEqDiff, reduceCtorEq]
   refine Tr.seqK fun K19 hK19 => ?_
   refine Tr.seqK fun K20 hK20 => ?_
   -- region 16 (law.go:180)
   refine Tr.rg hcx [125, 128] [some 123, some 124, some 125, some 126, some 127, some 128, some 129, some 130, some 131, some 132, some 133, some 134, some 135, some 136, some 137, some 138, some 139, some 140, some 141, some 142, some 143, some 144, some 145] [] rfl rfl rfl ?_
   simp -implicitDefEqProofs (maxSteps := 2000000) (disch := first | omega | (simp only [go_sem, List.length_append, List.length_drop, List.length_take, hS, hZ] <;> omega) | decide) only [go_sem, ↓reduceIte, Nat.reduceEqDiff, reduceCtorEq, Nat.reduceLT, Nat.reduceBEq, Nat.reduceAdd, Nat.reduceSub, Nat.reduceMul, Nat.reduceMod, Int.reduceMod, Int.reduceToNat, Int.reduceNeg, e37a, e37b, h12, h14, h18, h19, h24, h25, h31, h33, h35n, e38, eq_self, decide_true, decide_false, not_true_eq_false, not_false_eq_true, hwj, List.replicate_zero, List.nil_append]
   refine hK20 _ ?_
   clear hK20 K20
   refine Tr.kp [2, 7, 8, 9, 10, 12, 145] ?_
   simp only [pk_cons, pk_nil, ↓A_cons, ↓reduceIte, Nat.reduceEqDiff, reduceCtorEq]
   refine Tr.condG fun KT KF hT hF => ?_
   simp only [ev_tmp, ev_const, ↓A_cons, ↓reduceIte, Nat.reduceEqDiff, reduceCtorEq, condG_bool, GB_true, GB_false, decide_eq_true_eq]
   refine hF ?_
   clear hT hF KT KF
   refine Tr.skip ?_
   refine hK19 _ ?_
   clear hK19 K19
   refine Tr.kp [2, 7, 8, 9, 10, 12] ?_
   simp only [pk_cons, pk_nil, ↓A_cons, ↓reduceIte, Nat.reduceEqDiff, reduceCtorEq]
   refine Tr.seqK fun K21 hK21 => ?_
   -- region 18 (law.go:183)
   refine Tr.rg hcx [1000151, 1000152, 1000153] _ [] rfl rfl rfl ?_
   simp -implicitDefEqProofs (maxSteps := 2000000) (disch := first | omega | (simp only [go_sem, List.length_append, List.length_drop, List.length_take, hS, hZ] <;> omega) | decide) only [go_sem, ↓reduceIte, Nat.reduceEqDiff, reduceCtorEq, Nat.reduceLT, Nat.reduceBEq, Nat.reduceAdd, Nat.reduceSub, Nat.reduceMul, Nat.reduceMod, Int.reduceMod, Int.reduceToNat, Int.reduceNeg, e37a, e37b, h12, h14, h18, h19, h24, h25, h31, h33, h35n, e38, eq_self, decide_true, decide_false, not_true_eq_false, not_false_eq_true, hcj]
   refine hK21 _ ?_
   clear hK21 K21
   refine Tr.kp [2, 7, 8, 9, 12, 14, 15, 16] ?_
   simp only [pk_cons, pk_nil, ↓A_cons, ↓reduceIte, Nat.reduceEqDiff, reduceCtorEq]
   refine Tr.seqK fun K22 hK22 => ?_
   refine Tr.seqK fun K23 hK23 => ?_
   -- region 19 (law.go:184)
   refine Tr.rg hcx [] [some 154, some 155, some 156, some 157, some 158, some 159, some 160, some 161, some 162, some 163, some 164, some 165] [] rfl rfl rfl ?_
   simp -implicitDefEqProofs (maxSteps := 2000000) (disch := first | omega | (simp only [go_sem, List.length_append, List.length_drop, List.length_take, hS, hZ] <;> omega) | decide) only [go_sem, ↓reduceIte, Nat.reduceEqDiff, reduceCtorEq, Nat.reduceLT, Nat.reduceBEq, Nat.reduceAdd, Nat.reduceSub, Nat.reduceMul, Nat.reduceMod, Int.reduceMod, Int.reduceToNat, Int.reduceNeg, e37a, e37b, h12, h14, h18, h19, h24, h25, h31, h33, h35n, e38, eq_self, decide_true, decide_false, not_true_eq_false, not_false_eq_true]
   refine hK23 _ ?_
   clear hK23 K23
   refine Tr.kp [2, 9, 12, 165] ?_
   simp only [pk_cons, pk_nil, ↓A_cons, ↓reduceIte, Nat.reduceEqDiff, reduceCtorEq]
   refine Tr.condG fun KT KF hT hF => ?_
   simp only [ev_tmp, ev_const, ↓A_cons, ↓reduceIte, Nat.reduceEqDiff, reduceCtorEq, condG_bool, GB_true, GB_false, decide_eq_true_eq]
   refine hF ?_
   clear hT hF KT KF
   refine Tr.skip ?_
   refine hK22 _ ?_
   clear hK22 K22
   refine Tr.kp [2, 9, 12] ?_
   simp only [pk_cons, pk_nil, ↓A_cons, ↓reduceIte, Nat.reduceEqDiff, reduceCtorEq]
   refine Tr.seqK fun K24 hK24 => ?_
   -- region 21 (law.go:187)
   refine Tr.rg hcx [1000173, 1000174, 1000175] _ [] rfl rfl rfl ?_
   simp -implicitDefEqProofs (maxSteps := 2000000) (disch := first | omega | (simp only [go_sem, List.length_append, List.length_drop, List.length_take, hS, hZ] <;> omega) | decide) only [go_sem, ↓reduceIte, Nat.reduceEqDiff, reduceCtorEq, Nat.reduceLT, Nat.reduceBEq, Nat.reduceAdd, Nat.reduceSub, Nat.reduceMul, Nat.reduceMod, Int.reduceMod, Int.reduceToNat, Int.reduceNeg, e37a, e37b, h12, h14, h18, h19, h24, h25, h31, h33, h35n, e38, eq_self, decide_true, decide_false, not_true_eq_false, not_false_eq_true]
   refine hK24 _ ?_
   clear hK24 K24
   refine Tr.kp [9, 14, 15, 16] ?_
   simp only [pk_cons, pk_nil, ↓A_cons, ↓reduceIte, Nat.reduceEqDiff, reduceCtorEq]
   refine Tr.seqK fun K25 hK25 => ?_
   by_cases b2 : (cutT (joinT A B) ((aroundI k (toks (joinT A B)).length) : Int)).2.2 = 0
   ·
    have hjb := hcb.1 b2
    -- region 22 (law.go:188)
    refine Tr.rg hcx [1000195] [some 176, some 177, some 178, some 179, some 180, some 181, some 182, some 183, some 184, some 185, some 186, some 187, some 188, some 189, some 190, some 191, some 192, some 193, some 194, some 195, some 6] [] rfl rfl rfl ?_
    simp -implicitDefEqProofs (maxSteps := 2000000) (disch := first | omega | (simp only [go_sem, List.length_append, List.length_drop, List.length_take, hS, hZ] <;> omega) | decide) only [go_sem, ↓reduceIte, Nat.reduceEqDiff, reduceCtorEq, Nat.reduceLT, Nat.reduceBEq, Nat.reduceAdd, Nat.reduceSub, Nat.reduceMul, Nat.reduceMod, Int.reduceMod, Int.reduceToNat, Int.reduceNeg, e37a, e37b, h12, h14, h18, h19, h24, h25, h31, h33, h35n, e38, eq_self, decide_true, decide_false, not_true_eq_false, not_false_eq_true, b2, hjb]
    refine hK25 _ ?_
    clear hK25 K25
    refine Tr.kp [6] ?_
    simp only [pk_cons, pk_nil, ↓A_cons, ↓reduceIte, Nat.reduceEqDiff, reduceCtorEq]
    refine Tr.ret ?_
    simp -implicitDefEqProofs (disch := first | omega | (simp only [go_sem, List.length_append, List.length_drop, List.length_take, hS, hZ] <;> omega) | decide) only [go_sem, ↓reduceIte, Nat.reduceEqDiff, reduceCtorEq]
    all_goals (rfl)
   ·
    have hjb := hcb.2.1 b2
    -- region 22 (law.go:188)
    refine Tr.rg hcx [1000195] [some 176, some 177, some 178, some 179, some 180, some 181, some 182, some 183, some 184, some 185, some 186, some 187, some 188, some 189, some 190, some 191, some 192, some 193, some 194, some 195, some 6] [] rfl rfl rfl ?_
    simp -implicitDefEqProofs (maxSteps := 2000000) (disch := first | omega | (simp only [go_sem, List.length_append, List.length_drop, List.length_take, hS, hZ] <;> omega) | decide) only [go_sem, ↓reduceIte, Nat.reduceEqDiff, reduceCtorEq, Nat.reduceLT, Nat.reduceBEq, Nat.reduceAdd, Nat.reduceSub, Nat.reduceMul, Nat.reduceMod, Int.reduceMod, Int.reduceToNat, Int.reduceNeg, e37a, e37b, h12, h14, h18, h19, h24, h25, h31, h33, h35n, e38, eq_self, decide_true, decide_false, not_true_eq_false, not_false_eq_true, b2, hjb]
    refine hK25 _ ?_
    clear hK25 K25
    refine Tr.kp [6] ?_
    simp only [pk_cons, pk_nil, ↓A_cons, ↓reduceIte, Nat.reduceEqDiff, reduceCtorEq]
    refine Tr.ret ?_
    simp -implicitDefEqProofs (disch := first | omega | (simp only [go_sem, List.length_append, List.length_drop, List.length_take, hS, hZ] <;> omega) | decide) only [go_sem, ↓reduceIte, Nat.reduceEqDiff, reduceCtorEq]
    all_goals (rfl)
end Go.Sx
