/-
  Package token: laws of tokens, in plain terms. And what follows.
-/
import Derived.Test.YtmeplkkhnpcldaaPas
import Derived.Test.YtmeplkkhnpcldaaPav
set_option linter.unusedSimpArgs false
set_option linter.unusedVariables false
namespace Go.Sx
theorem gt_drop {α : Type} [Inhabited α] (l : List α) (n i : Nat) : gt (l.drop n) i = gt l (n + i) := by
  simp [gt, List.getD]
theorem gt_mem {α : Type} [Inhabited α] {l : List α} {i : Nat} (h : i < l.length) : gt l i ∈ l := by
  have e : gt l i = l[i] := by simp [gt, List.getD, List.getElem?_eq_getElem h]
  rw [e]; exact List.getElem_mem h
theorem drop_cons {α : Type} [Inhabited α] {s : List α} {p : Nat} (h : p < s.length) : s.drop p = gt s p :: s.drop (p + 1) := by
  have e : gt s p = s[p] := by simp [gt, List.getD, List.getElem?_eq_getElem h]
  rw [e]; exact List.drop_eq_getElem_cons h
theorem rnL_get (k : Nat) : ∀ (l : List UInt8) (i : Nat), i < rnL k l → kd (gt l i) = k ∧ k < 2
  | [], i, h => by simp [rnL] at h
  | c :: r, i, h => by
    unfold rnL at h
    split at h
    · rename_i hc
      cases i with
      | zero => rw [gt_cons0]; exact ⟨hc.2, hc.1⟩
      | succ i => rw [gt_consS]; exact rnL_get k r i (by omega)
    · omega
theorem rnL_end (k : Nat) (hk : k < 2) : ∀ (l : List UInt8), rnL k l < l.length → kd (gt l (rnL k l)) ≠ k
  | [], h => by simp at h
  | c :: r, h => by
    by_cases hc : k < 2 ∧ kd c = k
    · have e : rnL k (c :: r) = rnL k r + 1 := if_pos hc
      rw [e] at h ⊢
      rw [gt_consS]
      exact rnL_end k hk r (by simpa using h)
    · have e : rnL k (c :: r) = 0 := if_neg hc
      rw [e, gt_cons0]
      exact fun h2 => hc ⟨hk, h2⟩
/-- Tokens cover a text from a place on. -/
def Cov (s : List UInt8) : Nat → Option Nat → List Tok → Prop
  | at', _, [] => ∀ j, at' ≤ j → j < s.length → gt s j = 32
  | at', pk, t :: r => (at' ≤ t.a ∧ t.a < t.e ∧ t.e ≤ s.length ∧ t.k ≤ 3) ∧ (∀ j, at' ≤ j → j < t.a → gt s j = 32) ∧ (∀ j, t.a ≤ j → j < t.e → gt s j ≠ 32 ∧ kd (gt s j) = t.k) ∧ (1 < t.k → t.e = t.a + 1) ∧ (t.k ≤ 1 → pk = some t.k → at' < t.a) ∧ Cov s t.e (some t.k) r
theorem cov_spl (s : List UInt8) : ∀ (m p : Nat) (at' : Nat) (pk : Option Nat), s.length - p ≤ m → at' ≤ p → p ≤ s.length → (∀ j, at' ≤ j → j < p → gt s j = 32) →
    (at' = p → ∀ k, pk = some k → k < 2 → p < s.length → kd (gt s p) ≠ k) → Cov s at' pk (spl p none (s.drop p)) := by
  intro m
  induction m with
  | zero =>
    intro p at' pk h1 h2 h3 h4 h5
    have hp : p = s.length := by omega
    subst hp
    rw [List.drop_length]
    exact fun j hj1 hj2 => h4 j hj1 hj2
  | succ m ih =>
    intro p at' pk h1 h2 h3 h4 h5
    by_cases hp : p < s.length
    · rw [drop_cons hp]
      by_cases hc : gt s p = 32
      · rw [hc, spl_blank]
        refine ih (p + 1) at' pk (by omega) (by omega) (by omega) (fun j hj1 hj2 => ?_) (fun e => by omega)
        by_cases hj : j < p
        · exact h4 j hj1 hj
        · have : j = p := by omega
          rw [this]; exact hc
      · rw [spl_tok p _ _ hc]
        have hr := rnL_le (kd (gt s p)) (s.drop (p + 1))
        rw [List.length_drop] at hr
        have hkle := kd_le (gt s p)
        rw [List.drop_drop]
        have hall : ∀ j, p ≤ j → j < p + 1 + rnL (kd (gt s p)) (s.drop (p + 1)) → gt s j ≠ 32 ∧ kd (gt s j) = kd (gt s p) := fun j hj1 hj2 => by
          by_cases hj : j = p
          · subst hj; exact ⟨hc, rfl⟩
          · have := rnL_get (kd (gt s p)) (s.drop (p + 1)) (j - (p + 1)) (by omega)
            rw [gt_drop, show p + 1 + (j - (p + 1)) = j by omega] at this
            refine ⟨fun h => ?_, this.1⟩
            rw [h, kd_blank] at this; omega
        refine ⟨⟨h2, by simp only []; omega, by simp only []; omega, hkle⟩, h4, hall, fun hk => ?_, fun hk hp' => ?_, ?_⟩
        · have : rnL (kd (gt s p)) (s.drop (p + 1)) = 0 := by
            rcases Nat.eq_zero_or_pos (rnL (kd (gt s p)) (s.drop (p + 1))) with h | h
            · exact h
            · have := (rnL_get _ _ 0 h).2
              simp only [] at hk; omega
          simp only []; omega
        · simp only [] at hk hp' ⊢
          rcases Nat.lt_or_eq_of_le h2 with h | h
          · exact h
          · exact absurd rfl (h5 h _ hp' (by omega) hp)
        · have e : s.drop (p + 1 + rnL (kd (gt s p)) (s.drop (p + 1))) = s.drop (p + 1 + rnL (kd (gt s p)) (s.drop (p + 1))) := rfl
          refine ih _ _ _ (by omega) (Nat.le_refl _) (by omega) (fun j a b => absurd (Nat.lt_of_le_of_lt a b) (Nat.lt_irrefl _)) (fun _ k hk hk2 hl => ?_)
          cases hk
          have := rnL_end (kd (gt s p)) hk2 (s.drop (p + 1)) (by rw [List.length_drop]; omega)
          rw [gt_drop] at this
          exact this
    · have hp' : p = s.length := by omega
      subst hp'
      rw [List.drop_length]
      exact fun j hj1 hj2 => h4 j hj1 hj2
theorem toks_cov (s : List UInt8) : Cov s 0 none (toks s) := by
  have := cov_spl s s.length 0 0 none (by omega) (Nat.le_refl _) (Nat.zero_le _) (fun j a b => by omega) (fun _ k hk => by cases hk)
  rwa [List.drop_zero] at this
/-- Where the token before ends. -/
def preE (at' : Nat) (l : List Tok) (i : Nat) : Nat := if i = 0 then at' else (gt l (i - 1)).e
theorem Cov.get {s : List UInt8} : ∀ {l : List Tok} {at' : Nat} {pk : Option Nat}, Cov s at' pk l → ∀ i, i < l.length →
    (preE at' l i ≤ (gt l i).a ∧ (gt l i).a < (gt l i).e ∧ (gt l i).e ≤ s.length ∧ (gt l i).k ≤ 3) ∧ (∀ j, preE at' l i ≤ j → j < (gt l i).a → gt s j = 32) ∧
    (∀ j, (gt l i).a ≤ j → j < (gt l i).e → gt s j ≠ 32 ∧ kd (gt s j) = (gt l i).k) ∧ (1 < (gt l i).k → (gt l i).e = (gt l i).a + 1) ∧ (0 < i → (gt l i).k ≤ 1 → (gt l i).a = preE at' l i → (gt l i).k ≠ (gt l (i - 1)).k)
  | [], _, _, _, i, hi => by simp at hi
  | t :: r, at', pk, h, 0, _ => by
    obtain ⟨h1, h2, h3, h4, h5, h6⟩ := h
    exact ⟨h1, h2, h3, h4, fun h => absurd h (Nat.lt_irrefl 0)⟩
  | t :: r, at', pk, h, i + 1, hi => by
    obtain ⟨h1, h2, h3, h4, h5, h6⟩ := h
    have ih := h6.get i (by simpa using hi)
    have e : preE at' (t :: r) (i + 1) = preE t.e r i := by
      unfold preE
      rw [if_neg (by omega)]
      cases i with
      | zero => rfl
      | succ i => rw [if_neg (by omega)]; simp only [Nat.add_sub_cancel]; rw [gt_consS]
    rw [e]
    simp only [gt_consS, Nat.add_sub_cancel]
    refine ⟨ih.1, ih.2.1, ih.2.2.1, ih.2.2.2.1, fun _ hk ha => ?_⟩
    cases i with
    | zero =>
      rw [gt_cons0]
      intro hkk
      cases r with
      | nil => simp at hi
      | cons t2 r2 =>
        obtain ⟨q1, q2, q3, q4, q5, q6⟩ := h6
        rw [gt_cons0] at hk hkk ha
        have := q5 hk (by rw [hkk])
        have ha' : t2.a = t.e := ha
        omega
    | succ i =>
      have := ih.2.2.2.2 (by omega) hk ha
      rw [gt_consS]; exact this
theorem toks_at (s : List UInt8) (i : Nat) (h : i < (toks s).length) : (preE 0 (toks s) i ≤ (gt (toks s) i).a ∧ (gt (toks s) i).a < (gt (toks s) i).e ∧ (gt (toks s) i).e ≤ s.length ∧ (gt (toks s) i).k ≤ 3) ∧ (∀ j, preE 0 (toks s) i ≤ j → j < (gt (toks s) i).a → gt s j = 32) ∧
    (∀ j, (gt (toks s) i).a ≤ j → j < (gt (toks s) i).e → gt s j ≠ 32 ∧ kd (gt s j) = (gt (toks s) i).k) ∧ (1 < (gt (toks s) i).k → (gt (toks s) i).e = (gt (toks s) i).a + 1) ∧ (0 < i → (gt (toks s) i).k ≤ 1 → (gt (toks s) i).a = preE 0 (toks s) i → (gt (toks s) i).k ≠ (gt (toks s) (i - 1)).k) := (toks_cov s).get i h
/-! Lengths. -/
theorem ofK_lenT (k : Nat) (l : List Tok) : (ofK k l).length ≤ l.length := by
  have := List.length_filter_le (fun i => decide ((gt l i).k = k)) (List.range l.length)
  rw [List.length_range] at this
  exact this
theorem wordsT_len (s : List UInt8) : (wordsT s).length ≤ s.length := by
  have h1 := ofK_lenT 0 (toks s)
  have h2 := toks_len s
  unfold wordsT
  rw [List.length_map]; omega
/-! Small letters. -/
theorem low_lows (s : List UInt8) : (s.map low).map low = s.map low := by
  rw [List.map_map]; exact List.map_congr_left fun c _ => low_low c
theorem words_low (s : List UInt8) : wordsT (s.map low) = wordsT s := by
  unfold wordsT
  rw [toks_low]
  refine List.map_congr_left fun i _ => ?_
  unfold txt
  rw [← List.map_drop, ← List.map_take, low_lows]
theorem gt_low (s : List UInt8) (i : Nat) : (gt (s.map low) i = 32 ↔ gt s i = 32) ∧ (gt (s.map low) i < 32 ↔ gt s i < 32) ∧ (126 < gt (s.map low) i ↔ 126 < gt s i) := by
  have h8 : ∀ c : UInt8, (low c = 32 ↔ c = 32) ∧ (low c < 32 ↔ c < 32) ∧ (126 < low c ↔ 126 < c) := fun c => by
    have := all8 (fun c => decide ((low c = 32 ↔ c = 32) ∧ (low c < 32 ↔ c < 32) ∧ (126 < low c ↔ 126 < c))) (by decide +kernel) c
    exact of_decide_eq_true this
  by_cases h : i < s.length
  · rw [gt_map _ _ _ h]; exact h8 _
  · have e1 : gt (s.map low) i = default := by simp [gt, List.getD, h]
    have e2 : gt s i = default := by simp [gt, List.getD, h]
    rw [e1, e2]; exact ⟨Iff.rfl, Iff.rfl, Iff.rfl⟩
theorem bad_low (s : List UInt8) : bad (s.map low) = bad s := by
  unfold bad
  rw [List.length_map]
  congr 1
  funext i
  unfold badAt
  have h1 := gt_low s i
  have h2 := (gt_low s (i - 1)).1
  simp only [h1.1, h1.2.1, h1.2.2, h2, List.length_map]
theorem validE_low (s : List UInt8) : validE (s.map low) = validE s := by
  unfold validE
  rw [bad_low, toks_low, List.length_map]
  simp only [List.map_eq_nil_iff]
theorem take_gt {α : Type} [Inhabited α] (l : List α) {n j : Nat} (h : j < n) : gt (l.take n) j = gt l j := by
  simp only [gt, List.getD]
  rw [List.getElem?_take_of_lt h]
theorem words_ok (s : List UInt8) (k : Nat) (h : k < (wordsT s).length) : gt (wordsT s) k ≠ [] ∧ ∀ j, j < (gt (wordsT s) k).length → 97 ≤ gt (gt (wordsT s) k) j ∧ gt (gt (wordsT s) k) j ≤ 122 := by
  have hm := gt_mem h
  unfold wordsT at hm
  rw [List.mem_map] at hm
  obtain ⟨i, hi, e⟩ := hm
  rw [← wordsT] at e
  unfold ofK at hi
  rw [List.mem_filter, List.mem_range, decide_eq_true_eq] at hi
  obtain ⟨h1, h2⟩ := hi
  obtain ⟨⟨q1, q2, q3, q4⟩, q5, q6, q7, q8⟩ := toks_at s i h1
  rw [← e]
  have hl : (txt s (gt (toks s) i)).length = (gt (toks s) i).e - (gt (toks s) i).a := by
    unfold txt; rw [List.length_take, List.length_drop]; omega
  refine ⟨fun h => ?_, fun j hj => ?_⟩
  · have := congrArg List.length h
    rw [List.length_map, hl] at this
    simp at this; omega
  · rw [List.length_map] at hj
    rw [gt_map _ _ _ hj]
    rw [hl] at hj
    have : gt (txt s (gt (toks s) i)) j = gt s ((gt (toks s) i).a + j) := by
      unfold txt
      rw [← gt_drop]
      exact take_gt _ hj
    rw [this]
    exact low_word _ ((q6 _ (by omega) (by omega)).2.trans h2)
theorem words_le (s : List UInt8) (k : Nat) (h : k < (wordsT s).length) : (gt (wordsT s) k).length ≤ s.length := by
  have hm := gt_mem h
  unfold wordsT at hm
  rw [List.mem_map] at hm
  obtain ⟨i, hi, e⟩ := hm
  rw [← wordsT] at e
  rw [← e, List.length_map]
  unfold txt
  rw [List.length_take, List.length_drop]; omega
theorem texts_le (l : List Int) (how by' : Int) (raw : List UInt8) (most : Int) (hm : most ≤ 6000) : (textsT l how by' raw most).length ≤ 6 ∧ 0 < (textsT l how by' raw most).length ∧ ∀ i, i < (textsT l how by' raw most).length → (gt (textsT l how by' raw most) i).length ≤ 10000 := by
  have h1 := textT_ok l 3
  have h2 := markT_ok l 0
  have h3 := spoT_len (markT l 0) how by'
  have h4 := spoT_len (spoT (markT l 0) how by') by' how
  have h5 := wildT_len l
  have key : ∀ x ∈ textsT l how by' raw most, x.length ≤ 10000 := fun x hx => by
    unfold textsT at hx
    rw [List.mem_append] at hx
    rcases hx with hx | hx
    · simp only [List.mem_cons, List.not_mem_nil, or_false] at hx
      rcases hx with rfl | rfl | rfl | rfl | rfl <;> omega
    · split at hx
      · simp only [List.mem_cons, List.not_mem_nil, or_false] at hx
        subst hx; omega
      · cases hx
  refine ⟨?_, ?_, fun i hi => key _ (gt_mem hi)⟩
  · unfold textsT; rw [List.length_append]; split <;> simp
  · unfold textsT; rw [List.length_append]; simp; omega
end Go.Sx
namespace Go.Sx
open Go.RowKit Go.Proofs
set_option maxRecDepth 100000 in
set_option maxHeartbeats 8000000 in
theorem fc10 {gl : Nat → C} {M : Nat} {pu : Nat → List C → Option C}  (hcx : CxOK (cxP gl M pu)) (h11 : ∀ (l : List Int) (how by' : Int) (raw : List UInt8) (most : Int), LI l → (-9223372036854775808 ≤ how ∧ how ≤ 9223372036854775807) → (-9223372036854775808 ≤ by' ∧ by' ≤ 9223372036854775807) → raw.length ≤ 9223372036854775807 → pu 11 [sl iC .no l, .val (.int .i64 how), .val (.int .i64 by'), .val (str raw), .val (.int .i64 most)] = some (sl sC .no (textsT l how by' raw most))) (h12 : ∀ s : List UInt8, s.length ≤ 1000000 → pu 12 [.val (str s)] = some (.val (nI (validE s)))) (h14 : pu 14 [] = some (.val (.bool true))) (h16 : ∀ x y : List Tok, x.length < 9223372036854775807 → pu 16 [sl tC .no x, sl tC .no y] = some (.val (.bool (decide (x = y))))) (h17 : ∀ l : List Tok, l.length ≤ 1000000 → pu 17 [sl tC .no l] = some (sl tC (.own 3) l)) (h18 : ∀ s : List UInt8, s.length ≤ 1000000 → pu 18 [.val (str s)] = some (sl tC (.own 3) (toks s))) (h22 : ∀ s : List UInt8, s.length ≤ 1000000 → pu 22 [.val (str s)] = some (.val (str (s.map low)))) (h24 : ∀ x y : List (List UInt8), x.length < 9223372036854775807 → pu 24 [sl sC .no x, sl sC .no y] = some (.val (.bool (decide (x = y))))) (h25 : ∀ s : List UInt8, s.length ≤ 1000000 → pu 25 [.val (str s)] = some (sl sC (.own 1) (wordsT s))) (l : List Int) (how by' : Int) (raw : List UInt8) (hl : LI l) (hw : -9223372036854775808 ≤ how ∧ how ≤ 9223372036854775807) (hy : -9223372036854775808 ≤ by' ∧ by' ≤ 9223372036854775807) (hraw : raw.length ≤ 9223372036854775807) : FC Try.prog gl 10 [sl iC .no l, .val (.int .i64 how), .val (.int .i64 by'), .val (str raw)] [] (.val (.bool true)) [] := by
 replace hcx := hcx.reN (M := 108)
 refine FC.ofA (cx := cxP gl 108 pu) (rs := [.tmp 8]) rfl Try.func10 rfl rfl rfl (by simp only [List.length_cons, List.length_nil]; decide) (by simp only [go_sem]) ?_
 simp only [ini, go_sem]
 obtain ⟨L, hL6, hL0, hL, e11⟩ : ∃ L : List (List UInt8), L.length ≤ 6 ∧ 0 < L.length ∧ (∀ i, i < L.length → (gt L i).length ≤ 10000) ∧ pu 11 [sl iC .no l, .val (.int .i64 how), .val (.int .i64 by'), .val (str raw), .val (nI 600)] = some (sl sC .no L) :=
   ⟨textsT l how by' raw 600, (texts_le l how by' raw 600 (by decide)).1, (texts_le l how by' raw 600 (by decide)).2.1, (texts_le l how by' raw 600 (by decide)).2.2, h11 l how by' raw 600 hl hw hy hraw⟩
 have hb1 := True.intro
 refine Tr.seqK fun K1 hK1 => ?_
 -- region 0 (law.go:245)
 refine Tr.rg hcx [] _ [] rfl rfl rfl ?_
 simp -implicitDefEqProofs (maxSteps := 2000000) (disch := first | omega | (simp only [go_sem, List.length_append, List.length_drop, List.length_take, hb1, List.length_map] <;> omega) | decide) only [go_sem, ↓reduceIte, Nat.reduceEqDiff, reduceCtorEq, Nat.reduceLT, Nat.reduceBEq, Nat.reduceAdd, Nat.reduceSub, Nat.reduceMul, Nat.reduceMod, Int.reduceMod, Int.reduceToNat, Int.reduceNeg, e11, h12, h14, h16, h17, h18, h22, h24, h25, low_lows, words_low, toks_low, validE_low, eq_self, decide_true, decide_false, not_true_eq_false, not_false_eq_true]
 refine hK1 _ ?_
 clear hK1 K1
 refine Tr.kp [0, 1, 2, 3] ?_
 simp only [pk_cons, pk_nil, ↓A_cons, ↓reduceIte, Nat.reduceEqDiff, reduceCtorEq]
 refine Tr.seqK fun K2 hK2 => ?_
 -- region 1 (law.go:246)
 refine Tr.rg hcx [1000019] _ [] rfl rfl rfl ?_
 simp -implicitDefEqProofs (maxSteps := 2000000) (disch := first | omega | (simp only [go_sem, List.length_append, List.length_drop, List.length_take, hb1, List.length_map] <;> omega) | decide) only [go_sem, ↓reduceIte, Nat.reduceEqDiff, reduceCtorEq, Nat.reduceLT, Nat.reduceBEq, Nat.reduceAdd, Nat.reduceSub, Nat.reduceMul, Nat.reduceMod, Int.reduceMod, Int.reduceToNat, Int.reduceNeg, e11, h12, h14, h16, h17, h18, h22, h24, h25, low_lows, words_low, toks_low, validE_low, eq_self, decide_true, decide_false, not_true_eq_false, not_false_eq_true]
 refine hK2 _ ?_
 clear hK2 K2
 refine Tr.kp [9] ?_
 simp only [pk_cons, pk_nil, ↓A_cons, ↓reduceIte, Nat.reduceEqDiff, reduceCtorEq]
 refine Tr.seqK fun K3 hK3 => ?_
 refine Tr.seqK fun K4 hK4 => ?_
 -- region 2 (law.go:247)
 refine Tr.rg hcx [] _ [] rfl rfl rfl ?_
 simp -implicitDefEqProofs (maxSteps := 2000000) (disch := first | omega | (simp only [go_sem, List.length_append, List.length_drop, List.length_take, hb1, List.length_map] <;> omega) | decide) only [go_sem, ↓reduceIte, Nat.reduceEqDiff, reduceCtorEq, Nat.reduceLT, Nat.reduceBEq, Nat.reduceAdd, Nat.reduceSub, Nat.reduceMul, Nat.reduceMod, Int.reduceMod, Int.reduceToNat, Int.reduceNeg, e11, h12, h14, h16, h17, h18, h22, h24, h25, low_lows, words_low, toks_low, validE_low, eq_self, decide_true, decide_false, not_true_eq_false, not_false_eq_true]
 refine hK4 _ ?_
 clear hK4 K4
 refine Tr.kp [9, 10] ?_
 simp only [pk_cons, pk_nil, ↓A_cons, ↓reduceIte, Nat.reduceEqDiff, reduceCtorEq]
 refine Tr.blk ?_
 refine Tr.loopI (α := Nat) (fun a => [(9, ?v9_66), (10, .val (nI a))]) (fun a => ?h_66) (fun a => a ≤ L.length) (fun a => L.length - a) (0) ?_ ?le_66 ?hh_66 ?bd_66
 case hh_66 => exact rfl
 case le_66 => (simp only [Le_nil, Le_cons, ↓A_cons, ↓reduceIte, Nat.reduceEqDiff, reduceCtorEq, CLe_refl, CLe_top, CLe_full, CLe_nil, CLe_own, and_true, true_and]; all_goals (repeat' first | exact CLe.refl _ | exact True.intro | (refine CLe_sln ?_; first | with_reducible rfl | (simp only [List.take_zero]; done) | (rfl; done)) | exact CLe_nI (by omega) | exact CLe_int (by omega) | exact CLe_inI (by omega) | exact CLe_nIi (by omega) | with_reducible apply And.intro))
 · omega
 case bd_66 =>
  rintro i hi
  refine Tr.seqK fun K5 hK5 => ?_
  refine Tr.seqK fun K6 hK6 => ?_
  -- region 3 (law.go:247)
  refine Tr.rg hcx [] _ [] rfl rfl rfl ?_
  simp -implicitDefEqProofs (maxSteps := 2000000) (disch := first | omega | (simp only [go_sem, List.length_append, List.length_drop, List.length_take, hb1, List.length_map] <;> omega) | decide) only [go_sem, ↓reduceIte, Nat.reduceEqDiff, reduceCtorEq, Nat.reduceLT, Nat.reduceBEq, Nat.reduceAdd, Nat.reduceSub, Nat.reduceMul, Nat.reduceMod, Int.reduceMod, Int.reduceToNat, Int.reduceNeg, e11, h12, h14, h16, h17, h18, h22, h24, h25, low_lows, words_low, toks_low, validE_low, eq_self, decide_true, decide_false, not_true_eq_false, not_false_eq_true]
  refine hK6 _ ?_
  clear hK6 K6
  refine Tr.kp [9, 10, 23] ?_
  simp only [pk_cons, pk_nil, ↓A_cons, ↓reduceIte, Nat.reduceEqDiff, reduceCtorEq]
  refine Tr.condG fun KT KF hT hF => ?_
  simp only [ev_tmp, ev_const, ↓A_cons, ↓reduceIte, Nat.reduceEqDiff, reduceCtorEq, condG_bool, GB_true, GB_false, decide_eq_true_eq]
  refine GB.dec (fun hc23 => hT ?_) (fun hc23 => hF ?_)
  ·
   clear hT hF KT KF
   have hb1 := hL i hc23
   have hb2 := wordsT_len (gt L i)
   have hb3 := toks_len (gt L i)
   refine Tr.skip ?_
   refine hK5 _ ?_
   clear hK5 K5
   refine Tr.kp [9, 10] ?_
   simp only [pk_cons, pk_nil, ↓A_cons, ↓reduceIte, Nat.reduceEqDiff, reduceCtorEq]
   refine Tr.seqK fun K7 hK7 => ?_
   refine Tr.blk ?_
   refine Tr.seqK fun K8 hK8 => ?_
   -- region 5 (law.go:248)
   refine Tr.rg hcx [1000030] _ [] rfl rfl rfl ?_
   simp -implicitDefEqProofs (maxSteps := 2000000) (disch := first | omega | (simp only [go_sem, List.length_append, List.length_drop, List.length_take, hb1, List.length_map] <;> omega) | decide) only [go_sem, ↓reduceIte, Nat.reduceEqDiff, reduceCtorEq, Nat.reduceLT, Nat.reduceBEq, Nat.reduceAdd, Nat.reduceSub, Nat.reduceMul, Nat.reduceMod, Int.reduceMod, Int.reduceToNat, Int.reduceNeg, e11, h12, h14, h16, h17, h18, h22, h24, h25, low_lows, words_low, toks_low, validE_low, eq_self, decide_true, decide_false, not_true_eq_false, not_false_eq_true]
   refine hK8 _ ?_
   clear hK8 K8
   refine Tr.kp [9, 10, 11] ?_
   simp only [pk_cons, pk_nil, ↓A_cons, ↓reduceIte, Nat.reduceEqDiff, reduceCtorEq]
   refine Tr.seqK fun K9 hK9 => ?_
   -- region 6 (law.go:249)
   refine Tr.rg hcx [1000035] _ [] rfl rfl rfl ?_
   simp -implicitDefEqProofs (maxSteps := 2000000) (disch := first | omega | (simp only [go_sem, List.length_append, List.length_drop, List.length_take, hb1, List.length_map] <;> omega) | decide) only [go_sem, ↓reduceIte, Nat.reduceEqDiff, reduceCtorEq, Nat.reduceLT, Nat.reduceBEq, Nat.reduceAdd, Nat.reduceSub, Nat.reduceMul, Nat.reduceMod, Int.reduceMod, Int.reduceToNat, Int.reduceNeg, e11, h12, h14, h16, h17, h18, h22, h24, h25, low_lows, words_low, toks_low, validE_low, eq_self, decide_true, decide_false, not_true_eq_false, not_false_eq_true]
   refine hK9 _ ?_
   clear hK9 K9
   refine Tr.kp [9, 10, 11, 12] ?_
   simp only [pk_cons, pk_nil, ↓A_cons, ↓reduceIte, Nat.reduceEqDiff, reduceCtorEq]
   refine Tr.seqK fun K10 hK10 => ?_
   refine Tr.seqK fun K11 hK11 => ?_
   -- region 7 (law.go:250)
   refine Tr.rgD hcx hMO [] [some 36, some 37, some 38, some 39, some 40, some 41, some 42, some 43, some 44, some 45, some 46, some 47, some 48, some 49, some 50, some 51, some 52, some 53, some 54, some 55, some 56, some 57, some 58, some 59, some 60, some 61, some 62, some 63, some 64, some 65, some 66, some 67, some 68, some 69] [] rfl rfl rfl rfl ?_
   simp -implicitDefEqProofs (maxSteps := 2000000) (disch := first | omega | (simp only [go_sem, List.length_append, List.length_drop, List.length_take, hb1, List.length_map] <;> omega) | decide) only [go_sem, ↓reduceIte, Nat.reduceEqDiff, reduceCtorEq, Nat.reduceLT, Nat.reduceBEq, Nat.reduceAdd, Nat.reduceSub, Nat.reduceMul, Nat.reduceMod, Int.reduceMod, Int.reduceToNat, Int.reduceNeg, e11, h12, h14, h16, h17, h18, h22, h24, h25, low_lows, words_low, toks_low, validE_low, eq_self, decide_true, decide_false, not_true_eq_false, not_false_eq_true]
   with_reducible refine And.intro ?_ ?_
   · exact rfl
   refine hK11 _ ?_
   clear hK11 K11
   refine Tr.kp [9, 10, 12, 69] ?_
   simp only [pk_cons, pk_nil, ↓A_cons, ↓reduceIte, Nat.reduceEqDiff, reduceCtorEq]
   refine Tr.condG fun KT KF hT hF => ?_
   simp only [ev_tmp, ev_const, ↓A_cons, ↓reduceIte, Nat.reduceEqDiff, reduceCtorEq, condG_bool, GB_true, GB_false, decide_eq_true_eq]
   refine hF ?_
   clear hT hF KT KF
   refine Tr.skip ?_
   refine hK10 _ ?_
   clear hK10 K10
   refine Tr.kp [9, 10, 12] ?_
   simp only [pk_cons, pk_nil, ↓A_cons, ↓reduceIte, Nat.reduceEqDiff, reduceCtorEq]
   refine Tr.seqK fun K12 hK12 => ?_
   -- region 9 (law.go:253)
   refine Tr.rg hcx [] _ [] rfl rfl rfl ?_
   simp -implicitDefEqProofs (maxSteps := 2000000) (disch := first | omega | (simp only [go_sem, List.length_append, List.length_drop, List.length_take, hb1, List.length_map] <;> omega) | decide) only [go_sem, ↓reduceIte, Nat.reduceEqDiff, reduceCtorEq, Nat.reduceLT, Nat.reduceBEq, Nat.reduceAdd, Nat.reduceSub, Nat.reduceMul, Nat.reduceMod, Int.reduceMod, Int.reduceToNat, Int.reduceNeg, e11, h12, h14, h16, h17, h18, h22, h24, h25, low_lows, words_low, toks_low, validE_low, eq_self, decide_true, decide_false, not_true_eq_false, not_false_eq_true]
   refine hK12 _ ?_
   clear hK12 K12
   refine Tr.kp [9, 10, 12, 13] ?_
   simp only [pk_cons, pk_nil, ↓A_cons, ↓reduceIte, Nat.reduceEqDiff, reduceCtorEq]
   refine Tr.blk ?_
   refine Tr.loopI (α := Nat) (fun a => [(9, ?v9_90), (10, ?v10_90), (12, ?v12_90), (13, .val (nI a))]) (fun a => ?h_90) (fun a => a ≤ (wordsT (gt L i)).length) (fun a => (wordsT (gt L i)).length - a) (0) ?_ ?le_90 ?hh_90 ?bd_90
   case hh_90 => exact rfl
   case le_90 => (simp only [Le_nil, Le_cons, ↓A_cons, ↓reduceIte, Nat.reduceEqDiff, reduceCtorEq, CLe_refl, CLe_top, CLe_full, CLe_nil, CLe_own, and_true, true_and]; all_goals (repeat' first | exact CLe.refl _ | exact True.intro | (refine CLe_sln ?_; first | with_reducible rfl | (simp only [List.take_zero]; done) | (rfl; done)) | exact CLe_nI (by omega) | exact CLe_int (by omega) | exact CLe_inI (by omega) | exact CLe_nIi (by omega) | with_reducible apply And.intro))
   · omega
   case bd_90 =>
    rintro k hk
    refine Tr.seqK fun K13 hK13 => ?_
    refine Tr.seqK fun K14 hK14 => ?_
    -- region 10 (law.go:253)
    refine Tr.rg hcx [] _ [] rfl rfl rfl ?_
    simp -implicitDefEqProofs (maxSteps := 2000000) (disch := first | omega | (simp only [go_sem, List.length_append, List.length_drop, List.length_take, hb1, List.length_map] <;> omega) | decide) only [go_sem, ↓reduceIte, Nat.reduceEqDiff, reduceCtorEq, Nat.reduceLT, Nat.reduceBEq, Nat.reduceAdd, Nat.reduceSub, Nat.reduceMul, Nat.reduceMod, Int.reduceMod, Int.reduceToNat, Int.reduceNeg, e11, h12, h14, h16, h17, h18, h22, h24, h25, low_lows, words_low, toks_low, validE_low, eq_self, decide_true, decide_false, not_true_eq_false, not_false_eq_true]
    refine hK14 _ ?_
    clear hK14 K14
    refine Tr.kp [9, 10, 12, 13, 73] ?_
    simp only [pk_cons, pk_nil, ↓A_cons, ↓reduceIte, Nat.reduceEqDiff, reduceCtorEq]
    refine Tr.condG fun KT KF hT hF => ?_
    simp only [ev_tmp, ev_const, ↓A_cons, ↓reduceIte, Nat.reduceEqDiff, reduceCtorEq, condG_bool, GB_true, GB_false, decide_eq_true_eq]
    refine GB.dec (fun hc73 => hT ?_) (fun hc73 => hF ?_)
    ·
     clear hT hF KT KF
     have hb5 := words_le (gt L i) k hc73
     have hw := words_ok (gt L i) k hc73
     have hw0 : (gt (wordsT (gt L i)) k).length ≠ 0 := fun h => hw.1 (List.length_eq_zero_iff.1 h)
     refine Tr.skip ?_
     refine hK13 _ ?_
     clear hK13 K13
     refine Tr.kp [9, 10, 12, 13] ?_
     simp only [pk_cons, pk_nil, ↓A_cons, ↓reduceIte, Nat.reduceEqDiff, reduceCtorEq]
     refine Tr.seqK fun K15 hK15 => ?_
     refine Tr.blk ?_
     refine Tr.seqK fun K16 hK16 => ?_
     refine Tr.seqK fun K17 hK17 => ?_
     -- region 12 (law.go:254)
     refine Tr.rg hcx [] _ [] rfl rfl rfl ?_
     simp -implicitDefEqProofs (maxSteps := 2000000) (disch := first | omega | (simp only [go_sem, List.length_append, List.length_drop, List.length_take, hb1, List.length_map] <;> omega) | decide) only [go_sem, ↓reduceIte, Nat.reduceEqDiff, reduceCtorEq, Nat.reduceLT, Nat.reduceBEq, Nat.reduceAdd, Nat.reduceSub, Nat.reduceMul, Nat.reduceMod, Int.reduceMod, Int.reduceToNat, Int.reduceNeg, e11, h12, h14, h16, h17, h18, h22, h24, h25, low_lows, words_low, toks_low, validE_low, eq_self, decide_true, decide_false, not_true_eq_false, not_false_eq_true, hw0]
     refine hK17 _ ?_
     clear hK17 K17
     refine Tr.kp [9, 10, 12, 13, 81] ?_
     simp only [pk_cons, pk_nil, ↓A_cons, ↓reduceIte, Nat.reduceEqDiff, reduceCtorEq]
     refine Tr.condG fun KT KF hT hF => ?_
     simp only [ev_tmp, ev_const, ↓A_cons, ↓reduceIte, Nat.reduceEqDiff, reduceCtorEq, condG_bool, GB_true, GB_false, decide_eq_true_eq]
     refine hF ?_
     clear hT hF KT KF
     refine Tr.skip ?_
     refine hK16 _ ?_
     clear hK16 K16
     refine Tr.kp [9, 10, 12, 13] ?_
     simp only [pk_cons, pk_nil, ↓A_cons, ↓reduceIte, Nat.reduceEqDiff, reduceCtorEq]
     refine Tr.seqK fun K18 hK18 => ?_
     -- region 14 (law.go:257)
     refine Tr.rg hcx [] _ [] rfl rfl rfl ?_
     simp -implicitDefEqProofs (maxSteps := 2000000) (disch := first | omega | (simp only [go_sem, List.length_append, List.length_drop, List.length_take, hb1, List.length_map] <;> omega) | decide) only [go_sem, ↓reduceIte, Nat.reduceEqDiff, reduceCtorEq, Nat.reduceLT, Nat.reduceBEq, Nat.reduceAdd, Nat.reduceSub, Nat.reduceMul, Nat.reduceMod, Int.reduceMod, Int.reduceToNat, Int.reduceNeg, e11, h12, h14, h16, h17, h18, h22, h24, h25, low_lows, words_low, toks_low, validE_low, eq_self, decide_true, decide_false, not_true_eq_false, not_false_eq_true]
     refine hK18 _ ?_
     clear hK18 K18
     refine Tr.kp [9, 10, 12, 13, 14] ?_
     simp only [pk_cons, pk_nil, ↓A_cons, ↓reduceIte, Nat.reduceEqDiff, reduceCtorEq]
     refine Tr.blk ?_
     refine Tr.loopI (α := Nat) (fun a => [(9, ?v9_110), (10, ?v10_110), (12, ?v12_110), (13, ?v13_110), (14, .val (nI a))]) (fun a => ?h_110) (fun a => a ≤ (gt (wordsT (gt L i)) k).length) (fun a => (gt (wordsT (gt L i)) k).length - a) (0) ?_ ?le_110 ?hh_110 ?bd_110
     case hh_110 => exact rfl
     case le_110 => (simp only [Le_nil, Le_cons, ↓A_cons, ↓reduceIte, Nat.reduceEqDiff, reduceCtorEq, CLe_refl, CLe_top, CLe_full, CLe_nil, CLe_own, and_true, true_and]; all_goals (repeat' first | exact CLe.refl _ | exact True.intro | (refine CLe_sln ?_; first | with_reducible rfl | (simp only [List.take_zero]; done) | (rfl; done)) | exact CLe_nI (by omega) | exact CLe_int (by omega) | exact CLe_inI (by omega) | exact CLe_nIi (by omega) | with_reducible apply And.intro))
     · omega
     case bd_110 =>
      rintro j hj
      refine Tr.seqK fun K19 hK19 => ?_
      refine Tr.seqK fun K20 hK20 => ?_
      -- region 15 (law.go:257)
      refine Tr.rg hcx [] _ [] rfl rfl rfl ?_
      simp -implicitDefEqProofs (maxSteps := 2000000) (disch := first | omega | (simp only [go_sem, List.length_append, List.length_drop, List.length_take, hb1, List.length_map] <;> omega) | decide) only [go_sem, ↓reduceIte, Nat.reduceEqDiff, reduceCtorEq, Nat.reduceLT, Nat.reduceBEq, Nat.reduceAdd, Nat.reduceSub, Nat.reduceMul, Nat.reduceMod, Int.reduceMod, Int.reduceToNat, Int.reduceNeg, e11, h12, h14, h16, h17, h18, h22, h24, h25, low_lows, words_low, toks_low, validE_low, eq_self, decide_true, decide_false, not_true_eq_false, not_false_eq_true]
      refine hK20 _ ?_
      clear hK20 K20
      refine Tr.kp [9, 10, 12, 13, 14, 88] ?_
      simp only [pk_cons, pk_nil, ↓A_cons, ↓reduceIte, Nat.reduceEqDiff, reduceCtorEq]
      refine Tr.condG fun KT KF hT hF => ?_
      simp only [ev_tmp, ev_const, ↓A_cons, ↓reduceIte, Nat.reduceEqDiff, reduceCtorEq, condG_bool, GB_true, GB_false, decide_eq_true_eq]
      refine GB.dec (fun hc88 => hT ?_) (fun hc88 => hF ?_)
      ·
       clear hT hF KT KF
       have hw1 : (gt (gt (wordsT (gt L i)) k) j < UInt8.ofNat 97) = False := eq_false (by simpa using (hw.2 j hc88).1)
       have hw2 : (UInt8.ofNat 122 < gt (gt (wordsT (gt L i)) k) j) = False := eq_false (by simpa using (hw.2 j hc88).2)
       refine Tr.skip ?_
       refine hK19 _ ?_
       clear hK19 K19
       refine Tr.kp [9, 10, 12, 13, 14] ?_
       simp only [pk_cons, pk_nil, ↓A_cons, ↓reduceIte, Nat.reduceEqDiff, reduceCtorEq]
       refine Tr.seqK fun K21 hK21 => ?_
       refine Tr.blk ?_
       refine Tr.seqK fun K22 hK22 => ?_
       -- region 17 (law.go:258)
       refine Tr.rg hcx [] [some 91, some 92, some 93, some 94, some 95, some 96, some 97, some 98, some 99, some 100, some 101, some 102, some 103, some 104, some 105, some 106] [] rfl rfl rfl ?_
       simp -implicitDefEqProofs (maxSteps := 2000000) (disch := first | omega | (simp only [go_sem, List.length_append, List.length_drop, List.length_take, hb1, List.length_map] <;> omega) | decide) only [go_sem, ↓reduceIte, Nat.reduceEqDiff, reduceCtorEq, Nat.reduceLT, Nat.reduceBEq, Nat.reduceAdd, Nat.reduceSub, Nat.reduceMul, Nat.reduceMod, Int.reduceMod, Int.reduceToNat, Int.reduceNeg, e11, h12, h14, h16, h17, h18, h22, h24, h25, low_lows, words_low, toks_low, validE_low, eq_self, decide_true, decide_false, not_true_eq_false, not_false_eq_true, hw1, hw2]
       refine hK22 _ ?_
       clear hK22 K22
       refine Tr.kp [9, 10, 12, 13, 14, 106] ?_
       simp only [pk_cons, pk_nil, ↓A_cons, ↓reduceIte, Nat.reduceEqDiff, reduceCtorEq]
       refine Tr.condG fun KT KF hT hF => ?_
       simp only [ev_tmp, ev_const, ↓A_cons, ↓reduceIte, Nat.reduceEqDiff, reduceCtorEq, condG_bool, GB_true, GB_false, decide_eq_true_eq]
       refine hF ?_
       clear hT hF KT KF
       refine Tr.skip ?_
       refine hK21 _ ?_
       clear hK21 K21
       refine Tr.kp [9, 10, 12, 13, 14] ?_
       simp only [pk_cons, pk_nil, ↓A_cons, ↓reduceIte, Nat.reduceEqDiff, reduceCtorEq]
       -- region 16 (law.go:257)
       refine Tr.rg hcx [1000090] _ [] rfl rfl rfl ?_
       simp -implicitDefEqProofs (maxSteps := 2000000) (disch := first | omega | (simp only [go_sem, List.length_append, List.length_drop, List.length_take, hb1, List.length_map] <;> omega) | decide) only [go_sem, ↓reduceIte, Nat.reduceEqDiff, reduceCtorEq, Nat.reduceLT, Nat.reduceBEq, Nat.reduceAdd, Nat.reduceSub, Nat.reduceMul, Nat.reduceMod, Int.reduceMod, Int.reduceToNat, Int.reduceNeg, e11, h12, h14, h16, h17, h18, h22, h24, h25, low_lows, words_low, toks_low, validE_low, eq_self, decide_true, decide_false, not_true_eq_false, not_false_eq_true]
       refine ⟨j + 1, ⟨by omega, by first | omega | (simp only []; omega)⟩, ?_, rfl⟩
       (simp only [Le_nil, Le_cons, ↓A_cons, ↓reduceIte, Nat.reduceEqDiff, reduceCtorEq, CLe_refl, CLe_top, CLe_full, CLe_nil, CLe_own, and_true, true_and]; all_goals (repeat' first | exact CLe.refl _ | exact True.intro | (refine CLe_sln ?_; first | with_reducible rfl | (simp only [List.take_zero]; done) | (rfl; done)) | exact CLe_nI (by omega) | exact CLe_int (by omega) | exact CLe_inI (by omega) | exact CLe_nIi (by omega) | with_reducible apply And.intro))
      ·
       clear hT hF KT KF
       refine Tr.exit ?_
       refine hK15 _ ?_
       clear hK19 K19 hK15 K15
       refine Tr.kp [9, 10, 12, 13] ?_
       simp only [pk_cons, pk_nil, ↓A_cons, ↓reduceIte, Nat.reduceEqDiff, reduceCtorEq]
       -- region 11 (law.go:253)
       refine Tr.rg hcx [1000075] _ [] rfl rfl rfl ?_
       simp -implicitDefEqProofs (maxSteps := 2000000) (disch := first | omega | (simp only [go_sem, List.length_append, List.length_drop, List.length_take, hb1, List.length_map] <;> omega) | decide) only [go_sem, ↓reduceIte, Nat.reduceEqDiff, reduceCtorEq, Nat.reduceLT, Nat.reduceBEq, Nat.reduceAdd, Nat.reduceSub, Nat.reduceMul, Nat.reduceMod, Int.reduceMod, Int.reduceToNat, Int.reduceNeg, e11, h12, h14, h16, h17, h18, h22, h24, h25, low_lows, words_low, toks_low, validE_low, eq_self, decide_true, decide_false, not_true_eq_false, not_false_eq_true]
       refine ⟨k + 1, ⟨by omega, by first | omega | (simp only []; omega)⟩, ?_, rfl⟩
       (simp only [Le_nil, Le_cons, ↓A_cons, ↓reduceIte, Nat.reduceEqDiff, reduceCtorEq, CLe_refl, CLe_top, CLe_full, CLe_nil, CLe_own, and_true, true_and]; all_goals (repeat' first | exact CLe.refl _ | exact True.intro | (refine CLe_sln ?_; first | with_reducible rfl | (simp only [List.take_zero]; done) | (rfl; done)) | exact CLe_nI (by omega) | exact CLe_int (by omega) | exact CLe_inI (by omega) | exact CLe_nIi (by omega) | with_reducible apply And.intro))
    ·
     clear hT hF KT KF
     refine Tr.exit ?_
     refine hK7 _ ?_
     clear hK13 K13 hK7 K7
     refine Tr.kp [9, 10] ?_
     simp only [pk_cons, pk_nil, ↓A_cons, ↓reduceIte, Nat.reduceEqDiff, reduceCtorEq]
     -- region 4 (law.go:247)
     refine Tr.rg hcx [1000025] _ [] rfl rfl rfl ?_
     simp -implicitDefEqProofs (maxSteps := 2000000) (disch := first | omega | (simp only [go_sem, List.length_append, List.length_drop, List.length_take, hb1, List.length_map] <;> omega) | decide) only [go_sem, ↓reduceIte, Nat.reduceEqDiff, reduceCtorEq, Nat.reduceLT, Nat.reduceBEq, Nat.reduceAdd, Nat.reduceSub, Nat.reduceMul, Nat.reduceMod, Int.reduceMod, Int.reduceToNat, Int.reduceNeg, e11, h12, h14, h16, h17, h18, h22, h24, h25, low_lows, words_low, toks_low, validE_low, eq_self, decide_true, decide_false, not_true_eq_false, not_false_eq_true]
     refine ⟨i + 1, ⟨by omega, by first | omega | (simp only []; omega)⟩, ?_, rfl⟩
     (simp only [Le_nil, Le_cons, ↓A_cons, ↓reduceIte, Nat.reduceEqDiff, reduceCtorEq, CLe_refl, CLe_top, CLe_full, CLe_nil, CLe_own, and_true, true_and]; all_goals (repeat' first | exact CLe.refl _ | exact True.intro | (refine CLe_sln ?_; first | with_reducible rfl | (simp only [List.take_zero]; done) | (rfl; done)) | exact CLe_nI (by omega) | exact CLe_int (by omega) | exact CLe_inI (by omega) | exact CLe_nIi (by omega) | with_reducible apply And.intro))
  ·
   clear hT hF KT KF
   refine Tr.exit ?_
   refine hK3 _ ?_
   clear hK5 K5 hK3 K3
   refine Tr.kp [] ?_
   simp only [pk_cons, pk_nil, ↓A_cons, ↓reduceIte, Nat.reduceEqDiff, reduceCtorEq]
   refine Tr.seqK fun K23 hK23 => ?_
   -- region 19 (law.go:264)
   refine Tr.rg hcx [1000107] _ [] rfl rfl rfl ?_
   simp -implicitDefEqProofs (maxSteps := 2000000) (disch := first | omega | (simp only [go_sem, List.length_append, List.length_drop, List.length_take, hb1, List.length_map] <;> omega) | decide) only [go_sem, ↓reduceIte, Nat.reduceEqDiff, reduceCtorEq, Nat.reduceLT, Nat.reduceBEq, Nat.reduceAdd, Nat.reduceSub, Nat.reduceMul, Nat.reduceMod, Int.reduceMod, Int.reduceToNat, Int.reduceNeg, e11, h12, h14, h16, h17, h18, h22, h24, h25, low_lows, words_low, toks_low, validE_low, eq_self, decide_true, decide_false, not_true_eq_false, not_false_eq_true]
   refine hK23 _ ?_
   clear hK23 K23
   refine Tr.kp [8] ?_
   simp only [pk_cons, pk_nil, ↓A_cons, ↓reduceIte, Nat.reduceEqDiff, reduceCtorEq]
   refine Tr.ret ?_
   simp -implicitDefEqProofs (disch := first | omega | (simp only [go_sem, List.length_append, List.length_drop, List.length_take, hb1, List.length_map] <;> omega) | decide) only [go_sem, ↓reduceIte, Nat.reduceEqDiff, reduceCtorEq]
   all_goals (rfl)
end Go.Sx
namespace Go.Sx
open Go.RowKit Go.Proofs
instance : Inhabited (Int × Int) := ⟨(0, 0)⟩
/-- Pairs of whole numbers. -/
def pI (p : Int × Int) : List C := [.val (.int .i64 p.1), .val (.int .i64 p.2)]
instance : Cel pI 2 := ⟨fun _ => rfl, fun _ => rfl, by decide, fun _ _ => rfl⟩
instance : Fla pI := ⟨fun _ => rfl⟩
end Go.Sx
namespace Go.Sx
open Go.RowKit Go.Proofs
end Go.Sx
namespace Go.Sx
end Go.Sx
namespace Go.Sx
open Go.RowKit Go.Proofs
end Go.Sx
namespace Go.Sx
end Go.Sx
namespace Go.Sx
open Go.RowKit Go.Proofs
end Go.Sx
