/-
  Package breaks: the laws of Cost and Check. And what follows.
-/
import Derived.Test.YtljjjkmiegeocaaPaw
import Derived.Test.YtljjjkmiegeocaaPav
set_option linter.unusedSimpArgs false
set_option linter.unusedVariables false
namespace Go.Sx
open Go.RowKit Go.Proofs
end Go.Sx
namespace Go.Sx
open Go.RowKit Go.Proofs
abbrev Cr := List Int × List Int × List Int
def cC (t : Cr) : List C := [sl iC .no t.1, sl iC .no t.2.1, sl iC .no t.2.2]
instance : Cel cC 3 := ⟨fun _ => rfl, fun _ => rfl, by decide, fun _ _ => rfl⟩
end Go.Sx
namespace Go.Sx
/-- Which pair comes first. -/
def lx (a1 a2 b1 b2 : Int) : Prop := a1 < b1 ∨ a1 = b1 ∧ a2 < b2
theorem befI_T {a1 a2 b1 b2 : Int} : befI a1 a2 b1 b2 = true ↔ lx a1 a2 b1 b2 := by unfold befI lx; exact decide_eq_true_iff
theorem befI_F {a1 a2 b1 b2 : Int} : befI a1 a2 b1 b2 = false ↔ ¬ lx a1 a2 b1 b2 := by unfold befI lx; exact decide_eq_false_iff_not
/-- What a problem says of a division: which lines fit, and what they cost. -/
structure Prb where
  n : Nat
  fe : Nat → Nat → Prop
  pr : Nat → Nat → Int
/-- The numbers that say the best. -/
structure Opt (p : Prb) (L K : Nat → Int) (N : Nat → Nat) : Prop where
  endL : L p.n = 0
  endK : K p.n = 0
  inN : ∀ k, k < p.n → k < N k ∧ N k ≤ p.n ∧ p.fe k (N k)
  valL : ∀ k, k < p.n → L k = L (N k) + 1
  valK : ∀ k, k < p.n → K k = K (N k) + p.pr k (N k)
  min : ∀ k j, k < j → j ≤ p.n → p.fe k j → ¬ lx (L j + 1) (K j + p.pr k j) (L k) (K k)
  fst : ∀ k j, k < j → j < N k → k < p.n → p.fe k j → lx (L k) (K k) (L j + 1) (K j + p.pr k j)
/-- Divisions of the words from one on. -/
def Dv (p : Prb) : Nat → List Int → Prop
  | k, [] => k = p.n
  | k, x :: e => ∃ j : Nat, x = (j : Int) ∧ k < j ∧ j ≤ p.n ∧ p.fe k j ∧ Dv p j e
def sm (p : Prb) : Nat → List Int → Int
  | _, [] => 0
  | k, x :: e => p.pr k x.toNat + sm p x.toNat e
theorem sm_cons (p : Prb) (k j : Nat) (e : List Int) : sm p k ((j : Int) :: e) = p.pr k j + sm p j e := rfl
/-- Numbers that are lower bounds. -/
theorem low_le {p : Prb} {L K : Nat → Int} (h0 : L p.n = 0) (h1 : K p.n = 0) (h : ∀ k j, k < j → j ≤ p.n → p.fe k j → ¬ lx (L j + 1) (K j + p.pr k j) (L k) (K k)) : ∀ (e : List Int) (k : Nat), Dv p k e → ¬ lx (e.length : Int) (sm p k e) (L k) (K k)
  | [], k, hd => by
    have hd' : k = p.n := hd
    subst hd'
    rw [h0, h1]
    show ¬ lx (((0 : Nat) : Int)) 0 0 0
    unfold lx; omega
  | x :: e, k, hd => by
    obtain ⟨j, rfl, g1, g2, g3, g4⟩ := hd
    have ih := low_le h0 h1 h e j g4
    have hm := h k j g1 g2 g3
    rw [sm_cons, List.length_cons]
    unfold lx at *
    omega
/-- The best ends. -/
def chN (N : Nat → Nat) (n : Nat) : Nat → Nat → List Int
  | 0, _ => []
  | f + 1, k => if k < n then ((N k : Nat) : Int) :: chN N n f (N k) else []
section
variable {p : Prb} {L K : Nat → Int} {N : Nat → Nat} (O : Opt p L K N)
include O
theorem chN_ok : ∀ (f k : Nat), p.n - k ≤ f → k ≤ p.n → Dv p k (chN N p.n f k) ∧ ((chN N p.n f k).length : Int) = L k ∧ sm p k (chN N p.n f k) = K k
  | 0, k, h1, h2 => by
    have : k = p.n := by omega
    subst this
    exact ⟨rfl, O.endL.symm, O.endK.symm⟩
  | f + 1, k, h1, h2 => by
    unfold chN
    split
    · rename_i hk
      obtain ⟨g1, g2, g3⟩ := O.inN k hk
      obtain ⟨i1, i2, i3⟩ := chN_ok f (N k) (by omega) g2
      refine ⟨⟨N k, rfl, g1, g2, g3, i1⟩, ?_, ?_⟩
      · rw [List.length_cons, O.valL k hk, ← i2]; omega
      · rw [sm_cons, i3, O.valK k hk]; omega
    · have : k = p.n := by omega
      subst this
      exact ⟨rfl, O.endL.symm, O.endK.symm⟩
end
/-- Two problems of the same shape have the same best divisions. -/
theorem opt_same {p q : Prb} {L K L' K' : Nat → Int} {N N' : Nat → Nat} (O : Opt p L K N) (O' : Opt q L' K' N') (d : Nat) (z : Int) (hz : 0 < z) (hn : q.n + d = p.n)
    (hf : ∀ i j, i < j → j ≤ q.n → (q.fe i j ↔ p.fe (i + d) (j + d))) (hp : ∀ i j, i < j → j ≤ q.n → q.fe i j → q.pr i j = z * p.pr (i + d) (j + d)) :
    ∀ m i, i ≤ q.n → q.n - i ≤ m → L' i = L (i + d) ∧ K' i = z * K (i + d) ∧ (i < q.n → N' i + d = N (i + d))
  | 0, i, h1, h2 => by
    have : i = q.n := by omega
    subst this
    rw [hn, O.endL, O.endK, O'.endL, O'.endK, Int.mul_zero]
    exact ⟨rfl, rfl, fun h => absurd h (Nat.lt_irrefl _)⟩
  | m + 1, i, h1, h2 => by
    rcases Nat.lt_or_ge i q.n with hi | hi
    · have ih := opt_same O O' d z hz hn hf hp m
      obtain ⟨a1, a2, a3⟩ := O'.inN i hi
      obtain ⟨b1, b2, b3⟩ := O.inN (i + d) (by omega)
      obtain ⟨J, hJ⟩ : ∃ J, N (i + d) = J + d := ⟨N (i + d) - d, by omega⟩
      rw [hJ] at b1 b2 b3
      have fJ := (hf i J (by omega) (by omega)).2 b3
      have fN := (hf i (N' i) a1 a2).1 a3
      obtain ⟨c1, c2, _⟩ := ih (N' i) a2 (by omega)
      obtain ⟨d1, d2, _⟩ := ih J (by omega) (by omega)
      have vL' := O'.valL i hi
      have vK' := O'.valK i hi
      have vL := O.valL (i + d) (by omega)
      have vK := O.valK (i + d) (by omega)
      rw [hJ] at vL vK
      have pN := hp i (N' i) a1 a2 a3
      have pJ := hp i J (by omega) (by omega) fJ
      have m1 := O'.min i J (by omega) (by omega) fJ
      have m2 := O.min (i + d) (N' i + d) (by omega) (by omega) fN
      rw [vL', vK', c1, c2, d1, d2, pN, pJ, ← Int.mul_add, ← Int.mul_add] at m1
      rw [vL, vK] at m2
      unfold lx at m1 m2
      have hlL : L (N' i + d) = L (J + d) := by omega
      have hlK : K (N' i + d) + p.pr (i + d) (N' i + d) = K (J + d) + p.pr (i + d) (J + d) := by
        have h1 : ¬ z * (K (J + d) + p.pr (i + d) (J + d)) < z * (K (N' i + d) + p.pr (i + d) (N' i + d)) := fun h => m1 (.inr ⟨by omega, h⟩)
        have h2 : ¬ K (N' i + d) + p.pr (i + d) (N' i + d) < K (J + d) + p.pr (i + d) (J + d) := fun h => m2 (.inr ⟨by omega, h⟩)
        have h3 : ¬ (K (J + d) + p.pr (i + d) (J + d) < K (N' i + d) + p.pr (i + d) (N' i + d)) := fun h => h1 (Int.mul_lt_mul_of_pos_left h hz)
        omega
      have hNJ : N' i = J := by
        rcases Nat.lt_trichotomy (N' i) J with h | h | h
        · exfalso
          have := O.fst (i + d) (N' i + d) (by omega) (by omega) (by omega) fN
          rw [vL, vK] at this
          unfold lx at this; omega
        · exact h
        · exfalso
          have := O'.fst i J (by omega) h hi fJ
          rw [vL', vK', c1, c2, d1, d2, pN, pJ, ← Int.mul_add, ← Int.mul_add, hlK] at this
          unfold lx at this; omega
      refine ⟨by omega, ?_, fun _ => by omega⟩
      rw [vK', vK, c2, pN, ← Int.mul_add, hlK]
    · have : i = q.n := by omega
      subst this
      rw [hn, O.endL, O.endK, O'.endL, O'.endK, Int.mul_zero]
      exact ⟨rfl, rfl, fun h => absurd h (Nat.lt_irrefl _)⟩
/-- The ends, shifted. -/
theorem chN_shift {N N' : Nat → Nat} {n d : Nat} (h : ∀ i, i < n → N' i + d = N (i + d)) (hi : ∀ i, i < n → N' i ≤ n) : ∀ f k, chN N (n + d) f (k + d) = (chN N' n f k).map (· + (d : Int))
  | 0, k => rfl
  | f + 1, k => by
    unfold chN
    by_cases hk : k < n
    · rw [if_pos (by omega), if_pos hk, List.map_cons, ← h k hk, chN_shift h hi f (N' k)]
      congr 1
    · rw [if_neg (by omega), if_neg hk]; rfl
end Go.Sx
namespace Go.Sx
section
variable {l : List Int} {b w : Int}
theorem bst_congr {L K L' K' : List Int} {k : Nat} : ∀ m, (∀ j, k < j → j ≤ k + m → gt L j = gt L' j ∧ gt K j = gt K' j) → bst l b w L K k m = bst l b w L' K' k m
  | 0, _ => rfl
  | m + 1, h => by
    have ih := bst_congr m fun j h1 h2 => h j h1 (by omega)
    obtain ⟨e1, e2⟩ := h (k + 1 + m) (by omega) (by omega)
    unfold bst
    rw [ih, e1, e2]
theorem bst_min (L K : List Int) (k : Nat) : ∀ m, 0 < m → (∀ j, k < j → j ≤ k + m → ¬ lx (gt L j + 1) (gt K j + priR l b w (k : Int) (j : Int)) (bst l b w L K k m).1 (bst l b w L K k m).2.1) ∧
    (∀ j, k < j → j < (bst l b w L K k m).2.2 → lx (bst l b w L K k m).1 (bst l b w L K k m).2.1 (gt L j + 1) (gt K j + priR l b w (k : Int) (j : Int))) ∧
    (k < (bst l b w L K k m).2.2 ∧ (bst l b w L K k m).2.2 ≤ k + m) ∧ (bst l b w L K k m).1 = gt L (bst l b w L K k m).2.2 + 1 ∧ (bst l b w L K k m).2.1 = gt K (bst l b w L K k m).2.2 + priR l b w (k : Int) ((bst l b w L K k m).2.2 : Nat)
  | m + 1, _ => by
    by_cases h : m = 0 ∨ befI (gt L (k + 1 + m) + 1) (gt K (k + 1 + m) + priR l b w (k : Int) ((k + 1 + m : Nat) : Int)) (bst l b w L K k m).1 (bst l b w L K k m).2.1 = true
    · rw [bst_T h]
      refine ⟨fun j h1 h2 => ?_, fun j h1 h2 => ?_, ⟨by show k < k + 1 + m; omega, by show k + 1 + m ≤ k + (m + 1); omega⟩, rfl, rfl⟩
      · rcases Nat.lt_or_eq_of_le h2 with h3 | h3
        · rcases h with rfl | h
          · omega
          · have ih := (bst_min L K k m (by omega)).1 j h1 (by omega)
            rw [befI_T] at h
            unfold lx at *; simp only []; omega
        · rw [show j = k + 1 + m by omega]; unfold lx; simp only []; omega
      · have h2' : j < k + 1 + m := h2
        rcases h with rfl | h
        · omega
        · have ih := (bst_min L K k m (by omega)).1 j h1 (by omega)
          rw [befI_T] at h
          unfold lx at *; simp only []; omega
    · have h0 : ¬ m = 0 := fun h1 => h (.inl h1)
      have h1 : befI (gt L (k + 1 + m) + 1) (gt K (k + 1 + m) + priR l b w (k : Int) ((k + 1 + m : Nat) : Int)) (bst l b w L K k m).1 (bst l b w L K k m).2.1 = false := by
        cases hb : befI (gt L (k + 1 + m) + 1) (gt K (k + 1 + m) + priR l b w (k : Int) ((k + 1 + m : Nat) : Int)) (bst l b w L K k m).1 (bst l b w L K k m).2.1 with
        | false => rfl
        | true => exact absurd (.inr hb) h
      rw [bst_F h0 h1]
      obtain ⟨i1, i2, i3, i4, i5⟩ := bst_min L K k m (by omega)
      refine ⟨fun j g1 g2 => ?_, i2, ⟨i3.1, by omega⟩, i4, i5⟩
      rcases Nat.lt_or_eq_of_le g2 with g3 | g3
      · exact i1 j g1 (by omega)
      · rw [befI_F] at h1
        rw [show j = k + 1 + m by omega]; exact h1
/-- What has been found stays. -/
theorem dp_stay : ∀ c', c' ≤ l.length → ∀ c, c ≤ c' → ∀ j, l.length - c ≤ j → gt (dp l b w c').1 j = gt (dp l b w c).1 j ∧ gt (dp l b w c').2 j = gt (dp l b w c).2 j
  | 0, _, c, hc, j, _ => by
    have : c = 0 := by omega
    subst this; exact ⟨rfl, rfl⟩
  | c' + 1, hc', c, hc, j, hj => by
    rcases Nat.lt_or_eq_of_le hc with h | h
    · have ih := dp_stay c' (by omega) c (by omega) j hj
      have hl := dp_len l b w c'
      simp only [dp]
      rw [gt_set _ _ _ _ (by omega), gt_set _ _ _ _ (by omega), if_neg (by omega), if_neg (by omega)]
      exact ih
    · subst h; exact ⟨rfl, rfl⟩
def dL (l : List Int) (b w : Int) (k : Nat) : Int := gt (dp l b w l.length).1 k
def dK (l : List Int) (b w : Int) (k : Nat) : Int := gt (dp l b w l.length).2 k
theorem dp_at {k : Nat} (hk : k < l.length) : dL l b w k = (bst l b w (dp l b w l.length).1 (dp l b w l.length).2 k (fitS l b w k)).1 ∧ dK l b w k = (bst l b w (dp l b w l.length).1 (dp l b w l.length).2 k (fitS l b w k)).2.1 ∧
    nxt l b w k = (bst l b w (dp l b w l.length).1 (dp l b w l.length).2 k (fitS l b w k)).2.2 := by
  have hfit := fit_le l b w k
  have e : bst l b w (dp l b w (l.length - 1 - k)).1 (dp l b w (l.length - 1 - k)).2 k (fitS l b w k) = bst l b w (dp l b w l.length).1 (dp l b w l.length).2 k (fitS l b w k) :=
    bst_congr _ fun j h1 h2 => by
      have := dp_stay (l := l) (b := b) (w := w) l.length (Nat.le_refl _) (l.length - 1 - k) (by omega) j (by omega)
      exact ⟨this.1.symm, this.2.symm⟩
  have hs := dp_stay (l := l) (b := b) (w := w) l.length (Nat.le_refl _) (l.length - 1 - k + 1) (by omega) k (by omega)
  have hl := dp_len l b w (l.length - 1 - k)
  have ek : l.length - 1 - (l.length - 1 - k) = k := by omega
  refine ⟨?_, ?_, ?_⟩
  · show gt _ k = _
    rw [hs.1]
    simp only [dp]
    rw [ek, gt_set _ _ _ _ (by omega), if_pos rfl, e]
  · show gt _ k = _
    rw [hs.2]
    simp only [dp]
    rw [ek, gt_set _ _ _ _ (by omega), if_pos rfl, e]
  · unfold nxt bs
    rw [ek, e]
/-- The longer the line, the less is free. -/
theorem freR_mono (hF : Fine l b w) {i i' j' j : Nat} (h1 : i ≤ i') (h2 : i' < j') (h3 : j' ≤ j) (h4 : j ≤ l.length) : freR l b w (i : Int) (j : Int) ≤ freR l b w (i' : Int) (j' : Int) := by
  unfold freR
  rw [if_neg (by omega), if_neg (by omega)]
  have a1 := sumI_m hF i i' h1 (by omega)
  have a2 := sumI_m hF j' j h3 h4
  simp only [Int.toNat_natCast]
  omega
def prb (l : List Int) (b w : Int) : Prb := ⟨l.length, fun i j => 0 ≤ freR l b w (i : Int) (j : Int), fun i j => priR l b w (i : Int) (j : Int)⟩
theorem fit_iff (hF : Fine l b w) {k j : Nat} (hkj : k < j) (hj : j ≤ l.length) : 0 ≤ freR l b w (k : Int) (j : Int) ↔ j ≤ k + fitS l b w k := by
  constructor
  · intro h
    rcases Nat.lt_or_ge (k + fitS l b w k) j with hlt | hge
    · exfalso
      have hc := fit_le l b w k
      obtain ⟨c, hc'⟩ : ∃ c, fitS l b w k = c := ⟨_, rfl⟩
      -- up to j everything fits
      have : fitS l b w k = fitS l b w k ∧ j - k ≤ fitS l b w k := by
        refine ⟨rfl, ?_⟩
        unfold fitS
        obtain ⟨d, hd⟩ : ∃ d, l.length - k = (j - k) + d := ⟨l.length - j, by omega⟩
        rw [hd, List.range_add, List.takeWhile_append_of_pos (fun a ha => ?_)]
        · rw [List.length_append, List.length_range]; omega
        · rw [List.mem_range] at ha
          refine decide_eq_true ?_
          have := freR_mono hF (i := k) (i' := k) (j' := k + 1 + a) (j := j) (Nat.le_refl _) (by omega) (by omega) hj
          omega
      omega
    · exact hge
  · intro h
    obtain ⟨m, rfl⟩ : ∃ m, j = k + 1 + m := ⟨j - k - 1, by omega⟩
    have hm : m < fitS l b w k := by omega
    unfold fitS at hm
    have hmem := List.all_eq_true.1 List.all_takeWhile _ (List.getElem_mem hm)
    have hge : ((List.range (l.length - k)).takeWhile fun m => decide (0 ≤ freR l b w (k : Int) ((k + 1 + m : Nat) : Int)))[m] = m := by
      have hp := List.takeWhile_prefix (l := List.range (l.length - k)) fun m => decide (0 ≤ freR l b w (k : Int) ((k + 1 + m : Nat) : Int))
      have := hp.getElem hm
      rw [this, List.getElem_range]
    rw [hge] at hmem
    exact of_decide_eq_true hmem
theorem dp_opt (hF : Fine l b w) (hw : ∀ i, i < l.length → gt l i ≤ w) : Opt (prb l b w) (dL l b w) (dK l b w) (nxt l b w) := by
  have h0 := dp_stay (l := l) (b := b) (w := w) l.length (Nat.le_refl _) 0 (Nat.zero_le _) l.length (Nat.le_refl _)
  have hz : gt (List.replicate (l.length + 1) (0 : Int)) l.length = 0 := by simp [gt, List.getD, List.getElem?_replicate]
  have key : ∀ k, k < l.length → _ := fun k hk => bst_min (l := l) (b := b) (w := w) (dp l b w l.length).1 (dp l b w l.length).2 k (fitS l b w k) (fit_pos hk (hw k hk))
  have hfl := fun k => fit_le l b w k
  refine ⟨h0.1.trans hz, h0.2.trans hz, fun k hk => ?_, fun k hk => ?_, fun k hk => ?_, fun k j h1 h2 h3 => ?_, fun k j h1 h2 h3 h4 => ?_⟩
  · obtain ⟨e1, e2, e3⟩ := dp_at (b := b) (w := w) hk
    obtain ⟨_, _, g, _⟩ := key k hk
    have := hfl k
    rw [e3]
    have hk' : k < l.length := hk
    refine ⟨g.1, by show _ ≤ l.length; omega, (fit_iff hF g.1 (by omega)).2 g.2⟩
  · obtain ⟨e1, e2, e3⟩ := dp_at (b := b) (w := w) hk
    obtain ⟨_, _, _, g, _⟩ := key k hk
    rw [e1, e3, g]; rfl
  · obtain ⟨e1, e2, e3⟩ := dp_at (b := b) (w := w) hk
    obtain ⟨_, _, _, _, g⟩ := key k hk
    rw [e2, e3, g]; rfl
  · have hj : j ≤ l.length := h2
    have hk : k < l.length := by omega
    obtain ⟨e1, e2, e3⟩ := dp_at (b := b) (w := w) hk
    obtain ⟨g, _⟩ := key k hk
    rw [e1, e2]
    exact g j h1 ((fit_iff hF h1 hj).1 h3)
  · obtain ⟨e1, e2, e3⟩ := dp_at (b := b) (w := w) h3
    obtain ⟨_, g, _⟩ := key k h3
    rw [e3] at h2
    rw [e1, e2]
    exact g j h1 h2
theorem chn_N (l : List Int) (b w : Int) : ∀ f k, chn l b w f k = chN (nxt l b w) l.length f k
  | 0, k => rfl
  | f + 1, k => by
    unfold chn chN
    split
    · rw [chn_N l b w f]
    · rfl
end
/-! What a division costs, as a sum along its ends. -/
end Go.Sx
namespace Go.Sx
section
variable {l : List Int} {b w : Int}
theorem freR_monoI (hF : Fine l b w) {i i' j' j : Int} (h0 : 0 ≤ i) (h1 : i ≤ i') (h2 : i' < j') (h3 : j' ≤ j) (h4 : j ≤ l.length) : freR l b w i j ≤ freR l b w i' j' := by
  have := freR_mono hF (i := i.toNat) (i' := i'.toNat) (j' := j'.toNat) (j := j.toNat) (by omega) (by omega) (by omega) (by omega)
  rwa [Int.toNat_of_nonneg (by omega), Int.toNat_of_nonneg (by omega), Int.toNat_of_nonneg (by omega), Int.toNat_of_nonneg (by omega)] at this
theorem freR_w (hF : Fine l b w) {i j : Int} (h0 : 0 ≤ i) (h1 : i < j) (h4 : j ≤ l.length) : freR l b w i j ≤ w := by
  have h := freR_monoI hF (i' := i) (j' := i + 1) h0 (Int.le_refl _) (by omega) (by omega) h4
  rw [freR_0 l b w i h0] at h
  have := hF.2.2.2 i.toNat (by omega)
  omega
/-- How large the numbers are. -/
theorem opt_rng (hF : Fine l b w) (hw : ∀ i, i < l.length → gt l i ≤ w) : ∀ m k, k ≤ l.length → l.length - k ≤ m → 0 ≤ dL l b w k ∧ dL l b w k ≤ ((l.length - k : Nat) : Int) ∧ 0 ≤ dK l b w k ∧ dK l b w k ≤ 16777216 * ((l.length - k : Nat) : Int)
  | 0, k, h1, h2 => by
    have O := dp_opt hF hw
    have : k = l.length := by omega
    subst this
    have e1 : dL l b w l.length = 0 := O.endL
    have e2 : dK l b w l.length = 0 := O.endK
    rw [e1, e2]; omega
  | m + 1, k, h1, h2 => by
    have O := dp_opt hF hw
    rcases Nat.lt_or_ge k l.length with hk | hk
    · obtain ⟨a1, a2, a3⟩ := O.inN k hk
      have a2' : nxt l b w k ≤ l.length := a2
      have a3' : 0 ≤ freR l b w (k : Int) (nxt l b w k : Int) := a3
      have ih := opt_rng hF hw m (nxt l b w k) a2' (by omega)
      have v1 := O.valL k hk
      have v2 : dK l b w k = dK l b w (nxt l b w k) + priR l b w (k : Int) (nxt l b w k : Int) := O.valK k hk
      have hfw := freR_w hF (i := (k : Int)) (j := (nxt l b w k : Int)) (by omega) (by omega) (by omega)
      have hww := hF.2.2.1
      have hp : 0 ≤ priR l b w (k : Int) (nxt l b w k : Int) ∧ priR l b w (k : Int) (nxt l b w k : Int) ≤ 16777216 := by
        unfold priR
        split
        · omega
        · refine ⟨Int.mul_nonneg a3' a3', ?_⟩
          have := Int.mul_le_mul (show freR l b w (k : Int) (nxt l b w k : Int) ≤ 4096 by omega) (show freR l b w (k : Int) (nxt l b w k : Int) ≤ 4096 by omega) a3' (by decide)
          omega
      omega
    · have : k = l.length := by omega
      subst this
      have e1 : dL l b w l.length = 0 := O.endL
      have e2 : dK l b w l.length = 0 := O.endK
      rw [e1, e2]; omega
theorem endF_ok (hF : Fine l b w) (hw : ∀ i, i < l.length → gt l i ≤ w) : Dv (prb l b w) 0 (endF l b w) ∧ ((endF l b w).length : Int) = dL l b w 0 ∧ sm (prb l b w) 0 (endF l b w) = dK l b w 0 := by
  have := chN_ok (dp_opt hF hw) l.length 0 (Nat.le_refl _) (Nat.zero_le _)
  rw [show (prb l b w).n = l.length from rfl, ← chn_N] at this
  exact this
end
/-! The statement of the best. -/
/-! The rest. -/
theorem sumI_drop (l : List Int) (b : Int) (k : Nat) : ∀ i, sumI (l.drop k) b i = sumI l b (i + k) - sumI l b k
  | 0 => by simp [sumI]
  | i + 1 => by
    have ih := sumI_drop l b k i
    have e : gt (l.drop k) i = gt l (i + k) := by simp [gt, List.getD, Nat.add_comm]
    rw [show i + 1 + k = i + k + 1 by omega]
    show sumI (l.drop k) b i + gt (l.drop k) i + b = sumI l b (i + k) + gt l (i + k) + b - sumI l b k
    rw [ih, e]; omega
theorem freR_drop (l : List Int) (b w : Int) (k : Nat) {i j : Nat} : freR (l.drop k) b w (i : Int) (j : Int) = freR l b w ((i + k : Nat) : Int) ((j + k : Nat) : Int) := by
  unfold freR
  simp only [Int.toNat_natCast]
  rw [sumI_drop, sumI_drop]
  by_cases h : (j : Int) ≤ i
  · rw [if_pos h, if_pos (by omega)]
  · rw [if_neg h, if_neg (by omega)]; omega
theorem priR_drop (l : List Int) (b w : Int) {k : Nat} (hk : k ≤ l.length) {i j : Nat} : priR (l.drop k) b w (i : Int) (j : Int) = priR l b w ((i + k : Nat) : Int) ((j + k : Nat) : Int) := by
  unfold priR
  rw [freR_drop, List.length_drop]
  by_cases h : (j : Int) = ((l.length - k : Nat) : Int)
  · rw [if_pos h, if_pos (by omega)]
  · rw [if_neg h, if_neg (by omega)]
theorem fine_drop {l : List Int} {b w : Int} (h : Fine l b w) (k : Nat) : Fine (l.drop k) b w :=
  ⟨by rw [List.length_drop]; have := h.1; omega, h.2.1, h.2.2.1, fun i hi => by
    rw [List.length_drop] at hi
    have e : gt (l.drop k) i = gt l (i + k) := by simp [gt, List.getD, Nat.add_comm]
    rw [e]; exact h.2.2.2 (i + k) (by omega)⟩
theorem wide_drop {l : List Int} {w : Int} (h : wideW l w = false) (k : Nat) : wideW (l.drop k) w = false := wideW_F fun i hi => by
  rw [List.length_drop] at hi
  have e : gt (l.drop k) i = gt l (i + k) := by simp [gt, List.getD, Nat.add_comm]
  rw [e]; exact wideW_n h _ (by omega)
theorem endF_rest {l : List Int} {b w : Int} (hE : errE l b w = 0) (hW : wideW l w = false) (hn : 0 < l.length) : endF l b w = ((nxt l b w 0 : Nat) : Int) :: (endF (l.drop (nxt l b w 0)) b w).map (· + ((nxt l b w 0 : Nat) : Int)) ∧ 0 < nxt l b w 0 ∧ nxt l b w 0 ≤ l.length := by
  have hF := errE_0.1 hE
  have hw := fun i hi => wideW_n hW i hi
  have O := dp_opt hF hw
  obtain ⟨h1, h2, _⟩ := O.inN 0 hn
  have h2' : nxt l b w 0 ≤ l.length := h2
  generalize hkk : nxt l b w 0 = k at *
  have O' := dp_opt (fine_drop hF k) (fun i hi => wideW_n (wide_drop hW k) i hi)
  have hs := opt_same O O' k 1 (by decide) (by show (l.drop k).length + k = l.length; rw [List.length_drop]; omega)
    (fun i j _ _ => by show 0 ≤ freR _ _ _ _ _ ↔ 0 ≤ freR _ _ _ _ _; rw [freR_drop]) (fun i j _ _ _ => by show priR _ _ _ _ _ = 1 * priR _ _ _ _ _; rw [priR_drop l b w h2', Int.one_mul]) (l.drop k).length
  refine ⟨?_, h1, h2'⟩
  unfold endF
  rw [Nat.sub_zero, Nat.sub_zero]
  have hall : ∀ j, j < l.length → j < nxt l b w j := fun j hj => (O.inN j hj).1
  have hc := chn_S (b := b) (w := w) hall (k := 0) hn
  rw [Nat.sub_zero] at hc
  rw [hc, hkk, chn_N, chn_N]
  have hsh := chN_shift (N := nxt l b w) (N' := nxt (l.drop k) b w) (n := (l.drop k).length) (d := k) (fun i hi => (hs i (Nat.le_of_lt hi) (Nat.sub_le _ _)).2.2 hi) (fun i hi => (O'.inN i hi).2.1) (l.drop k).length 0
  rw [Nat.zero_add] at hsh
  rw [← hsh, List.length_drop, Nat.sub_add_cancel h2']
/-! Scaled. -/
theorem sumI_scale (l : List Int) (b t : Int) : ∀ i, i ≤ l.length → sumI (l.map (t * ·)) (t * b) i = t * sumI l b i
  | 0, _ => by simp [sumI]
  | i + 1, h => by
    have ih := sumI_scale l b t i (by omega)
    unfold sumI
    rw [ih, gt_map _ _ _ (by omega), Int.mul_add, Int.mul_add]
theorem freR_scale (l : List Int) (b w t : Int) {i j : Nat} (h : i < j) (hj : j ≤ l.length) : freR (l.map (t * ·)) (t * b) (t * w) (i : Int) (j : Int) = t * freR l b w (i : Int) (j : Int) := by
  unfold freR
  simp only [Int.toNat_natCast]
  rw [if_neg (by omega), if_neg (by omega), sumI_scale l b t j hj, sumI_scale l b t i (by omega), Int.mul_sub, Int.mul_sub, Int.mul_sub]
theorem scale_same {l : List Int} {b w t : Int} (ht : 0 < t) (hE : errE l b w = 0) (hW : wideW l w = false) (hE' : errE (l.map (t * ·)) (t * b) (t * w) = 0) (hW' : wideW (l.map (t * ·)) (t * w) = false) :
    endF (l.map (t * ·)) (t * b) (t * w) = endF l b w ∧ dK (l.map (t * ·)) (t * b) (t * w) 0 = t * t * dK l b w 0 := by
  have O := dp_opt (errE_0.1 hE) (fun i hi => wideW_n hW i hi)
  have O' := dp_opt (errE_0.1 hE') (fun i hi => wideW_n hW' i hi)
  have hl : (l.map (t * ·)).length = l.length := List.length_map _
  have hs := opt_same O O' 0 (t * t) (Int.mul_pos ht ht) (by show (l.map (t * ·)).length + 0 = l.length; rw [hl]; rfl)
    (fun i j h1 h2 => by
      show 0 ≤ freR _ _ _ _ _ ↔ 0 ≤ freR _ _ _ _ _
      have h2' : j ≤ l.length := by rw [← hl]; exact h2
      rw [freR_scale l b w t h1 h2', Nat.add_zero, Nat.add_zero]
      constructor
      · intro h
        rcases Int.lt_or_le (freR l b w (i : Int) (j : Int)) 0 with h3 | h3
        · have := Int.mul_neg_of_pos_of_neg ht h3; omega
        · exact h3
      · intro h; exact Int.mul_nonneg (by omega) h)
    (fun i j h1 h2 _ => by
      show priR _ _ _ _ _ = t * t * priR _ _ _ _ _
      have h2' : j ≤ l.length := by rw [← hl]; exact h2
      rw [Nat.add_zero, Nat.add_zero]
      unfold priR
      rw [freR_scale l b w t h1 h2', hl]
      split
      · rw [Int.mul_zero]
      · rw [Int.mul_assoc, Int.mul_assoc]
        congr 1
        rw [← Int.mul_assoc, ← Int.mul_assoc, Int.mul_comm (freR l b w ↑i ↑j) t]) (l.map (t * ·)).length
  refine ⟨?_, ?_⟩
  · unfold endF
    rw [hl, Nat.sub_zero, chn_N, chn_N]
    have hsh := chN_shift (N := nxt l b w) (N' := nxt (l.map (t * ·)) (t * b) (t * w)) (n := l.length) (d := 0) (fun i hi => (hs i (by show i ≤ (l.map (t * ·)).length; omega) (by show (l.map (t * ·)).length - i ≤ _; omega)).2.2 (by show i < (l.map (t * ·)).length; omega)) (fun i hi => by have := (O'.inN i (by show i < (l.map (t * ·)).length; omega)).2.1; rw [show (prb (l.map (t * ·)) (t * b) (t * w)).n = l.length from hl] at this; exact this) l.length 0
    rw [Nat.add_zero, Nat.add_zero] at hsh
    rw [hsh, hl]
    simp
  · have := (hs 0 (Nat.zero_le _) (Nat.sub_le _ _)).2.1
    exact this
/-! A wider page. -/
theorem Dv_wide {l : List Int} {b w w' : Int} (h : w ≤ w') : ∀ {e : List Int} {k : Nat}, Dv (prb l b w) k e → Dv (prb l b w') k e
  | [], k, hd => hd
  | x :: e, k, hd => by
    obtain ⟨j, rfl, h1, h2, h3, h4⟩ := hd
    refine ⟨j, rfl, h1, h2, ?_, Dv_wide h h4⟩
    have h3' : 0 ≤ freR l b w (k : Int) (j : Int) := h3
    show 0 ≤ freR l b w' (k : Int) (j : Int)
    unfold freR at h3' ⊢
    rw [if_neg (by omega)] at h3' ⊢
    omega
theorem wider_le {l : List Int} {b w w' : Int} (h : w ≤ w') (hE : errE l b w = 0) (hW : wideW l w = false) (hE' : errE l b w' = 0) (hW' : wideW l w' = false) : dL l b w' 0 ≤ dL l b w 0 := by
  have hF := errE_0.1 hE
  have hen := endF_ok hF (fun i hi => wideW_n hW i hi)
  have O' := dp_opt (errE_0.1 hE') (fun i hi => wideW_n hW' i hi)
  have := low_le O'.endL O'.endK O'.min _ 0 (Dv_wide h hen.1)
  rw [hen.2.1] at this
  unfold lx at this
  omega
end Go.Sx
namespace Go.Sx
open Go.RowKit Go.Proofs
end Go.Sx
namespace Go.Sx
theorem mul_b {T x m : Int} (hT : 1 ≤ T ∧ T ≤ 50) (hx : 0 ≤ x ∧ x ≤ m) : 0 ≤ T * x ∧ T * x ≤ 50 * m :=
  ⟨Int.mul_nonneg (by omega) hx.1, Int.mul_le_mul hT.2 hx.2 hx.1 (by decide)⟩
theorem scale_fine {l : List Int} {b w T : Int} (hT : 1 ≤ T ∧ T ≤ 50) (hE : errE l b w = 0) (hW : wideW l w = false) (hb : b ≤ 40) (hw : w ≤ 40) : errE (l.map (T * ·)) (T * b) (T * w) = 0 ∧ wideW (l.map (T * ·)) (T * w) = false := by
  have hF := errE_0.1 hE
  have h1 := mul_b hT ⟨hF.2.1.1, hb⟩
  have h2 := mul_b hT ⟨hF.2.2.1.1, hw⟩
  have hg : ∀ i, i < l.length → 0 ≤ gt (l.map (T * ·)) i ∧ gt (l.map (T * ·)) i ≤ T * w := fun i hi => by
    rw [gt_map _ _ _ hi]
    have h3 := hF.2.2.2 i hi
    have h4 := wideW_n hW i hi
    exact ⟨Int.mul_nonneg (by omega) h3.1, Int.mul_le_mul_of_nonneg_left h4 (by omega)⟩
  refine ⟨errE_0.2 ⟨by rw [List.length_map]; exact hF.1, ⟨h1.1, by omega⟩, ⟨h2.1, by omega⟩, fun i hi => ?_⟩, wideW_F fun i hi => ?_⟩
  · rw [List.length_map] at hi
    have := hg i hi; omega
  · rw [List.length_map] at hi
    exact (hg i hi).2
theorem wider_fine {l : List Int} {b w : Int} {d : Nat} (hd : d < 40) (hE : errE l b w = 0) (hW : wideW l w = false) (hw : w ≤ 40) : errE l b (w + (d : Int)) = 0 ∧ wideW l (w + (d : Int)) = false := by
  have hF := errE_0.1 hE
  refine ⟨errE_0.2 ⟨hF.1, hF.2.1, ⟨by have := hF.2.2.1; omega, by omega⟩, hF.2.2.2⟩, wideW_F fun i hi => ?_⟩
  have := wideW_n hW i hi; omega
theorem drop_fine {l : List Int} {b w : Int} (k : Nat) (hE : errE l b w = 0) (hW : wideW l w = false) : errE (l.drop k) b w = 0 ∧ wideW (l.drop k) w = false :=
  ⟨errE_0.2 (fine_drop (errE_0.1 hE) k), wide_drop hW k⟩
theorem map_gt_add (l : List Int) (k : Int) (i : Nat) (hi : i < l.length) (x : Int) : gt (x :: l.map (· + k)) (i + 1) = gt l i + k := by
  rw [gt_consS, gt_map _ _ _ hi]
theorem big_S (l : List Int) (T : Int) (i : Nat) (hi : i < l.length) : (l.map (T * ·)).take (i + 1) = (l.map (T * ·)).take i ++ [T * gt l i] := by
  rw [take_snoc _ _ (by rw [List.length_map]; exact hi), gt_map _ _ _ hi]
theorem dK_b {l : List Int} {b w : Int} (hE : errE l b w = 0) (hW : wideW l w = false) : 0 ≤ dK l b w 0 ∧ dK l b w 0 ≤ 4294967296 := by
  have hF := errE_0.1 hE
  have := opt_rng hF (fun i hi => wideW_n hW i hi) l.length 0 (Nat.zero_le _) (Nat.sub_le _ _)
  have := hF.1
  omega
theorem tt_b {T : Nat} (h : T ≤ 50) : T * T ≤ 2500 := Nat.mul_le_mul h h
theorem prod_b {z x : Int} (hz : 0 ≤ z ∧ z ≤ 2500) (hx : 0 ≤ x ∧ x ≤ 4294967296) : 0 ≤ z * x ∧ z * x ≤ 2500 * 4294967296 :=
  ⟨Int.mul_nonneg hz.1 hx.1, Int.mul_le_mul hz.2 hx.2 hx.1 (by decide)⟩
end Go.Sx
