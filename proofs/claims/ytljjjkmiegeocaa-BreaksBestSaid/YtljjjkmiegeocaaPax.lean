/-
  Package breaks: the laws of Cost and Check. And what follows.
-/
import Derived.Test.YtljjjkmiegeocaaPaw
import Derived.Test.YtljjjkmiegeocaaPav
set_option linter.unusedSimpArgs false
set_option linter.unusedVariables false
namespace Go.Sx
open Go.RowKit Go.Proofs
theorem LN_set {l : List Int} {n : Nat} (h : LN l n) (i : Nat) (x : Int) : LN (l.set i (wr x)) n := ⟨by rw [List.length_set]; exact h.1, fun y hy => by
  rcases List.mem_or_eq_of_mem_set hy with hy | rfl
  · exact h.2 y hy
  · exact wr_b x⟩
theorem benD_b (p : Int) : -3 ≤ benD p ∧ benD p ≤ 3 := by
  have := around_lt (p.tdiv 16) (m := 7) (by decide)
  unfold benD; omega
theorem LN_snoc {l : List Int} {n : Nat} (h : LN l n) (p : Int) : LN (l ++ [benD p]) (n + 1) := ⟨by rw [List.length_append, List.length_singleton]; have := h.1; omega, fun y hy => by
  rw [List.mem_append, List.mem_singleton] at hy
  rcases hy with hy | rfl
  · exact h.2 y hy
  · have := benD_b p; omega⟩
theorem LN.up {l : List Int} {n m : Nat} (h : LN l n) (hm : n ≤ m) : LN l m := ⟨Nat.le_trans h.1 hm, h.2⟩
theorem bent_ok {E L K : List Int} {n : Nat} (hE : LN E n) (hL : LN L n) (hK : LN K n) (h p : Int) : LN (bentT E L K h p).1 (n + 1) ∧ LN (bentT E L K h p).2.1 (n + 1) ∧ LN (bentT E L K h p).2.2 (n + 1) := by
  have up : ∀ {l : List Int}, LN l n → LN l (n + 1) := fun h => h.up (Nat.le_succ n)
  unfold bentT
  repeat' split
  all_goals refine ⟨?_, ?_, ?_⟩
  all_goals simp only []
  all_goals first
    | exact up ‹_›
    | exact up (LN_set ‹_› _ _)
    | exact LN_snoc ‹_› _
    | (split
       · exact up (LN_set ‹_› _ _)
       · exact up ‹_›)
    | skip
  · refine ⟨?_, fun y hy => ?_⟩
    · have := hE.1
      rw [List.length_append, List.length_take, List.length_drop]; omega
    · rw [List.mem_append] at hy
      rcases hy with hy | hy
      · exact hE.2 y (List.mem_of_mem_take hy)
      · exact hE.2 y (List.mem_of_mem_drop hy)
  · exact ⟨by have := hK.1; rw [List.length_drop]; omega, fun y hy => hK.2 y (List.mem_of_mem_drop hy)⟩
end Go.Sx
namespace Go.Sx
open Go.RowKit Go.Proofs
abbrev Cr := List Int × List Int × List Int
def cC (t : Cr) : List C := [sl iC .no t.1, sl iC .no t.2.1, sl iC .no t.2.2]
instance : Cel cC 3 := ⟨fun _ => rfl, fun _ => rfl, by decide, fun _ _ => rfl⟩
end Go.Sx
namespace Go.Sx
/-- Which pair comes first. -/
def lx (a1 a2 b1 b2 : Int) : Prop := a1 < b1 ∨ a1 = b1 ∧ a2 < b2
theorem befI_T {a1 a2 b1 b2 : Int} : befI a1 a2 b1 b2 = true ↔ lx a1 a2 b1 b2 := by unfold befI lx; exact decide_eq_true_iff
theorem befI_F {a1 a2 b1 b2 : Int} : befI a1 a2 b1 b2 = false ↔ ¬ lx a1 a2 b1 b2 := by unfold befI lx; exact decide_eq_false_iff_not
/-- What a problem says of a division: which lines fit, and what they cost. -/
structure Prb where
  n : Nat
  fe : Nat → Nat → Prop
  pr : Nat → Nat → Int
/-- The numbers that say the best. -/
structure Opt (p : Prb) (L K : Nat → Int) (N : Nat → Nat) : Prop where
  endL : L p.n = 0
  endK : K p.n = 0
  inN : ∀ k, k < p.n → k < N k ∧ N k ≤ p.n ∧ p.fe k (N k)
  valL : ∀ k, k < p.n → L k = L (N k) + 1
  valK : ∀ k, k < p.n → K k = K (N k) + p.pr k (N k)
  min : ∀ k j, k < j → j ≤ p.n → p.fe k j → ¬ lx (L j + 1) (K j + p.pr k j) (L k) (K k)
  fst : ∀ k j, k < j → j < N k → k < p.n → p.fe k j → lx (L k) (K k) (L j + 1) (K j + p.pr k j)
/-- Divisions of the words from one on. -/
def Dv (p : Prb) : Nat → List Int → Prop
  | k, [] => k = p.n
  | k, x :: e => ∃ j : Nat, x = (j : Int) ∧ k < j ∧ j ≤ p.n ∧ p.fe k j ∧ Dv p j e
def sm (p : Prb) : Nat → List Int → Int
  | _, [] => 0
  | k, x :: e => p.pr k x.toNat + sm p x.toNat e
theorem sm_cons (p : Prb) (k j : Nat) (e : List Int) : sm p k ((j : Int) :: e) = p.pr k j + sm p j e := rfl
/-- Numbers that are lower bounds. -/
theorem low_le {p : Prb} {L K : Nat → Int} (h0 : L p.n = 0) (h1 : K p.n = 0) (h : ∀ k j, k < j → j ≤ p.n → p.fe k j → ¬ lx (L j + 1) (K j + p.pr k j) (L k) (K k)) : ∀ (e : List Int) (k : Nat), Dv p k e → ¬ lx (e.length : Int) (sm p k e) (L k) (K k)
  | [], k, hd => by
    have hd' : k = p.n := hd
    subst hd'
    rw [h0, h1]
    show ¬ lx (((0 : Nat) : Int)) 0 0 0
    unfold lx; omega
  | x :: e, k, hd => by
    obtain ⟨j, rfl, g1, g2, g3, g4⟩ := hd
    have ih := low_le h0 h1 h e j g4
    have hm := h k j g1 g2 g3
    rw [sm_cons, List.length_cons]
    unfold lx at *
    omega
/-- The best ends. -/
def chN (N : Nat → Nat) (n : Nat) : Nat → Nat → List Int
  | 0, _ => []
  | f + 1, k => if k < n then ((N k : Nat) : Int) :: chN N n f (N k) else []
section
variable {p : Prb} {L K : Nat → Int} {N : Nat → Nat} (O : Opt p L K N)
include O
theorem chN_ok : ∀ (f k : Nat), p.n - k ≤ f → k ≤ p.n → Dv p k (chN N p.n f k) ∧ ((chN N p.n f k).length : Int) = L k ∧ sm p k (chN N p.n f k) = K k
  | 0, k, h1, h2 => by
    have : k = p.n := by omega
    subst this
    exact ⟨rfl, O.endL.symm, O.endK.symm⟩
  | f + 1, k, h1, h2 => by
    unfold chN
    split
    · rename_i hk
      obtain ⟨g1, g2, g3⟩ := O.inN k hk
      obtain ⟨i1, i2, i3⟩ := chN_ok f (N k) (by omega) g2
      refine ⟨⟨N k, rfl, g1, g2, g3, i1⟩, ?_, ?_⟩
      · rw [List.length_cons, O.valL k hk, ← i2]; omega
      · rw [sm_cons, i3, O.valK k hk]; omega
    · have : k = p.n := by omega
      subst this
      exact ⟨rfl, O.endL.symm, O.endK.symm⟩
/-- Nothing is as good with lesser ends. -/
theorem chN_least : ∀ (e : List Int) (f k : Nat), p.n - k ≤ f → Dv p k e → (e.length : Int) = L k → sm p k e = K k → smaL e (chN N p.n f k) = false
  | [], f, k, hf, hd, _, _ => by
    have hd' : k = p.n := hd
    subst hd'
    cases f with
    | zero => rfl
    | succ f => unfold chN; rw [if_neg (Nat.lt_irrefl _)]; rfl
  | x :: e, f, k, hf, hd, hl, hs => by
    obtain ⟨j, rfl, g1, g2, g3, g4⟩ := hd
    cases f with
    | zero => omega
    | succ f =>
      have hk : k < p.n := by omega
      unfold chN
      rw [if_pos hk]
      have hlow := low_le O.endL O.endK O.min e j g4
      rw [sm_cons] at hs
      rw [List.length_cons] at hl
      have hm := O.min k j g1 g2 g3
      have hge : N k ≤ j := by
        rcases Nat.lt_or_ge j (N k) with h | h
        · exfalso
          have := O.fst k j g1 h hk g3
          unfold lx at *
          omega
        · exact h
      unfold smaL
      split
      · rename_i he
        have he' : j = N k := by omega
        subst he'
        refine chN_least e f (N k) (by omega) g4 ?_ ?_
        · have := O.valL k hk; omega
        · have := O.valK k hk; omega
      · exact decide_eq_false (by omega)
end
end Go.Sx
namespace Go.Sx
section
variable {l : List Int} {b w : Int}
theorem bst_congr {L K L' K' : List Int} {k : Nat} : ∀ m, (∀ j, k < j → j ≤ k + m → gt L j = gt L' j ∧ gt K j = gt K' j) → bst l b w L K k m = bst l b w L' K' k m
  | 0, _ => rfl
  | m + 1, h => by
    have ih := bst_congr m fun j h1 h2 => h j h1 (by omega)
    obtain ⟨e1, e2⟩ := h (k + 1 + m) (by omega) (by omega)
    unfold bst
    rw [ih, e1, e2]
theorem bst_min (L K : List Int) (k : Nat) : ∀ m, 0 < m → (∀ j, k < j → j ≤ k + m → ¬ lx (gt L j + 1) (gt K j + priR l b w (k : Int) (j : Int)) (bst l b w L K k m).1 (bst l b w L K k m).2.1) ∧
    (∀ j, k < j → j < (bst l b w L K k m).2.2 → lx (bst l b w L K k m).1 (bst l b w L K k m).2.1 (gt L j + 1) (gt K j + priR l b w (k : Int) (j : Int))) ∧
    (k < (bst l b w L K k m).2.2 ∧ (bst l b w L K k m).2.2 ≤ k + m) ∧ (bst l b w L K k m).1 = gt L (bst l b w L K k m).2.2 + 1 ∧ (bst l b w L K k m).2.1 = gt K (bst l b w L K k m).2.2 + priR l b w (k : Int) ((bst l b w L K k m).2.2 : Nat)
  | m + 1, _ => by
    by_cases h : m = 0 ∨ befI (gt L (k + 1 + m) + 1) (gt K (k + 1 + m) + priR l b w (k : Int) ((k + 1 + m : Nat) : Int)) (bst l b w L K k m).1 (bst l b w L K k m).2.1 = true
    · rw [bst_T h]
      refine ⟨fun j h1 h2 => ?_, fun j h1 h2 => ?_, ⟨by show k < k + 1 + m; omega, by show k + 1 + m ≤ k + (m + 1); omega⟩, rfl, rfl⟩
      · rcases Nat.lt_or_eq_of_le h2 with h3 | h3
        · rcases h with rfl | h
          · omega
          · have ih := (bst_min L K k m (by omega)).1 j h1 (by omega)
            rw [befI_T] at h
            unfold lx at *; simp only []; omega
        · rw [show j = k + 1 + m by omega]; unfold lx; simp only []; omega
      · have h2' : j < k + 1 + m := h2
        rcases h with rfl | h
        · omega
        · have ih := (bst_min L K k m (by omega)).1 j h1 (by omega)
          rw [befI_T] at h
          unfold lx at *; simp only []; omega
    · have h0 : ¬ m = 0 := fun h1 => h (.inl h1)
      have h1 : befI (gt L (k + 1 + m) + 1) (gt K (k + 1 + m) + priR l b w (k : Int) ((k + 1 + m : Nat) : Int)) (bst l b w L K k m).1 (bst l b w L K k m).2.1 = false := by
        cases hb : befI (gt L (k + 1 + m) + 1) (gt K (k + 1 + m) + priR l b w (k : Int) ((k + 1 + m : Nat) : Int)) (bst l b w L K k m).1 (bst l b w L K k m).2.1 with
        | false => rfl
        | true => exact absurd (.inr hb) h
      rw [bst_F h0 h1]
      obtain ⟨i1, i2, i3, i4, i5⟩ := bst_min L K k m (by omega)
      refine ⟨fun j g1 g2 => ?_, i2, ⟨i3.1, by omega⟩, i4, i5⟩
      rcases Nat.lt_or_eq_of_le g2 with g3 | g3
      · exact i1 j g1 (by omega)
      · rw [befI_F] at h1
        rw [show j = k + 1 + m by omega]; exact h1
/-- What has been found stays. -/
theorem dp_stay : ∀ c', c' ≤ l.length → ∀ c, c ≤ c' → ∀ j, l.length - c ≤ j → gt (dp l b w c').1 j = gt (dp l b w c).1 j ∧ gt (dp l b w c').2 j = gt (dp l b w c).2 j
  | 0, _, c, hc, j, _ => by
    have : c = 0 := by omega
    subst this; exact ⟨rfl, rfl⟩
  | c' + 1, hc', c, hc, j, hj => by
    rcases Nat.lt_or_eq_of_le hc with h | h
    · have ih := dp_stay c' (by omega) c (by omega) j hj
      have hl := dp_len l b w c'
      simp only [dp]
      rw [gt_set _ _ _ _ (by omega), gt_set _ _ _ _ (by omega), if_neg (by omega), if_neg (by omega)]
      exact ih
    · subst h; exact ⟨rfl, rfl⟩
def dL (l : List Int) (b w : Int) (k : Nat) : Int := gt (dp l b w l.length).1 k
def dK (l : List Int) (b w : Int) (k : Nat) : Int := gt (dp l b w l.length).2 k
theorem dp_at {k : Nat} (hk : k < l.length) : dL l b w k = (bst l b w (dp l b w l.length).1 (dp l b w l.length).2 k (fitS l b w k)).1 ∧ dK l b w k = (bst l b w (dp l b w l.length).1 (dp l b w l.length).2 k (fitS l b w k)).2.1 ∧
    nxt l b w k = (bst l b w (dp l b w l.length).1 (dp l b w l.length).2 k (fitS l b w k)).2.2 := by
  have hfit := fit_le l b w k
  have e : bst l b w (dp l b w (l.length - 1 - k)).1 (dp l b w (l.length - 1 - k)).2 k (fitS l b w k) = bst l b w (dp l b w l.length).1 (dp l b w l.length).2 k (fitS l b w k) :=
    bst_congr _ fun j h1 h2 => by
      have := dp_stay (l := l) (b := b) (w := w) l.length (Nat.le_refl _) (l.length - 1 - k) (by omega) j (by omega)
      exact ⟨this.1.symm, this.2.symm⟩
  have hs := dp_stay (l := l) (b := b) (w := w) l.length (Nat.le_refl _) (l.length - 1 - k + 1) (by omega) k (by omega)
  have hl := dp_len l b w (l.length - 1 - k)
  have ek : l.length - 1 - (l.length - 1 - k) = k := by omega
  refine ⟨?_, ?_, ?_⟩
  · show gt _ k = _
    rw [hs.1]
    simp only [dp]
    rw [ek, gt_set _ _ _ _ (by omega), if_pos rfl, e]
  · show gt _ k = _
    rw [hs.2]
    simp only [dp]
    rw [ek, gt_set _ _ _ _ (by omega), if_pos rfl, e]
  · unfold nxt bs
    rw [ek, e]
/-- The longer the line, the less is free. -/
theorem freR_mono (hF : Fine l b w) {i i' j' j : Nat} (h1 : i ≤ i') (h2 : i' < j') (h3 : j' ≤ j) (h4 : j ≤ l.length) : freR l b w (i : Int) (j : Int) ≤ freR l b w (i' : Int) (j' : Int) := by
  unfold freR
  rw [if_neg (by omega), if_neg (by omega)]
  have a1 := sumI_m hF i i' h1 (by omega)
  have a2 := sumI_m hF j' j h3 h4
  simp only [Int.toNat_natCast]
  omega
def prb (l : List Int) (b w : Int) : Prb := ⟨l.length, fun i j => 0 ≤ freR l b w (i : Int) (j : Int), fun i j => priR l b w (i : Int) (j : Int)⟩
theorem fit_iff (hF : Fine l b w) {k j : Nat} (hkj : k < j) (hj : j ≤ l.length) : 0 ≤ freR l b w (k : Int) (j : Int) ↔ j ≤ k + fitS l b w k := by
  constructor
  · intro h
    rcases Nat.lt_or_ge (k + fitS l b w k) j with hlt | hge
    · exfalso
      have hc := fit_le l b w k
      obtain ⟨c, hc'⟩ : ∃ c, fitS l b w k = c := ⟨_, rfl⟩
      -- up to j everything fits
      have : fitS l b w k = fitS l b w k ∧ j - k ≤ fitS l b w k := by
        refine ⟨rfl, ?_⟩
        unfold fitS
        obtain ⟨d, hd⟩ : ∃ d, l.length - k = (j - k) + d := ⟨l.length - j, by omega⟩
        rw [hd, List.range_add, List.takeWhile_append_of_pos (fun a ha => ?_)]
        · rw [List.length_append, List.length_range]; omega
        · rw [List.mem_range] at ha
          refine decide_eq_true ?_
          have := freR_mono hF (i := k) (i' := k) (j' := k + 1 + a) (j := j) (Nat.le_refl _) (by omega) (by omega) hj
          omega
      omega
    · exact hge
  · intro h
    obtain ⟨m, rfl⟩ : ∃ m, j = k + 1 + m := ⟨j - k - 1, by omega⟩
    have hm : m < fitS l b w k := by omega
    unfold fitS at hm
    have hmem := List.all_eq_true.1 List.all_takeWhile _ (List.getElem_mem hm)
    have hge : ((List.range (l.length - k)).takeWhile fun m => decide (0 ≤ freR l b w (k : Int) ((k + 1 + m : Nat) : Int)))[m] = m := by
      have hp := List.takeWhile_prefix (l := List.range (l.length - k)) fun m => decide (0 ≤ freR l b w (k : Int) ((k + 1 + m : Nat) : Int))
      have := hp.getElem hm
      rw [this, List.getElem_range]
    rw [hge] at hmem
    exact of_decide_eq_true hmem
theorem dp_opt (hF : Fine l b w) (hw : ∀ i, i < l.length → gt l i ≤ w) : Opt (prb l b w) (dL l b w) (dK l b w) (nxt l b w) := by
  have h0 := dp_stay (l := l) (b := b) (w := w) l.length (Nat.le_refl _) 0 (Nat.zero_le _) l.length (Nat.le_refl _)
  have hz : gt (List.replicate (l.length + 1) (0 : Int)) l.length = 0 := by simp [gt, List.getD, List.getElem?_replicate]
  have key : ∀ k, k < l.length → _ := fun k hk => bst_min (l := l) (b := b) (w := w) (dp l b w l.length).1 (dp l b w l.length).2 k (fitS l b w k) (fit_pos hk (hw k hk))
  have hfl := fun k => fit_le l b w k
  refine ⟨h0.1.trans hz, h0.2.trans hz, fun k hk => ?_, fun k hk => ?_, fun k hk => ?_, fun k j h1 h2 h3 => ?_, fun k j h1 h2 h3 h4 => ?_⟩
  · obtain ⟨e1, e2, e3⟩ := dp_at (b := b) (w := w) hk
    obtain ⟨_, _, g, _⟩ := key k hk
    have := hfl k
    rw [e3]
    have hk' : k < l.length := hk
    refine ⟨g.1, by show _ ≤ l.length; omega, (fit_iff hF g.1 (by omega)).2 g.2⟩
  · obtain ⟨e1, e2, e3⟩ := dp_at (b := b) (w := w) hk
    obtain ⟨_, _, _, g, _⟩ := key k hk
    rw [e1, e3, g]; rfl
  · obtain ⟨e1, e2, e3⟩ := dp_at (b := b) (w := w) hk
    obtain ⟨_, _, _, _, g⟩ := key k hk
    rw [e2, e3, g]; rfl
  · have hj : j ≤ l.length := h2
    have hk : k < l.length := by omega
    obtain ⟨e1, e2, e3⟩ := dp_at (b := b) (w := w) hk
    obtain ⟨g, _⟩ := key k hk
    rw [e1, e2]
    exact g j h1 ((fit_iff hF h1 hj).1 h3)
  · obtain ⟨e1, e2, e3⟩ := dp_at (b := b) (w := w) h3
    obtain ⟨_, g, _⟩ := key k h3
    rw [e3] at h2
    rw [e1, e2]
    exact g j h1 h2
theorem chn_N (l : List Int) (b w : Int) : ∀ f k, chn l b w f k = chN (nxt l b w) l.length f k
  | 0, k => rfl
  | f + 1, k => by
    unfold chn chN
    split
    · rw [chn_N l b w f]
    · rfl
end
/-! What a division costs, as a sum along its ends. -/
def prevS (s : Int) (e : List Int) (i : Nat) : Int := if i = 0 then s else gt e (i - 1)
theorem prevS_cons (s x : Int) (e : List Int) (i : Nat) : prevS s (x :: e) (i + 1) = prevS x e i := by
  unfold prevS
  rw [if_neg (by omega), Nat.add_sub_cancel]
  cases i with
  | zero => rfl
  | succ i => rw [if_neg (by omega), gt_consS]; rfl
def sumS (l : List Int) (b w s : Int) (e : List Int) : Nat → Int
  | 0 => 0
  | k + 1 => sumS l b w s e k + priR l b w (prevS s e k) (gt e k)
theorem sumS_cons (l : List Int) (b w s x : Int) (e : List Int) : ∀ k, sumS l b w s (x :: e) (k + 1) = priR l b w s x + sumS l b w x e k
  | 0 => by show 0 + priR l b w s x = _; simp [sumS]
  | k + 1 => by
    have ih := sumS_cons l b w s x e k
    show sumS l b w s (x :: e) (k + 1) + priR l b w (prevS s (x :: e) (k + 1)) (gt (x :: e) (k + 1)) = _
    rw [ih, prevS_cons, gt_consS]
    show _ = priR l b w s x + (sumS l b w x e k + priR l b w (prevS x e k) (gt e k))
    omega
def DvS (l : List Int) (b w s : Int) (e : List Int) : Prop := (∀ i, i < e.length → prevS s e i < gt e i) ∧ prevS s e e.length = (l.length : Int) ∧ ∀ i, i < e.length → 0 ≤ freR l b w (prevS s e i) (gt e i)
theorem DvS_cons {l : List Int} {b w s x : Int} {e : List Int} : DvS l b w s (x :: e) ↔ s < x ∧ 0 ≤ freR l b w s x ∧ DvS l b w x e := by
  unfold DvS
  rw [List.length_cons, prevS_cons]
  constructor
  · rintro ⟨h1, h2, h3⟩
    refine ⟨h1 0 (by omega), h3 0 (by omega), fun i hi => ?_, h2, fun i hi => ?_⟩
    · have := h1 (i + 1) (by omega); rwa [prevS_cons, gt_consS] at this
    · have := h3 (i + 1) (by omega); rwa [prevS_cons, gt_consS] at this
  · rintro ⟨h1, h2, h3, h4, h5⟩
    refine ⟨fun i hi => ?_, h4, fun i hi => ?_⟩
    · cases i with
      | zero => exact h1
      | succ i => rw [prevS_cons, gt_consS]; exact h3 i (by omega)
    · cases i with
      | zero => exact h2
      | succ i => rw [prevS_cons, gt_consS]; exact h5 i (by omega)
theorem DvS_nil {l : List Int} {b w s : Int} : DvS l b w s [] ↔ s = (l.length : Int) := by
  unfold DvS
  constructor
  · rintro ⟨_, h, _⟩; exact h
  · intro h; exact ⟨fun i hi => absurd hi (Nat.not_lt_zero i), h, fun i hi => absurd hi (Nat.not_lt_zero i)⟩
theorem DvS_le {l : List Int} {b w : Int} : ∀ {e : List Int} {s : Int}, DvS l b w s e → s ≤ (l.length : Int)
  | [], s, h => by rw [DvS_nil] at h; omega
  | x :: e, s, h => by
    rw [DvS_cons] at h
    have := DvS_le h.2.2; omega
theorem Dv_iff {l : List Int} {b w : Int} : ∀ {e : List Int} {k : Nat}, DvS l b w (k : Int) e ↔ Dv (prb l b w) k e
  | [], k => by rw [DvS_nil]; show _ ↔ k = l.length; omega
  | x :: e, k => by
    rw [DvS_cons]
    constructor
    · rintro ⟨h1, h2, h3⟩
      obtain ⟨j, rfl⟩ : ∃ j : Nat, x = (j : Int) := ⟨x.toNat, by omega⟩
      have := DvS_le h3
      exact ⟨j, rfl, by omega, by show j ≤ l.length; omega, h2, Dv_iff.1 h3⟩
    · rintro ⟨j, rfl, h1, h2, h3, h4⟩
      exact ⟨by omega, h3, Dv_iff.2 h4⟩
theorem sm_iff {l : List Int} {b w : Int} : ∀ {e : List Int} {k : Nat}, Dv (prb l b w) k e → sumS l b w (k : Int) e e.length = sm (prb l b w) k e
  | [], k, _ => rfl
  | x :: e, k, h => by
    obtain ⟨j, rfl, h1, h2, h3, h4⟩ := h
    rw [List.length_cons, sumS_cons, sm_iff h4, sm_cons]; rfl
theorem prevS_0 (e : List Int) (i : Nat) : prevS 0 e i = prevE e i := rfl
theorem sumS_0 (l : List Int) (b w : Int) (e : List Int) : ∀ k, sumS l b w 0 e k = sumC l b w e k
  | 0 => rfl
  | k + 1 => by
    show sumS l b w 0 e k + _ = sumC l b w e k + _
    rw [sumS_0 l b w e k, prevS_0]
theorem cost_ok {l : List Int} {b w : Int} {e : List Int} (hE : errE l b w = 0) (h : (costT l b w e).2.2 = 0) : Dv (prb l b w) 0 e ∧ costT l b w e = (e.length, sm (prb l b w) 0 e, 0) := by
  have hd : Dv (prb l b w) 0 e := by
    rw [← Dv_iff]
    unfold costT at h
    rw [if_neg (by simp [hE])] at h
    split at h
    · rename_i h1
      split at h
      · cases h
      · rename_i h2
        refine ⟨fun i hi => incB_iff.1 h1.1 i hi, h1.2, fun i hi => ?_⟩
        rcases Int.lt_or_le (freR l b w (prevE e i) (gt e i)) 0 with h3 | h3
        · exact absurd (wideB_iff.2 ⟨i, hi, h3⟩) h2
        · exact h3
    · cases h
  refine ⟨hd, ?_⟩
  have hs := sm_iff hd
  have hq := Dv_iff.2 hd
  have := costT_0 hE hq.1 hq.2.1 hq.2.2
  rw [this, ← hs, ← sumS_0]; rfl
theorem cost_dv {l : List Int} {b w : Int} {e : List Int} (hE : errE l b w = 0) (h : Dv (prb l b w) 0 e) : costT l b w e = (e.length, sm (prb l b w) 0 e, 0) := by
  have hq := Dv_iff.2 h
  have := costT_0 hE hq.1 hq.2.1 hq.2.2
  rw [this, ← sm_iff h, ← sumS_0]; rfl
end Go.Sx
namespace Go.Sx
section
variable {l : List Int} {b w : Int}
theorem freR_monoI (hF : Fine l b w) {i i' j' j : Int} (h0 : 0 ≤ i) (h1 : i ≤ i') (h2 : i' < j') (h3 : j' ≤ j) (h4 : j ≤ l.length) : freR l b w i j ≤ freR l b w i' j' := by
  have := freR_mono hF (i := i.toNat) (i' := i'.toNat) (j' := j'.toNat) (j := j.toNat) (by omega) (by omega) (by omega) (by omega)
  rwa [Int.toNat_of_nonneg (by omega), Int.toNat_of_nonneg (by omega), Int.toNat_of_nonneg (by omega), Int.toNat_of_nonneg (by omega)] at this
theorem freR_w (hF : Fine l b w) {i j : Int} (h0 : 0 ≤ i) (h1 : i < j) (h4 : j ≤ l.length) : freR l b w i j ≤ w := by
  have h := freR_monoI hF (i' := i) (j' := i + 1) h0 (Int.le_refl _) (by omega) (by omega) h4
  rw [freR_0 l b w i h0] at h
  have := hF.2.2.2 i.toNat (by omega)
  omega
/-- What holds of the greedy division, word by word. -/
theorem gre_inv (hF : Fine l b w) (hw : ∀ i, i < l.length → gt l i ≤ w) : ∀ k, k ≤ l.length → prevE (greR l b w k).2 (greR l b w k).2.length = (greR l b w k).1 ∧
    (∀ i, i < (greR l b w k).2.length → prevE (greR l b w k).2 i < gt (greR l b w k).2 i ∧ gt (greR l b w k).2 i < (k : Int) ∧ 0 ≤ freR l b w (prevE (greR l b w k).2 i) (gt (greR l b w k).2 i) ∧ freR l b w (prevE (greR l b w k).2 i) (gt (greR l b w k).2 i + 1) < 0) ∧
    (0 < k → 0 ≤ freR l b w (greR l b w k).1 (k : Int))
  | 0, _ => ⟨rfl, fun i hi => absurd hi (Nat.not_lt_zero i), fun h => absurd h (Nat.lt_irrefl 0)⟩
  | k + 1, hk => by
    obtain ⟨i1, i2, i3⟩ := gre_inv hF hw k (by omega)
    obtain ⟨j1, j2, j3, _⟩ := greR_in l b w k
    have hwk := hw k (by omega)
    by_cases h : freR l b w (greR l b w k).1 ((k : Int) + 1) < 0
    · have hk0 : 0 < k := by
        rcases Nat.eq_zero_or_pos k with h0 | h0
        · exfalso
          subst h0
          have h' : freR l b w 0 (0 + 1) < 0 := h
          rw [freR_0 l b w 0 (Int.le_refl _)] at h'
          have : gt l 0 ≤ w := hwk
          simp only [Int.toNat_zero] at h'
          omega
        · exact h0
      rw [greR_T h]
      have hlast : ∀ x : Int, gt ((greR l b w k).2 ++ [x]) (greR l b w k).2.length = x := fun x => by simp [gt, List.getD]
      have hold : ∀ (x : Int) i, i < (greR l b w k).2.length → gt ((greR l b w k).2 ++ [x]) i = gt (greR l b w k).2 i := fun x i hi => by simp [gt, List.getD, List.getElem?_append, hi]
      have hprev : ∀ (x : Int) i, i ≤ (greR l b w k).2.length → prevE ((greR l b w k).2 ++ [x]) i = prevE (greR l b w k).2 i := fun x i hi => by
        unfold prevE; split
        · rfl
        · exact hold x _ (by omega)
      refine ⟨?_, fun i hi => ?_, fun _ => ?_⟩
      · simp only [List.length_append, List.length_singleton]
        rw [prevE_S, hlast]
      · simp only [List.length_append, List.length_singleton] at hi
        simp only []
        rw [hprev _ i (by omega)]
        rcases Nat.lt_or_eq_of_le (Nat.le_of_lt_succ hi) with h1 | h1
        · rw [hold _ i h1]
          obtain ⟨a1, a2, a3, a4⟩ := i2 i h1
          exact ⟨a1, by omega, a3, a4⟩
        · subst h1
          rw [hlast, i1]
          exact ⟨j3 hk0, by omega, i3 hk0, h⟩
      · show 0 ≤ freR l b w (k : Int) (((k + 1 : Nat)) : Int)
        have := freR_0 l b w (k : Int) (by omega)
        have e : (((k + 1 : Nat)) : Int) = (k : Int) + 1 := by omega
        rw [e, this, Int.toNat_natCast]; omega
    · rw [greR_F h]
      refine ⟨i1, fun i hi => ?_, fun _ => ?_⟩
      · obtain ⟨a1, a2, a3, a4⟩ := i2 i hi
        exact ⟨a1, by omega, a3, a4⟩
      · have e : (((k + 1 : Nat)) : Int) = (k : Int) + 1 := by omega
        rw [e]; omega
/-- No division is ahead of the greedy one. -/
theorem gre_ahead (hF : Fine l b w) (hw : ∀ i, i < l.length → gt l i ≤ w) {e : List Int} (he : DvS l b w 0 e) : ∀ m, m ≤ e.length → m ≤ (greR l b w l.length).2.length → prevE e m ≤ prevE (greR l b w l.length).2 m
  | 0, _, _ => Int.le_refl _
  | m + 1, h1, h2 => by
    have ih := gre_ahead hF hw he m (by omega) (by omega)
    obtain ⟨_, g2, _⟩ := gre_inv hF hw l.length (Nat.le_refl _)
    obtain ⟨a1, a2, a3, a4⟩ := g2 m (by omega)
    obtain ⟨e1, e2, e3, _⟩ := ends_in (l := l) (e := e) (fun i hi => he.1 i hi) he.2.1 m (by omega)
    have ef := he.2.2 m (by omega)
    rw [prevS_0] at ef
    rw [prevE_S, prevE_S]
    rcases Int.lt_or_le (gt (greR l b w l.length).2 m) (gt e m) with h | h
    · exfalso
      have := freR_monoI hF (i := prevE e m) (i' := prevE (greR l b w l.length).2 m) (j' := gt (greR l b w l.length).2 m + 1) (j := gt e m) e1 ih (by omega) (by omega) e3
      omega
    · exact h
theorem gre_len (hF : Fine l b w) (hw : ∀ i, i < l.length → gt l i ≤ w) {e : List Int} (he : DvS l b w 0 e) : (greL l b w).length ≤ e.length := by
  unfold greL
  split
  · exact Nat.zero_le _
  · rename_i hn
    simp only [List.length_append, List.length_singleton]
    rcases Nat.lt_or_ge (greR l b w l.length).2.length e.length with h | h
    · omega
    · exfalso
      have h1 := gre_ahead hF hw he e.length (Nat.le_refl _) h
      have h2 : prevE e e.length = (l.length : Int) := he.2.1
      rw [h2] at h1
      obtain ⟨_, g2, _⟩ := gre_inv hF hw l.length (Nat.le_refl _)
      unfold prevE at h1
      split at h1
      · omega
      · have := (g2 (e.length - 1) (by omega)).2.1
        omega
theorem gre_dv (hF : Fine l b w) (hw : ∀ i, i < l.length → gt l i ≤ w) : DvS l b w 0 (greL l b w) := by
  unfold greL
  split
  · rename_i h; rw [DvS_nil, h]; rfl
  · rename_i hn
    obtain ⟨i1, i2, i3⟩ := gre_inv hF hw l.length (Nat.le_refl _)
    obtain ⟨j1, j2, j3, _⟩ := greR_in l b w l.length
    have hlast : gt ((greR l b w l.length).2 ++ [(l.length : Int)]) (greR l b w l.length).2.length = (l.length : Int) := by simp [gt, List.getD]
    have hold : ∀ i, i < (greR l b w l.length).2.length → gt ((greR l b w l.length).2 ++ [(l.length : Int)]) i = gt (greR l b w l.length).2 i := fun i hi => by simp [gt, List.getD, List.getElem?_append, hi]
    have hprev : ∀ i, i ≤ (greR l b w l.length).2.length → prevS 0 ((greR l b w l.length).2 ++ [(l.length : Int)]) i = prevE (greR l b w l.length).2 i := fun i hi => by
      unfold prevE prevS; split
      · rfl
      · exact hold _ (by omega)
    refine ⟨fun i hi => ?_, ?_, fun i hi => ?_⟩
    · simp only [List.length_append, List.length_singleton] at hi
      rw [hprev i (by omega)]
      rcases Nat.lt_or_eq_of_le (Nat.le_of_lt_succ hi) with h1 | h1
      · rw [hold i h1]; exact (i2 i h1).1
      · subst h1; rw [hlast, i1]; exact j3 (by omega)
    · simp only [List.length_append, List.length_singleton]
      rw [prevS_0, prevE_S, hlast]
    · simp only [List.length_append, List.length_singleton] at hi
      rw [hprev i (by omega)]
      rcases Nat.lt_or_eq_of_le (Nat.le_of_lt_succ hi) with h1 | h1
      · rw [hold i h1]; exact (i2 i h1).2.2.1
      · subst h1; rw [hlast, i1]; exact i3 (by omega)
/-- How large the numbers are. -/
theorem opt_rng (hF : Fine l b w) (hw : ∀ i, i < l.length → gt l i ≤ w) : ∀ m k, k ≤ l.length → l.length - k ≤ m → 0 ≤ dL l b w k ∧ dL l b w k ≤ ((l.length - k : Nat) : Int) ∧ 0 ≤ dK l b w k ∧ dK l b w k ≤ 16777216 * ((l.length - k : Nat) : Int)
  | 0, k, h1, h2 => by
    have O := dp_opt hF hw
    have : k = l.length := by omega
    subst this
    have e1 : dL l b w l.length = 0 := O.endL
    have e2 : dK l b w l.length = 0 := O.endK
    rw [e1, e2]; omega
  | m + 1, k, h1, h2 => by
    have O := dp_opt hF hw
    rcases Nat.lt_or_ge k l.length with hk | hk
    · obtain ⟨a1, a2, a3⟩ := O.inN k hk
      have a2' : nxt l b w k ≤ l.length := a2
      have a3' : 0 ≤ freR l b w (k : Int) (nxt l b w k : Int) := a3
      have ih := opt_rng hF hw m (nxt l b w k) a2' (by omega)
      have v1 := O.valL k hk
      have v2 : dK l b w k = dK l b w (nxt l b w k) + priR l b w (k : Int) (nxt l b w k : Int) := O.valK k hk
      have hfw := freR_w hF (i := (k : Int)) (j := (nxt l b w k : Int)) (by omega) (by omega) (by omega)
      have hww := hF.2.2.1
      have hp : 0 ≤ priR l b w (k : Int) (nxt l b w k : Int) ∧ priR l b w (k : Int) (nxt l b w k : Int) ≤ 16777216 := by
        unfold priR
        split
        · omega
        · refine ⟨Int.mul_nonneg a3' a3', ?_⟩
          have := Int.mul_le_mul (show freR l b w (k : Int) (nxt l b w k : Int) ≤ 4096 by omega) (show freR l b w (k : Int) (nxt l b w k : Int) ≤ 4096 by omega) a3' (by decide)
          omega
      omega
    · have : k = l.length := by omega
      subst this
      have e1 : dL l b w l.length = 0 := O.endL
      have e2 : dK l b w l.length = 0 := O.endK
      rw [e1, e2]; omega
theorem endF_ok (hF : Fine l b w) (hw : ∀ i, i < l.length → gt l i ≤ w) : Dv (prb l b w) 0 (endF l b w) ∧ ((endF l b w).length : Int) = dL l b w 0 ∧ sm (prb l b w) 0 (endF l b w) = dK l b w 0 := by
  have := chN_ok (dp_opt hF hw) l.length 0 (Nat.le_refl _) (Nat.zero_le _)
  rw [show (prb l b w).n = l.length from rfl, ← chn_N] at this
  exact this
/-- A certificate whose numbers are lower bounds. -/
theorem shw_low {L K : List Int} (hF : Fine l b w) (h : shwP l b w L K) : gt L (prb l b w).n = 0 ∧ gt K (prb l b w).n = 0 ∧ ∀ k j, k < j → j ≤ (prb l b w).n → (prb l b w).fe k j → ¬ lx (gt L j + 1) (gt K j + (prb l b w).pr k j) (gt L k) (gt K k) := by
  obtain ⟨h1, h2, h3, h4, h5, h6⟩ := h
  refine ⟨h5, h6, fun k j g1 g2 g3 => ?_⟩
  have g2' : j ≤ l.length := g2
  have g3' : 0 ≤ freR l b w (k : Int) (j : Int) := g3
  have := h4 k (by omega) j (by omega) g1 fun m hm1 hm2 => by
    have := freR_mono hF (i := k) (i' := k) (j' := m) (j := j) (Nat.le_refl _) hm2 (by omega) g2'
    omega
  exact befI_F.1 this
theorem shw_dp (hF : Fine l b w) (hw : ∀ i, i < l.length → gt l i ≤ w) : shwP l b w (dp l b w l.length).1 (dp l b w l.length).2 := by
  have O := dp_opt hF hw
  have hl := dp_len l b w l.length
  refine ⟨hl.1, hl.2, fun k hk => ?_, fun i hi j hj hij hf => ?_, O.endL, O.endK⟩
  · have := opt_rng hF hw l.length k (by omega) (by omega)
    unfold dL dK at this
    have := hF.1
    omega
  · exact befI_F.2 (O.min i j hij (by show j ≤ l.length; omega) (hf j (by omega) hij))
end
/-! The statement of the best. -/
theorem best_cost {l : List Int} {b w : Int} (hE : errE l b w = 0) (hW : wideW l w = false) : costT l b w (endF l b w) = ((endF l b w).length, dK l b w 0, 0) := by
  have hF := errE_0.1 hE
  have := endF_ok hF (fun i hi => wideW_n hW i hi)
  rw [cost_dv hE this.1, this.2.2]
theorem best_chk {l : List Int} {b w : Int} (hE : errE l b w = 0) (hW : wideW l w = false) : chkT l b w (endF l b w) (dp l b w l.length).1 (dp l b w l.length).2 = 0 := by
  have hF := errE_0.1 hE
  have hw := fun i hi => wideW_n hW i hi
  have h := endF_ok hF hw
  have hc := best_cost hE hW
  refine chk_0 hE (by rw [hc]) (shw_dp hF hw) ?_ ?_
  · rw [hc]; exact h.2.1.symm
  · rw [hc]; rfl
theorem best_least {l : List Int} {b w : Int} (hE : errE l b w = 0) (hW : wideW l w = false) {e : List Int} (h : (costT l b w e).2.2 = 0) :
    ¬ lx ((costT l b w e).1 : Int) (costT l b w e).2.1 ((endF l b w).length : Int) (dK l b w 0) ∧ (((costT l b w e).1 : Int) = ((endF l b w).length : Int) → (costT l b w e).2.1 = dK l b w 0 → smaL e (endF l b w) = false) := by
  have hF := errE_0.1 hE
  have hw := fun i hi => wideW_n hW i hi
  have O := dp_opt hF hw
  have hen := endF_ok hF hw
  obtain ⟨h1, h2⟩ := cost_ok hE h
  have hlow := low_le O.endL O.endK O.min e 0 h1
  rw [h2]
  refine ⟨by rw [hen.2.1]; exact hlow, fun h3 h4 => ?_⟩
  have := chN_least O e l.length 0 (Nat.le_refl _) h1 (by rw [← hen.2.1]; exact h3) h4
  unfold endF
  rw [chn_N]
  exact this
theorem best_worse {l : List Int} {b w : Int} (hE : errE l b w = 0) (hW : wideW l w = false) {e L K : List Int} (hx : lx ((endF l b w).length : Int) (dK l b w 0) ((costT l b w e).1 : Int) (costT l b w e).2.1) : ¬ chkT l b w e L K = 0 := by
  intro hc
  have hF := errE_0.1 hE
  have hw := fun i hi => wideW_n hW i hi
  have hen := endF_ok hF hw
  unfold chkT at hc
  rw [if_neg (by simp [hE])] at hc
  split at hc
  · rename_i hh
    obtain ⟨h1, h2, h3, h4⟩ := hh
    obtain ⟨s1, s2, s3⟩ := shw_low hF h2
    have hlow := low_le (p := prb l b w) (L := gt L) (K := gt K) s1 s2 s3 (endF l b w) 0 hen.1
    rw [hen.2.2, h3, h4] at hlow
    exact hlow hx
  · cases hc
theorem best_greedy {l : List Int} {b w : Int} (hE : errE l b w = 0) (hW : wideW l w = false) : greT l b w = (greL l b w, 0) ∧ (costT l b w (greL l b w)).2.2 = 0 ∧ (costT l b w (greL l b w)).1 = (endF l b w).length ∧ dK l b w 0 ≤ (costT l b w (greL l b w)).2.1 := by
  have hF := errE_0.1 hE
  have hw := fun i hi => wideW_n hW i hi
  have hen := endF_ok hF hw
  have hg := gre_dv hF hw
  have hgd := (Dv_iff (k := 0)).1 hg
  have hl := gre_len hF hw ((Dv_iff (k := 0)).2 hen.1)
  have hc := cost_dv hE hgd
  have hb := (best_least hE hW (e := greL l b w) (by rw [hc])).1
  refine ⟨?_, by rw [hc], ?_, ?_⟩
  · unfold greT; rw [if_neg (by simp [hE]), if_neg (by rw [hW]; simp)]
  · rw [hc] at hb ⊢
    unfold lx at hb
    simp only [] at hb ⊢
    omega
  · rw [hc] at hb ⊢
    unfold lx at hb
    simp only [] at hb ⊢
    omega
/-! The rest. -/
/-! Scaled. -/
/-! A wider page. -/
end Go.Sx
