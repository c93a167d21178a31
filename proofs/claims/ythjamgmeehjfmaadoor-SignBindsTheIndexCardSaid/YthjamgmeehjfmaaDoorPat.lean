/-
  The frame rule: a contract on a few boxes is one on a row that holds these among others. And what follows.
-/
import Derived.Test.YthjamgmeehjfmaaDoorPas
import Derived.Test.YthjamgmeehjfmaaDoorPaa
set_option linter.unusedSimpArgs false
set_option linter.unusedVariables false
namespace Go.Sx
open Go.RowKit
mutual
def bkC (r : Nat → Nat) : C → C
  | .sv b o n => .sv (r b) o n
  | .gv b n s => .gv (r b) n s
  | .bp b o => .bp (r b) o
  | .mp b => .mp (r b)
  | .bt b t n => .bt (r b) t n
  | .sl q n xs => .sl q n (bkCs r xs)
  | .kp xs => .kp (bkCs r xs)
  | .agg xs => .agg (bkCs r xs)
  | .tup xs => .tup (bkCs r xs)
  | .fn f xs => .fn f (bkCs r xs)
  | .top => .top
  | .val v => .val v
def bkCs (r : Nat → Nat) : List C → List C
  | [] => []
  | x :: xs => bkC r x :: bkCs r xs
end
theorem bkCs_map (r : Nat → Nat) : ∀ xs : List C, bkCs r xs = xs.map (bkC r)
  | [] => rfl
  | x :: xs => by simp [bkCs, bkCs_map r xs]
structure BkG (r : Nat → Nat) (A B : Gh) : Prop where
  K : ∀ b o u, A.K b o = some u → B.K b o = some u
  μ : ∀ i k, A.μ i = some k → B.μ (r i) = some k
  σ : ∀ i z, A.σ i = some z → B.σ (r i) = some z
mutual
theorem bkC_rep {r : Nat → Nat} {A B : Gh} (h : BkG r A B) : ∀ (c : C) (v : Value), Rep A c v → Rep B (bkC r c) v
  | .top, _, _ => by simp [bkC, Rep]
  | .val u, v, q => by simpa [bkC, Rep] using q
  | .sl q n xs, v, x => by
    simp only [bkC, Rep] at x ⊢
    obtain ⟨a, cap, h1, h2, h3, h4, h5⟩ := x
    refine ⟨a, cap, h1, h2, h3, h4, ?_⟩
    rcases h5 with h5 | ⟨blk, off, ha, hk⟩
    · left; rw [h5]; rfl
    · exact .inr ⟨blk, off, ha, bkC_repK h xs blk off hk⟩
  | .sv b off n, v, x => by
    simp only [bkC, Rep] at x ⊢
    obtain ⟨a, cap, h1, h2, h3, h4⟩ := x
    exact ⟨a, cap, h1, h2, h3, fun hz => by obtain ⟨blk, q1, q2⟩ := h4 hz; exact ⟨blk, h.μ _ _ q1, q2⟩⟩
  | .gv b m s, v, x => by
    simp only [bkC, Rep] at x ⊢
    obtain ⟨a, cap, h1, h2, h3, h4⟩ := x
    refine ⟨a, cap, h1, h2, h3, ?_⟩
    rcases h4 with h4 | ⟨blk, q1, q2, q3⟩
    · exact .inl h4
    · exact .inr ⟨blk, h.μ _ _ q1, q2, h.σ _ _ q3⟩
  | .bp b off, v, x => by
    simp only [bkC, Rep] at x ⊢
    obtain ⟨blk, h1, h2⟩ := x
    exact ⟨blk, h.μ _ _ h1, h2⟩
  | .mp b, v, x => by
    simp only [bkC, Rep] at x ⊢
    obtain ⟨blk, h1, h2⟩ := x
    exact ⟨blk, h.μ _ _ h1, h2⟩
  | .bt b t n, v, x => by
    simp only [bkC, Rep] at x ⊢
    obtain ⟨blk, h1, h2, h3⟩ := x
    exact ⟨blk, h.μ _ _ h1, h2, h.σ _ _ h3⟩
  | .kp xs, v, x => by
    simp only [bkC, Rep] at x ⊢
    obtain ⟨blk, off, h1, h2⟩ := x
    exact ⟨blk, off, h1, bkC_repK h xs blk off h2⟩
  | .agg xs, v, x => by
    simp only [bkC, Rep] at x ⊢
    obtain ⟨vs, h1, h2, h3⟩ := x
    exact ⟨vs, h1, bkC_repL h xs _ h2, h3⟩
  | .tup xs, v, x => by
    simp only [bkC, Rep] at x ⊢
    obtain ⟨vs, h1, h2⟩ := x
    exact ⟨vs, h1, bkC_repL h xs _ h2⟩
  | .fn f xs, v, x => by
    simp only [bkC, Rep] at x ⊢
    obtain ⟨vs, h1, h2⟩ := x
    exact ⟨vs, h1, bkC_repL h xs _ h2⟩
theorem bkC_repL {r : Nat → Nat} {A B : Gh} (h : BkG r A B) : ∀ (xs : List C) (vs : List Value), RepL A xs vs → RepL B (bkCs r xs) vs
  | [], vs, q => by simpa [bkCs, RepL] using q
  | x :: xs, vs, q => by
    simp only [bkCs, RepL] at q ⊢
    obtain ⟨v, vs', h1, h2, h3⟩ := q
    exact ⟨v, vs', h1, bkC_rep h x v h2, bkC_repL h xs vs' h3⟩
theorem bkC_repK {r : Nat → Nat} {A B : Gh} (h : BkG r A B) : ∀ (xs : List C) (blk off : Nat), RepK A blk off xs → RepK B blk off (bkCs r xs)
  | [], _, _, _ => by simp [bkCs, RepK]
  | x :: xs, blk, off, q => by
    simp only [bkCs, RepK] at q ⊢
    obtain ⟨⟨u, h1, h2, h3⟩, h4⟩ := q
    exact ⟨⟨u, h.K _ _ _ h1, h2, bkC_rep h x u h3⟩, bkC_repK h xs blk (off + 1) h4⟩
end
theorem bkC_mrep {r : Nat → Nat} {A B : Gh} (h : BkG r A B) : ∀ (l : List C) (es : List MapEntry), MRep A l es → MRep B (bkCs r l) es
  | [], _, q => by simpa [MRep, bkCs] using q
  | [_], _, q => by simp [MRep] at q
  | k :: v :: l, es, q => by
    simp only [MRep, bkCs] at q ⊢
    obtain ⟨e, es', h1, h2, h3, h4⟩ := q
    exact ⟨e, es', h1, bkC_rep h k _ h2, bkC_rep h v _ h3, bkC_mrep h l es' h4⟩
theorem bkC_own {r : Nat → Nat} {c : C} {s m : Nat} {xs : List C} (h : bkC r c = .sl (.own s) m xs) : ∃ ys, c = .sl (.own s) m ys := by
  cases c <;> simp only [bkC] at h <;> cases h
  exact ⟨_, rfl⟩
theorem bkC_isVal {r : Nat → Nat} {c : C} {u : Value} (h : bkC r c = .val u) : c = .val u := by
  cases c <;> simp only [bkC] at h <;> cases h
  rfl
theorem bkC_isTup {r : Nat → Nat} {c : C} {xs : List C} (h : bkC r c = .tup xs) : ∃ ys, c = .tup ys ∧ xs = bkCs r ys := by
  cases c <;> simp only [bkC] at h <;> cases h
  exact ⟨_, rfl, rfl⟩
theorem bk_live {r : Nat → Nat} {o : Option (List C)} {cells : List C} (h : liveC (o.map (bkCs r)) = some cells) : ∃ c0, liveC o = some c0 ∧ cells = bkCs r c0 := by
  have h1 := liveC_some h
  cases o with
  | none => cases h1
  | some c0 =>
    simp only [Option.map_some, Option.some.injEq] at h1
    refine ⟨c0, ?_, h1.symm⟩
    subst h1
    cases c0 with
    | nil => rfl
    | cons x l =>
      cases x with
      | tup xs => simp only [Option.map_some, bkCs, bkC] at h; cases h
      | _ => rfl
theorem bk_mpL {r : Nat → Nat} {o : Option (List C)} {l : List C} (h : mpL (o.map (bkCs r)) = some l) : ∃ l0, mpL o = some l0 ∧ l = bkCs r l0 := by
  cases o with
  | none => cases h
  | some c0 => exact mpL_map (Fs := bkCs r) (bkCs_map r) (fun _ _ => bkC_isVal) (fun _ _ => bkC_isTup) h
/-- Where a box of the small row stands in the large one. -/
def bkR (ρ : List Nat) (L : Nat) (i : Nat) : Nat := match ρ[i]? with
  | some b => b
  | none => L + (i - ρ.length)
/-- Where a box of the large row stands in the small one. -/
def bkS (ρ : List Nat) (L : Nat) (b : Nat) : Option Nat := if b < L then loc ρ 0 b else some (ρ.length + (b - L))
def bkH (ρ : List Nat) (H h' : Hp) : Hp :=
  ((List.range H.length).map fun b => match loc ρ 0 b with
    | some i => ((h'[i]?).getD none).map (bkCs (bkR ρ H.length))
    | none => (H[b]?).getD none) ++ (h'.drop ρ.length).map (Option.map (bkCs (bkR ρ H.length)))
section
variable {ρ : List Nat} {H h' : Hp}
theorem bkS_R (hn : ρ.Nodup) (hl : ∀ b ∈ ρ, b < H.length) (i : Nat) : bkS ρ H.length (bkR ρ H.length i) = some i := by
  unfold bkS bkR
  cases hi : ρ[i]? with
  | some b =>
    simp only []
    rw [if_pos (hl b (List.mem_of_getElem? hi)), loc_of hn hi, Nat.zero_add]
  | none =>
    simp only []
    have : ρ.length ≤ i := List.getElem?_eq_none_iff.1 hi
    rw [if_neg (by omega)]
    congr 1; omega
theorem bkR_S {b i : Nat} (h : bkS ρ H.length b = some i) : bkR ρ H.length i = b := by
  unfold bkS at h
  unfold bkR
  split at h
  · have := (loc_some h).2
    rw [Nat.sub_zero] at this
    rw [this]
  · cases h
    rw [List.getElem?_eq_none (by omega)]
    simp only []
    omega
theorem bkH_get (b : Nat) : (bkH ρ H h')[b]? = match bkS ρ H.length b with
    | some i => if b < H.length then some (((h'[i]?).getD none).map (bkCs (bkR ρ H.length))) else (h'[i]?).map (Option.map (bkCs (bkR ρ H.length)))
    | none => H[b]? := by
  unfold bkH bkS
  by_cases hb : b < H.length
  · rw [List.getElem?_append_left (by simpa using hb), List.getElem?_map, List.getElem?_range hb, if_pos hb]
    simp only [Option.map_some]
    cases hl : loc ρ 0 b with
    | some i => simp only [hb, if_true]
    | none => simp only []; rw [List.getElem?_eq_getElem hb]; rfl
  · rw [List.getElem?_append_right (by simp; omega), if_neg hb]
    simp only [List.length_map, List.length_range, List.getElem?_map, List.getElem?_drop, hb, if_false]
theorem bkH_at {b : Nat} {cells : List C} (h : (bkH ρ H h').at b = some cells) : (∃ i c0, bkS ρ H.length b = some i ∧ h'.at i = some c0 ∧ cells = bkCs (bkR ρ H.length) c0) ∨ (bkS ρ H.length b = none ∧ H.at b = some cells) := by
  unfold Hp.at at h
  rw [bkH_get] at h
  cases hs : bkS ρ H.length b with
  | none => rw [hs] at h; exact .inr ⟨rfl, h⟩
  | some i =>
    rw [hs] at h
    left
    have : ∃ o, h'[i]? = some o ∧ liveC (o.map (bkCs (bkR ρ H.length))) = some cells := by
      simp only [] at h
      split at h
      · cases hq : h'[i]? with
        | none => rw [hq] at h; cases h
        | some o => rw [hq] at h; exact ⟨o, rfl, h⟩
      · cases hq : h'[i]? with
        | none => rw [hq] at h; cases h
        | some o => rw [hq] at h; exact ⟨o, rfl, h⟩
    obtain ⟨o, h1, h2⟩ := this
    obtain ⟨c0, h3, h4⟩ := bk_live h2
    exact ⟨i, c0, rfl, by unfold Hp.at; rw [h1]; exact h3, h4⟩
theorem bkH_mp {b : Nat} {l : List C} (h : (bkH ρ H h').mp b = some l) : (∃ i l0, bkS ρ H.length b = some i ∧ h'.mp i = some l0 ∧ l = bkCs (bkR ρ H.length) l0) ∨ (bkS ρ H.length b = none ∧ H.mp b = some l) := by
  unfold Hp.mp at h
  rw [bkH_get] at h
  cases hs : bkS ρ H.length b with
  | none => rw [hs] at h; exact .inr ⟨rfl, h⟩
  | some i =>
    rw [hs] at h
    left
    have : ∃ o, h'[i]? = some o ∧ mpL (o.map (bkCs (bkR ρ H.length))) = some l := by
      simp only [] at h
      split at h
      · cases hq : h'[i]? with
        | none => rw [hq] at h; cases h
        | some o => rw [hq] at h; exact ⟨o, rfl, h⟩
      · cases hq : h'[i]? with
        | none => rw [hq] at h; cases h
        | some o => rw [hq] at h; exact ⟨o, rfl, h⟩
    obtain ⟨o, h1, h2⟩ := this
    obtain ⟨c0, h3, h4⟩ := bk_mpL h2
    exact ⟨i, c0, rfl, by unfold Hp.mp; rw [h1]; exact h3, h4⟩
theorem bkH_some {b i : Nat} {c0 : List C} (hs : bkS ρ H.length b = some i) (h : h'[i]? = some (some c0)) : (bkH ρ H h')[b]? = some (some (bkCs (bkR ρ H.length) c0)) := by
  rw [bkH_get, hs]
  simp only [h]
  split <;> rfl
end
open Classical in
noncomputable def bkG (ρ : List Nat) (L z : Nat) (G G2 : Gh) : Gh where
  K := G2.K
  μ := fun b => match bkS ρ L b with
    | some i => G2.μ i
    | none => G.μ b
  T := fun g => match G2.T g with
    | some p => some (if p.1 = 1 then (1, bkR ρ L p.2.1, p.2.2) else p)
    | none => if g < z ∧ (mvG ρ G).T g = none then G.T g else none
  σ := fun b => match bkS ρ L b with
    | some i => G2.σ i
    | none => G.σ b
theorem FC.frameH {P : Program} {gl : Nat → C} {f : Nat} {args : List C} {c : C} {H h' : Hp} (ρ : List Nat) (hn : ρ.Nodup) (hlive : ∀ b ∈ ρ, (H.at b).isSome = true ∨ (H.mp b).isSome = true)
    (hD : ∀ b, b < H.length → b ∉ ρ → (H.at b).isSome = true ∨ (H.mp b).isSome = true ∨ H[b]? = some none)
    (hf : FC P gl f (mvCs ρ args) (mvH ρ H) c h') (hg : ∀ g, noRef 0 (gl g) = true) :
    FC P gl f args H (bkC (bkR ρ H.length) c) (bkH ρ H h') := by
  obtain ⟨he, hf⟩ := hf
  refine ⟨he, fun G w vs W hTg hgl hr => ?_⟩
  have hl : ∀ b ∈ ρ, b < H.length := fun b hb => by
    rcases hlive b hb with h | h
    · obtain ⟨x, hx⟩ := Option.isSome_iff_exists.1 h; exact Hp.at_lt hx
    · obtain ⟨x, hx⟩ := Option.isSome_iff_exists.1 h; exact Hp.mp_lt hx
  have W1 : WorldOK (mvG ρ G) (mvH ρ H) w := W.mv hn
  have hT1 : ∀ g, G.T g = none → (mvG ρ G).T g = none := fun g h => by simp only [mvG, h]
  have hT1b : ∀ g b o, G.T g = some (1, b, o) → b ∉ ρ → (mvG ρ G).T g = none := fun g b o h hb => by
    simp only [mvG, h, if_true]
    cases hq : loc ρ 0 b with
    | none => rfl
    | some j => have := (loc_some hq).2; exact (hb (List.mem_of_getElem? this)).elim
  refine Calls.mono (hf (mvG ρ G) w vs W1 (fun g p x => by
    simp only [mvG] at x
    cases hq : G.T g with
    | none => rw [hq] at x; cases x
    | some q =>
      rw [hq] at x
      have := hTg g q hq
      simp only [this, if_true] at x
      cases hz : loc ρ 0 q.2.1 with
      | none => rw [hz] at x; cases x
      | some j => rw [hz] at x; cases x; rfl) (fun g => mvC_noRef (hg g) (hgl g)) (mvC_repL _ _ hr)) ?_
  rintro e w' ⟨v, G2, rfl, rv, ro, W2, F⟩
  have hμ1 : ∀ i blk, (mvG ρ G).μ i = some blk → ∃ b, ρ[i]? = some b ∧ G.μ b = some blk := fun i blk x => by
    simp only [mvG] at x
    cases hq : ρ[i]? with
    | none => rw [hq] at x; cases x
    | some q => rw [hq] at x; exact ⟨q, rfl, x⟩
  -- blocks of boxes outside
  have hout : ∀ b blk, bkS ρ H.length b = none → G.μ b = some blk → ((H.at b).isSome = true ∨ (H.mp b).isSome = true) ∧ ∀ i, (mvG ρ G).μ i ≠ some blk := fun b blk hs hm => by
    obtain ⟨⟨c1, hc1⟩, _⟩ := W.dom b blk hm
    have hbl := (List.getElem?_eq_some_iff.1 hc1).1
    have hbρ : b ∉ ρ := fun hb => by
      obtain ⟨i, hi⟩ := List.getElem?_of_mem hb
      have := bkS_R (H := H) hn hl i
      unfold bkR at this
      rw [hi] at this
      rw [hs] at this; cases this
    have hlv : (H.at b).isSome = true ∨ (H.mp b).isSome = true := by
      rcases hD b hbl hbρ with h | h | h
      · exact .inl h
      · exact .inr h
      · rw [hc1] at h; cases h
    refine ⟨hlv, fun i hi => ?_⟩
    obtain ⟨q, hq, hqm⟩ := hμ1 i blk hi
    have hqρ := List.mem_of_getElem? hq
    have hne : b ≠ q := fun e => hbρ (e ▸ hqρ)
    rcases hlv with h1 | h1 <;> rcases hlive q hqρ with h2 | h2 <;> obtain ⟨x1, y1⟩ := Option.isSome_iff_exists.1 h1 <;> obtain ⟨x2, y2⟩ := Option.isSome_iff_exists.1 h2
    · exact hne (W.inj b q _ _ blk y1 y2 hm hqm)
    · obtain ⟨k, es, clk, q1, q2, _⟩ := W.mpo q x2 y2
      rw [hqm] at q1; cases q1
      obtain ⟨cs, e, ⟨fr, r2, _⟩, _⟩ := W.bx y1 hm
      rw [q2] at r2; cases r2
    · obtain ⟨k, es, clk, q1, q2, _⟩ := W.mpo b x1 y1
      rw [hm] at q1; cases q1
      obtain ⟨cs, e, ⟨fr, r2, _⟩, _⟩ := W.bx y2 hqm
      rw [q2] at r2; cases r2
    · exact hne (W.mpi b q _ _ blk y1 y2 hm hqm)
  have hobl : ∀ b blk, bkS ρ H.length b = none → G.μ b = some blk → w'.heap[blk]? = w.heap[blk]? ∧ G2.T blk = none ∧ (∀ i, G2.μ i ≠ some blk) ∧ ∀ o, G2.K blk o = G.K blk o := fun b blk hs hm =>
    F.old blk (W.dom b blk hm).2 (hT1 _ (W.sep b blk hm).2) (hout b blk hs hm).2
  have hμlt : ∀ b blk, G.μ b = some blk → blk < w.heap.size := fun b blk x => (W.dom b blk x).2
  -- rows owned from outside
  have hrow : ∀ g b o, G.T g = some (1, b, o) → b ∉ ρ → w'.heap[g]? = w.heap[g]? ∧ G2.T g = none ∧ (∀ i, G2.μ i ≠ some g) ∧ ∀ o, G2.K g o = G.K g o := fun g b o hg hb =>
    F.old g (W.tlt g _ hg) (hT1b g b o hg hb) (fun i hi => by
      obtain ⟨q, _, hq⟩ := hμ1 i g hi
      have := (W.sep q g hq).2; rw [hg] at this; cases this)
  have gk : BkG (bkR ρ H.length) G2 (bkG ρ H.length w.heap.size G G2) := ⟨fun _ _ _ x => x, fun i k x => by simp only [bkG, bkS_R hn hl]; exact x, fun i z x => by simp only [bkG, bkS_R hn hl]; exact x⟩
  have le3 : G.Le (bkG ρ H.length w.heap.size G G2) := by
    refine ⟨fun b o u x => F.le.K b o u x, fun b k x => ?_, fun b z x => ?_⟩
    · simp only [bkG]
      cases hs : bkS ρ H.length b with
      | none => exact x
      | some i =>
        simp only []
        have hb := bkR_S hs
        refine F.le.μ i k ?_
        obtain ⟨⟨c1, hc1⟩, _⟩ := W.dom b k x
        have hbl := (List.getElem?_eq_some_iff.1 hc1).1
        simp only [bkS, hbl, if_true] at hs
        have := (loc_some hs).2
        rw [Nat.sub_zero] at this
        simp only [mvG, this]; exact x
    · simp only [bkG]
      cases hs : bkS ρ H.length b with
      | none => exact x
      | some i =>
        simp only []
        refine F.le.σ i z ?_
        obtain ⟨blk, _, _, _, q1, _⟩ := W.siz b z x
        obtain ⟨⟨c1, hc1⟩, _⟩ := W.dom b blk q1
        have hbl := (List.getElem?_eq_some_iff.1 hc1).1
        simp only [bkS, hbl, if_true] at hs
        have := (loc_some hs).2
        rw [Nat.sub_zero] at this
        simp only [mvG, this]; exact x
  have hSρ : ∀ b, bkS ρ H.length b = none → b ∉ ρ := fun b hs hb => by
    obtain ⟨i, hi⟩ := List.getElem?_of_mem hb
    have := bkS_R (H := H) hn hl i
    unfold bkR at this
    rw [hi] at this
    rw [hs] at this; cases this
  -- places
  have ownI : ∀ (p p' : Place) (u : Value) (s n : Nat), OwnRow G2 w' p u s n → p' = (if p.1 = 1 then (1, bkR ρ H.length p.2.1, p.2.2) else p) → OwnRow (bkG ρ H.length w.heap.size G G2) w' p' u s n := fun p p' u s n O hp => by
    rcases O with O | ⟨g, cap, cur, e, a1, a2, a3, a4, a5, a6⟩
    · exact .inl O
    · refine .inr ⟨g, cap, cur, e, a1, by simp only [bkG, a2]; rw [hp], a3, a4, a5, fun b hb => ?_⟩
      simp only [bkG] at hb
      cases hs : bkS ρ H.length b with
      | some i => rw [hs] at hb; exact a6 i hb
      | none =>
        rw [hs] at hb
        have := (hobl b g hs hb).2.1
        rw [a2] at this; cases this
  refine ⟨v, bkG ρ H.length w.heap.size G G2, rfl, bkC_rep gk c v rv, fun s n xs e => ?_, ⟨fun blk off u x => W2.known blk off u x, fun b cells hb => ?_, fun b blk hm => ?_, fun b b' c1 c2 blk hb hb' hm hm' => ?_, fun b blk hm => ?_, fun g p hp => ?_, fun b cells off s n xs blk u hb hc hm hv => ?_, fun b z hz => ?_, fun b l hb => ?_, fun b b' l l' blk hb hb' hm hm' => ?_⟩, F.os, F.tape, F.output, F.size, le3, fun g hg' ht hm => ?_⟩
  · obtain ⟨ys, hy⟩ := bkC_own e
    exact ownI _ _ v s n (ro s n ys hy) rfl
  · rcases bkH_at hb with ⟨i, c0, hs, h1, rfl⟩ | ⟨hs, h1⟩
    · rcases W2.box i c0 h1 with ⟨hE, hE2⟩ | ⟨blk, cs, e, q1, q2, q3, q4, q5⟩
      · exact .inl ⟨by rw [hE]; rfl, by simp only [bkG, hs]; exact hE2⟩
      · have hlen : (bkCs (bkR ρ H.length) c0).length = c0.length := by rw [bkCs_map]; simp
        exact .inr ⟨blk, cs, e, by simp only [bkG, hs]; exact q1, q2, by rw [hlen]; exact q3, by rw [hlen]; exact bkC_repL gk _ _ q4, q5⟩
    · rcases W.box b cells h1 with ⟨hE, hE2⟩ | ⟨blk, cs, e, q1, q2, q3, q4, q5⟩
      · exact .inl ⟨hE, by simp only [bkG, hs]; exact hE2⟩
      · exact .inr ⟨blk, cs, e, by simp only [bkG, hs]; exact q1, by rw [(hobl b blk hs q1).1]; exact q2, q3, q4.mono le3, q5⟩
  · simp only [bkG] at hm
    cases hs : bkS ρ H.length b with
    | some i =>
      rw [hs] at hm
      obtain ⟨⟨c1, hc1⟩, hlt⟩ := W2.dom i blk hm
      exact ⟨⟨_, bkH_some hs hc1⟩, hlt⟩
    | none =>
      rw [hs] at hm
      obtain ⟨⟨c1, hc1⟩, hlt⟩ := W.dom b blk hm
      exact ⟨⟨c1, by rw [bkH_get, hs]; exact hc1⟩, Nat.lt_of_lt_of_le hlt F.size⟩
  · simp only [bkG] at hm hm'
    rcases bkH_at hb with ⟨i, c0, hs, h1, _⟩ | ⟨hs, h1⟩ <;> rcases bkH_at hb' with ⟨i', c0', hs', h1', _⟩ | ⟨hs', h1'⟩
    · rw [hs] at hm
      rw [hs'] at hm'
      have := W2.inj i i' _ _ blk h1 h1' hm hm'
      subst this
      rw [← bkR_S hs, ← bkR_S hs']
    · rw [hs] at hm
      rw [hs'] at hm'
      exact ((hobl b' blk hs' hm').2.2.1 i hm).elim
    · rw [hs] at hm
      rw [hs'] at hm'
      exact ((hobl b blk hs hm).2.2.1 i' hm').elim
    · rw [hs] at hm
      rw [hs'] at hm'
      exact W.inj b b' _ _ blk h1 h1' hm hm'
  · simp only [bkG] at hm
    cases hs : bkS ρ H.length b with
    | some i =>
      rw [hs] at hm
      obtain ⟨s1, s2⟩ := W2.sep i blk hm
      refine ⟨s1, ?_⟩
      simp only [bkG, s2]
      split
      · rename_i hc
        cases hq : G.T blk with
        | none => rfl
        | some p =>
          have hp1 := hTg blk p hq
          obtain ⟨p1, pb, po⟩ := p
          simp only at hp1
          subst hp1
          have hpb : pb ∉ ρ := fun hb => by
            obtain ⟨j, hj⟩ := List.getElem?_of_mem hb
            have h1 := hc.2
            simp only [mvG, hq, if_true, loc_of (k := 0) hn hj] at h1
            cases h1
          exact ((hrow blk pb po hq hpb).2.2.1 i hm).elim
      · rfl
    | none =>
      rw [hs] at hm
      obtain ⟨s1, s2⟩ := W.sep b blk hm
      obtain ⟨o1, o2, o3, o4⟩ := hobl b blk hs hm
      refine ⟨fun o => (o4 o).trans (s1 o), ?_⟩
      simp only [bkG, o2, s2]
      split <;> rfl
  · simp only [bkG] at hp
    cases hq : G2.T g with
    | some p2 => exact W2.tlt g p2 hq
    | none =>
      rw [hq] at hp
      simp only [] at hp
      split at hp
      · exact Nat.lt_of_lt_of_le (W.tlt g p hp) F.size
      · cases hp
  · simp only [bkG] at hm
    rcases bkH_at hb with ⟨i, c0, hs, h1, rfl⟩ | ⟨hs, h1⟩
    · rw [hs] at hm
      rw [bkCs_map, List.getElem?_map] at hc
      cases hq : c0[off]? with
      | none => rw [hq] at hc; cases hc
      | some y =>
        rw [hq] at hc
        simp only [Option.map_some, Option.some.injEq] at hc
        obtain ⟨ys, rfl⟩ := bkC_own hc
        refine ownI _ _ u s n (W2.own i c0 off s n ys blk u h1 hq hm hv) ?_
        rw [if_pos rfl, bkR_S hs]
    · rw [hs] at hm
      have hcell : w'.cell? ⟨blk, off, none⟩ = w.cell? ⟨blk, off, none⟩ := by
        unfold World.cell?; rw [(hobl b blk hs hm).1]
      rcases W.own b cells off s n xs blk u h1 hc hm (by rw [← hcell]; exact hv) with O | ⟨g, cap, cur, e, a1, a2, a3, a4, a5, a6⟩
      · exact .inl O
      · have hbρ := hSρ b hs
        obtain ⟨o1, o2, o3, o4⟩ := hrow g b off a2 hbρ
        refine .inr ⟨g, cap, cur, e, a1, ?_, o1.trans a3, a4, fun o ho => (o4 o).trans (a5 o ho), fun b' hb' => ?_⟩
        · simp only [bkG, o2]
          rw [if_pos ⟨W.tlt g _ a2, hT1b g b off a2 hbρ⟩]; exact a2
        · simp only [bkG] at hb'
          cases hs' : bkS ρ H.length b' with
          | some i => rw [hs'] at hb'; exact o3 i hb'
          | none => rw [hs'] at hb'; exact a6 b' hb'
  · simp only [bkG] at hz ⊢
    cases hs : bkS ρ H.length b with
    | some i =>
      rw [hs] at hz
      exact W2.siz i z hz
    | none =>
      rw [hs] at hz
      obtain ⟨blk, cs, e, fr, q1, q2, q3⟩ := W.siz b z hz
      exact ⟨blk, cs, e, fr, q1, (hobl b blk hs q1).1.trans q2, q3⟩
  · rcases bkH_mp hb with ⟨i, l0, hs, h1, rfl⟩ | ⟨hs, h1⟩
    · obtain ⟨blk, es, clk, q1, q2, q3⟩ := W2.mpo i l0 h1
      exact ⟨blk, es, clk, by simp only [bkG, hs]; exact q1, q2, bkC_mrep gk _ _ q3⟩
    · obtain ⟨blk, es, clk, q1, q2, q3⟩ := W.mpo b l h1
      exact ⟨blk, es, clk, by simp only [bkG, hs]; exact q1, (hobl b blk hs q1).1.trans q2, q3.mono le3⟩
  · simp only [bkG] at hm hm'
    rcases bkH_mp hb with ⟨i, c0, hs, h1, _⟩ | ⟨hs, h1⟩ <;> rcases bkH_mp hb' with ⟨i', c0', hs', h1', _⟩ | ⟨hs', h1'⟩
    · rw [hs] at hm
      rw [hs'] at hm'
      have := W2.mpi i i' _ _ blk h1 h1' hm hm'
      subst this
      rw [← bkR_S hs, ← bkR_S hs']
    · rw [hs] at hm
      rw [hs'] at hm'
      exact ((hobl b' blk hs' hm').2.2.1 i hm).elim
    · rw [hs] at hm
      rw [hs'] at hm'
      exact ((hobl b blk hs hm).2.2.1 i' hm').elim
    · rw [hs] at hm
      rw [hs'] at hm'
      exact W.mpi b b' _ _ blk h1 h1' hm hm'
  · obtain ⟨o1, o2, o3, o4⟩ := F.old g hg' (hT1 g ht) (fun i hi => by obtain ⟨q, _, hq⟩ := hμ1 i g hi; exact hm q hq)
    refine ⟨o1, ?_, fun b hb => ?_, o4⟩
    · simp only [bkG, o2, ht]; split <;> rfl
    · simp only [bkG] at hb
      cases hs : bkS ρ H.length b with
      | some i => rw [hs] at hb; exact o3 i hb
      | none => rw [hs] at hb; exact hm b hb
end Go.Sx
namespace Go.Sx
open Go.RowKit Go.Proofs
/-- The first cell of a builder: nil as long as nothing is written. -/
def bld0 (f : Bool) : C := if f then .val (.pointer none) else .bt 0 54 2
theorem fc47 {gl : Nat → C} (he : Entered Tryd.prog 47) (f : Bool) (x : C) (hx : x.noOwn) (rest : Hp) : FC Tryd.prog gl 47 [.bt 0 54 2] (some [bld0 f, x] :: rest) (.tup []) (some [.bt 0 54 2, x] :: rest) := by
  refine ⟨he, fun G w vs W hT hgl hr => ?_⟩
  obtain ⟨v, hv, blk, hm, hp, hs⟩ : ∃ v, vs = #[v] ∧ ∃ blk, G.μ 0 = some blk ∧ v = .pointer (some ⟨blk, 0, none⟩) ∧ G.σ 0 = some (2, 54) := by
    simp only [RepL] at hr
    obtain ⟨v, vs', h1, h2, rfl⟩ := hr
    simp only [Rep] at h2
    obtain ⟨blk, q1, q2, q3⟩ := h2
    exact ⟨v, by apply Array.ext'; simpa using h1, blk, q1, q2, q3⟩
  subst hv hp
  have hlv : liveC (some [bld0 f, x]) = some [bld0 f, x] := by cases f <;> rfl
  have hat : Hp.at (some [bld0 f, x] :: rest) 0 = some [bld0 f, x] := hlv
  obtain ⟨blk', cs0, e0, fr0, r1, r2, r3, r4⟩ := W.siz 0 _ hs
  rw [hm] at r1; cases r1
  simp only at r3 r4
  subst r4
  obtain ⟨cs, e, ⟨fr, q2, hfr⟩, q0, q3, q4⟩ := W.bx hat hm
  rw [r2] at q2; obtain ⟨rfl, rfl⟩ : cs0 = cs ∧ fr0 = fr := by cases q2; exact ⟨rfl, rfl⟩
  obtain ⟨u0, u1, hcs, hu0, hu1⟩ : ∃ u0 u1, cs0 = #[u0, u1] ∧ Rep G (bld0 f) u0 ∧ Rep G x u1 := by
    have hl : cs0.toList.length = 2 := by simpa using r3
    simp only [List.length_cons, List.length_nil] at q3
    rw [List.take_of_length_le (by omega)] at q3
    simp only [RepL] at q3
    obtain ⟨u0, l1, h1, h2, u1, l2, h3, h4, h5⟩ := q3
    subst h5 h3
    exact ⟨u0, u1, by apply Array.ext'; simpa using h1, h2, h4⟩
  subst hcs
  have hc0 : w.cell? ⟨blk, 0, none⟩ = some u0 := by simp [World.cell?, r2]
  cases f with
  | false =>
    simp only [bld0, Bool.false_eq_true, if_false, Rep] at hu0
    obtain ⟨blk', z1, rfl, z3⟩ := hu0
    rw [hm] at z1; cases z1
    refine (Tryd.ccUsed blk w hc0).mono ?_
    rintro e w' ⟨h1, h2⟩
    rw [h2]
    exact ⟨_, G, h1, by simp [Rep, RepL], (fun s n xs e => by cases e), W, Frm.refl G w⟩
  | true =>
    simp only [bld0, if_true] at hu0
    rw [rep_val] at hu0
    subst hu0
    have hfz : w.frozen? ⟨blk, 0, none⟩ = false := by
      simp only [World.frozen?, r2]
      obtain ⟨lo, hi⟩ := fr0
      simp only at hfr ⊢
      simp only [Bool.and_eq_false_iff, decide_eq_false_iff_not]
      rcases hfr with h | h
      · right; omega
      · left; simp at h; omega
    refine (Tryd.ccFresh blk w hc0 (by simp [World.shape?, r2]) hfz).mono ?_
    rintro e w' ⟨rfl, rfl⟩
    have hset : w.setCell ⟨blk, 0, none⟩ (.pointer (some ⟨blk, 0, none⟩)) = w.setRow blk #[.pointer (some ⟨blk, 0, none⟩), u1] := by
      have := setCell_eq_setRow w blk 0 #[.pointer none, u1] _ _ (.pointer (some ⟨blk, 0, none⟩)) r2
      rw [this]; rfl
    rw [hset]
    have W2 := W.setBox (G' := G) 0 blk hm hat [.bt 0 54 2, x] #[.pointer (some ⟨blk, 0, none⟩), u1] rfl rfl (fun cs e fr h => by rw [r2] at h; cases h; rfl) (by simp)
      (by simp only [List.length_cons, List.length_nil, RepL, Rep]; exact ⟨_, _, rfl, ⟨blk, hm, rfl, hs⟩, u1, [], rfl, hu1, rfl⟩)
      (by intro v hv; simp only [List.mem_cons, List.not_mem_nil, or_false] at hv; rcases hv with rfl | rfl; · rfl
          · exact q4 _ (by simp)) (fun _ => Iff.rfl) (fun _ _ _ _ h => h) (fun off s n xs v h1 h2 => by
        match off with
        | 0 => simp at h1
        | 1 => simp at h1; subst h1; exact hx.elim
        | k + 2 => simp at h1)
    exact ⟨_, G, rfl, by simp [Rep, RepL], (fun s n xs e => by cases e), W2, frm_setRow hm _ rfl rfl (fun _ => Iff.rfl)⟩
end Go.Sx
namespace Go.Sx
open Go.RowKit Go.Proofs
/-- The keys of the memo. -/
def kmS (t : TypeId) (u : Value) : Bool := t == 28 && (match u with
  | .agg vs => (match vs.toList with
    | [.int .i64 a, .int .i64 b] => decide (0 ≤ a ∧ a < 1000000 ∧ 0 ≤ b ∧ b < 1000000)
    | _ => false)
  | _ => false)
noncomputable def cxQ (gl : Nat → C) (M : Nat) (pu : Nat → List C → Option C) (hp : Nat → List C → Hp → Option (C × Hp)) : Cx := ⟨Tryd.prog, M, gl, pu, hp, fun _ => false, kmS⟩
section
variable (gl : Nat → C) (M : Nat) (pu : Nat → List C → Option C) (hp : Nat → List C → Hp → Option (C × Hp))
theorem cxQ_P : (cxQ gl M pu hp).P = Tryd.prog := rfl
theorem cxQ_N : (cxQ gl M pu hp).N = M := rfl
theorem cxQ_pu : (cxQ gl M pu hp).pu = pu := rfl
theorem cxQ_hp : (cxQ gl M pu hp).hp = hp := rfl
theorem cxQ_gr (d : Option Nat) : isG (cxQ gl M pu hp) d = false := by cases d <;> rfl
end
theorem hMOQ {gl : Nat → C} {M : Nat} {pu : Nat → List C → Option C} {hp : Nat → List C → Hp → Option (C × Hp)} : (cxQ gl M pu hp).P.follows .mixedOrders = true := hMO (gl := gl) (M := M) (pu := pu)
attribute [go_sem] cxQ_P cxQ_N cxQ_pu cxQ_hp cxQ_gr
theorem fa54b (b t n : Nat) : fieldAddrPlan Tryd.prog 54 (.bt b t n) 1 = some (vp (.bp b 1)) := by
  have h : fieldAddrPlan Tryd.prog 54 (.bt b t n) 1 = faQ (td Tryd.prog 52) b 1 := by
    rw [fa_td, td54]; exact fa_bt _ _ _ _ b t n 1 (Field.mk "buf" 52 1 false "" "strings" 8) rfl
  rw [h, td52]; exact faQ_some _ _ _ _ _ _ (by decide)
theorem oc_nilP : (Value.pointer none).oneCell' = true := rfl
attribute [go_sem] oc_nilP
attribute [go_sem high] fa54b
end Go.Sx
namespace Go.Sx
open Go.RowKit Go.Proofs
set_option maxRecDepth 100000
set_option maxHeartbeats 8000000
theorem X_fc25a {p : Prop} (e : p := by intro KZ hZ; simp -implicitDefEqProofs (disch := first | omega | (simp only [go_sem, lA, lD, lT] <;> omega) | decide) only [go_sem, ↓reduceIte, Nat.reduceEqDiff, reduceCtorEq, Nat.reduceLT, Nat.reduceBEq, Nat.reduceAdd, hy]; exact hZ) : p := e
theorem F_fc25a {p : Prop} (e : p := by simp -implicitDefEqProofs (disch := first | omega | (simp only [go_sem, lA, lD, lT] <;> omega) | decide) only [go_sem, ↓reduceIte, Nat.reduceEqDiff, reduceCtorEq]; all_goals (rfl)) : p := e
theorem fc25a {gl : Nat → C} {M : Nat} {pu : Nat → List C → Option C} {hp : Nat → List C → Hp → Option (C × Hp)} (hcx : CxOK (cxQ gl M pu hp))  (hq47 : ∀ (f : Bool) (x : C) (rest : Hp), x.noOwn → hp 47 [.bt 0 54 2] (some [bld0 f, x] :: rest) = some (.tup [], some [.bt 0 54 2, x] :: rest)) (hnr : ∀ (g : Nat) (xs : List C), noRefs 0 xs = false → pu g xs = none) (p : List UInt8) (hp0 : 0 < p.length) (hp1 : p.length ≤ 1000000000) : FC Tryd.prog gl 25 [.bt 0 54 2, sl bC .no p] [some [.val (.pointer none), .val (.slice none 0 0)]] (.tup [.val (nI p.length), .val .nilIface]) [some [.bt 0 54 2, .gv 1 p.length (1, 5)], some (cl bC p)] := by
 replace hcx := hcx.reN (M := 19)
 refine FC.ofH (cx := cxQ gl 19 pu hp) (rs := [.tmp 4, .tmp 5]) rfl Tryd.func25 rfl rfl rfl (by simp only [List.length_cons, List.length_nil]; decide)  ?_
 simp only [ini, go_sem]
 have hy := True.intro
 have en47 : pu 47 [.bt 0 54 2] = none := hnr 47 _ rfl
 have e47 := hq47 true (.val (.slice none 0 0)) [] trivial
 have e47 : hp 47 [.bt 0 54 2] [some [.val (.pointer none), .val (.slice none 0 0)]] = _ := e47
 refine Tr.w hcx [] _ [] rfl rfl rfl ?_ X_fc25a
 have hy := And.intro @en47 @e47
 refine Tr.w hcx [] _ [] rfl rfl rfl ?_ X_fc25a
 have hy := True.intro
 refine Tr.wG hcx [14] [12] _ [] rfl rfl rfl ?_ X_fc25a
 refine Tr.w hcx [1000018] _ [] rfl rfl rfl ?_ X_fc25a
 exact Tr.ret F_fc25a
end Go.Sx
namespace Go.Sx
open Go.RowKit Go.Proofs
theorem freeze_at (w : World) (p : Addr) (n : Nat) (k : Nat) : (w.freeze p n).heap[k]? = w.heap[k]? ∨ ∃ cs e fr fr', w.heap[k]? = some (.cells cs e fr) ∧ (w.freeze p n).heap[k]? = some (.cells cs e fr') := by
  unfold World.freeze
  split
  · exact .inl rfl
  · simp only [Array.getElem?_modify]
    by_cases hk : p.block = k
    · rw [if_pos hk]
      cases hq : w.heap[k]? with
      | none => left; rfl
      | some o =>
        cases o with
        | cells c e fr => right; exact ⟨c, e, fr, _, rfl, rfl⟩
        | _ => left; rfl
    · rw [if_neg hk]; exact .inl rfl
theorem freeze_cell (w : World) (p : Addr) (n : Nat) (b o : Nat) : (w.freeze p n).cell? ⟨b, o, none⟩ = w.cell? ⟨b, o, none⟩ := by
  unfold World.cell?
  rcases freeze_at w p n b with h | ⟨cs, e, fr, fr', h1, h2⟩
  · simp only [h]
  · simp only [h1, h2]
theorem freeze_other (w : World) (p : Addr) (n : Nat) (k : Nat) (hk : k ≠ p.block) : (w.freeze p n).heap[k]? = w.heap[k]? := by
  unfold World.freeze
  split
  · rfl
  · simp only [Array.getElem?_modify]
    rw [if_neg (fun e => hk e.symm)]
theorem freeze_size (w : World) (p : Addr) (n : Nat) : (w.freeze p n).heap.size = w.heap.size := by
  unfold World.freeze
  split
  · rfl
  · simp
theorem repL_bytes {G : Gh} {l : List UInt8} {vs : List Value} (h : RepL G (cl bC l) vs) : vs = l.map fun b => .int .u8 b.toNat := by
  rw [← cl_bytes] at h
  have e : l.map byteC = (l.map fun b => Value.int .u8 b.toNat).map .val := by simp [byteC, Function.comp]
  rw [e] at h
  exact repL_vals h
theorem fc29 {gl : Nat → C} (he : Entered Tryd.prog 29) (l : List UInt8) (h0 : l ≠ []) (h63 : l.length ≤ 9223372036854775807) : FC Tryd.prog gl 29 [.bt 0 54 2] [some [.bt 0 54 2, .gv 1 l.length (1, 5)], some (cl bC l)] (.val (str l)) [some deadC, some deadC] := by
  refine ⟨he, fun G w vs W hT hgl hr => ?_⟩
  obtain ⟨v, hv, blk, hm, hp, hs⟩ : ∃ v, vs = #[v] ∧ ∃ blk, G.μ 0 = some blk ∧ v = .pointer (some ⟨blk, 0, none⟩) ∧ G.σ 0 = some (2, 54) := by
    simp only [RepL] at hr
    obtain ⟨v, vs', h1, h2, rfl⟩ := hr
    simp only [Rep] at h2
    obtain ⟨blk, q1, q2, q3⟩ := h2
    exact ⟨v, by apply Array.ext'; simpa using h1, blk, q1, q2, q3⟩
  subst hv hp
  have hat0 : Hp.at [some [.bt 0 54 2, .gv 1 l.length (1, 5)], some (cl bC l)] 0 = some [.bt 0 54 2, .gv 1 l.length (1, 5)] := rfl
  have hat1 : Hp.at [some [.bt 0 54 2, .gv 1 l.length (1, 5)], some (cl bC l)] 1 = some (cl bC l) := by
    show liveC (some (cl bC l)) = _
    cases l with
    | nil => rfl
    | cons b l => rfl
  obtain ⟨cs, e, ⟨fr, q1, _⟩, q2, q3, q4, q5, q6⟩ := box_cells W hat0 hm
  obtain ⟨u1, hu1, hr1⟩ := q2.get 1 _ rfl
  have hc1 := q4 1 u1 hu1
  simp only [Rep] at hr1
  obtain ⟨a, cap, rfl, hnc, hcm, hdj⟩ := hr1
  have hl0 : 0 < l.length := List.length_pos_iff.2 h0
  rcases hdj with ⟨h, _⟩ | ⟨g, m1, rfl, s1⟩
  · omega
  obtain ⟨g', cs1, e1, fr1, r1, r2, r3, r4⟩ := W.siz 1 _ s1
  rw [m1] at r1; cases r1
  simp only [Nat.mul_one] at r3 r4
  subst r4
  obtain ⟨cs2, e2, ⟨fr2, p1, _⟩, p2, p3, p4, p5, p6⟩ := box_cells W hat1 m1
  rw [r2] at p1
  obtain ⟨rfl, rfl⟩ : cs1 = cs2 ∧ fr1 = fr2 := by cases p1; exact ⟨rfl, rfl⟩
  have hlen : (cl bC l).length = l.length := by rw [← cl_bytes]; simp
  have hvs := repL_bytes p2
  refine (Tryd.bstr blk g cap l w cs1 fr1 hc1 r2 (by rw [hlen] at p5; exact p5) h63 (fun j x hx => p4 j _ (by rw [hvs, List.getElem?_map, hx]; rfl)) h0 (by omega)).mono ?_
  rintro e' w' ⟨h1, h2⟩
  have hat' : ∀ b, Hp.at [some deadC, some deadC] b = none := fun b => by
    match b with
    | 0 => rfl
    | 1 => rfl
    | b + 2 => rfl
  have hmp' : ∀ b, Hp.mp [some deadC, some deadC] b = none := fun b => by
    match b with
    | 0 => rfl
    | 1 => rfl
    | b + 2 => rfl
  have hcell : ∀ b o, w'.cell? ⟨b, o, none⟩ = w.cell? ⟨b, o, none⟩ := fun b o => by rw [h2]; exact freeze_cell w.drew _ _ b o
  have hsz : w'.heap.size = w.heap.size := by rw [h2]; exact freeze_size w.drew _ _
  have hoth : ∀ k, k ≠ g → w'.heap[k]? = w.heap[k]? := fun k hk => by rw [h2]; exact freeze_other w.drew _ _ k hk
  refine ⟨_, G, h1, rep_val.2 rfl, (fun s n xs e => by cases e), ⟨fun blk off u hk => by rw [hcell]; exact W.known blk off u hk, fun b c hb => (by rw [hat' b] at hb; cases hb), fun b blk hb => ?_, fun b b' c c' blk hb => (by rw [hat' b] at hb; cases hb), W.sep, fun g p hg => by rw [hsz]; exact W.tlt g p hg, fun b c off s n xs blk v hb => (by rw [hat' b] at hb; cases hb), fun b z hz => ?_, fun b l hb => (by rw [hmp' b] at hb; cases hb), fun b b' l l' blk hb => (by rw [hmp' b] at hb; cases hb)⟩, by rw [h2]; unfold World.freeze; split <;> rfl, by rw [h2]; unfold World.freeze; split <;> rfl, by rw [h2]; unfold World.freeze; split <;> rfl, by rw [hsz]; exact Nat.le_refl _, .refl G, fun k hk ht hmu => ⟨hoth k (fun e => hmu 1 (e ▸ m1)), ht, hmu, fun _ => rfl⟩⟩
  · obtain ⟨⟨c, hc⟩, hlt⟩ := W.dom b blk hb
    refine ⟨?_, by rw [hsz]; exact hlt⟩
    match b, hc with
    | 0, _ => exact ⟨deadC, rfl⟩
    | 1, _ => exact ⟨deadC, rfl⟩
    | b + 2, hc => cases hc
  · obtain ⟨k, c0, e0, f0, t1, t2, t3⟩ := W.siz b z hz
    by_cases hk : k = g
    · subst hk
      rcases freeze_at w.drew ⟨k, 0, none⟩ l.length k with h | ⟨ca, ea, fa, fb, a1, a2⟩
      · exact ⟨k, c0, e0, f0, t1, by rw [h2, h]; exact t2, t3⟩
      · have a1' : w.heap[k]? = some (.cells ca ea fa) := a1
        rw [t2] at a1'
        obtain ⟨rfl, rfl⟩ : c0 = ca ∧ e0 = ea := by cases a1'; exact ⟨rfl, rfl⟩
        exact ⟨k, c0, e0, fb, t1, by rw [h2]; exact a2, t3⟩
    · exact ⟨k, c0, e0, f0, t1, by rw [hoth k hk]; exact t2, t3⟩
end Go.Sx
namespace Go.Sx
open Go.RowKit
theorem loc_range' (n : Nat) : ∀ (k s b : Nat), loc (List.range' n k) s b = if n ≤ b ∧ b < n + k then some (s + (b - n)) else none
  | 0, s, b => by
    rw [if_neg (by omega)]; rfl
  | k + 1, s, b => by
    rw [List.range'_succ]
    simp only [loc]
    by_cases h : b = n
    · rw [if_pos h, if_pos (by omega)]; congr 1; omega
    · rw [if_neg h, loc_range' (n + 1) k (s + 1) b]
      by_cases h2 : n ≤ b ∧ b < n + (k + 1)
      · rw [if_pos (by omega), if_pos h2]; congr 1; omega
      · rw [if_neg (by omega), if_neg h2]
section
variable {n k : Nat}
theorem loc_sh {b : Nat} (h : b < k) : loc (List.range' n k) 0 (n + b) = some b := by
  rw [loc_range', if_pos (by omega)]; congr 1; omega
mutual
theorem mv_bk : ∀ c : C, noRef k c = true → mvC (List.range' n k) (bkC (n + ·) c) = c
  | .top, _ => by simp only [bkC, mvC]
  | .val v, _ => by simp only [bkC, mvC]
  | .sv b o m, h => by simp only [noRef, decide_eq_true_eq] at h; simp only [bkC, mvC, loc_sh h]
  | .gv b m s, h => by simp only [noRef, decide_eq_true_eq] at h; simp only [bkC, mvC, loc_sh h]
  | .bp b o, h => by simp only [noRef, decide_eq_true_eq] at h; simp only [bkC, mvC, loc_sh h]
  | .mp b, h => by simp only [noRef, decide_eq_true_eq] at h; simp only [bkC, mvC, loc_sh h]
  | .bt b t m, h => by simp only [noRef, decide_eq_true_eq] at h; simp only [bkC, mvC, loc_sh h]
  | .sl r m xs, h => by simp only [noRef] at h; simp only [bkC, mvC, mv_bks xs h]
  | .kp xs, h => by simp only [noRef] at h; simp only [bkC, mvC, mv_bks xs h]
  | .agg xs, h => by simp only [noRef] at h; simp only [bkC, mvC, mv_bks xs h]
  | .tup xs, h => by simp only [noRef] at h; simp only [bkC, mvC, mv_bks xs h]
  | .fn f xs, h => by simp only [noRef] at h; simp only [bkC, mvC, mv_bks xs h]
theorem mv_bks : ∀ l : List C, noRefs k l = true → mvCs (List.range' n k) (bkCs (n + ·) l) = l
  | [], _ => by simp only [bkCs, mvCs]
  | x :: l, h => by
    simp only [noRefs, Bool.and_eq_true] at h
    simp only [bkCs, mvCs, mv_bk x h.1, mv_bks l h.2]
end
end
/-- Shifted. -/
def shH (n : Nat) (h : Hp) : Hp := h.map (Option.map (bkCs (n + ·)))
def okBox (o : Option (List C)) : Bool := (liveC o).isSome || (mpL o).isSome || o.isNone
theorem shH_nil (n : Nat) : shH n [] = [] := rfl
theorem shH_cons (n : Nat) (o : Option (List C)) (h : Hp) : shH n (o :: h) = o.map (bkCs (n + ·)) :: shH n h := rfl
theorem live_bk {r : Nat → Nat} {o : Option (List C)} (h : (liveC o).isSome = true) : (liveC (o.map (bkCs r))).isSome = true := by
  cases o with
  | none => exact h
  | some cells =>
    cases cells with
    | nil => rfl
    | cons c l => cases c <;> first | rfl | (simp only [liveC] at h; cases h)
theorem mp_bk {r : Nat → Nat} {o : Option (List C)} (h : (mpL o).isSome = true) : (mpL (o.map (bkCs r))).isSome = true := by
  obtain ⟨l, hl⟩ := Option.isSome_iff_exists.1 h
  unfold mpL at hl
  split at hl
  · cases hl; rfl
  · cases hl
theorem FC.pre {P : Program} {gl : Nat → C} {f : Nat} {args : List C} {c : C} {X h' : Hp} (hf : FC P gl f args X c h') (pre : Hp) (hpre : ∀ o ∈ pre, okBox o = true) (hX : ∀ o ∈ X, ((liveC o).isSome || (mpL o).isSome) = true)
    (hn : noRefs X.length args = true) (hnX : ∀ o ∈ X, ∀ cells, o = some cells → noRefs X.length cells = true) (hk : X.length ≤ h'.length) (hg : ∀ g, noRef 0 (gl g) = true) :
    FC P gl f (bkCs (pre.length + ·) args) (pre ++ shH pre.length X) (bkC (pre.length + ·) c) (pre ++ shH pre.length h') := by
  have hρl : (List.range' pre.length X.length).length = X.length := by simp
  have hHl : (pre ++ shH pre.length X).length = pre.length + X.length := by simp [shH]
  have hget : ∀ i, (pre ++ shH pre.length X)[pre.length + i]? = (X[i]?).map (Option.map (bkCs (pre.length + ·))) := fun i => by
    rw [List.getElem?_append_right (by omega)]
    unfold shH
    rw [List.getElem?_map, show pre.length + i - pre.length = i by omega]
  have hmv : mvH (List.range' pre.length X.length) (pre ++ shH pre.length X) = X := by
    unfold mvH
    apply List.ext_getElem?
    intro i
    rw [List.getElem?_map]
    by_cases hi : i < X.length
    · rw [List.getElem?_range' hi, Option.map_some, Nat.one_mul, hget]
      rw [List.getElem?_eq_getElem hi]
      simp only [Option.map_some, Option.getD_some]
      congr 1
      cases hx : X[i] with
      | none => rfl
      | some cells =>
        simp only [Option.map_some]
        congr 1
        exact mv_bks cells (hnX _ (List.getElem_mem hi) cells hx)
    · rw [List.getElem?_eq_none (by rw [hρl]; omega), List.getElem?_eq_none (by omega)]; rfl
  have hR : bkR (List.range' pre.length X.length) (pre ++ shH pre.length X).length = (pre.length + ·) := by
    funext i
    unfold bkR
    by_cases hi : i < X.length
    · rw [List.getElem?_range' hi]; simp
    · rw [List.getElem?_eq_none (by rw [hρl]; omega)]
      simp only [hρl, hHl]
      omega
  have := FC.frameH (P := P) (gl := gl) (f := f) (args := bkCs (pre.length + ·) args) (c := c) (H := pre ++ shH pre.length X) (h' := h') (List.range' pre.length X.length) List.nodup_range' (fun b hb => by
      obtain ⟨h1, h2⟩ := List.mem_range'_1.1 hb
      obtain ⟨i, rfl⟩ : ∃ i, b = pre.length + i := ⟨b - pre.length, by omega⟩
      have hi : i < X.length := by omega
      have h3 := hX _ (List.getElem_mem hi)
      simp only [Bool.or_eq_true] at h3
      unfold Hp.at Hp.mp
      rw [hget, List.getElem?_eq_getElem hi]
      exact h3.imp (fun h => live_bk h) (fun h => mp_bk h))
    (fun b hb hnb => by
      rw [hHl] at hb
      have hlt : b < pre.length := by
        rcases Nat.lt_or_ge b pre.length with h | h
        · exact h
        · exact (hnb (List.mem_range'_1.2 ⟨h, by omega⟩)).elim
      have h3 := hpre _ (List.getElem_mem hlt)
      unfold Hp.at Hp.mp
      rw [List.getElem?_append_left hlt, List.getElem?_eq_getElem hlt]
      simp only [okBox, Bool.or_eq_true] at h3
      rcases h3 with (h | h) | h
      · exact .inl h
      · exact .inr (.inl h)
      · exact .inr (.inr (by congr 1; exact Option.isNone_iff_eq_none.1 h)))
    (by rw [hmv, mv_bks args hn]; exact hf) hg
  rw [hR] at this
  have hH : bkH (List.range' pre.length X.length) (pre ++ shH pre.length X) h' = pre ++ shH pre.length h' := by
    have hS : bkH (List.range' pre.length X.length) (pre ++ shH pre.length X) h' = ((List.range (pre.length + X.length)).map fun b => match loc (List.range' pre.length X.length) 0 b with
      | some i => ((h'[i]?).getD none).map (bkCs (pre.length + ·))
      | none => ((pre ++ shH pre.length X)[b]?).getD none) ++ (h'.drop X.length).map (Option.map (bkCs (pre.length + ·))) := by
      unfold bkH; rw [hR, hHl, hρl] <;> rfl
    rw [hS, List.range_add, List.map_append, List.append_assoc]
    congr 1
    · apply List.ext_getElem?
      intro i
      rw [List.getElem?_map]
      by_cases hi : i < pre.length
      · rw [List.getElem?_range hi, Option.map_some, loc_range', if_neg (by omega)]
        simp only []
        rw [List.getElem?_append_left hi, List.getElem?_eq_getElem hi]; rfl
      · rw [List.getElem?_eq_none (by simp; omega), List.getElem?_eq_none (by omega)]; rfl
    · unfold shH
      rw [List.map_map]
      conv => rhs; rw [← List.take_append_drop X.length h', List.map_append]
      congr 1
      apply List.ext_getElem?
      intro i
      rw [List.getElem?_map, List.getElem?_map, List.getElem?_take]
      by_cases hi : i < X.length
      · rw [List.getElem?_range hi, if_pos hi, List.getElem?_eq_getElem (by omega)]
        simp only [Option.map_some, Function.comp, loc_sh hi]
        rw [List.getElem?_eq_getElem (by omega)]; rfl
      · rw [List.getElem?_eq_none (by simp; omega), if_neg hi]; rfl
  rw [hH] at this
  exact this
/-- A call with a row in which nothing stands of what it names: never made. -/
theorem FC.never {P : Program} {gl : Nat → C} {f : Nat} {args : List C} {c : C} {h' : Hp} (he : Entered P f) (b t n : Nat) (l : List C) (ha : args = .bt b t n :: l) : FC P gl f args [] c h' := by
  refine ⟨he, fun G w vs W _ _ hr => ?_⟩
  subst ha
  simp only [RepL, Rep] at hr
  obtain ⟨v, vs', _, ⟨blk, h1, _⟩, _⟩ := hr
  obtain ⟨⟨c, hc⟩, _⟩ := W.dom b blk h1
  cases hc
end Go.Sx
namespace Go.Sx
open Go.RowKit
def svG (s y : Nat) (z : List Value) (n o m : Nat) (c : Option (List C)) : Option (List C) := c.bind fun cells =>
  if o + m * s ≤ cells.length ∧ decide ((((cells.drop o).take (m * s)).map C.noR).length = m * s ∧ 0 < s ∧ z.length = s ∧ (n + m) * y ≤ 140737488355328 ∧ n + m ≤ 9223372036854775807 ∧ z.all (·.oneCell') = true) = true then some (((cells.drop o).take (m * s)).map C.noR) else none
theorem svG_none (s y : Nat) (z : List Value) (n o m : Nat) : svG s y z n o m none = none := rfl
theorem gwQ_nilsv (e : Nat) (u : TypeDesc) (s y : Nat) (z : List Value) (b o m : Nat) : gwQ e (some ⟨u, s, y, z⟩) (.val (.slice none 0 0)) (.sv b o m) = some (.ap none (s, e) m fun h => svG s y z 0 o m (h.at b)) := rfl
theorem gwQ_gvsv (e : Nat) (u : TypeDesc) (s y : Nat) (z : List Value) (b' n b o m : Nat) : gwQ e (some ⟨u, s, y, z⟩) (.gv b' n (s, e)) (.sv b o m) = some (.ap (some (b', n)) (s, e) m fun h => svG s y z n o m (h.at b)) := by
  unfold gwQ
  simp only [if_true]
  rfl
theorem svG_cl {α : Type} (f : α → List C) {s : Nat} [hf : Cel f s] (y : Nat) (z : List Value) (n m : Nat) (l : List α) (hm : m = l.length ∧ z.length = s ∧ z.all (·.oneCell') = true ∧ (n + m) * y ≤ 140737488355328 ∧ n + m ≤ 9223372036854775807) :
    svG s y z n 0 m (some (cl f l)) = some (cl f l) := by
  obtain ⟨rfl, h1, h2, h3, h4⟩ := hm
  have hl := cl_len (f := f) l
  have e : ((List.drop 0 (cl f l)).take (l.length * s)).map C.noR = cl f l := by
    rw [List.drop_zero, List.take_of_length_le (by omega), cl_noR]
  unfold svG
  simp only [Option.bind_some]
  rw [e, if_pos ⟨by omega, by simp only [decide_eq_true_eq]; exact ⟨hl, hf.pos, h1, h3, h4, h2⟩⟩]
theorem apFP_none (h : Hp) : apFP none h = (4, 0) := rfl
theorem svG_w8 (y : UInt8) (n m : Nat) (l : List UInt8) (hm : m = l.length ∧ n + m ≤ 140737488355328) : svG 1 1 [w8 y] n 0 m (some (cl bC l)) = some (cl bC l) :=
  svG_cl bC 1 [w8 y] n m l ⟨hm.1, rfl, rfl, by omega, by omega⟩
mutual
theorem mvC_nr (ρ : List Nat) : ∀ c : C, noRef 0 c = true → mvC ρ c = c
  | .top, _ => by simp only [mvC]
  | .val v, _ => by simp only [mvC]
  | .sv b o m, h => by simp [noRef] at h
  | .gv b m s, h => by simp [noRef] at h
  | .bp b o, h => by simp [noRef] at h
  | .mp b, h => by simp [noRef] at h
  | .bt b t m, h => by simp [noRef] at h
  | .sl r m xs, h => by simp only [noRef] at h; simp only [mvC, mvCs_nr ρ xs h]
  | .kp xs, h => by simp only [noRef] at h; simp only [mvC, mvCs_nr ρ xs h]
  | .agg xs, h => by simp only [noRef] at h; simp only [mvC, mvCs_nr ρ xs h]
  | .tup xs, h => by simp only [noRef] at h; simp only [mvC, mvCs_nr ρ xs h]
  | .fn f xs, h => by simp only [noRef] at h; simp only [mvC, mvCs_nr ρ xs h]
theorem mvCs_nr (ρ : List Nat) : ∀ l : List C, noRefs 0 l = true → mvCs ρ l = l
  | [], _ => by simp only [mvCs]
  | x :: l, h => by
    simp only [noRefs, Bool.and_eq_true] at h
    simp only [mvCs, mvC_nr ρ x h.1, mvCs_nr ρ l h.2]
end
attribute [go_sem] apFP_none svG_w8
attribute [go_sem] svG_none gwQ_nilsv gwQ_gvsv svG_cl
end Go.Sx
namespace Go.Sx
open Go.RowKit
def midR (n k s : Nat) (i : Nat) : Nat := if i < k then n + i else n + s + i
theorem FC.mid {P : Program} {gl : Nat → C} {f : Nat} {args : List C} {c : C} {X h' : Hp} (hf : FC P gl f args X c h') (pre suf : Hp) (hpre : ∀ o ∈ pre, okBox o = true) (hsuf : ∀ o ∈ suf, okBox o = true) (hX : ∀ o ∈ X, ((liveC o).isSome || (mpL o).isSome) = true)
    (hn : noRefs X.length args = true) (hnX : ∀ o ∈ X, ∀ cells, o = some cells → noRefs X.length cells = true) (hk : X.length ≤ h'.length) (hg : ∀ g, noRef 0 (gl g) = true) :
    FC P gl f (bkCs (pre.length + ·) args) (pre ++ (shH pre.length X ++ suf)) (bkC (midR pre.length X.length suf.length) c)
      (pre ++ ((h'.take X.length).map (Option.map (bkCs (midR pre.length X.length suf.length))) ++ (suf ++ (h'.drop X.length).map (Option.map (bkCs (midR pre.length X.length suf.length)))))) := by
  have hρl : (List.range' pre.length X.length).length = X.length := by simp
  have hHl : (pre ++ (shH pre.length X ++ suf)).length = pre.length + (X.length + suf.length) := by simp [shH]
  have hget : ∀ i, i < X.length → (pre ++ (shH pre.length X ++ suf))[pre.length + i]? = (X[i]?).map (Option.map (bkCs (pre.length + ·))) := fun i hi => by
    rw [List.getElem?_append_right (by omega), show pre.length + i - pre.length = i by omega, List.getElem?_append_left (by simp [shH]; omega)]
    unfold shH
    rw [List.getElem?_map]
  have hmv : mvH (List.range' pre.length X.length) (pre ++ (shH pre.length X ++ suf)) = X := by
    unfold mvH
    apply List.ext_getElem?
    intro i
    rw [List.getElem?_map]
    by_cases hi : i < X.length
    · rw [List.getElem?_range' hi, Option.map_some, Nat.one_mul, hget i hi]
      rw [List.getElem?_eq_getElem hi]
      simp only [Option.map_some, Option.getD_some]
      congr 1
      cases hx : X[i] with
      | none => rfl
      | some cells =>
        simp only [Option.map_some]
        congr 1
        exact mv_bks cells (hnX _ (List.getElem_mem hi) cells hx)
    · rw [List.getElem?_eq_none (by rw [hρl]; omega), List.getElem?_eq_none (by omega)]; rfl
  have hR : bkR (List.range' pre.length X.length) (pre ++ (shH pre.length X ++ suf)).length = midR pre.length X.length suf.length := by
    funext i
    unfold bkR midR
    by_cases hi : i < X.length
    · rw [List.getElem?_range' hi, if_pos hi]; simp
    · rw [List.getElem?_eq_none (by rw [hρl]; omega), if_neg hi]
      simp only [hρl, hHl]
      omega
  have := FC.frameH (P := P) (gl := gl) (f := f) (args := bkCs (pre.length + ·) args) (c := c) (H := pre ++ (shH pre.length X ++ suf)) (h' := h') (List.range' pre.length X.length) List.nodup_range' (fun b hb => by
      obtain ⟨h1, h2⟩ := List.mem_range'_1.1 hb
      obtain ⟨i, rfl⟩ : ∃ i, b = pre.length + i := ⟨b - pre.length, by omega⟩
      have hi : i < X.length := by omega
      have h3 := hX _ (List.getElem_mem hi)
      simp only [Bool.or_eq_true] at h3
      unfold Hp.at Hp.mp
      rw [hget i hi, List.getElem?_eq_getElem hi]
      exact h3.imp (fun h => live_bk h) (fun h => mp_bk h))
    (fun b hb hnb => by
      rw [hHl] at hb
      have key : ∃ o, (pre ++ (shH pre.length X ++ suf))[b]? = some o ∧ okBox o = true := by
        rcases Nat.lt_or_ge b pre.length with h | h
        · exact ⟨_, by rw [List.getElem?_append_left h, List.getElem?_eq_getElem h], hpre _ (List.getElem_mem h)⟩
        · have h2 : pre.length + X.length ≤ b := by
            rcases Nat.lt_or_ge b (pre.length + X.length) with h2 | h2
            · exact (hnb (List.mem_range'_1.2 ⟨h, h2⟩)).elim
            · exact h2
          have h3 : b - pre.length - X.length < suf.length := by omega
          refine ⟨suf[b - pre.length - X.length], ?_, hsuf _ (List.getElem_mem h3)⟩
          rw [List.getElem?_append_right h, List.getElem?_append_right (by simp [shH]; omega)]
          rw [show (shH pre.length X).length = X.length by simp [shH], List.getElem?_eq_getElem h3]
      obtain ⟨o, ho, h3⟩ := key
      unfold Hp.at Hp.mp
      rw [ho]
      simp only [okBox, Bool.or_eq_true] at h3
      rcases h3 with (h | h) | h
      · exact .inl h
      · exact .inr (.inl h)
      · exact .inr (.inr (by congr 1; exact Option.isNone_iff_eq_none.1 h)))
    (by rw [hmv, mv_bks args hn]; exact hf) hg
  rw [hR] at this
  have hH : bkH (List.range' pre.length X.length) (pre ++ (shH pre.length X ++ suf)) h' = pre ++ ((h'.take X.length).map (Option.map (bkCs (midR pre.length X.length suf.length))) ++ (suf ++ (h'.drop X.length).map (Option.map (bkCs (midR pre.length X.length suf.length))))) := by
    have hS : bkH (List.range' pre.length X.length) (pre ++ (shH pre.length X ++ suf)) h' = ((List.range (pre.length + (X.length + suf.length))).map fun b => match loc (List.range' pre.length X.length) 0 b with
      | some i => ((h'[i]?).getD none).map (bkCs (midR pre.length X.length suf.length))
      | none => ((pre ++ (shH pre.length X ++ suf))[b]?).getD none) ++ (h'.drop X.length).map (Option.map (bkCs (midR pre.length X.length suf.length))) := by
      unfold bkH; rw [hR, hHl, hρl] <;> rfl
    rw [hS, List.range_add, List.range_add, List.map_append, List.map_append, List.map_append, List.append_assoc, List.append_assoc]
    congr 1
    · apply List.ext_getElem?
      intro i
      rw [List.getElem?_map]
      by_cases hi : i < pre.length
      · rw [List.getElem?_range hi, Option.map_some, loc_range', if_neg (by omega)]
        simp only []
        rw [List.getElem?_append_left hi, List.getElem?_eq_getElem hi]; rfl
      · rw [List.getElem?_eq_none (by simp; omega), List.getElem?_eq_none (by omega)]; rfl
    · congr 1
      · apply List.ext_getElem?
        intro i
        rw [List.map_map, List.getElem?_map, List.getElem?_map, List.getElem?_take]
        by_cases hi : i < X.length
        · rw [List.getElem?_range hi, if_pos hi, List.getElem?_eq_getElem (by omega)]
          simp only [Option.map_some, Function.comp, loc_sh hi]
          rw [List.getElem?_eq_getElem (by omega)]; rfl
        · rw [List.getElem?_eq_none (by simp; omega), if_neg hi]; rfl
      · congr 1
        apply List.ext_getElem?
        intro i
        rw [List.map_map, List.map_map, List.getElem?_map]
        by_cases hi : i < suf.length
        · rw [List.getElem?_range hi]
          simp only [Option.map_some, Function.comp]
          rw [loc_range', if_neg (by omega)]
          simp only []
          rw [List.getElem?_append_right (by omega), List.getElem?_append_right (by simp [shH] <;> omega)]
          rw [show pre.length + (X.length + i) - pre.length - (shH pre.length X).length = i by simp [shH] <;> omega, List.getElem?_eq_getElem hi]; rfl
        · rw [List.getElem?_eq_none (by simp; omega), List.getElem?_eq_none (by omega)]; rfl
  rw [hH] at this
  exact this
end Go.Sx
