/-
  A box that nobody writes any more. And what follows.
-/
import Derived.Test.YtljjjkmiegeocaaProg
import Derived.KernelRfl
import Derived.Test.YtljjjkmiegeocaaPai
set_option linter.unusedSimpArgs false
set_option linter.unusedVariables false
namespace Go.Sx
open Go.RowKit
def okF (h : Hp) (b b' : Nat) : Bool := (h.at b').isSome && b' != b
mutual
def scr (ok : Nat → Bool) : C → C
  | .sv b o n => if ok b = true then .sv b o n else .top
  | .gv b n s => if ok b = true then .gv b n s else .top
  | .bp b o => if ok b = true then .bp b o else .top
  | .sl r n xs => .sl r n (scrs ok xs)
  | .kp xs => .kp (scrs ok xs)
  | .agg xs => .agg (scrs ok xs)
  | .tup xs => .tup (scrs ok xs)
  | .fn f xs => .fn f (scrs ok xs)
  | .top => .top
  | .val v => .val v
def scrs (ok : Nat → Bool) : List C → List C
  | [] => []
  | x :: xs => scr ok x :: scrs ok xs
end
mutual
def fzC (ok : Nat → Bool) (b : Nat) (ys : List C) : C → C
  | .sv b' o n => if b' = b then (if o + n ≤ ys.length then .sl .no n ((ys.drop o).take n) else .top) else if ok b' = true then .sv b' o n else .top
  | .gv b' n s => if b' = b then (if n * s ≤ ys.length then .sl .no n (ys.take (n * s)) else .top) else if ok b' = true then .gv b' n s else .top
  | .bp b' o => if b' = b then .kp (ys.drop o) else if ok b' = true then .bp b' o else .top
  | .sl r n xs => .sl r n (fzCs ok b ys xs)
  | .kp xs => .kp (fzCs ok b ys xs)
  | .agg xs => .agg (fzCs ok b ys xs)
  | .tup xs => .tup (fzCs ok b ys xs)
  | .fn f xs => .fn f (fzCs ok b ys xs)
  | .top => .top
  | .val v => .val v
def fzCs (ok : Nat → Bool) (b : Nat) (ys : List C) : List C → List C
  | [] => []
  | x :: xs => fzC ok b ys x :: fzCs ok b ys xs
end
theorem scrs_map (ok : Nat → Bool) : ∀ xs : List C, scrs ok xs = xs.map (scr ok)
  | [] => rfl
  | x :: xs => by simp [scrs, scrs_map ok xs]
theorem fzCs_map (ok : Nat → Bool) (b : Nat) (ys : List C) : ∀ xs : List C, fzCs ok b ys xs = xs.map (fzC ok b ys)
  | [] => rfl
  | x :: xs => by simp [fzCs, fzCs_map ok b ys xs]
def fzH (ok : Nat → Bool) (b : Nat) (ys : List C) (h : Hp) : Hp := (h.map fun o => o.map (fzCs ok b ys)).set b (some deadC)
open Classical in
noncomputable def fzG (G : Gh) (w : World) (b k : Nat) : Gh where
  K := fun g o => if G.μ b = some g ∧ o < k then w.cell? ⟨g, o, none⟩ else G.K g o
  μ := fun b' => if b' = b ∨ (∃ g, G.μ b = some g ∧ G.μ b' = some g) then none else G.μ b'
  T := G.T
  σ := fun b' => if b' = b ∨ (∃ g, G.μ b = some g ∧ G.μ b' = some g) then none else G.σ b'
section
variable {cx : Cx} {n : Nat} {st : St} {Q : Ex → St → Prop} {G : Gh} {w : World} {h : Hp} {b : Nat} {cells : List C}
theorem fz_keep (H : WorldOK G h w) (hb : h.at b = some cells) {b' : Nat} (hok : okF h b b' = true) : ¬ (b' = b ∨ (∃ g, G.μ b = some g ∧ G.μ b' = some g)) := by
  simp only [okF, Bool.and_eq_true, bne_iff_ne, ne_eq] at hok
  obtain ⟨h1, h2⟩ := hok
  obtain ⟨c', hc'⟩ := Option.isSome_iff_exists.1 h1
  rintro (e | ⟨g, e1, e2⟩)
  · exact h2 e
  · exact h2 (H.inj b' b _ _ g hc' hb e2 e1)
theorem fz_le (H : WorldOK G h w) (k : Nat) : (cutμ G 0).Le (fzG G w b k) :=
  ⟨fun g o u x => (by
    have x' : G.K g o = some u := x
    simp only [fzG]
    rw [if_neg]
    · exact x'
    · rintro ⟨e, _⟩
      rw [(H.sep b g e).1 o] at x'; cases x'), fun b k x => by simp [cutμ] at x, fun b k x => by simp [cutμ] at x⟩
theorem fz_μ (H : WorldOK G h w) (hb : h.at b = some cells) {b' k g : Nat} (hok : okF h b b' = true) (hm : G.μ b' = some g) : (fzG G w b k).μ b' = some g := by
  simp only [fzG]; rw [if_neg (fz_keep H hb hok)]; exact hm
theorem fz_σ (H : WorldOK G h w) (hb : h.at b = some cells) {b' k g : Nat} (hok : okF h b b' = true) (hm : G.σ b' = some g) : (fzG G w b k).σ b' = some g := by
  simp only [fzG]; rw [if_neg (fz_keep H hb hok)]; exact hm
mutual
theorem scr_rep (H : WorldOK G h w) (hb : h.at b = some cells) (k : Nat) : ∀ (c : C) (v : Value), Rep G c v → Rep (fzG G w b k) (scr (okF h b) c) v
  | .top, _, _ => by simp [scr, Rep]
  | .val u, v, r => by simpa [scr, Rep] using r
  | .sl r n xs, v, x => by
    simp only [scr, Rep] at x ⊢
    obtain ⟨a, cap, h1, h2, h3, h4, h5⟩ := x
    refine ⟨a, cap, h1, h2, h3, h4, ?_⟩
    rcases h5 with h5 | ⟨blk, off, ha, hk⟩
    · left; rw [h5]; rfl
    · exact .inr ⟨blk, off, ha, scr_repK H hb k xs blk off hk⟩
  | .sv b' off n, v, x => by
    simp only [scr]
    split
    · rename_i hok
      simp only [Rep] at x ⊢
      obtain ⟨a, cap, h1, h2, h3, h4⟩ := x
      exact ⟨a, cap, h1, h2, h3, fun hz => by obtain ⟨blk, q1, q2⟩ := h4 hz; exact ⟨blk, fz_μ H hb hok q1, q2⟩⟩
    · simp [Rep]
  | .gv b' m s, v, x => by
    simp only [scr]
    split
    · rename_i hok
      simp only [Rep] at x ⊢
      obtain ⟨a, cap, h1, h2, h3, h4⟩ := x
      refine ⟨a, cap, h1, h2, h3, ?_⟩
      rcases h4 with h4 | ⟨blk, q1, q2, q3⟩
      · exact .inl h4
      · exact .inr ⟨blk, fz_μ H hb hok q1, q2, fz_σ H hb hok q3⟩
    · simp [Rep]
  | .bp b' off, v, x => by
    simp only [scr]
    split
    · rename_i hok
      simp only [Rep] at x ⊢
      obtain ⟨blk, h1, h2⟩ := x
      exact ⟨blk, fz_μ H hb hok h1, h2⟩
    · simp [Rep]
  | .kp xs, v, x => by
    simp only [scr, Rep] at x ⊢
    obtain ⟨blk, off, h1, h2⟩ := x
    exact ⟨blk, off, h1, scr_repK H hb k xs blk off h2⟩
  | .agg xs, v, x => by
    simp only [scr, Rep] at x ⊢
    obtain ⟨vs, h1, h2, h3⟩ := x
    exact ⟨vs, h1, scr_repL H hb k xs _ h2, h3⟩
  | .tup xs, v, x => by
    simp only [scr, Rep] at x ⊢
    obtain ⟨vs, h1, h2⟩ := x
    exact ⟨vs, h1, scr_repL H hb k xs _ h2⟩
  | .fn f xs, v, x => by
    simp only [scr, Rep] at x ⊢
    obtain ⟨vs, h1, h2⟩ := x
    exact ⟨vs, h1, scr_repL H hb k xs _ h2⟩
theorem scr_repL (H : WorldOK G h w) (hb : h.at b = some cells) (k : Nat) : ∀ (xs : List C) (vs : List Value), RepL G xs vs → RepL (fzG G w b k) (scrs (okF h b) xs) vs
  | [], vs, r => by simpa [scrs, RepL] using r
  | x :: xs, vs, r => by
    simp only [scrs, RepL] at r ⊢
    obtain ⟨v, vs', h1, h2, h3⟩ := r
    exact ⟨v, vs', h1, scr_rep H hb k x v h2, scr_repL H hb k xs vs' h3⟩
theorem scr_repK (H : WorldOK G h w) (hb : h.at b = some cells) (k : Nat) : ∀ (xs : List C) (blk off : Nat), RepK G blk off xs → RepK (fzG G w b k) blk off (scrs (okF h b) xs)
  | [], _, _, _ => by simp [scrs, RepK]
  | x :: xs, blk, off, r => by
    simp only [scrs, RepK] at r ⊢
    obtain ⟨⟨u, h1, h2, h3⟩, h4⟩ := r
    exact ⟨⟨u, (fz_le H k).K _ _ _ h1, h2, scr_rep H hb k x u h3⟩, scr_repK H hb k xs blk (off + 1) h4⟩
end
/-- The cells, as they stand for good. -/
def fzY (h : Hp) (b : Nat) (cells : List C) : List C := (scrs (okF h b) cells).map C.noR
theorem fzY_len (h : Hp) (b : Nat) (cells : List C) : (fzY h b cells).length = cells.length := by simp [fzY, scrs_map]
theorem fz_row (H : WorldOK G h w) (hb : h.at b = some cells) {blk : Nat} (hm : G.μ b = some blk) : RepK (fzG G w b cells.length) blk 0 (fzY h b cells) := by
  obtain ⟨cs, e, ⟨fr, q2, _⟩, q0, q3, q4⟩ := H.bx hb hm
  refine RepK.of_get fun i x hx => ?_
  have hil : i < cells.length := by have := (List.getElem?_eq_some_iff.1 hx).1; rwa [fzY_len] at this
  unfold fzY at hx
  rw [scrs_map, List.map_map, List.getElem?_map] at hx
  cases hc : cells[i]? with
  | none => rw [hc] at hx; cases hx
  | some y =>
    rw [hc] at hx
    simp only [Option.map_some, Option.some.injEq, Function.comp] at hx
    subst hx
    obtain ⟨u, hu, hr⟩ := q3.get i y hc
    rw [List.getElem?_take, if_pos hil] at hu
    refine ⟨u, ?_, q4 u (List.mem_of_getElem? hu), (scr_rep H hb cells.length y u hr).noR⟩
    simp only [fzG, Nat.zero_add]
    rw [if_pos ⟨hm, hil⟩]
    exact cell_of q2 _ _ hu
mutual
theorem fzC_rep (H : WorldOK G h w) (hb : h.at b = some cells) : ∀ (c : C) (v : Value), Rep G c v → Rep (fzG G w b cells.length) (fzC (okF h b) b (fzY h b cells) c) v
  | .top, _, _ => by simp [fzC, Rep]
  | .val u, v, r => by simpa [fzC, Rep] using r
  | .sl r n xs, v, x => by
    simp only [fzC, Rep] at x ⊢
    obtain ⟨a, cap, h1, h2, h3, h4, h5⟩ := x
    refine ⟨a, cap, h1, h2, h3, h4, ?_⟩
    rcases h5 with h5 | ⟨blk, off, ha, hk⟩
    · left; rw [h5]; rfl
    · exact .inr ⟨blk, off, ha, fzC_repK H hb xs blk off hk⟩
  | .sv b' off n, v, x => by
    simp only [fzC]
    split
    · rename_i e
      subst e
      split
      · rename_i hle
        simp only [Rep] at x ⊢
        obtain ⟨a, cap, h1, h2, h3, h4⟩ := x
        refine ⟨a, cap, h1, h2, h3, by simp, ?_⟩
        by_cases hn : n = 0
        · left; subst hn; simp
        · right
          obtain ⟨blk, q1, q2⟩ := h4 hn
          refine ⟨blk, off, q2, ?_⟩
          have := (fz_row H hb q1).drop off
          rw [Nat.zero_add] at this
          exact this.take n
      · simp [Rep]
    · split
      · rename_i hok
        simp only [Rep] at x ⊢
        obtain ⟨a, cap, h1, h2, h3, h4⟩ := x
        exact ⟨a, cap, h1, h2, h3, fun hz => by obtain ⟨blk, q1, q2⟩ := h4 hz; exact ⟨blk, fz_μ H hb hok q1, q2⟩⟩
      · simp [Rep]
  | .gv b' m s, v, x => by
    simp only [fzC]
    split
    · rename_i e
      subst e
      split
      · rename_i hle
        simp only [Rep] at x ⊢
        obtain ⟨a, cap, h1, h2, h3, h4⟩ := x
        refine ⟨a, cap, h1, h2, h3, by simp, ?_⟩
        rcases h4 with ⟨rfl, _⟩ | ⟨blk, q1, q2, q3⟩
        · left; simp
        · right
          exact ⟨blk, 0, q2, (fz_row H hb q1).take _⟩
      · simp [Rep]
    · split
      · rename_i hok
        simp only [Rep] at x ⊢
        obtain ⟨a, cap, h1, h2, h3, h4⟩ := x
        refine ⟨a, cap, h1, h2, h3, ?_⟩
        rcases h4 with h4 | ⟨blk, q1, q2, q3⟩
        · exact .inl h4
        · exact .inr ⟨blk, fz_μ H hb hok q1, q2, fz_σ H hb hok q3⟩
      · simp [Rep]
  | .bp b' off, v, x => by
    simp only [fzC]
    split
    · rename_i e
      subst e
      simp only [Rep] at x ⊢
      obtain ⟨blk, h1, h2⟩ := x
      refine ⟨blk, off, h2, ?_⟩
      have := (fz_row H hb h1).drop off
      rwa [Nat.zero_add] at this
    · split
      · rename_i hok
        simp only [Rep] at x ⊢
        obtain ⟨blk, h1, h2⟩ := x
        exact ⟨blk, fz_μ H hb hok h1, h2⟩
      · simp [Rep]
  | .kp xs, v, x => by
    simp only [fzC, Rep] at x ⊢
    obtain ⟨blk, off, h1, h2⟩ := x
    exact ⟨blk, off, h1, fzC_repK H hb xs blk off h2⟩
  | .agg xs, v, x => by
    simp only [fzC, Rep] at x ⊢
    obtain ⟨vs, h1, h2, h3⟩ := x
    exact ⟨vs, h1, fzC_repL H hb xs _ h2, h3⟩
  | .tup xs, v, x => by
    simp only [fzC, Rep] at x ⊢
    obtain ⟨vs, h1, h2⟩ := x
    exact ⟨vs, h1, fzC_repL H hb xs _ h2⟩
  | .fn f xs, v, x => by
    simp only [fzC, Rep] at x ⊢
    obtain ⟨vs, h1, h2⟩ := x
    exact ⟨vs, h1, fzC_repL H hb xs _ h2⟩
theorem fzC_repL (H : WorldOK G h w) (hb : h.at b = some cells) : ∀ (xs : List C) (vs : List Value), RepL G xs vs → RepL (fzG G w b cells.length) (fzCs (okF h b) b (fzY h b cells) xs) vs
  | [], vs, r => by simpa [fzCs, RepL] using r
  | x :: xs, vs, r => by
    simp only [fzCs, RepL] at r ⊢
    obtain ⟨v, vs', h1, h2, h3⟩ := r
    exact ⟨v, vs', h1, fzC_rep H hb x v h2, fzC_repL H hb xs vs' h3⟩
theorem fzC_repK (H : WorldOK G h w) (hb : h.at b = some cells) : ∀ (xs : List C) (blk off : Nat), RepK G blk off xs → RepK (fzG G w b cells.length) blk off (fzCs (okF h b) b (fzY h b cells) xs)
  | [], _, _, _ => by simp [fzCs, RepK]
  | x :: xs, blk, off, r => by
    simp only [fzCs, RepK] at r ⊢
    obtain ⟨⟨u, h1, h2, h3⟩, h4⟩ := r
    exact ⟨⟨u, (fz_le H _).K _ _ _ h1, h2, fzC_rep H hb x u h3⟩, fzC_repK H hb xs blk (off + 1) h4⟩
end
theorem fzC_own {ok : Nat → Bool} {ys : List C} {c : C} {s m : Nat} {xs : List C} (hc : fzC ok b ys c = .sl (.own s) m xs) : ∃ zs, c = .sl (.own s) m zs := by
  cases c with
  | sl r k zs => simp only [fzC] at hc; cases hc; exact ⟨zs, rfl⟩
  | sv b o k => simp only [fzC] at hc; repeat' split at hc
                all_goals cases hc
  | gv b o k => simp only [fzC] at hc; repeat' split at hc
                all_goals cases hc
  | bp b o => simp only [fzC] at hc; repeat' split at hc
              all_goals cases hc
  | _ => simp only [fzC] at hc; cases hc
theorem fzH_at {ok : Nat → Bool} {ys : List C} (hb : h.at b = some cells) {j : Nat} {c' : List C} (hj : Hp.at (fzH ok b ys h) j = some c') : j ≠ b ∧ ∃ c0, h.at j = some c0 ∧ c' = fzCs ok b ys c0 := by
  have hlen := Hp.at_lt hb
  unfold fzH at hj
  rw [Hp.at_set (by simpa using hlen)] at hj
  split at hj
  · cases hj
  · rename_i hne
    refine ⟨hne, ?_⟩
    have h1 := Hp.at_some hj
    rw [List.getElem?_map] at h1
    cases hq : h[j]? with
    | none => rw [hq] at h1; cases h1
    | some o =>
      rw [hq] at h1
      cases o with
      | none => cases h1
      | some c0 =>
        simp only [Option.map_some, Option.some.injEq] at h1
        refine ⟨c0, ?_, h1.symm⟩
        have hl := Hp.at_live hj
        unfold Hp.at
        rw [hq]
        subst h1
        show liveC (some c0) = _
        cases c0 with
        | nil => rfl
        | cons x l =>
          cases x with
          | tup xs => simp only [fzCs, fzC] at hl; cases hl
          | _ => rfl
theorem OwnRow.fz {k : Nat} {p : Place} {v : Value} {s m : Nat} (O : OwnRow G w p v s m) : OwnRow (fzG G w b k) w p v s m := by
  rcases O with O | ⟨g, cap, cur, e, a1, a2, a3, a4, a5, a6⟩
  · exact .inl O
  · refine .inr ⟨g, cap, cur, e, a1, a2, a3, a4, fun o ho => ?_, fun b' hb' => ?_⟩
    · simp only [fzG]
      rw [if_neg (fun x => a6 b x.1)]
      exact a5 o ho
    · simp only [fzG] at hb'
      split at hb'
      · cases hb'
      · exact a6 b' hb'
theorem WorldOK.fz (H : WorldOK G h w) (hb : h.at b = some cells) : WorldOK (fzG G w b cells.length) (fzH (okF h b) b (fzY h b cells) h) w := by
  have hlen := Hp.at_lt hb
  have hμ : ∀ {j blk}, (fzG G w b cells.length).μ j = some blk → G.μ j = some blk ∧ j ≠ b ∧ G.μ b ≠ some blk := fun {j blk} x => by
    simp only [fzG] at x
    split at x
    · cases x
    · rename_i hne
      refine ⟨x, fun e => hne (.inl e), fun e => hne (.inr ⟨blk, e, x⟩)⟩
  refine ⟨fun blk off u hk => ?_, fun j c' hj => ?_, fun j blk hm => ?_, fun j j' c c' blk hj hj' hm hm' => ?_, fun j blk hm => ?_, H.tlt, fun j c' off s m xs blk v hj hc hm hv => ?_, fun j z hz => ?_⟩
  · simp only [fzG] at hk
    split at hk
    · exact hk
    · exact H.known blk off u hk
  · obtain ⟨hne, c0, h2, rfl⟩ := fzH_at hb hj
    have hok : okF h b j = true := by simp [okF, h2, hne]
    rcases H.box j c0 h2 with ⟨hE, hE2⟩ | ⟨blk, cs, e, q1, q2, q3, q4, q5⟩
    · refine .inl ⟨by rw [hE]; rfl, ?_⟩
      simp only [fzG]
      split
      · rfl
      · exact hE2
    · have hl : (fzCs (okF h b) b (fzY h b cells) c0).length = c0.length := by rw [fzCs_map]; simp
      exact .inr ⟨blk, cs, e, fz_μ H hb hok q1, q2, by rw [hl]; exact q3, by rw [hl]; exact fzC_repL H hb _ _ q4, q5⟩
  · obtain ⟨h1, h2, h3⟩ := hμ hm
    obtain ⟨⟨c, hc⟩, hl⟩ := H.dom j blk h1
    refine ⟨⟨fzCs (okF h b) b (fzY h b cells) c, ?_⟩, hl⟩
    unfold fzH
    rw [List.getElem?_set, if_neg (Ne.symm h2), List.getElem?_map, hc]; rfl
  · obtain ⟨h1, _, _⟩ := hμ hm
    obtain ⟨h1', _, _⟩ := hμ hm'
    obtain ⟨_, c0, g2, _⟩ := fzH_at hb hj
    obtain ⟨_, c0', g2', _⟩ := fzH_at hb hj'
    exact H.inj j j' _ _ blk g2 g2' h1 h1'
  · obtain ⟨h1, h2, h3⟩ := hμ hm
    obtain ⟨s1, s2⟩ := H.sep j blk h1
    refine ⟨fun o => ?_, s2⟩
    simp only [fzG]
    rw [if_neg (fun x => h3 x.1)]
    exact s1 o
  · obtain ⟨h1, _, _⟩ := hμ hm
    obtain ⟨_, c0, g2, rfl⟩ := fzH_at hb hj
    rw [fzCs_map, List.getElem?_map] at hc
    cases hq : c0[off]? with
    | none => rw [hq] at hc; cases hc
    | some y =>
      rw [hq] at hc
      simp only [Option.map_some, Option.some.injEq] at hc
      obtain ⟨zs, rfl⟩ := fzC_own hc
      exact (H.own j c0 off s m zs blk v g2 hq h1 hv).fz
  · simp only [fzG] at hz ⊢
    split at hz
    · cases hz
    · rename_i hne
      obtain ⟨blk, cs, e, fr, q1, q2, q3⟩ := H.siz j z hz
      exact ⟨blk, cs, e, fr, by rw [if_neg hne]; exact q1, q2, q3⟩
theorem frmN_fz (H : WorldOK G h w) (hb : h.at b = some cells) (hnb : n ≤ b) (hn : ∀ j, j < n → (h.at j).isSome = true ∨ h[j]? = some none) (k : Nat) : FrmN n G w (fzG G w b k) w := by
  have keep : ∀ j, j < n → ∀ blk, G.μ j = some blk → okF h b j = true := fun j hj blk hm => by
    rcases hn j hj with h1 | h1
    · simp [okF, h1]; omega
    · obtain ⟨⟨c, hc⟩, _⟩ := H.dom j blk hm
      rw [h1] at hc; cases hc
  refine ⟨rfl, rfl, rfl, Nat.le_refl _, fun g o u x => (fz_le H k).K g o u x, fun j blk hj x => fz_μ H hb (keep j hj blk x) x, fun j z hj x => ?_, fun g _ ht hm => ⟨rfl, ht, fun j hj => ?_, fun o => ?_⟩⟩
  · obtain ⟨blk, _, _, _, q1, _⟩ := H.siz j z x
    exact fz_σ H hb (keep j hj blk q1) x
  · simp only [fzG] at hj
    split at hj
    · cases hj
    · exact hm j hj
  · simp only [fzG]
    rw [if_neg (fun x => hm b x.1)]
theorem Tr.fz (hcx : CxOK cx) {c : Code} (b : Nat) {cells : List C} (hb : st.h.at b = some cells) (hnb : n ≤ b) (hn : ∀ j, j < n → (st.h.at j).isSome = true ∨ st.h[j]? = some none)
    (K : Tr cx n c ⟨fun t => fzC (okF st.h b) b (fzY st.h b cells) (st.env t), fzH (okF st.h b) b (fzY st.h b cells) st.h⟩ Q) : Tr cx n c st Q := fun G w a S R hR =>
  K (fzG G w b cells.length) w a ⟨S.defers, S.size, S.pre.ok.fz hb, ⟨fun t => fzC_rep S.pre.ok hb _ _ (S.pre.env.1 t), fun t s m xs e => by
      obtain ⟨ys, hy⟩ := fzC_own e
      exact (S.pre.env.2 t s m ys hy).fz⟩, fun g => (noRef_rep _ _ (hcx.glo g) (S.pre.glob g)).mono (fz_le S.pre.ok _)⟩ R
    fun x s G' w' a' q S' F => hR x s G' w' a' q S' ((frmN_fz S.pre.ok hb hnb hn _).trans F)
end
end Go.Sx
namespace Go.Sx
open Go.RowKit
/-! asSv -/
theorem asSv_val (v : Value) : (C.val v).asSv = .val v := rfl
theorem asSv_tsl {α : Type} (f : α → List C) (r : Rt) (l : List α) : (sl f r l).asSv = sl f r l := rfl
theorem asSv_sv (b o n : Nat) : (C.sv b o n).asSv = .sv b o n := rfl
theorem asSv_gv (b n s : Nat) : (C.gv b n s).asSv = .sv b 0 n := rfl
theorem noR_gv (b n s : Nat) : (C.gv b n s).noR = .gv b n s := rfl
theorem refy_gv (b n s : Nat) (l : List C) : refy (.gv b n s :: l) = true := rfl
/-! What is to grow -/
theorem isG_grow (cx : Cx) (l : List Nat) (d : Option Nat) : isG (cx.grow l) d = isA l d := by cases d <;> rfl
theorem grow_P (cx : Cx) (l : List Nat) : (cx.grow l).P = cx.P := rfl
theorem grow_N (cx : Cx) (l : List Nat) : (cx.grow l).N = cx.N := rfl
/-! slices -/
theorem sliceP_str (P : Program) (t : TypeId) (v : Value) (lo hi mx : Option C) : sliceP P t (.val v) lo hi mx = slicePlan P t (.val v) lo hi mx := rfl
theorem sliceP_tsl {α : Type} (f : α → List C) (P : Program) (t : TypeId) (r : Rt) (l : List α) (lo hi mx : Option C) : sliceP P t (sl f r l) lo hi mx = slicePlan P t (sl f r l) lo hi mx := rfl
def sgP (P : Program) (t : Option TD) (b n s : Nat) (hi : Option C) : Option Plan := match t with
  | some d => match d.u with
    | .slice e => match td P e, bound? hi n n with
      | some de, some h => if de.size = s then some (vp (.gv b h s)) else none
      | _, _ => none
    | _ => none
  | none => none
/-! append -/
def gwQ (de : Option TD) (x y : C) : Option Plan := match de with
  | none => none
  | some de =>
    let start : Option (Nat × Option (Nat × Nat)) := match x with
      | .val (.slice none 0 0) => some (0, none)
      | .sl .full 0 _ => some (0, none)
      | .gv b n s => if s = de.size then some (n, some (b, n)) else none
      | _ => none
    match start with
    | none => none
    | some (n, b) =>
      let fin (m : Nat) (ys : List C) : Bool := decide (ys.length = m * de.size ∧ 0 < de.size ∧ de.zero.length = de.size ∧ (n + m) * de.bytes ≤ 140737488355328 ∧ n + m ≤ 9223372036854775807 ∧ de.zero.all (·.oneCell') = true)
      match y with
      | .sv b' off m => some (.ap b de.size m fun h => (h.at b').bind fun cells => if off + m * de.size ≤ cells.length ∧ fin m (((cells.drop off).take (m * de.size)).map C.noR) = true then some (((cells.drop off).take (m * de.size)).map C.noR) else none)
      | y => match src? y with
        | some (m, ys) => if fin m ys = true then some (.ap b de.size m fun _ => some ys) else none
        | none => none
def gwP (P : Program) (d d2 : Option TD) (x y : C) : Option Plan := match d, d2 with
  | some d, some d2 =>
    if notInt d2.u = false then none else
    match d.u with
    | .slice e => gwQ (td P e) x y
    | _ => none
  | _, _ => none
theorem gw_td (P : Program) (t t2 : TypeId) (x y : C) : growPlan P t t2 x y = gwP P (td P t) (td P t2) x y := rfl
theorem gw_ss (P : Program) (e e2 a1 b1 a2 b2 : Nat) (z1 z2 : List Value) (x y : C) : gwP P (some ⟨.slice e, a1, b1, z1⟩) (some ⟨.slice e2, a2, b2, z2⟩) x y = gwQ (td P e) x y := rfl
section
variable {α : Type} (f : α → List C) {s : Nat} [hf : Cel f s] (u : TypeDesc) (y : Nat) (z : List Value)
theorem gw_fin (n : Nat) (l' : List α) (hz : z.length = s) (hz1 : z.all (·.oneCell') = true) (h : (n + l'.length) * y ≤ 140737488355328 ∧ n + l'.length ≤ 9223372036854775807) :
    decide ((cl f l').length = l'.length * s ∧ 0 < s ∧ z.length = s ∧ (n + l'.length) * y ≤ 140737488355328 ∧ n + l'.length ≤ 9223372036854775807 ∧ z.all (·.oneCell') = true) = true := by
  simp only [decide_eq_true_eq]
  exact ⟨cl_len (f := f) l', hf.pos, hz, h.1, h.2, hz1⟩
theorem gwQ_gv (b n : Nat) (r : Rt) (l' : List α) (hz : z.length = s) (hz1 : z.all (·.oneCell') = true) (h : (n + l'.length) * y ≤ 140737488355328 ∧ n + l'.length ≤ 9223372036854775807) :
    gwQ (some ⟨u, s, y, z⟩) (.gv b n s) (sl f r l') = some (.ap (some (b, n)) s l'.length fun _ => some (cl f l')) := by
  have e := gw_fin f y z n l' hz hz1 h
  simp only [gwQ, if_true, sl, src?, C.sl?]
  rw [if_pos e]
end
theorem cgP_td (P : Program) (s t : TypeId) (c : C) : convG P s t c = (match td P s, td P t with
    | some ds, some dd => match ds.u, dd.u, c with
      | .string, .slice e, .val (.string s) => match td P e with
        | some de => (match de.u with
          | .int .u8 => if s.size ≤ 140737488355328 then some (.ap none 1 s.size fun _ => some (s.data.toList.map byteC)) else none
          | _ => none)
        | none => none
      | _, _, _ => none
    | _, _ => none) := rfl
def cgP (P : Program) (d d2 : Option TD) (c : C) : Option Plan := match d, d2 with
    | some ds, some dd => match ds.u, dd.u, c with
      | .string, .slice e, .val (.string s) => match td P e with
        | some de => (match de.u with
          | .int .u8 => if s.size ≤ 140737488355328 then some (.ap none 1 s.size fun _ => some (s.data.toList.map byteC)) else none
          | _ => none)
        | none => none
      | _, _, _ => none
    | _, _ => none
theorem cg_td (P : Program) (s t : TypeId) (c : C) : convG P s t c = cgP P (td P s) (td P t) c := rfl
def cgB (t : Option TD) (l : List UInt8) : Option Plan := match t with
  | some de => (match de.u with
    | .int .u8 => if l.length ≤ 140737488355328 then some (.ap none 1 l.length fun _ => some (cl bC l)) else none
    | _ => none)
  | none => none
theorem cgP_sb (P : Program) (e a1 b1 a2 b2 : Nat) (z1 z2 : List Value) (l : List UInt8) : cgP P (some ⟨.string, a1, b1, z1⟩) (some ⟨.slice e, a2, b2, z2⟩) (.val (str l)) = cgB (td P e) l := by
  unfold cgP cgB str
  simp only [size_mk, List.toList_toArray, cl_bytes]
theorem cgB_u8 (a b : Nat) (z : List Value) (l : List UInt8) (h : l.length ≤ 140737488355328) : cgB (some ⟨.int .u8, a, b, z⟩) l = some (.ap none 1 l.length fun _ => some (cl bC l)) := if_pos h
/-! The boxes -/
section
variable (cx : Cx) (apps : List Nat) (dsts : List (Option Nat)) (l : List Oper) (id' : Nat) (d : Option Nat) (e : List (Nat × C)) (h : Hp) (fs : List FP) (K : List FP → St → Prop)
def nR : List C → List C := List.map C.noR
def stAB (b n s m : Nat) (cs : List C) (o : Option (List C)) : Prop := match o with
  | none => False
  | some cells =>
    if (n + m) * s ≤ cells.length ∧ (n ≠ 0 ∨ m = 0) then run cx apps dsts l id' (mkE d (.gv b (n + m) s) e) (h.set b (some (splice cells (n * s) (cs.map C.noR)))) ((4, 0) :: fs) K
    else if n * s = cells.length then run cx apps dsts l id' (mkE d (.gv h.length (n + m) s) e) (h.set b (some deadC) ++ [some ((cells ++ cs).map C.noR)]) ((4, 0) :: fs) K
    else if n = 0 then run cx apps dsts l id' (mkE d (.gv h.length (n + m) s) e) (h.set b (some deadC) ++ [some (cs.map C.noR)]) ((4, 0) :: fs) K else False
theorem stA_new (z : FP) (s m : Nat) (cs : List C) : stA cx apps dsts l id' d e h fs K z none s m (some cs) = run cx apps dsts l id' (mkE d (.gv h.length m s) e) (h ++ [some (nR cs)]) (z :: fs) K := rfl
theorem stA_old (z : FP) (b n s m : Nat) (cs : List C) : stA cx apps dsts l id' d e h fs K z (some (b, n)) s m (some cs) = stAB cx apps dsts l id' d e h fs K b n s m cs (h.at b) := rfl
theorem stAB_cl {α : Type} (f : α → List C) {s : Nat} [hf : Cel f s] (b n m : Nat) (xs ys : List α) (hn : n = xs.length) (hm : m = ys.length ∧ 0 < m) :
    stAB cx apps dsts l id' d e h fs K b n s m (cl f ys) (some (cl f xs)) = run cx apps dsts l id' (mkE d (.gv h.length (xs ++ ys).length s) e) (h.set b (some deadC) ++ [some (cl f (xs ++ ys))]) ((4, 0) :: fs) K := by
  obtain ⟨hm1, hm2⟩ := hm
  subst hn hm1
  have hp := hf.pos
  have hl := cl_len (f := f) xs
  have hml : s ≤ ys.length * s := by
    have := Nat.mul_le_mul_right s (show 1 ≤ ys.length by omega)
    omega
  unfold stAB
  simp only []
  rw [if_neg (by rw [hl, Nat.add_mul]; omega), if_pos hl.symm, ← cl_app, cl_noR, List.length_append]
end
@[congr] theorem stA_congr {cx : Cx} {apps : List Nat} {dsts : List (Option Nat)} {l : List Oper} {id' : Nat} {d : Option Nat} {e : List (Nat × C)} {h : Hp} {fs : List FP} {K : List FP → St → Prop} {z : FP} {b : Option (Nat × Nat)} {s m : Nat} {p p' : Option (List C)} (hp : p = p') :
    stA cx apps dsts l id' d e h fs K z b s m p = stA cx apps dsts l id' d e h fs K z b s m p' := by rw [hp]
@[congr] theorem stAB_congr {cx : Cx} {apps : List Nat} {dsts : List (Option Nat)} {l : List Oper} {id' : Nat} {d : Option Nat} {e : List (Nat × C)} {h : Hp} {fs : List FP} {K : List FP → St → Prop} {b n s m : Nat} {cs : List C} {p p' : Option (List C)} (hp : p = p') :
    stAB cx apps dsts l id' d e h fs K b n s m cs p = stAB cx apps dsts l id' d e h fs K b n s m cs p' := by rw [hp]
theorem nR_cl {α : Type} (f : α → List C) {s : Nat} [hf : Cel f s] (l : List α) : nR (cl f l) = cl f l := cl_noR l
theorem gif_T (p q : Option Plan) : gif true p q = p := rfl
theorem gif_F (p q : Option Plan) : gif false p q = q := rfl
/-! Renaming -/
theorem loc_nil (k b : Nat) : loc [] k b = none := rfl
theorem loc_cons (x : Nat) (r : List Nat) (k b : Nat) : loc (x :: r) k b = if b = x then some k else loc r (k + 1) b := rfl
def mvGv (n s : Nat) : Option Nat → C
  | some j => .gv j n s
  | none => .top
def mvSv (o n : Nat) : Option Nat → C
  | some j => .sv j o n
  | none => .top
def mvBp (o : Nat) : Option Nat → C
  | some j => .bp j o
  | none => .top
theorem mvC_gv (ρ : List Nat) (b n s : Nat) : mvC ρ (.gv b n s) = mvGv n s (loc ρ 0 b) := by simp only [mvC]; cases loc ρ 0 b <;> rfl
theorem mvC_sv (ρ : List Nat) (b o n : Nat) : mvC ρ (.sv b o n) = mvSv o n (loc ρ 0 b) := by simp only [mvC]; cases loc ρ 0 b <;> rfl
theorem mvC_bp (ρ : List Nat) (b o : Nat) : mvC ρ (.bp b o) = mvBp o (loc ρ 0 b) := by simp only [mvC]; cases loc ρ 0 b <;> rfl
theorem mvGv_some (n s j : Nat) : mvGv n s (some j) = .gv j n s := rfl
theorem mvGv_none (n s : Nat) : mvGv n s none = .top := rfl
theorem mvSv_some (o n j : Nat) : mvSv o n (some j) = .sv j o n := rfl
theorem mvSv_none (o n : Nat) : mvSv o n none = .top := rfl
theorem mvBp_some (o j : Nat) : mvBp o (some j) = .bp j o := rfl
theorem mvBp_none (o : Nat) : mvBp o none = .top := rfl
theorem mvC_val (ρ : List Nat) (v : Value) : mvC ρ (.val v) = .val v := by simp only [mvC]
theorem mvC_top (ρ : List Nat) : mvC ρ .top = .top := by simp only [mvC]
theorem mvC_agg (ρ : List Nat) (xs : List C) : mvC ρ (.agg xs) = .agg (mvCs ρ xs) := by simp only [mvC]
theorem mvC_kp (ρ : List Nat) (xs : List C) : mvC ρ (.kp xs) = .kp (mvCs ρ xs) := by simp only [mvC]
theorem mvCs_nil (ρ : List Nat) : mvCs ρ [] = [] := by simp only [mvCs]
theorem mvCs_cons (ρ : List Nat) (c : C) (l : List C) : mvCs ρ (c :: l) = mvC ρ c :: mvCs ρ l := by simp only [mvCs]
mutual
theorem mvC_flat (ρ : List Nat) : ∀ c : C, flat c = true → mvC ρ c = c
  | .val _, _ => by simp only [mvC]
  | .agg xs, h => by simp only [flat] at h; simp only [mvC, mvCs_flat ρ xs h]
  | .tup xs, h => by simp only [flat] at h; simp only [mvC, mvCs_flat ρ xs h]
  | .top, h => by simp [flat] at h
  | .sl _ _ _, h => by simp [flat] at h
  | .sv _ _ _, h => by simp [flat] at h
  | .gv _ _ _, h => by simp [flat] at h
  | .bp _ _, h => by simp [flat] at h
  | .kp _, h => by simp [flat] at h
  | .fn _ _, h => by simp [flat] at h
theorem mvCs_flat (ρ : List Nat) : ∀ l : List C, flats l = true → mvCs ρ l = l
  | [], _ => by simp only [mvCs]
  | x :: xs, h => by simp only [flats, Bool.and_eq_true] at h; simp only [mvCs, mvC_flat ρ x h.1, mvCs_flat ρ xs h.2]
end
theorem mvCs_cl {α : Type} (f : α → List C) [h : Fla f] (ρ : List Nat) (l : List α) : mvCs ρ (cl f l) = cl f l := mvCs_flat ρ _ (flats_cl f l)
theorem mvCs_f {α : Type} (f : α → List C) [h : Fla f] (ρ : List Nat) (a : α) : mvCs ρ (f a) = f a := mvCs_flat ρ _ (h.flat a)
theorem mvC_sl {α : Type} (f : α → List C) [h : Fla f] (ρ : List Nat) (r : Rt) (l : List α) : mvC ρ (sl f r l) = sl f r l := by
  unfold sl; simp only [mvC, mvCs_cl]
def hget : Hp → Nat → Option (List C)
  | [], _ => none
  | o :: _, 0 => o
  | _ :: h, k + 1 => hget h k
theorem hget_eq : ∀ (h : Hp) (k : Nat), (h[k]?).getD none = hget h k
  | [], _ => rfl
  | o :: _, 0 => rfl
  | _ :: h, k + 1 => by rw [List.getElem?_cons_succ]; exact hget_eq h k
theorem hget_0 (o : Option (List C)) (h : Hp) : hget (o :: h) 0 = o := rfl
theorem hget_S (o : Option (List C)) (h : Hp) (k : Nat) : hget (o :: h) (k + 1) = hget h k := rfl
def mvHa (ρ : List Nat) (h : Hp) : List Nat → Hp
  | [] => []
  | x :: r => (hget h x).map (mvCs ρ) :: mvHa ρ h r
theorem mvH_eq (ρ : List Nat) (h : Hp) : mvH ρ h = mvHa ρ h ρ := by
  have key : ∀ r : List Nat, (r.map fun b => ((h[b]?).getD none).map (mvCs ρ)) = mvHa ρ h r := by
    intro r
    induction r with
    | nil => rfl
    | cons x r ih => rw [List.map_cons, ih, hget_eq]; rfl
  exact key ρ
theorem mvHa_nil (ρ : List Nat) (h : Hp) : mvHa ρ h [] = [] := rfl
theorem mvHa_cons (ρ : List Nat) (h : Hp) (x : Nat) (r : List Nat) : mvHa ρ h (x :: r) = (hget h x).map (mvCs ρ) :: mvHa ρ h r := rfl
/-! Freezing -/
def mapE (g : C → C) : List (Nat × C) → List (Nat × C)
  | [] => []
  | (k, c) :: l => (k, g c) :: mapE g l
theorem mapE_nil (g : C → C) : mapE g [] = [] := rfl
theorem mapE_cons (g : C → C) (k : Nat) (c : C) (l : List (Nat × C)) : mapE g ((k, c) :: l) = (k, g c) :: mapE g l := rfl
theorem mapE_A (g : C → C) (hg : g .top = .top) : ∀ l : List (Nat × C), (fun t => g (A l t)) = A (mapE g l)
  | [] => by funext t; exact hg
  | (k, c) :: l => by
    funext t
    simp only [A, mapE]
    split
    · rfl
    · exact congrFun (mapE_A g hg l) t
theorem Tr.fzA {cx : Cx} {n : Nat} {Q : Ex → St → Prop} {e : List (Nat × C)} {h : Hp} (hcx : CxOK cx) {c : Code} (b : Nat) (cells : List C) (hb : h.at b = some cells) (hnb : n ≤ b) (hn : ∀ j, j < n → (h.at j).isSome = true ∨ h[j]? = some none)
    (K : Tr cx n c ⟨A (mapE (fzC (okF h b) b (fzY h b cells)) e), fzH (okF h b) b (fzY h b cells) h⟩ Q) : Tr cx n c ⟨A e, h⟩ Q := by
  refine Tr.fz hcx b hb hnb hn ?_
  rw [mapE_A _ (by simp only [fzC])]
  exact K
theorem fzC_val (ok : Nat → Bool) (b : Nat) (ys : List C) (v : Value) : fzC ok b ys (.val v) = .val v := by simp only [fzC]
theorem fzC_top (ok : Nat → Bool) (b : Nat) (ys : List C) : fzC ok b ys .top = .top := by simp only [fzC]
theorem fzCs_nil (ok : Nat → Bool) (b : Nat) (ys : List C) : fzCs ok b ys [] = [] := by simp only [fzCs]
theorem fzCs_cons (ok : Nat → Bool) (b : Nat) (ys : List C) (x : C) (xs : List C) : fzCs ok b ys (x :: xs) = fzC ok b ys x :: fzCs ok b ys xs := by simp only [fzCs]
mutual
theorem fzC_flat (ok : Nat → Bool) (b : Nat) (ys : List C) : ∀ c : C, flat c = true → fzC ok b ys c = c
  | .val _, _ => by simp only [fzC]
  | .agg xs, h => by simp only [flat] at h; simp only [fzC, fzCs_flat ok b ys xs h]
  | .tup xs, h => by simp only [flat] at h; simp only [fzC, fzCs_flat ok b ys xs h]
  | .top, h => by simp [flat] at h
  | .sl _ _ _, h => by simp [flat] at h
  | .sv _ _ _, h => by simp [flat] at h
  | .gv _ _ _, h => by simp [flat] at h
  | .bp _ _, h => by simp [flat] at h
  | .kp _, h => by simp [flat] at h
  | .fn _ _, h => by simp [flat] at h
theorem fzCs_flat (ok : Nat → Bool) (b : Nat) (ys : List C) : ∀ l : List C, flats l = true → fzCs ok b ys l = l
  | [], _ => by simp only [fzCs]
  | x :: xs, h => by simp only [flats, Bool.and_eq_true] at h; simp only [fzCs, fzC_flat ok b ys x h.1, fzCs_flat ok b ys xs h.2]
end
mutual
theorem scr_flat (ok : Nat → Bool) : ∀ c : C, flat c = true → scr ok c = c
  | .val _, _ => by simp only [scr]
  | .agg xs, h => by simp only [flat] at h; simp only [scr, scrs_flat ok xs h]
  | .tup xs, h => by simp only [flat] at h; simp only [scr, scrs_flat ok xs h]
  | .top, h => by simp [flat] at h
  | .sl _ _ _, h => by simp [flat] at h
  | .sv _ _ _, h => by simp [flat] at h
  | .gv _ _ _, h => by simp [flat] at h
  | .bp _ _, h => by simp [flat] at h
  | .kp _, h => by simp [flat] at h
  | .fn _ _, h => by simp [flat] at h
theorem scrs_flat (ok : Nat → Bool) : ∀ l : List C, flats l = true → scrs ok l = l
  | [], _ => by simp only [scrs]
  | x :: xs, h => by simp only [flats, Bool.and_eq_true] at h; simp only [scrs, scr_flat ok x h.1, scrs_flat ok xs h.2]
end
theorem fzCs_cl {α : Type} (f : α → List C) [h : Fla f] (ok : Nat → Bool) (b : Nat) (ys : List C) (l : List α) : fzCs ok b ys (cl f l) = cl f l := fzCs_flat ok b ys _ (flats_cl f l)
theorem fzC_sl {α : Type} (f : α → List C) [h : Fla f] (ok : Nat → Bool) (b : Nat) (ys : List C) (r : Rt) (l : List α) : fzC ok b ys (sl f r l) = sl f r l := by
  unfold sl; simp only [fzC, fzCs_cl]
theorem fzY_cl {α : Type} (f : α → List C) {s : Nat} [hc : Cel f s] [h : Fla f] (hp : Hp) (b : Nat) (l : List α) : fzY hp b (cl f l) = cl f l := by
  unfold fzY; rw [scrs_flat _ _ (flats_cl f l), cl_noR]
def fzGv (ys : List C) (n s : Nat) : C := if n * s ≤ ys.length then .sl .no n (ys.take (n * s)) else .top
theorem fzC_gv (ok : Nat → Bool) (b : Nat) (ys : List C) (b' n s : Nat) : fzC ok b ys (.gv b' n s) = if b' = b then fzGv ys n s else if ok b' = true then .gv b' n s else .top := by simp only [fzC, fzGv]
theorem fzGv_cl {α : Type} (f : α → List C) {s : Nat} [hc : Cel f s] (l : List α) (n : Nat) (h : n = l.length) : fzGv (cl f l) n s = sl f .no l := by
  subst h
  have hl := cl_len (f := f) l
  unfold fzGv
  rw [if_pos (by omega), List.take_of_length_le (by omega)]; rfl
theorem okF_eq (h : Hp) (b b' : Nat) : okF h b b' = ((h.at b').isSome && b' != b) := rfl
attribute [go_sem] asSv_val asSv_tsl asSv_sv asSv_gv noR_gv refy_gv isG_grow grow_P grow_N sliceP_str sliceP_tsl gw_td gw_ss gwQ_gv cg_td cgP_sb cgB_u8 stV_ap stA_new stA_old stAB_cl nR_cl gif_T gif_F live_val live_tsl live_cl
end Go.Sx
namespace Go.Sx
open Go.RowKit
def frhR (b : Bool) (c : C) (h : Hp) : Option (C × Hp) := if b then some (c, h) else none
def frhQ (b : Bool) (o : Option C) (h : Hp) : Option (C × Hp) := if b then (match o with
  | some c => frhR (flat c) c h
  | none => none) else none
@[congr] theorem frhQ_congr {b b' : Bool} {o o' : Option C} {h : Hp} (hb : b = b') (ho : b' = true → o = o') : frhQ b o h = frhQ b' o' h := by
  subst hb
  cases b with
  | false => rfl
  | true => rw [ho rfl]
theorem store_tsl {P : Program} {α : Type} (f : α → List C) (t : TypeId) (b o : Nat) (r : Rt) (l : List α) (k : Option Nat) : storePlan P t (.bp b o) (sl f r l) k = stS (td P t) b o (sl f r l) k := store_sl P t b o r _ _ k
attribute [go_sem] store_tsl Bool.and_false Bool.false_and
end Go.Sx
namespace Go.Sx
open Go.RowKit
section
variable {cx : Cx} {n : Nat} {Q : Ex → St → Prop} {st : St} {G : Gh} {h : Hp} {w : World}
end
end Go.Sx
namespace Go.Sx
open Go.RowKit
section
variable {cx : Cx} {n : Nat} {Q : Ex → St → Prop} {st : St} {G : Gh} {h : Hp} {w : World}
theorem liveC_set {cells : List C} (hl : liveC (some cells) = some cells) (k : Nat) (r : Rt) (m : Nat) (xs : List C) : liveC (some (cells.set k (.sl r m xs))) = some (cells.set k (.sl r m xs)) := by
  cases cells with
  | nil => simp [liveC]
  | cons c t =>
    cases k with
    | zero => simp [liveC]
    | succ k =>
      rw [List.set_cons_succ]
      unfold liveC at hl ⊢
      split at hl
      · cases hl
      · rename_i hn
        split
        · rename_i h2; cases h2; exact absurd rfl (hn _ _)
        · rfl
theorem WorldOK.bxr (H : WorldOK G h w) {b k m : Nat} {xs cells : List C} (hb : h.at b = some cells) (hk : cells[k]? = some (.sl .full m xs)) (r : Rt) : WorldOK G (h.set b (some (cells.set k (.sl r m xs)))) w := by
  have hlt := Hp.at_lt hb
  have hlive := liveC_set (Hp.at_live hb) k r m xs
  have hkl : k < cells.length := (List.getElem?_eq_some_iff.1 hk).1
  have full : ∀ v, Rep G (.sl .full m xs) v → ∃ a, v = .slice a m m := fun v hv => by
    simp only [Rep] at hv
    obtain ⟨a, cap, h1, _, _, h4, _⟩ := hv
    have := h4 trivial
    subst this; exact ⟨a, h1⟩
  have lift : ∀ v, Rep G (.sl .full m xs) v → Rep G (.sl r m xs) v := fun v hv => by
    simp only [Rep] at hv ⊢
    obtain ⟨a, cap, h1, h2, h3, h4, h5⟩ := hv
    exact ⟨a, cap, h1, h2, h3, fun _ => h4 trivial, h5⟩
  refine ⟨H.known, fun b' c' x => ?_, fun b' blk x => ?_, fun b1 b2 c1 c2 blk x x' y y' => ?_, H.sep, H.tlt, fun b' c' off s m2 ys blk v x hc hm hv => ?_, H.siz⟩
  · rw [Hp.at_set hlt] at x
    split at x
    · rename_i e; subst e; rw [hlive] at x; cases x
      rcases H.box b' cells hb with ⟨rfl, hE⟩ | ⟨blk, cs, e, q1, q2, q3, q4, q5⟩
      · simp at hkl
      · refine .inr ⟨blk, cs, e, q1, q2, by rw [List.length_set]; exact q3, ?_, q5⟩
        rw [List.length_set]
        have hsz : cs.toList.length = cs.size := by simp
        have hlen : (cells.set k (.sl r m xs)).length = (cs.toList.take cells.length).length := by
          rw [List.length_set, List.length_take]; omega
        refine RepL.of_get hlen fun i y v hy hv => ?_
        rw [List.getElem?_set] at hy
        split at hy
        · rename_i e2; subst e2
          (try rw [if_pos hkl] at hy); cases hy
          obtain ⟨v2, hv2, hr⟩ := q4.get k _ hk
          rw [hv] at hv2; cases hv2
          exact lift _ hr
        · obtain ⟨v2, hv2, hr⟩ := q4.get i _ hy
          rw [hv] at hv2; cases hv2; exact hr
    · exact H.box b' c' x
  · obtain ⟨⟨c, hc⟩, hl⟩ := H.dom b' blk x
    refine ⟨?_, hl⟩
    by_cases e : b' = b
    · subst e; exact ⟨_, by rw [List.getElem?_set_self hlt]⟩
    · exact ⟨c, by rw [List.getElem?_set_ne (fun h => e h.symm)]; exact hc⟩
  · have key : ∀ b' c', Hp.at (h.set b (some (cells.set k (.sl r m xs)))) b' = some c' → ∃ c0, h.at b' = some c0 := fun b' c' x => by
      rw [Hp.at_set hlt] at x
      split at x
      · rename_i e; subst e; exact ⟨cells, hb⟩
      · exact ⟨c', x⟩
    obtain ⟨d1, e1⟩ := key b1 c1 x
    obtain ⟨d2, e2⟩ := key b2 c2 x'
    exact H.inj b1 b2 d1 d2 blk e1 e2 y y'
  · rw [Hp.at_set hlt] at x
    split at x
    · rename_i e; subst e; rw [hlive] at x; cases x
      rw [List.getElem?_set] at hc
      split at hc
      · rename_i e2; subst e2
        (try rw [if_pos hkl] at hc); cases hc
        rcases H.box b' cells hb with ⟨rfl, hE⟩ | ⟨blk2, cs, e, q1, q2, q3, q4, q5⟩
        · simp at hkl
        · obtain ⟨v2, hv2, hr⟩ := q4.get k _ hk
          rw [q1] at hm; cases hm
          obtain ⟨fr, q6, q7⟩ := q2
          rw [List.getElem?_take_of_lt hkl] at hv2
          rw [cell_of q6 _ _ hv2] at hv
          cases hv
          obtain ⟨a, rfl⟩ := full _ hr
          exact .inl ⟨a, rfl⟩
      · exact H.own b' cells off s m2 ys blk v hb hc hm hv
    · exact H.own b' c' off s m2 ys blk v x hc hm hv
theorem Tr.bxr {α : Type} (f : α → List C) {c : Code} {e : List (Nat × C)} {h : Hp} (b k : Nat) (r : Rt) (l : List α) (cells : List C) (hb : h.at b = some cells) (hk : cells[k]? = some (sl f .full l)) (H : Tr cx n c ⟨A e, h.set b (some (cells.set k (sl f r l)))⟩ Q) : Tr cx n c ⟨A e, h⟩ Q := fun G w a S R hR =>
  H G w a ⟨S.defers, S.size, S.pre.ok.bxr hb hk r, S.pre.env, S.pre.glob⟩ R hR
end
end Go.Sx
namespace Go.Sx
open Go.RowKit
section
variable {cx : Cx} {n : Nat} {Q : Ex → St → Prop} {st : St} {G : Gh} {h : Hp} {w : World} {P : Program}
def notTup : C → Bool
  | .tup _ => false
  | _ => true
theorem liveC_setC {cells : List C} (hl : liveC (some cells) = some cells) (k : Nat) {c' : C} (hc : notTup c' = true) : liveC (some (cells.set k c')) = some (cells.set k c') := by
  cases cells with
  | nil => simp [liveC]
  | cons c t =>
    cases k with
    | zero =>
      rw [List.set_cons_zero]
      unfold liveC
      split
      · rename_i h2; cases h2; cases hc
      · rfl
    | succ k =>
      rw [List.set_cons_succ]
      unfold liveC at hl ⊢
      split at hl
      · cases hl
      · rename_i hn
        split
        · rename_i h2; cases h2; exact absurd rfl (hn _ _)
        · rfl
theorem WorldOK.bxc (H : WorldOK G h w) {b k : Nat} {c c' : C} {cells : List C} (hb : h.at b = some cells) (hk : cells[k]? = some c) (hc : CLe c c') (ht : notTup c' = true) : WorldOK G (h.set b (some (cells.set k c'))) w := by
  have hlt := Hp.at_lt hb
  have hlive := liveC_setC (Hp.at_live hb) k ht
  have hkl : k < cells.length := (List.getElem?_eq_some_iff.1 hk).1
  refine ⟨H.known, fun b' c2 x => ?_, fun b' blk x => ?_, fun b1 b2 c1 c2 blk x x' y y' => ?_, H.sep, H.tlt, fun b' c2 off s m2 ys blk v x hc2 hm hv => ?_, H.siz⟩
  · rw [Hp.at_set hlt] at x
    split at x
    · rename_i e; subst e; rw [hlive] at x; cases x
      rcases H.box b' cells hb with ⟨rfl, hE⟩ | ⟨blk, cs, e, q1, q2, q3, q4, q5⟩
      · simp at hkl
      · refine .inr ⟨blk, cs, e, q1, q2, by rw [List.length_set]; exact q3, ?_, q5⟩
        rw [List.length_set]
        have hsz : cs.toList.length = cs.size := by simp
        have hlen : (cells.set k c').length = (cs.toList.take cells.length).length := by
          rw [List.length_set, List.length_take]; omega
        refine RepL.of_get hlen fun i y v hy hv => ?_
        rw [List.getElem?_set] at hy
        split at hy
        · rename_i e2; subst e2
          (try rw [if_pos hkl] at hy); cases hy
          obtain ⟨v2, hv2, hr⟩ := q4.get k _ hk
          rw [hv] at hv2; cases hv2
          exact hc.1 _ _ hr
        · obtain ⟨v2, hv2, hr⟩ := q4.get i _ hy
          rw [hv] at hv2; cases hv2; exact hr
    · exact H.box b' c2 x
  · obtain ⟨⟨c0, hc0⟩, hl⟩ := H.dom b' blk x
    refine ⟨?_, hl⟩
    by_cases e : b' = b
    · subst e; exact ⟨_, by rw [List.getElem?_set_self hlt]⟩
    · exact ⟨c0, by rw [List.getElem?_set_ne (fun h => e h.symm)]; exact hc0⟩
  · have key : ∀ b' c2, Hp.at (h.set b (some (cells.set k c'))) b' = some c2 → ∃ c0, h.at b' = some c0 := fun b' c2 x => by
      rw [Hp.at_set hlt] at x
      split at x
      · rename_i e; subst e; exact ⟨cells, hb⟩
      · exact ⟨c2, x⟩
    obtain ⟨d1, e1⟩ := key b1 c1 x
    obtain ⟨d2, e2⟩ := key b2 c2 x'
    exact H.inj b1 b2 d1 d2 blk e1 e2 y y'
  · rw [Hp.at_set hlt] at x
    split at x
    · rename_i e; subst e; rw [hlive] at x; cases x
      rw [List.getElem?_set] at hc2
      split at hc2
      · rename_i e2; subst e2
        (try rw [if_pos hkl] at hc2); cases hc2
        rcases hc.2 s m2 ys rfl with rfl | hfull
        · exact H.own b' cells k s m2 ys blk v hb hk hm hv
        · rcases H.box b' cells hb with ⟨rfl, hE⟩ | ⟨blk2, cs, e, q1, q2, q3, q4, q5⟩
          · simp at hkl
          · obtain ⟨v2, hv2, hr⟩ := q4.get k _ hk
            rw [q1] at hm; cases hm
            obtain ⟨fr, q6, q7⟩ := q2
            rw [List.getElem?_take_of_lt hkl] at hv2
            rw [cell_of q6 _ _ hv2] at hv
            cases hv
            obtain ⟨a, rfl⟩ := hfull _ _ hr
            exact .inl ⟨a, rfl⟩
      · exact H.own b' cells off s m2 ys blk v hb hc2 hm hv
    · exact H.own b' c2 off s m2 ys blk v x hc2 hm hv
theorem Tr.bxc {c : Code} {e : List (Nat × C)} {h : Hp} (b k : Nat) {x : C} (x' : C) (cells : List C) (hb : h.at b = some cells) (hk : cells[k]? = some x) (hc : CLe x x') (ht : notTup x' = true) (H : Tr cx n c ⟨A e, h.set b (some (cells.set k x'))⟩ Q) : Tr cx n c ⟨A e, h⟩ Q := fun G w a S R hR =>
  H G w a ⟨S.defers, S.size, S.pre.ok.bxc hb hk hc ht, S.pre.env, S.pre.glob⟩ R hR
theorem eq_nn {t e : TypeId} {s y : Nat} {z : List Value} (op : BinOp) (h : td P t = some ⟨.slice e, s, y, z⟩) (hg : P.eqGuardType P.depth t = false) : binPlan P op t (.val (.slice none 0 0)) (.val (.slice none 0 0)) = eqR op true := by
  have he : eqC P 9 t (.val (.slice none 0 0)) (.val (.slice none 0 0)) = some true := by
    unfold eqC; rw [h]; rfl
  show eqPlan P op t _ _ = _
  unfold eqPlan
  rw [if_pos ⟨.inr (.inl ⟨rfl, rfl⟩), hg⟩]
  unfold eqR
  cases op <;> simp [he, vp, Plan.pure]
theorem eq_sn {t e : TypeId} {s y : Nat} {z : List Value} (op : BinOp) {x : C} (hx : x.nilS? = some false) (hv : ∀ v, x ≠ .val v) (h : td P t = some ⟨.slice e, s, y, z⟩) (hg : P.eqGuardType P.depth t = false) : binPlan P op t x (.val (.slice none 0 0)) = eqR op false := by
  have he : eqC P 9 t x (.val (.slice none 0 0)) = some false := by
    unfold eqC; rw [h]; simp only [hx]; rfl
  have h1 : binPlan P op t x (.val (.slice none 0 0)) = eqPlan P op t x (.val (.slice none 0 0)) := by
    cases x with
    | val v => exact absurd rfl (hv v)
    | _ => rfl
  rw [h1]
  unfold eqPlan
  rw [if_pos ⟨.inr (.inl ⟨by rw [hx]; rfl, rfl⟩), hg⟩]
  unfold eqR
  cases op <;> simp [he, vp, Plan.pure]
end
end Go.Sx
namespace Go.Sx
open Go.RowKit Go.Proofs
theorem td3 : td Try.prog 3 = some ⟨.int .i64, 1, 8, [.int .i64 0]⟩ := by kernel_rfl
theorem td4 : td Try.prog 4 = some ⟨.bool, 1, 1, [.bool false]⟩ := by kernel_rfl
theorem td5 : td Try.prog 5 = some ⟨.int .u8, 1, 1, [.int .u8 0]⟩ := by kernel_rfl
theorem td9 : td Try.prog 9 = some ⟨.string, 1, 16, [.string ⟨#[]⟩]⟩ := by kernel_rfl
theorem td22 : td Try.prog 22 = some ⟨.slice 3, 1, 24, [.slice none 0 0]⟩ := by kernel_rfl
theorem td28 : td Try.prog 28 = some ⟨.struct #[Field.mk "Ends" 22 0 false "" "" 0, Field.mk "Lines" 22 1 false "" "" 24, Field.mk "Costs" 22 2 false "" "" 48], 3, 72, [.slice none 0 0, .slice none 0 0, .slice none 0 0]⟩ := by kernel_rfl
theorem td32 : td Try.prog 32 = some ⟨.struct #[Field.mk "Ends" 22 0 false "" "" 0, Field.mk "Lines" 22 1 false "" "" 24, Field.mk "Costs" 22 2 false "" "" 48], 3, 72, [.slice none 0 0, .slice none 0 0, .slice none 0 0]⟩ := by kernel_rfl
theorem td58 : td Try.prog 58 = some ⟨.slice 9, 1, 24, [.slice none 0 0]⟩ := by kernel_rfl
theorem td60 : td Try.prog 60 = some ⟨.slice 83, 1, 24, [.slice none 0 0]⟩ := by kernel_rfl
theorem td67 : td Try.prog 67 = some ⟨.struct #[Field.mk "sums" 22 0 false "" "passim/breaks" 0, Field.mk "blank" 3 1 false "" "passim/breaks" 24, Field.mk "width" 3 2 false "" "passim/breaks" 32], 3, 40, [.slice none 0 0, .int .i64 0, .int .i64 0]⟩ := by kernel_rfl
theorem td76 : td Try.prog 76 = some ⟨.slice 80, 1, 24, [.slice none 0 0]⟩ := by kernel_rfl
theorem td80 : td Try.prog 80 = some ⟨.struct #[Field.mk "At" 3 0 false "" "" 0, Field.mk "End" 3 1 false "" "" 8, Field.mk "Kind" 3 2 false "" "" 16], 3, 24, [.int .i64 0, .int .i64 0, .int .i64 0]⟩ := by kernel_rfl
theorem td83 : td Try.prog 83 = some ⟨.struct #[Field.mk "At" 3 0 false "" "" 0, Field.mk "End" 3 1 false "" "" 8, Field.mk "Kind" 3 2 false "" "" 16], 3, 24, [.int .i64 0, .int .i64 0, .int .i64 0]⟩ := by kernel_rfl
theorem td87 : td Try.prog 87 = some ⟨.slice 5, 1, 24, [.slice none 0 0]⟩ := by kernel_rfl
noncomputable def cxP (gl : Nat → C) (M : Nat) (pu : Nat → List C → Option C) : Cx := ⟨Try.prog, M, gl, pu, fun _ _ _ => none, fun _ => false⟩
theorem cxP_P (gl : Nat → C) (M : Nat) (pu : Nat → List C → Option C) : (cxP gl M pu).P = Try.prog := rfl
theorem hMO {gl : Nat → C} {M : Nat} {pu : Nat → List C → Option C} : (cxP gl M pu).P.follows .mixedOrders = true := by
  rw [cxP_P]; kernel_rfl
theorem isG_mk (P : Program) (N : Nat) (gl : Nat → C) (pu : Nat → List C → Option C) (hp : Nat → List C → Hp → Option (C × Hp)) (d : Option Nat) : isG ⟨P, N, gl, pu, hp, fun _ => false⟩ d = false := by cases d <;> rfl
theorem wrc3_0 (a b c x : C) : wrc [a, b, c] 0 [x] = some ([x, b, c], .val undef) := rfl
theorem wrc3_1 (a b c x : C) : wrc [a, b, c] 1 [x] = some ([a, x, c], .val undef) := rfl
theorem wrc3_2 (a b c x : C) : wrc [a, b, c] 2 [x] = some ([a, b, x], .val undef) := rfl
theorem wrc3_a (a b c x y z : C) : wrc [a, b, c] 0 [x, y, z] = some ([x, y, z], .val undef) := rfl
theorem wrs3_0 (a b c x : C) : wrs [a, b, c] 0 x = some ([x, b, c], .val undef) := rfl
theorem rda3 (a b c : C) : rda [a, b, c] 0 3 = some (.agg [a.noR, b.noR, c.noR]) := rfl
theorem fa67_0 (b o : Nat) : fieldAddrPlan Try.prog 67 (.bp b o) 0 = some (vp (.bp b (o + 0))) := by
  unfold fieldAddrPlan; simp only [td67]; show (match td Try.prog 22 with | some de => _ | none => none) = _; rw [td22]; rfl
theorem fa67_1 (b o : Nat) : fieldAddrPlan Try.prog 67 (.bp b o) 1 = some (vp (.bp b (o + 1))) := by
  unfold fieldAddrPlan; simp only [td67]; show (match td Try.prog 3 with | some de => _ | none => none) = _; rw [td3]; rfl
theorem fa67_2 (b o : Nat) : fieldAddrPlan Try.prog 67 (.bp b o) 2 = some (vp (.bp b (o + 2))) := by
  unfold fieldAddrPlan; simp only [td67]; show (match td Try.prog 3 with | some de => _ | none => none) = _; rw [td3]; rfl
theorem bz28 : buildP Try.prog (some ⟨.struct #[Field.mk "Ends" 22 0 false "" "" 0, Field.mk "Lines" 22 1 false "" "" 24, Field.mk "Costs" 22 2 false "" "" 48], 3, 72, [.slice none 0 0, .slice none 0 0, .slice none 0 0]⟩) [] = some (vp (.agg [.val (.slice none 0 0), .val (.slice none 0 0), .val (.slice none 0 0)])) := by
  have h : places Try.prog (.struct #[Field.mk "Ends" 22 0 false "" "" 0, Field.mk "Lines" 22 1 false "" "" 24, Field.mk "Costs" 22 2 false "" "" 48]) = some (fun i => [(0, 1), (1, 1), (2, 1)][i]?) := by
    simp only [places, List.mapM_cons, List.mapM_nil, td3, td22, Option.map_some, Option.bind_eq_bind, Option.bind_some, Option.pure_def]
  unfold buildP
  simp only [h]
  rfl
theorem bd28 (r r2 r3 : Rt) (l l2 l3 : List Int) : buildP Try.prog (some ⟨.struct #[Field.mk "Ends" 22 0 false "" "" 0, Field.mk "Lines" 22 1 false "" "" 24, Field.mk "Costs" 22 2 false "" "" 48], 3, 72, [.slice none 0 0, .slice none 0 0, .slice none 0 0]⟩) [(0, sl iC r l), (1, sl iC r2 l2), (2, sl iC r3 l3)] = some (vp (.agg [(sl iC r l).noR, (sl iC r2 l2).noR, (sl iC r3 l3).noR])) := by
  have h : places Try.prog (.struct #[Field.mk "Ends" 22 0 false "" "" 0, Field.mk "Lines" 22 1 false "" "" 24, Field.mk "Costs" 22 2 false "" "" 48]) = some (fun i => [(0, 1), (1, 1), (2, 1)][i]?) := by
    simp only [places, List.mapM_cons, List.mapM_nil, td3, td22, Option.map_some, Option.bind_eq_bind, Option.bind_some, Option.pure_def]
  unfold buildP
  simp only [h]
  cases r <;> cases r2 <;> cases r3 <;> rfl
theorem bdV28 (b b2 o o2 n n2 : Nat) : buildP Try.prog (some ⟨.struct #[Field.mk "Ends" 22 0 false "" "" 0, Field.mk "Lines" 22 1 false "" "" 24, Field.mk "Costs" 22 2 false "" "" 48], 3, 72, [.slice none 0 0, .slice none 0 0, .slice none 0 0]⟩) [(1, .sv b o n), (2, .sv b2 o2 n2)] = some (vp (.agg [.val (.slice none 0 0), .sv b o n, .sv b2 o2 n2])) := by
  have h : places Try.prog (.struct #[Field.mk "Ends" 22 0 false "" "" 0, Field.mk "Lines" 22 1 false "" "" 24, Field.mk "Costs" 22 2 false "" "" 48]) = some (fun i => [(0, 1), (1, 1), (2, 1)][i]?) := by
    simp only [places, List.mapM_cons, List.mapM_nil, td3, td22, Option.map_some, Option.bind_eq_bind, Option.bind_some, Option.pure_def]
  unfold buildP
  simp only [h]
  rfl
theorem fa28_0 (b o : Nat) : fieldAddrPlan Try.prog 28 (.bp b o) 0 = some (vp (.bp b (o + 0))) := by
  unfold fieldAddrPlan; simp only [td28]; show (match td Try.prog 22 with | some de => _ | none => none) = _; rw [td22]; rfl
theorem fa28_1 (b o : Nat) : fieldAddrPlan Try.prog 28 (.bp b o) 1 = some (vp (.bp b (o + 1))) := by
  unfold fieldAddrPlan; simp only [td28]; show (match td Try.prog 22 with | some de => _ | none => none) = _; rw [td22]; rfl
theorem fa28_2 (b o : Nat) : fieldAddrPlan Try.prog 28 (.bp b o) 2 = some (vp (.bp b (o + 2))) := by
  unfold fieldAddrPlan; simp only [td28]; show (match td Try.prog 22 with | some de => _ | none => none) = _; rw [td22]; rfl
theorem fa32_0 (b o : Nat) : fieldAddrPlan Try.prog 32 (.bp b o) 0 = some (vp (.bp b (o + 0))) := by
  unfold fieldAddrPlan; simp only [td32]; show (match td Try.prog 22 with | some de => _ | none => none) = _; rw [td22]; rfl
theorem fa32_1 (b o : Nat) : fieldAddrPlan Try.prog 32 (.bp b o) 1 = some (vp (.bp b (o + 1))) := by
  unfold fieldAddrPlan; simp only [td32]; show (match td Try.prog 22 with | some de => _ | none => none) = _; rw [td22]; rfl
theorem fa32_2 (b o : Nat) : fieldAddrPlan Try.prog 32 (.bp b o) 2 = some (vp (.bp b (o + 2))) := by
  unfold fieldAddrPlan; simp only [td32]; show (match td Try.prog 22 with | some de => _ | none => none) = _; rw [td22]; rfl
section
variable {cx : Cx} {apps : List Nat} {dsts : List (Option Nat)} {l : List Oper} {id' : Nat} {d : Option Nat} {e : List (Nat × C)} {h : Hp} {fs : List FP} {K : List FP → St → Prop}
theorem stX_c0 (b : Nat) (c : C) (r : List C) : stX cx apps dsts l id' d e h fs K b 0 (some (c :: r)) = run cx apps dsts l id' (mkE d c e) (h.set b (some (c.noR :: r))) ((3, b) :: fs) K := rfl
end
attribute [go_sem] stX_c0
theorem bsA_nI1 (u : TypeDesc) (y : Nat) (v : Value) (i : Nat) (h : v.oneCell' = true) : bsA (some ⟨u, 1, y, [v]⟩) 1 [(0, .val (nI i))] = some (vp (sl iC .full [(i : Int)])) := by
  rw [bsA_one u y 1 v _ h (by decide)]; rfl
theorem bsA_int1 (u : TypeDesc) (y : Nat) (v : Value) (i : Int) (h : v.oneCell' = true) : bsA (some ⟨u, 1, y, [v]⟩) 1 [(0, .val (.int .i64 i))] = some (vp (sl iC .full [i])) := by
  rw [bsA_one u y 1 v _ h (by decide)]; rfl
attribute [go_sem high] bsA_nI1 bsA_int1
attribute [go_sem] td3 td4 td5 td9 td22 td28 td32 td58 td60 td67 td76 td80 td83 td87 cxP_P isG_mk fa67_0 fa67_1 fa67_2 fa28_0 fa28_1 fa28_2 fa32_0 fa32_1 fa32_2
attribute [go_sem high] wrc3_0 wrc3_1 wrc3_2 wrc3_a wrs3_0 rda3 bz28 bd28 bdV28
end Go.Sx
namespace Go.Sx
open Go.RowKit
theorem gt_left {α : Type} [Inhabited α] (l r : List α) (t : Nat) (h : t < l.length) : gt (l ++ r) t = gt l t := by
  simp [gt, List.getD, List.getElem?_append_left h]
theorem take_snoc {α : Type} [Inhabited α] (l : List α) (j : Nat) (h : j < l.length) : l.take (j + 1) = l.take j ++ [gt l j] := by
  rw [List.take_add_one, List.getElem?_eq_getElem h]; simp [gt, List.getD, List.getElem?_eq_getElem h]
def le (m : Nat) : List UInt8 := if h : m = 0 then [] else UInt8.ofNat (m % 256) :: le (m / 256)
termination_by m
decreasing_by omega
def be (m k : Nat) : List UInt8 := (List.range k).map fun j => UInt8.ofNat (m >>> (8 * (k - 1 - j)))
theorem gt_map {α β : Type} [Inhabited α] [Inhabited β] (l : List α) (f : α → β) (j : Nat) (h : j < l.length) : gt (l.map f) j = f (gt l j) := by
  simp [gt, List.getD, List.getElem?_eq_getElem h]
end Go.Sx
namespace Go.Sx
def LI (l : List Int) : Prop := l.length ≤ 9223372036854775807 ∧ ∀ i, i < l.length → -9223372036854775808 ≤ gt l i ∧ gt l i ≤ 9223372036854775807
def proI (n : Int) : Bool := decide (0 ≤ n) && decide (n ≤ 4096)
theorem proI_iff {n : Int} : proI n = true ↔ 0 ≤ n ∧ n ≤ 4096 := by simp [proI]
def allP (l : List Int) : Bool := (List.range l.length).all fun i => proI (gt l i)
theorem allP_iff {l : List Int} : allP l = true ↔ ∀ i, i < l.length → 0 ≤ gt l i ∧ gt l i ≤ 4096 := by
  simp [allP, proI_iff]
def errE (l : List Int) (b w : Int) : Nat := if 256 < l.length then 4 else if (proI b && proI w && allP l) = true then 0 else 1
/-- Words that may be divided. -/
def Fine (l : List Int) (b w : Int) : Prop := l.length ≤ 256 ∧ (0 ≤ b ∧ b ≤ 4096) ∧ (0 ≤ w ∧ w ≤ 4096) ∧ ∀ i, i < l.length → 0 ≤ gt l i ∧ gt l i ≤ 4096
theorem errE_0 {l : List Int} {b w : Int} : errE l b w = 0 ↔ Fine l b w := by
  unfold errE Fine
  split
  · constructor
    · intro h; cases h
    · rintro ⟨h, _⟩; omega
  · split
    · rename_i h1 h2
      simp only [Bool.and_eq_true, proI_iff, allP_iff] at h2
      constructor
      · intro _; exact ⟨by omega, h2.1.1, h2.1.2, h2.2⟩
      · intro _; rfl
    · rename_i h1 h2
      simp only [Bool.and_eq_true, proI_iff, allP_iff] at h2
      constructor
      · intro h; cases h
      · rintro ⟨_, g1, g2, g3⟩; exact absurd ⟨⟨g1, g2⟩, g3⟩ h2
def sumI (l : List Int) (b : Int) : Nat → Int
  | 0 => 0
  | k + 1 => sumI l b k + gt l k + b
def sumsL (l : List Int) (b : Int) (n : Nat) : List Int := (List.range (n + 1)).map (sumI l b)
theorem sumsL_len (l : List Int) (b : Int) (n : Nat) : (sumsL l b n).length = n + 1 := by simp [sumsL]
theorem sumsL_gt (l : List Int) (b : Int) (n k : Nat) (h : k ≤ n) : gt (sumsL l b n) k = sumI l b k := by
  unfold sumsL
  rw [gt_map _ _ _ (by simp; omega)]
  congr 1
  simp [gt, List.getD, List.getElem?_range (show k < n + 1 by omega)]
theorem sumsL_S (l : List Int) (b : Int) (n : Nat) : sumsL l b (n + 1) = sumsL l b n ++ [sumI l b (n + 1)] := by
  unfold sumsL
  rw [List.range_succ (n := n + 1), List.map_append]; rfl
theorem sumI_b {l : List Int} {b w : Int} (h : Fine l b w) : ∀ k, k ≤ l.length → 0 ≤ sumI l b k ∧ sumI l b k ≤ 8192 * k
  | 0, _ => ⟨Int.le_refl _, Int.le_refl _⟩
  | k + 1, hk => by
    have ih := sumI_b h k (by omega)
    have h1 := h.2.2.2 k (by omega)
    have h2 := h.2.1
    unfold sumI; omega
theorem sumI_p {l : List Int} {b : Int} (hb : 0 ≤ b ∧ b ≤ 4096) : ∀ k : Nat, (∀ j, j < k → 0 ≤ gt l j ∧ gt l j ≤ 4096) → 0 ≤ sumI l b k ∧ sumI l b k ≤ 8192 * k
  | 0, _ => ⟨Int.le_refl _, Int.le_refl _⟩
  | k + 1, hk => by
    have ih := sumI_p hb k (fun j hj => hk j (by omega))
    have h1 := hk k (by omega)
    unfold sumI; omega
theorem err_4 {l : List Int} {b w : Int} (h : 256 < l.length) : errE l b w = 4 := if_pos h
theorem err_1 {l : List Int} {b w : Int} (h : ¬ 256 < l.length) (h2 : ¬ (proI b && proI w && allP l) = true) : errE l b w = 1 := by
  unfold errE; rw [if_neg h, if_neg h2]
theorem err_b {l : List Int} {b w : Int} (h : ¬ proI b = true) : ¬ (proI b && proI w && allP l) = true := by simp [h]
theorem err_w {l : List Int} {b w : Int} (h : ¬ proI w = true) : ¬ (proI b && proI w && allP l) = true := by simp [h]
theorem err_l {l : List Int} {b w : Int} {i : Nat} (hi : i < l.length) (h : ¬ proI (gt l i) = true) : ¬ (proI b && proI w && allP l) = true := by
  intro hh
  simp only [Bool.and_eq_true] at hh
  exact h (proI_iff.2 (allP_iff.1 hh.2 i hi))
theorem sumI_m {l : List Int} {b w : Int} (h : Fine l b w) (i : Nat) : ∀ k, i ≤ k → k ≤ l.length → sumI l b i ≤ sumI l b k
  | 0, hi, _ => by
    have h0 : i = 0 := by omega
    subst h0; exact Int.le_refl _
  | k + 1, hi, hk => by
    rcases Nat.lt_or_eq_of_le hi with h1 | h1
    · have ih := sumI_m h i k (by omega) (by omega)
      have h1 := h.2.2.2 k (by omega)
      have h2 := h.2.1
      show sumI l b i ≤ sumI l b k + gt l k + b
      omega
    · subst h1; exact Int.le_refl _
/-- The free width of a line, from sums. -/
def freS (S : List Int) (b w i j : Int) : Int := w - (gt S j.toNat - gt S i.toNat - b)
def priS (S : List Int) (b w i j : Int) : Int := if j = ((S.length - 1 : Nat) : Int) then 0 else freS S b w i j * freS S b w i j
def Col (S : List Int) (b w : Int) : Prop := (0 < S.length ∧ S.length ≤ 1000) ∧ (0 ≤ b ∧ b ≤ 4096) ∧ (0 ≤ w ∧ w ≤ 4096) ∧ ∀ i, i < S.length → 0 ≤ gt S i ∧ gt S i ≤ 3000000
theorem fine_col {l : List Int} {b w : Int} (h : Fine l b w) : Col (sumsL l b l.length) b w := by
  refine ⟨by rw [sumsL_len]; have := h.1; omega, h.2.1, h.2.2.1, fun i hi => ?_⟩
  rw [sumsL_len] at hi
  rw [sumsL_gt _ _ _ _ (by omega)]
  have := sumI_b h i (by omega)
  have := h.1
  omega
/-- The free width of a line. -/
def freR (l : List Int) (b w i j : Int) : Int := if j ≤ i then w else w - (sumI l b j.toNat - sumI l b i.toNat - b)
def priR (l : List Int) (b w i j : Int) : Int := if j = (l.length : Int) then 0 else freR l b w i j * freR l b w i j
theorem freS_R {l : List Int} {b w i j : Int} (hi : 0 ≤ i) (hij : i < j) (hj : j ≤ l.length) : freS (sumsL l b l.length) b w i j = freR l b w i j := by
  unfold freS freR
  rw [if_neg (by omega), sumsL_gt _ _ _ _ (by omega), sumsL_gt _ _ _ _ (by omega)]
theorem priS_R {l : List Int} {b w i j : Int} (hi : 0 ≤ i) (hij : i < j) (hj : j ≤ l.length) : priS (sumsL l b l.length) b w i j = priR l b w i j := by
  unfold priS priR
  rw [sumsL_len, freS_R hi hij hj]; rfl
theorem freR_0 (l : List Int) (b w i : Int) (hi : 0 ≤ i) : freR l b w i (i + 1) = w - gt l i.toNat := by
  unfold freR
  rw [if_neg (by omega), show (i + 1).toNat = i.toNat + 1 by omega]
  show w - (sumI l b i.toNat + gt l i.toNat + b - sumI l b i.toNat - b) = _
  omega
theorem freR_b {l : List Int} {b w i j : Int} (h : Fine l b w) (hi : 0 ≤ i) (hj : j ≤ l.length) : -10000000 ≤ freR l b w i j ∧ freR l b w i j ≤ 8192 := by
  unfold freR
  have h2 := h.2.1
  have h3 := h.2.2.1
  split
  · omega
  · have q1 := sumI_m h i.toNat j.toNat (by omega) (by omega)
    have q2 := sumI_b h j.toNat (by omega)
    have q3 := sumI_b h i.toNat (by omega)
    have := h.1
    omega
theorem sq_b {x : Int} (h : -10000000 ≤ x ∧ x ≤ 10000000) : 0 ≤ x * x ∧ x * x ≤ 100000000000000 := by
  constructor
  · rcases Int.le_total 0 x with h1 | h1
    · exact Int.mul_nonneg h1 h1
    · have := Int.mul_nonneg (show 0 ≤ -x by omega) (show 0 ≤ -x by omega)
      rwa [Int.neg_mul_neg] at this
  · rcases Int.le_total 0 x with h1 | h1
    · exact Int.mul_le_mul h.2 h.2 h1 (by decide)
    · have := Int.mul_le_mul (show -x ≤ 10000000 by omega) (show -x ≤ 10000000 by omega) (show 0 ≤ -x by omega) (by decide)
      rwa [Int.neg_mul_neg] at this
theorem freS_b {S : List Int} {b w i j : Int} (h : Col S b w) (hi : i.toNat < S.length) (hj : j.toNat < S.length) : -10000000 ≤ freS S b w i j ∧ freS S b w i j ≤ 10000000 := by
  have h1 := h.2.2.2 _ hi
  have h2 := h.2.2.2 _ hj
  have h3 := h.2.1
  have h4 := h.2.2.1
  unfold freS; omega
end Go.Sx
