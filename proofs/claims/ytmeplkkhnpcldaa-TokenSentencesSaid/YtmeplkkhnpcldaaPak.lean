/-
  A box that nobody writes any more. And what follows.
-/
import Derived.Test.YtmeplkkhnpcldaaProg
import Derived.KernelRfl
import Derived.Test.YtmeplkkhnpcldaaPaj
import Derived.Test.YtmeplkkhnpcldaaPaa
set_option linter.unusedSimpArgs false
set_option linter.unusedVariables false
namespace Go.Sx
open Go.RowKit
def okF (h : Hp) (b b' : Nat) : Bool := (h.at b').isSome && b' != b
mutual
def scr (ok : Nat → Bool) : C → C
  | .sv b o n => if ok b = true then .sv b o n else .top
  | .gv b n s => if ok b = true then .gv b n s else .top
  | .bp b o => if ok b = true then .bp b o else .top
  | .sl r n xs => .sl r n (scrs ok xs)
  | .kp xs => .kp (scrs ok xs)
  | .agg xs => .agg (scrs ok xs)
  | .tup xs => .tup (scrs ok xs)
  | .fn f xs => .fn f (scrs ok xs)
  | .top => .top
  | .val v => .val v
def scrs (ok : Nat → Bool) : List C → List C
  | [] => []
  | x :: xs => scr ok x :: scrs ok xs
end
mutual
def fzC (ok : Nat → Bool) (b : Nat) (ys : List C) : C → C
  | .sv b' o n => if b' = b then (if o + n ≤ ys.length then .sl .no n ((ys.drop o).take n) else .top) else if ok b' = true then .sv b' o n else .top
  | .gv b' n s => if b' = b then (if n * s ≤ ys.length then .sl .no n (ys.take (n * s)) else .top) else if ok b' = true then .gv b' n s else .top
  | .bp b' o => if b' = b then .kp (ys.drop o) else if ok b' = true then .bp b' o else .top
  | .sl r n xs => .sl r n (fzCs ok b ys xs)
  | .kp xs => .kp (fzCs ok b ys xs)
  | .agg xs => .agg (fzCs ok b ys xs)
  | .tup xs => .tup (fzCs ok b ys xs)
  | .fn f xs => .fn f (fzCs ok b ys xs)
  | .top => .top
  | .val v => .val v
def fzCs (ok : Nat → Bool) (b : Nat) (ys : List C) : List C → List C
  | [] => []
  | x :: xs => fzC ok b ys x :: fzCs ok b ys xs
end
theorem scrs_map (ok : Nat → Bool) : ∀ xs : List C, scrs ok xs = xs.map (scr ok)
  | [] => rfl
  | x :: xs => by simp [scrs, scrs_map ok xs]
theorem fzCs_map (ok : Nat → Bool) (b : Nat) (ys : List C) : ∀ xs : List C, fzCs ok b ys xs = xs.map (fzC ok b ys)
  | [] => rfl
  | x :: xs => by simp [fzCs, fzCs_map ok b ys xs]
def fzH (ok : Nat → Bool) (b : Nat) (ys : List C) (h : Hp) : Hp := (h.map fun o => o.map (fzCs ok b ys)).set b (some deadC)
open Classical in
noncomputable def fzG (G : Gh) (w : World) (b k : Nat) : Gh where
  K := fun g o => if G.μ b = some g ∧ o < k then w.cell? ⟨g, o, none⟩ else G.K g o
  μ := fun b' => if b' = b ∨ (∃ g, G.μ b = some g ∧ G.μ b' = some g) then none else G.μ b'
  T := G.T
  σ := fun b' => if b' = b ∨ (∃ g, G.μ b = some g ∧ G.μ b' = some g) then none else G.σ b'
section
variable {cx : Cx} {n : Nat} {st : St} {Q : Ex → St → Prop} {G : Gh} {w : World} {h : Hp} {b : Nat} {cells : List C}
theorem fz_keep (H : WorldOK G h w) (hb : h.at b = some cells) {b' : Nat} (hok : okF h b b' = true) : ¬ (b' = b ∨ (∃ g, G.μ b = some g ∧ G.μ b' = some g)) := by
  simp only [okF, Bool.and_eq_true, bne_iff_ne, ne_eq] at hok
  obtain ⟨h1, h2⟩ := hok
  obtain ⟨c', hc'⟩ := Option.isSome_iff_exists.1 h1
  rintro (e | ⟨g, e1, e2⟩)
  · exact h2 e
  · exact h2 (H.inj b' b _ _ g hc' hb e2 e1)
theorem fz_le (H : WorldOK G h w) (k : Nat) : (cutμ G 0).Le (fzG G w b k) :=
  ⟨fun g o u x => (by
    have x' : G.K g o = some u := x
    simp only [fzG]
    rw [if_neg]
    · exact x'
    · rintro ⟨e, _⟩
      rw [(H.sep b g e).1 o] at x'; cases x'), fun b k x => by simp [cutμ] at x, fun b k x => by simp [cutμ] at x⟩
theorem fz_μ (H : WorldOK G h w) (hb : h.at b = some cells) {b' k g : Nat} (hok : okF h b b' = true) (hm : G.μ b' = some g) : (fzG G w b k).μ b' = some g := by
  simp only [fzG]; rw [if_neg (fz_keep H hb hok)]; exact hm
theorem fz_σ (H : WorldOK G h w) (hb : h.at b = some cells) {b' k g : Nat} (hok : okF h b b' = true) (hm : G.σ b' = some g) : (fzG G w b k).σ b' = some g := by
  simp only [fzG]; rw [if_neg (fz_keep H hb hok)]; exact hm
mutual
theorem scr_rep (H : WorldOK G h w) (hb : h.at b = some cells) (k : Nat) : ∀ (c : C) (v : Value), Rep G c v → Rep (fzG G w b k) (scr (okF h b) c) v
  | .top, _, _ => by simp [scr, Rep]
  | .val u, v, r => by simpa [scr, Rep] using r
  | .sl r n xs, v, x => by
    simp only [scr, Rep] at x ⊢
    obtain ⟨a, cap, h1, h2, h3, h4, h5⟩ := x
    refine ⟨a, cap, h1, h2, h3, h4, ?_⟩
    rcases h5 with h5 | ⟨blk, off, ha, hk⟩
    · left; rw [h5]; rfl
    · exact .inr ⟨blk, off, ha, scr_repK H hb k xs blk off hk⟩
  | .sv b' off n, v, x => by
    simp only [scr]
    split
    · rename_i hok
      simp only [Rep] at x ⊢
      obtain ⟨a, cap, h1, h2, h3, h4⟩ := x
      exact ⟨a, cap, h1, h2, h3, fun hz => by obtain ⟨blk, q1, q2⟩ := h4 hz; exact ⟨blk, fz_μ H hb hok q1, q2⟩⟩
    · simp [Rep]
  | .gv b' m s, v, x => by
    simp only [scr]
    split
    · rename_i hok
      simp only [Rep] at x ⊢
      obtain ⟨a, cap, h1, h2, h3, h4⟩ := x
      refine ⟨a, cap, h1, h2, h3, ?_⟩
      rcases h4 with h4 | ⟨blk, q1, q2, q3⟩
      · exact .inl h4
      · exact .inr ⟨blk, fz_μ H hb hok q1, q2, fz_σ H hb hok q3⟩
    · simp [Rep]
  | .bp b' off, v, x => by
    simp only [scr]
    split
    · rename_i hok
      simp only [Rep] at x ⊢
      obtain ⟨blk, h1, h2⟩ := x
      exact ⟨blk, fz_μ H hb hok h1, h2⟩
    · simp [Rep]
  | .kp xs, v, x => by
    simp only [scr, Rep] at x ⊢
    obtain ⟨blk, off, h1, h2⟩ := x
    exact ⟨blk, off, h1, scr_repK H hb k xs blk off h2⟩
  | .agg xs, v, x => by
    simp only [scr, Rep] at x ⊢
    obtain ⟨vs, h1, h2, h3⟩ := x
    exact ⟨vs, h1, scr_repL H hb k xs _ h2, h3⟩
  | .tup xs, v, x => by
    simp only [scr, Rep] at x ⊢
    obtain ⟨vs, h1, h2⟩ := x
    exact ⟨vs, h1, scr_repL H hb k xs _ h2⟩
  | .fn f xs, v, x => by
    simp only [scr, Rep] at x ⊢
    obtain ⟨vs, h1, h2⟩ := x
    exact ⟨vs, h1, scr_repL H hb k xs _ h2⟩
theorem scr_repL (H : WorldOK G h w) (hb : h.at b = some cells) (k : Nat) : ∀ (xs : List C) (vs : List Value), RepL G xs vs → RepL (fzG G w b k) (scrs (okF h b) xs) vs
  | [], vs, r => by simpa [scrs, RepL] using r
  | x :: xs, vs, r => by
    simp only [scrs, RepL] at r ⊢
    obtain ⟨v, vs', h1, h2, h3⟩ := r
    exact ⟨v, vs', h1, scr_rep H hb k x v h2, scr_repL H hb k xs vs' h3⟩
theorem scr_repK (H : WorldOK G h w) (hb : h.at b = some cells) (k : Nat) : ∀ (xs : List C) (blk off : Nat), RepK G blk off xs → RepK (fzG G w b k) blk off (scrs (okF h b) xs)
  | [], _, _, _ => by simp [scrs, RepK]
  | x :: xs, blk, off, r => by
    simp only [scrs, RepK] at r ⊢
    obtain ⟨⟨u, h1, h2, h3⟩, h4⟩ := r
    exact ⟨⟨u, (fz_le H k).K _ _ _ h1, h2, scr_rep H hb k x u h3⟩, scr_repK H hb k xs blk (off + 1) h4⟩
end
/-- The cells, as they stand for good. -/
def fzY (h : Hp) (b : Nat) (cells : List C) : List C := (scrs (okF h b) cells).map C.noR
theorem fzY_len (h : Hp) (b : Nat) (cells : List C) : (fzY h b cells).length = cells.length := by simp [fzY, scrs_map]
theorem fz_row (H : WorldOK G h w) (hb : h.at b = some cells) {blk : Nat} (hm : G.μ b = some blk) : RepK (fzG G w b cells.length) blk 0 (fzY h b cells) := by
  obtain ⟨cs, e, ⟨fr, q2, _⟩, q0, q3, q4⟩ := H.bx hb hm
  refine RepK.of_get fun i x hx => ?_
  have hil : i < cells.length := by have := (List.getElem?_eq_some_iff.1 hx).1; rwa [fzY_len] at this
  unfold fzY at hx
  rw [scrs_map, List.map_map, List.getElem?_map] at hx
  cases hc : cells[i]? with
  | none => rw [hc] at hx; cases hx
  | some y =>
    rw [hc] at hx
    simp only [Option.map_some, Option.some.injEq, Function.comp] at hx
    subst hx
    obtain ⟨u, hu, hr⟩ := q3.get i y hc
    rw [List.getElem?_take, if_pos hil] at hu
    refine ⟨u, ?_, q4 u (List.mem_of_getElem? hu), (scr_rep H hb cells.length y u hr).noR⟩
    simp only [fzG, Nat.zero_add]
    rw [if_pos ⟨hm, hil⟩]
    exact cell_of q2 _ _ hu
mutual
theorem fzC_rep (H : WorldOK G h w) (hb : h.at b = some cells) : ∀ (c : C) (v : Value), Rep G c v → Rep (fzG G w b cells.length) (fzC (okF h b) b (fzY h b cells) c) v
  | .top, _, _ => by simp [fzC, Rep]
  | .val u, v, r => by simpa [fzC, Rep] using r
  | .sl r n xs, v, x => by
    simp only [fzC, Rep] at x ⊢
    obtain ⟨a, cap, h1, h2, h3, h4, h5⟩ := x
    refine ⟨a, cap, h1, h2, h3, h4, ?_⟩
    rcases h5 with h5 | ⟨blk, off, ha, hk⟩
    · left; rw [h5]; rfl
    · exact .inr ⟨blk, off, ha, fzC_repK H hb xs blk off hk⟩
  | .sv b' off n, v, x => by
    simp only [fzC]
    split
    · rename_i e
      subst e
      split
      · rename_i hle
        simp only [Rep] at x ⊢
        obtain ⟨a, cap, h1, h2, h3, h4⟩ := x
        refine ⟨a, cap, h1, h2, h3, by simp, ?_⟩
        by_cases hn : n = 0
        · left; subst hn; simp
        · right
          obtain ⟨blk, q1, q2⟩ := h4 hn
          refine ⟨blk, off, q2, ?_⟩
          have := (fz_row H hb q1).drop off
          rw [Nat.zero_add] at this
          exact this.take n
      · simp [Rep]
    · split
      · rename_i hok
        simp only [Rep] at x ⊢
        obtain ⟨a, cap, h1, h2, h3, h4⟩ := x
        exact ⟨a, cap, h1, h2, h3, fun hz => by obtain ⟨blk, q1, q2⟩ := h4 hz; exact ⟨blk, fz_μ H hb hok q1, q2⟩⟩
      · simp [Rep]
  | .gv b' m s, v, x => by
    simp only [fzC]
    split
    · rename_i e
      subst e
      split
      · rename_i hle
        simp only [Rep] at x ⊢
        obtain ⟨a, cap, h1, h2, h3, h4⟩ := x
        refine ⟨a, cap, h1, h2, h3, by simp, ?_⟩
        rcases h4 with ⟨rfl, _⟩ | ⟨blk, q1, q2, q3⟩
        · left; simp
        · right
          exact ⟨blk, 0, q2, (fz_row H hb q1).take _⟩
      · simp [Rep]
    · split
      · rename_i hok
        simp only [Rep] at x ⊢
        obtain ⟨a, cap, h1, h2, h3, h4⟩ := x
        refine ⟨a, cap, h1, h2, h3, ?_⟩
        rcases h4 with h4 | ⟨blk, q1, q2, q3⟩
        · exact .inl h4
        · exact .inr ⟨blk, fz_μ H hb hok q1, q2, fz_σ H hb hok q3⟩
      · simp [Rep]
  | .bp b' off, v, x => by
    simp only [fzC]
    split
    · rename_i e
      subst e
      simp only [Rep] at x ⊢
      obtain ⟨blk, h1, h2⟩ := x
      refine ⟨blk, off, h2, ?_⟩
      have := (fz_row H hb h1).drop off
      rwa [Nat.zero_add] at this
    · split
      · rename_i hok
        simp only [Rep] at x ⊢
        obtain ⟨blk, h1, h2⟩ := x
        exact ⟨blk, fz_μ H hb hok h1, h2⟩
      · simp [Rep]
  | .kp xs, v, x => by
    simp only [fzC, Rep] at x ⊢
    obtain ⟨blk, off, h1, h2⟩ := x
    exact ⟨blk, off, h1, fzC_repK H hb xs blk off h2⟩
  | .agg xs, v, x => by
    simp only [fzC, Rep] at x ⊢
    obtain ⟨vs, h1, h2, h3⟩ := x
    exact ⟨vs, h1, fzC_repL H hb xs _ h2, h3⟩
  | .tup xs, v, x => by
    simp only [fzC, Rep] at x ⊢
    obtain ⟨vs, h1, h2⟩ := x
    exact ⟨vs, h1, fzC_repL H hb xs _ h2⟩
  | .fn f xs, v, x => by
    simp only [fzC, Rep] at x ⊢
    obtain ⟨vs, h1, h2⟩ := x
    exact ⟨vs, h1, fzC_repL H hb xs _ h2⟩
theorem fzC_repL (H : WorldOK G h w) (hb : h.at b = some cells) : ∀ (xs : List C) (vs : List Value), RepL G xs vs → RepL (fzG G w b cells.length) (fzCs (okF h b) b (fzY h b cells) xs) vs
  | [], vs, r => by simpa [fzCs, RepL] using r
  | x :: xs, vs, r => by
    simp only [fzCs, RepL] at r ⊢
    obtain ⟨v, vs', h1, h2, h3⟩ := r
    exact ⟨v, vs', h1, fzC_rep H hb x v h2, fzC_repL H hb xs vs' h3⟩
theorem fzC_repK (H : WorldOK G h w) (hb : h.at b = some cells) : ∀ (xs : List C) (blk off : Nat), RepK G blk off xs → RepK (fzG G w b cells.length) blk off (fzCs (okF h b) b (fzY h b cells) xs)
  | [], _, _, _ => by simp [fzCs, RepK]
  | x :: xs, blk, off, r => by
    simp only [fzCs, RepK] at r ⊢
    obtain ⟨⟨u, h1, h2, h3⟩, h4⟩ := r
    exact ⟨⟨u, (fz_le H _).K _ _ _ h1, h2, fzC_rep H hb x u h3⟩, fzC_repK H hb xs blk (off + 1) h4⟩
end
theorem fzC_own {ok : Nat → Bool} {ys : List C} {c : C} {s m : Nat} {xs : List C} (hc : fzC ok b ys c = .sl (.own s) m xs) : ∃ zs, c = .sl (.own s) m zs := by
  cases c with
  | sl r k zs => simp only [fzC] at hc; cases hc; exact ⟨zs, rfl⟩
  | sv b o k => simp only [fzC] at hc; repeat' split at hc
                all_goals cases hc
  | gv b o k => simp only [fzC] at hc; repeat' split at hc
                all_goals cases hc
  | bp b o => simp only [fzC] at hc; repeat' split at hc
              all_goals cases hc
  | _ => simp only [fzC] at hc; cases hc
theorem fzH_at {ok : Nat → Bool} {ys : List C} (hb : h.at b = some cells) {j : Nat} {c' : List C} (hj : Hp.at (fzH ok b ys h) j = some c') : j ≠ b ∧ ∃ c0, h.at j = some c0 ∧ c' = fzCs ok b ys c0 := by
  have hlen := Hp.at_lt hb
  unfold fzH at hj
  rw [Hp.at_set (by simpa using hlen)] at hj
  split at hj
  · cases hj
  · rename_i hne
    refine ⟨hne, ?_⟩
    have h1 := Hp.at_some hj
    rw [List.getElem?_map] at h1
    cases hq : h[j]? with
    | none => rw [hq] at h1; cases h1
    | some o =>
      rw [hq] at h1
      cases o with
      | none => cases h1
      | some c0 =>
        simp only [Option.map_some, Option.some.injEq] at h1
        refine ⟨c0, ?_, h1.symm⟩
        have hl := Hp.at_live hj
        unfold Hp.at
        rw [hq]
        subst h1
        show liveC (some c0) = _
        cases c0 with
        | nil => rfl
        | cons x l =>
          cases x with
          | tup xs => simp only [fzCs, fzC] at hl; cases hl
          | _ => rfl
theorem OwnRow.fz {k : Nat} {p : Place} {v : Value} {s m : Nat} (O : OwnRow G w p v s m) : OwnRow (fzG G w b k) w p v s m := by
  rcases O with O | ⟨g, cap, cur, e, a1, a2, a3, a4, a5, a6⟩
  · exact .inl O
  · refine .inr ⟨g, cap, cur, e, a1, a2, a3, a4, fun o ho => ?_, fun b' hb' => ?_⟩
    · simp only [fzG]
      rw [if_neg (fun x => a6 b x.1)]
      exact a5 o ho
    · simp only [fzG] at hb'
      split at hb'
      · cases hb'
      · exact a6 b' hb'
theorem WorldOK.fz (H : WorldOK G h w) (hb : h.at b = some cells) : WorldOK (fzG G w b cells.length) (fzH (okF h b) b (fzY h b cells) h) w := by
  have hlen := Hp.at_lt hb
  have hμ : ∀ {j blk}, (fzG G w b cells.length).μ j = some blk → G.μ j = some blk ∧ j ≠ b ∧ G.μ b ≠ some blk := fun {j blk} x => by
    simp only [fzG] at x
    split at x
    · cases x
    · rename_i hne
      refine ⟨x, fun e => hne (.inl e), fun e => hne (.inr ⟨blk, e, x⟩)⟩
  refine ⟨fun blk off u hk => ?_, fun j c' hj => ?_, fun j blk hm => ?_, fun j j' c c' blk hj hj' hm hm' => ?_, fun j blk hm => ?_, H.tlt, fun j c' off s m xs blk v hj hc hm hv => ?_, fun j z hz => ?_⟩
  · simp only [fzG] at hk
    split at hk
    · exact hk
    · exact H.known blk off u hk
  · obtain ⟨hne, c0, h2, rfl⟩ := fzH_at hb hj
    have hok : okF h b j = true := by simp [okF, h2, hne]
    rcases H.box j c0 h2 with ⟨hE, hE2⟩ | ⟨blk, cs, e, q1, q2, q3, q4, q5⟩
    · refine .inl ⟨by rw [hE]; rfl, ?_⟩
      simp only [fzG]
      split
      · rfl
      · exact hE2
    · have hl : (fzCs (okF h b) b (fzY h b cells) c0).length = c0.length := by rw [fzCs_map]; simp
      exact .inr ⟨blk, cs, e, fz_μ H hb hok q1, q2, by rw [hl]; exact q3, by rw [hl]; exact fzC_repL H hb _ _ q4, q5⟩
  · obtain ⟨h1, h2, h3⟩ := hμ hm
    obtain ⟨⟨c, hc⟩, hl⟩ := H.dom j blk h1
    refine ⟨⟨fzCs (okF h b) b (fzY h b cells) c, ?_⟩, hl⟩
    unfold fzH
    rw [List.getElem?_set, if_neg (Ne.symm h2), List.getElem?_map, hc]; rfl
  · obtain ⟨h1, _, _⟩ := hμ hm
    obtain ⟨h1', _, _⟩ := hμ hm'
    obtain ⟨_, c0, g2, _⟩ := fzH_at hb hj
    obtain ⟨_, c0', g2', _⟩ := fzH_at hb hj'
    exact H.inj j j' _ _ blk g2 g2' h1 h1'
  · obtain ⟨h1, h2, h3⟩ := hμ hm
    obtain ⟨s1, s2⟩ := H.sep j blk h1
    refine ⟨fun o => ?_, s2⟩
    simp only [fzG]
    rw [if_neg (fun x => h3 x.1)]
    exact s1 o
  · obtain ⟨h1, _, _⟩ := hμ hm
    obtain ⟨_, c0, g2, rfl⟩ := fzH_at hb hj
    rw [fzCs_map, List.getElem?_map] at hc
    cases hq : c0[off]? with
    | none => rw [hq] at hc; cases hc
    | some y =>
      rw [hq] at hc
      simp only [Option.map_some, Option.some.injEq] at hc
      obtain ⟨zs, rfl⟩ := fzC_own hc
      exact (H.own j c0 off s m zs blk v g2 hq h1 hv).fz
  · simp only [fzG] at hz ⊢
    split at hz
    · cases hz
    · rename_i hne
      obtain ⟨blk, cs, e, fr, q1, q2, q3⟩ := H.siz j z hz
      exact ⟨blk, cs, e, fr, by rw [if_neg hne]; exact q1, q2, q3⟩
theorem frmN_fz (H : WorldOK G h w) (hb : h.at b = some cells) (hnb : n ≤ b) (hn : ∀ j, j < n → (h.at j).isSome = true ∨ h[j]? = some none) (k : Nat) : FrmN n G w (fzG G w b k) w := by
  have keep : ∀ j, j < n → ∀ blk, G.μ j = some blk → okF h b j = true := fun j hj blk hm => by
    rcases hn j hj with h1 | h1
    · simp [okF, h1]; omega
    · obtain ⟨⟨c, hc⟩, _⟩ := H.dom j blk hm
      rw [h1] at hc; cases hc
  refine ⟨rfl, rfl, rfl, Nat.le_refl _, fun g o u x => (fz_le H k).K g o u x, fun j blk hj x => fz_μ H hb (keep j hj blk x) x, fun j z hj x => ?_, fun g _ ht hm => ⟨rfl, ht, fun j hj => ?_, fun o => ?_⟩⟩
  · obtain ⟨blk, _, _, _, q1, _⟩ := H.siz j z x
    exact fz_σ H hb (keep j hj blk q1) x
  · simp only [fzG] at hj
    split at hj
    · cases hj
    · exact hm j hj
  · simp only [fzG]
    rw [if_neg (fun x => hm b x.1)]
theorem Tr.fz (hcx : CxOK cx) {c : Code} (b : Nat) {cells : List C} (hb : st.h.at b = some cells) (hnb : n ≤ b) (hn : ∀ j, j < n → (st.h.at j).isSome = true ∨ st.h[j]? = some none)
    (K : Tr cx n c ⟨fun t => fzC (okF st.h b) b (fzY st.h b cells) (st.env t), fzH (okF st.h b) b (fzY st.h b cells) st.h⟩ Q) : Tr cx n c st Q := fun G w a S R hR =>
  K (fzG G w b cells.length) w a ⟨S.defers, S.size, S.pre.ok.fz hb, ⟨fun t => fzC_rep S.pre.ok hb _ _ (S.pre.env.1 t), fun t s m xs e => by
      obtain ⟨ys, hy⟩ := fzC_own e
      exact (S.pre.env.2 t s m ys hy).fz⟩, fun g => (noRef_rep _ _ (hcx.glo g) (S.pre.glob g)).mono (fz_le S.pre.ok _)⟩ R
    fun x s G' w' a' q S' F => hR x s G' w' a' q S' ((frmN_fz S.pre.ok hb hnb hn _).trans F)
end
end Go.Sx
namespace Go.Sx
open Go.RowKit
/-! asSv -/
theorem asSv_val (v : Value) : (C.val v).asSv = .val v := rfl
theorem asSv_tsl {α : Type} (f : α → List C) (r : Rt) (l : List α) : (sl f r l).asSv = sl f r l := rfl
theorem asSv_gv (b n s : Nat) : (C.gv b n s).asSv = .sv b 0 n := rfl
theorem asSv_bp (b o : Nat) : (C.bp b o).asSv = .bp b o := rfl
theorem asSv_kp (xs : List C) : (C.kp xs).asSv = .kp xs := rfl
theorem noR_gv (b n s : Nat) : (C.gv b n s).noR = .gv b n s := rfl
theorem share_gv (b n s : Nat) : (C.gv b n s).share = .gv b n s := rfl
theorem refBox_gv (b n s : Nat) (l : List C) : refBox (.gv b n s :: l) = oneB b l := rfl
def frzGv (cells : List C) (b n s : Nat) : C := if n * s ≤ cells.length then .sl .no n ((cells.take (n * s)).map C.noR) else .gv b n s
theorem frz_gv (b : Nat) (cells : List C) (n s : Nat) : frz1 b cells (.gv b n s) = frzGv cells b n s := by simp [frz1, frzGv]
theorem frzGv_cl {α : Type} (f : α → List C) {s : Nat} [hf : Cel f s] (b n : Nat) (l : List α) (h : n = l.length) : frzGv (cl f l) b n s = sl f .no l := by
  subst h
  have hl := cl_len (f := f) l
  unfold frzGv
  rw [if_pos (by omega), List.take_of_length_le (by omega), cl_noR]; rfl
theorem refy_gv (b n s : Nat) (l : List C) : refy (.gv b n s :: l) = true := rfl
/-! What is to grow -/
theorem isG_grow (cx : Cx) (l : List Nat) (d : Option Nat) : isG (cx.grow l) d = isA l d := by cases d <;> rfl
theorem grow_P (cx : Cx) (l : List Nat) : (cx.grow l).P = cx.P := rfl
theorem grow_N (cx : Cx) (l : List Nat) : (cx.grow l).N = cx.N := rfl
/-! slices -/
theorem sliceP_str (P : Program) (t : TypeId) (v : Value) (lo hi mx : Option C) : sliceP P t (.val v) lo hi mx = slicePlan P t (.val v) lo hi mx := rfl
def sgP (P : Program) (t : Option TD) (b n s : Nat) (hi : Option C) : Option Plan := match t with
  | some d => match d.u with
    | .slice e => match td P e, bound? hi n n with
      | some de, some h => if de.size = s then some (vp (.gv b h s)) else none
      | _, _ => none
    | _ => none
  | none => none
theorem sliceP_gv (P : Program) (t : TypeId) (b n s : Nat) (hi : Option C) : sliceP P t (.gv b n s) none hi none = sgP P (td P t) b n s hi := rfl
def sgQ (t : Option TD) (b s : Nat) (h : Option Nat) : Option Plan := match t, h with
  | some de, some h => if de.size = s then some (vp (.gv b h s)) else none
  | _, _ => none
theorem sgP_sl (P : Program) (e a1 b1 : Nat) (z1 : List Value) (b n s : Nat) (hi : Option C) : sgP P (some ⟨.slice e, a1, b1, z1⟩) b n s hi = sgQ (td P e) b s (bound? hi n n) := rfl
theorem sgQ_some (u : TypeDesc) (s y : Nat) (z : List Value) (b h : Nat) : sgQ (some ⟨u, s, y, z⟩) b s (some h) = some (vp (.gv b h s)) := if_pos rfl
/-! append -/
def gwQ (de : Option TD) (x y : C) : Option Plan := match de with
  | none => none
  | some de =>
    let start : Option (Nat × Option (Nat × Nat)) := match x with
      | .val (.slice none 0 0) => some (0, none)
      | .sl .full 0 _ => some (0, none)
      | .gv b n s => if s = de.size then some (n, some (b, n)) else none
      | _ => none
    match start with
    | none => none
    | some (n, b) =>
      let fin (m : Nat) (ys : List C) : Bool := decide (ys.length = m * de.size ∧ 0 < de.size ∧ de.zero.length = de.size ∧ (n + m) * de.bytes ≤ 140737488355328 ∧ n + m ≤ 9223372036854775807 ∧ de.zero.all (·.oneCell') = true)
      match y with
      | .sv b' off m => some (.ap b de.size m fun h => (h.at b').bind fun cells => if off + m * de.size ≤ cells.length ∧ fin m (((cells.drop off).take (m * de.size)).map C.noR) = true then some (((cells.drop off).take (m * de.size)).map C.noR) else none)
      | y => match src? y with
        | some (m, ys) => if fin m ys = true then some (.ap b de.size m fun _ => some ys) else none
        | none => none
def gwP (P : Program) (d d2 : Option TD) (x y : C) : Option Plan := match d, d2 with
  | some d, some d2 =>
    if notInt d2.u = false then none else
    match d.u with
    | .slice e => gwQ (td P e) x y
    | _ => none
  | _, _ => none
theorem gw_td (P : Program) (t t2 : TypeId) (x y : C) : growPlan P t t2 x y = gwP P (td P t) (td P t2) x y := rfl
theorem gw_ss (P : Program) (e e2 a1 b1 a2 b2 : Nat) (z1 z2 : List Value) (x y : C) : gwP P (some ⟨.slice e, a1, b1, z1⟩) (some ⟨.slice e2, a2, b2, z2⟩) x y = gwQ (td P e) x y := rfl
section
variable {α : Type} (f : α → List C) {s : Nat} [hf : Cel f s] (u : TypeDesc) (y : Nat) (z : List Value)
theorem gw_fin (n : Nat) (l' : List α) (hz : z.length = s) (hz1 : z.all (·.oneCell') = true) (h : (n + l'.length) * y ≤ 140737488355328 ∧ n + l'.length ≤ 9223372036854775807) :
    decide ((cl f l').length = l'.length * s ∧ 0 < s ∧ z.length = s ∧ (n + l'.length) * y ≤ 140737488355328 ∧ n + l'.length ≤ 9223372036854775807 ∧ z.all (·.oneCell') = true) = true := by
  simp only [decide_eq_true_eq]
  exact ⟨cl_len (f := f) l', hf.pos, hz, h.1, h.2, hz1⟩
theorem gwQ_gv (b n : Nat) (r : Rt) (l' : List α) (hz : z.length = s) (hz1 : z.all (·.oneCell') = true) (h : (n + l'.length) * y ≤ 140737488355328 ∧ n + l'.length ≤ 9223372036854775807) :
    gwQ (some ⟨u, s, y, z⟩) (.gv b n s) (sl f r l') = some (.ap (some (b, n)) s l'.length fun _ => some (cl f l')) := by
  have e := gw_fin f y z n l' hz hz1 h
  simp only [gwQ, if_true, sl, src?, C.sl?]
  rw [if_pos e]
end
theorem cgP_td (P : Program) (s t : TypeId) (c : C) : convG P s t c = (match td P s, td P t with
    | some ds, some dd => match ds.u, dd.u, c with
      | .string, .slice e, .val (.string s) => match td P e with
        | some de => (match de.u with
          | .int .u8 => if s.size ≤ 140737488355328 then some (.ap none 1 s.size fun _ => some (s.data.toList.map byteC)) else none
          | _ => none)
        | none => none
      | _, _, _ => none
    | _, _ => none) := rfl
def cgP (P : Program) (d d2 : Option TD) (c : C) : Option Plan := match d, d2 with
    | some ds, some dd => match ds.u, dd.u, c with
      | .string, .slice e, .val (.string s) => match td P e with
        | some de => (match de.u with
          | .int .u8 => if s.size ≤ 140737488355328 then some (.ap none 1 s.size fun _ => some (s.data.toList.map byteC)) else none
          | _ => none)
        | none => none
      | _, _, _ => none
    | _, _ => none
theorem cg_td (P : Program) (s t : TypeId) (c : C) : convG P s t c = cgP P (td P s) (td P t) c := rfl
def cgB (t : Option TD) (l : List UInt8) : Option Plan := match t with
  | some de => (match de.u with
    | .int .u8 => if l.length ≤ 140737488355328 then some (.ap none 1 l.length fun _ => some (cl bC l)) else none
    | _ => none)
  | none => none
theorem cgP_sb (P : Program) (e a1 b1 a2 b2 : Nat) (z1 z2 : List Value) (l : List UInt8) : cgP P (some ⟨.string, a1, b1, z1⟩) (some ⟨.slice e, a2, b2, z2⟩) (.val (str l)) = cgB (td P e) l := by
  unfold cgP cgB str
  simp only [size_mk, List.toList_toArray, cl_bytes]
theorem cgB_u8 (a b : Nat) (z : List Value) (l : List UInt8) (h : l.length ≤ 140737488355328) : cgB (some ⟨.int .u8, a, b, z⟩) l = some (.ap none 1 l.length fun _ => some (cl bC l)) := if_pos h
/-! The boxes -/
section
variable (cx : Cx) (apps : List Nat) (dsts : List (Option Nat)) (l : List Oper) (id' : Nat) (d : Option Nat) (e : List (Nat × C)) (h : Hp) (fs : List FP) (K : List FP → St → Prop)
def nR : List C → List C := List.map C.noR
def stAB (b n s m : Nat) (cs : List C) (o : Option (List C)) : Prop := match o with
  | none => False
  | some cells =>
    if (n + m) * s ≤ cells.length ∧ (n ≠ 0 ∨ m = 0) then run cx apps dsts l id' (mkE d (.gv b (n + m) s) e) (h.set b (some (splice cells (n * s) (cs.map C.noR)))) ((4, 0) :: fs) K
    else if n * s = cells.length then run cx apps dsts l id' (mkE d (.gv h.length (n + m) s) e) (h.set b (some deadC) ++ [some ((cells ++ cs).map C.noR)]) ((4, 0) :: fs) K else False
theorem stA_new (s m : Nat) (cs : List C) : stA cx apps dsts l id' d e h fs K none s m (some cs) = run cx apps dsts l id' (mkE d (.gv h.length m s) e) (h ++ [some (nR cs)]) ((4, 0) :: fs) K := rfl
theorem stA_old (b n s m : Nat) (cs : List C) : stA cx apps dsts l id' d e h fs K (some (b, n)) s m (some cs) = stAB cx apps dsts l id' d e h fs K b n s m cs (h.at b) := rfl
theorem stAB_cl {α : Type} (f : α → List C) {s : Nat} [hf : Cel f s] (b n m : Nat) (xs ys : List α) (hn : n = xs.length) (hm : m = ys.length ∧ 0 < m) :
    stAB cx apps dsts l id' d e h fs K b n s m (cl f ys) (some (cl f xs)) = run cx apps dsts l id' (mkE d (.gv h.length (xs ++ ys).length s) e) (h.set b (some deadC) ++ [some (cl f (xs ++ ys))]) ((4, 0) :: fs) K := by
  obtain ⟨hm1, hm2⟩ := hm
  subst hn hm1
  have hp := hf.pos
  have hl := cl_len (f := f) xs
  have hml : s ≤ ys.length * s := by
    have := Nat.mul_le_mul_right s (show 1 ≤ ys.length by omega)
    omega
  unfold stAB
  simp only []
  rw [if_neg (by rw [hl, Nat.add_mul]; omega), if_pos hl.symm, ← cl_app, cl_noR, List.length_append]
end
@[congr] theorem stA_congr {cx : Cx} {apps : List Nat} {dsts : List (Option Nat)} {l : List Oper} {id' : Nat} {d : Option Nat} {e : List (Nat × C)} {h : Hp} {fs : List FP} {K : List FP → St → Prop} {b : Option (Nat × Nat)} {s m : Nat} {p p' : Option (List C)} (hp : p = p') :
    stA cx apps dsts l id' d e h fs K b s m p = stA cx apps dsts l id' d e h fs K b s m p' := by rw [hp]
@[congr] theorem stAB_congr {cx : Cx} {apps : List Nat} {dsts : List (Option Nat)} {l : List Oper} {id' : Nat} {d : Option Nat} {e : List (Nat × C)} {h : Hp} {fs : List FP} {K : List FP → St → Prop} {b n s m : Nat} {cs : List C} {p p' : Option (List C)} (hp : p = p') :
    stAB cx apps dsts l id' d e h fs K b n s m cs p = stAB cx apps dsts l id' d e h fs K b n s m cs p' := by rw [hp]
theorem nR_cl {α : Type} (f : α → List C) {s : Nat} [hf : Cel f s] (l : List α) : nR (cl f l) = cl f l := cl_noR l
theorem gif_T (p q : Option Plan) : gif true p q = p := rfl
theorem gif_F (p q : Option Plan) : gif false p q = q := rfl
/-! Renaming -/
theorem loc_nil (k b : Nat) : loc [] k b = none := rfl
theorem loc_cons (x : Nat) (r : List Nat) (k b : Nat) : loc (x :: r) k b = if b = x then some k else loc r (k + 1) b := rfl
def mvGv (n s : Nat) : Option Nat → C
  | some j => .gv j n s
  | none => .top
def mvSv (o n : Nat) : Option Nat → C
  | some j => .sv j o n
  | none => .top
def mvBp (o : Nat) : Option Nat → C
  | some j => .bp j o
  | none => .top
theorem mvC_gv (ρ : List Nat) (b n s : Nat) : mvC ρ (.gv b n s) = mvGv n s (loc ρ 0 b) := by simp only [mvC]; cases loc ρ 0 b <;> rfl
theorem mvC_sv (ρ : List Nat) (b o n : Nat) : mvC ρ (.sv b o n) = mvSv o n (loc ρ 0 b) := by simp only [mvC]; cases loc ρ 0 b <;> rfl
theorem mvC_bp (ρ : List Nat) (b o : Nat) : mvC ρ (.bp b o) = mvBp o (loc ρ 0 b) := by simp only [mvC]; cases loc ρ 0 b <;> rfl
theorem mvGv_some (n s j : Nat) : mvGv n s (some j) = .gv j n s := rfl
theorem mvGv_none (n s : Nat) : mvGv n s none = .top := rfl
theorem mvSv_some (o n j : Nat) : mvSv o n (some j) = .sv j o n := rfl
theorem mvSv_none (o n : Nat) : mvSv o n none = .top := rfl
theorem mvBp_some (o j : Nat) : mvBp o (some j) = .bp j o := rfl
theorem mvBp_none (o : Nat) : mvBp o none = .top := rfl
theorem mvC_val (ρ : List Nat) (v : Value) : mvC ρ (.val v) = .val v := by simp only [mvC]
theorem mvC_top (ρ : List Nat) : mvC ρ .top = .top := by simp only [mvC]
theorem mvC_agg (ρ : List Nat) (xs : List C) : mvC ρ (.agg xs) = .agg (mvCs ρ xs) := by simp only [mvC]
theorem mvC_kp (ρ : List Nat) (xs : List C) : mvC ρ (.kp xs) = .kp (mvCs ρ xs) := by simp only [mvC]
theorem mvC_fn (ρ : List Nat) (f : Nat) (xs : List C) : mvC ρ (.fn f xs) = .fn f (mvCs ρ xs) := by simp only [mvC]
theorem mvCs_nil (ρ : List Nat) : mvCs ρ [] = [] := by simp only [mvCs]
theorem mvCs_cons (ρ : List Nat) (c : C) (l : List C) : mvCs ρ (c :: l) = mvC ρ c :: mvCs ρ l := by simp only [mvCs]
mutual
theorem mvC_flat (ρ : List Nat) : ∀ c : C, flat c = true → mvC ρ c = c
  | .val _, _ => by simp only [mvC]
  | .agg xs, h => by simp only [flat] at h; simp only [mvC, mvCs_flat ρ xs h]
  | .tup xs, h => by simp only [flat] at h; simp only [mvC, mvCs_flat ρ xs h]
  | .top, h => by simp [flat] at h
  | .sl _ _ _, h => by simp [flat] at h
  | .sv _ _ _, h => by simp [flat] at h
  | .gv _ _ _, h => by simp [flat] at h
  | .bp _ _, h => by simp [flat] at h
  | .kp _, h => by simp [flat] at h
  | .fn _ _, h => by simp [flat] at h
theorem mvCs_flat (ρ : List Nat) : ∀ l : List C, flats l = true → mvCs ρ l = l
  | [], _ => by simp only [mvCs]
  | x :: xs, h => by simp only [flats, Bool.and_eq_true] at h; simp only [mvCs, mvC_flat ρ x h.1, mvCs_flat ρ xs h.2]
end
theorem mvCs_cl {α : Type} (f : α → List C) [h : Fla f] (ρ : List Nat) (l : List α) : mvCs ρ (cl f l) = cl f l := mvCs_flat ρ _ (flats_cl f l)
theorem mvCs_f {α : Type} (f : α → List C) [h : Fla f] (ρ : List Nat) (a : α) : mvCs ρ (f a) = f a := mvCs_flat ρ _ (h.flat a)
theorem mvC_sl {α : Type} (f : α → List C) [h : Fla f] (ρ : List Nat) (r : Rt) (l : List α) : mvC ρ (sl f r l) = sl f r l := by
  unfold sl; simp only [mvC, mvCs_cl]
def hget : Hp → Nat → Option (List C)
  | [], _ => none
  | o :: _, 0 => o
  | _ :: h, k + 1 => hget h k
theorem hget_eq : ∀ (h : Hp) (k : Nat), (h[k]?).getD none = hget h k
  | [], _ => rfl
  | o :: _, 0 => rfl
  | _ :: h, k + 1 => by rw [List.getElem?_cons_succ]; exact hget_eq h k
theorem hget_0 (o : Option (List C)) (h : Hp) : hget (o :: h) 0 = o := rfl
theorem hget_S (o : Option (List C)) (h : Hp) (k : Nat) : hget (o :: h) (k + 1) = hget h k := rfl
def mvHa (ρ : List Nat) (h : Hp) : List Nat → Hp
  | [] => []
  | x :: r => (hget h x).map (mvCs ρ) :: mvHa ρ h r
theorem mvH_eq (ρ : List Nat) (h : Hp) : mvH ρ h = mvHa ρ h ρ := by
  have key : ∀ r : List Nat, (r.map fun b => ((h[b]?).getD none).map (mvCs ρ)) = mvHa ρ h r := by
    intro r
    induction r with
    | nil => rfl
    | cons x r ih => rw [List.map_cons, ih, hget_eq]; rfl
  exact key ρ
theorem mvHa_nil (ρ : List Nat) (h : Hp) : mvHa ρ h [] = [] := rfl
theorem mvHa_cons (ρ : List Nat) (h : Hp) (x : Nat) (r : List Nat) : mvHa ρ h (x :: r) = (hget h x).map (mvCs ρ) :: mvHa ρ h r := rfl
/-! Freezing -/
def mapE (g : C → C) : List (Nat × C) → List (Nat × C)
  | [] => []
  | (k, c) :: l => (k, g c) :: mapE g l
theorem mapE_nil (g : C → C) : mapE g [] = [] := rfl
theorem mapE_cons (g : C → C) (k : Nat) (c : C) (l : List (Nat × C)) : mapE g ((k, c) :: l) = (k, g c) :: mapE g l := rfl
theorem mapE_A (g : C → C) (hg : g .top = .top) : ∀ l : List (Nat × C), (fun t => g (A l t)) = A (mapE g l)
  | [] => by funext t; exact hg
  | (k, c) :: l => by
    funext t
    simp only [A, mapE]
    split
    · rfl
    · exact congrFun (mapE_A g hg l) t
theorem Tr.fzA {cx : Cx} {n : Nat} {Q : Ex → St → Prop} {e : List (Nat × C)} {h : Hp} (hcx : CxOK cx) {c : Code} (b : Nat) (cells : List C) (hb : h.at b = some cells) (hnb : n ≤ b) (hn : ∀ j, j < n → (h.at j).isSome = true ∨ h[j]? = some none)
    (K : Tr cx n c ⟨A (mapE (fzC (okF h b) b (fzY h b cells)) e), fzH (okF h b) b (fzY h b cells) h⟩ Q) : Tr cx n c ⟨A e, h⟩ Q := by
  refine Tr.fz hcx b hb hnb hn ?_
  rw [mapE_A _ (by simp only [fzC])]
  exact K
theorem Tr.mvA {cx : Cx} {n : Nat} {Q : Ex → St → Prop} {e : List (Nat × C)} {h : Hp} (hcx : CxOK cx) {c : Code} (ρ : List Nat) (hρ : okρ n ρ) (K : Tr cx n c ⟨A (mapE (mvC ρ) e), mvH ρ h⟩ Q) : Tr cx n c ⟨A e, h⟩ Q := by
  refine Tr.mv hcx ρ hρ ?_
  rw [mapE_A _ (mvC_top ρ)]
  exact K
theorem fzC_val (ok : Nat → Bool) (b : Nat) (ys : List C) (v : Value) : fzC ok b ys (.val v) = .val v := by simp only [fzC]
theorem fzC_top (ok : Nat → Bool) (b : Nat) (ys : List C) : fzC ok b ys .top = .top := by simp only [fzC]
mutual
theorem scr_flat (ok : Nat → Bool) : ∀ c : C, flat c = true → scr ok c = c
  | .val _, _ => by simp only [scr]
  | .agg xs, h => by simp only [flat] at h; simp only [scr, scrs_flat ok xs h]
  | .tup xs, h => by simp only [flat] at h; simp only [scr, scrs_flat ok xs h]
  | .top, h => by simp [flat] at h
  | .sl _ _ _, h => by simp [flat] at h
  | .sv _ _ _, h => by simp [flat] at h
  | .gv _ _ _, h => by simp [flat] at h
  | .bp _ _, h => by simp [flat] at h
  | .kp _, h => by simp [flat] at h
  | .fn _ _, h => by simp [flat] at h
theorem scrs_flat (ok : Nat → Bool) : ∀ l : List C, flats l = true → scrs ok l = l
  | [], _ => by simp only [scrs]
  | x :: xs, h => by simp only [flats, Bool.and_eq_true] at h; simp only [scrs, scr_flat ok x h.1, scrs_flat ok xs h.2]
end
theorem fzY_cl {α : Type} (f : α → List C) {s : Nat} [hc : Cel f s] [h : Fla f] (hp : Hp) (b : Nat) (l : List α) : fzY hp b (cl f l) = cl f l := by
  unfold fzY; rw [scrs_flat _ _ (flats_cl f l), cl_noR]
def fzGv (ys : List C) (n s : Nat) : C := if n * s ≤ ys.length then .sl .no n (ys.take (n * s)) else .top
theorem fzC_gv (ok : Nat → Bool) (b : Nat) (ys : List C) (b' n s : Nat) : fzC ok b ys (.gv b' n s) = if b' = b then fzGv ys n s else if ok b' = true then .gv b' n s else .top := by simp only [fzC, fzGv]
theorem fzGv_cl {α : Type} (f : α → List C) {s : Nat} [hc : Cel f s] (l : List α) (n : Nat) (h : n = l.length) : fzGv (cl f l) n s = sl f .no l := by
  subst h
  have hl := cl_len (f := f) l
  unfold fzGv
  rw [if_pos (by omega), List.take_of_length_le (by omega)]; rfl
attribute [go_sem] asSv_val asSv_tsl asSv_gv asSv_bp asSv_kp noR_gv share_gv refBox_gv frz_gv frzGv_cl refy_gv isG_grow grow_P grow_N sliceP_str sliceP_gv sgP_sl sgQ_some gw_td gw_ss gwQ_gv cg_td cgP_sb cgB_u8 stV_ap stA_new stA_old stAB_cl nR_cl gif_T gif_F live_val live_tsl live_cl live_f
end Go.Sx
namespace Go.Sx
open Go.RowKit
def frhR (b : Bool) (c : C) (h : Hp) : Option (C × Hp) := if b then some (c, h) else none
def frhQ (b : Bool) (o : Option C) (h : Hp) : Option (C × Hp) := if b then (match o with
  | some c => frhR (flat c) c h
  | none => none) else none
/-- Calls that read boxes and change none, from calls that compute alone. -/
def frzHp (pu : Nat → List C → Option C) : Nat → List C → Hp → Option (C × Hp) := fun g xs h => frhQ (noRefs 0 (frzs h xs)) (pu g (frzs h xs)) h
theorem frzHp_eq (pu : Nat → List C → Option C) (g : Nat) (xs : List C) (h : Hp) : frzHp pu g xs h = frhQ (noRefs 0 (frzs h xs)) (pu g (frzs h xs)) h := rfl
theorem frhQ_false (o : Option C) (h : Hp) : frhQ false o h = none := rfl
theorem frhQ_some (c : C) (h : Hp) : frhQ true (some c) h = frhR (flat c) c h := rfl
theorem frhR_true (c : C) (h : Hp) : frhR true c h = some (c, h) := rfl
@[congr] theorem frhQ_congr {b b' : Bool} {o o' : Option C} {h : Hp} (hb : b = b') (ho : b' = true → o = o') : frhQ b o h = frhQ b' o' h := by
  subst hb
  cases b with
  | false => rfl
  | true => rw [ho rfl]
theorem CxOK.frzHp {P : Program} {gl : Nat → C} {pu : Nat → List C → Option C} {hp : Nat → List C → Hp → Option (C × Hp)} {N M : Nat} {gr gr' : Nat → Bool} (hcx : CxOK ⟨P, N, gl, pu, hp, gr⟩) : CxOK ⟨P, M, gl, pu, Sx.frzHp pu, gr'⟩ := by
  refine ⟨hcx.glo, hcx.pu, fun g xs h c h' e => ?_⟩
  have e : frhQ (noRefs 0 (frzs h xs)) (pu g (frzs h xs)) h = some (c, h') := e
  unfold frhQ at e
  split at e
  · rename_i hn
    split at e
    · rename_i c2 hp2
      unfold frhR at e
      split at e
      · rename_i hfl
        cases e
        exact FC.freeze (hcx.pu _ _ _ hp2 []) hn hcx.glo hfl
      · cases e
    · cases e
  · cases e
theorem frhs_nil (h : Hp) : frzs h [] = [] := rfl
theorem frhs_cons (h : Hp) (c : C) (l : List C) : frzs h (c :: l) = frz h c :: frzs h l := rfl
theorem frh_val (h : Hp) (v : Value) : frz h (.val v) = .val v := rfl
def frB (o : Option (List C)) (b n : Nat) : C := match o with
  | some cells => frzB cells n
  | none => .bp b n
theorem frh_bp (h : Hp) (b o : Nat) : frz h (.bp b o) = frB (h.at b) b o := by
  cases e : h.at b <;> simp [frz, frB, frzB, e]
theorem frB_some (cells : List C) (b n : Nat) : frB (some cells) b n = frzB cells n := rfl
theorem frB_none (b n : Nat) : frB none b n = .bp b n := rfl
theorem at_nil (b : Nat) : Hp.at [] b = none := by simp [Hp.at]
theorem store_tsl {P : Program} {α : Type} (f : α → List C) (t : TypeId) (b o : Nat) (r : Rt) (l : List α) (k : Option Nat) : storePlan P t (.bp b o) (sl f r l) k = stS (td P t) b o (sl f r l) k := store_sl P t b o r _ _ k
attribute [go_sem] store_tsl frzHp_eq frhQ_false frhQ_some frhR_true frhs_nil frhs_cons frh_val frh_bp frB_some frB_none at_nil Bool.and_false Bool.false_and
end Go.Sx
namespace Go.Sx
open Go.RowKit
theorem set_mid {α : Type} (l r : List α) (x v : α) (t : Nat) (h : l.length = t) : (l ++ x :: r).set t v = l ++ v :: r := by
  subst h; simp
theorem gt_mid {α : Type} [Inhabited α] (l r : List α) (x : α) (t : Nat) (h : l.length = t) : gt (l ++ x :: r) t = x := by
  subst h; simp [gt, List.getD]
theorem gt_left {α : Type} [Inhabited α] (l r : List α) (t : Nat) (h : t < l.length) : gt (l ++ r) t = gt l t := by
  simp [gt, List.getD, List.getElem?_append_left h]
theorem take_snoc {α : Type} [Inhabited α] (l : List α) (j : Nat) (h : j < l.length) : l.take (j + 1) = l.take j ++ [gt l j] := by
  rw [List.take_add_one, List.getElem?_eq_getElem h]; simp [gt, List.getD, List.getElem?_eq_getElem h]
theorem take_next {α : Type} [Inhabited α] (l : List α) (j : Nat) (h : j < l.length) : l.take j ++ [gt l j] = l.take (j + 1) := (take_snoc l j h).symm
def le (m : Nat) : List UInt8 := if h : m = 0 then [] else UInt8.ofNat (m % 256) :: le (m / 256)
termination_by m
decreasing_by omega
def be (m k : Nat) : List UInt8 := (List.range k).map fun j => UInt8.ofNat (m >>> (8 * (k - 1 - j)))
theorem gt_map {α β : Type} [Inhabited α] [Inhabited β] (l : List α) (f : α → β) (j : Nat) (h : j < l.length) : gt (l.map f) j = f (gt l j) := by
  simp [gt, List.getD, List.getElem?_eq_getElem h]
end Go.Sx
namespace Go.Sx
structure Tok where
  a : Nat
  e : Nat
  k : Nat
deriving DecidableEq
instance : Inhabited Tok := ⟨⟨0, 0, 0⟩⟩
def kd (c : UInt8) : Nat := if (97 ≤ c ∧ c ≤ 122) ∨ (65 ≤ c ∧ c ≤ 90) then 0 else if 48 ≤ c ∧ c ≤ 57 then 1 else if c = 64 then 3 else 2
theorem all8 (p : UInt8 → Bool) (h : (List.range 256).all (fun n => p (UInt8.ofNat n)) = true) (c : UInt8) : p c = true := by
  have h1 := List.all_eq_true.1 h c.toNat (List.mem_range.2 c.toNat_lt)
  have h2 : UInt8.ofNat c.toNat = c := UInt8.toNat_inj.1 (by simp)
  rwa [h2] at h1
theorem kd_le (c : UInt8) : kd c ≤ 3 := by
  have := all8 (fun c => decide (kd c ≤ 3)) (by decide +kernel) c
  simpa using this
theorem kd_blank : kd 32 = 2 := by decide
/-- The tokens from a place on; a token may be open. -/
def spl (p : Nat) : Option (Nat × Nat) → List UInt8 → List Tok
  | none, [] => []
  | some (a, k), [] => [⟨a, p, k⟩]
  | none, c :: r => if c = 32 then spl (p + 1) none r else spl (p + 1) (some (p, kd c)) r
  | some (a, k), c :: r => if c ≠ 32 ∧ k < 2 ∧ kd c = k then spl (p + 1) (some (a, k)) r else
      ⟨a, p, k⟩ :: (if c = 32 then spl (p + 1) none r else spl (p + 1) (some (p, kd c)) r)
def toks (s : List UInt8) : List Tok := spl 0 none s
/-- The length of the run of a kind. -/
def rnL (k : Nat) : List UInt8 → Nat
  | [] => 0
  | c :: r => if k < 2 ∧ kd c = k then rnL k r + 1 else 0
theorem rnL_le (k : Nat) : ∀ l, rnL k l ≤ l.length
  | [] => Nat.le_refl _
  | c :: r => by
    unfold rnL
    have := rnL_le k r
    split <;> simp <;> omega
theorem spl_none_cons (p : Nat) (c : UInt8) (r : List UInt8) : spl p none (c :: r) = if c = 32 then spl (p + 1) none r else spl (p + 1) (some (p, kd c)) r := rfl
theorem spl_open (a k : Nat) : ∀ (l : List UInt8) (p : Nat), spl p (some (a, k)) l = ⟨a, p + rnL k l, k⟩ :: spl (p + rnL k l) none (l.drop (rnL k l))
  | [], p => rfl
  | c :: r, p => by
    by_cases h : k < 2 ∧ kd c = k
    · have hc : c ≠ 32 := by rintro rfl; rw [kd_blank] at h; omega
      have e1 : spl p (some (a, k)) (c :: r) = spl (p + 1) (some (a, k)) r := if_pos ⟨hc, h⟩
      have e2 : rnL k (c :: r) = rnL k r + 1 := if_pos h
      rw [e1, e2, spl_open a k r (p + 1), List.drop_succ_cons]
      rw [show p + 1 + rnL k r = p + (rnL k r + 1) by omega]
    · have e1 : spl p (some (a, k)) (c :: r) = ⟨a, p, k⟩ :: spl p none (c :: r) := if_neg (fun h' => h h'.2)
      have e2 : rnL k (c :: r) = 0 := if_neg h
      rw [e1, e2]
      rfl
theorem spl_tok (p : Nat) (c : UInt8) (r : List UInt8) (h : c ≠ 32) : spl p none (c :: r) = ⟨p, p + 1 + rnL (kd c) r, kd c⟩ :: spl (p + 1 + rnL (kd c) r) none (r.drop (rnL (kd c) r)) := by
  rw [spl_none_cons, if_neg h, spl_open]
theorem spl_blank (p : Nat) (r : List UInt8) : spl p none (32 :: r) = spl (p + 1) none r := by rw [spl_none_cons, if_pos rfl]
/-- The reference's way: a byte continues the last token. -/
def rfs (p : Nat) (prev : Option UInt8) (out : List Tok) : List UInt8 → List Tok
  | [] => out
  | c :: r => rfs (p + 1) (some c) (if c = 32 then out else if out ≠ [] ∧ kd c < 2 ∧ prev.map kd = some (kd c) then out.dropLast ++ [⟨(out.getLastD default).a, p + 1, (out.getLastD default).k⟩] else out ++ [⟨p, p + 1, kd c⟩]) r
def opn (p : Nat) : Option (Nat × Nat) → List Tok
  | none => []
  | some (a, k) => [⟨a, p, k⟩]
theorem rfs_spl : ∀ (l : List UInt8) (p : Nat) (prev : Option UInt8) (cur : Option (Nat × Nat)) (out : List Tok),
    (cur = none → prev = none ∨ prev = some 32) → (∀ a k, cur = some (a, k) → ∃ c, prev = some c ∧ kd c = k ∧ c ≠ 32) →
    rfs p prev (out ++ opn p cur) l = out ++ spl p cur l
  | [], p, prev, none, out, _, _ => by simp [rfs, opn, spl]
  | [], p, prev, some (a, k), out, _, _ => rfl
  | c :: r, p, prev, none, out, h1, _ => by
    unfold rfs
    rw [spl_none_cons]
    by_cases hc : c = 32
    · subst hc
      rw [if_pos rfl, if_pos rfl]
      exact rfs_spl r (p + 1) (some 32) none out (fun _ => .inr rfl) (fun a k h => by cases h)
    · rw [if_neg hc, if_neg hc, if_neg]
      · have ih := rfs_spl r (p + 1) (some c) (some (p, kd c)) out (fun h => by cases h) (fun a k h => ⟨c, rfl, by cases h; rfl, hc⟩)
        simpa [opn] using ih
      · rintro ⟨_, h3, h4⟩
        rcases h1 rfl with rfl | rfl
        · cases h4
        · simp only [Option.map_some, Option.some.injEq, kd_blank] at h4; omega
  | c :: r, p, prev, some (a, k), out, _, h2 => by
    obtain ⟨c', rfl, hk, hc'⟩ := h2 a k rfl
    unfold rfs spl
    by_cases hc : c = 32
    · subst hc
      rw [if_pos rfl, if_neg (fun h => h.1 rfl), if_pos rfl]
      have ih := rfs_spl r (p + 1) (some 32) none (out ++ opn p (some (a, k))) (fun _ => .inr rfl) (fun a k h => by cases h)
      simpa [opn] using ih
    · rw [if_neg hc]
      by_cases h : k < 2 ∧ kd c = k
      · rw [if_pos ⟨by simp [opn], by omega, by simp; omega⟩, if_pos ⟨hc, h⟩]
        have ih := rfs_spl r (p + 1) (some c) (some (a, k)) out (fun h => by cases h) (fun a' k' h' => ⟨c, rfl, by cases h'; exact h.2, hc⟩)
        simpa [opn] using ih
      · have hn : ¬ (out ++ opn p (some (a, k)) ≠ [] ∧ kd c < 2 ∧ Option.map kd (some c') = some (kd c)) := by
          rintro ⟨_, h3, h4⟩
          simp only [Option.map_some, Option.some.injEq] at h4
          omega
        rw [if_neg hn, if_neg (fun h' => h h'.2), if_neg hc]
        have ih := rfs_spl r (p + 1) (some c) (some (p, kd c)) (out ++ opn p (some (a, k))) (fun h => by cases h) (fun a k h => ⟨c, rfl, by cases h; rfl, hc⟩)
        simpa [opn] using ih
theorem rfs_toks (s : List UInt8) : rfs 0 none [] s = toks s := by
  have := rfs_spl s 0 none none [] (fun _ => .inl rfl) (fun a k h => by cases h)
  rw [List.nil_append] at this
  exact this
/-- Where tokens lie. -/
def Lie (lo hi : Nat) : List Tok → Prop
  | [] => lo ≤ hi
  | t :: r => lo ≤ t.a ∧ t.a < t.e ∧ t.e ≤ hi ∧ t.k ≤ 3 ∧ Lie t.e hi r
theorem Lie.mono {lo lo' hi : Nat} (h : lo' ≤ lo) : ∀ {l : List Tok}, Lie lo hi l → Lie lo' hi l
  | [], k => Nat.le_trans h k
  | t :: r, k => ⟨Nat.le_trans h k.1, k.2⟩
theorem spl_lie : ∀ (l : List UInt8) (p : Nat), Lie p (p + l.length) (spl p none l) ∧ ∀ a k, a < p → k ≤ 3 → Lie a (p + l.length) (spl p (some (a, k)) l)
  | [], p => ⟨Nat.le_refl _, fun a k h hk => ⟨Nat.le_refl _, h, Nat.le_refl _, hk, Nat.le_refl _⟩⟩
  | c :: r, p => by
    obtain ⟨i1, i2⟩ := spl_lie r (p + 1)
    have e : p + 1 + r.length = p + (c :: r).length := by simp; omega
    rw [e] at i1 i2
    have hno : Lie p (p + (c :: r).length) (if c = 32 then spl (p + 1) none r else spl (p + 1) (some (p, kd c)) r) := by
      split
      · exact i1.mono (by omega)
      · exact i2 p (kd c) (by omega) (kd_le c)
    refine ⟨by rw [spl_none_cons]; exact hno, fun a k h hk => ?_⟩
    unfold spl
    split
    · exact i2 a k (by omega) hk
    · exact ⟨Nat.le_refl _, h, Nat.le_add_right _ _, hk, hno⟩
theorem toks_lie (s : List UInt8) : Lie 0 s.length (toks s) := by
  have := (spl_lie s 0).1
  rwa [Nat.zero_add] at this
theorem Lie.get {lo hi : Nat} : ∀ {l : List Tok}, Lie lo hi l → ∀ i < l.length, lo ≤ (gt l i).a ∧ (gt l i).a < (gt l i).e ∧ (gt l i).e ≤ hi ∧ (gt l i).k ≤ 3
  | t :: r, h, 0, _ => ⟨h.1, h.2.1, h.2.2.1, h.2.2.2.1⟩
  | t :: r, h, i + 1, hi' => by
    rw [gt_consS]
    have := h.2.2.2.2.get i (by simpa using hi')
    have := h.2.1
    have := h.1
    omega
theorem Lie.lt {lo hi : Nat} : ∀ {l : List Tok}, Lie lo hi l → ∀ i j, i < j → j < l.length → (gt l i).e ≤ (gt l j).a
  | t :: r, h, 0, j + 1, _, hj => by
    rw [gt_consS, gt_cons0]
    exact (h.2.2.2.2.get j (by simpa using hj)).1
  | t :: r, h, i + 1, j + 1, hij, hj => by
    rw [gt_consS, gt_consS]
    exact h.2.2.2.2.lt i j (by omega) (by simpa using hj)
theorem Lie.len {lo hi : Nat} : ∀ {l : List Tok}, Lie lo hi l → l.length + lo ≤ hi
  | [], h => by simpa [Lie] using h
  | t :: r, h => by
    have := h.2.2.2.2.len
    have := h.1
    have := h.2.1
    simp; omega
theorem toks_len (s : List UInt8) : (toks s).length ≤ s.length := by have := (toks_lie s).len; omega
theorem toks_get (s : List UInt8) (i : Nat) (h : i < (toks s).length) : (gt (toks s) i).a < (gt (toks s) i).e ∧ (gt (toks s) i).e ≤ s.length ∧ (gt (toks s) i).k ≤ 3 := ((toks_lie s).get i h).2
theorem toks_le (s : List UInt8) (i j : Nat) (h : i ≤ j) (hj : j < (toks s).length) : (gt (toks s) i).a < (gt (toks s) j).e := by
  have h1 := toks_get s i (by omega)
  have h2 := toks_get s j hj
  rcases Nat.lt_or_eq_of_le h with h3 | rfl
  · have := (toks_lie s).lt i j h3 hj; omega
  · exact h1.1
/-- A blank parts the tokens. -/
theorem spl_app (y : List UInt8) : ∀ (x : List UInt8) (p : Nat) (cur : Option (Nat × Nat)), spl p cur (x ++ 32 :: y) = spl p cur x ++ spl (p + x.length + 1) none y
  | [], p, none => by simp [spl]
  | [], p, some (a, k) => by simp [spl]
  | c :: x, p, none => by
    rw [List.cons_append, spl_none_cons, spl_none_cons]
    have e : p + (c :: x).length + 1 = p + 1 + x.length + 1 := by simp; omega
    rw [e]
    split
    · exact spl_app y x (p + 1) none
    · exact spl_app y x (p + 1) (some (p, kd c))
  | c :: x, p, some (a, k) => by
    rw [List.cons_append]
    have e : p + (c :: x).length + 1 = p + 1 + x.length + 1 := by simp; omega
    rw [e]
    by_cases h : c ≠ 32 ∧ k < 2 ∧ kd c = k
    · have e1 : ∀ r, spl p (some (a, k)) (c :: r) = spl (p + 1) (some (a, k)) r := fun r => if_pos h
      rw [e1, e1]
      exact spl_app y x (p + 1) (some (a, k))
    · have e1 : ∀ r, spl p (some (a, k)) (c :: r) = ⟨a, p, k⟩ :: (if c = 32 then spl (p + 1) none r else spl (p + 1) (some (p, kd c)) r) := fun r => if_neg h
      rw [e1, e1, List.cons_append]
      congr 1
      split
      · exact spl_app y x (p + 1) none
      · exact spl_app y x (p + 1) (some (p, kd c))
def shT (d : Nat) (t : Tok) : Tok := ⟨t.a + d, t.e + d, t.k⟩
theorem spl_shift (d : Nat) : ∀ (l : List UInt8) (p : Nat) (cur : Option (Nat × Nat)), spl (p + d) (cur.map fun q => (q.1 + d, q.2)) l = (spl p cur l).map (shT d)
  | [], p, none => rfl
  | [], p, some (a, k) => rfl
  | c :: r, p, none => by
    rw [Option.map_none, spl_none_cons, spl_none_cons]
    have e : p + d + 1 = p + 1 + d := by omega
    rw [e]
    split
    · exact spl_shift d r (p + 1) none
    · exact spl_shift d r (p + 1) (some (p, kd c))
  | c :: r, p, some (a, k) => by
    rw [Option.map_some]
    have e : p + d + 1 = p + 1 + d := by omega
    unfold spl
    rw [e]
    split
    · exact spl_shift d r (p + 1) (some (a, k))
    · rw [List.map_cons]
      congr 1
      split
      · exact spl_shift d r (p + 1) none
      · exact spl_shift d r (p + 1) (some (p, kd c))
theorem toks_join (x y : List UInt8) : toks (x ++ 32 :: y) = toks x ++ (toks y).map (shT (x.length + 1)) := by
  unfold toks
  rw [spl_app]
  congr 1
  have := spl_shift (x.length + 1) y 0 none
  rw [← this]
  rw [Option.map_none, Nat.zero_add, Nat.zero_add]
/-- Valid's answer. -/
def badAt (s : List UInt8) (i : Nat) : Bool := decide (gt s i < 32) || decide (126 < gt s i) || (decide (gt s i = 32) && (decide (i = 0) || decide (i + 1 = s.length) || decide (gt s (i - 1) = 32)))
def bad (s : List UInt8) : Bool := (List.range s.length).any (badAt s)
def validE (s : List UInt8) : Nat := if 4096 < s.length then 4 else if bad s = true then 2 else if s = [] then 2 else if 256 < (toks s).length then 4 else 0
def partT (s : List UInt8) (f t : Nat) : List UInt8 := (s.drop (gt (toks s) f).a).take ((gt (toks s) (t - 1)).e - (gt (toks s) f).a)
def part (s : List UInt8) (f t : Int) : List UInt8 := if f < 0 ∨ t ≤ f ∨ ((toks s).length : Int) < t then [] else partT s f.toNat t.toNat
def txt (s : List UInt8) (t : Tok) : List UInt8 := (s.drop t.a).take (t.e - t.a)
def ofK (k : Nat) (l : List Tok) : List Nat := (List.range l.length).filter fun i => decide ((gt l i).k = k)
def wordsT (s : List UInt8) : List (List UInt8) := (ofK 0 (toks s)).map fun i => (txt s (gt (toks s) i)).map low
def marksT (s : List UInt8) : List Nat := ofK 3 (toks s)
def isStop (c : UInt8) : Bool := decide (c = 46) || decide (c = 63) || decide (c = 33)
/-- A stop, of a token that is not the last one. -/
def stopI (s : List UInt8) (l : List Tok) (i : Nat) : Bool := isStop (gt s (gt l i).a) && decide ((gt l i).e < (gt l (i + 1)).a)
def senF (s : List UInt8) (l : List Tok) (i : Nat) (st : Nat × List (Nat × Nat)) : Nat × List (Nat × Nat) := if i + 1 = l.length ∨ stopI s l i = true then (i + 1, st.2 ++ [(st.1, i + 1)]) else st
def senR (s : List UInt8) (l : List Tok) : Nat → Nat × List (Nat × Nat)
  | 0 => (0, [])
  | n + 1 => senF s l n (senR s l n)
def sents (s : List UInt8) : List (Nat × Nat) := (senR s (toks s) (toks s).length).2
def joinT (a b : List UInt8) : List UInt8 := a ++ 32 :: b
def cutT (s : List UInt8) (k : Int) : List UInt8 × List UInt8 × Nat :=
  if validE s ≠ 0 then ([], [], validE s) else if k < 1 ∨ ((toks s).length : Int) ≤ k ∨ (gt (toks s) k.toNat).a = (gt (toks s) (k.toNat - 1)).e then ([], [], 5) else
  (s.take ((gt (toks s) k.toNat).a - 1), s.drop (gt (toks s) k.toNat).a, 0)
end Go.Sx
namespace Go.Sx
open Go.RowKit Go.Proofs
theorem td3 : td Try.prog 3 = some ⟨.int .i64, 1, 8, [.int .i64 0]⟩ := by kernel_rfl
theorem td4 : td Try.prog 4 = some ⟨.bool, 1, 1, [.bool false]⟩ := by kernel_rfl
theorem td5 : td Try.prog 5 = some ⟨.int .u8, 1, 1, [.int .u8 0]⟩ := by kernel_rfl
theorem td9 : td Try.prog 9 = some ⟨.string, 1, 16, [.string ⟨#[]⟩]⟩ := by kernel_rfl
theorem td22 : td Try.prog 22 = some ⟨.slice 3, 1, 24, [.slice none 0 0]⟩ := by kernel_rfl
theorem td23 : td Try.prog 23 = some ⟨.slice 9, 1, 24, [.slice none 0 0]⟩ := by kernel_rfl
theorem td29 : td Try.prog 29 = some ⟨.slice 61, 1, 24, [.slice none 0 0]⟩ := by kernel_rfl
theorem td33 : td Try.prog 33 = some ⟨.slice 52, 1, 24, [.slice none 0 0]⟩ := by kernel_rfl
theorem td35 : td Try.prog 35 = some ⟨.array 2 3, 2, 16, List.replicate 2 (.int .i64 0)⟩ := by kernel_rfl
theorem td37 : td Try.prog 37 = some ⟨.slice 35, 1, 24, [.slice none 0 0]⟩ := by kernel_rfl
theorem td52 : td Try.prog 52 = some ⟨.struct #[Field.mk "At" 3 0 false "" "" 0, Field.mk "End" 3 1 false "" "" 8, Field.mk "Kind" 3 2 false "" "" 16], 3, 24, [.int .i64 0, .int .i64 0, .int .i64 0]⟩ := by kernel_rfl
theorem td61 : td Try.prog 61 = some ⟨.struct #[Field.mk "At" 3 0 false "" "" 0, Field.mk "End" 3 1 false "" "" 8, Field.mk "Kind" 3 2 false "" "" 16], 3, 24, [.int .i64 0, .int .i64 0, .int .i64 0]⟩ := by kernel_rfl
noncomputable def cxP (gl : Nat → C) (M : Nat) (pu : Nat → List C → Option C) : Cx := ⟨Try.prog, M, gl, pu, fun _ _ _ => none, fun _ => false⟩
theorem cxP_P (gl : Nat → C) (M : Nat) (pu : Nat → List C → Option C) : (cxP gl M pu).P = Try.prog := rfl
theorem hMO {gl : Nat → C} {M : Nat} {pu : Nat → List C → Option C} : (cxP gl M pu).P.follows .mixedOrders = true := by
  rw [cxP_P]; kernel_rfl
/-- Tokens as cells. -/
def tC (t : Tok) : List C := [.val (nI t.a), .val (nI t.e), .val (nI t.k)]
instance : Cel tC 3 := ⟨fun _ => rfl, fun _ => rfl, by decide, fun _ _ => rfl⟩
instance : Fla tC := ⟨fun _ => rfl⟩
instance : Inj tC := ⟨fun a b h => by
  cases a; cases b
  simp only [tC, List.cons.injEq, C.val.injEq, nI_inj, and_true] at h
  obtain ⟨rfl, rfl, rfl⟩ := h; rfl⟩
theorem wrc_tokE (l : List Tok) (k m : Nat) (h : k < l.length) : wrc (cl tC l) (k * 3 + 1) [.val (nI m)] = some (cl tC (l.set k ⟨(gt l k).a, m, (gt l k).k⟩), .val undef) := by
  have hl := cl_len (f := tC) l
  have e := cl_set (f := tC) l k ⟨(gt l k).a, m, (gt l k).k⟩ h
  simp only [wrc]
  rw [if_pos (by simp only [List.length_singleton]; omega), ← e]
  congr 2
  have hq : l[k]? = some (gt l k) := by simp [gt, List.getD, List.getElem?_eq_getElem h]
  have hat := cl_at (f := tC) l k _ hq
  have hd : (cl tC l).drop (k * 3) = tC (gt l k) ++ (cl tC l).drop (k * 3 + 3) := by
    rw [← hat, ← List.drop_drop]
    exact (List.take_append_drop 3 _).symm
  unfold splice
  have hlen : (tC ⟨(gt l k).a, m, (gt l k).k⟩).length = 3 := rfl
  rw [hlen]
  have h1 : (cl tC l).take (k * 3 + 1) = (cl tC l).take (k * 3) ++ [.val (nI (gt l k).a)] := by
    rw [List.take_add, hd]; rfl
  have h2 : (cl tC l).drop (k * 3 + 1 + 1) = [.val (nI (gt l k).k)] ++ (cl tC l).drop (k * 3 + 3) := by
    rw [show k * 3 + 1 + 1 = k * 3 + 2 from rfl, ← List.drop_drop, hd]; rfl
  rw [h1, show k * 3 + 1 + [C.val (nI m)].length = k * 3 + 1 + 1 from rfl, h2]
  simp [tC]
theorem bsA_tok (u : TypeDesc) (y : Nat) (z : List Value) (a e k : Nat) (hz : z.length = 3) (h1 : z.all (·.oneCell') = true) : bsA (some ⟨u, 3, y, z⟩) 1 [(0, .agg [.val (nI a), .val (nI e), .val (nI k)])] = some (vp (sl tC .full [⟨a, e, k⟩])) := by
  unfold bsA
  simp only [hz, h1]
  rw [if_pos ⟨by decide, by decide, trivial, trivial⟩]
  have hr : (repZero z 1).length = 3 := by simp [repZero, hz]
  unfold lay
  have hc : C.cells? (.agg [.val (nI a), .val (nI e), .val (nI k)]) = some [.val (nI a), .val (nI e), .val (nI k)] := rfl
  simp only [hc]
  rw [if_pos ⟨rfl, by omega⟩]
  unfold lay
  simp only [Option.map_some, splice, Nat.zero_mul, List.take_zero, List.nil_append, Nat.zero_add]
  rw [List.drop_of_length_le (by rw [hr]; exact Nat.le_refl _), List.append_nil]
  rfl
attribute [go_sem] td3 td4 td5 td9 td22 td23 td29 td33 td35 td37 td52 td61 cxP_P wrc_tokE bsA_tok
end Go.Sx
namespace Go.Sx
open Go.RowKit Go.Proofs
theorem fa52_2 (b o : Nat) : fieldAddrPlan Try.prog 52 (.bp b o) 2 = some (vp (.bp b (o + 2))) := by
  unfold fieldAddrPlan; simp only [td52]; show (match td Try.prog 3 with | some de => _ | none => none) = _; rw [td3]; rfl
theorem fa61_1 (b o : Nat) : fieldAddrPlan Try.prog 61 (.bp b o) 1 = some (vp (.bp b (o + 1))) := by
  unfold fieldAddrPlan; simp only [td61]; show (match td Try.prog 3 with | some de => _ | none => none) = _; rw [td3]; rfl
theorem wrc3_0 (a b c x : C) : wrc [a, b, c] 0 [x] = some ([x, b, c], .val undef) := rfl
theorem wrc3_1 (a b c x : C) : wrc [a, b, c] 1 [x] = some ([a, x, c], .val undef) := rfl
theorem wrc3_2 (a b c x : C) : wrc [a, b, c] 2 [x] = some ([a, b, x], .val undef) := rfl
theorem isG_mk (P : Program) (N : Nat) (gl : Nat → C) (pu : Nat → List C → Option C) (hp : Nat → List C → Hp → Option (C × Hp)) (d : Option Nat) : isG ⟨P, N, gl, pu, hp, fun _ => false⟩ d = false := by cases d <;> rfl
theorem td64 : td Try.prog 64 = some ⟨.slice 5, 1, 24, [.slice none 0 0]⟩ := by kernel_rfl
attribute [go_sem] isG_mk td64
attribute [go_sem high] wrc3_0 wrc3_1 wrc3_2
attribute [go_sem] fa52_2 fa61_1
end Go.Sx
