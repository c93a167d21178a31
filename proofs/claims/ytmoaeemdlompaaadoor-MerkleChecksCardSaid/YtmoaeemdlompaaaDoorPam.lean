/-
   And what follows.
-/
import Derived.Test.YtmoaeemdlompaaaDoorPal
set_option linter.unusedSimpArgs false
set_option linter.unusedVariables false
namespace Go.Sx
open Go.RowKit
def okF (h : Hp) (b b' : Nat) : Bool := ((h.at b').isSome || (h.mp b').isSome) && b' != b
mutual
def scr (ok : Nat → Bool) : C → C
  | .sv b o n => if ok b = true then .sv b o n else .top
  | .gv b n s => if ok b = true then .gv b n s else .top
  | .bp b o => if ok b = true then .bp b o else .top
  | .mp b => if ok b = true then .mp b else .top
  | .bt b t n => if ok b = true then .bt b t n else .top
  | .sl r n xs => .sl r n (scrs ok xs)
  | .kp xs => .kp (scrs ok xs)
  | .agg xs => .agg (scrs ok xs)
  | .tup xs => .tup (scrs ok xs)
  | .fn f xs => .fn f (scrs ok xs)
  | .top => .top
  | .val v => .val v
def scrs (ok : Nat → Bool) : List C → List C
  | [] => []
  | x :: xs => scr ok x :: scrs ok xs
end
mutual
def fzC (ok : Nat → Bool) (b : Nat) (ys : List C) : C → C
  | .sv b' o n => if b' = b then (if o + n ≤ ys.length then .sl .no n ((ys.drop o).take n) else .top) else if ok b' = true then .sv b' o n else .top
  | .gv b' n s => if b' = b then (if n * s.1 ≤ ys.length then .sl .no n (ys.take (n * s.1)) else .top) else if ok b' = true then .gv b' n s else .top
  | .bp b' o => if b' = b then .kp (ys.drop o) else if ok b' = true then .bp b' o else .top
  | .mp b' => if b' = b then .top else if ok b' = true then .mp b' else .top
  | .bt b' t n => if b' = b then .top else if ok b' = true then .bt b' t n else .top
  | .sl r n xs => .sl r n (fzCs ok b ys xs)
  | .kp xs => .kp (fzCs ok b ys xs)
  | .agg xs => .agg (fzCs ok b ys xs)
  | .tup xs => .tup (fzCs ok b ys xs)
  | .fn f xs => .fn f (fzCs ok b ys xs)
  | .top => .top
  | .val v => .val v
def fzCs (ok : Nat → Bool) (b : Nat) (ys : List C) : List C → List C
  | [] => []
  | x :: xs => fzC ok b ys x :: fzCs ok b ys xs
end
theorem scrs_map (ok : Nat → Bool) : ∀ xs : List C,scrs ok xs = xs.map (scr ok)
  | [] => rfl
  | x :: xs => by simp [scrs,scrs_map ok xs]
theorem fzCs_map (ok : Nat → Bool) (b : Nat) (ys : List C) : ∀ xs : List C,fzCs ok b ys xs = xs.map (fzC ok b ys)
  | [] => rfl
  | x :: xs => by simp [fzCs,fzCs_map ok b ys xs]
def fzH (ok : Nat → Bool) (b : Nat) (ys : List C) (h : Hp) : Hp := (h.map fun o => o.map (fzCs ok b ys)).set b (some deadC)
open Classical in
noncomputable def fzG (G : Gh) (w : World) (b k : Nat) : Gh where
  K := fun g o => if G.μ b = some g ∧ o < k then w.cell? ⟨g,o,none⟩ else G.K g o
  μ := fun b' => if b' = b ∨ (∃ g,G.μ b = some g ∧ G.μ b' = some g) then none else G.μ b'
  T := G.T
  σ := fun b' => if b' = b ∨ (∃ g,G.μ b = some g ∧ G.μ b' = some g) then none else G.σ b'
section
variable {cx : Cx} {n : Nat} {st : St} {Q : Ex → St → Prop} {G : Gh} {w : World} {h : Hp} {b : Nat} {cells : List C}
theorem fz_keep (H : WorldOK G h w) (hb : h.at b = some cells) {b' : Nat} (hok : okF h b b' = true) : ¬ (b' = b ∨ (∃ g,G.μ b = some g ∧ G.μ b' = some g)) := by
  simp only [okF,Bool.and_eq_true,Bool.or_eq_true,bne_iff_ne,ne_eq] at hok
  obtain ⟨h1,h2⟩ := hok
  rintro (e | ⟨g,e1,e2⟩)
  · exact h2 e
  · rcases h1 with h1 | h1
    · obtain ⟨c',hc'⟩ := Option.isSome_iff_exists.1 h1
      exact h2 (H.inj b' b _ _ g hc' hb e2 e1)
    · obtain ⟨l',hl'⟩ := Option.isSome_iff_exists.1 h1
      obtain ⟨blk,es,clk,q1,q2,_⟩ := H.mpo b' l' hl'
      rw [e2] at q1; cases q1
      obtain ⟨cs,e,⟨fr,r2,_⟩,_⟩ := H.bx hb e1
      rw [q2] at r2; cases r2
theorem fz_le (H : WorldOK G h w) (k : Nat) : (cutμ G 0).Le (fzG G w b k) :=
  ⟨fun g o u x => (by
    have x' : G.K g o = some u := x
    simp only [fzG]
    rw [if_neg]
    · exact x'
    · rintro ⟨e,_⟩
      rw [(H.sep b g e).1 o] at x'; cases x'),fun b k x => by simp [cutμ] at x,fun b k x => by simp [cutμ] at x⟩
theorem fz_μ (H : WorldOK G h w) (hb : h.at b = some cells) {b' k g : Nat} (hok : okF h b b' = true) (hm : G.μ b' = some g) : (fzG G w b k).μ b' = some g := by
  simp only [fzG]; rw [if_neg (fz_keep H hb hok)]; exact hm
theorem fz_σ (H : WorldOK G h w) (hb : h.at b = some cells) {b' k : Nat} {g : Nat × Nat} (hok : okF h b b' = true) (hm : G.σ b' = some g) : (fzG G w b k).σ b' = some g := by
  simp only [fzG]; rw [if_neg (fz_keep H hb hok)]; exact hm
mutual
theorem scr_rep (H : WorldOK G h w) (hb : h.at b = some cells) (k : Nat) : ∀ (c : C) (v : Value),Rep G c v → Rep (fzG G w b k) (scr (okF h b) c) v
  | .top,_,_ => by simp [scr,Rep]
  | .val u,v,r => by simpa [scr,Rep] using r
  | .sl r n xs,v,x => by
    simp only [scr,Rep] at x ⊢
    obtain ⟨a,cap,h1,h2,h3,h4,h5⟩ := x
    refine ⟨a,cap,h1,h2,h3,h4,?_⟩
    rcases h5 with h5 | ⟨blk,off,ha,hk⟩
    · left; rw [h5]; rfl
    · exact .inr ⟨blk,off,ha,scr_repK H hb k xs blk off hk⟩
  | .sv b' off n,v,x => by
    simp only [scr]
    split
    · rename_i hok
      simp only [Rep] at x ⊢
      obtain ⟨a,cap,h1,h2,h3,h4⟩ := x
      exact ⟨a,cap,h1,h2,h3,fun hz => by obtain ⟨blk,q1,q2⟩ := h4 hz; exact ⟨blk,fz_μ H hb hok q1,q2⟩⟩
    · simp [Rep]
  | .gv b' m s,v,x => by
    simp only [scr]
    split
    · rename_i hok
      simp only [Rep] at x ⊢
      obtain ⟨a,cap,h1,h2,h3,h4⟩ := x
      refine ⟨a,cap,h1,h2,h3,?_⟩
      rcases h4 with h4 | ⟨blk,q1,q2,q3⟩
      · exact .inl h4
      · exact .inr ⟨blk,fz_μ H hb hok q1,q2,fz_σ H hb hok q3⟩
    · simp [Rep]
  | .bp b' off,v,x => by
    simp only [scr]
    split
    · rename_i hok
      simp only [Rep] at x ⊢
      obtain ⟨blk,h1,h2⟩ := x
      exact ⟨blk,fz_μ H hb hok h1,h2⟩
    · simp [Rep]
  | .mp b',v,x => by
    simp only [scr]
    split
    · rename_i hok
      simp only [Rep] at x ⊢
      obtain ⟨blk,h1,h2⟩ := x
      exact ⟨blk,fz_μ H hb hok h1,h2⟩
    · simp [Rep]
  | .bt b' t n,v,x => by
    simp only [scr]
    split
    · rename_i hok
      simp only [Rep] at x ⊢
      obtain ⟨blk,h1,h2,h3⟩ := x
      exact ⟨blk,fz_μ H hb hok h1,h2,fz_σ H hb hok h3⟩
    · simp [Rep]
  | .kp xs,v,x => by
    simp only [scr,Rep] at x ⊢
    obtain ⟨blk,off,h1,h2⟩ := x
    exact ⟨blk,off,h1,scr_repK H hb k xs blk off h2⟩
  | .agg xs,v,x => by
    simp only [scr,Rep] at x ⊢
    obtain ⟨vs,h1,h2,h3⟩ := x
    exact ⟨vs,h1,scr_repL H hb k xs _ h2,h3⟩
  | .tup xs,v,x => by
    simp only [scr,Rep] at x ⊢
    obtain ⟨vs,h1,h2⟩ := x
    exact ⟨vs,h1,scr_repL H hb k xs _ h2⟩
  | .fn f xs,v,x => by
    simp only [scr,Rep] at x ⊢
    obtain ⟨vs,h1,h2⟩ := x
    exact ⟨vs,h1,scr_repL H hb k xs _ h2⟩
theorem scr_repL (H : WorldOK G h w) (hb : h.at b = some cells) (k : Nat) : ∀ (xs : List C) (vs : List Value),RepL G xs vs → RepL (fzG G w b k) (scrs (okF h b) xs) vs
  | [],vs,r => by simpa [scrs,RepL] using r
  | x :: xs,vs,r => by
    simp only [scrs,RepL] at r ⊢
    obtain ⟨v,vs',h1,h2,h3⟩ := r
    exact ⟨v,vs',h1,scr_rep H hb k x v h2,scr_repL H hb k xs vs' h3⟩
theorem scr_repK (H : WorldOK G h w) (hb : h.at b = some cells) (k : Nat) : ∀ (xs : List C) (blk off : Nat),RepK G blk off xs → RepK (fzG G w b k) blk off (scrs (okF h b) xs)
  | [],_,_,_ => by simp [scrs,RepK]
  | x :: xs,blk,off,r => by
    simp only [scrs,RepK] at r ⊢
    obtain ⟨⟨u,h1,h2,h3⟩,h4⟩ := r
    exact ⟨⟨u,(fz_le H k).K _ _ _ h1,h2,scr_rep H hb k x u h3⟩,scr_repK H hb k xs blk (off + 1) h4⟩
end
def fzY (h : Hp) (b : Nat) (cells : List C) : List C := (scrs (okF h b) cells).map C.noR
theorem fzY_len (h : Hp) (b : Nat) (cells : List C) : (fzY h b cells).length = cells.length := by simp [fzY,scrs_map]
theorem fz_row (H : WorldOK G h w) (hb : h.at b = some cells) {blk : Nat} (hm : G.μ b = some blk) : RepK (fzG G w b cells.length) blk 0 (fzY h b cells) := by
  obtain ⟨cs,e,⟨fr,q2,_⟩,q0,q3,q4⟩ := H.bx hb hm
  refine RepK.of_get fun i x hx => ?_
  have hil : i < cells.length := by have := (List.getElem?_eq_some_iff.1 hx).1; rwa [fzY_len] at this
  unfold fzY at hx
  rw [scrs_map,List.map_map,List.getElem?_map] at hx
  cases hc : cells[i]? with
  | none => rw [hc] at hx; cases hx
  | some y =>
    rw [hc] at hx
    simp only [Option.map_some,Option.some.injEq,Function.comp] at hx
    subst hx
    obtain ⟨u,hu,hr⟩ := q3.get i y hc
    rw [List.getElem?_take,if_pos hil] at hu
    refine ⟨u,?_,q4 u (List.mem_of_getElem? hu),(scr_rep H hb cells.length y u hr).noR⟩
    simp only [fzG,Nat.zero_add]
    rw [if_pos ⟨hm,hil⟩]
    exact cell_of q2 _ _ hu
mutual
theorem fzC_rep (H : WorldOK G h w) (hb : h.at b = some cells) : ∀ (c : C) (v : Value),Rep G c v → Rep (fzG G w b cells.length) (fzC (okF h b) b (fzY h b cells) c) v
  | .top,_,_ => by simp [fzC,Rep]
  | .val u,v,r => by simpa [fzC,Rep] using r
  | .sl r n xs,v,x => by
    simp only [fzC,Rep] at x ⊢
    obtain ⟨a,cap,h1,h2,h3,h4,h5⟩ := x
    refine ⟨a,cap,h1,h2,h3,h4,?_⟩
    rcases h5 with h5 | ⟨blk,off,ha,hk⟩
    · left; rw [h5]; rfl
    · exact .inr ⟨blk,off,ha,fzC_repK H hb xs blk off hk⟩
  | .sv b' off n,v,x => by
    simp only [fzC]
    split
    · rename_i e
      subst e
      split
      · rename_i hle
        simp only [Rep] at x ⊢
        obtain ⟨a,cap,h1,h2,h3,h4⟩ := x
        refine ⟨a,cap,h1,h2,h3,by simp,?_⟩
        by_cases hn : n = 0
        · left; subst hn; simp
        · right
          obtain ⟨blk,q1,q2⟩ := h4 hn
          refine ⟨blk,off,q2,?_⟩
          have := (fz_row H hb q1).drop off
          rw [Nat.zero_add] at this
          exact this.take n
      · simp [Rep]
    · split
      · rename_i hok
        simp only [Rep] at x ⊢
        obtain ⟨a,cap,h1,h2,h3,h4⟩ := x
        exact ⟨a,cap,h1,h2,h3,fun hz => by obtain ⟨blk,q1,q2⟩ := h4 hz; exact ⟨blk,fz_μ H hb hok q1,q2⟩⟩
      · simp [Rep]
  | .gv b' m s,v,x => by
    simp only [fzC]
    split
    · rename_i e
      subst e
      split
      · rename_i hle
        simp only [Rep] at x ⊢
        obtain ⟨a,cap,h1,h2,h3,h4⟩ := x
        refine ⟨a,cap,h1,h2,h3,by simp,?_⟩
        rcases h4 with ⟨rfl,_⟩ | ⟨blk,q1,q2,q3⟩
        · left; simp
        · right
          exact ⟨blk,0,q2,(fz_row H hb q1).take _⟩
      · simp [Rep]
    · split
      · rename_i hok
        simp only [Rep] at x ⊢
        obtain ⟨a,cap,h1,h2,h3,h4⟩ := x
        refine ⟨a,cap,h1,h2,h3,?_⟩
        rcases h4 with h4 | ⟨blk,q1,q2,q3⟩
        · exact .inl h4
        · exact .inr ⟨blk,fz_μ H hb hok q1,q2,fz_σ H hb hok q3⟩
      · simp [Rep]
  | .mp b',v,x => by
    simp only [fzC]
    split
    · simp [Rep]
    · split
      · rename_i hok
        simp only [Rep] at x ⊢
        obtain ⟨blk,h1,h2⟩ := x
        exact ⟨blk,fz_μ H hb hok h1,h2⟩
      · simp [Rep]
  | .bt b' t n,v,x => by
    simp only [fzC]
    split
    · simp [Rep]
    · split
      · rename_i hok
        simp only [Rep] at x ⊢
        obtain ⟨blk,h1,h2,h3⟩ := x
        exact ⟨blk,fz_μ H hb hok h1,h2,fz_σ H hb hok h3⟩
      · simp [Rep]
  | .bp b' off,v,x => by
    simp only [fzC]
    split
    · rename_i e
      subst e
      simp only [Rep] at x ⊢
      obtain ⟨blk,h1,h2⟩ := x
      refine ⟨blk,off,h2,?_⟩
      have := (fz_row H hb h1).drop off
      rwa [Nat.zero_add] at this
    · split
      · rename_i hok
        simp only [Rep] at x ⊢
        obtain ⟨blk,h1,h2⟩ := x
        exact ⟨blk,fz_μ H hb hok h1,h2⟩
      · simp [Rep]
  | .kp xs,v,x => by
    simp only [fzC,Rep] at x ⊢
    obtain ⟨blk,off,h1,h2⟩ := x
    exact ⟨blk,off,h1,fzC_repK H hb xs blk off h2⟩
  | .agg xs,v,x => by
    simp only [fzC,Rep] at x ⊢
    obtain ⟨vs,h1,h2,h3⟩ := x
    exact ⟨vs,h1,fzC_repL H hb xs _ h2,h3⟩
  | .tup xs,v,x => by
    simp only [fzC,Rep] at x ⊢
    obtain ⟨vs,h1,h2⟩ := x
    exact ⟨vs,h1,fzC_repL H hb xs _ h2⟩
  | .fn f xs,v,x => by
    simp only [fzC,Rep] at x ⊢
    obtain ⟨vs,h1,h2⟩ := x
    exact ⟨vs,h1,fzC_repL H hb xs _ h2⟩
theorem fzC_repL (H : WorldOK G h w) (hb : h.at b = some cells) : ∀ (xs : List C) (vs : List Value),RepL G xs vs → RepL (fzG G w b cells.length) (fzCs (okF h b) b (fzY h b cells) xs) vs
  | [],vs,r => by simpa [fzCs,RepL] using r
  | x :: xs,vs,r => by
    simp only [fzCs,RepL] at r ⊢
    obtain ⟨v,vs',h1,h2,h3⟩ := r
    exact ⟨v,vs',h1,fzC_rep H hb x v h2,fzC_repL H hb xs vs' h3⟩
theorem fzC_repK (H : WorldOK G h w) (hb : h.at b = some cells) : ∀ (xs : List C) (blk off : Nat),RepK G blk off xs → RepK (fzG G w b cells.length) blk off (fzCs (okF h b) b (fzY h b cells) xs)
  | [],_,_,_ => by simp [fzCs,RepK]
  | x :: xs,blk,off,r => by
    simp only [fzCs,RepK] at r ⊢
    obtain ⟨⟨u,h1,h2,h3⟩,h4⟩ := r
    exact ⟨⟨u,(fz_le H _).K _ _ _ h1,h2,fzC_rep H hb x u h3⟩,fzC_repK H hb xs blk (off + 1) h4⟩
end
theorem fzC_own {ok : Nat → Bool} {ys : List C} {c : C} {s m : Nat} {xs : List C} (hc : fzC ok b ys c = .sl (.own s) m xs) : ∃ zs,c = .sl (.own s) m zs := by
  cases c with
  | sl r k zs => simp only [fzC] at hc; cases hc; exact ⟨zs,rfl⟩
  | sv b o k => simp only [fzC] at hc; repeat' split at hc
                all_goals cases hc
  | gv b o k => simp only [fzC] at hc; repeat' split at hc
                all_goals cases hc
  | bp b o => simp only [fzC] at hc; repeat' split at hc
              all_goals cases hc
  | bt b t n => simp only [fzC] at hc; repeat' split at hc
                all_goals cases hc
  | mp b => simp only [fzC] at hc; repeat' split at hc
            all_goals cases hc
  | _ => simp only [fzC] at hc; cases hc
theorem fzC_isVal {ok : Nat → Bool} {ys : List C} {c : C} {u : Value} (h : fzC ok b ys c = .val u) : c = .val u := by
  cases c with
  | val v => simp only [fzC] at h; exact h
  | sv b o k => simp only [fzC] at h; repeat' split at h
                all_goals cases h
  | gv b o k => simp only [fzC] at h; repeat' split at h
                all_goals cases h
  | bp b o => simp only [fzC] at h; repeat' split at h
              all_goals cases h
  | bt b t n => simp only [fzC] at h; repeat' split at h
                all_goals cases h
  | mp b => simp only [fzC] at h; repeat' split at h
            all_goals cases h
  | _ => simp only [fzC] at h; cases h
theorem fzC_isTup {ok : Nat → Bool} {ys : List C} {c : C} {xs : List C} (h : fzC ok b ys c = .tup xs) : ∃ zs,c = .tup zs ∧ xs = fzCs ok b ys zs := by
  cases c with
  | tup zs => simp only [fzC] at h; cases h; exact ⟨zs,rfl,rfl⟩
  | sv b o k => simp only [fzC] at h; repeat' split at h
                all_goals cases h
  | gv b o k => simp only [fzC] at h; repeat' split at h
                all_goals cases h
  | bp b o => simp only [fzC] at h; repeat' split at h
              all_goals cases h
  | bt b t n => simp only [fzC] at h; repeat' split at h
                all_goals cases h
  | mp b => simp only [fzC] at h; repeat' split at h
            all_goals cases h
  | _ => simp only [fzC] at h; cases h
theorem fzH_mp {ok : Nat → Bool} {ys : List C} (hb : b < h.length) {j : Nat} {l : List C} (hj : Hp.mp (fzH ok b ys h) j = some l) : j ≠ b ∧ ∃ l0,h.mp j = some l0 ∧ l = fzCs ok b ys l0 := by
  unfold fzH at hj
  obtain ⟨n1,n2⟩ := mp_setN (h := h.map fun o => o.map (fzCs ok b ys)) (by simpa using hb) rfl j l hj
  refine ⟨n1,?_⟩
  unfold Hp.mp at n2
  rw [List.getElem?_map] at n2
  cases hq : h[j]? with
  | none => rw [hq] at n2; cases n2
  | some o =>
    rw [hq] at n2
    cases o with
    | none => cases n2
    | some c0 =>
      obtain ⟨l0,h1,h2⟩ := mpL_map (Fs := fzCs ok b ys) (fzCs_map ok b ys) (fun _ _ => fzC_isVal) (fun _ _ => fzC_isTup) (cells := c0) n2
      exact ⟨l0,by unfold Hp.mp; rw [hq]; exact h1,h2⟩
theorem fzC_mrep (H : WorldOK G h w) (hb : h.at b = some cells) : ∀ (l : List C) (es : List MapEntry),MRep G l es → MRep (fzG G w b cells.length) (fzCs (okF h b) b (fzY h b cells) l) es
  | [],_,r => by simpa [MRep,fzCs] using r
  | [_],_,r => by simp [MRep] at r
  | k :: v :: l,es,r => by
    simp only [MRep,fzCs] at r ⊢
    obtain ⟨e,es',h1,h2,h3,h4⟩ := r
    exact ⟨e,es',h1,fzC_rep H hb k _ h2,fzC_rep H hb v _ h3,fzC_mrep H hb l es' h4⟩
theorem fzH_at {ok : Nat → Bool} {ys : List C} (hb : h.at b = some cells) {j : Nat} {c' : List C} (hj : Hp.at (fzH ok b ys h) j = some c') : j ≠ b ∧ ∃ c0,h.at j = some c0 ∧ c' = fzCs ok b ys c0 := by
  have hlen := Hp.at_lt hb
  unfold fzH at hj
  rw [Hp.at_set (by simpa using hlen)] at hj
  split at hj
  · cases hj
  · rename_i hne
    refine ⟨hne,?_⟩
    have h1 := Hp.at_some hj
    rw [List.getElem?_map] at h1
    cases hq : h[j]? with
    | none => rw [hq] at h1; cases h1
    | some o =>
      rw [hq] at h1
      cases o with
      | none => cases h1
      | some c0 =>
        simp only [Option.map_some,Option.some.injEq] at h1
        refine ⟨c0,?_,h1.symm⟩
        have hl := Hp.at_live hj
        unfold Hp.at
        rw [hq]
        subst h1
        show liveC (some c0) = _
        cases c0 with
        | nil => rfl
        | cons x l =>
          cases x with
          | tup xs => simp only [fzCs,fzC] at hl; cases hl
          | _ => rfl
theorem OwnRow.fz {k : Nat} {p : Place} {v : Value} {s m : Nat} (O : OwnRow G w p v s m) : OwnRow (fzG G w b k) w p v s m := by
  rcases O with O | ⟨g,cap,cur,e,a1,a2,a3,a4,a5,a6⟩
  · exact .inl O
  · refine .inr ⟨g,cap,cur,e,a1,a2,a3,a4,fun o ho => ?_,fun b' hb' => ?_⟩
    · simp only [fzG]
      rw [if_neg (fun x => a6 b x.1)]
      exact a5 o ho
    · simp only [fzG] at hb'
      split at hb'
      · cases hb'
      · exact a6 b' hb'
theorem WorldOK.fz (H : WorldOK G h w) (hb : h.at b = some cells) : WorldOK (fzG G w b cells.length) (fzH (okF h b) b (fzY h b cells) h) w := by
  have hlen := Hp.at_lt hb
  have hμ : ∀ {j blk},(fzG G w b cells.length).μ j = some blk → G.μ j = some blk ∧ j ≠ b ∧ G.μ b ≠ some blk := fun {j blk} x => by
    simp only [fzG] at x
    split at x
    · cases x
    · rename_i hne
      refine ⟨x,fun e => hne (.inl e),fun e => hne (.inr ⟨blk,e,x⟩)⟩
  refine ⟨fun blk off u hk => ?_,fun j c' hj => ?_,fun j blk hm => ?_,fun j j' c c' blk hj hj' hm hm' => ?_,fun j blk hm => ?_,H.tlt,fun j c' off s m xs blk v hj hc hm hv => ?_,fun j z hz => ?_,fun j l hj => ?_,fun j j' l l' blk x x' y y' => ?_⟩
  · simp only [fzG] at hk
    split at hk
    · exact hk
    · exact H.known blk off u hk
  · obtain ⟨hne,c0,h2,rfl⟩ := fzH_at hb hj
    have hok : okF h b j = true := by simp [okF,h2,hne]
    rcases H.box j c0 h2 with ⟨hE,hE2⟩ | ⟨blk,cs,e,q1,q2,q3,q4,q5⟩
    · refine .inl ⟨by rw [hE]; rfl,?_⟩
      simp only [fzG]
      split
      · rfl
      · exact hE2
    · have hl : (fzCs (okF h b) b (fzY h b cells) c0).length = c0.length := by rw [fzCs_map]; simp
      exact .inr ⟨blk,cs,e,fz_μ H hb hok q1,q2,by rw [hl]; exact q3,by rw [hl]; exact fzC_repL H hb _ _ q4,q5⟩
  · obtain ⟨h1,h2,h3⟩ := hμ hm
    obtain ⟨⟨c,hc⟩,hl⟩ := H.dom j blk h1
    refine ⟨⟨fzCs (okF h b) b (fzY h b cells) c,?_⟩,hl⟩
    unfold fzH
    rw [List.getElem?_set,if_neg (Ne.symm h2),List.getElem?_map,hc]; rfl
  · obtain ⟨h1,_,_⟩ := hμ hm
    obtain ⟨h1',_,_⟩ := hμ hm'
    obtain ⟨_,c0,g2,_⟩ := fzH_at hb hj
    obtain ⟨_,c0',g2',_⟩ := fzH_at hb hj'
    exact H.inj j j' _ _ blk g2 g2' h1 h1'
  · obtain ⟨h1,h2,h3⟩ := hμ hm
    obtain ⟨s1,s2⟩ := H.sep j blk h1
    refine ⟨fun o => ?_,s2⟩
    simp only [fzG]
    rw [if_neg (fun x => h3 x.1)]
    exact s1 o
  · obtain ⟨h1,_,_⟩ := hμ hm
    obtain ⟨_,c0,g2,rfl⟩ := fzH_at hb hj
    rw [fzCs_map,List.getElem?_map] at hc
    cases hq : c0[off]? with
    | none => rw [hq] at hc; cases hc
    | some y =>
      rw [hq] at hc
      simp only [Option.map_some,Option.some.injEq] at hc
      obtain ⟨zs,rfl⟩ := fzC_own hc
      exact (H.own j c0 off s m zs blk v g2 hq h1 hv).fz
  · simp only [fzG] at hz ⊢
    split at hz
    · cases hz
    · rename_i hne
      obtain ⟨blk,cs,e,fr,q1,q2,q3⟩ := H.siz j z hz
      exact ⟨blk,cs,e,fr,by rw [if_neg hne]; exact q1,q2,q3⟩
  · obtain ⟨n1,l0,n2,rfl⟩ := fzH_mp hlen hj
    obtain ⟨blk,es,clk,q1,q2,q3⟩ := H.mpo j l0 n2
    have hok : okF h b j = true := by simp [okF,n2,n1]
    exact ⟨blk,es,clk,fz_μ H hb hok q1,q2,fzC_mrep H hb l0 _ q3⟩
  · obtain ⟨n1,l0,n2,rfl⟩ := fzH_mp hlen x
    obtain ⟨n1',l0',n2',rfl⟩ := fzH_mp hlen x'
    exact H.mpi j j' _ _ blk n2 n2' (hμ y).1 (hμ y').1
theorem frmN_fz (H : WorldOK G h w) (hb : h.at b = some cells) (hnb : n ≤ b) (hn : ∀ j,j < n → ((h.at j).isSome || (h.mp j).isSome) = true ∨ h[j]? = some none) (k : Nat) : FrmN n G w (fzG G w b k) w := by
  have keep : ∀ j,j < n → ∀ blk,G.μ j = some blk → okF h b j = true := fun j hj blk hm => by
    rcases hn j hj with h1 | h1
    · simp [okF,h1]; omega
    · obtain ⟨⟨c,hc⟩,_⟩ := H.dom j blk hm
      rw [h1] at hc; cases hc
  refine ⟨rfl,rfl,rfl,Nat.le_refl _,fun g o u x => (fz_le H k).K g o u x,fun j blk hj x => fz_μ H hb (keep j hj blk x) x,fun j z hj x => ?_,fun g _ ht hm => ⟨rfl,ht,fun j hj => ?_,fun o => ?_⟩⟩
  · obtain ⟨blk,_,_,_,q1,_⟩ := H.siz j z x
    exact fz_σ H hb (keep j hj blk q1) x
  · simp only [fzG] at hj
    split at hj
    · cases hj
    · exact hm j hj
  · simp only [fzG]
    rw [if_neg (fun x => hm b x.1)]
theorem Tr.fz (hcx : CxOK cx) {c : Code} (b : Nat) {cells : List C} (hb : st.h.at b = some cells) (hnb : n ≤ b) (hn : ∀ j,j < n → ((st.h.at j).isSome || (st.h.mp j).isSome) = true ∨ st.h[j]? = some none)
    (K : Tr cx n c ⟨fun t => fzC (okF st.h b) b (fzY st.h b cells) (st.env t),fzH (okF st.h b) b (fzY st.h b cells) st.h⟩ Q) : Tr cx n c st Q := fun G w a S R hR =>
  K (fzG G w b cells.length) w a ⟨S.defers,S.size,S.pre.ok.fz hb,⟨fun t => fzC_rep S.pre.ok hb _ _ (S.pre.env.1 t),fun t s m xs e => by
      obtain ⟨ys,hy⟩ := fzC_own e
      exact (S.pre.env.2 t s m ys hy).fz⟩,fun g => (noRef_rep _ _ (hcx.glo g) (S.pre.glob g)).mono (fz_le S.pre.ok _)⟩ R
    fun x s G' w' a' q S' F => hR x s G' w' a' q S' ((frmN_fz S.pre.ok hb hnb hn _).trans F)
end
end Go.Sx
namespace Go.Sx
open Go.RowKit
theorem asSv_val (v : Value) : (C.val v).asSv = .val v := rfl
theorem asSv_tsl {α : Type} (f : α → List C) (r : Rt) (l : List α) : (sl f r l).asSv = sl f r l := rfl
theorem asSv_sv (b o n : Nat) : (C.sv b o n).asSv = .sv b o n := rfl
theorem asSv_gv (b n : Nat) (s : Nat × Nat) : (C.gv b n s).asSv = .sv b 0 n := rfl
theorem asSv_bp (b o : Nat) : (C.bp b o).asSv = .bp b o := rfl
theorem asSv_kp (xs : List C) : (C.kp xs).asSv = .kp xs := rfl
theorem noR_gv (b n : Nat) (s : Nat × Nat) : (C.gv b n s).noR = .gv b n s := rfl
theorem cells_gv (b n : Nat) (s : Nat × Nat) : (C.gv b n s).cells? = some [.gv b n s] := rfl
theorem refy_gv (b n : Nat) (s : Nat × Nat) (l : List C) : refy (.gv b n s :: l) = true := rfl
theorem isG_grow (cx : Cx) (l : List Nat) (d : Option Nat) : isG (cx.grow l) d = isA l d := by cases d <;> rfl
theorem grow_P (cx : Cx) (l : List Nat) : (cx.grow l).P = cx.P := rfl
theorem grow_N (cx : Cx) (l : List Nat) : (cx.grow l).N = cx.N := rfl
theorem grow_pu (cx : Cx) (l : List Nat) : (cx.grow l).pu = cx.pu := rfl
theorem sliceP_str (P : Program) (t : TypeId) (v : Value) (lo hi mx : Option C) : sliceP P t (.val v) lo hi mx = slicePlan P t (.val v) lo hi mx := rfl
theorem sliceP_tsl {α : Type} (f : α → List C) (P : Program) (t : TypeId) (r : Rt) (l : List α) (lo hi mx : Option C) : sliceP P t (sl f r l) lo hi mx = slicePlan P t (sl f r l) lo hi mx := rfl
theorem sliceP_bp (P : Program) (t : TypeId) (b o : Nat) (lo hi mx : Option C) : sliceP P t (.bp b o) lo hi mx = slicePlan P t (.bp b o) lo hi mx := rfl
theorem sliceP_gvl (P : Program) (t : TypeId) (b n : Nat) (s : Nat × Nat) (lo : C) (hi mx : Option C) : sliceP P t (.gv b n s) (some lo) hi mx = slicePlan P t (.sv b 0 n) (some lo) hi mx := rfl
def sgP (P : Program) (t : Option TD) (b n : Nat) (s : Nat × Nat) (hi : Option C) : Option Plan := match t with
  | some d => match d.u with
    | .slice e => match td P e,bound? hi n n with
      | some de,some h => if (de.size,e) = s then some (vp (.gv b h s)) else none
      | _,_ => none
    | _ => none
  | none => none
theorem sliceP_gv (P : Program) (t : TypeId) (b n : Nat) (s : Nat × Nat) (hi : Option C) : sliceP P t (.gv b n s) none hi none = sgP P (td P t) b n s hi := rfl
def sgQ (e : Nat) (t : Option TD) (b : Nat) (s : Nat × Nat) (h : Option Nat) : Option Plan := match t,h with
  | some de,some h => if (de.size,e) = s then some (vp (.gv b h s)) else none
  | _,_ => none
theorem sgP_sl (P : Program) (e a1 b1 : Nat) (z1 : List Value) (b n : Nat) (s : Nat × Nat) (hi : Option C) : sgP P (some ⟨.slice e,a1,b1,z1⟩) b n s hi = sgQ e (td P e) b s (bound? hi n n) := rfl
theorem sgQ_some (e : Nat) (u : TypeDesc) (s y : Nat) (z : List Value) (b h : Nat) : sgQ e (some ⟨u,s,y,z⟩) b (s,e) (some h) = some (vp (.gv b h (s,e))) := if_pos rfl
def gwQ (e : Nat) (de : Option TD) (x y : C) : Option Plan := match de with
  | none => none
  | some de =>
    let start : Option (Nat × Option (Nat × Nat)) := match x with
      | .val (.slice none 0 0) => some (0,none)
      | .sl .full 0 _ => some (0,none)
      | .gv b n s => if s = (de.size,e) then some (n,some (b,n)) else none
      | _ => none
    match start with
    | none => none
    | some (n,b) =>
      let fin (m : Nat) (ys : List C) : Bool := decide (ys.length = m * de.size ∧ 0 < de.size ∧ de.zero.length = de.size ∧ (n + m) * de.bytes ≤ 140737488355328 ∧ n + m ≤ 9223372036854775807 ∧ de.zero.all (·.oneCell') = true)
      match y with
      | .sv b' off m => some (.ap b (de.size,e) m fun h => (h.at b').bind fun cells => if off + m * de.size ≤ cells.length ∧ fin m (((cells.drop off).take (m * de.size)).map C.noR) = true then some (((cells.drop off).take (m * de.size)).map C.noR) else none)
      | y => match src? y with
        | some (m,ys) => if fin m ys = true then some (.ap b (de.size,e) m fun _ => some ys) else none
        | none => none
def gwP (P : Program) (d d2 : Option TD) (x y : C) : Option Plan := match d,d2 with
  | some d,some d2 =>
    if notInt d2.u = false then none else
    match d.u with
    | .slice e => gwQ e (td P e) x y
    | _ => none
  | _,_ => none
theorem gw_td (P : Program) (t t2 : TypeId) (x y : C) : growPlan P t t2 x y = gwP P (td P t) (td P t2) x y := rfl
theorem gw_ss (P : Program) (e e2 a1 b1 a2 b2 : Nat) (z1 z2 : List Value) (x y : C) : gwP P (some ⟨.slice e,a1,b1,z1⟩) (some ⟨.slice e2,a2,b2,z2⟩) x y = gwQ e (td P e) x y := rfl
section
variable {α : Type} (f : α → List C) {s : Nat} [hf : Cel f s] (e : Nat) (u : TypeDesc) (y : Nat) (z : List Value)
theorem gw_fin (n : Nat) (l' : List α) (hz : z.length = s) (hz1 : z.all (·.oneCell') = true) (h : (n + l'.length) * y ≤ 140737488355328 ∧ n + l'.length ≤ 9223372036854775807) :
    decide ((cl f l').length = l'.length * s ∧ 0 < s ∧ z.length = s ∧ (n + l'.length) * y ≤ 140737488355328 ∧ n + l'.length ≤ 9223372036854775807 ∧ z.all (·.oneCell') = true) = true := by
  simp only [decide_eq_true_eq]
  exact ⟨cl_len (f := f) l',hf.pos,hz,h.1,h.2,hz1⟩
theorem gwQ_gv (b n : Nat) (r : Rt) (l' : List α) (hz : z.length = s) (hz1 : z.all (·.oneCell') = true) (h : (n + l'.length) * y ≤ 140737488355328 ∧ n + l'.length ≤ 9223372036854775807) :
    gwQ e (some ⟨u,s,y,z⟩) (.gv b n (s,e)) (sl f r l') = some (.ap (some (b,n)) (s,e) l'.length fun _ => some (cl f l')) := by
  have e := gw_fin f y z n l' hz hz1 h
  simp only [gwQ,if_true,sl,src?,C.sl?]
  rw [if_pos e]
theorem gwQ_full (β : Type) (g : β → List C) (r : Rt) (l' : List α) (hz : z.length = s) (hz1 : z.all (·.oneCell') = true) (h : l'.length * y ≤ 140737488355328 ∧ l'.length ≤ 9223372036854775807) :
    gwQ e (some ⟨u,s,y,z⟩) (sl g .full []) (sl f r l') = some (.ap none (s,e) l'.length fun _ => some (cl f l')) := by
  have e := gw_fin f y z 0 l' hz hz1 (by simpa using h)
  simp only [gwQ,sl,src?,C.sl?,List.length_nil]
  rw [if_pos e]
end
section
variable (cx : Cx) (apps : List Nat) (dsts : List (Option Nat)) (l : List Oper) (id' : Nat) (d : Option Nat) (e : List (Nat × C)) (h : Hp) (fs : List FP) (K : List FP → St → Prop)
def nR : List C → List C := List.map C.noR
def stAB (b n : Nat) (s : Nat × Nat) (m : Nat) (cs : List C) (o : Option (List C)) : Prop := match o with
  | none => False
  | some cells =>
    if (n + m) * s.1 ≤ cells.length ∧ (n ≠ 0 ∨ m = 0) then run cx apps dsts l id' (mkE d (.gv b (n + m) s) e) (h.set b (some (splice cells (n * s.1) (cs.map C.noR)))) ((4,0) :: fs) K
    else if n * s.1 = cells.length then run cx apps dsts l id' (mkE d (.gv h.length (n + m) s) e) (h.set b (some deadC) ++ [some ((cells ++ cs).map C.noR)]) ((4,0) :: fs) K
    else if n = 0 then run cx apps dsts l id' (mkE d (.gv h.length (n + m) s) e) (h.set b (some deadC) ++ [some (cs.map C.noR)]) ((4,0) :: fs) K else False
theorem stA_new (z : FP) (s : Nat × Nat) (m : Nat) (cs : List C) : stA cx apps dsts l id' d e h fs K z none s m (some cs) = run cx apps dsts l id' (mkE d (.gv h.length m s) e) (h ++ [some (nR cs)]) (z :: fs) K := rfl
theorem stA_old (z : FP) (b n : Nat) (s : Nat × Nat) (m : Nat) (cs : List C) : stA cx apps dsts l id' d e h fs K z (some (b,n)) s m (some cs) = stAB cx apps dsts l id' d e h fs K b n s m cs (h.at b) := rfl
theorem stAB_cl {α : Type} (f : α → List C) {s : Nat} [hf : Cel f s] (e' b n m : Nat) (xs ys : List α) (hn : n = xs.length) (hm : m = ys.length ∧ 0 < m) :
    stAB cx apps dsts l id' d e h fs K b n (s,e') m (cl f ys) (some (cl f xs)) = run cx apps dsts l id' (mkE d (.gv h.length (xs ++ ys).length (s,e')) e) (h.set b (some deadC) ++ [some (cl f (xs ++ ys))]) ((4,0) :: fs) K := by
  obtain ⟨hm1,hm2⟩ := hm
  subst hn hm1
  have hp := hf.pos
  have hl := cl_len (f := f) xs
  have hml : s ≤ ys.length * s := by
    have := Nat.mul_le_mul_right s (show 1 ≤ ys.length by omega)
    omega
  unfold stAB
  simp only []
  rw [if_neg (by rw [hl,Nat.add_mul]; omega),if_pos hl.symm,← cl_app,cl_noR,List.length_append]
end
@[congr] theorem stA_congr {cx : Cx} {apps : List Nat} {dsts : List (Option Nat)} {l : List Oper} {id' : Nat} {d : Option Nat} {e : List (Nat × C)} {h : Hp} {fs : List FP} {K : List FP → St → Prop} {z : FP} {b : Option (Nat × Nat)} {s : Nat × Nat} {m : Nat} {p p' : Option (List C)} (hp : p = p') :
    stA cx apps dsts l id' d e h fs K z b s m p = stA cx apps dsts l id' d e h fs K z b s m p' := by rw [hp]
@[congr] theorem stAB_congr {cx : Cx} {apps : List Nat} {dsts : List (Option Nat)} {l : List Oper} {id' : Nat} {d : Option Nat} {e : List (Nat × C)} {h : Hp} {fs : List FP} {K : List FP → St → Prop} {b n : Nat} {s : Nat × Nat} {m : Nat} {cs : List C} {p p' : Option (List C)} (hp : p = p') :
    stAB cx apps dsts l id' d e h fs K b n s m cs p = stAB cx apps dsts l id' d e h fs K b n s m cs p' := by rw [hp]
theorem nR_cl {α : Type} (f : α → List C) {s : Nat} [hf : Cel f s] (l : List α) : nR (cl f l) = cl f l := cl_noR l
theorem gif_T (p q : Option Plan) : gif true p q = p := rfl
theorem gif_F (p q : Option Plan) : gif false p q = q := rfl
theorem loc_nil (k b : Nat) : loc [] k b = none := rfl
theorem loc_cons (x : Nat) (r : List Nat) (k b : Nat) : loc (x :: r) k b = if b = x then some k else loc r (k + 1) b := rfl
def mvGv (n : Nat) (s : Nat × Nat) : Option Nat → C
  | some j => .gv j n s
  | none => .top
def mvSv (o n : Nat) : Option Nat → C
  | some j => .sv j o n
  | none => .top
def mvBp (o : Nat) : Option Nat → C
  | some j => .bp j o
  | none => .top
theorem mvC_gv (ρ : List Nat) (b n : Nat) (s : Nat × Nat) : mvC ρ (.gv b n s) = mvGv n s (loc ρ 0 b) := by simp only [mvC]; cases loc ρ 0 b <;> rfl
theorem mvC_sv (ρ : List Nat) (b o n : Nat) : mvC ρ (.sv b o n) = mvSv o n (loc ρ 0 b) := by simp only [mvC]; cases loc ρ 0 b <;> rfl
theorem mvC_bp (ρ : List Nat) (b o : Nat) : mvC ρ (.bp b o) = mvBp o (loc ρ 0 b) := by simp only [mvC]; cases loc ρ 0 b <;> rfl
theorem mvGv_some (n : Nat) (s : Nat × Nat) (j : Nat) : mvGv n s (some j) = .gv j n s := rfl
theorem mvGv_none (n : Nat) (s : Nat × Nat) : mvGv n s none = .top := rfl
theorem mvSv_some (o n j : Nat) : mvSv o n (some j) = .sv j o n := rfl
theorem mvSv_none (o n : Nat) : mvSv o n none = .top := rfl
theorem mvBp_some (o j : Nat) : mvBp o (some j) = .bp j o := rfl
theorem mvBp_none (o : Nat) : mvBp o none = .top := rfl
theorem mvC_val (ρ : List Nat) (v : Value) : mvC ρ (.val v) = .val v := by simp only [mvC]
theorem mvC_top (ρ : List Nat) : mvC ρ .top = .top := by simp only [mvC]
theorem mvC_agg (ρ : List Nat) (xs : List C) : mvC ρ (.agg xs) = .agg (mvCs ρ xs) := by simp only [mvC]
theorem mvC_kp (ρ : List Nat) (xs : List C) : mvC ρ (.kp xs) = .kp (mvCs ρ xs) := by simp only [mvC]
theorem mvC_fn (ρ : List Nat) (f : Nat) (xs : List C) : mvC ρ (.fn f xs) = .fn f (mvCs ρ xs) := by simp only [mvC]
theorem mvCs_nil (ρ : List Nat) : mvCs ρ [] = [] := by simp only [mvCs]
theorem mvCs_cons (ρ : List Nat) (c : C) (l : List C) : mvCs ρ (c :: l) = mvC ρ c :: mvCs ρ l := by simp only [mvCs]
mutual
theorem mvC_flat (ρ : List Nat) : ∀ c : C,flat c = true → mvC ρ c = c
  | .val _,_ => by simp only [mvC]
  | .agg xs,h => by simp only [flat] at h; simp only [mvC,mvCs_flat ρ xs h]
  | .tup xs,h => by simp only [flat] at h; simp only [mvC,mvCs_flat ρ xs h]
  | .top,h => by simp [flat] at h
  | .sl _ _ _,h => by simp [flat] at h
  | .sv _ _ _,h => by simp [flat] at h
  | .gv _ _ _,h => by simp [flat] at h
  | .bp _ _,h => by simp [flat] at h
  | .kp _,h => by simp [flat] at h
  | .fn _ _,h => by simp [flat] at h
theorem mvCs_flat (ρ : List Nat) : ∀ l : List C,flats l = true → mvCs ρ l = l
  | [],_ => by simp only [mvCs]
  | x :: xs,h => by simp only [flats,Bool.and_eq_true] at h; simp only [mvCs,mvC_flat ρ x h.1,mvCs_flat ρ xs h.2]
end
theorem mvCs_cl {α : Type} (f : α → List C) [h : Fla f] (ρ : List Nat) (l : List α) : mvCs ρ (cl f l) = cl f l := mvCs_flat ρ _ (flats_cl f l)
theorem mvCs_f {α : Type} (f : α → List C) [h : Fla f] (ρ : List Nat) (a : α) : mvCs ρ (f a) = f a := mvCs_flat ρ _ (h.flat a)
theorem mvC_sl {α : Type} (f : α → List C) [h : Fla f] (ρ : List Nat) (r : Rt) (l : List α) : mvC ρ (sl f r l) = sl f r l := by
  unfold sl; simp only [mvC,mvCs_cl]
def hget : Hp → Nat → Option (List C)
  | [],_ => none
  | o :: _,0 => o
  | _ :: h,k + 1 => hget h k
theorem hget_eq : ∀ (h : Hp) (k : Nat),(h[k]?).getD none = hget h k
  | [],_ => rfl
  | o :: _,0 => rfl
  | _ :: h,k + 1 => by rw [List.getElem?_cons_succ]; exact hget_eq h k
theorem hget_0 (o : Option (List C)) (h : Hp) : hget (o :: h) 0 = o := rfl
theorem hget_S (o : Option (List C)) (h : Hp) (k : Nat) : hget (o :: h) (k + 1) = hget h k := rfl
def mvHa (ρ : List Nat) (h : Hp) : List Nat → Hp
  | [] => []
  | x :: r => (hget h x).map (mvCs ρ) :: mvHa ρ h r
theorem mvH_eq (ρ : List Nat) (h : Hp) : mvH ρ h = mvHa ρ h ρ := by
  have key : ∀ r : List Nat,(r.map fun b => ((h[b]?).getD none).map (mvCs ρ)) = mvHa ρ h r := by
    intro r
    induction r with
    | nil => rfl
    | cons x r ih => rw [List.map_cons,ih,hget_eq]; rfl
  exact key ρ
theorem mvHa_nil (ρ : List Nat) (h : Hp) : mvHa ρ h [] = [] := rfl
theorem mvHa_cons (ρ : List Nat) (h : Hp) (x : Nat) (r : List Nat) : mvHa ρ h (x :: r) = (hget h x).map (mvCs ρ) :: mvHa ρ h r := rfl
def mapE (g : C → C) : List (Nat × C) → List (Nat × C)
  | [] => []
  | (k,c) :: l => (k,g c) :: mapE g l
theorem mapE_nil (g : C → C) : mapE g [] = [] := rfl
theorem mapE_cons (g : C → C) (k : Nat) (c : C) (l : List (Nat × C)) : mapE g ((k,c) :: l) = (k,g c) :: mapE g l := rfl
theorem mapE_A (g : C → C) (hg : g .top = .top) : ∀ l : List (Nat × C),(fun t => g (A l t)) = A (mapE g l)
  | [] => by funext t; exact hg
  | (k,c) :: l => by
    funext t
    simp only [A,mapE]
    split
    · rfl
    · exact congrFun (mapE_A g hg l) t
theorem Tr.fzA {cx : Cx} {n : Nat} {Q : Ex → St → Prop} {e : List (Nat × C)} {h : Hp} (hcx : CxOK cx) {c : Code} (b : Nat) (cells : List C) (hb : h.at b = some cells) (hnb : n ≤ b) (hn : ∀ j,j < n → ((h.at j).isSome || (h.mp j).isSome) = true ∨ h[j]? = some none)
    (K : Tr cx n c ⟨A (mapE (fzC (okF h b) b (fzY h b cells)) e),fzH (okF h b) b (fzY h b cells) h⟩ Q) : Tr cx n c ⟨A e,h⟩ Q := by
  refine Tr.fz hcx b hb hnb hn ?_
  rw [mapE_A _ (by simp only [fzC])]
  exact K
theorem Tr.mvA {cx : Cx} {n : Nat} {Q : Ex → St → Prop} {e : List (Nat × C)} {h : Hp} (hcx : CxOK cx) {c : Code} (ρ : List Nat) (hρ : okρ n ρ) (K : Tr cx n c ⟨A (mapE (mvC ρ) e),mvH ρ h⟩ Q) : Tr cx n c ⟨A e,h⟩ Q := by
  refine Tr.mv hcx ρ hρ ?_
  rw [mapE_A _ (mvC_top ρ)]
  exact K
theorem fzC_val (ok : Nat → Bool) (b : Nat) (ys : List C) (v : Value) : fzC ok b ys (.val v) = .val v := by simp only [fzC]
theorem fzC_top (ok : Nat → Bool) (b : Nat) (ys : List C) : fzC ok b ys .top = .top := by simp only [fzC]
theorem fzC_agg (ok : Nat → Bool) (b : Nat) (ys xs : List C) : fzC ok b ys (.agg xs) = .agg (fzCs ok b ys xs) := by simp only [fzC]
theorem fzC_tup (ok : Nat → Bool) (b : Nat) (ys xs : List C) : fzC ok b ys (.tup xs) = .tup (fzCs ok b ys xs) := by simp only [fzC]
theorem fzC_kp (ok : Nat → Bool) (b : Nat) (ys xs : List C) : fzC ok b ys (.kp xs) = .kp (fzCs ok b ys xs) := by simp only [fzC]
theorem fzC_fn (ok : Nat → Bool) (b : Nat) (ys : List C) (f : Nat) (xs : List C) : fzC ok b ys (.fn f xs) = .fn f (fzCs ok b ys xs) := by simp only [fzC]
theorem fzCs_nil (ok : Nat → Bool) (b : Nat) (ys : List C) : fzCs ok b ys [] = [] := by simp only [fzCs]
theorem fzCs_cons (ok : Nat → Bool) (b : Nat) (ys : List C) (x : C) (xs : List C) : fzCs ok b ys (x :: xs) = fzC ok b ys x :: fzCs ok b ys xs := by simp only [fzCs]
mutual
theorem fzC_flat (ok : Nat → Bool) (b : Nat) (ys : List C) : ∀ c : C,flat c = true → fzC ok b ys c = c
  | .val _,_ => by simp only [fzC]
  | .agg xs,h => by simp only [flat] at h; simp only [fzC,fzCs_flat ok b ys xs h]
  | .tup xs,h => by simp only [flat] at h; simp only [fzC,fzCs_flat ok b ys xs h]
  | .top,h => by simp [flat] at h
  | .sl _ _ _,h => by simp [flat] at h
  | .sv _ _ _,h => by simp [flat] at h
  | .gv _ _ _,h => by simp [flat] at h
  | .bp _ _,h => by simp [flat] at h
  | .kp _,h => by simp [flat] at h
  | .fn _ _,h => by simp [flat] at h
theorem fzCs_flat (ok : Nat → Bool) (b : Nat) (ys : List C) : ∀ l : List C,flats l = true → fzCs ok b ys l = l
  | [],_ => by simp only [fzCs]
  | x :: xs,h => by simp only [flats,Bool.and_eq_true] at h; simp only [fzCs,fzC_flat ok b ys x h.1,fzCs_flat ok b ys xs h.2]
end
mutual
theorem scr_flat (ok : Nat → Bool) : ∀ c : C,flat c = true → scr ok c = c
  | .val _,_ => by simp only [scr]
  | .agg xs,h => by simp only [flat] at h; simp only [scr,scrs_flat ok xs h]
  | .tup xs,h => by simp only [flat] at h; simp only [scr,scrs_flat ok xs h]
  | .top,h => by simp [flat] at h
  | .sl _ _ _,h => by simp [flat] at h
  | .sv _ _ _,h => by simp [flat] at h
  | .gv _ _ _,h => by simp [flat] at h
  | .bp _ _,h => by simp [flat] at h
  | .kp _,h => by simp [flat] at h
  | .fn _ _,h => by simp [flat] at h
theorem scrs_flat (ok : Nat → Bool) : ∀ l : List C,flats l = true → scrs ok l = l
  | [],_ => by simp only [scrs]
  | x :: xs,h => by simp only [flats,Bool.and_eq_true] at h; simp only [scrs,scr_flat ok x h.1,scrs_flat ok xs h.2]
end
theorem fzCs_cl {α : Type} (f : α → List C) [h : Fla f] (ok : Nat → Bool) (b : Nat) (ys : List C) (l : List α) : fzCs ok b ys (cl f l) = cl f l := fzCs_flat ok b ys _ (flats_cl f l)
theorem fzC_sl {α : Type} (f : α → List C) [h : Fla f] (ok : Nat → Bool) (b : Nat) (ys : List C) (r : Rt) (l : List α) : fzC ok b ys (sl f r l) = sl f r l := by
  unfold sl; simp only [fzC,fzCs_cl]
theorem fzY_cl {α : Type} (f : α → List C) {s : Nat} [hc : Cel f s] [h : Fla f] (hp : Hp) (b : Nat) (l : List α) : fzY hp b (cl f l) = cl f l := by
  unfold fzY; rw [scrs_flat _ _ (flats_cl f l),cl_noR]
def fzGv (ys : List C) (n : Nat) (s : Nat × Nat) : C := if n * s.1 ≤ ys.length then .sl .no n (ys.take (n * s.1)) else .top
theorem fzC_gv (ok : Nat → Bool) (b : Nat) (ys : List C) (b' n : Nat) (s : Nat × Nat) : fzC ok b ys (.gv b' n s) = if b' = b then fzGv ys n s else if ok b' = true then .gv b' n s else .top := by simp only [fzC,fzGv]
theorem fzGv_cl {α : Type} (f : α → List C) {s : Nat} [hc : Cel f s] (e : Nat) (l : List α) (n : Nat) (h : n = l.length) : fzGv (cl f l) n (s,e) = sl f .no l := by
  subst h
  have hl := cl_len (f := f) l
  unfold fzGv
  simp only []
  rw [if_pos (by omega),List.take_of_length_le (by omega)]; rfl
theorem okF_eq (h : Hp) (b b' : Nat) : okF h b b' = (((h.at b').isSome || (h.mp b').isSome) && b' != b) := rfl
attribute [go_sem] asSv_val asSv_tsl asSv_sv asSv_gv asSv_bp asSv_kp noR_gv cells_gv refy_gv isG_grow grow_P grow_N grow_pu sliceP_str sliceP_tsl sliceP_bp sliceP_gvl sliceP_gv sgP_sl sgQ_some gw_td gw_ss gwQ_gv gwQ_full stV_ap stA_new stA_old stAB_cl nR_cl gif_T gif_F live_dead live_val live_fn live_tsl live_cl live_f live_clL
theorem Tr.cT {cx : Cx} {n : Nat} {Q : Ex → St → Prop} {e : List (Nat × C)} {h : Hp} {t : Nat} {x y : Code} (ht : A e t = .val (.bool true)) (H : Tr cx n x ⟨A e,h⟩ Q) : Tr cx n (.cond (.tmp t) x y) ⟨A e,h⟩ Q :=
  Tr.condG fun KT KF hT hF => by rw [ev_tmp,ht,condG_bool]; exact .pos rfl (hT H)
theorem Tr.cF {cx : Cx} {n : Nat} {Q : Ex → St → Prop} {e : List (Nat × C)} {h : Hp} {t : Nat} {x y : Code} (ht : A e t = .val (.bool false)) (H : Tr cx n y ⟨A e,h⟩ Q) : Tr cx n (.cond (.tmp t) x y) ⟨A e,h⟩ Q :=
  Tr.condG fun KT KF hT hF => by rw [ev_tmp,ht,condG_bool]; exact .neg rfl (hF H)
theorem Tr.cD {cx : Cx} {n : Nat} {Q : Ex → St → Prop} {e : List (Nat × C)} {h : Hp} {t : Nat} {x y : Code} {p : Prop} {d : Decidable p} (ht : A e t = .val (.bool (@decide p d))) (H1 : p → Tr cx n x ⟨A e,h⟩ Q) (H2 : ¬ p → Tr cx n y ⟨A e,h⟩ Q) : Tr cx n (.cond (.tmp t) x y) ⟨A e,h⟩ Q :=
  Tr.condG fun KT KF hT hF => by rw [ev_tmp,ht,condG_bool]; exact .dec (fun q => hT (H1 q)) (fun q => hF (H2 q))
theorem lA {α : Type} (xs ys : List α) : (xs ++ ys).length = xs.length + ys.length := List.length_append
theorem lD {α : Type} (n : Nat) (xs : List α) : (xs.drop n).length = xs.length - n := List.length_drop
theorem lT {α : Type} (n : Nat) (xs : List α) : (xs.take n).length = min n xs.length := List.length_take
end Go.Sx
namespace Go.Sx
open Go.RowKit
def frhR (b : Bool) (c : C) (h : Hp) : Option (C × Hp) := if b then some (c,h) else none
def frhQ (b : Bool) (o : Option C) (h : Hp) : Option (C × Hp) := if b then (match o with
  | some c => frhR (flat c) c h
  | none => none) else none
@[congr] theorem frhQ_congr {b b' : Bool} {o o' : Option C} {h : Hp} (hb : b = b') (ho : b' = true → o = o') : frhQ b o h = frhQ b' o' h := by
  subst hb
  cases b with
  | false => rfl
  | true => rw [ho rfl]
theorem store_tsl {P : Program} {α : Type} (f : α → List C) (t : TypeId) (b o : Nat) (r : Rt) (l : List α) (k : Option Nat) : storePlan P t (.bp b o) (sl f r l) k = stS (td P t) b o (sl f r l) k := store_sl P t b o r _ _ k
theorem store_gv {P : Program} (t : TypeId) (b o b' n : Nat) (s : Nat × Nat) (k : Option Nat) : storePlan P t (.bp b o) (.gv b' n s) k = stB (td P t) b o (some [.gv b' n s]) := by
  unfold storePlan stB; cases td P t <;> rfl
attribute [go_sem] store_tsl store_gv Bool.and_false Bool.false_and
end Go.Sx
namespace Go.Sx
open Go.RowKit
end Go.Sx
namespace Go.Sx
open Go.RowKit
end Go.Sx
namespace Go.Sx
open Go.RowKit
section
variable {cx : Cx} {n : Nat} {Q : Ex → St → Prop} {st : St} {G : Gh} {h : Hp} {w : World} {P : Program}
def notTup : C → Bool
  | .tup _ => false
  | _ => true
theorem liveC_setC {cells : List C} (hl : liveC (some cells) = some cells) (k : Nat) {c' : C} (hc : notTup c' = true) : liveC (some (cells.set k c')) = some (cells.set k c') := by
  cases cells with
  | nil => simp [liveC]
  | cons c t =>
    cases k with
    | zero =>
      rw [List.set_cons_zero]
      unfold liveC
      split
      · rename_i h2; cases h2; cases hc
      · rfl
    | succ k =>
      rw [List.set_cons_succ]
      unfold liveC at hl ⊢
      split at hl
      · cases hl
      · rename_i hn
        split
        · rename_i h2; cases h2; exact absurd rfl (hn _ _)
        · rfl
theorem WorldOK.bxc (H : WorldOK G h w) {b k : Nat} {c c' : C} {cells : List C} (hb : h.at b = some cells) (hk : cells[k]? = some c) (hc : CLe c c') (ht : notTup c' = true) : WorldOK G (h.set b (some (cells.set k c'))) w := by
  have hlt := Hp.at_lt hb
  have hlive := liveC_setC (Hp.at_live hb) k ht
  have hkl : k < cells.length := (List.getElem?_eq_some_iff.1 hk).1
  refine ⟨H.known,fun b' c2 x => ?_,fun b' blk x => ?_,fun b1 b2 c1 c2 blk x x' y y' => ?_,H.sep,H.tlt,fun b' c2 off s m2 ys blk v x hc2 hm hv => ?_,H.siz,H.mpoT (fun k l x => (mp_setN hlt (mpL_live hlive) k l x).2) (fun _ _ _ x => x) (.refl G),H.mpiT (fun k l x => (mp_setN hlt (mpL_live hlive) k l x).2) (fun _ _ _ _ x => x)⟩
  · rw [Hp.at_set hlt] at x
    split at x
    · rename_i e; subst e; rw [hlive] at x; cases x
      rcases H.box b' cells hb with ⟨rfl,hE⟩ | ⟨blk,cs,e,q1,q2,q3,q4,q5⟩
      · simp at hkl
      · refine .inr ⟨blk,cs,e,q1,q2,by rw [List.length_set]; exact q3,?_,q5⟩
        rw [List.length_set]
        have hsz : cs.toList.length = cs.size := by simp
        have hlen : (cells.set k c').length = (cs.toList.take cells.length).length := by
          rw [List.length_set,List.length_take]; omega
        refine RepL.of_get hlen fun i y v hy hv => ?_
        rw [List.getElem?_set] at hy
        split at hy
        · rename_i e2; subst e2
          (try rw [if_pos hkl] at hy); cases hy
          obtain ⟨v2,hv2,hr⟩ := q4.get k _ hk
          rw [hv] at hv2; cases hv2
          exact hc.1 _ _ hr
        · obtain ⟨v2,hv2,hr⟩ := q4.get i _ hy
          rw [hv] at hv2; cases hv2; exact hr
    · exact H.box b' c2 x
  · obtain ⟨⟨c0,hc0⟩,hl⟩ := H.dom b' blk x
    refine ⟨?_,hl⟩
    by_cases e : b' = b
    · subst e; exact ⟨_,by rw [List.getElem?_set_self hlt]⟩
    · exact ⟨c0,by rw [List.getElem?_set_ne (fun h => e h.symm)]; exact hc0⟩
  · have key : ∀ b' c2,Hp.at (h.set b (some (cells.set k c'))) b' = some c2 → ∃ c0,h.at b' = some c0 := fun b' c2 x => by
      rw [Hp.at_set hlt] at x
      split at x
      · rename_i e; subst e; exact ⟨cells,hb⟩
      · exact ⟨c2,x⟩
    obtain ⟨d1,e1⟩ := key b1 c1 x
    obtain ⟨d2,e2⟩ := key b2 c2 x'
    exact H.inj b1 b2 d1 d2 blk e1 e2 y y'
  · rw [Hp.at_set hlt] at x
    split at x
    · rename_i e; subst e; rw [hlive] at x; cases x
      rw [List.getElem?_set] at hc2
      split at hc2
      · rename_i e2; subst e2
        (try rw [if_pos hkl] at hc2); cases hc2
        rcases hc.2 s m2 ys rfl with rfl | hfull
        · exact H.own b' cells k s m2 ys blk v hb hk hm hv
        · rcases H.box b' cells hb with ⟨rfl,hE⟩ | ⟨blk2,cs,e,q1,q2,q3,q4,q5⟩
          · simp at hkl
          · obtain ⟨v2,hv2,hr⟩ := q4.get k _ hk
            rw [q1] at hm; cases hm
            obtain ⟨fr,q6,q7⟩ := q2
            rw [List.getElem?_take_of_lt hkl] at hv2
            rw [cell_of q6 _ _ hv2] at hv
            cases hv
            obtain ⟨a,rfl⟩ := hfull _ _ hr
            exact .inl ⟨a,rfl⟩
      · exact H.own b' cells off s m2 ys blk v hb hc2 hm hv
    · exact H.own b' c2 off s m2 ys blk v x hc2 hm hv
theorem Tr.bxc {c : Code} {e : List (Nat × C)} {h : Hp} (b k : Nat) {x : C} (x' : C) (cells : List C) (hb : h.at b = some cells) (hk : cells[k]? = some x) (hc : CLe x x') (ht : notTup x' = true) (H : Tr cx n c ⟨A e,h.set b (some (cells.set k x'))⟩ Q) : Tr cx n c ⟨A e,h⟩ Q := fun G w a S R hR =>
  H G w a ⟨S.defers,S.size,S.pre.ok.bxc hb hk hc ht,S.pre.env,S.pre.glob⟩ R hR
theorem eq_sn {t e : TypeId} {s y : Nat} {z : List Value} (op : BinOp) {x : C} (hx : x.nilS? = some false) (hv : ∀ v,x ≠ .val v) (h : td P t = some ⟨.slice e,s,y,z⟩) (hg : P.eqGuardType P.depth t = false) : binPlan P op t x (.val (.slice none 0 0)) = eqR op false := by
  have he : eqC P 9 t x (.val (.slice none 0 0)) = some false := by
    unfold eqC; rw [h]; simp only [hx]; rfl
  have h1 : binPlan P op t x (.val (.slice none 0 0)) = eqPlan P op t x (.val (.slice none 0 0)) := by
    cases x with
    | val v => exact absurd rfl (hv v)
    | _ => rfl
  rw [h1]
  unfold eqPlan
  rw [if_pos ⟨.inr (.inl ⟨by rw [hx]; rfl,rfl⟩),hg⟩]
  unfold eqR
  cases op <;> simp [he,vp,Plan.pure]
end
end Go.Sx
namespace Go.Sx
open Go.RowKit Go.ChangeShapes Go.WideShapes
abbrev RelF (α : Type) := α → (H : Type) → List (DataW H) → Prop
structure RdF (P : Program) (fs : List Field) (off z : Nat) {α : Type} (f : α → List C) (R : RelF α) : Prop where
  rd : ∀ {H : Type} {enc : TypeId × Value → H} {W : World} {base : Nat} {sp : Nat → Bool} {held : Bool} {n : Nat} {cs : List Value} {xs : List (DataW H × List MemPlace)},xs.length = fs.length → cs.length = off + z →
    (∀ (i : Nat) (fd : Field),fs[i]? = some fd → DataW.trod enc P W base sp held n fd.type ((cs.drop fd.offset).take (P.cellsOf fd.type)) = xs[i]?) → ∃ a,R a H (xs.map (·.1)) ∧ RepL (GW W) (f a) (cs.drop off) ∧ ∀ u ∈ cs.drop off,u.oneCell' = true
end Go.Sx
namespace Go.Sx
open Go.RowKit
section
variable {cx : Cx} {n : Nat} {Q : Ex → St → Prop} {e : List (Nat × C)} {h : Hp} {b : Code} {id : Nat} {l : List Oper} {s : St}
theorem Tr.w (hcx : CxOK cx) (apps : List Nat) (dsts : List (Option Nat)) (z : Hp) (h1 : l.filterMap appOf = apps) (h2 : l.map (·.dst) = dsts) (h3 : nones l = z) (H : Tr cx n b s Q) (E : ∀ K : St → Prop,K s → run cx apps dsts l h.length e (h ++ z) [] (fun _ s => K s)) : Tr cx n (.seq (.region id l.toArray false) b) ⟨A e,h⟩ Q :=
  Tr.seqK fun K hK => Tr.rg hcx apps dsts z h1 h2 h3 (E K (hK s H))
theorem Tr.v (hcx : CxOK cx) (apps : List Nat) (dsts : List (Option Nat)) (z : Hp) (h1 : l.filterMap appOf = apps) (h2 : l.map (·.dst) = dsts) (h3 : nones l = z) (H : Q .normal s) (E : ∀ K : St → Prop,K s → run cx apps dsts l h.length e (h ++ z) [] (fun _ s => K s)) : Tr cx n (.region id l.toArray false) ⟨A e,h⟩ Q :=
  Tr.rg hcx apps dsts z h1 h2 h3 (E (Q .normal) H)
theorem Tr.wD (hcx : CxOK cx) (hm : cx.P.follows .mixedOrders = true) (apps : List Nat) (dsts : List (Option Nat)) (z : Hp) (h1 : l.filterMap appOf = apps) (h2 : l.map (·.dst) = dsts) (h3 : nones l = z) (hs : regStatic l.toArray = true) (H : Tr cx n b s Q) (E : ∀ K : St → Prop,K s → run cx apps dsts l h.length e (h ++ z) [] (fun fs s => confsOK l.toArray fs.reverse = true ∧ K s)) : Tr cx n (.seq (.region id l.toArray true) b) ⟨A e,h⟩ Q :=
  Tr.seqK fun K hK => Tr.rgD hcx hm apps dsts z h1 h2 h3 hs (E K (hK s H))
theorem Tr.vD (hcx : CxOK cx) (hm : cx.P.follows .mixedOrders = true) (apps : List Nat) (dsts : List (Option Nat)) (z : Hp) (h1 : l.filterMap appOf = apps) (h2 : l.map (·.dst) = dsts) (h3 : nones l = z) (hs : regStatic l.toArray = true) (H : Q .normal s) (E : ∀ K : St → Prop,K s → run cx apps dsts l h.length e (h ++ z) [] (fun fs s => confsOK l.toArray fs.reverse = true ∧ K s)) : Tr cx n (.region id l.toArray true) ⟨A e,h⟩ Q :=
  Tr.rgD hcx hm apps dsts z h1 h2 h3 hs (E (Q .normal) H)
theorem Tr.vG (hcx : CxOK cx) (gs : List Nat) (apps : List Nat) (dsts : List (Option Nat)) (z : Hp) (h1 : l.filterMap appOf = apps) (h2 : l.map (·.dst) = dsts) (h3 : nones l = z) (H : Q .normal s) (E : ∀ K : St → Prop,K s → run (cx.grow gs) apps dsts l h.length e (h ++ z) [] (fun _ s => K s)) : Tr cx n (.region id l.toArray false) ⟨A e,h⟩ Q :=
  Tr.rgG hcx gs apps dsts z h1 h2 h3 (E (Q .normal) H)
theorem Tr.wDG (hcx : CxOK cx) (hm : cx.P.follows .mixedOrders = true) (gs : List Nat) (apps : List Nat) (dsts : List (Option Nat)) (z : Hp) (h1 : l.filterMap appOf = apps) (h2 : l.map (·.dst) = dsts) (h3 : nones l = z) (hs : regStatic l.toArray = true) (H : Tr cx n b s Q) (E : ∀ K : St → Prop,K s → run (cx.grow gs) apps dsts l h.length e (h ++ z) [] (fun fs s => confsOK l.toArray fs.reverse = true ∧ K s)) : Tr cx n (.seq (.region id l.toArray true) b) ⟨A e,h⟩ Q :=
  Tr.seqK fun K hK => Tr.rgDG hcx hm gs apps dsts z h1 h2 h3 hs (E K (hK s H))
theorem Tr.vDG (hcx : CxOK cx) (hm : cx.P.follows .mixedOrders = true) (gs : List Nat) (apps : List Nat) (dsts : List (Option Nat)) (z : Hp) (h1 : l.filterMap appOf = apps) (h2 : l.map (·.dst) = dsts) (h3 : nones l = z) (hs : regStatic l.toArray = true) (H : Q .normal s) (E : ∀ K : St → Prop,K s → run (cx.grow gs) apps dsts l h.length e (h ++ z) [] (fun fs s => confsOK l.toArray fs.reverse = true ∧ K s)) : Tr cx n (.region id l.toArray true) ⟨A e,h⟩ Q :=
  Tr.rgDG hcx hm gs apps dsts z h1 h2 h3 hs (E (Q .normal) H)
theorem Tr.k (ks : List Nat) {c : Code} {e' : List (Nat × C)} (H : Tr cx n c ⟨A e',h⟩ Q) (E : ∀ R : List (Nat × C) → Prop,R e' → R (pk e ks) := by intro RZ hZ; simp only [pk_cons,pk_nil,↓A_cons,↓reduceIte,Nat.reduceEqDiff,reduceCtorEq]; exact hZ) : Tr cx n c ⟨A e,h⟩ Q :=
  Tr.kp ks (E (fun x => Tr cx n c ⟨A x,h⟩ Q) H)
theorem Tr.cP {t : Nat} {x y : Code} {d : Bool} (ht : A e t = .val (.bool d)) (hd : d = true) (H : Tr cx n x ⟨A e,h⟩ Q) : Tr cx n (.cond (.tmp t) x y) ⟨A e,h⟩ Q :=
  Tr.cT (ht.trans (by rw [hd])) H
theorem Tr.cN {t : Nat} {x y : Code} {d : Bool} (ht : A e t = .val (.bool d)) (hd : d = false) (H : Tr cx n y ⟨A e,h⟩ Q) : Tr cx n (.cond (.tmp t) x y) ⟨A e,h⟩ Q :=
  Tr.cF (ht.trans (by rw [hd])) H
end
theorem LT {p : Prop} (h : p := by (simp only [Le_nil,Le_cons,↓A_cons,↓reduceIte,Nat.reduceEqDiff,CLe_refl,CLe_top,CLe_full,CLe_nil,CLe_own,and_true,true_and]; all_goals (repeat' first | exact CLe.refl _ | exact True.intro | (refine CLe_sln ?_; first | rfl | (simp only [List.take_zero]; done)) | exact CLe_nI (by omega) | exact CLe_int (by omega) | exact CLe_inI (by omega) | exact CLe_nIi (by omega) | with_reducible apply And.intro))) : p := h
theorem O1 {p : Prop} (h : p := by first | omega | (simp only []; omega)) : p := h
end Go.Sx
namespace Go.Sx
open Go.RowKit
theorem set_mid {α : Type} (l r : List α) (x v : α) (t : Nat) (h : l.length = t) : (l ++ x :: r).set t v = l ++ v :: r := by
  subst h; simp
theorem set_rep {α : Type} (l : List α) (x v : α) (n t : Nat) (h : l.length = t) (h2 : t < n) : (l ++ List.replicate (n - t) x).set t v = l ++ v :: List.replicate (n - 1 - t) x := by
  have e : n - t = (n - 1 - t) + 1 := by omega
  rw [e,List.replicate_succ,set_mid _ _ _ _ _ h]
theorem gt_mid {α : Type} [Inhabited α] (l r : List α) (x : α) (t : Nat) (h : l.length = t) : gt (l ++ x :: r) t = x := by
  subst h; simp [gt,List.getD]
theorem gt_left {α : Type} [Inhabited α] (l r : List α) (t : Nat) (h : t < l.length) : gt (l ++ r) t = gt l t := by
  simp [gt,List.getD,List.getElem?_append_left h]
theorem take_snoc {α : Type} [Inhabited α] (l : List α) (j : Nat) (h : j < l.length) : l.take (j + 1) = l.take j ++ [gt l j] := by
  rw [List.take_add_one,List.getElem?_eq_getElem h]; simp [gt,List.getD,List.getElem?_eq_getElem h]
theorem take_next {α : Type} [Inhabited α] (l : List α) (j : Nat) (h : j < l.length) : l.take j ++ [gt l j] = l.take (j + 1) := (take_snoc l j h).symm
def le (m : Nat) : List UInt8 := if h : m = 0 then [] else UInt8.ofNat (m % 256) :: le (m / 256)
termination_by m
decreasing_by omega
theorem le_zero : le 0 = [] := by rw [le]; simp
theorem le_pos (m : Nat) (h : m ≠ 0) : le m = UInt8.ofNat (m % 256) :: le (m / 256) := by rw [le]; simp [h]
def wint (n : Int) : List UInt8 :=
  if 0 ≤ n then UInt8.ofNat (128 + (le n.toNat).length) :: (le n.toNat).reverse
  else UInt8.ofNat (127 - (le (-1 - n).toNat).length) :: ((le (-1 - n).toNat).reverse.map fun c => 255 - c)
def wb (s : List UInt8) : List UInt8 := wint s.length ++ s
theorem le_len (k : Nat) : ∀ m,m < 256 ^ k → (le m).length ≤ k := by
  induction k with
  | zero => intro m h; have : m = 0 := by simpa using h
            subst this; simp [le_zero]
  | succ k ih =>
    intro m h
    by_cases hm : m = 0
    · subst hm; simp [le_zero]
    · rw [le_pos m hm]
      have := ih (m / 256) (by rw [Nat.pow_succ] at h; exact Nat.div_lt_of_lt_mul (by omega))
      simp; omega
theorem wb_len (s : List UInt8) (h : s.length < 18446744073709551616) : (wb s).length ≤ s.length + 9 := by
  have := le_len 8 s.length (by simpa using h)
  simp [wb,wint]; omega
theorem wb_pos (s : List UInt8) : 1 ≤ (wb s).length := by
  unfold wb wint; split <;> simp <;> omega
theorem le_len_eq : ∀ (k m : Nat),m < 256 ^ k → (k = 0 ∨ 256 ^ (k - 1) ≤ m) → (le m).length = k
  | 0,m,h,_ => by
    have : m = 0 := by simpa using h
    subst this; simp [le_zero]
  | k + 1,m,h,h2 => by
    have h3 : 256 ^ k ≤ m := by simpa using h2
    have hp : 0 < 256 ^ k := Nat.pow_pos (by decide)
    have hm : m ≠ 0 := by omega
    rw [le_pos m hm,List.length_cons,le_len_eq k (m / 256) (by rw [Nat.pow_succ] at h; exact Nat.div_lt_of_lt_mul (by omega)) ?_]
    rcases Nat.eq_zero_or_pos k with rfl | hk
    · exact .inl rfl
    · right
      rw [Nat.le_div_iff_mul_le (by decide),← Nat.pow_succ]
      rw [show (k - 1).succ = k by omega]; exact h3
def be (m k : Nat) : List UInt8 := (List.range k).map fun j => UInt8.ofNat (m >>> (8 * (k - 1 - j)))
theorem be_len (m k : Nat) : (be m k).length = k := by simp [be]
theorem be_gt (m k j : Nat) (h : j < k) : gt (be m k) j = UInt8.ofNat (m >>> (8 * (k - 1 - j))) := by
  simp [be,gt,List.getD,h]
theorem le_gt : ∀ (j m : Nat),j < (le m).length → gt (le m) j = UInt8.ofNat (m >>> (8 * j))
  | 0,m,h => by
    have hm : m ≠ 0 := by rintro rfl; simp [le_zero] at h
    rw [le_pos m hm]
    show UInt8.ofNat (m % 256) = _
    apply UInt8.toNat_inj.1; simp
  | j + 1,m,h => by
    have hm : m ≠ 0 := by rintro rfl; simp [le_zero] at h
    rw [le_pos m hm] at h ⊢
    rw [gt_consS,le_gt j (m / 256) (by simpa using h)]
    have : 8 * (j + 1) = 8 + 8 * j := by omega
    rw [this,Nat.shiftRight_add,show m >>> 8 = m / 256 from Nat.shiftRight_eq_div_pow m 8]
theorem gt_rev {α : Type} [Inhabited α] (l : List α) (j : Nat) (h : j < l.length) : gt l.reverse j = gt l (l.length - 1 - j) := by
  simp [gt,List.getD,List.getElem?_reverse h]
theorem ext_gt {α : Type} [Inhabited α] (l l' : List α) (h : l.length = l'.length) (hg : ∀ i < l.length,gt l i = gt l' i) : l = l' := by
  apply List.ext_getElem h
  intro i h1 h2
  have := hg i h1
  simpa [gt,List.getD,List.getElem?_eq_getElem h1,List.getElem?_eq_getElem h2] using this
theorem le_rev (m : Nat) : (le m).reverse = be m (le m).length := by
  refine ext_gt _ _ (by simp [be_len]) fun i hi => ?_
  have hi' : i < (le m).length := by simpa using hi
  rw [gt_rev _ _ hi',be_gt _ _ _ hi',le_gt _ _ (by omega)]
theorem xor255 (x : UInt8) : x ^^^ 255 = 255 - x := by
  apply UInt8.toNat_inj.1
  have hx := x.toNat_lt
  rw [UInt8.toNat_xor,UInt8.toNat_sub_of_le _ _ (by rw [UInt8.le_iff_toNat_le]; show _ ≤ 255; omega)]
  show x.toNat ^^^ 255 = 255 - x.toNat
  have h1 : BitVec.ofNat 8 x.toNat ^^^ BitVec.allOnes 8 = ~~~(BitVec.ofNat 8 x.toNat) := BitVec.xor_allOnes
  have h2 := congrArg BitVec.toNat h1
  rw [BitVec.toNat_xor,BitVec.toNat_not,BitVec.toNat_ofNat,BitVec.toNat_allOnes,Nat.mod_eq_of_lt (by omega)] at h2
  simpa using h2
theorem gt_map {α β : Type} [Inhabited α] [Inhabited β] (l : List α) (f : α → β) (j : Nat) (h : j < l.length) : gt (l.map f) j = f (gt l j) := by
  simp [gt,List.getD,List.getElem?_eq_getElem h]
def wI (m : Nat) (x : UInt8) : List UInt8 := (UInt8.ofNat (128 + (le m).length) ^^^ x) :: (be m (le m).length).map (· ^^^ x)
theorem wint_pos (m : Nat) : wint m = wI m 0 := by
  unfold wint wI
  rw [if_pos (by omega),← le_rev]
  simp
theorem wint_neg (m : Nat) (h : (le m).length ≤ 8) : wint (-1 - (m : Int)) = wI m 255 := by
  unfold wint wI
  have e : (-1 - (-1 - (m : Int))).toNat = m := by omega
  rw [if_neg (by omega),e,← le_rev]
  have h2 : UInt8.ofNat (127 - (le m).length) = UInt8.ofNat (128 + (le m).length) ^^^ 255 := by
    generalize (le m).length = k at h
    have key : ∀ k : Fin 9,UInt8.ofNat (127 - k.val) = UInt8.ofNat (128 + k.val) ^^^ 255 := by decide
    exact key ⟨k,by omega⟩
  rw [h2]
  simp only [xor255]
theorem shr_pow (m k : Nat) : m >>> (8 * k) = m / 256 ^ k := by
  rw [Nat.shiftRight_eq_div_pow,Nat.pow_mul]
theorem le_done (m k : Nat) (h : m < 256 ^ k) (h2 : ¬ 0 < k ∨ 0 < m >>> (8 * (k - 1))) : k = (le m).length := by
  refine (le_len_eq k m h ?_).symm
  rcases h2 with h2 | h2
  · left; omega
  · right
    rw [shr_pow] at h2
    have hp : 0 < 256 ^ (k - 1) := Nat.pow_pos (by decide)
    exact (Nat.le_div_iff_mul_le hp).1 h2 |> (by simpa using ·)
theorem le_less (m k : Nat) (_ : 0 < k) (h2 : ¬ 0 < m >>> (8 * (k - 1))) : m < 256 ^ (k - 1) := by
  rw [shr_pow] at h2
  have hp : 0 < 256 ^ (k - 1) := Nat.pow_pos (by decide)
  have : m / 256 ^ (k - 1) = 0 := Nat.eq_zero_of_not_pos h2
  exact (Nat.div_eq_zero_iff_lt hp).1 this
theorem wI_next (m : Nat) (x : UInt8) (a : Nat) (h : a < (le m).length) : ((be m (le m).length).map (· ^^^ x)).take a ++ [UInt8.ofNat (m >>> (8 * ((le m).length - 1 - a))) ^^^ x] = ((be m (le m).length).map (· ^^^ x)).take (a + 1) := by
  have hl : a < ((be m (le m).length).map (· ^^^ x)).length := by simpa [be_len] using h
  rw [take_snoc _ _ hl,gt_map _ _ _ (by rw [be_len]; exact h),be_gt _ _ _ h]
theorem rI_next (l : List UInt8) (f : UInt8 → UInt8) (a : Nat) (h : a < l.length) : (l.reverse.map f).take a ++ [f (gt l (l.length - 1 - a))] = (l.reverse.map f).take (a + 1) := by
  rw [take_snoc _ _ (by simpa using h),gt_map _ _ _ (by simpa using h),gt_rev _ _ h]
theorem rep_snoc {α : Type} (n : Nat) (x : α) : List.replicate n x ++ [x] = List.replicate (n + 1) x := by rw [List.replicate_succ']
theorem app_rep {α : Type} (l : List α) (x y : α) (n t : Nat) : l ++ x :: List.replicate (n - 1 - t) y = (l ++ [x]) ++ List.replicate (n - (t + 1)) y := by
  rw [show n - (t + 1) = n - 1 - t by omega]; simp
theorem take_rep {α : Type} [Inhabited α] (l : List α) (n t : Nat) (y : α) (h : t < l.length) : l.take t ++ gt l t :: List.replicate (n - 1 - t) y = l.take (t + 1) ++ List.replicate (n - (t + 1)) y := by
  rw [app_rep,take_snoc l t h]
end Go.Sx
