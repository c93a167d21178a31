/-
   And what follows.
-/
import Derived.Test.YtmoaeemdlompaaaDoorPao
import Derived.Test.YtmoaeemdlompaaaDoorPam
import Derived.Test.YtmoaeemdlompaaaDoorPan
set_option linter.unusedSimpArgs false
set_option linter.unusedVariables false
namespace Go.Sx
open Go.RowKit
mutual
def bkC (r : Nat → Nat) : C → C
  | .sv b o n => .sv (r b) o n
  | .gv b n s => .gv (r b) n s
  | .bp b o => .bp (r b) o
  | .mp b => .mp (r b)
  | .bt b t n => .bt (r b) t n
  | .sl q n xs => .sl q n (bkCs r xs)
  | .kp xs => .kp (bkCs r xs)
  | .agg xs => .agg (bkCs r xs)
  | .tup xs => .tup (bkCs r xs)
  | .fn f xs => .fn f (bkCs r xs)
  | .top => .top
  | .val v => .val v
def bkCs (r : Nat → Nat) : List C → List C
  | [] => []
  | x :: xs => bkC r x :: bkCs r xs
end
theorem bkCs_map (r : Nat → Nat) : ∀ xs : List C,bkCs r xs = xs.map (bkC r)
  | [] => rfl
  | x :: xs => by simp [bkCs,bkCs_map r xs]
structure BkG (r : Nat → Nat) (A B : Gh) : Prop where
  K : ∀ b o u,A.K b o = some u → B.K b o = some u
  μ : ∀ i k,A.μ i = some k → B.μ (r i) = some k
  σ : ∀ i z,A.σ i = some z → B.σ (r i) = some z
mutual
theorem bkC_rep {r : Nat → Nat} {A B : Gh} (h : BkG r A B) : ∀ (c : C) (v : Value),Rep A c v → Rep B (bkC r c) v
  | .top,_,_ => by simp [bkC,Rep]
  | .val u,v,q => by simpa [bkC,Rep] using q
  | .sl q n xs,v,x => by
    simp only [bkC,Rep] at x ⊢
    obtain ⟨a,cap,h1,h2,h3,h4,h5⟩ := x
    refine ⟨a,cap,h1,h2,h3,h4,?_⟩
    rcases h5 with h5 | ⟨blk,off,ha,hk⟩
    · left; rw [h5]; rfl
    · exact .inr ⟨blk,off,ha,bkC_repK h xs blk off hk⟩
  | .sv b off n,v,x => by
    simp only [bkC,Rep] at x ⊢
    obtain ⟨a,cap,h1,h2,h3,h4⟩ := x
    exact ⟨a,cap,h1,h2,h3,fun hz => by obtain ⟨blk,q1,q2⟩ := h4 hz; exact ⟨blk,h.μ _ _ q1,q2⟩⟩
  | .gv b m s,v,x => by
    simp only [bkC,Rep] at x ⊢
    obtain ⟨a,cap,h1,h2,h3,h4⟩ := x
    refine ⟨a,cap,h1,h2,h3,?_⟩
    rcases h4 with h4 | ⟨blk,q1,q2,q3⟩
    · exact .inl h4
    · exact .inr ⟨blk,h.μ _ _ q1,q2,h.σ _ _ q3⟩
  | .bp b off,v,x => by
    simp only [bkC,Rep] at x ⊢
    obtain ⟨blk,h1,h2⟩ := x
    exact ⟨blk,h.μ _ _ h1,h2⟩
  | .mp b,v,x => by
    simp only [bkC,Rep] at x ⊢
    obtain ⟨blk,h1,h2⟩ := x
    exact ⟨blk,h.μ _ _ h1,h2⟩
  | .bt b t n,v,x => by
    simp only [bkC,Rep] at x ⊢
    obtain ⟨blk,h1,h2,h3⟩ := x
    exact ⟨blk,h.μ _ _ h1,h2,h.σ _ _ h3⟩
  | .kp xs,v,x => by
    simp only [bkC,Rep] at x ⊢
    obtain ⟨blk,off,h1,h2⟩ := x
    exact ⟨blk,off,h1,bkC_repK h xs blk off h2⟩
  | .agg xs,v,x => by
    simp only [bkC,Rep] at x ⊢
    obtain ⟨vs,h1,h2,h3⟩ := x
    exact ⟨vs,h1,bkC_repL h xs _ h2,h3⟩
  | .tup xs,v,x => by
    simp only [bkC,Rep] at x ⊢
    obtain ⟨vs,h1,h2⟩ := x
    exact ⟨vs,h1,bkC_repL h xs _ h2⟩
  | .fn f xs,v,x => by
    simp only [bkC,Rep] at x ⊢
    obtain ⟨vs,h1,h2⟩ := x
    exact ⟨vs,h1,bkC_repL h xs _ h2⟩
theorem bkC_repL {r : Nat → Nat} {A B : Gh} (h : BkG r A B) : ∀ (xs : List C) (vs : List Value),RepL A xs vs → RepL B (bkCs r xs) vs
  | [],vs,q => by simpa [bkCs,RepL] using q
  | x :: xs,vs,q => by
    simp only [bkCs,RepL] at q ⊢
    obtain ⟨v,vs',h1,h2,h3⟩ := q
    exact ⟨v,vs',h1,bkC_rep h x v h2,bkC_repL h xs vs' h3⟩
theorem bkC_repK {r : Nat → Nat} {A B : Gh} (h : BkG r A B) : ∀ (xs : List C) (blk off : Nat),RepK A blk off xs → RepK B blk off (bkCs r xs)
  | [],_,_,_ => by simp [bkCs,RepK]
  | x :: xs,blk,off,q => by
    simp only [bkCs,RepK] at q ⊢
    obtain ⟨⟨u,h1,h2,h3⟩,h4⟩ := q
    exact ⟨⟨u,h.K _ _ _ h1,h2,bkC_rep h x u h3⟩,bkC_repK h xs blk (off + 1) h4⟩
end
theorem bkC_mrep {r : Nat → Nat} {A B : Gh} (h : BkG r A B) : ∀ (l : List C) (es : List MapEntry),MRep A l es → MRep B (bkCs r l) es
  | [],_,q => by simpa [MRep,bkCs] using q
  | [_],_,q => by simp [MRep] at q
  | k :: v :: l,es,q => by
    simp only [MRep,bkCs] at q ⊢
    obtain ⟨e,es',h1,h2,h3,h4⟩ := q
    exact ⟨e,es',h1,bkC_rep h k _ h2,bkC_rep h v _ h3,bkC_mrep h l es' h4⟩
theorem bkC_own {r : Nat → Nat} {c : C} {s m : Nat} {xs : List C} (h : bkC r c = .sl (.own s) m xs) : ∃ ys,c = .sl (.own s) m ys := by
  cases c <;> simp only [bkC] at h <;> cases h
  exact ⟨_,rfl⟩
theorem bkC_isVal {r : Nat → Nat} {c : C} {u : Value} (h : bkC r c = .val u) : c = .val u := by
  cases c <;> simp only [bkC] at h <;> cases h
  rfl
theorem bkC_isTup {r : Nat → Nat} {c : C} {xs : List C} (h : bkC r c = .tup xs) : ∃ ys,c = .tup ys ∧ xs = bkCs r ys := by
  cases c <;> simp only [bkC] at h <;> cases h
  exact ⟨_,rfl,rfl⟩
theorem bk_live {r : Nat → Nat} {o : Option (List C)} {cells : List C} (h : liveC (o.map (bkCs r)) = some cells) : ∃ c0,liveC o = some c0 ∧ cells = bkCs r c0 := by
  have h1 := liveC_some h
  cases o with
  | none => cases h1
  | some c0 =>
    simp only [Option.map_some,Option.some.injEq] at h1
    refine ⟨c0,?_,h1.symm⟩
    subst h1
    cases c0 with
    | nil => rfl
    | cons x l =>
      cases x with
      | tup xs => simp only [Option.map_some,bkCs,bkC] at h; cases h
      | _ => rfl
theorem bk_mpL {r : Nat → Nat} {o : Option (List C)} {l : List C} (h : mpL (o.map (bkCs r)) = some l) : ∃ l0,mpL o = some l0 ∧ l = bkCs r l0 := by
  cases o with
  | none => cases h
  | some c0 => exact mpL_map (Fs := bkCs r) (bkCs_map r) (fun _ _ => bkC_isVal) (fun _ _ => bkC_isTup) h
def bkR (ρ : List Nat) (L : Nat) (i : Nat) : Nat := match ρ[i]? with
  | some b => b
  | none => L + (i - ρ.length)
def bkS (ρ : List Nat) (L : Nat) (b : Nat) : Option Nat := if b < L then loc ρ 0 b else some (ρ.length + (b - L))
def bkH (ρ : List Nat) (H h' : Hp) : Hp :=
  ((List.range H.length).map fun b => match loc ρ 0 b with
    | some i => ((h'[i]?).getD none).map (bkCs (bkR ρ H.length))
    | none => (H[b]?).getD none) ++ (h'.drop ρ.length).map (Option.map (bkCs (bkR ρ H.length)))
section
variable {ρ : List Nat} {H h' : Hp}
theorem bkS_R (hn : ρ.Nodup) (hl : ∀ b ∈ ρ,b < H.length) (i : Nat) : bkS ρ H.length (bkR ρ H.length i) = some i := by
  unfold bkS bkR
  cases hi : ρ[i]? with
  | some b =>
    simp only []
    rw [if_pos (hl b (List.mem_of_getElem? hi)),loc_of hn hi,Nat.zero_add]
  | none =>
    simp only []
    have : ρ.length ≤ i := List.getElem?_eq_none_iff.1 hi
    rw [if_neg (by omega)]
    congr 1; omega
theorem bkR_S {b i : Nat} (h : bkS ρ H.length b = some i) : bkR ρ H.length i = b := by
  unfold bkS at h
  unfold bkR
  split at h
  · have := (loc_some h).2
    rw [Nat.sub_zero] at this
    rw [this]
  · cases h
    rw [List.getElem?_eq_none (by omega)]
    simp only []
    omega
theorem bkH_get (b : Nat) : (bkH ρ H h')[b]? = match bkS ρ H.length b with
    | some i => if b < H.length then some (((h'[i]?).getD none).map (bkCs (bkR ρ H.length))) else (h'[i]?).map (Option.map (bkCs (bkR ρ H.length)))
    | none => H[b]? := by
  unfold bkH bkS
  by_cases hb : b < H.length
  · rw [List.getElem?_append_left (by simpa using hb),List.getElem?_map,List.getElem?_range hb,if_pos hb]
    simp only [Option.map_some]
    cases hl : loc ρ 0 b with
    | some i => simp only [hb,if_true]
    | none => simp only []; rw [List.getElem?_eq_getElem hb]; rfl
  · rw [List.getElem?_append_right (by simp; omega),if_neg hb]
    simp only [List.length_map,List.length_range,List.getElem?_map,List.getElem?_drop,hb,if_false]
theorem bkH_at {b : Nat} {cells : List C} (h : (bkH ρ H h').at b = some cells) : (∃ i c0,bkS ρ H.length b = some i ∧ h'.at i = some c0 ∧ cells = bkCs (bkR ρ H.length) c0) ∨ (bkS ρ H.length b = none ∧ H.at b = some cells) := by
  unfold Hp.at at h
  rw [bkH_get] at h
  cases hs : bkS ρ H.length b with
  | none => rw [hs] at h; exact .inr ⟨rfl,h⟩
  | some i =>
    rw [hs] at h
    left
    have : ∃ o,h'[i]? = some o ∧ liveC (o.map (bkCs (bkR ρ H.length))) = some cells := by
      simp only [] at h
      split at h
      · cases hq : h'[i]? with
        | none => rw [hq] at h; cases h
        | some o => rw [hq] at h; exact ⟨o,rfl,h⟩
      · cases hq : h'[i]? with
        | none => rw [hq] at h; cases h
        | some o => rw [hq] at h; exact ⟨o,rfl,h⟩
    obtain ⟨o,h1,h2⟩ := this
    obtain ⟨c0,h3,h4⟩ := bk_live h2
    exact ⟨i,c0,rfl,by unfold Hp.at; rw [h1]; exact h3,h4⟩
theorem bkH_mp {b : Nat} {l : List C} (h : (bkH ρ H h').mp b = some l) : (∃ i l0,bkS ρ H.length b = some i ∧ h'.mp i = some l0 ∧ l = bkCs (bkR ρ H.length) l0) ∨ (bkS ρ H.length b = none ∧ H.mp b = some l) := by
  unfold Hp.mp at h
  rw [bkH_get] at h
  cases hs : bkS ρ H.length b with
  | none => rw [hs] at h; exact .inr ⟨rfl,h⟩
  | some i =>
    rw [hs] at h
    left
    have : ∃ o,h'[i]? = some o ∧ mpL (o.map (bkCs (bkR ρ H.length))) = some l := by
      simp only [] at h
      split at h
      · cases hq : h'[i]? with
        | none => rw [hq] at h; cases h
        | some o => rw [hq] at h; exact ⟨o,rfl,h⟩
      · cases hq : h'[i]? with
        | none => rw [hq] at h; cases h
        | some o => rw [hq] at h; exact ⟨o,rfl,h⟩
    obtain ⟨o,h1,h2⟩ := this
    obtain ⟨c0,h3,h4⟩ := bk_mpL h2
    exact ⟨i,c0,rfl,by unfold Hp.mp; rw [h1]; exact h3,h4⟩
theorem bkH_some {b i : Nat} {c0 : List C} (hs : bkS ρ H.length b = some i) (h : h'[i]? = some (some c0)) : (bkH ρ H h')[b]? = some (some (bkCs (bkR ρ H.length) c0)) := by
  rw [bkH_get,hs]
  simp only [h]
  split <;> rfl
end
open Classical in
noncomputable def bkG (ρ : List Nat) (L z : Nat) (G G2 : Gh) : Gh where
  K := G2.K
  μ := fun b => match bkS ρ L b with
    | some i => G2.μ i
    | none => G.μ b
  T := fun g => match G2.T g with
    | some p => some (if p.1 = 1 then (1,bkR ρ L p.2.1,p.2.2) else p)
    | none => if g < z ∧ (mvG ρ G).T g = none then G.T g else none
  σ := fun b => match bkS ρ L b with
    | some i => G2.σ i
    | none => G.σ b
theorem FC.frameH {P : Program} {gl : Nat → C} {f : Nat} {args : List C} {c : C} {H h' : Hp} (ρ : List Nat) (hn : ρ.Nodup) (hlive : ∀ b ∈ ρ,(H.at b).isSome = true ∨ (H.mp b).isSome = true)
    (hD : ∀ b,b < H.length → b ∉ ρ → (H.at b).isSome = true ∨ (H.mp b).isSome = true ∨ H[b]? = some none)
    (hf : FC P gl f (mvCs ρ args) (mvH ρ H) c h') (hg : ∀ g,noRef 0 (gl g) = true) :
    FC P gl f args H (bkC (bkR ρ H.length) c) (bkH ρ H h') := by
  obtain ⟨he,hf⟩ := hf
  refine ⟨he,fun G w vs W hTg hgl hr => ?_⟩
  have hl : ∀ b ∈ ρ,b < H.length := fun b hb => by
    rcases hlive b hb with h | h
    · obtain ⟨x,hx⟩ := Option.isSome_iff_exists.1 h; exact Hp.at_lt hx
    · obtain ⟨x,hx⟩ := Option.isSome_iff_exists.1 h; exact Hp.mp_lt hx
  have W1 : WorldOK (mvG ρ G) (mvH ρ H) w := W.mv hn
  have hT1 : ∀ g,G.T g = none → (mvG ρ G).T g = none := fun g h => by simp only [mvG,h]
  have hT1b : ∀ g b o,G.T g = some (1,b,o) → b ∉ ρ → (mvG ρ G).T g = none := fun g b o h hb => by
    simp only [mvG,h,if_true]
    cases hq : loc ρ 0 b with
    | none => rfl
    | some j => have := (loc_some hq).2; exact (hb (List.mem_of_getElem? this)).elim
  refine Calls.mono (hf (mvG ρ G) w vs W1 (fun g p x => by
    simp only [mvG] at x
    cases hq : G.T g with
    | none => rw [hq] at x; cases x
    | some q =>
      rw [hq] at x
      have := hTg g q hq
      simp only [this,if_true] at x
      cases hz : loc ρ 0 q.2.1 with
      | none => rw [hz] at x; cases x
      | some j => rw [hz] at x; cases x; rfl) (fun g => mvC_noRef (hg g) (hgl g)) (mvC_repL _ _ hr)) ?_
  rintro e w' ⟨v,G2,rfl,rv,ro,W2,F⟩
  have hμ1 : ∀ i blk,(mvG ρ G).μ i = some blk → ∃ b,ρ[i]? = some b ∧ G.μ b = some blk := fun i blk x => by
    simp only [mvG] at x
    cases hq : ρ[i]? with
    | none => rw [hq] at x; cases x
    | some q => rw [hq] at x; exact ⟨q,rfl,x⟩
  have hout : ∀ b blk,bkS ρ H.length b = none → G.μ b = some blk → ((H.at b).isSome = true ∨ (H.mp b).isSome = true) ∧ ∀ i,(mvG ρ G).μ i ≠ some blk := fun b blk hs hm => by
    obtain ⟨⟨c1,hc1⟩,_⟩ := W.dom b blk hm
    have hbl := (List.getElem?_eq_some_iff.1 hc1).1
    have hbρ : b ∉ ρ := fun hb => by
      obtain ⟨i,hi⟩ := List.getElem?_of_mem hb
      have := bkS_R (H := H) hn hl i
      unfold bkR at this
      rw [hi] at this
      rw [hs] at this; cases this
    have hlv : (H.at b).isSome = true ∨ (H.mp b).isSome = true := by
      rcases hD b hbl hbρ with h | h | h
      · exact .inl h
      · exact .inr h
      · rw [hc1] at h; cases h
    refine ⟨hlv,fun i hi => ?_⟩
    obtain ⟨q,hq,hqm⟩ := hμ1 i blk hi
    have hqρ := List.mem_of_getElem? hq
    have hne : b ≠ q := fun e => hbρ (e ▸ hqρ)
    rcases hlv with h1 | h1 <;> rcases hlive q hqρ with h2 | h2 <;> obtain ⟨x1,y1⟩ := Option.isSome_iff_exists.1 h1 <;> obtain ⟨x2,y2⟩ := Option.isSome_iff_exists.1 h2
    · exact hne (W.inj b q _ _ blk y1 y2 hm hqm)
    · obtain ⟨k,es,clk,q1,q2,_⟩ := W.mpo q x2 y2
      rw [hqm] at q1; cases q1
      obtain ⟨cs,e,⟨fr,r2,_⟩,_⟩ := W.bx y1 hm
      rw [q2] at r2; cases r2
    · obtain ⟨k,es,clk,q1,q2,_⟩ := W.mpo b x1 y1
      rw [hm] at q1; cases q1
      obtain ⟨cs,e,⟨fr,r2,_⟩,_⟩ := W.bx y2 hqm
      rw [q2] at r2; cases r2
    · exact hne (W.mpi b q _ _ blk y1 y2 hm hqm)
  have hobl : ∀ b blk,bkS ρ H.length b = none → G.μ b = some blk → w'.heap[blk]? = w.heap[blk]? ∧ G2.T blk = none ∧ (∀ i,G2.μ i ≠ some blk) ∧ ∀ o,G2.K blk o = G.K blk o := fun b blk hs hm =>
    F.old blk (W.dom b blk hm).2 (hT1 _ (W.sep b blk hm).2) (hout b blk hs hm).2
  have hμlt : ∀ b blk,G.μ b = some blk → blk < w.heap.size := fun b blk x => (W.dom b blk x).2
  have hrow : ∀ g b o,G.T g = some (1,b,o) → b ∉ ρ → w'.heap[g]? = w.heap[g]? ∧ G2.T g = none ∧ (∀ i,G2.μ i ≠ some g) ∧ ∀ o,G2.K g o = G.K g o := fun g b o hg hb =>
    F.old g (W.tlt g _ hg) (hT1b g b o hg hb) (fun i hi => by
      obtain ⟨q,_,hq⟩ := hμ1 i g hi
      have := (W.sep q g hq).2; rw [hg] at this; cases this)
  have gk : BkG (bkR ρ H.length) G2 (bkG ρ H.length w.heap.size G G2) := ⟨fun _ _ _ x => x,fun i k x => by simp only [bkG,bkS_R hn hl]; exact x,fun i z x => by simp only [bkG,bkS_R hn hl]; exact x⟩
  have le3 : G.Le (bkG ρ H.length w.heap.size G G2) := by
    refine ⟨fun b o u x => F.le.K b o u x,fun b k x => ?_,fun b z x => ?_⟩
    · simp only [bkG]
      cases hs : bkS ρ H.length b with
      | none => exact x
      | some i =>
        simp only []
        have hb := bkR_S hs
        refine F.le.μ i k ?_
        obtain ⟨⟨c1,hc1⟩,_⟩ := W.dom b k x
        have hbl := (List.getElem?_eq_some_iff.1 hc1).1
        simp only [bkS,hbl,if_true] at hs
        have := (loc_some hs).2
        rw [Nat.sub_zero] at this
        simp only [mvG,this]; exact x
    · simp only [bkG]
      cases hs : bkS ρ H.length b with
      | none => exact x
      | some i =>
        simp only []
        refine F.le.σ i z ?_
        obtain ⟨blk,_,_,_,q1,_⟩ := W.siz b z x
        obtain ⟨⟨c1,hc1⟩,_⟩ := W.dom b blk q1
        have hbl := (List.getElem?_eq_some_iff.1 hc1).1
        simp only [bkS,hbl,if_true] at hs
        have := (loc_some hs).2
        rw [Nat.sub_zero] at this
        simp only [mvG,this]; exact x
  have hSρ : ∀ b,bkS ρ H.length b = none → b ∉ ρ := fun b hs hb => by
    obtain ⟨i,hi⟩ := List.getElem?_of_mem hb
    have := bkS_R (H := H) hn hl i
    unfold bkR at this
    rw [hi] at this
    rw [hs] at this; cases this
  have ownI : ∀ (p p' : Place) (u : Value) (s n : Nat),OwnRow G2 w' p u s n → p' = (if p.1 = 1 then (1,bkR ρ H.length p.2.1,p.2.2) else p) → OwnRow (bkG ρ H.length w.heap.size G G2) w' p' u s n := fun p p' u s n O hp => by
    rcases O with O | ⟨g,cap,cur,e,a1,a2,a3,a4,a5,a6⟩
    · exact .inl O
    · refine .inr ⟨g,cap,cur,e,a1,by simp only [bkG,a2]; rw [hp],a3,a4,a5,fun b hb => ?_⟩
      simp only [bkG] at hb
      cases hs : bkS ρ H.length b with
      | some i => rw [hs] at hb; exact a6 i hb
      | none =>
        rw [hs] at hb
        have := (hobl b g hs hb).2.1
        rw [a2] at this; cases this
  refine ⟨v,bkG ρ H.length w.heap.size G G2,rfl,bkC_rep gk c v rv,fun s n xs e => ?_,⟨fun blk off u x => W2.known blk off u x,fun b cells hb => ?_,fun b blk hm => ?_,fun b b' c1 c2 blk hb hb' hm hm' => ?_,fun b blk hm => ?_,fun g p hp => ?_,fun b cells off s n xs blk u hb hc hm hv => ?_,fun b z hz => ?_,fun b l hb => ?_,fun b b' l l' blk hb hb' hm hm' => ?_⟩,F.os,F.tape,F.output,F.size,le3,fun g hg' ht hm => ?_⟩
  · obtain ⟨ys,hy⟩ := bkC_own e
    exact ownI _ _ v s n (ro s n ys hy) rfl
  · rcases bkH_at hb with ⟨i,c0,hs,h1,rfl⟩ | ⟨hs,h1⟩
    · rcases W2.box i c0 h1 with ⟨hE,hE2⟩ | ⟨blk,cs,e,q1,q2,q3,q4,q5⟩
      · exact .inl ⟨by rw [hE]; rfl,by simp only [bkG,hs]; exact hE2⟩
      · have hlen : (bkCs (bkR ρ H.length) c0).length = c0.length := by rw [bkCs_map]; simp
        exact .inr ⟨blk,cs,e,by simp only [bkG,hs]; exact q1,q2,by rw [hlen]; exact q3,by rw [hlen]; exact bkC_repL gk _ _ q4,q5⟩
    · rcases W.box b cells h1 with ⟨hE,hE2⟩ | ⟨blk,cs,e,q1,q2,q3,q4,q5⟩
      · exact .inl ⟨hE,by simp only [bkG,hs]; exact hE2⟩
      · exact .inr ⟨blk,cs,e,by simp only [bkG,hs]; exact q1,by rw [(hobl b blk hs q1).1]; exact q2,q3,q4.mono le3,q5⟩
  · simp only [bkG] at hm
    cases hs : bkS ρ H.length b with
    | some i =>
      rw [hs] at hm
      obtain ⟨⟨c1,hc1⟩,hlt⟩ := W2.dom i blk hm
      exact ⟨⟨_,bkH_some hs hc1⟩,hlt⟩
    | none =>
      rw [hs] at hm
      obtain ⟨⟨c1,hc1⟩,hlt⟩ := W.dom b blk hm
      exact ⟨⟨c1,by rw [bkH_get,hs]; exact hc1⟩,Nat.lt_of_lt_of_le hlt F.size⟩
  · simp only [bkG] at hm hm'
    rcases bkH_at hb with ⟨i,c0,hs,h1,_⟩ | ⟨hs,h1⟩ <;> rcases bkH_at hb' with ⟨i',c0',hs',h1',_⟩ | ⟨hs',h1'⟩
    · rw [hs] at hm
      rw [hs'] at hm'
      have := W2.inj i i' _ _ blk h1 h1' hm hm'
      subst this
      rw [← bkR_S hs,← bkR_S hs']
    · rw [hs] at hm
      rw [hs'] at hm'
      exact ((hobl b' blk hs' hm').2.2.1 i hm).elim
    · rw [hs] at hm
      rw [hs'] at hm'
      exact ((hobl b blk hs hm).2.2.1 i' hm').elim
    · rw [hs] at hm
      rw [hs'] at hm'
      exact W.inj b b' _ _ blk h1 h1' hm hm'
  · simp only [bkG] at hm
    cases hs : bkS ρ H.length b with
    | some i =>
      rw [hs] at hm
      obtain ⟨s1,s2⟩ := W2.sep i blk hm
      refine ⟨s1,?_⟩
      simp only [bkG,s2]
      split
      · rename_i hc
        cases hq : G.T blk with
        | none => rfl
        | some p =>
          have hp1 := hTg blk p hq
          obtain ⟨p1,pb,po⟩ := p
          simp only at hp1
          subst hp1
          have hpb : pb ∉ ρ := fun hb => by
            obtain ⟨j,hj⟩ := List.getElem?_of_mem hb
            have h1 := hc.2
            simp only [mvG,hq,if_true,loc_of (k := 0) hn hj] at h1
            cases h1
          exact ((hrow blk pb po hq hpb).2.2.1 i hm).elim
      · rfl
    | none =>
      rw [hs] at hm
      obtain ⟨s1,s2⟩ := W.sep b blk hm
      obtain ⟨o1,o2,o3,o4⟩ := hobl b blk hs hm
      refine ⟨fun o => (o4 o).trans (s1 o),?_⟩
      simp only [bkG,o2,s2]
      split <;> rfl
  · simp only [bkG] at hp
    cases hq : G2.T g with
    | some p2 => exact W2.tlt g p2 hq
    | none =>
      rw [hq] at hp
      simp only [] at hp
      split at hp
      · exact Nat.lt_of_lt_of_le (W.tlt g p hp) F.size
      · cases hp
  · simp only [bkG] at hm
    rcases bkH_at hb with ⟨i,c0,hs,h1,rfl⟩ | ⟨hs,h1⟩
    · rw [hs] at hm
      rw [bkCs_map,List.getElem?_map] at hc
      cases hq : c0[off]? with
      | none => rw [hq] at hc; cases hc
      | some y =>
        rw [hq] at hc
        simp only [Option.map_some,Option.some.injEq] at hc
        obtain ⟨ys,rfl⟩ := bkC_own hc
        refine ownI _ _ u s n (W2.own i c0 off s n ys blk u h1 hq hm hv) ?_
        rw [if_pos rfl,bkR_S hs]
    · rw [hs] at hm
      have hcell : w'.cell? ⟨blk,off,none⟩ = w.cell? ⟨blk,off,none⟩ := by
        unfold World.cell?; rw [(hobl b blk hs hm).1]
      rcases W.own b cells off s n xs blk u h1 hc hm (by rw [← hcell]; exact hv) with O | ⟨g,cap,cur,e,a1,a2,a3,a4,a5,a6⟩
      · exact .inl O
      · have hbρ := hSρ b hs
        obtain ⟨o1,o2,o3,o4⟩ := hrow g b off a2 hbρ
        refine .inr ⟨g,cap,cur,e,a1,?_,o1.trans a3,a4,fun o ho => (o4 o).trans (a5 o ho),fun b' hb' => ?_⟩
        · simp only [bkG,o2]
          rw [if_pos ⟨W.tlt g _ a2,hT1b g b off a2 hbρ⟩]; exact a2
        · simp only [bkG] at hb'
          cases hs' : bkS ρ H.length b' with
          | some i => rw [hs'] at hb'; exact o3 i hb'
          | none => rw [hs'] at hb'; exact a6 b' hb'
  · simp only [bkG] at hz ⊢
    cases hs : bkS ρ H.length b with
    | some i =>
      rw [hs] at hz
      exact W2.siz i z hz
    | none =>
      rw [hs] at hz
      obtain ⟨blk,cs,e,fr,q1,q2,q3⟩ := W.siz b z hz
      exact ⟨blk,cs,e,fr,q1,(hobl b blk hs q1).1.trans q2,q3⟩
  · rcases bkH_mp hb with ⟨i,l0,hs,h1,rfl⟩ | ⟨hs,h1⟩
    · obtain ⟨blk,es,clk,q1,q2,q3⟩ := W2.mpo i l0 h1
      exact ⟨blk,es,clk,by simp only [bkG,hs]; exact q1,q2,bkC_mrep gk _ _ q3⟩
    · obtain ⟨blk,es,clk,q1,q2,q3⟩ := W.mpo b l h1
      exact ⟨blk,es,clk,by simp only [bkG,hs]; exact q1,(hobl b blk hs q1).1.trans q2,q3.mono le3⟩
  · simp only [bkG] at hm hm'
    rcases bkH_mp hb with ⟨i,c0,hs,h1,_⟩ | ⟨hs,h1⟩ <;> rcases bkH_mp hb' with ⟨i',c0',hs',h1',_⟩ | ⟨hs',h1'⟩
    · rw [hs] at hm
      rw [hs'] at hm'
      have := W2.mpi i i' _ _ blk h1 h1' hm hm'
      subst this
      rw [← bkR_S hs,← bkR_S hs']
    · rw [hs] at hm
      rw [hs'] at hm'
      exact ((hobl b' blk hs' hm').2.2.1 i hm).elim
    · rw [hs] at hm
      rw [hs'] at hm'
      exact ((hobl b blk hs hm).2.2.1 i' hm').elim
    · rw [hs] at hm
      rw [hs'] at hm'
      exact W.mpi b b' _ _ blk h1 h1' hm hm'
  · obtain ⟨o1,o2,o3,o4⟩ := F.old g hg' (hT1 g ht) (fun i hi => by obtain ⟨q,_,hq⟩ := hμ1 i g hi; exact hm q hq)
    refine ⟨o1,?_,fun b hb => ?_,o4⟩
    · simp only [bkG,o2,ht]; split <;> rfl
    · simp only [bkG] at hb
      cases hs : bkS ρ H.length b with
      | some i => rw [hs] at hb; exact o3 i hb
      | none => rw [hs] at hb; exact hm b hb
end Go.Sx
namespace Go.Sx
open Go.RowKit
theorem loc_range' (n : Nat) : ∀ (k s b : Nat),loc (List.range' n k) s b = if n ≤ b ∧ b < n + k then some (s + (b - n)) else none
  | 0,s,b => by
    rw [if_neg (by omega)]; rfl
  | k + 1,s,b => by
    rw [List.range'_succ]
    simp only [loc]
    by_cases h : b = n
    · rw [if_pos h,if_pos (by omega)]; congr 1; omega
    · rw [if_neg h,loc_range' (n + 1) k (s + 1) b]
      by_cases h2 : n ≤ b ∧ b < n + (k + 1)
      · rw [if_pos (by omega),if_pos h2]; congr 1; omega
      · rw [if_neg (by omega),if_neg h2]
section
variable {n k : Nat}
theorem loc_sh {b : Nat} (h : b < k) : loc (List.range' n k) 0 (n + b) = some b := by
  rw [loc_range',if_pos (by omega)]; congr 1; omega
mutual
theorem mv_bk : ∀ c : C,noRef k c = true → mvC (List.range' n k) (bkC (n + ·) c) = c
  | .top,_ => by simp only [bkC,mvC]
  | .val v,_ => by simp only [bkC,mvC]
  | .sv b o m,h => by simp only [noRef,decide_eq_true_eq] at h; simp only [bkC,mvC,loc_sh h]
  | .gv b m s,h => by simp only [noRef,decide_eq_true_eq] at h; simp only [bkC,mvC,loc_sh h]
  | .bp b o,h => by simp only [noRef,decide_eq_true_eq] at h; simp only [bkC,mvC,loc_sh h]
  | .mp b,h => by simp only [noRef,decide_eq_true_eq] at h; simp only [bkC,mvC,loc_sh h]
  | .bt b t m,h => by simp only [noRef,decide_eq_true_eq] at h; simp only [bkC,mvC,loc_sh h]
  | .sl r m xs,h => by simp only [noRef] at h; simp only [bkC,mvC,mv_bks xs h]
  | .kp xs,h => by simp only [noRef] at h; simp only [bkC,mvC,mv_bks xs h]
  | .agg xs,h => by simp only [noRef] at h; simp only [bkC,mvC,mv_bks xs h]
  | .tup xs,h => by simp only [noRef] at h; simp only [bkC,mvC,mv_bks xs h]
  | .fn f xs,h => by simp only [noRef] at h; simp only [bkC,mvC,mv_bks xs h]
theorem mv_bks : ∀ l : List C,noRefs k l = true → mvCs (List.range' n k) (bkCs (n + ·) l) = l
  | [],_ => by simp only [bkCs,mvCs]
  | x :: l,h => by
    simp only [noRefs,Bool.and_eq_true] at h
    simp only [bkCs,mvCs,mv_bk x h.1,mv_bks l h.2]
end
end
def shH (n : Nat) (h : Hp) : Hp := h.map (Option.map (bkCs (n + ·)))
def okBox (o : Option (List C)) : Bool := (liveC o).isSome || (mpL o).isSome || o.isNone
theorem shH_nil (n : Nat) : shH n [] = [] := rfl
theorem shH_cons (n : Nat) (o : Option (List C)) (h : Hp) : shH n (o :: h) = o.map (bkCs (n + ·)) :: shH n h := rfl
theorem live_bk {r : Nat → Nat} {o : Option (List C)} (h : (liveC o).isSome = true) : (liveC (o.map (bkCs r))).isSome = true := by
  cases o with
  | none => exact h
  | some cells =>
    cases cells with
    | nil => rfl
    | cons c l => cases c <;> first | rfl | (simp only [liveC] at h; cases h)
theorem mp_bk {r : Nat → Nat} {o : Option (List C)} (h : (mpL o).isSome = true) : (mpL (o.map (bkCs r))).isSome = true := by
  obtain ⟨l,hl⟩ := Option.isSome_iff_exists.1 h
  unfold mpL at hl
  split at hl
  · cases hl; rfl
  · cases hl
theorem FC.pre {P : Program} {gl : Nat → C} {f : Nat} {args : List C} {c : C} {X h' : Hp} (hf : FC P gl f args X c h') (pre : Hp) (hpre : ∀ o ∈ pre,okBox o = true) (hX : ∀ o ∈ X,((liveC o).isSome || (mpL o).isSome) = true)
    (hn : noRefs X.length args = true) (hnX : ∀ o ∈ X,∀ cells,o = some cells → noRefs X.length cells = true) (hk : X.length ≤ h'.length) (hg : ∀ g,noRef 0 (gl g) = true) :
    FC P gl f (bkCs (pre.length + ·) args) (pre ++ shH pre.length X) (bkC (pre.length + ·) c) (pre ++ shH pre.length h') := by
  have hρl : (List.range' pre.length X.length).length = X.length := by simp
  have hHl : (pre ++ shH pre.length X).length = pre.length + X.length := by simp [shH]
  have hget : ∀ i,(pre ++ shH pre.length X)[pre.length + i]? = (X[i]?).map (Option.map (bkCs (pre.length + ·))) := fun i => by
    rw [List.getElem?_append_right (by omega)]
    unfold shH
    rw [List.getElem?_map,show pre.length + i - pre.length = i by omega]
  have hmv : mvH (List.range' pre.length X.length) (pre ++ shH pre.length X) = X := by
    unfold mvH
    apply List.ext_getElem?
    intro i
    rw [List.getElem?_map]
    by_cases hi : i < X.length
    · rw [List.getElem?_range' hi,Option.map_some,Nat.one_mul,hget]
      rw [List.getElem?_eq_getElem hi]
      simp only [Option.map_some,Option.getD_some]
      congr 1
      cases hx : X[i] with
      | none => rfl
      | some cells =>
        simp only [Option.map_some]
        congr 1
        exact mv_bks cells (hnX _ (List.getElem_mem hi) cells hx)
    · rw [List.getElem?_eq_none (by rw [hρl]; omega),List.getElem?_eq_none (by omega)]; rfl
  have hR : bkR (List.range' pre.length X.length) (pre ++ shH pre.length X).length = (pre.length + ·) := by
    funext i
    unfold bkR
    by_cases hi : i < X.length
    · rw [List.getElem?_range' hi]; simp
    · rw [List.getElem?_eq_none (by rw [hρl]; omega)]
      simp only [hρl,hHl]
      omega
  have := FC.frameH (P := P) (gl := gl) (f := f) (args := bkCs (pre.length + ·) args) (c := c) (H := pre ++ shH pre.length X) (h' := h') (List.range' pre.length X.length) List.nodup_range' (fun b hb => by
      obtain ⟨h1,h2⟩ := List.mem_range'_1.1 hb
      obtain ⟨i,rfl⟩ : ∃ i,b = pre.length + i := ⟨b - pre.length,by omega⟩
      have hi : i < X.length := by omega
      have h3 := hX _ (List.getElem_mem hi)
      simp only [Bool.or_eq_true] at h3
      unfold Hp.at Hp.mp
      rw [hget,List.getElem?_eq_getElem hi]
      exact h3.imp (fun h => live_bk h) (fun h => mp_bk h))
    (fun b hb hnb => by
      rw [hHl] at hb
      have hlt : b < pre.length := by
        rcases Nat.lt_or_ge b pre.length with h | h
        · exact h
        · exact (hnb (List.mem_range'_1.2 ⟨h,by omega⟩)).elim
      have h3 := hpre _ (List.getElem_mem hlt)
      unfold Hp.at Hp.mp
      rw [List.getElem?_append_left hlt,List.getElem?_eq_getElem hlt]
      simp only [okBox,Bool.or_eq_true] at h3
      rcases h3 with (h | h) | h
      · exact .inl h
      · exact .inr (.inl h)
      · exact .inr (.inr (by congr 1; exact Option.isNone_iff_eq_none.1 h)))
    (by rw [hmv,mv_bks args hn]; exact hf) hg
  rw [hR] at this
  have hH : bkH (List.range' pre.length X.length) (pre ++ shH pre.length X) h' = pre ++ shH pre.length h' := by
    have hS : bkH (List.range' pre.length X.length) (pre ++ shH pre.length X) h' = ((List.range (pre.length + X.length)).map fun b => match loc (List.range' pre.length X.length) 0 b with
      | some i => ((h'[i]?).getD none).map (bkCs (pre.length + ·))
      | none => ((pre ++ shH pre.length X)[b]?).getD none) ++ (h'.drop X.length).map (Option.map (bkCs (pre.length + ·))) := by
      unfold bkH; rw [hR,hHl,hρl] <;> rfl
    rw [hS,List.range_add,List.map_append,List.append_assoc]
    congr 1
    · apply List.ext_getElem?
      intro i
      rw [List.getElem?_map]
      by_cases hi : i < pre.length
      · rw [List.getElem?_range hi,Option.map_some,loc_range',if_neg (by omega)]
        simp only []
        rw [List.getElem?_append_left hi,List.getElem?_eq_getElem hi]; rfl
      · rw [List.getElem?_eq_none (by simp; omega),List.getElem?_eq_none (by omega)]; rfl
    · unfold shH
      rw [List.map_map]
      conv => rhs; rw [← List.take_append_drop X.length h',List.map_append]
      congr 1
      apply List.ext_getElem?
      intro i
      rw [List.getElem?_map,List.getElem?_map,List.getElem?_take]
      by_cases hi : i < X.length
      · rw [List.getElem?_range hi,if_pos hi,List.getElem?_eq_getElem (by omega)]
        simp only [Option.map_some,Function.comp,loc_sh hi]
        rw [List.getElem?_eq_getElem (by omega)]; rfl
      · rw [List.getElem?_eq_none (by simp; omega),if_neg hi]; rfl
  rw [hH] at this
  exact this
theorem FC.never {P : Program} {gl : Nat → C} {f : Nat} {args : List C} {c : C} {h' : Hp} (he : Entered P f) (b t n : Nat) (l : List C) (ha : args = .bt b t n :: l) : FC P gl f args [] c h' := by
  refine ⟨he,fun G w vs W _ _ hr => ?_⟩
  subst ha
  simp only [RepL,Rep] at hr
  obtain ⟨v,vs',_,⟨blk,h1,_⟩,_⟩ := hr
  obtain ⟨⟨c,hc⟩,_⟩ := W.dom b blk h1
  cases hc
end Go.Sx
namespace Go.Sx
open Go.RowKit
def svG (s y : Nat) (z : List Value) (n o m : Nat) (c : Option (List C)) : Option (List C) := c.bind fun cells =>
  if o + m * s ≤ cells.length ∧ decide ((((cells.drop o).take (m * s)).map C.noR).length = m * s ∧ 0 < s ∧ z.length = s ∧ (n + m) * y ≤ 140737488355328 ∧ n + m ≤ 9223372036854775807 ∧ z.all (·.oneCell') = true) = true then some (((cells.drop o).take (m * s)).map C.noR) else none
theorem gwQ_gvsv (e : Nat) (u : TypeDesc) (s y : Nat) (z : List Value) (b' n b o m : Nat) : gwQ e (some ⟨u,s,y,z⟩) (.gv b' n (s,e)) (.sv b o m) = some (.ap (some (b',n)) (s,e) m fun h => svG s y z n o m (h.at b)) := by
  unfold gwQ
  simp only [if_true]
  rfl
attribute [go_sem] gwQ_gvsv
end Go.Sx
namespace Go.Sx
open Go.RowKit
def midR (n k s : Nat) (i : Nat) : Nat := if i < k then n + i else n + s + i
theorem FC.mid {P : Program} {gl : Nat → C} {f : Nat} {args : List C} {c : C} {X h' : Hp} (hf : FC P gl f args X c h') (pre suf : Hp) (hpre : ∀ o ∈ pre,okBox o = true) (hsuf : ∀ o ∈ suf,okBox o = true) (hX : ∀ o ∈ X,((liveC o).isSome || (mpL o).isSome) = true)
    (hn : noRefs X.length args = true) (hnX : ∀ o ∈ X,∀ cells,o = some cells → noRefs X.length cells = true) (hk : X.length ≤ h'.length) (hg : ∀ g,noRef 0 (gl g) = true) :
    FC P gl f (bkCs (pre.length + ·) args) (pre ++ (shH pre.length X ++ suf)) (bkC (midR pre.length X.length suf.length) c)
      (pre ++ ((h'.take X.length).map (Option.map (bkCs (midR pre.length X.length suf.length))) ++ (suf ++ (h'.drop X.length).map (Option.map (bkCs (midR pre.length X.length suf.length)))))) := by
  have hρl : (List.range' pre.length X.length).length = X.length := by simp
  have hHl : (pre ++ (shH pre.length X ++ suf)).length = pre.length + (X.length + suf.length) := by simp [shH]
  have hget : ∀ i,i < X.length → (pre ++ (shH pre.length X ++ suf))[pre.length + i]? = (X[i]?).map (Option.map (bkCs (pre.length + ·))) := fun i hi => by
    rw [List.getElem?_append_right (by omega),show pre.length + i - pre.length = i by omega,List.getElem?_append_left (by simp [shH]; omega)]
    unfold shH
    rw [List.getElem?_map]
  have hmv : mvH (List.range' pre.length X.length) (pre ++ (shH pre.length X ++ suf)) = X := by
    unfold mvH
    apply List.ext_getElem?
    intro i
    rw [List.getElem?_map]
    by_cases hi : i < X.length
    · rw [List.getElem?_range' hi,Option.map_some,Nat.one_mul,hget i hi]
      rw [List.getElem?_eq_getElem hi]
      simp only [Option.map_some,Option.getD_some]
      congr 1
      cases hx : X[i] with
      | none => rfl
      | some cells =>
        simp only [Option.map_some]
        congr 1
        exact mv_bks cells (hnX _ (List.getElem_mem hi) cells hx)
    · rw [List.getElem?_eq_none (by rw [hρl]; omega),List.getElem?_eq_none (by omega)]; rfl
  have hR : bkR (List.range' pre.length X.length) (pre ++ (shH pre.length X ++ suf)).length = midR pre.length X.length suf.length := by
    funext i
    unfold bkR midR
    by_cases hi : i < X.length
    · rw [List.getElem?_range' hi,if_pos hi]; simp
    · rw [List.getElem?_eq_none (by rw [hρl]; omega),if_neg hi]
      simp only [hρl,hHl]
      omega
  have := FC.frameH (P := P) (gl := gl) (f := f) (args := bkCs (pre.length + ·) args) (c := c) (H := pre ++ (shH pre.length X ++ suf)) (h' := h') (List.range' pre.length X.length) List.nodup_range' (fun b hb => by
      obtain ⟨h1,h2⟩ := List.mem_range'_1.1 hb
      obtain ⟨i,rfl⟩ : ∃ i,b = pre.length + i := ⟨b - pre.length,by omega⟩
      have hi : i < X.length := by omega
      have h3 := hX _ (List.getElem_mem hi)
      simp only [Bool.or_eq_true] at h3
      unfold Hp.at Hp.mp
      rw [hget i hi,List.getElem?_eq_getElem hi]
      exact h3.imp (fun h => live_bk h) (fun h => mp_bk h))
    (fun b hb hnb => by
      rw [hHl] at hb
      have key : ∃ o,(pre ++ (shH pre.length X ++ suf))[b]? = some o ∧ okBox o = true := by
        rcases Nat.lt_or_ge b pre.length with h | h
        · exact ⟨_,by rw [List.getElem?_append_left h,List.getElem?_eq_getElem h],hpre _ (List.getElem_mem h)⟩
        · have h2 : pre.length + X.length ≤ b := by
            rcases Nat.lt_or_ge b (pre.length + X.length) with h2 | h2
            · exact (hnb (List.mem_range'_1.2 ⟨h,h2⟩)).elim
            · exact h2
          have h3 : b - pre.length - X.length < suf.length := by omega
          refine ⟨suf[b - pre.length - X.length],?_,hsuf _ (List.getElem_mem h3)⟩
          rw [List.getElem?_append_right h,List.getElem?_append_right (by simp [shH]; omega)]
          rw [show (shH pre.length X).length = X.length by simp [shH],List.getElem?_eq_getElem h3]
      obtain ⟨o,ho,h3⟩ := key
      unfold Hp.at Hp.mp
      rw [ho]
      simp only [okBox,Bool.or_eq_true] at h3
      rcases h3 with (h | h) | h
      · exact .inl h
      · exact .inr (.inl h)
      · exact .inr (.inr (by congr 1; exact Option.isNone_iff_eq_none.1 h)))
    (by rw [hmv,mv_bks args hn]; exact hf) hg
  rw [hR] at this
  have hH : bkH (List.range' pre.length X.length) (pre ++ (shH pre.length X ++ suf)) h' = pre ++ ((h'.take X.length).map (Option.map (bkCs (midR pre.length X.length suf.length))) ++ (suf ++ (h'.drop X.length).map (Option.map (bkCs (midR pre.length X.length suf.length))))) := by
    have hS : bkH (List.range' pre.length X.length) (pre ++ (shH pre.length X ++ suf)) h' = ((List.range (pre.length + (X.length + suf.length))).map fun b => match loc (List.range' pre.length X.length) 0 b with
      | some i => ((h'[i]?).getD none).map (bkCs (midR pre.length X.length suf.length))
      | none => ((pre ++ (shH pre.length X ++ suf))[b]?).getD none) ++ (h'.drop X.length).map (Option.map (bkCs (midR pre.length X.length suf.length))) := by
      unfold bkH; rw [hR,hHl,hρl] <;> rfl
    rw [hS,List.range_add,List.range_add,List.map_append,List.map_append,List.map_append,List.append_assoc,List.append_assoc]
    congr 1
    · apply List.ext_getElem?
      intro i
      rw [List.getElem?_map]
      by_cases hi : i < pre.length
      · rw [List.getElem?_range hi,Option.map_some,loc_range',if_neg (by omega)]
        simp only []
        rw [List.getElem?_append_left hi,List.getElem?_eq_getElem hi]; rfl
      · rw [List.getElem?_eq_none (by simp; omega),List.getElem?_eq_none (by omega)]; rfl
    · congr 1
      · apply List.ext_getElem?
        intro i
        rw [List.map_map,List.getElem?_map,List.getElem?_map,List.getElem?_take]
        by_cases hi : i < X.length
        · rw [List.getElem?_range hi,if_pos hi,List.getElem?_eq_getElem (by omega)]
          simp only [Option.map_some,Function.comp,loc_sh hi]
          rw [List.getElem?_eq_getElem (by omega)]; rfl
        · rw [List.getElem?_eq_none (by simp; omega),if_neg hi]; rfl
      · congr 1
        apply List.ext_getElem?
        intro i
        rw [List.map_map,List.map_map,List.getElem?_map]
        by_cases hi : i < suf.length
        · rw [List.getElem?_range hi]
          simp only [Option.map_some,Function.comp]
          rw [loc_range',if_neg (by omega)]
          simp only []
          rw [List.getElem?_append_right (by omega),List.getElem?_append_right (by simp [shH] <;> omega)]
          rw [show pre.length + (X.length + i) - pre.length - (shH pre.length X).length = i by simp [shH] <;> omega,List.getElem?_eq_getElem hi]; rfl
        · rw [List.getElem?_eq_none (by simp; omega),List.getElem?_eq_none (by omega)]; rfl
  rw [hH] at this
  exact this
end Go.Sx
namespace Go.Sx
open Go.RowKit
def EndsT (cx : Cx) (rs : List ResultVar) (c : C) (k : Nat) (h' : Hp) : Ex → St → Prop
  | .exit _,_ => False
  | _,st => resL cx st rs = some c ∧ st.h.take k = h'
theorem EndsT_r (cx : Cx) (rs : List ResultVar) (c : C) (k : Nat) (h' : Hp) (st : St) : EndsT cx rs c k h' .ret st = (resL cx st rs = some c ∧ st.h.take k = h') := rfl
theorem EndsT_n (cx : Cx) (rs : List ResultVar) (c : C) (k : Nat) (h' : Hp) (st : St) : EndsT cx rs c k h' .normal st = (resL cx st rs = some c ∧ st.h.take k = h') := rfl
def nrH (k : Nat) : Hp → Bool
  | [] => true
  | none :: l => nrH k l
  | some cells :: l => noRefs k cells && nrH k l
theorem nrH_get (k : Nat) : ∀ (h : Hp),nrH k h = true → ∀ (b : Nat) (cells : List C),h[b]? = some (some cells) → noRefs k cells = true
  | [],_,b,cells,hb => by simp at hb
  | o :: l,h,0,cells,hb => by
    simp at hb; subst hb
    simp only [nrH,Bool.and_eq_true] at h; exact h.1
  | o :: l,h,b + 1,cells,hb => by
    refine nrH_get k l ?_ b cells (by simpa using hb)
    cases o with
    | none => exact h
    | some c => simp only [nrH,Bool.and_eq_true] at h; exact h.2
theorem nrH_nil (k : Nat) : nrH k [] = true := rfl
theorem nrH_some (k : Nat) (cells : List C) (l : Hp) : nrH k (some cells :: l) = (noRefs k cells && nrH k l) := rfl
theorem nrH_mem {k : Nat} {h : Hp} (hh : nrH k h = true) : ∀ o ∈ h,∀ cells,o = some cells → noRefs k cells = true := fun o ho cells e => by
  subst e
  obtain ⟨b,hb⟩ := List.getElem?_of_mem ho
  exact nrH_get k h hh b cells hb
theorem FC.ofT {cx : Cx} {f : Nat} {fn : Func} {code : Code} {args : List C} {h h' : Hp} {c : C} {rs : List ResultVar} (hN : cx.N = fn.ntmps) (hf : cx.P.funcs[f]? = some fn) (hn : (fn.name == "runtime.NumGoroutine") = false) (hb : fn.body = some code)
    (hrs : fn.results = rs.toArray) (hlen : args.length ≤ fn.ntmps) (hc : noRef h.length c = true) (hh : nrH h.length h' = true) (hT : Tr cx h.length code ⟨A (ini 0 args),h⟩ (EndsT cx rs c h.length h')) : FC cx.P cx.gl f args h c h' := by
  refine FC.of hN hf hn hb hlen ?_
  refine Tr.weaken (fun t => CLe.init args t) (hT.mono fun x st q => ?_)
  have key : resL cx st rs = some c ∧ st.h.take h.length = h' → results cx fn st = some c ∧ ((st.h.take h.length = h' ∧ noRef h.length c = true ∧ ∀ (b : Nat) cells,b < h.length → st.h[b]? = some (some cells) → noRefs h.length cells = true) ∨ st.h = h') := fun q => by
    refine ⟨?_,.inl ⟨q.2,hc,fun b cells hb hx => nrH_get _ _ hh b cells ?_⟩⟩
    · rw [← q.1]
      unfold results
      rw [hrs]
      rcases rs with _ | ⟨r,_ | ⟨r2,rs⟩⟩ <;> rfl
    · rw [← q.2,List.getElem?_take,if_pos hb]; exact hx
  cases x with
  | exit k => exact q
  | normal => exact key q
  | ret => exact key q
attribute [go_sem] EndsT_r EndsT_n nrH_nil nrH_some
end Go.Sx
namespace Go.Sx
open Go.RowKit
section
variable {cx : Cx} {n : Nat} {st : St} {Q : Ex → St → Prop} {G : Gh} {w : World} {h : Hp} {b : Nat} {cells : List C}
mutual
theorem fzC_repY (H : WorldOK G h w) (hb : h.at b = some cells) {ys : List C} (hys : ∀ blk,G.μ b = some blk → RepK (fzG G w b cells.length) blk 0 ys) : ∀ (c : C) (v : Value),Rep G c v → Rep (fzG G w b cells.length) (fzC (okF h b) b ys c) v
  | .top,_,_ => by simp [fzC,Rep]
  | .val u,v,r => by simpa [fzC,Rep] using r
  | .sl r n xs,v,x => by
    simp only [fzC,Rep] at x ⊢
    obtain ⟨a,cap,h1,h2,h3,h4,h5⟩ := x
    refine ⟨a,cap,h1,h2,h3,h4,?_⟩
    rcases h5 with h5 | ⟨blk,off,ha,hk⟩
    · left; rw [h5]; rfl
    · exact .inr ⟨blk,off,ha,fzC_repKY H hb hys xs blk off hk⟩
  | .sv b' off n,v,x => by
    simp only [fzC]
    split
    · rename_i e
      subst e
      split
      · rename_i hle
        simp only [Rep] at x ⊢
        obtain ⟨a,cap,h1,h2,h3,h4⟩ := x
        refine ⟨a,cap,h1,h2,h3,by simp,?_⟩
        by_cases hn : n = 0
        · left; subst hn; simp
        · right
          obtain ⟨blk,q1,q2⟩ := h4 hn
          refine ⟨blk,off,q2,?_⟩
          have := (hys _ q1).drop off
          rw [Nat.zero_add] at this
          exact this.take n
      · simp [Rep]
    · split
      · rename_i hok
        simp only [Rep] at x ⊢
        obtain ⟨a,cap,h1,h2,h3,h4⟩ := x
        exact ⟨a,cap,h1,h2,h3,fun hz => by obtain ⟨blk,q1,q2⟩ := h4 hz; exact ⟨blk,fz_μ H hb hok q1,q2⟩⟩
      · simp [Rep]
  | .gv b' m s,v,x => by
    simp only [fzC]
    split
    · rename_i e
      subst e
      split
      · rename_i hle
        simp only [Rep] at x ⊢
        obtain ⟨a,cap,h1,h2,h3,h4⟩ := x
        refine ⟨a,cap,h1,h2,h3,by simp,?_⟩
        rcases h4 with ⟨rfl,_⟩ | ⟨blk,q1,q2,q3⟩
        · left; simp
        · right
          exact ⟨blk,0,q2,(hys _ q1).take _⟩
      · simp [Rep]
    · split
      · rename_i hok
        simp only [Rep] at x ⊢
        obtain ⟨a,cap,h1,h2,h3,h4⟩ := x
        refine ⟨a,cap,h1,h2,h3,?_⟩
        rcases h4 with h4 | ⟨blk,q1,q2,q3⟩
        · exact .inl h4
        · exact .inr ⟨blk,fz_μ H hb hok q1,q2,fz_σ H hb hok q3⟩
      · simp [Rep]
  | .mp b',v,x => by
    simp only [fzC]
    split
    · simp [Rep]
    · split
      · rename_i hok
        simp only [Rep] at x ⊢
        obtain ⟨blk,h1,h2⟩ := x
        exact ⟨blk,fz_μ H hb hok h1,h2⟩
      · simp [Rep]
  | .bt b' t n,v,x => by
    simp only [fzC]
    split
    · simp [Rep]
    · split
      · rename_i hok
        simp only [Rep] at x ⊢
        obtain ⟨blk,h1,h2,h3⟩ := x
        exact ⟨blk,fz_μ H hb hok h1,h2,fz_σ H hb hok h3⟩
      · simp [Rep]
  | .bp b' off,v,x => by
    simp only [fzC]
    split
    · rename_i e
      subst e
      simp only [Rep] at x ⊢
      obtain ⟨blk,h1,h2⟩ := x
      refine ⟨blk,off,h2,?_⟩
      have := (hys _ h1).drop off
      rwa [Nat.zero_add] at this
    · split
      · rename_i hok
        simp only [Rep] at x ⊢
        obtain ⟨blk,h1,h2⟩ := x
        exact ⟨blk,fz_μ H hb hok h1,h2⟩
      · simp [Rep]
  | .kp xs,v,x => by
    simp only [fzC,Rep] at x ⊢
    obtain ⟨blk,off,h1,h2⟩ := x
    exact ⟨blk,off,h1,fzC_repKY H hb hys xs blk off h2⟩
  | .agg xs,v,x => by
    simp only [fzC,Rep] at x ⊢
    obtain ⟨vs,h1,h2,h3⟩ := x
    exact ⟨vs,h1,fzC_repLY H hb hys xs _ h2,h3⟩
  | .tup xs,v,x => by
    simp only [fzC,Rep] at x ⊢
    obtain ⟨vs,h1,h2⟩ := x
    exact ⟨vs,h1,fzC_repLY H hb hys xs _ h2⟩
  | .fn f xs,v,x => by
    simp only [fzC,Rep] at x ⊢
    obtain ⟨vs,h1,h2⟩ := x
    exact ⟨vs,h1,fzC_repLY H hb hys xs _ h2⟩
theorem fzC_repLY (H : WorldOK G h w) (hb : h.at b = some cells) {ys : List C} (hys : ∀ blk,G.μ b = some blk → RepK (fzG G w b cells.length) blk 0 ys) : ∀ (xs : List C) (vs : List Value),RepL G xs vs → RepL (fzG G w b cells.length) (fzCs (okF h b) b ys xs) vs
  | [],vs,r => by simpa [fzCs,RepL] using r
  | x :: xs,vs,r => by
    simp only [fzCs,RepL] at r ⊢
    obtain ⟨v,vs',h1,h2,h3⟩ := r
    exact ⟨v,vs',h1,fzC_repY H hb hys x v h2,fzC_repLY H hb hys xs vs' h3⟩
theorem fzC_repKY (H : WorldOK G h w) (hb : h.at b = some cells) {ys : List C} (hys : ∀ blk,G.μ b = some blk → RepK (fzG G w b cells.length) blk 0 ys) : ∀ (xs : List C) (blk off : Nat),RepK G blk off xs → RepK (fzG G w b cells.length) blk off (fzCs (okF h b) b ys xs)
  | [],_,_,_ => by simp [fzCs,RepK]
  | x :: xs,blk,off,r => by
    simp only [fzCs,RepK] at r ⊢
    obtain ⟨⟨u,h1,h2,h3⟩,h4⟩ := r
    exact ⟨⟨u,(fz_le H _).K _ _ _ h1,h2,fzC_repY H hb hys x u h3⟩,fzC_repKY H hb hys xs blk (off + 1) h4⟩
end
theorem fzC_mrepY (H : WorldOK G h w) (hb : h.at b = some cells) {ys : List C} (hys : ∀ blk,G.μ b = some blk → RepK (fzG G w b cells.length) blk 0 ys) : ∀ (l : List C) (es : List MapEntry),MRep G l es → MRep (fzG G w b cells.length) (fzCs (okF h b) b ys l) es
  | [],_,r => by simpa [MRep,fzCs] using r
  | [_],_,r => by simp [MRep] at r
  | k :: v :: l,es,r => by
    simp only [MRep,fzCs] at r ⊢
    obtain ⟨e,es',h1,h2,h3,h4⟩ := r
    exact ⟨e,es',h1,fzC_repY H hb hys k _ h2,fzC_repY H hb hys v _ h3,fzC_mrepY H hb hys l es' h4⟩
theorem WorldOK.fzY (H : WorldOK G h w) (hb : h.at b = some cells) {ys : List C} (hys : ∀ blk,G.μ b = some blk → RepK (fzG G w b cells.length) blk 0 ys) : WorldOK (fzG G w b cells.length) (fzH (okF h b) b ys h) w := by
  have hlen := Hp.at_lt hb
  have hμ : ∀ {j blk},(fzG G w b cells.length).μ j = some blk → G.μ j = some blk ∧ j ≠ b ∧ G.μ b ≠ some blk := fun {j blk} x => by
    simp only [fzG] at x
    split at x
    · cases x
    · rename_i hne
      refine ⟨x,fun e => hne (.inl e),fun e => hne (.inr ⟨blk,e,x⟩)⟩
  refine ⟨fun blk off u hk => ?_,fun j c' hj => ?_,fun j blk hm => ?_,fun j j' c c' blk hj hj' hm hm' => ?_,fun j blk hm => ?_,H.tlt,fun j c' off s m xs blk v hj hc hm hv => ?_,fun j z hz => ?_,fun j l hj => ?_,fun j j' l l' blk x x' y y' => ?_⟩
  · simp only [fzG] at hk
    split at hk
    · exact hk
    · exact H.known blk off u hk
  · obtain ⟨hne,c0,h2,rfl⟩ := fzH_at hb hj
    have hok : okF h b j = true := by simp [okF,h2,hne]
    rcases H.box j c0 h2 with ⟨hE,hE2⟩ | ⟨blk,cs,e,q1,q2,q3,q4,q5⟩
    · refine .inl ⟨by rw [hE]; rfl,?_⟩
      simp only [fzG]
      split
      · rfl
      · exact hE2
    · have hl : (fzCs (okF h b) b ys c0).length = c0.length := by rw [fzCs_map]; simp
      exact .inr ⟨blk,cs,e,fz_μ H hb hok q1,q2,by rw [hl]; exact q3,by rw [hl]; exact fzC_repLY H hb hys _ _ q4,q5⟩
  · obtain ⟨h1,h2,h3⟩ := hμ hm
    obtain ⟨⟨c,hc⟩,hl⟩ := H.dom j blk h1
    refine ⟨⟨fzCs (okF h b) b ys c,?_⟩,hl⟩
    unfold fzH
    rw [List.getElem?_set,if_neg (Ne.symm h2),List.getElem?_map,hc]; rfl
  · obtain ⟨h1,_,_⟩ := hμ hm
    obtain ⟨h1',_,_⟩ := hμ hm'
    obtain ⟨_,c0,g2,_⟩ := fzH_at hb hj
    obtain ⟨_,c0',g2',_⟩ := fzH_at hb hj'
    exact H.inj j j' _ _ blk g2 g2' h1 h1'
  · obtain ⟨h1,h2,h3⟩ := hμ hm
    obtain ⟨s1,s2⟩ := H.sep j blk h1
    refine ⟨fun o => ?_,s2⟩
    simp only [fzG]
    rw [if_neg (fun x => h3 x.1)]
    exact s1 o
  · obtain ⟨h1,_,_⟩ := hμ hm
    obtain ⟨_,c0,g2,rfl⟩ := fzH_at hb hj
    rw [fzCs_map,List.getElem?_map] at hc
    cases hq : c0[off]? with
    | none => rw [hq] at hc; cases hc
    | some y =>
      rw [hq] at hc
      simp only [Option.map_some,Option.some.injEq] at hc
      obtain ⟨zs,rfl⟩ := fzC_own hc
      exact (H.own j c0 off s m zs blk v g2 hq h1 hv).fz
  · simp only [fzG] at hz ⊢
    split at hz
    · cases hz
    · rename_i hne
      obtain ⟨blk,cs,e,fr,q1,q2,q3⟩ := H.siz j z hz
      exact ⟨blk,cs,e,fr,by rw [if_neg hne]; exact q1,q2,q3⟩
  · obtain ⟨n1,l0,n2,rfl⟩ := fzH_mp hlen hj
    obtain ⟨blk,es,clk,q1,q2,q3⟩ := H.mpo j l0 n2
    have hok : okF h b j = true := by simp [okF,n2,n1]
    exact ⟨blk,es,clk,fz_μ H hb hok q1,q2,fzC_mrepY H hb hys l0 _ q3⟩
  · obtain ⟨n1,l0,n2,rfl⟩ := fzH_mp hlen x
    obtain ⟨n1',l0',n2',rfl⟩ := fzH_mp hlen x'
    exact H.mpi j j' _ _ blk n2 n2' (hμ y).1 (hμ y').1
def fzYn (h : Hp) (b : Nat) (cells : List C) : Nat → List C
  | 0 => fzY h b cells
  | m + 1 => (fzCs (okF h b) b (fzYn h b cells m) cells).map C.noR
theorem fzYn_row (H : WorldOK G h w) (hb : h.at b = some cells) : ∀ (m : Nat) (blk : Nat),G.μ b = some blk → RepK (fzG G w b cells.length) blk 0 (fzYn h b cells m)
  | 0,blk,hm => fz_row H hb hm
  | m + 1,blk,hm => by
    have ih := fzYn_row H hb m
    obtain ⟨cs,e,⟨fr,q2,_⟩,q0,q3,q4⟩ := H.bx hb hm
    have hl : (fzYn h b cells (m + 1)).length = cells.length := by simp [fzYn,fzCs_map]
    refine RepK.of_get fun i x hx => ?_
    have hil : i < cells.length := by have := (List.getElem?_eq_some_iff.1 hx).1; rwa [hl] at this
    simp only [fzYn] at hx
    rw [fzCs_map,List.map_map,List.getElem?_map] at hx
    cases hc : cells[i]? with
    | none => rw [hc] at hx; cases hx
    | some y =>
      rw [hc] at hx
      simp only [Option.map_some,Option.some.injEq,Function.comp] at hx
      subst hx
      obtain ⟨u,hu,hr⟩ := q3.get i y hc
      rw [List.getElem?_take,if_pos hil] at hu
      refine ⟨u,?_,q4 u (List.mem_of_getElem? hu),(fzC_repY H hb ih y u hr).noR⟩
      simp only [fzG,Nat.zero_add]
      rw [if_pos ⟨hm,hil⟩]
      exact cell_of q2 _ _ hu
theorem Tr.fzN (hcx : CxOK cx) {c : Code} (b m : Nat) {cells : List C} (hb : st.h.at b = some cells) (hnb : n ≤ b) (hn : ∀ j,j < n → ((st.h.at j).isSome || (st.h.mp j).isSome) = true ∨ st.h[j]? = some none)
    (K : Tr cx n c ⟨fun t => fzC (okF st.h b) b (fzYn st.h b cells m) (st.env t),fzH (okF st.h b) b (fzYn st.h b cells m) st.h⟩ Q) : Tr cx n c st Q := fun G w a S R hR =>
  K (fzG G w b cells.length) w a ⟨S.defers,S.size,S.pre.ok.fzY hb (fzYn_row S.pre.ok hb m),⟨fun t => fzC_repY S.pre.ok hb (fzYn_row S.pre.ok hb m) _ _ (S.pre.env.1 t),fun t s m' xs e => by
      obtain ⟨ys,hy⟩ := fzC_own e
      exact (S.pre.env.2 t s m' ys hy).fz⟩,fun g => (noRef_rep _ _ (hcx.glo g) (S.pre.glob g)).mono (fz_le S.pre.ok _)⟩ R
    fun x s G' w' a' q S' F => hR x s G' w' a' q S' ((frmN_fz S.pre.ok hb hnb hn _).trans F)
end
theorem Tr.fzNA {cx : Cx} {n : Nat} {Q : Ex → St → Prop} {e : List (Nat × C)} {h : Hp} (hcx : CxOK cx) {c : Code} (b m : Nat) (cells : List C) (hb : h.at b = some cells) (hnb : n ≤ b) (hn : ∀ j,j < n → ((h.at j).isSome || (h.mp j).isSome) = true ∨ h[j]? = some none)
    (K : Tr cx n c ⟨A (mapE (fzC (okF h b) b (fzYn h b cells m)) e),fzH (okF h b) b (fzYn h b cells m) h⟩ Q) : Tr cx n c ⟨A e,h⟩ Q := by
  refine Tr.fzN hcx b m hb hnb hn ?_
  rw [mapE_A _ (by simp only [fzC])]
  exact K
end Go.Sx
namespace Go.Sx
end Go.Sx
namespace Go.Sx
open Go.RowKit Go.Proofs
set_option maxRecDepth 10000
abbrev Leaf := List UInt8 × List UInt8
def eC (x : Leaf) : List C := [.val (str x.1),.val (str x.2)]
instance : Cel eC 2 := ⟨fun _ => rfl,fun _ => rfl,by decide,fun _ _ => rfl⟩
instance : Fla eC := ⟨fun _ => rfl⟩
instance : Inj eC := ⟨fun a b h => by
  obtain ⟨a1,a2⟩ := a; obtain ⟨b1,b2⟩ := b
  simp only [eC,List.cons.injEq,C.val.injEq,str_inj,and_true] at h
  obtain ⟨rfl,rfl⟩ := h; rfl⟩
theorem td129 : td Tryd.prog 129 = some ⟨.func #[3,3] #[29] false,1,8,[.nilFunc]⟩ := by kernel_rfl
theorem td139 : td Tryd.prog 139 = some ⟨.func #[3,3] #[] false,1,8,[.nilFunc]⟩ := by kernel_rfl
theorem oc_nf : (Value.nilFunc).oneCell' = true := rfl
attribute [go_sem] td129 td139 oc_nf
theorem faG {P : Program} {t i ft k : Nat} {fs : Array Field} {fd : Field} {de : TD} {s y : Nat} {z : List Value} (h1 : td P t = some ⟨.struct fs,s,y,z⟩) (h2 : fs[i]? = some fd) (ht : fd.type = ft) (hk : fd.offset = k) (h3 : td P ft = some de) (h4 : ¬ de.size = 0) (b o : Nat) : fieldAddrPlan P t (.bp b o) i = some (vp (.bp b (o + k))) := by
  subst ht hk
  unfold fieldAddrPlan; simp only [h1,h2,h3,if_neg h4]; rfl
theorem fkG {P : Program} {t i ft k : Nat} {fs : Array Field} {fd : Field} {de : TD} {s y : Nat} {z : List Value} (h1 : td P t = some ⟨.struct fs,s,y,z⟩) (h2 : fs[i]? = some fd) (ht : fd.type = ft) (hk : fd.offset = k) (h3 : td P ft = some de) (h4 : ¬ de.size = 0) (xs : List C) (h : k ≤ xs.length) : fieldAddrPlan P t (.kp xs) i = some (vp (.kp (xs.drop k))) := by
  subst ht hk
  unfold fieldAddrPlan; simp only [h1,h2,h3,if_neg h4,if_pos h]; rfl
theorem rdc_e0 (l : List Leaf) (k : Nat) (h : k < l.length) : rdc ((cl eC l).drop (k * 2)) 0 = some (.val (str (gt l k).1)) := by
  rw [rdc_drop]
  unfold rdc
  have e : gt l k = l[k] := by simp [gt,List.getD,List.getElem?_eq_getElem h]
  rw [show k * 2 + 0 = k * 2 + 0 from rfl,cl_getq (f := eC) l k 0 (by decide),List.getElem?_eq_getElem h,e]
  rfl
theorem rdc_e1 (l : List Leaf) (k : Nat) (h : k < l.length) : rdc ((cl eC l).drop (k * 2 + 1)) 0 = some (.val (str (gt l k).2)) := by
  rw [rdc_drop]
  unfold rdc
  have e : gt l k = l[k] := by simp [gt,List.getD,List.getElem?_eq_getElem h]
  rw [show k * 2 + 1 + 0 = k * 2 + 1 from rfl,cl_getq (f := eC) l k 1 (by decide),List.getElem?_eq_getElem h,e]
  rfl
theorem rdc_f1 (l : List Leaf) (k : Nat) (h : k < l.length) : rdc (cl eC l) (k * 2 + 1) = some (.val (str (gt l k).2)) := by
  have := rdc_e1 l k h; rwa [rdc_drop] at this
theorem eC_noR (t : Leaf) : List.map C.noR (eC t) = eC t := rfl
theorem rdc_el0 (t : Leaf) : rdc (eC t) 0 = some (.val (str t.1)) := rfl
theorem rdc_el1 (t : Leaf) : rdc (eC t) 1 = some (.val (str t.2)) := rfl
theorem rdc2_0 (a b : Value) : rdc [.val a,.val b] 0 = some (.val a) := rfl
theorem rdc2_1 (a b : Value) : rdc [.val a,.val b] 1 = some (.val b) := rfl
theorem bsA_leaf (u : TypeDesc) (y : Nat) (z : List Value) (a e : List UInt8) (hz : z.length = 2) (h1 : z.all (·.oneCell') = true) : bsA (some ⟨u,2,y,z⟩) 1 [(0,.agg [.val (str a),.val (str e)])] = some (vp (sl eC .full [(a,e)])) := by
  unfold bsA
  simp only [hz,h1]
  rw [if_pos ⟨by decide,by decide,trivial,trivial⟩]
  have hr : (repZero z 1).length = 2 := by simp [repZero,hz]
  unfold lay
  have hc : C.cells? (.agg [.val (str a),.val (str e)]) = some [.val (str a),.val (str e)] := rfl
  simp only [hc]
  rw [if_pos ⟨rfl,by omega⟩]
  unfold lay
  simp only [Option.map_some,splice,Nat.zero_mul,List.take_zero,List.nil_append,Nat.zero_add]
  rw [List.drop_of_length_le (by rw [hr]; exact Nat.le_refl _),List.append_nil]
  rfl
theorem bsA_leaf2 (u : TypeDesc) (y : Nat) (z : List Value) (x : Leaf) (hz : z.length = 2) (h1 : z.all (·.oneCell') = true) : bsA (some ⟨u,2,y,z⟩) 1 [(0,.agg (eC x))] = some (vp (sl eC .full [x])) := bsA_leaf u y z x.1 x.2 hz h1
theorem wrc2_0 (a b x : C) : wrc [a,b] 0 [x] = some ([x,b],.val undef) := rfl
theorem wrc2_1 (a b x : C) : wrc [a,b] 1 [x] = some ([a,x],.val undef) := rfl
theorem wrc4_0 (a b c d x : C) : wrc [a,b,c,d] 0 [x] = some ([x,b,c,d],.val undef) := rfl
theorem wrc4_1 (a b c d x : C) : wrc [a,b,c,d] 1 [x] = some ([a,x,c,d],.val undef) := rfl
theorem wrc4_2 (a b c d x : C) : wrc [a,b,c,d] 2 [x] = some ([a,b,x,d],.val undef) := rfl
theorem wrc4_3 (a b c d x : C) : wrc [a,b,c,d] 3 [x] = some ([a,b,c,x],.val undef) := rfl
theorem wrs4_0 (a b c d x : C) : wrs [a,b,c,d] 0 x = some ([x,b,c,d],.val undef) := rfl
theorem wrs4_3 (a b c d x : C) : wrs [a,b,c,d] 3 x = some ([a,b,c,x],.val undef) := rfl
theorem wrc4_4 (a b c d x y z w : C) : wrc [a,b,c,d] 0 [x,y,z,w] = some ([x,y,z,w],.val undef) := rfl
theorem fa41_0 (b o : Nat) : fieldAddrPlan Tryd.prog 41 (.bp b o) 0 = some (vp (.bp b (o + 0))) := @faG Tryd.prog 41 0 9 0 _ _ _ _ _ _ td41 rfl rfl rfl td9 (by decide) b o
theorem fk41_0 (l : List Leaf) (k : Nat) (h : k < l.length) : fieldAddrPlan Tryd.prog 41 (.kp ((cl eC l).drop (k * 2))) 0 = some (vp (.kp ((cl eC l).drop (k * 2)))) := by
  have hl := cl_len (f := eC) l
  rw [@fkG Tryd.prog 41 0 9 0 _ _ _ _ _ _ td41 rfl rfl rfl td9 (by decide) _ (by rw [List.length_drop,hl]; omega),List.drop_drop] <;> rfl
theorem fa41_1 (b o : Nat) : fieldAddrPlan Tryd.prog 41 (.bp b o) 1 = some (vp (.bp b (o + 1))) := @faG Tryd.prog 41 1 9 1 _ _ _ _ _ _ td41 rfl rfl rfl td9 (by decide) b o
theorem fk41_1 (l : List Leaf) (k : Nat) (h : k < l.length) : fieldAddrPlan Tryd.prog 41 (.kp ((cl eC l).drop (k * 2))) 1 = some (vp (.kp ((cl eC l).drop (k * 2 + 1)))) := by
  have hl := cl_len (f := eC) l
  rw [@fkG Tryd.prog 41 1 9 1 _ _ _ _ _ _ td41 rfl rfl rfl td9 (by decide) _ (by rw [List.length_drop,hl]; omega),List.drop_drop] <;> rfl
theorem fa75_0 (b o : Nat) : fieldAddrPlan Tryd.prog 75 (.bp b o) 0 = some (vp (.bp b (o + 0))) := @faG Tryd.prog 75 0 9 0 _ _ _ _ _ _ td75 rfl rfl rfl td9 (by decide) b o
theorem fk75_0 (l : List Leaf) (k : Nat) (h : k < l.length) : fieldAddrPlan Tryd.prog 75 (.kp ((cl eC l).drop (k * 2))) 0 = some (vp (.kp ((cl eC l).drop (k * 2)))) := by
  have hl := cl_len (f := eC) l
  rw [@fkG Tryd.prog 75 0 9 0 _ _ _ _ _ _ td75 rfl rfl rfl td9 (by decide) _ (by rw [List.length_drop,hl]; omega),List.drop_drop] <;> rfl
theorem fa75_1 (b o : Nat) : fieldAddrPlan Tryd.prog 75 (.bp b o) 1 = some (vp (.bp b (o + 1))) := @faG Tryd.prog 75 1 9 1 _ _ _ _ _ _ td75 rfl rfl rfl td9 (by decide) b o
theorem fk75_1 (l : List Leaf) (k : Nat) (h : k < l.length) : fieldAddrPlan Tryd.prog 75 (.kp ((cl eC l).drop (k * 2))) 1 = some (vp (.kp ((cl eC l).drop (k * 2 + 1)))) := by
  have hl := cl_len (f := eC) l
  rw [@fkG Tryd.prog 75 1 9 1 _ _ _ _ _ _ td75 rfl rfl rfl td9 (by decide) _ (by rw [List.length_drop,hl]; omega),List.drop_drop] <;> rfl
theorem fa50_0 (b o : Nat) : fieldAddrPlan Tryd.prog 50 (.bp b o) 0 = some (vp (.bp b (o + 0))) := @faG Tryd.prog 50 0 3 0 _ _ _ _ _ _ td50 rfl rfl rfl td3 (by decide) b o
theorem fp50_0 (a b c d : C) : fieldAddrPlan Tryd.prog 50 (.kp [a,b,c,d]) 0 = some (vp (.kp ([a,b,c,d].drop 0))) := @fkG Tryd.prog 50 0 3 0 _ _ _ _ _ _ td50 rfl rfl rfl td3 (by decide) _ (by show 0 ≤ 4; decide)
theorem fa50_1 (b o : Nat) : fieldAddrPlan Tryd.prog 50 (.bp b o) 1 = some (vp (.bp b (o + 1))) := @faG Tryd.prog 50 1 3 1 _ _ _ _ _ _ td50 rfl rfl rfl td3 (by decide) b o
theorem fp50_1 (a b c d : C) : fieldAddrPlan Tryd.prog 50 (.kp [a,b,c,d]) 1 = some (vp (.kp ([a,b,c,d].drop 1))) := @fkG Tryd.prog 50 1 3 1 _ _ _ _ _ _ td50 rfl rfl rfl td3 (by decide) _ (by show 1 ≤ 4; decide)
theorem fa50_2 (b o : Nat) : fieldAddrPlan Tryd.prog 50 (.bp b o) 2 = some (vp (.bp b (o + 2))) := @faG Tryd.prog 50 2 33 2 _ _ _ _ _ _ td50 rfl rfl rfl td33 (by decide) b o
theorem fp50_2 (a b c d : C) : fieldAddrPlan Tryd.prog 50 (.kp [a,b,c,d]) 2 = some (vp (.kp ([a,b,c,d].drop 2))) := @fkG Tryd.prog 50 2 33 2 _ _ _ _ _ _ td50 rfl rfl rfl td33 (by decide) _ (by show 2 ≤ 4; decide)
theorem fa50_3 (b o : Nat) : fieldAddrPlan Tryd.prog 50 (.bp b o) 3 = some (vp (.bp b (o + 3))) := @faG Tryd.prog 50 3 48 3 _ _ _ _ _ _ td50 rfl rfl rfl td48 (by decide) b o
theorem fa54_0 (b o : Nat) : fieldAddrPlan Tryd.prog 54 (.bp b o) 0 = some (vp (.bp b (o + 0))) := @faG Tryd.prog 54 0 3 0 _ _ _ _ _ _ td54 rfl rfl rfl td3 (by decide) b o
theorem fa54_1 (b o : Nat) : fieldAddrPlan Tryd.prog 54 (.bp b o) 1 = some (vp (.bp b (o + 1))) := @faG Tryd.prog 54 1 3 1 _ _ _ _ _ _ td54 rfl rfl rfl td3 (by decide) b o
theorem fa54_2 (b o : Nat) : fieldAddrPlan Tryd.prog 54 (.bp b o) 2 = some (vp (.bp b (o + 2))) := @faG Tryd.prog 54 2 24 2 _ _ _ _ _ _ td54 rfl rfl rfl td24 (by decide) b o
theorem fa54_3 (b o : Nat) : fieldAddrPlan Tryd.prog 54 (.bp b o) 3 = some (vp (.bp b (o + 3))) := @faG Tryd.prog 54 3 48 3 _ _ _ _ _ _ td54 rfl rfl rfl td48 (by decide) b o
theorem fa102_0 (b o : Nat) : fieldAddrPlan Tryd.prog 102 (.bp b o) 0 = some (vp (.bp b (o + 0))) := @faG Tryd.prog 102 0 47 0 _ _ _ _ _ _ td102 rfl rfl rfl td47 (by decide) b o
theorem fa102_1 (b o : Nat) : fieldAddrPlan Tryd.prog 102 (.bp b o) 1 = some (vp (.bp b (o + 1))) := @faG Tryd.prog 102 1 48 1 _ _ _ _ _ _ td102 rfl rfl rfl td48 (by decide) b o
theorem fa102_2 (b o : Nat) : fieldAddrPlan Tryd.prog 102 (.bp b o) 2 = some (vp (.bp b (o + 2))) := @faG Tryd.prog 102 2 3 2 _ _ _ _ _ _ td102 rfl rfl rfl td3 (by decide) b o
theorem fa102_3 (b o : Nat) : fieldAddrPlan Tryd.prog 102 (.bp b o) 3 = some (vp (.bp b (o + 3))) := @faG Tryd.prog 102 3 4 3 _ _ _ _ _ _ td102 rfl rfl rfl td4 (by decide) b o
attribute [go_sem] bsA_leaf bsA_leaf2 fa41_0 fa41_1 fa75_0 fa75_1 fa50_0 fp50_0 fa50_1 fp50_1 fa50_2 fp50_2 fa50_3 fa54_0 fa54_1 fa54_2 fa54_3 fa102_0 fa102_1 fa102_2 fa102_3
attribute [go_sem high] wrs4_0 wrs4_3 rdc_f1 wrc2_0 wrc2_1 rdc_e0 rdc_e1 eC_noR rdc_el0 rdc_el1 rdc2_0 rdc2_1 wrc4_0 wrc4_1 wrc4_2 wrc4_3 wrc4_4 fk41_0 fk41_1 fk75_0 fk75_1
end Go.Sx
