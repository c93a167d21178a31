/-
   And what follows.
-/
import Derived.Test.YtmoaeemdlompaaaDoorPae
set_option linter.unusedSimpArgs false
set_option linter.unusedVariables false
namespace Go.Sx
open Go.RowKit
def cutμ (G : Gh) (k : Nat) : Gh := { G with μ := fun b => if b < k then G.μ b else none, σ := fun b => if b < k then G.σ b else none }
mutual
theorem noRef_rep {G : Gh} {k : Nat} : ∀ (c : C) (v : Value), noRef k c = true → Rep G c v → Rep (cutμ G k) c v
  | .top, _, _, _ => by simp [Rep]
  | .val u, v, _, r => by simpa [Rep] using r
  | .sl r n xs, v, hn, x => by
    simp only [noRef] at hn
    simp only [Rep] at x ⊢
    obtain ⟨a, cap, h1, h2, h3, h4, h5⟩ := x
    refine ⟨a, cap, h1, h2, h3, h4, ?_⟩
    rcases h5 with h5 | ⟨blk, off, ha, hk⟩
    · exact .inl h5
    · exact .inr ⟨blk, off, ha, noRef_repK xs blk off hn hk⟩
  | .sv b off n, v, hn, x => by
    simp only [noRef, decide_eq_true_eq] at hn
    simp only [Rep] at x ⊢
    obtain ⟨a, cap, h1, h2, h3, h4⟩ := x
    exact ⟨a, cap, h1, h2, h3, fun hz => by obtain ⟨blk, q1, q2⟩ := h4 hz; exact ⟨blk, by simp only [cutμ]; rw [if_pos hn]; exact q1, q2⟩⟩
  | .gv b m s, v, hn, x => by
    simp only [noRef, decide_eq_true_eq] at hn
    simp only [Rep] at x ⊢
    obtain ⟨a, cap, h1, h2, h3, h4⟩ := x
    refine ⟨a, cap, h1, h2, h3, ?_⟩
    rcases h4 with h4 | ⟨blk, q1, q2, q3⟩
    · exact .inl h4
    · exact .inr ⟨blk, by simp only [cutμ]; rw [if_pos hn]; exact q1, q2, by simp only [cutμ]; rw [if_pos hn]; exact q3⟩
  | .bp b off, v, hn, x => by
    simp only [noRef, decide_eq_true_eq] at hn
    simp only [Rep] at x ⊢
    obtain ⟨blk, h1, h2⟩ := x
    exact ⟨blk, by simp only [cutμ]; rw [if_pos hn]; exact h1, h2⟩
  | .mp b, v, hn, x => by
    simp only [noRef, decide_eq_true_eq] at hn
    simp only [Rep] at x ⊢
    obtain ⟨blk, h1, h2⟩ := x
    exact ⟨blk, by simp only [cutμ]; rw [if_pos hn]; exact h1, h2⟩
  | .bt b t n, v, hn, x => by
    simp only [noRef, decide_eq_true_eq] at hn
    simp only [Rep] at x ⊢
    obtain ⟨blk, h1, h2, h3⟩ := x
    exact ⟨blk, by simp only [cutμ]; rw [if_pos hn]; exact h1, h2, by simp only [cutμ]; rw [if_pos hn]; exact h3⟩
  | .kp xs, v, hn, x => by
    simp only [noRef] at hn
    simp only [Rep] at x ⊢
    obtain ⟨blk, off, h1, h2⟩ := x
    exact ⟨blk, off, h1, noRef_repK xs blk off hn h2⟩
  | .agg xs, v, hn, x => by
    simp only [noRef] at hn
    simp only [Rep] at x ⊢
    obtain ⟨vs, h1, h2, h3⟩ := x
    exact ⟨vs, h1, noRef_repL xs _ hn h2, h3⟩
  | .tup xs, v, hn, x => by
    simp only [noRef] at hn
    simp only [Rep] at x ⊢
    obtain ⟨vs, h1, h2⟩ := x
    exact ⟨vs, h1, noRef_repL xs _ hn h2⟩
  | .fn f xs, v, hn, x => by
    simp only [noRef] at hn
    simp only [Rep] at x ⊢
    obtain ⟨vs, h1, h2⟩ := x
    exact ⟨vs, h1, noRef_repL xs _ hn h2⟩
theorem noRef_repL {G : Gh} {k : Nat} : ∀ (xs : List C) (vs : List Value), noRefs k xs = true → RepL G xs vs → RepL (cutμ G k) xs vs
  | [], vs, _, r => by simpa [RepL] using r
  | x :: xs, vs, hn, r => by
    simp only [noRefs, Bool.and_eq_true] at hn
    simp only [RepL] at r ⊢
    obtain ⟨v, vs', h1, h2, h3⟩ := r
    exact ⟨v, vs', h1, noRef_rep x v hn.1 h2, noRef_repL xs vs' hn.2 h3⟩
theorem noRef_repK {G : Gh} {k : Nat} : ∀ (xs : List C) (blk off : Nat), noRefs k xs = true → RepK G blk off xs → RepK (cutμ G k) blk off xs
  | [], _, _, _, _ => by simp [RepK]
  | x :: xs, blk, off, hn, r => by
    simp only [noRefs, Bool.and_eq_true] at hn
    simp only [RepK] at r ⊢
    obtain ⟨⟨u, h1, h2, h3⟩, h4⟩ := r
    exact ⟨⟨u, h1, h2, noRef_rep x u hn.1 h3⟩, noRef_repK xs blk (off + 1) hn.2 h4⟩
end
def Entered (P : Program) (f : Nat) : Prop := ∃ fn, P.funcs[f]? = some fn ∧ (fn.name == "runtime.NumGoroutine") = false ∧ fn.body.isNone = false
def FC (P : Program) (gl : Nat → C) (f : Nat) (args : List C) (h : Hp) (c : C) (h' : Hp) : Prop :=
  Entered P f ∧ ∀ (G : Gh) (w : World) (vs : Array Value), WorldOK G h w → (∀ g p, G.T g = some p → p.1 = 1) → (∀ g, Rep G (gl g) (.pointer (some ⟨g, 0, none⟩))) → RepL G args vs.toList →
    Calls P f vs w fun e w' => ∃ v G', e = .returned v ∧ Rep G' c v ∧ (∀ s n xs, c = .sl (.own s) n xs → OwnRow G' w' (2, 0, 0) v s n) ∧ WorldOK G' h' w' ∧ Frm G w G' w'
def frz (h : Hp) : C → C
  | .sv b off n => match h.at b with
    | some cells => if off + n ≤ cells.length then .sl .no n (((cells.drop off).take n).map C.noR) else .sv b off n
    | none => .sv b off n
  | .bp b off => match h.at b with
    | some cells => .kp ((cells.drop off).map C.noR)
    | none => .bp b off
  | .gv b n s => match h.at b with
    | some cells => if n * s.1 ≤ cells.length then .sl .no n ((cells.take (n * s.1)).map C.noR) else .gv b n s
    | none => .gv b n s
  | c => c
def frzs (h : Hp) : List C → List C
  | [] => []
  | c :: l => frz h c :: frzs h l
mutual
theorem flat_rep {G G' : Gh} : ∀ (c : C) (v : Value), flat c = true → Rep G c v → Rep G' c v
  | .val u, v, _, r => by simpa [Rep] using r
  | .agg xs, v, hn, x => by
    simp only [flat] at hn
    simp only [Rep] at x ⊢
    obtain ⟨vs, h1, h2, h3⟩ := x
    exact ⟨vs, h1, flats_rep xs _ hn h2, h3⟩
  | .tup xs, v, hn, x => by
    simp only [flat] at hn
    simp only [Rep] at x ⊢
    obtain ⟨vs, h1, h2⟩ := x
    exact ⟨vs, h1, flats_rep xs _ hn h2⟩
  | .top, _, hn, _ => by simp [flat] at hn
  | .sl _ _ _, _, hn, _ => by simp [flat] at hn
  | .sv _ _ _, _, hn, _ => by simp [flat] at hn
  | .bp _ _, _, hn, _ => by simp [flat] at hn
  | .kp _, _, hn, _ => by simp [flat] at hn
  | .fn _ _, _, hn, _ => by simp [flat] at hn
  | .gv _ _ _, _, hn, _ => by simp [flat] at hn
  | .mp _, _, hn, _ => by simp [flat] at hn
  | .bt _ _ _, _, hn, _ => by simp [flat] at hn
theorem flats_rep {G G' : Gh} : ∀ (xs : List C) (vs : List Value), flats xs = true → RepL G xs vs → RepL G' xs vs
  | [], vs, _, r => by simpa [RepL] using r
  | x :: xs, vs, hn, r => by
    simp only [flats, Bool.and_eq_true] at hn
    simp only [RepL] at r ⊢
    obtain ⟨v, vs', h1, h2, h3⟩ := r
    exact ⟨v, vs', h1, flat_rep x v hn.1 h2, flats_rep xs vs' hn.2 h3⟩
end
open Classical in
noncomputable def boxK (G : Gh) (w : World) : Gh where
  K := fun blk o => match G.K blk o with
    | some u => some u
    | none => if ∃ b, G.μ b = some blk then w.cell? ⟨blk, o, none⟩ else none
  μ := G.μ
  T := fun _ => none
  σ := G.σ
theorem boxK_le (G : Gh) (w : World) : G.Le (boxK G w) := ⟨fun b o u h => by simp only [boxK, h], fun _ _ h => h, fun _ _ h => h⟩
theorem cell_of {w : World} {blk : Nat} {cs : Array Value} {e : TypeId} {fr : Nat × Nat} (h : w.heap[blk]? = some (.cells cs e fr)) (o : Nat) (v : Value) (hv : cs.toList[o]? = some v) : w.cell? ⟨blk, o, none⟩ = some v := by
  unfold World.cell?
  rw [h]
  simpa using hv
theorem frz_rep {G : Gh} {h : Hp} {w : World} (W : WorldOK G h w) (c : C) (v : Value) (r : Rep G c v) : Rep (boxK G w) (frz h c) v := by
  have cellsK : ∀ b cells blk, h.at b = some cells → G.μ b = some blk → ∀ off m, off + m ≤ cells.length → RepK (boxK G w) blk off (((cells.drop off).take m).map C.noR) := by
    intro b cells blk hb hμ off m hle
    obtain ⟨cs, e, ⟨fr, q2, hfr⟩, q0, q3, q4⟩ := W.bx hb hμ
    refine RepK.of_get fun i x hx => ?_
    rw [List.getElem?_map, List.getElem?_take] at hx
    split at hx
    · rw [List.getElem?_drop] at hx
      cases hc : cells[off + i]? with
      | none => rw [hc] at hx; cases hx
      | some y =>
        rw [hc] at hx
        simp only [Option.map_some, Option.some.injEq] at hx
        subst hx
        obtain ⟨u, hu, hr⟩ := q3.get (off + i) y hc
        have hu' := hu
        rw [List.getElem?_take] at hu'
        split at hu'
        rotate_left
        · cases hu'
        refine ⟨u, ?_, q4 u (List.mem_of_getElem? hu'), (hr.mono (boxK_le G w)).noR⟩
        have hK : G.K blk (off + i) = none := (W.sep b blk hμ).1 _
        simp only [boxK, hK]
        rw [if_pos ⟨b, hμ⟩]
        exact cell_of q2 _ _ hu'
    · cases hx
  cases c with
  | sv b off n =>
    simp only [Rep] at r
    obtain ⟨a, cap, h1, h2, h3, h4⟩ := r
    cases hb : h.at b with
    | none => simp only [frz, hb, Rep]; exact ⟨a, cap, h1, h2, h3, h4⟩
    | some cells =>
      simp only [frz, hb]
      split
      · rename_i hle
        simp only [Rep]
        refine ⟨a, cap, h1, h2, h3, by simp, ?_⟩
        by_cases hn : n = 0
        · left; subst hn; simp
        · right
          obtain ⟨blk, q1, q2⟩ := h4 hn
          exact ⟨blk, off, q2, cellsK b cells blk hb q1 off n hle⟩
      · simp only [Rep]; exact ⟨a, cap, h1, h2, h3, h4⟩
  | gv b n s =>
    simp only [Rep] at r
    obtain ⟨a, cap, h1, h2, h3, h4⟩ := r
    cases hb : h.at b with
    | none => simp only [frz, hb, Rep]; exact ⟨a, cap, h1, h2, h3, h4⟩
    | some cells =>
      simp only [frz, hb]
      split
      · rename_i hle
        simp only [Rep]
        refine ⟨a, cap, h1, h2, h3, by simp, ?_⟩
        rcases h4 with ⟨rfl, _⟩ | ⟨blk, q1, q2, _⟩
        · left; simp
        · right
          refine ⟨blk, 0, q2, ?_⟩
          have := cellsK b cells blk hb q1 0 (n * s.1) (by omega)
          simpa using this
      · simp only [Rep]; exact ⟨a, cap, h1, h2, h3, h4⟩
  | bp b off =>
    simp only [Rep] at r
    obtain ⟨blk, h1, h2⟩ := r
    cases hb : h.at b with
    | none => simp only [frz, hb, Rep]; exact ⟨blk, h1, h2⟩
    | some cells =>
      simp only [frz, hb, Rep]
      refine ⟨blk, off, h2, ?_⟩
      by_cases hle : off ≤ cells.length
      · have := cellsK b cells blk hb h1 off (cells.length - off) (by omega)
        rwa [List.take_of_length_le (by simp)] at this
      · rw [List.drop_of_length_le (by omega)]; simp [RepK]
  | _ => exact r.mono (boxK_le G w)
theorem frzs_rep {G : Gh} {h : Hp} {w : World} (W : WorldOK G h w) : ∀ (az : List C) (vs : List Value), RepL G az vs → RepL (boxK G w) (frzs h az) vs
  | [], vs, r => by simpa [frzs, RepL] using r
  | c :: l, vs, r => by
    simp only [RepL, frzs] at r ⊢
    obtain ⟨v, vs', h1, h2, h3⟩ := r
    exact ⟨v, vs', h1, frz_rep W c v h2, frzs_rep W l vs' h3⟩
theorem FC.freeze {P : Program} {gl : Nat → C} {f : Nat} {args : List C} {c : C} {h : Hp} (hf : FC P gl f (frzs h args) [] c []) (ha : noRefs 0 (frzs h args) = true) (hg : ∀ g, noRef 0 (gl g) = true) (hfl : flat c = true) : FC P gl f args h c h := by
  obtain ⟨he, hf⟩ := hf
  refine ⟨he, fun G w vs W hTg hgl hr => ?_⟩
  have hn : ∀ b, Hp.at [] b = none := fun b => by simp [Hp.at]
  let G1 : Gh := { K := (boxK G w).K, μ := fun _ => none, T := fun _ => none }
  have le1 : (cutμ (boxK G w) 0).Le G1 := ⟨fun _ _ _ x => x, fun b k x => by simp [cutμ] at x, fun b k x => by simp [cutμ] at x⟩
  have known1 : ∀ blk off u, G1.K blk off = some u → w.cell? ⟨blk, off, none⟩ = some u := fun blk off u x => by
    have x' : (boxK G w).K blk off = some u := x
    simp only [boxK] at x'
    split at x'
    · rename_i u' hu; cases x'; exact W.known _ _ _ hu
    · split at x'
      · exact x'
      · cases x'
  refine Calls.mono (hf G1 w vs ⟨known1, (fun b cells x => by rw [hn] at x; cases x), (fun b blk x => by cases x), (fun b b' c c' blk _ _ x => by cases x), (fun b blk x => by cases x), (fun g p x => by cases x), (fun b cells off s n xs blk v x => by rw [hn] at x; cases x), (fun b z x => by cases x), (fun b l x => by simp [Hp.mp] at x), (fun b b' l l' blk x => by simp [Hp.mp] at x)⟩
    (fun g p x => by cases x) (fun g => (noRef_rep _ _ (hg g) ((hgl g).mono (boxK_le G w))).mono le1) ((noRef_repL _ _ ha (frzs_rep W _ _ hr)).mono le1)) ?_
  rintro e w' ⟨v, G2, rfl, rv, ro, W2, F⟩
  have old := fun g (hg : g < w.heap.size) => F.old g hg rfl (fun b x => by cases x)
  have hμlt : ∀ b blk, G.μ b = some blk → blk < w.heap.size := fun b blk x => by
    exact (W.dom b blk x).2
  classical
  let G3 : Gh := { K := fun blk o => if ∃ b, G.μ b = some blk then none else G2.K blk o, μ := G.μ, T := fun g => if g < w.heap.size then G.T g else none, σ := G.σ }
  have le13 : G.Le G3 := ⟨fun b o u x => by
    have hb : ¬ ∃ k, G.μ k = some b := fun ⟨k, hk⟩ => by rw [(W.sep k b hk).1 o] at x; cases x
    show (if ∃ k, G.μ k = some b then none else G2.K b o) = some u
    rw [if_neg hb]
    exact F.le.K b o u ((boxK_le G w).K b o u x), fun _ _ x => x, fun _ _ x => x⟩
  refine ⟨v, G3, rfl, flat_rep c v hfl rv, fun s n xs e => ?_, ⟨fun blk off u x => ?_, fun b cells hc => ?_, fun b blk x => ⟨(W.dom b blk x).1, Nat.lt_of_lt_of_le (W.dom b blk x).2 F.size⟩, W.inj, fun b blk x => ?_, fun g p x => ?_, fun b cells off s n xs blk v hc hx hm hv => ?_, fun b z hz => ?_, fun b l hb => (by obtain ⟨blk, es, clk, q1, q2, q3⟩ := W.mpo b l hb; exact ⟨blk, es, clk, q1, (old blk (hμlt b blk q1)).1.trans q2, q3.mono le13⟩), W.mpi⟩, F.os, F.tape, F.output, F.size, le13, fun g hg ht hm => ?_⟩
  · rw [e] at hfl; cases hfl
  · have x' : (if ∃ k, G.μ k = some blk then none else G2.K blk off) = some u := x
    split at x'
    · cases x'
    · exact W2.known _ _ _ x'
  · rcases W.box b cells hc with hE | ⟨blk, cs, e, q1, q2, q0, q3, q4⟩
    · exact .inl hE
    · exact .inr ⟨blk, cs, e, q1, by rw [(old blk (hμlt b blk q1)).1]; exact q2, q0, q3.mono le13, q4⟩
  · have hlt := hμlt b blk x
    refine ⟨fun o => ?_, ?_⟩
    · show (if ∃ k, G.μ k = some blk then none else G2.K blk o) = none
      rw [if_pos ⟨b, x⟩]
    · show (if blk < w.heap.size then G.T blk else none) = none
      rw [if_pos hlt]
      exact (W.sep b blk x).2
  · have x' : (if g < w.heap.size then G.T g else none) = some p := x
    split at x'
    · exact Nat.lt_of_lt_of_le (W.tlt g p x') F.size
    · cases x'
  · have hlt := hμlt b blk hm
    have hv' : w.cell? ⟨blk, off, none⟩ = some v := by
      rw [← hv]
      unfold World.cell?
      rw [(old blk hlt).1]
    rcases W.own b cells off s n xs blk v hc hx hm hv' with O | ⟨g, cap, cur, e, a1, a2, a3, a4, a5, a6⟩
    · exact .inl O
    · have hlt := W.tlt g _ a2
      refine .inr ⟨g, cap, cur, e, a1, ?_, (old g hlt).1.trans a3, a4, fun o ho => ?_, a6⟩
      · show (if g < w.heap.size then G.T g else none) = _
        rw [if_pos hlt]; exact a2
      · show (if ∃ k, G.μ k = some g then none else G2.K g o) = none
        have hng : ¬ ∃ k, G.μ k = some g := fun ⟨k, hk⟩ => a6 k hk
        rw [if_neg hng]
        have h1 : (boxK G w).K g o = none := by
          simp only [boxK, a5 o ho]
          rw [if_neg hng]
        exact ((old g hlt).2.2.2 o).trans h1
  · obtain ⟨blk, cs, e, fr, q1, q2, q3⟩ := W.siz b z hz
    exact ⟨blk, cs, e, fr, q1, (old blk (hμlt b blk q1)).1.trans q2, q3⟩
  · obtain ⟨b1, b2, b3, b4⟩ := old g hg
    refine ⟨b1, ?_, hm, fun o => ?_⟩
    · show (if g < w.heap.size then G.T g else none) = none
      rw [if_pos hg]; exact ht
    · have hng : ¬ ∃ k, G.μ k = some g := fun ⟨k, hk⟩ => hm k hk
      show (if ∃ k, G.μ k = some g then none else G2.K g o) = _
      rw [if_neg hng]
      refine (b4 o).trans ?_
      show (boxK G w).K g o = _
      simp only [boxK]
      cases G.K g o with
      | some u => rfl
      | none => simp only []; rw [if_neg hng]
theorem frzs1_frzs {h : Hp} {b : Nat} {cells : List C} (hb : h.at b = some cells) : ∀ az : List C, noRefs 0 (frzs1 b cells az) = true → frzs h az = frzs1 b cells az
  | [], _ => rfl
  | c :: l, hn => by
    simp only [frzs1, noRefs, Bool.and_eq_true] at hn
    have ih := frzs1_frzs hb l hn.2
    have e : frz h c = frz1 b cells c := by
      have h1 := hn.1
      cases c with
      | sv b' off n =>
        simp only [frz1] at h1 ⊢
        by_cases hc : b' = b ∧ off + n ≤ cells.length
        · rw [if_pos hc]; obtain ⟨rfl, h2⟩ := hc; simp only [frz, hb]; rw [if_pos h2]
        · rw [if_neg hc] at h1; simp [noRef] at h1
      | gv b' n s =>
        simp only [frz1] at h1 ⊢
        by_cases hc : b' = b ∧ n * s.1 ≤ cells.length
        · rw [if_pos hc]; obtain ⟨rfl, h2⟩ := hc; simp only [frz, hb]; rw [if_pos h2]
        · rw [if_neg hc] at h1; simp [noRef] at h1
      | bp b' off =>
        simp only [frz1] at h1 ⊢
        by_cases hc : b' = b
        · rw [if_pos hc]; subst hc; simp only [frz, hb]
        · rw [if_neg hc] at h1; simp [noRef] at h1
      | _ => rfl
    simp only [frzs, frzs1, ih, e]
theorem FC.rdPu {cx : Cx} {g : Nat} {az : List C} {b : Nat} {cells : List C} {h : Hp} {c : C} (hpu : ∀ f args c, cx.pu f args = some c → ∀ h, FC cx.P cx.gl f args h c h) (hg : ∀ g, noRef 0 (cx.gl g) = true) (hb : h.at b = some cells) (hc : rdPu cx g az b cells = some c) : FC cx.P cx.gl g az h c h := by
  unfold Sx.rdPu at hc
  split at hc
  · rename_i hn
    split at hc
    · rename_i c2 hp2
      split at hc
      · rename_i hfl
        cases hc
        have e := frzs1_frzs hb az hn
        rw [← e] at hp2 hn
        exact FC.freeze (hpu _ _ _ hp2 []) hn hg hfl
      · cases hc
    · cases hc
  · cases hc
end Go.Sx
namespace Go.Sx
open Go.RowKit
section
variable {cx : Cx} {G G' : Gh} {h : Hp} {w w' : World} {st : St} {a : Act} {o : Oper} {P : Program}
def addB (G : Gh) (id blk : Nat) (z : Nat × Nat) : Gh := { G with μ := fun b => if b = id then some blk else G.μ b, σ := fun b => if b = id then some z else G.σ b }
theorem WorldOK.μnone (H : WorldOK G h w) {id : Nat} (hid : h.length ≤ id) : G.μ id = none := by
  cases hm : G.μ id with
  | none => rfl
  | some k => obtain ⟨⟨c, hc⟩, _⟩ := H.dom id k hm; rw [List.getElem?_eq_none hid] at hc; cases hc
theorem WorldOK.σnone (H : WorldOK G h w) {id : Nat} (hid : h.length ≤ id) : G.σ id = none := by
  cases hm : G.σ id with
  | none => rfl
  | some k => obtain ⟨blk, cs, e, fr, hc, _⟩ := H.siz id k hm; rw [H.μnone hid] at hc; cases hc
theorem addB_le (H : WorldOK G h w) {id blk : Nat} {z : Nat × Nat} (hid : h.length ≤ id) : G.Le (addB G id blk z) :=
  ⟨fun _ _ _ x => x, fun b k x => by
    have : b ≠ id := fun e => by rw [e, H.μnone hid] at x; cases x
    simp only [addB]; rw [if_neg this]; exact x, fun b k x => by
    have : b ≠ id := fun e => by rw [e, H.σnone hid] at x; cases x
    simp only [addB]; rw [if_neg this]; exact x⟩
theorem Hp.at_append (h : Hp) (o : Option (List C)) (b : Nat) : Hp.at (h ++ [o]) b = if b = h.length then liveC o else h.at b := by
  unfold Hp.at
  by_cases hb : b = h.length
  · subst hb; simp
  · rw [if_neg hb]
    rcases Nat.lt_or_ge b h.length with hl | hl
    · rw [List.getElem?_append_left hl]
    · rw [List.getElem?_append_right hl, List.getElem?_eq_none (by simp; omega), List.getElem?_eq_none hl]
theorem mp_appN {h : Hp} {o : Option (List C)} (ho : mpL o = none) : ∀ b l, Hp.mp (h ++ [o]) b = some l → b ≠ h.length ∧ h.mp b = some l := fun b l hb => by
  rw [Hp.mp_append] at hb
  split at hb
  · rw [ho] at hb; cases hb
  · rename_i e; exact ⟨e, hb⟩
theorem mpL_noR {cells : List C} (h : liveC (some cells) = some cells) : mpL (some (cells.map C.noR)) = none := by
  cases cells with
  | nil => rfl
  | cons x l =>
    cases x with
    | tup xs => cases h
    | sl r n xs => cases r <;> rfl
    | _ => rfl
theorem live_at {h : Hp} {b : Nat} {cells : List C} (hb : h.at b = some cells) : liveC (some cells) = some cells := by
  have := hb
  unfold Hp.at at this
  rw [Hp.at_some hb] at this
  exact this
theorem WorldOK.virt (H : WorldOK G h w) : WorldOK G (h ++ [some []]) w := by
  have hm := H.μnone (Nat.le_refl _)
  refine ⟨H.known, fun b cells hb => ?_, fun b blk x => ?_, fun b b' c c' blk x x' y y' => ?_, H.sep, H.tlt, fun b cells off s n xs blk v hb hc hm' hv => ?_, H.siz, H.mpoT (fun b l x => (mp_appN rfl b l x).2) (fun _ _ _ x => x) (.refl G), H.mpiT (fun b l x => (mp_appN rfl b l x).2) (fun _ _ _ _ x => x)⟩
  · rw [Hp.at_append] at hb
    split at hb
    · rename_i e; subst e; cases hb; exact .inl ⟨rfl, hm⟩
    · exact H.box b cells hb
  · obtain ⟨⟨c, hc⟩, hl⟩ := H.dom b blk x
    refine ⟨⟨c, ?_⟩, hl⟩
    rw [List.getElem?_append_left (List.getElem?_eq_some_iff.1 hc).1]; exact hc
  · rw [Hp.at_append] at x x'
    split at x
    · subst_vars; rw [hm] at y; cases y
    · split at x'
      · subst_vars; rw [hm] at y'; cases y'
      · exact H.inj b b' c c' blk x x' y y'
  · rw [Hp.at_append] at hb
    split at hb
    · cases hb; simp at hc
    · exact H.own b cells off s n xs blk v hb hc hm' hv
theorem WorldOK.die (H : WorldOK G h w) {b : Nat} {cells : List C} (hb : h.at b = some cells) : WorldOK G (h.set b (some deadC)) w := by
  have hlen := Hp.at_lt hb
  have hd : liveC (some deadC) = none := rfl
  refine ⟨H.known, fun k cs hk => ?_, fun k blk x => ?_, fun k k' c c' blk x x' y y' => ?_, H.sep, H.tlt, fun k cs off s n xs blk v hk hc hm' hv => ?_, H.siz, H.mpoT (fun b l x => (mp_setN hlen rfl b l x).2) (fun _ _ _ x => x) (.refl G), H.mpiT (fun b l x => (mp_setN hlen rfl b l x).2) (fun _ _ _ _ x => x)⟩
  · rw [Hp.at_set hlen, hd] at hk
    split at hk
    · cases hk
    · exact H.box k cs hk
  · obtain ⟨⟨c, hc⟩, hl⟩ := H.dom k blk x
    refine ⟨?_, hl⟩
    rw [List.getElem?_set]
    by_cases e : b = k
    · rw [if_pos e, if_pos hlen]; exact ⟨_, rfl⟩
    · rw [if_neg e]; exact ⟨c, hc⟩
  · rw [Hp.at_set hlen, hd] at x x'
    split at x
    · cases x
    · split at x'
      · cases x'
      · exact H.inj k k' c c' blk x x' y y'
  · rw [Hp.at_set hlen, hd] at hk
    split at hk
    · cases hk
    · exact H.own k cs off s n xs blk v hk hc hm' hv
theorem own_addB (H : WorldOK G h w) {id blk : Nat} {z : Nat × Nat} {p : Place} {v : Value} {s n : Nat} (hblk : (∃ b, G.μ b = some blk) ∨ w.heap.size ≤ blk) (O : OwnRow G w p v s n) : OwnRow (addB G id blk z) w p v s n := by
  rcases O with O | ⟨g, cap, cur, e, a1, a2, a3, a4, a5, a6⟩
  · exact .inl O
  · refine .inr ⟨g, cap, cur, e, a1, a2, a3, a4, a5, fun b => ?_⟩
    simp only [addB]
    split
    · intro x
      cases x
      rcases hblk with ⟨b', hb'⟩ | hblk
      · exact a6 b' hb'
      · have := H.tlt _ _ a2; omega
    · exact a6 b
theorem WorldOK.growNew (H : WorldOK G h w) (cells : List C) (vs : Array Value) (e : TypeId) (fr : Nat × Nat) (hfr : fr.2 = 0 ∨ vs.size ≤ fr.1) (hos : w'.os = w.os) (ht : w'.tape = w.tape) (ho : w'.output = w.output)
    (hh : w'.heap = w.heap.push (.cells vs e fr)) (hl : cells.length ≤ vs.size) (hr : RepL G cells (vs.toList.take cells.length)) (h1 : ∀ v ∈ vs.toList, v.oneCell' = true) (hno : ∀ x ∈ cells, x.noOwn) :
    WorldOK (addB G h.length w.heap.size (vs.size, e)) (h ++ [some cells]) w' ∧ Ext G w (addB G h.length w.heap.size (vs.size, e)) w' := by
  have hm := H.μnone (Nat.le_refl _)
  have hs := H.σnone (Nat.le_refl _)
  have hnew : w'.heap[w.heap.size]? = some (.cells vs e fr) := by rw [hh]; simp
  have hold : ∀ g, g < w.heap.size → w'.heap[g]? = w.heap[g]? := fun g hg => by rw [hh, Array.getElem?_push, if_neg (by omega)]
  have hsz : w'.heap.size = w.heap.size + 1 := by rw [hh]; simp
  have E : Ext G w (addB G h.length w.heap.size (vs.size, e)) w' := by
    refine ⟨hos, ht, ho, by omega, hold, fun _ _ _ => rfl, fun _ _ => rfl, fun b => ?_, fun b z x => ?_⟩
    · simp only [addB]
      by_cases hb : b = h.length
      · subst hb; exact .inr ⟨hm, w.heap.size, Nat.le_refl _, by simp⟩
      · exact .inl (by simp [hb])
    · have : b ≠ h.length := fun e => by rw [e, hs] at x; cases x
      simp only [addB]; rw [if_neg this]; exact x
  have hmp := mp_appN (h := h) (o := some cells) (mpL_one hr fun v hv => h1 v (List.mem_of_mem_take hv))
  refine ⟨⟨?_, ?_, ?_, ?_, ?_, ?_, ?_, ?_, H.mpoT (fun b l x => (hmp b l x).2) (map_old E.heap) (E.le H), H.mpiT (fun b l x => (hmp b l x).2) (fun b l blk x y => by simp only [addB] at y; rw [if_neg (hmp b l x).1] at y; exact y)⟩, E⟩
  · intro blk off u hk
    have hk' : G.K blk off = some u := hk
    rw [E.cell (H.klt hk')]
    exact H.known blk off u hk'
  · intro b cs hb
    rw [Hp.at_append] at hb
    split at hb
    · rename_i hbi
      subst hbi
      have hb' := liveC_some hb
      simp only [Option.some.injEq] at hb'
      subst hb'
      exact .inr ⟨w.heap.size, vs, e, by simp [addB], ⟨fr, hnew, hfr⟩, hl, hr.mono (E.le H), h1⟩
    · rename_i hbi
      rcases H.box b cs hb with ⟨hE, hE2⟩ | ⟨blk, cs', e', q1, q2, q0, q3, q4⟩
      · exact .inl ⟨hE, by simp [addB, hbi, hE2]⟩
      · exact .inr ⟨blk, cs', e', by simp [addB, hbi, q1], by rw [hold blk (H.μlt q1)]; exact q2, q0, q3.mono (E.le H), q4⟩
  · intro b blk hb
    simp only [addB] at hb
    split at hb
    · rename_i hbi; subst hbi; cases hb
      exact ⟨⟨cells, by simp⟩, by omega⟩
    · obtain ⟨⟨c, hc⟩, hl⟩ := H.dom b blk hb
      exact ⟨⟨c, by rw [List.getElem?_append_left (List.getElem?_eq_some_iff.1 hc).1]; exact hc⟩, by omega⟩
  · intro b b' c c' blk ha ha' hb hb'
    rw [Hp.at_append] at ha ha'
    simp only [addB] at hb hb'
    split at hb <;> split at hb'
    · omega
    · simp only [Option.some.injEq] at hb; have := H.μlt hb'; omega
    · simp only [Option.some.injEq] at hb'; have := H.μlt hb; omega
    · rename_i n1 n2
      rw [if_neg n1] at ha
      rw [if_neg n2] at ha'
      exact H.inj b b' c c' blk ha ha' hb hb'
  · intro b blk hb
    simp only [addB] at hb
    split at hb
    · simp only [Option.some.injEq] at hb
      subst hb
      exact ⟨fun o => H.knone (Nat.le_refl _) o, H.tnone (Nat.le_refl _)⟩
    · exact H.sep b blk hb
  · intro g p hg
    have := H.tlt g p hg
    omega
  · intro b cs off s n xs blk v hb hc hm' hv
    rw [Hp.at_append] at hb
    split at hb
    · have hb' := liveC_some hb
      simp only [Option.some.injEq] at hb'
      subst hb'
      exact (hno _ (List.mem_of_getElem? hc)).elim
    · rename_i hbi
      simp only [addB, hbi, if_false] at hm'
      have hlt := H.μlt hm'
      rw [E.cell hlt] at hv
      exact E.own H (H.own b cs off s n xs blk v hb hc hm' hv)
  · intro b z hz
    simp only [addB] at hz
    split at hz
    · rename_i hbi; subst hbi; cases hz
      exact ⟨w.heap.size, vs, e, fr, by simp [addB], hnew, rfl, rfl⟩
    · rename_i hbi
      obtain ⟨blk, cs', e', fr', q1, q2, q3⟩ := H.siz b z hz
      exact ⟨blk, cs', e', fr', by simp [addB, hbi, q1], by rw [hold blk (H.μlt q1)]; exact q2, q3⟩
theorem WorldOK.rename (H : WorldOK G h w) {b blk : Nat} {z : Nat × Nat} {cells : List C} (hb : h.at b = some cells) (hμ : G.μ b = some blk) (hσ : G.σ b = some z) (hno : ∀ x ∈ cells, x.noOwn) :
    WorldOK (addB G h.length blk z) (h.set b (some deadC) ++ [some cells]) w := by
  have hlen := Hp.at_lt hb
  have hd : liveC (some deadC) = none := rfl
  have le := addB_le (blk := blk) (z := z) H (Nat.le_refl h.length)
  have hat : ∀ k, Hp.at (h.set b (some deadC) ++ [some cells]) k = if k = h.length then some cells else if k = b then none else h.at k := fun k => by
    rw [Hp.at_append, List.length_set]
    split
    · have := hb
      unfold Hp.at at this
      rw [Hp.at_some hb] at this
      exact this
    · rw [Hp.at_set hlen, hd]
  have hbne : b ≠ h.length := by omega
  have hmp : ∀ k l, Hp.mp (h.set b (some deadC) ++ [some cells]) k = some l → k ≠ h.length ∧ h.mp k = some l := fun k l x => by
    obtain ⟨n1, n2⟩ := mp_appN (mpL_live (live_at hb)) k l x
    rw [List.length_set] at n1
    exact ⟨n1, (mp_setN hlen rfl k l n2).2⟩
  refine ⟨H.known, fun k cs hk => ?_, fun k q x => ?_, fun k k' c c' q x x' y y' => ?_, fun k q x => ?_, H.tlt, fun k cs off s n xs q v hk hc hm' hv => ?_, fun k z' x => ?_, H.mpoT (fun b l x => (hmp b l x).2) (fun _ _ _ x => x) le, H.mpiT (fun b l x => (hmp b l x).2) (fun b l blk x y => by simp only [addB] at y; rw [if_neg (hmp b l x).1] at y; exact y)⟩
  · rw [hat] at hk
    split at hk
    · rename_i e
      subst e
      cases hk
      obtain ⟨cs', e', q1, q2, q3, q4⟩ := H.bx hb hμ
      exact .inr ⟨blk, cs', e', by simp [addB], q1, q2, q3.mono le, q4⟩
    · split at hk
      · cases hk
      · rename_i n1 n2
        rcases H.box k cs hk with ⟨hE, hE2⟩ | ⟨q, cs', e', q1, q2, q0, q3, q4⟩
        · exact .inl ⟨hE, by simp [addB, n1, hE2]⟩
        · exact .inr ⟨q, cs', e', by simp [addB, n1, q1], q2, q0, q3.mono le, q4⟩
  · simp only [addB] at x
    split at x
    · rename_i e; subst e; cases x
      refine ⟨⟨cells, ?_⟩, H.μlt hμ⟩
      rw [List.getElem?_append_right (by simp)]; simp
    · obtain ⟨⟨c, hc⟩, hl⟩ := H.dom k q x
      have hkl := (List.getElem?_eq_some_iff.1 hc).1
      refine ⟨?_, hl⟩
      rw [List.getElem?_append_left (by simpa using hkl), List.getElem?_set]
      by_cases e : b = k
      · rw [if_pos e, if_pos hlen]; exact ⟨_, rfl⟩
      · rw [if_neg e]; exact ⟨c, hc⟩
  · rw [hat] at x x'
    simp only [addB] at y y'
    split at x <;> split at x'
    · omega
    · rename_i e1 e2
      rw [if_pos e1] at y
      rw [if_neg e2] at y'
      split at x'
      · cases x'
      · rename_i n2
        cases y
        exact absurd (H.inj k' b _ _ _ x' hb y' hμ) n2
    · rename_i e1 e2
      rw [if_neg e1] at y
      rw [if_pos e2] at y'
      split at x
      · cases x
      · rename_i n2
        cases y'
        exact absurd (H.inj k b _ _ _ x hb y hμ) n2
    · rename_i e1 e2
      rw [if_neg e1] at y
      rw [if_neg e2] at y'
      split at x
      · cases x
      · split at x'
        · cases x'
        · exact H.inj k k' c c' q x x' y y'
  · simp only [addB] at x
    split at x
    · cases x; exact H.sep b _ hμ
    · exact H.sep k q x
  · rw [hat] at hk
    split at hk
    · cases hk
      exact (hno _ (List.mem_of_getElem? hc)).elim
    · rename_i n1
      split at hk
      · cases hk
      · simp only [addB] at hm'
        rw [if_neg n1] at hm'
        exact own_addB H (.inl ⟨b, hμ⟩) (H.own k cs off s n xs q v hk hc hm' hv)
  · simp only [addB] at x ⊢
    split at x
    · rename_i e
      cases x
      obtain ⟨q, cs', e', fr', q1, q2, q3⟩ := H.siz b _ hσ
      rw [hμ] at q1; cases q1
      exact ⟨blk, cs', e', fr', by rw [if_pos e], q2, q3⟩
    · rename_i e
      obtain ⟨q, cs', e', fr', q1, q2, q3⟩ := H.siz k z' x
      exact ⟨q, cs', e', fr', by rw [if_neg e]; exact q1, q2, q3⟩
theorem WorldOK.noRs (H : WorldOK G h w) {b : Nat} {cells : List C} (hb : h.at b = some cells) : WorldOK G (h.set b (some (cells.map C.noR))) w := by
  have hlen := Hp.at_lt hb
  refine ⟨H.known, fun k cs hk => ?_, fun k blk x => ?_, fun k k' c c' blk x x' y y' => ?_, H.sep, H.tlt, fun k cs off s n xs blk v hk hc hm' hv => ?_, H.siz, H.mpoT (fun b l x => (mp_setN hlen (mpL_noR (live_at hb)) b l x).2) (fun _ _ _ x => x) (.refl G), H.mpiT (fun b l x => (mp_setN hlen (mpL_noR (live_at hb)) b l x).2) (fun _ _ _ _ x => x)⟩
  · rw [Hp.at_set hlen] at hk
    split at hk
    · rename_i e
      subst e
      have hk' := liveC_some hk
      simp only [Option.some.injEq] at hk'
      subst hk'
      rcases H.box k cells hb with ⟨hE, hE2⟩ | ⟨q, cs', e', q1, q2, q0, q3, q4⟩
      · exact .inl ⟨by rw [hE]; rfl, hE2⟩
      · exact .inr ⟨q, cs', e', q1, q2, by simpa using q0, by rw [List.length_map]; exact q3.map_noR, q4⟩
    · exact H.box k cs hk
  · obtain ⟨⟨c, hc⟩, hl⟩ := H.dom k blk x
    refine ⟨?_, hl⟩
    rw [List.getElem?_set]
    by_cases e : b = k
    · rw [if_pos e, if_pos hlen]; exact ⟨_, rfl⟩
    · rw [if_neg e]; exact ⟨c, hc⟩
  · have f : ∀ (x : Nat) (c : List C), Hp.at (h.set b (some (cells.map C.noR))) x = some c → ∃ c', h.at x = some c' := fun x c hx => by
      rw [Hp.at_set hlen] at hx
      split at hx
      · rename_i e'; subst e'; exact ⟨_, hb⟩
      · exact ⟨_, hx⟩
    obtain ⟨d1, hd1⟩ := f k c x
    obtain ⟨d2, hd2⟩ := f k' c' x'
    exact H.inj k k' d1 d2 blk hd1 hd2 y y'
  · rw [Hp.at_set hlen] at hk
    split at hk
    · have hk' := liveC_some hk
      simp only [Option.some.injEq] at hk'
      subst hk'
      obtain ⟨y, _, hy⟩ := List.mem_map.1 (List.mem_of_getElem? hc)
      exact (noR_own hy).elim
    · exact H.own k cs off s n xs blk v hk hc hm' hv
theorem zeroCells_one (z : Array Value) (h : ∀ v ∈ z.toList, v.oneCell' = true) (n : Nat) : ∀ u ∈ (Builtin.zeroCells z n).toList, u.oneCell' = true := by
  exact made_one z h n
theorem live_noR {cells : List C} (h : liveC (some cells) = some cells) : liveC (some (cells.map C.noR)) = some (cells.map C.noR) := by
  cases cells with
  | nil => rfl
  | cons x l =>
    cases x with
    | tup xs => cases h
    | sl r n xs => cases r <;> rfl
    | _ => rfl
theorem Hp.at_live {h : Hp} {b : Nat} {cells : List C} (hb : h.at b = some cells) : liveC (some cells) = some cells := by
  have := hb
  unfold Hp.at at this
  rw [Hp.at_some hb] at this
  exact this
theorem Hp.set_same {h : Hp} {b : Nat} {cells : List C} (hb : h.at b = some cells) : h.set b (some cells) = h := by
  apply List.ext_getElem?
  intro j
  rw [List.getElem?_set]
  split
  · rename_i hj
    subst hj
    rw [if_pos (Hp.at_lt hb), Hp.at_some hb]
  · rfl
theorem grow_core (H : Pre cx G w st a) (d : Place) {t t2 ty e : TypeId} {dt d2 de : TD} (hd : td cx.P t = some dt) (hde : dt.u = .slice e) (he : td cx.P e = some de)
    (hd2 : td cx.P t2 = some d2) (hn2 : notInt d2.u = true)
    {xc : C} {xv : Value} (hx : Rep G xc xv) {n : Nat} {b : Option (Nat × Nat)}
    (hs : (n = 0 ∧ b = none ∧ ∃ ad, xv = .slice ad 0 0) ∨ (∃ b', b = some (b', n) ∧ xc = .gv b' n (de.size, e)))
    {yv : Value} {m : Nat} {ys : List C} {news : List Value} (hnl : news.length = ys.length) (hry : RepL G ys news) (hsrc : Src cx.P w de.size yv m news)
    (h2 : ys.length = m * de.size) (h3 : 0 < de.size) (h4 : de.zero.length = de.size) (h5 : (n + m) * de.bytes ≤ 140737488355328) (h6 : n + m ≤ 9223372036854775807) (hz1 : de.zero.all (·.oneCell') = true)
    {f : Hp → Option (List C)} (hf : f st.h = some ys) {id : Nat} {c : C} {st' : St} (hact : act cx id (.ap b (de.size, e) m f) st = some (c, st')) :
    ∃ v w' G', (Builtin.append_ #[t, t2] ty #[xv, yv]).run cx.P w = .ok v w' ∧ Out G w st' (av a) d c v G' w' := by
  have hml : maxLen = 9223372036854775807 := by decide
  obtain ⟨_, i, z, hi, hsz, hby, hz, hzz⟩ := td_spec he
  have hzl : z.cells.size = de.size := by rw [← h4, ← hzz]; simp
  have hry' : RepL G (ys.map C.noR) news := hry.map_noR
  have nor : ∀ (l : List C), ∀ x ∈ l.map C.noR, x.noOwn := fun l x hx => by obtain ⟨y, _, rfl⟩ := List.mem_map.1 hx; exact noOwn_noR y
  simp only [act, actH, hf, Option.bind_some] at hact
  have fresh : ∀ (st0 : St) (H0 : WorldOK G st0.h w) (henv : EnvOK G w st0.env (av a)) (ad : Option Addr) (cap : Nat) (hxv : xv = .slice ad n cap) (hgr : cap < n + m) (olds : List Value) (xs : List C) (o1 : olds.length = n * de.size)
      (o2 : RepL G (xs.map C.noR) olds) (o3 : Src cx.P w de.size (.slice ad n cap) n olds),
      ∃ v w' G', (Builtin.append_ #[t, t2] ty #[xv, yv]).run cx.P w = .ok v w' ∧ Out G w ⟨st0.env, st0.h ++ [some ((xs ++ ys).map C.noR)]⟩ (av a) d (.gv st0.h.length (n + m) (de.size, e)) v G' w' := by
    intro st0 H0 henv ad cap hxv hgr olds xs o1 o2 o3
    subst hxv
    have hrun := run_append_more (P := cx.P) (w := w) t t2 ty e dt d2 de z i hd hde he hi hz hd2 hn2 ad n cap olds o3 yv m news hsrc hgr h6 h5
    have hge := grownCap_ge w (n + m) cap e
    have hcm' : grownCap w (n + m) cap e ≤ maxLen := grownCap_le_maxLen w (n + m) cap e (by omega)
    have hrep := o2.append hry'
    rw [← List.map_append] at hrep
    have hlen := hrep.length
    obtain ⟨W, E⟩ := WorldOK.growNew (w' := w.drew.alloc (.cells (olds ++ news ++ (Builtin.zeroCells z.cells (grownCap w (n + m) cap e - (n + m))).toList).toArray e)) H0 ((xs ++ ys).map C.noR)
      (olds ++ news ++ (Builtin.zeroCells z.cells (grownCap w (n + m) cap e - (n + m))).toList).toArray e (0, 0) (.inl rfl) rfl rfl rfl rfl (by rw [hlen]; simp) (by
        rw [hlen]
        simp only [List.take_append, List.length_append, Nat.sub_self, List.take_zero, List.append_nil, List.toList_toArray]
        rw [List.take_of_length_le (by simp), List.take_of_length_le (l := news) (by simp)]
        exact hrep) (by
        intro u hu
        simp only [List.mem_append] at hu
        rcases hu with (hu | hu) | hu
        · exact o3.2.2 u hu
        · exact hsrc.2.2 u hu
        · exact zeroCells_one z.cells (fun v hv => by rw [hzz] at hv; exact (List.all_eq_true.1 hz1) v hv) _ u hu) (nor _)
    refine ⟨_, _, _, hrun, ⟨?_, by simp, W, E.env H0 henv, E.frm H0⟩⟩
    simp only [Rep]
    refine ⟨_, _, rfl, hge, hcm', .inr ⟨w.heap.size, by simp [addB], rfl, ?_⟩⟩
    simp only [addB, if_true, Option.some.injEq, Prod.mk.injEq, and_true]
    simp only [List.size_toArray, List.length_append, Array.length_toList, size_zeroCells']
    rw [o1, hnl, h2, hzl, ← Nat.add_mul, ← Nat.add_mul]
    congr 1
    omega
  have nothing : ∀ (ad : Option Addr) (cap : Nat), xv = .slice ad n cap → cap = n → m = 0 → (Builtin.append_ #[t, t2] ty #[xv, yv]).run cx.P w = .ok xv w := by
    intro ad cap h1 h2' h3'
    subst h1 h2' h3'
    have hn0 : news = [] := List.eq_nil_of_length_eq_zero (by rw [hnl, h2, Nat.zero_mul])
    refine run_append_nothing t t2 ty e dt d2 de hd hde he hd2 hn2 ad _ yv ?_
    rw [hn0] at hsrc
    exact hsrc
  rcases hs with ⟨rfl, rfl, ad, hxv⟩ | ⟨b', rfl, hxc⟩
  · simp only [Option.map_some, Option.some.injEq, Prod.mk.injEq] at hact
    obtain ⟨rfl, rfl⟩ := hact
    by_cases hm : m = 0
    · have hrun := nothing ad 0 hxv rfl hm
      subst hm
      have hy0 : ys = [] := List.eq_nil_of_length_eq_zero (by rw [h2, Nat.zero_mul])
      subst hy0
      refine ⟨_, _, G, hrun, ⟨?_, by simp, H.ok.virt, H.env, Frm.refl G w⟩⟩
      simp only [Rep]
      exact ⟨ad, 0, hxv, Nat.le_refl _, by omega, .inl ⟨trivial, rfl⟩⟩
    · have := fresh st H.ok H.env ad 0 hxv (by omega) [] [] (by simp) (by simp [RepL]) ⟨fun w' => by simp [Builtin.lenOf], fun w' _ => by cases ad <;> simp [Builtin.firstCells, loadCells, loadCellsFrom], by simp⟩
      simpa [killS] using this
  · subst hxc
    have hsv := asSv_rep hx
    simp only [Rep] at hx
    obtain ⟨ad, cap, hxv, hnc, hcm, hdj⟩ := hx
    simp only [] at hact
    cases hb : st.h.at b' with
    | none => rw [hb] at hact; cases hact
    | some cells =>
      rw [hb] at hact
      simp only [Option.bind_some] at hact
      split at hact
      · rename_i hA
        simp only [Option.map_some, Option.some.injEq, Prod.mk.injEq] at hact
        obtain ⟨rfl, rfl⟩ := hact
        rcases hdj with ⟨rfl, rfl⟩ | ⟨blk, hμ, rfl, hσ⟩
        · have hm : m = 0 := by omega
          have hrun := nothing ad 0 hxv rfl hm
          subst hm
          have hy0 : ys = [] := List.eq_nil_of_length_eq_zero (by rw [h2, Nat.zero_mul])
          subst hy0
          have hsp : splice cells (0 * de.size) ([].map C.noR) = cells := by simp [splice]
          rw [hsp, Hp.set_same hb]
          refine ⟨_, _, G, hrun, ⟨?_, by simp, H.ok, H.env, Frm.refl G w⟩⟩
          simp only [Rep]
          exact ⟨ad, 0, hxv, Nat.le_refl _, by omega, .inl ⟨trivial, rfl⟩⟩
        · obtain ⟨blk', cs0, e0, fr0, r1, r2, r3, r3e⟩ := H.ok.siz b' _ hσ
          rw [hμ] at r1; cases r1
          obtain ⟨old, e', q1, q2, W, rfl, w1, w2, w3⟩ := store_cells H hμ hb (off := n * de.size) (nor ys) hry' hsrc.2.2 (by rw [List.length_map, h2, ← Nat.add_mul]; exact hA.1)
          obtain ⟨cs1, e1, ⟨fr1, r4, _⟩, r5, _⟩ := H.ok.bx hb hμ
          rw [r2] at r4; cases r4
          have hco : old = cs0 := by obtain ⟨fr', q, _⟩ := q1; rw [r2] at q; cases q; rfl
          have hcap : n + m ≤ cap := Nat.le_of_mul_le_mul_right (by omega : (n + m) * de.size ≤ cap * de.size) h3
          subst hxv
          have hrun := run_append_fit (P := cx.P) (w := w) (ty := ty) t t2 e dt d2 de hd hde he hd2 hn2 blk n cap old e' q1 yv m news hsrc (by rw [hnl, h2]) hcap (by rw [hco, r3]; exact Nat.mul_le_mul_right _ hcap)
          refine ⟨_, _, G, hrun, ⟨?_, by simp, w1, w2, w3⟩⟩
          simp only [Rep]
          exact ⟨_, cap, rfl, hcap, hcm, .inr ⟨blk, hμ, rfl, hσ⟩⟩
      · rename_i hA
        have moved : ∀ cells0 : List C, cells0 = cells.take (n * de.size) → n * de.size = cells0.length → n * de.size ≤ cells.length → m ≠ 0 →
            ∃ v w' G', (Builtin.append_ #[t, t2] ty #[xv, yv]).run cx.P w = .ok v w' ∧ Out G w ⟨st.env, st.h.set b' (some deadC) ++ [some ((cells0 ++ ys).map C.noR)]⟩ (av a) d (.gv st.h.length (n + m) (de.size, e)) v G' w' := by
          intro cells0 hc0 hB hle hmp
          by_cases hgr : cap < n + m
          · obtain ⟨olds, o1, o2, o3⟩ := sv_src (P := cx.P) H.ok hb (by omega : 0 + n * de.size ≤ cells.length) hsv
            have hxs : (cells.drop 0).take (n * de.size) = cells0 := by rw [hc0]; simp
            rw [hxs] at o2
            have := fresh ⟨st.env, st.h.set b' (some deadC)⟩ (H.ok.die hb) H.env ad cap hxv hgr olds cells0 o1 o2 (hxv ▸ o3)
            simpa [killS] using this
          · rcases hdj with ⟨rfl, rfl⟩ | ⟨blk, hμ, rfl, hσ⟩
            · omega
            · have hlive := live_noR (Hp.at_live hb)
              have W1 := H.ok.noRs hb
              have hb1 : Hp.at (st.h.set b' (some (cells.map C.noR))) b' = some (cells.map C.noR) := by rw [Hp.at_set (Hp.at_lt hb), if_pos rfl, hlive]
              have W2 := W1.rename hb1 hμ hσ (nor _)
              rw [List.set_set, List.length_set] at W2
              have hat : Hp.at (st.h.set b' (some deadC) ++ [some (cells.map C.noR)]) st.h.length = some (cells.map C.noR) := by
                rw [Hp.at_append, List.length_set, if_pos rfl, hlive]
              obtain ⟨cs1, e1, ⟨fr1, r4, hfr⟩, r5, r6, r7⟩ := H.ok.bx hb hμ
              obtain ⟨blk', cs0, e0, fr0, r1, r2, r3, r3e⟩ := H.ok.siz b' _ hσ
              rw [hμ] at r1; cases r1
              rw [r4] at r2; cases r2
              have r6take : RepL G ((cells.map C.noR).take (n * de.size)) (cs1.toList.take (n * de.size)) := by
                have h0 := RepL.take r6.map_noR (n * de.size)
                rwa [List.take_take, Nat.min_eq_left hle] at h0
              have hcap : n + m ≤ cap := by omega
              have hcm2 : (n + m) * de.size ≤ cs1.size := by rw [r3]; exact Nat.mul_le_mul_right _ hcap
              subst hxv
              have hrun := run_append_fit (P := cx.P) (w := w) (ty := ty) t t2 e dt d2 de hd hde he hd2 hn2 blk n cap cs1 e1 ⟨fr1, r4, hfr⟩ yv m news hsrc (by rw [hnl, h2]) hcap hcm2
              have le := addB_le (blk := blk) (z := (cap * de.size, e)) H.ok (Nat.le_refl st.h.length)
              have hnd : n * de.size + news.length = (n + m) * de.size := by rw [hnl, h2, Nat.add_mul]
              have hlen : ((cells0 ++ ys).map C.noR).length = (n + m) * de.size := by rw [List.length_map, List.length_append, ← hB, h2, Nat.add_mul]
              have hsz : (cs1.toList.take (n * de.size) ++ news ++ cs1.toList.drop (n * de.size + news.length)).toArray.size = cs1.size := by simp; omega
              have W3 := W2.setBox (G' := addB G st.h.length blk (cap * de.size, e)) st.h.length blk (by simp [addB]) hat ((cells0 ++ ys).map C.noR)
                (cs1.toList.take (n * de.size) ++ news ++ cs1.toList.drop (n * de.size + news.length)).toArray rfl rfl (fun cs e fr x => by rw [r4] at x; cases x; exact hsz) (by rw [hsz, hlen]; exact hcm2)
                (by
                  rw [hlen, ← hnd, List.toList_toArray, List.take_append_of_le_length (by simp; omega), List.take_of_length_le (by simp; omega), List.map_append]
                  exact (RepL.append (by rw [hc0, List.map_take]; exact r6take) hry').mono le) (by
                  intro u hu
                  simp only [List.mem_append] at hu
                  rcases hu with (hu | hu) | hu
                  · exact r7 u (List.mem_of_mem_take hu)
                  · exact hsrc.2.2 u hu
                  · exact r7 u (List.mem_of_mem_drop hu)) (fun _ => Iff.rfl) (fun _ _ _ _ x => x) (fun off s n xs v hx _ => (nor _ _ (List.mem_of_getElem? hx)).elim)
              have hlist : (st.h.set b' (some deadC) ++ [some (cells.map C.noR)]).set st.h.length (some ((cells0 ++ ys).map C.noR)) = st.h.set b' (some deadC) ++ [some ((cells0 ++ ys).map C.noR)] := by
                rw [List.set_append_right _ _ (by simp)]; simp
              rw [hlist] at W3
              refine ⟨_, _, _, hrun, ⟨?_, by simp, W3, ?_, ?_⟩⟩
              · simp only [Rep]
                exact ⟨_, cap, rfl, hcap, hcm, .inr ⟨blk, by simp [addB], rfl, by simp [addB]⟩⟩
              · exact env_setRow (b := st.h.length) (by simp [addB]) _ ⟨fun t => (H.env.1 t).mono le, fun t s n xs he => own_addB H.ok (.inl ⟨b', hμ⟩) (H.env.2 t s n xs he)⟩
              · refine ⟨rfl, rfl, rfl, by simp, le, fun g _ ht hmu => ⟨setRow_other w blk g _ (fun q => hmu b' (q ▸ hμ)), ht, fun k => ?_, fun _ => rfl⟩⟩
                simp only [addB]
                split
                · intro x; cases x; exact hmu b' hμ
                · exact hmu k
        split at hact
        · rename_i hB
          simp only [Option.map_some, Option.some.injEq, Prod.mk.injEq] at hact
          obtain ⟨rfl, rfl⟩ := hact
          have hmp : m ≠ 0 := fun hm => hA ⟨by rw [hm, Nat.add_zero, hB]; exact Nat.le_refl _, .inr hm⟩
          exact moved cells (by rw [hB]; simp) hB (Nat.le_of_eq hB) hmp
        · split at hact
          · rename_i hB
            simp only [Option.map_some, Option.some.injEq, Prod.mk.injEq] at hact
            obtain ⟨rfl, rfl⟩ := hact
            subst hB
            have hmp : m ≠ 0 := fun hm => hA ⟨by rw [hm]; simp, .inr hm⟩
            exact moved [] (by simp) (by simp) (by simp) hmp
          · cases hact
theorem grow_ok (H : Pre cx G w st a) {t t2 : TypeId} {x y : Operand} {p : Plan} (ho : o.op = .call { callee := .builtin .append, args := #[x, y], argTypes := #[t, t2] })
    {yc : C} (hy : Rep G yc (a.eval y)) (hp : growPlan cx.P t t2 (cx.evn st.env x) yc = some p) {id : Nat} {c : C} {st' : St} (hact : act cx id p st = some (c, st')) (d : Place) : OpOK cx.P o a G w st' d c := by
  have hx := H.evn x
  have hex := run_builtin (P := cx.P) (w := w) (a := a) .append #[x, y] #[t, t2] (Builtin.append_ #[t, t2] o.type #[a.eval x, a.eval y]) ho (fun cs => by simp [builtin])
  unfold growPlan at hp
  split at hp
  · rename_i dt d2 hd hd2
    split at hp
    · cases hp
    rename_i hn2
    split at hp
    · rename_i e hu
      split at hp
      · cases hp
      rename_i de he
      simp only [] at hp
      have start : ∀ n b, (match cx.evn st.env x with
          | .val (.slice none 0 0) => some (0, (none : Option (Nat × Nat)))
          | .sl .full 0 _ => some (0, none)
          | .gv b n s => if s = (de.size, e) then some (n, some (b, n)) else none
          | _ => none) = some (n, b) → (n = 0 ∧ b = none ∧ ∃ ad, a.eval x = .slice ad 0 0) ∨ (∃ b', b = some (b', n) ∧ cx.evn st.env x = .gv b' n (de.size, e)) := by
        intro n b hs
        split at hs
        · rename_i hc
          cases hs
          rw [hc, rep_val] at hx
          exact .inl ⟨rfl, rfl, none, hx⟩
        · rename_i xs hc
          cases hs
          rw [hc] at hx
          simp only [Rep] at hx
          obtain ⟨ad, cap, h1, _, _, h4, _⟩ := hx
          exact .inl ⟨rfl, rfl, ad, by rw [h1, h4 trivial]⟩
        · rename_i b' n' s hc
          split at hs
          · rename_i hsz
            cases hs
            exact .inr ⟨b', rfl, by rw [hc, hsz]⟩
          · cases hs
        · cases hs
      split at hp
      · cases hp
      rename_i n b hs
      have hst := start n b hs
      split at hp
      · rename_i b' off m
        cases hp
        have hact' := hact
        simp only [act, actH] at hact'
        cases hb : st.h.at b' with
        | none => rw [hb] at hact'; cases hact'
        | some cells =>
          rw [hb] at hact'
          simp only [Option.bind_some] at hact'
          split at hact'
          · rename_i hf
            obtain ⟨hoff, hfin⟩ := hf
            simp only [decide_eq_true_eq] at hfin
            obtain ⟨f1, f2, f3, f4, f5, f6⟩ := hfin
            obtain ⟨news, n1, n2, n3⟩ := sv_src (P := cx.P) H.ok hb hoff hy
            obtain ⟨v, w', G', r1, r2⟩ := grow_core H d (ty := o.type) hd hu he hd2 (by simpa using hn2) hx hst (by rw [n1, f1]) n2 n3 f1 f2 f3 f4 f5 f6 (by
              rw [hb]; simp only [Option.bind_some]; rw [if_pos ⟨hoff, by simp only [decide_eq_true_eq]; exact ⟨f1, f2, f3, f4, f5, f6⟩⟩]) hact
            exact OpOK.of_run (by rw [hex, r1]; rfl) ⟨G', r2⟩
          · cases hact'
      · rename_i hnsv
        split at hp
        · rename_i m ys hsrc
          split at hp
          · rename_i hfin
            cases hp
            simp only [decide_eq_true_eq] at hfin
            obtain ⟨f1, f2, f3, f4, f5, f6⟩ := hfin
            obtain ⟨news, n1, n2, n3⟩ := src_ok (P := cx.P) H.ok hsrc f1 hy
            obtain ⟨v, w', G', r1, r2⟩ := grow_core H d (ty := o.type) hd hu he hd2 (by simpa using hn2) hx hst n1 n2 n3 f1 f2 f3 f4 f5 f6 rfl hact
            exact OpOK.of_run (by rw [hex, r1]; rfl) ⟨G', r2⟩
          · cases hp
        · cases hp
    · cases hp
  · cases hp
theorem convG_ok (H : Pre cx G w st a) {s d : TypeId} {x : Operand} {p : Plan} (ho : o.op = .convert s d x) (hp : convG cx.P s d (cx.evn st.env x) = some p)
    {id : Nat} {c : C} {st' : St} (hact : act cx id p st = some (c, st')) (dp : Place) : OpOK cx.P o a G w st' dp c := by
  have hx := H.evn x
  have hex : (execOp a.eval o).run cx.P w = ((convert s d (a.eval x)).run cx.P w).andThen fun v w' => .ok (.value v) w' := by
    simp only [execOp, ho, Sem.run_bind, Sem.run_pure]
  unfold convG at hp
  split at hp
  · rename_i ds dd hs hd
    split at hp
    · rename_i e str hsu hdu hc
      split at hp
      · rename_i de he
        split at hp
        · rename_i heu
          split at hp
          · rename_i hle
            cases hp
            simp only [act, actH, Option.bind_some, Option.map_some, Option.some.injEq, Prod.mk.injEq] at hact
            obtain ⟨rfl, rfl⟩ := hact
            rw [hc, rep_val] at hx
            have hrun := run_bytes_of_string (P := cx.P) w s d e str (hsu ▸ (td_spec hs).1) (hdu ▸ (td_spec hd).1) (heu ▸ (td_spec he).1)
            have hml : maxLen = 9223372036854775807 := by decide
            have hge := grownCap_ge w str.size 0 e
            have hbr : (bytesRow str (grownCap w str.size 0 e)).toList = (str.data.toList.map fun b => Value.int .u8 b.toNat) ++ List.replicate (grownCap w str.size 0 e - str.size) (.int .u8 0) := by
              simp [bytesRow]
            have hsz : (bytesRow str (grownCap w str.size 0 e)).size = grownCap w str.size 0 e := by
              have := congrArg List.length hbr
              simp only [Array.length_toList, List.length_append, List.length_map, List.length_replicate] at this
              have h2 : str.data.size = str.size := rfl
              omega
            have hlen : ((str.data.toList.map byteC).map C.noR).length = str.size := by simp
            obtain ⟨W, E⟩ := WorldOK.growNew (w' := w.drew.alloc (.cells (bytesRow str (grownCap w str.size 0 e)) e ((bytesRow str (grownCap w str.size 0 e)).size, (bytesRow str (grownCap w str.size 0 e)).size + 1)))
              H.ok ((str.data.toList.map byteC).map C.noR) _ e _ (.inr (Nat.le_refl _)) rfl rfl rfl rfl (by rw [hlen, hsz]; exact hge) (by
                rw [hlen, hbr, List.take_append_of_le_length (by simp), List.take_of_length_le (by simp)]
                refine RepL.of_get (by simp) fun i z v hz hv => ?_
                simp only [List.getElem?_map] at hz hv
                cases hb : str.data.toList[i]? with
                | none => rw [hb] at hz; cases hz
                | some b => rw [hb] at hz hv; cases hz; cases hv; exact rep_val.2 rfl) (by
                intro u hu
                rw [hbr] at hu
                rcases List.mem_append.1 hu with hu | hu
                · obtain ⟨b, _, rfl⟩ := List.mem_map.1 hu; rfl
                · obtain ⟨_, rfl⟩ := List.mem_replicate.1 hu; rfl) (fun x hx => by obtain ⟨y, _, rfl⟩ := List.mem_map.1 hx; exact noOwn_noR y)
            refine OpOK.of_run (by rw [hex, hx, hrun]; rfl) ⟨_, ?_, by simp, W, E.env H.ok H.env, E.frm H.ok⟩
            simp only [Rep]
            refine ⟨_, _, rfl, hge, grownCap_le_maxLen w str.size 0 e (by omega), .inr ⟨w.heap.size, by simp [addB], rfl, ?_⟩⟩
            simp only [addB, if_true, hsz, Nat.mul_one]
          · cases hp
        · cases hp
      · cases hp
    · cases hp
  · cases hp
theorem lay_length {pl : Nat → Option (Nat × Nat)} : ∀ {l : List (Nat × C)} {cells cs : List C}, lay pl cells l = some cs → cs.length = cells.length
  | [], cells, cs, h => by simp only [lay, Option.some.injEq] at h; rw [h]
  | (i, c) :: rest, cells, cs, h => by
    simp only [lay] at h
    split at h
    · rename_i off size cs' h1 h2
      split at h
      · rename_i hc
        have := lay_length h
        rw [this]
        unfold splice
        simp only [List.length_append, List.length_take, List.length_drop]
        omega
      · cases h
    · cases h
theorem buildG_ok (H : Pre cx G w st a) (dp : Place) {t e : TypeId} {d de : TD} {n : Nat} {parts : Array (Nat × Operand)} {cs : List C} (hd : td cx.P t = some d) (hu : d.u = .slice e) (he : td cx.P e = some de)
    (hz1 : de.zero.all (·.oneCell') = true) (hn : n * de.size ≤ 65536 ∧ n ≤ 65536 ∧ de.zero.length = de.size)
    (h : lay (fun i => some (i * de.size, de.size)) (repZero de.zero n) (parts.toList.map fun x => (x.1, cx.evn st.env x.2)) = some cs) :
    ∃ v w' G', (Instr.buildSlice t n (parts.map fun (i, x) => (i, a.eval x))).run cx.P w = .ok v w' ∧ Out G w ⟨st.env, st.h ++ [some (cs.map C.noR)]⟩ (av a) dp (.gv st.h.length n (de.size, e)) v G' w' := by
  obtain ⟨cs', f2, f3, hrun⟩ := buildSlice_run H hd hu he hz1 hn h
  have hml : maxLen = 9223372036854775807 := by decide
  have hl : cs'.size = n * de.size := by
    have h1 := f2.length
    have h2 := lay_length h
    have h3 : ∀ q, (repZero de.zero q).length = q * de.size := by
      intro q
      induction q with
      | zero => simp [repZero]
      | succ q ih => simp [repZero, ih, hn.2.2, Nat.add_mul]; omega
    rw [h3] at h2
    simp at h1; omega
  have hcl : (cs.map C.noR).length = cs'.toList.length := by rw [List.length_map]; exact f2.length
  obtain ⟨W, E⟩ := WorldOK.growNew (w' := w.alloc (.cells cs' e)) H.ok (cs.map C.noR) cs' e (0, 0) (.inl rfl) rfl rfl rfl rfl (by rw [hcl]; simp) (by rw [hcl, List.take_length]; exact f2.map_noR) f3
    (fun x hx => by obtain ⟨y, _, rfl⟩ := List.mem_map.1 hx; exact noOwn_noR y)
  refine ⟨_, _, _, hrun, ⟨?_, by simp, W, E.env H.ok H.env, E.frm H.ok⟩⟩
  simp only [Rep]
  exact ⟨_, _, rfl, Nat.le_refl _, by omega, .inr ⟨w.heap.size, by simp [addB], rfl, by simp [addB, hl]⟩⟩
theorem sliceG_ok (H : Pre cx G w st a) {t : TypeId} {x : Operand} {hi : Option Operand} {p : Plan} {b n : Nat} {s : Nat × Nat} (hx : Rep G (.gv b n s) (a.eval x))
    (h : sliceG cx.P t b n s (hi.map (cx.evn st.env)) = some p) :
    ∃ c v, p = .val c none ∧ c.noOwn ∧ (Instr.sliceAt t (a.eval x) none (hi.map a.eval) none).run cx.P w = .ok v w ∧ Rep G c v := by
  unfold sliceG at h
  split at h
  · rename_i d hd
    have hud := (td_spec hd).1
    split at h
    · rename_i e hs
      split at h
      · rename_i de hh hde hhe
        split at h
        · rename_i hsz
          cases h
          simp only [Rep] at hx
          obtain ⟨ad, cap, hxv, hnc, hcm, hdj⟩ := hx
          unfold Instr.sliceAt
          simp only [Sem.run_bind, run_und hd, Result.andThen_ok]
          rw [hs, hxv]
          simp only [Instr.slice, Sem.run_bind, run_und hd, Result.andThen_ok, hs]
          have b1 := bound?_spec H hhe
          have hhn : hh ≤ n := by rcases b1 with ⟨_, rfl⟩ | ⟨y, kd, _, _, hl⟩ <;> omega
          have hrun := run_bounds (P := cx.P) (w := w) true n cap none (hi.map a.eval) 0 hh
            (by rcases b1 with ⟨rfl, rfl⟩ | ⟨y, kd, rfl, e, hl⟩ <;> simp [*]; omega)
            (by simp)
          simp only [Option.map_none, hrun, Result.andThen_ok, Sem.run_pure, run_size hde]
          refine ⟨_, _, rfl, trivial, rfl, ?_⟩
          simp only [Rep]
          refine ⟨_, _, rfl, by omega, by omega, ?_⟩
          rcases hdj with ⟨rfl, rfl⟩ | ⟨blk, q1, rfl, q2⟩
          · left; omega
          · by_cases h0 : cap = 0
            · left; omega
            · right
              refine ⟨blk, q1, ?_, by simpa using q2⟩
              rw [if_neg h0]
              simp [addr_add]
        · cases h
      · cases h
    · cases h
  · cases h
end
end Go.Sx
