/-
   And what follows.
-/
import Derived.Test.YtmoaeemdlompaaaDoorPau
import Derived.Test.YtmoaeemdlompaaaDoorPat
import Derived.Test.YtmoaeemdlompaaaDoorPar
set_option linter.unusedSimpArgs false
set_option linter.unusedVariables false
namespace Go.Sx
open Go.RowKit Go.Proofs
def I64 (x : Int) : Prop := -9223372036854775808 ≤ x ∧ x ≤ 9223372036854775807
def PB (n : Nat) (p : PrZ) : Prop := I64 p.1 ∧ I64 p.2.1 ∧ p.2.2.1.length ≤ n ∧ (∀ i, i < p.2.2.1.length → (gt p.2.2.1 i).1.length ≤ n ∧ (gt p.2.2.1 i).2.length ≤ n) ∧ p.2.2.2.length ≤ n
theorem wr_in (x : Int) : I64 (wr64 x) := by
  have e : IntKind.wrap .i64 x = if x % 18446744073709551616 ≥ 9223372036854775808 then x % 18446744073709551616 - 18446744073709551616 else x % 18446744073709551616 := by
    simp [IntKind.wrap, IntKind.bits, IntKind.signed]
  unfold I64 wr64
  rw [e]
  constructor <;> split <;> omega
theorem PB.mono {n m : Nat} {p : PrZ} (h : PB n p) (hm : n ≤ m) : PB m p := ⟨h.1, h.2.1, by have := h.2.2.1; omega, fun i hi => by have := h.2.2.2.1 i hi; omega, by have := h.2.2.2.2; omega⟩
theorem all_gt {l : List Leaf} {n : Nat} : (∀ i, i < l.length → (gt l i).1.length ≤ n ∧ (gt l i).2.length ≤ n) ↔ ∀ x ∈ l, x.1.length ≤ n ∧ x.2.length ≤ n := by
  constructor
  · intro h x hx
    obtain ⟨i, hi, rfl⟩ := List.getElem_of_mem hx
    have := h i hi
    rwa [gtE hi] at this
  · intro h i hi
    rw [gtE hi]; exact h _ (List.getElem_mem hi)
theorem set_in {α : Type} {l : List α} {k : Nat} {a x : α} (h : x ∈ l.set k a) : x ∈ l ∨ x = a := List.mem_or_eq_of_mem_set h
theorem bent_pb {n : Nat} {p : PrZ} {w y : Int} (h : PB n p) (hy : I64 y) : PB (n + 2) (bentT p w y) := by
  obtain ⟨f, z, l, S⟩ := p
  obtain ⟨h1, h2, h3, h4, h5⟩ := h
  simp only at h1 h2 h3 h4 h5
  have h0 : PB (n + 2) (f, z, l, S) := PB.mono ⟨h1, h2, h3, h4, h5⟩ (by omega)
  have g := all_gt.1 h4
  have kl := keyT_len (aroundI y 40)
  have hc := around_lt w (m := 11) (by omega)
  obtain ⟨c, hC⟩ : ∃ c, aroundI w 11 = c := ⟨_, rfl⟩
  obtain ⟨k, hK⟩ : ∃ k, aroundI y (max l.length 1) = k := ⟨_, rfl⟩
  obtain ⟨j, hJ⟩ : ∃ j, aroundI y (max S.length 1) = j := ⟨_, rfl⟩
  have hk := around_lt y (m := max l.length 1) (by omega)
  have hj := around_lt y (m := max S.length 1) (by omega)
  rw [hC] at hc; rw [hK] at hk; rw [hJ] at hj
  have gk : 0 < l.length → (gt l k).1.length ≤ n ∧ (gt l k).2.length ≤ n := fun q => h4 k (by omega)
  have mk : ∀ {L : List Leaf}, L.length ≤ n + 2 → (∀ x ∈ L, x.1.length ≤ n + 2 ∧ x.2.length ≤ n + 2) → PB (n + 2) (f, z, L, S) := fun q1 q2 => ⟨h1, h2, q1, all_gt.2 q2, by show S.length ≤ n + 2; omega⟩
  have mks : ∀ {D : List Dig}, D.length ≤ n + 2 → PB (n + 2) (f, z, l, D) := fun q1 => ⟨h1, h2, h0.2.2.1, h0.2.2.2.1, q1⟩
  have g2 : ∀ x ∈ l, x.1.length ≤ n + 2 ∧ x.2.length ≤ n + 2 := fun x hx => by have := g x hx; omega
  rcases c with _ | _ | _ | _ | _ | _ | _ | _ | _ | _ | _ | c
  · rw [bent_0 hC]; exact ⟨wr_in _, h0.2⟩
  · rw [bent_1 hC]; exact ⟨h1, wr_in _, h0.2.2⟩
  · rw [bent_2 hC]
    refine ⟨h1, ?_, h0.2.2⟩
    show I64 (gt [y, 4096, 4097, -1] (aroundI y 4))
    have := around_lt y (m := 4) (by omega)
    generalize aroundI y 4 = q at this
    rcases q with _ | _ | _ | _ | q
    · exact hy
    · show I64 4096; unfold I64; decide
    · show I64 4097; unfold I64; decide
    · show I64 (-1); unfold I64; decide
    · omega
  · rw [bent_3 hC]; exact ⟨hy, h0.2⟩
  · by_cases q : 0 < l.length
    · rw [bent_4 hK hC q]
      refine mk (by rw [List.length_set]; omega) fun x hx => ?_
      rcases set_in hx with hx | rfl
      · exact g2 x hx
      · have := gk q; simp only; omega
    · rw [bent_n (.inl hC) q]; exact h0
  · by_cases q : 0 < l.length
    · rw [bent_5 hK hC q]
      refine mk (by rw [List.length_set]; omega) fun x hx => ?_
      rcases set_in hx with hx | rfl
      · exact g2 x hx
      · have := gk q; simp only [List.length_append, List.length_singleton]; omega
    · rw [bent_n (.inr (.inl hC)) q]; exact h0
  · by_cases q : 0 < l.length
    · rw [bent_6 hK hC q]
      refine mk (by rw [List.length_append, List.length_take, List.length_drop]; omega) fun x hx => ?_
      rcases List.mem_append.1 hx with hx | hx
      · exact g2 x (List.mem_of_mem_take hx)
      · exact g2 x (List.mem_of_mem_drop hx)
    · rw [bent_n (.inr (.inr hC)) q]; exact h0
  · rw [bent_7 hC]
    refine mk (by simp only [List.length_append, List.length_singleton]; omega) fun x hx => ?_
    rcases List.mem_append.1 hx with hx | hx
    · exact g2 x hx
    · rw [List.mem_singleton.1 hx]; simp only [List.length_nil]; omega
  · by_cases q : 0 < S.length
    · rw [bent_8 hJ hC q]; exact mks (by rw [List.length_set]; omega)
    · rw [bent_m (.inl hC) q]; exact h0
  · by_cases q : 0 < S.length
    · rw [bent_9 hJ hC q]; exact mks (by rw [List.length_append, List.length_take, List.length_drop]; omega)
    · rw [bent_m (.inr hC) q]; exact h0
  · rw [bent_10 hC]; exact mks (by simp only [List.length_append, List.length_singleton]; omega)
  · omega
def pC (p : PrZ) : List C := [.val (.int .i64 p.1), .val (.int .i64 p.2.1), sl eC .no p.2.2.1, sl dC .no p.2.2.2]
instance : Cel pC 4 := ⟨fun _ => rfl, fun _ => rfl, by decide, fun _ _ => rfl⟩
inductive CLs : List C → List C → Prop
  | nil : CLs [] []
  | cons {x y : C} {l m : List C} (h : CLe x y) (t : CLs l m) : CLs (x :: l) (y :: m)
def toZ (p : Prf) : PrZ := ((p.1 : Int), (p.2.1 : Int), p.2.2.1, p.2.2.2)
end Go.Sx
namespace Go.Sx
open Go.RowKit Go.Proofs
set_option maxRecDepth 100000
set_option maxHeartbeats 8000000
end Go.Sx
