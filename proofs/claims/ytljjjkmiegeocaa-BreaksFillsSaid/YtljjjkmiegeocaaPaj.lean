/-
  Package breaks: the program's types. And what follows.
-/
import Derived.Test.YtljjjkmiegeocaaProg
import Derived.KernelRfl
import Derived.Test.YtljjjkmiegeocaaPai
set_option linter.unusedSimpArgs false
set_option linter.unusedVariables false
namespace Go.Sx
open Go.RowKit Go.Proofs
theorem td3 : td Try.prog 3 = some ⟨.int .i64, 1, 8, [.int .i64 0]⟩ := by kernel_rfl
theorem td4 : td Try.prog 4 = some ⟨.bool, 1, 1, [.bool false]⟩ := by kernel_rfl
theorem td22 : td Try.prog 22 = some ⟨.slice 3, 1, 24, [.slice none 0 0]⟩ := by kernel_rfl
theorem td26 : td Try.prog 26 = some ⟨.slice 22, 1, 24, [.slice none 0 0]⟩ := by kernel_rfl
theorem td28 : td Try.prog 28 = some ⟨.struct #[Field.mk "Ends" 22 0 false "" "" 0, Field.mk "Lines" 22 1 false "" "" 24, Field.mk "Costs" 22 2 false "" "" 48], 3, 72, [.slice none 0 0, .slice none 0 0, .slice none 0 0]⟩ := by kernel_rfl
theorem td32 : td Try.prog 32 = some ⟨.struct #[Field.mk "Ends" 22 0 false "" "" 0, Field.mk "Lines" 22 1 false "" "" 24, Field.mk "Costs" 22 2 false "" "" 48], 3, 72, [.slice none 0 0, .slice none 0 0, .slice none 0 0]⟩ := by kernel_rfl
theorem td67 : td Try.prog 67 = some ⟨.struct #[Field.mk "sums" 22 0 false "" "passim/breaks" 0, Field.mk "blank" 3 1 false "" "passim/breaks" 24, Field.mk "width" 3 2 false "" "passim/breaks" 32], 3, 40, [.slice none 0 0, .int .i64 0, .int .i64 0]⟩ := by kernel_rfl
noncomputable def cxP (gl : Nat → C) (M : Nat) (pu : Nat → List C → Option C) : Cx := ⟨Try.prog, M, gl, pu, fun _ _ _ => none, fun _ => false⟩
theorem cxP_P (gl : Nat → C) (M : Nat) (pu : Nat → List C → Option C) : (cxP gl M pu).P = Try.prog := rfl
theorem hMO {gl : Nat → C} {M : Nat} {pu : Nat → List C → Option C} : (cxP gl M pu).P.follows .mixedOrders = true := by
  rw [cxP_P]; kernel_rfl
theorem isG_mk (P : Program) (N : Nat) (gl : Nat → C) (pu : Nat → List C → Option C) (hp : Nat → List C → Hp → Option (C × Hp)) (d : Option Nat) : isG ⟨P, N, gl, pu, hp, fun _ => false⟩ d = false := by cases d <;> rfl
theorem wrc3_0 (a b c x : C) : wrc [a, b, c] 0 [x] = some ([x, b, c], .val undef) := rfl
theorem wrc3_1 (a b c x : C) : wrc [a, b, c] 1 [x] = some ([a, x, c], .val undef) := rfl
theorem wrc3_2 (a b c x : C) : wrc [a, b, c] 2 [x] = some ([a, b, x], .val undef) := rfl
theorem wrc3_a (a b c x y z : C) : wrc [a, b, c] 0 [x, y, z] = some ([x, y, z], .val undef) := rfl
theorem wrs3_0 (a b c x : C) : wrs [a, b, c] 0 x = some ([x, b, c], .val undef) := rfl
theorem rda3 (a b c : C) : rda [a, b, c] 0 3 = some (.agg [a.noR, b.noR, c.noR]) := rfl
theorem fa67_0 (b o : Nat) : fieldAddrPlan Try.prog 67 (.bp b o) 0 = some (vp (.bp b (o + 0))) := by
  unfold fieldAddrPlan; simp only [td67]; show (match td Try.prog 22 with | some de => _ | none => none) = _; rw [td22]; rfl
theorem fa67_1 (b o : Nat) : fieldAddrPlan Try.prog 67 (.bp b o) 1 = some (vp (.bp b (o + 1))) := by
  unfold fieldAddrPlan; simp only [td67]; show (match td Try.prog 3 with | some de => _ | none => none) = _; rw [td3]; rfl
theorem fa67_2 (b o : Nat) : fieldAddrPlan Try.prog 67 (.bp b o) 2 = some (vp (.bp b (o + 2))) := by
  unfold fieldAddrPlan; simp only [td67]; show (match td Try.prog 3 with | some de => _ | none => none) = _; rw [td3]; rfl
theorem bz28 : buildP Try.prog (some ⟨.struct #[Field.mk "Ends" 22 0 false "" "" 0, Field.mk "Lines" 22 1 false "" "" 24, Field.mk "Costs" 22 2 false "" "" 48], 3, 72, [.slice none 0 0, .slice none 0 0, .slice none 0 0]⟩) [] = some (vp (.agg [.val (.slice none 0 0), .val (.slice none 0 0), .val (.slice none 0 0)])) := by
  have h : places Try.prog (.struct #[Field.mk "Ends" 22 0 false "" "" 0, Field.mk "Lines" 22 1 false "" "" 24, Field.mk "Costs" 22 2 false "" "" 48]) = some (fun i => [(0, 1), (1, 1), (2, 1)][i]?) := by
    simp only [places, List.mapM_cons, List.mapM_nil, td3, td22, Option.map_some, Option.bind_eq_bind, Option.bind_some, Option.pure_def]
  unfold buildP
  simp only [h]
  rfl
theorem bd28 (r r2 r3 : Rt) (l l2 l3 : List Int) : buildP Try.prog (some ⟨.struct #[Field.mk "Ends" 22 0 false "" "" 0, Field.mk "Lines" 22 1 false "" "" 24, Field.mk "Costs" 22 2 false "" "" 48], 3, 72, [.slice none 0 0, .slice none 0 0, .slice none 0 0]⟩) [(0, sl iC r l), (1, sl iC r2 l2), (2, sl iC r3 l3)] = some (vp (.agg [(sl iC r l).noR, (sl iC r2 l2).noR, (sl iC r3 l3).noR])) := by
  have h : places Try.prog (.struct #[Field.mk "Ends" 22 0 false "" "" 0, Field.mk "Lines" 22 1 false "" "" 24, Field.mk "Costs" 22 2 false "" "" 48]) = some (fun i => [(0, 1), (1, 1), (2, 1)][i]?) := by
    simp only [places, List.mapM_cons, List.mapM_nil, td3, td22, Option.map_some, Option.bind_eq_bind, Option.bind_some, Option.pure_def]
  unfold buildP
  simp only [h]
  cases r <;> cases r2 <;> cases r3 <;> rfl
theorem bdV28 (b b2 o o2 n n2 : Nat) : buildP Try.prog (some ⟨.struct #[Field.mk "Ends" 22 0 false "" "" 0, Field.mk "Lines" 22 1 false "" "" 24, Field.mk "Costs" 22 2 false "" "" 48], 3, 72, [.slice none 0 0, .slice none 0 0, .slice none 0 0]⟩) [(1, .sv b o n), (2, .sv b2 o2 n2)] = some (vp (.agg [.val (.slice none 0 0), .sv b o n, .sv b2 o2 n2])) := by
  have h : places Try.prog (.struct #[Field.mk "Ends" 22 0 false "" "" 0, Field.mk "Lines" 22 1 false "" "" 24, Field.mk "Costs" 22 2 false "" "" 48]) = some (fun i => [(0, 1), (1, 1), (2, 1)][i]?) := by
    simp only [places, List.mapM_cons, List.mapM_nil, td3, td22, Option.map_some, Option.bind_eq_bind, Option.bind_some, Option.pure_def]
  unfold buildP
  simp only [h]
  rfl
theorem fa28_0 (b o : Nat) : fieldAddrPlan Try.prog 28 (.bp b o) 0 = some (vp (.bp b (o + 0))) := by
  unfold fieldAddrPlan; simp only [td28]; show (match td Try.prog 22 with | some de => _ | none => none) = _; rw [td22]; rfl
theorem fa28_1 (b o : Nat) : fieldAddrPlan Try.prog 28 (.bp b o) 1 = some (vp (.bp b (o + 1))) := by
  unfold fieldAddrPlan; simp only [td28]; show (match td Try.prog 22 with | some de => _ | none => none) = _; rw [td22]; rfl
theorem fa28_2 (b o : Nat) : fieldAddrPlan Try.prog 28 (.bp b o) 2 = some (vp (.bp b (o + 2))) := by
  unfold fieldAddrPlan; simp only [td28]; show (match td Try.prog 22 with | some de => _ | none => none) = _; rw [td22]; rfl
theorem fa32_0 (b o : Nat) : fieldAddrPlan Try.prog 32 (.bp b o) 0 = some (vp (.bp b (o + 0))) := by
  unfold fieldAddrPlan; simp only [td32]; show (match td Try.prog 22 with | some de => _ | none => none) = _; rw [td22]; rfl
theorem fa32_1 (b o : Nat) : fieldAddrPlan Try.prog 32 (.bp b o) 1 = some (vp (.bp b (o + 1))) := by
  unfold fieldAddrPlan; simp only [td32]; show (match td Try.prog 22 with | some de => _ | none => none) = _; rw [td22]; rfl
theorem fa32_2 (b o : Nat) : fieldAddrPlan Try.prog 32 (.bp b o) 2 = some (vp (.bp b (o + 2))) := by
  unfold fieldAddrPlan; simp only [td32]; show (match td Try.prog 22 with | some de => _ | none => none) = _; rw [td22]; rfl
section
variable {cx : Cx} {apps : List Nat} {dsts : List (Option Nat)} {l : List Oper} {id' : Nat} {d : Option Nat} {e : List (Nat × C)} {h : Hp} {fs : List FP} {K : List FP → St → Prop}
theorem stX_c0 (b : Nat) (c : C) (r : List C) : stX cx apps dsts l id' d e h fs K b 0 (some (c :: r)) = run cx apps dsts l id' (mkE d c e) (h.set b (some (c.noR :: r))) ((3, b) :: fs) K := rfl
end
attribute [go_sem] stX_c0
theorem bsA_nI1 (u : TypeDesc) (y : Nat) (v : Value) (i : Nat) (h : v.oneCell' = true) : bsA (some ⟨u, 1, y, [v]⟩) 1 [(0, .val (nI i))] = some (vp (sl iC .full [(i : Int)])) := by
  rw [bsA_one u y 1 v _ h (by decide)]; rfl
theorem bsA_int1 (u : TypeDesc) (y : Nat) (v : Value) (i : Int) (h : v.oneCell' = true) : bsA (some ⟨u, 1, y, [v]⟩) 1 [(0, .val (.int .i64 i))] = some (vp (sl iC .full [i])) := by
  rw [bsA_one u y 1 v _ h (by decide)]; rfl
attribute [go_sem high] bsA_nI1 bsA_int1
attribute [go_sem] td3 td4 td22 td26 td28 td32 td67 cxP_P isG_mk fa67_0 fa67_1 fa67_2 fa28_0 fa28_1 fa28_2 fa32_0 fa32_1 fa32_2
attribute [go_sem high] wrc3_0 wrc3_1 wrc3_2 wrc3_a wrs3_0 rda3 bz28 bd28 bdV28
end Go.Sx
namespace Go.Sx
open Go.RowKit
theorem take_snoc {α : Type} [Inhabited α] (l : List α) (j : Nat) (h : j < l.length) : l.take (j + 1) = l.take j ++ [gt l j] := by
  rw [List.take_add_one, List.getElem?_eq_getElem h]; simp [gt, List.getD, List.getElem?_eq_getElem h]
def le (m : Nat) : List UInt8 := if h : m = 0 then [] else UInt8.ofNat (m % 256) :: le (m / 256)
termination_by m
decreasing_by omega
def be (m k : Nat) : List UInt8 := (List.range k).map fun j => UInt8.ofNat (m >>> (8 * (k - 1 - j)))
theorem gt_map {α β : Type} [Inhabited α] [Inhabited β] (l : List α) (f : α → β) (j : Nat) (h : j < l.length) : gt (l.map f) j = f (gt l j) := by
  simp [gt, List.getD, List.getElem?_eq_getElem h]
end Go.Sx
namespace Go.Sx
def LI (l : List Int) : Prop := l.length ≤ 9223372036854775807 ∧ ∀ i, i < l.length → -9223372036854775808 ≤ gt l i ∧ gt l i ≤ 9223372036854775807
def proI (n : Int) : Bool := decide (0 ≤ n) && decide (n ≤ 4096)
theorem proI_iff {n : Int} : proI n = true ↔ 0 ≤ n ∧ n ≤ 4096 := by simp [proI]
def allP (l : List Int) : Bool := (List.range l.length).all fun i => proI (gt l i)
theorem allP_iff {l : List Int} : allP l = true ↔ ∀ i, i < l.length → 0 ≤ gt l i ∧ gt l i ≤ 4096 := by
  simp [allP, proI_iff]
def errE (l : List Int) (b w : Int) : Nat := if 256 < l.length then 4 else if (proI b && proI w && allP l) = true then 0 else 1
/-- Words that may be divided. -/
def Fine (l : List Int) (b w : Int) : Prop := l.length ≤ 256 ∧ (0 ≤ b ∧ b ≤ 4096) ∧ (0 ≤ w ∧ w ≤ 4096) ∧ ∀ i, i < l.length → 0 ≤ gt l i ∧ gt l i ≤ 4096
theorem errE_0 {l : List Int} {b w : Int} : errE l b w = 0 ↔ Fine l b w := by
  unfold errE Fine
  split
  · constructor
    · intro h; cases h
    · rintro ⟨h, _⟩; omega
  · split
    · rename_i h1 h2
      simp only [Bool.and_eq_true, proI_iff, allP_iff] at h2
      constructor
      · intro _; exact ⟨by omega, h2.1.1, h2.1.2, h2.2⟩
      · intro _; rfl
    · rename_i h1 h2
      simp only [Bool.and_eq_true, proI_iff, allP_iff] at h2
      constructor
      · intro h; cases h
      · rintro ⟨_, g1, g2, g3⟩; exact absurd ⟨⟨g1, g2⟩, g3⟩ h2
def sumI (l : List Int) (b : Int) : Nat → Int
  | 0 => 0
  | k + 1 => sumI l b k + gt l k + b
def sumsL (l : List Int) (b : Int) (n : Nat) : List Int := (List.range (n + 1)).map (sumI l b)
theorem sumsL_len (l : List Int) (b : Int) (n : Nat) : (sumsL l b n).length = n + 1 := by simp [sumsL]
theorem sumsL_gt (l : List Int) (b : Int) (n k : Nat) (h : k ≤ n) : gt (sumsL l b n) k = sumI l b k := by
  unfold sumsL
  rw [gt_map _ _ _ (by simp; omega)]
  congr 1
  simp [gt, List.getD, List.getElem?_range (show k < n + 1 by omega)]
theorem sumsL_S (l : List Int) (b : Int) (n : Nat) : sumsL l b (n + 1) = sumsL l b n ++ [sumI l b (n + 1)] := by
  unfold sumsL
  rw [List.range_succ (n := n + 1), List.map_append]; rfl
theorem sumI_b {l : List Int} {b w : Int} (h : Fine l b w) : ∀ k, k ≤ l.length → 0 ≤ sumI l b k ∧ sumI l b k ≤ 8192 * k
  | 0, _ => ⟨Int.le_refl _, Int.le_refl _⟩
  | k + 1, hk => by
    have ih := sumI_b h k (by omega)
    have h1 := h.2.2.2 k (by omega)
    have h2 := h.2.1
    unfold sumI; omega
theorem sumI_p {l : List Int} {b : Int} (hb : 0 ≤ b ∧ b ≤ 4096) : ∀ k : Nat, (∀ j, j < k → 0 ≤ gt l j ∧ gt l j ≤ 4096) → 0 ≤ sumI l b k ∧ sumI l b k ≤ 8192 * k
  | 0, _ => ⟨Int.le_refl _, Int.le_refl _⟩
  | k + 1, hk => by
    have ih := sumI_p hb k (fun j hj => hk j (by omega))
    have h1 := hk k (by omega)
    unfold sumI; omega
theorem err_4 {l : List Int} {b w : Int} (h : 256 < l.length) : errE l b w = 4 := if_pos h
theorem err_1 {l : List Int} {b w : Int} (h : ¬ 256 < l.length) (h2 : ¬ (proI b && proI w && allP l) = true) : errE l b w = 1 := by
  unfold errE; rw [if_neg h, if_neg h2]
theorem err_b {l : List Int} {b w : Int} (h : ¬ proI b = true) : ¬ (proI b && proI w && allP l) = true := by simp [h]
theorem err_w {l : List Int} {b w : Int} (h : ¬ proI w = true) : ¬ (proI b && proI w && allP l) = true := by simp [h]
theorem err_l {l : List Int} {b w : Int} {i : Nat} (hi : i < l.length) (h : ¬ proI (gt l i) = true) : ¬ (proI b && proI w && allP l) = true := by
  intro hh
  simp only [Bool.and_eq_true] at hh
  exact h (proI_iff.2 (allP_iff.1 hh.2 i hi))
theorem sumI_m {l : List Int} {b w : Int} (h : Fine l b w) (i : Nat) : ∀ k, i ≤ k → k ≤ l.length → sumI l b i ≤ sumI l b k
  | 0, hi, _ => by
    have h0 : i = 0 := by omega
    subst h0; exact Int.le_refl _
  | k + 1, hi, hk => by
    rcases Nat.lt_or_eq_of_le hi with h1 | h1
    · have ih := sumI_m h i k (by omega) (by omega)
      have h1 := h.2.2.2 k (by omega)
      have h2 := h.2.1
      show sumI l b i ≤ sumI l b k + gt l k + b
      omega
    · subst h1; exact Int.le_refl _
/-- The free width of a line, from sums. -/
def freS (S : List Int) (b w i j : Int) : Int := w - (gt S j.toNat - gt S i.toNat - b)
def priS (S : List Int) (b w i j : Int) : Int := if j = ((S.length - 1 : Nat) : Int) then 0 else freS S b w i j * freS S b w i j
def Col (S : List Int) (b w : Int) : Prop := (0 < S.length ∧ S.length ≤ 1000) ∧ (0 ≤ b ∧ b ≤ 4096) ∧ (0 ≤ w ∧ w ≤ 4096) ∧ ∀ i, i < S.length → 0 ≤ gt S i ∧ gt S i ≤ 3000000
theorem fine_col {l : List Int} {b w : Int} (h : Fine l b w) : Col (sumsL l b l.length) b w := by
  refine ⟨by rw [sumsL_len]; have := h.1; omega, h.2.1, h.2.2.1, fun i hi => ?_⟩
  rw [sumsL_len] at hi
  rw [sumsL_gt _ _ _ _ (by omega)]
  have := sumI_b h i (by omega)
  have := h.1
  omega
/-- The free width of a line. -/
def freR (l : List Int) (b w i j : Int) : Int := if j ≤ i then w else w - (sumI l b j.toNat - sumI l b i.toNat - b)
def priR (l : List Int) (b w i j : Int) : Int := if j = (l.length : Int) then 0 else freR l b w i j * freR l b w i j
theorem freS_R {l : List Int} {b w i j : Int} (hi : 0 ≤ i) (hij : i < j) (hj : j ≤ l.length) : freS (sumsL l b l.length) b w i j = freR l b w i j := by
  unfold freS freR
  rw [if_neg (by omega), sumsL_gt _ _ _ _ (by omega), sumsL_gt _ _ _ _ (by omega)]
theorem priS_R {l : List Int} {b w i j : Int} (hi : 0 ≤ i) (hij : i < j) (hj : j ≤ l.length) : priS (sumsL l b l.length) b w i j = priR l b w i j := by
  unfold priS priR
  rw [sumsL_len, freS_R hi hij hj]; rfl
theorem freR_0 (l : List Int) (b w i : Int) (hi : 0 ≤ i) : freR l b w i (i + 1) = w - gt l i.toNat := by
  unfold freR
  rw [if_neg (by omega), show (i + 1).toNat = i.toNat + 1 by omega]
  show w - (sumI l b i.toNat + gt l i.toNat + b - sumI l b i.toNat - b) = _
  omega
theorem freR_S (l : List Int) (b w i j : Int) (hi : 0 ≤ i) (hij : i < j) : freR l b w i (j + 1) = freR l b w i j - gt l j.toNat - b := by
  unfold freR
  rw [if_neg (by omega), if_neg (by omega), show (j + 1).toNat = j.toNat + 1 by omega]
  show w - (sumI l b j.toNat + gt l j.toNat + b - sumI l b i.toNat - b) = _
  omega
theorem freR_b {l : List Int} {b w i j : Int} (h : Fine l b w) (hi : 0 ≤ i) (hj : j ≤ l.length) : -10000000 ≤ freR l b w i j ∧ freR l b w i j ≤ 8192 := by
  unfold freR
  have h2 := h.2.1
  have h3 := h.2.2.1
  split
  · omega
  · have q1 := sumI_m h i.toNat j.toNat (by omega) (by omega)
    have q2 := sumI_b h j.toNat (by omega)
    have q3 := sumI_b h i.toNat (by omega)
    have := h.1
    omega
theorem sq_b {x : Int} (h : -10000000 ≤ x ∧ x ≤ 10000000) : 0 ≤ x * x ∧ x * x ≤ 100000000000000 := by
  constructor
  · rcases Int.le_total 0 x with h1 | h1
    · exact Int.mul_nonneg h1 h1
    · have := Int.mul_nonneg (show 0 ≤ -x by omega) (show 0 ≤ -x by omega)
      rwa [Int.neg_mul_neg] at this
  · rcases Int.le_total 0 x with h1 | h1
    · exact Int.mul_le_mul h.2 h.2 h1 (by decide)
    · have := Int.mul_le_mul (show -x ≤ 10000000 by omega) (show -x ≤ 10000000 by omega) (show 0 ≤ -x by omega) (by decide)
      rwa [Int.neg_mul_neg] at this
theorem freS_b {S : List Int} {b w i j : Int} (h : Col S b w) (hi : i.toNat < S.length) (hj : j.toNat < S.length) : -10000000 ≤ freS S b w i j ∧ freS S b w i j ≤ 10000000 := by
  have h1 := h.2.2.2 _ hi
  have h2 := h.2.2.2 _ hj
  have h3 := h.2.1
  have h4 := h.2.2.1
  unfold freS; omega
end Go.Sx
namespace Go.Sx
open Go.RowKit Go.Proofs
set_option maxRecDepth 100000 in
set_option maxHeartbeats 8000000 in
theorem fc53 {gl : Nat → C} {M : Nat} {pu : Nat → List C → Option C}  (hcx : CxOK (cxP gl M pu)) (n : Int) (hn : -9223372036854775808 ≤ n ∧ n ≤ 9223372036854775807) : FC Try.prog gl 53 [.val (.int .i64 n)] [] (.val (.bool (proI n))) [] := by
 replace hcx := hcx.reN (M := 9)
 refine FC.ofA (cx := cxP gl 9 pu) (rs := [.tmp 2]) rfl Try.func53 rfl rfl rfl (by simp only [List.length_cons, List.length_nil]; decide) (by simp only [go_sem]) ?_
 simp only [ini, go_sem]
 refine Tr.seqK fun K1 hK1 => ?_
 refine Tr.rg hcx [] _ [] rfl rfl rfl ?_
 simp -implicitDefEqProofs (maxSteps := 2000000) (disch := first | omega | (simp only [go_sem, List.length_append, List.length_drop, List.length_take] <;> omega) | decide) only [go_sem, ↓reduceIte, Nat.reduceEqDiff, reduceCtorEq, Nat.reduceLT, Nat.reduceBEq, Nat.reduceAdd, Nat.reduceSub, Nat.reduceMul, Nat.reduceMod, Int.reduceMod, Int.reduceToNat, Int.reduceNeg]
 refine hK1 _ ?_
 clear hK1 K1
 refine Tr.kp [0] ?_
 simp only [pk_cons, pk_nil, ↓A_cons, ↓reduceIte, Nat.reduceEqDiff, reduceCtorEq]
 refine Tr.seqK fun K2 hK2 => ?_
 by_cases b1 : ((0 : Nat) : Int) ≤ n
 ·
  by_cases b2 : n ≤ ((4096 : Nat) : Int)
  ·
   refine Tr.rg hcx [1000008] [some 3, some 4, some 5, some 6, some 7, some 8, some 2] [] rfl rfl rfl ?_
   simp -implicitDefEqProofs (maxSteps := 2000000) (disch := first | omega | (simp only [go_sem, List.length_append, List.length_drop, List.length_take] <;> omega) | decide) only [go_sem, ↓reduceIte, Nat.reduceEqDiff, reduceCtorEq, Nat.reduceLT, Nat.reduceBEq, Nat.reduceAdd, Nat.reduceSub, Nat.reduceMul, Nat.reduceMod, Int.reduceMod, Int.reduceToNat, Int.reduceNeg, b1, b2]
   refine hK2 _ ?_
   clear hK2 K2
   refine Tr.kp [2] ?_
   simp only [pk_cons, pk_nil, ↓A_cons, ↓reduceIte, Nat.reduceEqDiff, reduceCtorEq]
   refine Tr.ret ?_
   simp -implicitDefEqProofs (disch := first | omega | (simp only [go_sem, List.length_append, List.length_drop, List.length_take] <;> omega) | decide) only [go_sem, ↓reduceIte, Nat.reduceEqDiff, reduceCtorEq]
   all_goals (exact congrArg (fun z => some (C.val (.bool z))) (by have b1' := b1; unfold proI; first | (rw [decide_eq_true (by omega), decide_eq_true (by omega)]; rfl) | (rw [decide_eq_false (by omega)]; rfl) | (rw [decide_eq_true (by omega), decide_eq_false (by omega)]; rfl)))
  ·
   refine Tr.rg hcx [1000008] [some 3, some 4, some 5, some 6, some 7, some 8, some 2] [] rfl rfl rfl ?_
   simp -implicitDefEqProofs (maxSteps := 2000000) (disch := first | omega | (simp only [go_sem, List.length_append, List.length_drop, List.length_take] <;> omega) | decide) only [go_sem, ↓reduceIte, Nat.reduceEqDiff, reduceCtorEq, Nat.reduceLT, Nat.reduceBEq, Nat.reduceAdd, Nat.reduceSub, Nat.reduceMul, Nat.reduceMod, Int.reduceMod, Int.reduceToNat, Int.reduceNeg, b1, b2]
   refine hK2 _ ?_
   clear hK2 K2
   refine Tr.kp [2] ?_
   simp only [pk_cons, pk_nil, ↓A_cons, ↓reduceIte, Nat.reduceEqDiff, reduceCtorEq]
   refine Tr.ret ?_
   simp -implicitDefEqProofs (disch := first | omega | (simp only [go_sem, List.length_append, List.length_drop, List.length_take] <;> omega) | decide) only [go_sem, ↓reduceIte, Nat.reduceEqDiff, reduceCtorEq]
   all_goals (exact congrArg (fun z => some (C.val (.bool z))) (by have b1' := b1; unfold proI; first | (rw [decide_eq_true (by omega), decide_eq_true (by omega)]; rfl) | (rw [decide_eq_false (by omega)]; rfl) | (rw [decide_eq_true (by omega), decide_eq_false (by omega)]; rfl)))
 ·
  refine Tr.rg hcx [1000008] [some 3, some 4, some 5, some 6, some 7, some 8, some 2] [] rfl rfl rfl ?_
  simp -implicitDefEqProofs (maxSteps := 2000000) (disch := first | omega | (simp only [go_sem, List.length_append, List.length_drop, List.length_take] <;> omega) | decide) only [go_sem, ↓reduceIte, Nat.reduceEqDiff, reduceCtorEq, Nat.reduceLT, Nat.reduceBEq, Nat.reduceAdd, Nat.reduceSub, Nat.reduceMul, Nat.reduceMod, Int.reduceMod, Int.reduceToNat, Int.reduceNeg, b1]
  refine hK2 _ ?_
  clear hK2 K2
  refine Tr.kp [2] ?_
  simp only [pk_cons, pk_nil, ↓A_cons, ↓reduceIte, Nat.reduceEqDiff, reduceCtorEq]
  refine Tr.ret ?_
  simp -implicitDefEqProofs (disch := first | omega | (simp only [go_sem, List.length_append, List.length_drop, List.length_take] <;> omega) | decide) only [go_sem, ↓reduceIte, Nat.reduceEqDiff, reduceCtorEq]
  all_goals (exact congrArg (fun z => some (C.val (.bool z))) (by have b1' := b1; unfold proI; first | (rw [decide_eq_true (by omega), decide_eq_true (by omega)]; rfl) | (rw [decide_eq_false (by omega)]; rfl) | (rw [decide_eq_true (by omega), decide_eq_false (by omega)]; rfl)))
set_option maxRecDepth 100000 in
set_option maxHeartbeats 8000000 in
theorem fc45 {gl : Nat → C} {M : Nat} {pu : Nat → List C → Option C}  (hcx : CxOK (cxP gl M pu)) (n : Int) (hn : -9223372036854775808 ≤ n ∧ n ≤ 9223372036854775807) : FC Try.prog gl 45 [.val (.int .i64 n)] [] (.val (.bool (proI n))) [] := by
 replace hcx := hcx.reN (M := 9)
 refine FC.ofA (cx := cxP gl 9 pu) (rs := [.tmp 2]) rfl Try.func45 rfl rfl rfl (by simp only [List.length_cons, List.length_nil]; decide) (by simp only [go_sem]) ?_
 simp only [ini, go_sem]
 refine Tr.seqK fun K1 hK1 => ?_
 refine Tr.rg hcx [] _ [] rfl rfl rfl ?_
 simp -implicitDefEqProofs (maxSteps := 2000000) (disch := first | omega | (simp only [go_sem, List.length_append, List.length_drop, List.length_take] <;> omega) | decide) only [go_sem, ↓reduceIte, Nat.reduceEqDiff, reduceCtorEq, Nat.reduceLT, Nat.reduceBEq, Nat.reduceAdd, Nat.reduceSub, Nat.reduceMul, Nat.reduceMod, Int.reduceMod, Int.reduceToNat, Int.reduceNeg]
 refine hK1 _ ?_
 clear hK1 K1
 refine Tr.kp [0] ?_
 simp only [pk_cons, pk_nil, ↓A_cons, ↓reduceIte, Nat.reduceEqDiff, reduceCtorEq]
 refine Tr.seqK fun K2 hK2 => ?_
 by_cases b1 : ((0 : Nat) : Int) ≤ n
 ·
  by_cases b2 : n ≤ ((4096 : Nat) : Int)
  ·
   refine Tr.rg hcx [1000008] [some 3, some 4, some 5, some 6, some 7, some 8, some 2] [] rfl rfl rfl ?_
   simp -implicitDefEqProofs (maxSteps := 2000000) (disch := first | omega | (simp only [go_sem, List.length_append, List.length_drop, List.length_take] <;> omega) | decide) only [go_sem, ↓reduceIte, Nat.reduceEqDiff, reduceCtorEq, Nat.reduceLT, Nat.reduceBEq, Nat.reduceAdd, Nat.reduceSub, Nat.reduceMul, Nat.reduceMod, Int.reduceMod, Int.reduceToNat, Int.reduceNeg, b1, b2]
   refine hK2 _ ?_
   clear hK2 K2
   refine Tr.kp [2] ?_
   simp only [pk_cons, pk_nil, ↓A_cons, ↓reduceIte, Nat.reduceEqDiff, reduceCtorEq]
   refine Tr.ret ?_
   simp -implicitDefEqProofs (disch := first | omega | (simp only [go_sem, List.length_append, List.length_drop, List.length_take] <;> omega) | decide) only [go_sem, ↓reduceIte, Nat.reduceEqDiff, reduceCtorEq]
   all_goals (exact congrArg (fun z => some (C.val (.bool z))) (by have b1' := b1; unfold proI; first | (rw [decide_eq_true (by omega), decide_eq_true (by omega)]; rfl) | (rw [decide_eq_false (by omega)]; rfl) | (rw [decide_eq_true (by omega), decide_eq_false (by omega)]; rfl)))
  ·
   refine Tr.rg hcx [1000008] [some 3, some 4, some 5, some 6, some 7, some 8, some 2] [] rfl rfl rfl ?_
   simp -implicitDefEqProofs (maxSteps := 2000000) (disch := first | omega | (simp only [go_sem, List.length_append, List.length_drop, List.length_take] <;> omega) | decide) only [go_sem, ↓reduceIte, Nat.reduceEqDiff, reduceCtorEq, Nat.reduceLT, Nat.reduceBEq, Nat.reduceAdd, Nat.reduceSub, Nat.reduceMul, Nat.reduceMod, Int.reduceMod, Int.reduceToNat, Int.reduceNeg, b1, b2]
   refine hK2 _ ?_
   clear hK2 K2
   refine Tr.kp [2] ?_
   simp only [pk_cons, pk_nil, ↓A_cons, ↓reduceIte, Nat.reduceEqDiff, reduceCtorEq]
   refine Tr.ret ?_
   simp -implicitDefEqProofs (disch := first | omega | (simp only [go_sem, List.length_append, List.length_drop, List.length_take] <;> omega) | decide) only [go_sem, ↓reduceIte, Nat.reduceEqDiff, reduceCtorEq]
   all_goals (exact congrArg (fun z => some (C.val (.bool z))) (by have b1' := b1; unfold proI; first | (rw [decide_eq_true (by omega), decide_eq_true (by omega)]; rfl) | (rw [decide_eq_false (by omega)]; rfl) | (rw [decide_eq_true (by omega), decide_eq_false (by omega)]; rfl)))
 ·
  refine Tr.rg hcx [1000008] [some 3, some 4, some 5, some 6, some 7, some 8, some 2] [] rfl rfl rfl ?_
  simp -implicitDefEqProofs (maxSteps := 2000000) (disch := first | omega | (simp only [go_sem, List.length_append, List.length_drop, List.length_take] <;> omega) | decide) only [go_sem, ↓reduceIte, Nat.reduceEqDiff, reduceCtorEq, Nat.reduceLT, Nat.reduceBEq, Nat.reduceAdd, Nat.reduceSub, Nat.reduceMul, Nat.reduceMod, Int.reduceMod, Int.reduceToNat, Int.reduceNeg, b1]
  refine hK2 _ ?_
  clear hK2 K2
  refine Tr.kp [2] ?_
  simp only [pk_cons, pk_nil, ↓A_cons, ↓reduceIte, Nat.reduceEqDiff, reduceCtorEq]
  refine Tr.ret ?_
  simp -implicitDefEqProofs (disch := first | omega | (simp only [go_sem, List.length_append, List.length_drop, List.length_take] <;> omega) | decide) only [go_sem, ↓reduceIte, Nat.reduceEqDiff, reduceCtorEq]
  all_goals (exact congrArg (fun z => some (C.val (.bool z))) (by have b1' := b1; unfold proI; first | (rw [decide_eq_true (by omega), decide_eq_true (by omega)]; rfl) | (rw [decide_eq_false (by omega)]; rfl) | (rw [decide_eq_true (by omega), decide_eq_false (by omega)]; rfl)))
set_option maxRecDepth 100000 in
set_option maxHeartbeats 8000000 in
theorem fc38 {gl : Nat → C} {M : Nat} {pu : Nat → List C → Option C}  (hcx : CxOK (cxP gl M pu)) (S : List Int) (b w : Int) (hc : Col S b w) : FC Try.prog gl 38 [.agg [sl iC .no S, .val (.int .i64 b), .val (.int .i64 w)]] [] (.val (nI (S.length - 1))) [] := by
 replace hcx := hcx.reN (M := 7)
 refine FC.ofA (cx := cxP gl 7 pu) (rs := [.tmp 2]) rfl Try.func38 rfl rfl rfl (by simp only [List.length_cons, List.length_nil]; decide) (by simp only [go_sem]) ?_
 simp only [ini, go_sem]
 have hc1 := hc.1
 refine Tr.seqK fun K1 hK1 => ?_
 refine Tr.rg hcx [] _ [none] rfl rfl rfl ?_
 simp -implicitDefEqProofs (maxSteps := 2000000) (disch := first | omega | (simp only [go_sem, List.length_append, List.length_drop, List.length_take] <;> omega) | decide) only [go_sem, ↓reduceIte, Nat.reduceEqDiff, reduceCtorEq, Nat.reduceLT, Nat.reduceBEq, Nat.reduceAdd, Nat.reduceSub, Nat.reduceMul, Nat.reduceMod, Int.reduceMod, Int.reduceToNat, Int.reduceNeg]
 refine hK1 _ ?_
 clear hK1 K1
 refine Tr.kp [1] ?_
 simp only [pk_cons, pk_nil, ↓A_cons, ↓reduceIte, Nat.reduceEqDiff, reduceCtorEq]
 refine Tr.seqK fun K2 hK2 => ?_
 refine Tr.rg hcx [1000006] _ [] rfl rfl rfl ?_
 simp -implicitDefEqProofs (maxSteps := 2000000) (disch := first | omega | (simp only [go_sem, List.length_append, List.length_drop, List.length_take] <;> omega) | decide) only [go_sem, ↓reduceIte, Nat.reduceEqDiff, reduceCtorEq, Nat.reduceLT, Nat.reduceBEq, Nat.reduceAdd, Nat.reduceSub, Nat.reduceMul, Nat.reduceMod, Int.reduceMod, Int.reduceToNat, Int.reduceNeg]
 refine hK2 _ ?_
 clear hK2 K2
 refine Tr.kp [2] ?_
 simp only [pk_cons, pk_nil, ↓A_cons, ↓reduceIte, Nat.reduceEqDiff, reduceCtorEq]
 refine Tr.ret ?_
 simp -implicitDefEqProofs (disch := first | omega | (simp only [go_sem, List.length_append, List.length_drop, List.length_take] <;> omega) | decide) only [go_sem, ↓reduceIte, Nat.reduceEqDiff, reduceCtorEq]
 all_goals (rfl)
set_option maxRecDepth 100000 in
set_option maxHeartbeats 8000000 in
theorem fc39 {gl : Nat → C} {M : Nat} {pu : Nat → List C → Option C}  (hcx : CxOK (cxP gl M pu)) (S : List Int) (b w i j : Int) (hc : Col S b w) (hij : 0 ≤ i ∧ i < S.length ∧ 0 ≤ j ∧ j < S.length) : FC Try.prog gl 39 [.agg [sl iC .no S, .val (.int .i64 b), .val (.int .i64 w)], .val (.int .i64 i), .val (.int .i64 j)] [] (.val (.int .i64 (freS S b w i j))) [] := by
 replace hcx := hcx.reN (M := 24)
 refine FC.ofA (cx := cxP gl 24 pu) (rs := [.tmp 6]) rfl Try.func39 rfl rfl rfl (by simp only [List.length_cons, List.length_nil]; decide) (by simp only [go_sem]) ?_
 simp only [ini, go_sem]
 have hc1 := hc.1
 have hc2 := hc.2.1
 have hc3 := hc.2.2.1
 have hi := hc.2.2.2 i.toNat (by omega)
 have hj := hc.2.2.2 j.toNat (by omega)
 refine Tr.seqK fun K1 hK1 => ?_
 refine Tr.rg hcx [] _ [none] rfl rfl rfl ?_
 simp -implicitDefEqProofs (maxSteps := 2000000) (disch := first | omega | (simp only [go_sem, List.length_append, List.length_drop, List.length_take] <;> omega) | decide) only [go_sem, ↓reduceIte, Nat.reduceEqDiff, reduceCtorEq, Nat.reduceLT, Nat.reduceBEq, Nat.reduceAdd, Nat.reduceSub, Nat.reduceMul, Nat.reduceMod, Int.reduceMod, Int.reduceToNat, Int.reduceNeg]
 refine hK1 _ ?_
 clear hK1 K1
 refine Tr.kp [1, 2, 3] ?_
 simp only [pk_cons, pk_nil, ↓A_cons, ↓reduceIte, Nat.reduceEqDiff, reduceCtorEq]
 refine Tr.seqK fun K2 hK2 => ?_
 refine Tr.rgD hcx hMO [1000023] _ [] rfl rfl rfl rfl ?_
 simp -implicitDefEqProofs (maxSteps := 2000000) (disch := first | omega | (simp only [go_sem, List.length_append, List.length_drop, List.length_take] <;> omega) | decide) only [go_sem, ↓reduceIte, Nat.reduceEqDiff, reduceCtorEq, Nat.reduceLT, Nat.reduceBEq, Nat.reduceAdd, Nat.reduceSub, Nat.reduceMul, Nat.reduceMod, Int.reduceMod, Int.reduceToNat, Int.reduceNeg]
 with_reducible refine And.intro ?_ ?_
 · exact rfl
 refine hK2 _ ?_
 clear hK2 K2
 refine Tr.kp [6] ?_
 simp only [pk_cons, pk_nil, ↓A_cons, ↓reduceIte, Nat.reduceEqDiff, reduceCtorEq]
 refine Tr.ret ?_
 simp -implicitDefEqProofs (disch := first | omega | (simp only [go_sem, List.length_append, List.length_drop, List.length_take] <;> omega) | decide) only [go_sem, ↓reduceIte, Nat.reduceEqDiff, reduceCtorEq]
 all_goals (rfl)
set_option maxRecDepth 100000 in
set_option maxHeartbeats 8000000 in
theorem fc40 {gl : Nat → C} {M : Nat} {pu : Nat → List C → Option C}  (hcx : CxOK (cxP gl M pu)) (h38 : ∀ (S : List Int) (b w : Int), Col S b w → pu 38 [.agg [sl iC .no S, .val (.int .i64 b), .val (.int .i64 w)]] = some (.val (nI (S.length - 1)))) (h39 : ∀ (S : List Int) (b w i j : Int), Col S b w → 0 ≤ i ∧ i < S.length ∧ 0 ≤ j ∧ j < S.length → pu 39 [.agg [sl iC .no S, .val (.int .i64 b), .val (.int .i64 w)], .val (.int .i64 i), .val (.int .i64 j)] = some (.val (.int .i64 (freS S b w i j)))) (S : List Int) (b w i j : Int) (hc : Col S b w) (hij : 0 ≤ i ∧ i < S.length ∧ 0 ≤ j ∧ j < S.length) : FC Try.prog gl 40 [.agg [sl iC .no S, .val (.int .i64 b), .val (.int .i64 w)], .val (.int .i64 i), .val (.int .i64 j)] [] (.val (.int .i64 (priS S b w i j))) [] := by
 replace hcx := hcx.reN (M := 19)
 refine FC.ofA (cx := cxP gl 19 pu) (rs := [.tmp 6]) rfl Try.func40 rfl rfl rfl (by simp only [List.length_cons, List.length_nil]; decide) (by simp only [go_sem]) ?_
 simp only [ini, go_sem]
 have hc1 := hc.1
 have h38' := h38 S b w hc
 have h39' := h39 S b w i j hc hij
 have hfb := freS_b hc (i := i) (j := j) (by omega) (by omega)
 have hsq := sq_b hfb
 refine Tr.seqK fun K1 hK1 => ?_
 refine Tr.rg hcx [] _ [none] rfl rfl rfl ?_
 simp -implicitDefEqProofs (maxSteps := 2000000) (disch := first | omega | (simp only [go_sem, List.length_append, List.length_drop, List.length_take] <;> omega) | decide) only [go_sem, ↓reduceIte, Nat.reduceEqDiff, reduceCtorEq, Nat.reduceLT, Nat.reduceBEq, Nat.reduceAdd, Nat.reduceSub, Nat.reduceMul, Nat.reduceMod, Int.reduceMod, Int.reduceToNat, Int.reduceNeg, h38', h39']
 refine hK1 _ ?_
 clear hK1 K1
 refine Tr.kp [1, 2, 3] ?_
 simp only [pk_cons, pk_nil, ↓A_cons, ↓reduceIte, Nat.reduceEqDiff, reduceCtorEq]
 refine Tr.seqK fun K2 hK2 => ?_
 refine Tr.seqK fun K3 hK3 => ?_
 refine Tr.rg hcx [] _ [] rfl rfl rfl ?_
 simp -implicitDefEqProofs (maxSteps := 2000000) (disch := first | omega | (simp only [go_sem, List.length_append, List.length_drop, List.length_take] <;> omega) | decide) only [go_sem, ↓reduceIte, Nat.reduceEqDiff, reduceCtorEq, Nat.reduceLT, Nat.reduceBEq, Nat.reduceAdd, Nat.reduceSub, Nat.reduceMul, Nat.reduceMod, Int.reduceMod, Int.reduceToNat, Int.reduceNeg, h38', h39']
 refine hK3 _ ?_
 clear hK3 K3
 refine Tr.kp [1, 2, 3, 11] ?_
 simp only [pk_cons, pk_nil, ↓A_cons, ↓reduceIte, Nat.reduceEqDiff, reduceCtorEq]
 refine Tr.condG fun KT KF hT hF => ?_
 simp only [ev_tmp, ev_const, ↓A_cons, ↓reduceIte, Nat.reduceEqDiff, reduceCtorEq, condG_bool, GB_true, GB_false, decide_eq_true_eq]
 refine GB.dec (fun hc11 => hT ?_) (fun hc11 => hF ?_)
 ·
  clear hT hF KT KF
  refine Tr.seqK fun K4 hK4 => ?_
  refine Tr.rg hcx [] _ [] rfl rfl rfl ?_
  simp -implicitDefEqProofs (maxSteps := 2000000) (disch := first | omega | (simp only [go_sem, List.length_append, List.length_drop, List.length_take] <;> omega) | decide) only [go_sem, ↓reduceIte, Nat.reduceEqDiff, reduceCtorEq, Nat.reduceLT, Nat.reduceBEq, Nat.reduceAdd, Nat.reduceSub, Nat.reduceMul, Nat.reduceMod, Int.reduceMod, Int.reduceToNat, Int.reduceNeg, h38', h39']
  refine hK4 _ ?_
  clear hK4 K4
  refine Tr.kp [6] ?_
  simp only [pk_cons, pk_nil, ↓A_cons, ↓reduceIte, Nat.reduceEqDiff, reduceCtorEq]
  refine Tr.ret ?_
  simp -implicitDefEqProofs (disch := first | omega | (simp only [go_sem, List.length_append, List.length_drop, List.length_take] <;> omega) | decide) only [go_sem, ↓reduceIte, Nat.reduceEqDiff, reduceCtorEq]
  all_goals (exact congrArg (fun z => some (C.val (.int .i64 z))) (by unfold priS; first | (rw [if_pos hc11]; rfl) | rw [if_neg hc11]))
 ·
  clear hT hF KT KF
  refine Tr.skip ?_
  refine hK2 _ ?_
  clear hK2 K2
  refine Tr.kp [1, 2, 3] ?_
  simp only [pk_cons, pk_nil, ↓A_cons, ↓reduceIte, Nat.reduceEqDiff, reduceCtorEq]
  refine Tr.seqK fun K5 hK5 => ?_
  refine Tr.rg hcx [1000015] _ [] rfl rfl rfl ?_
  simp -implicitDefEqProofs (maxSteps := 2000000) (disch := first | omega | (simp only [go_sem, List.length_append, List.length_drop, List.length_take] <;> omega) | decide) only [go_sem, ↓reduceIte, Nat.reduceEqDiff, reduceCtorEq, Nat.reduceLT, Nat.reduceBEq, Nat.reduceAdd, Nat.reduceSub, Nat.reduceMul, Nat.reduceMod, Int.reduceMod, Int.reduceToNat, Int.reduceNeg, h38', h39']
  refine hK5 _ ?_
  clear hK5 K5
  refine Tr.kp [7] ?_
  simp only [pk_cons, pk_nil, ↓A_cons, ↓reduceIte, Nat.reduceEqDiff, reduceCtorEq]
  refine Tr.seqK fun K6 hK6 => ?_
  refine Tr.rg hcx [1000018] _ [] rfl rfl rfl ?_
  simp -implicitDefEqProofs (maxSteps := 2000000) (disch := first | omega | (simp only [go_sem, List.length_append, List.length_drop, List.length_take] <;> omega) | decide) only [go_sem, ↓reduceIte, Nat.reduceEqDiff, reduceCtorEq, Nat.reduceLT, Nat.reduceBEq, Nat.reduceAdd, Nat.reduceSub, Nat.reduceMul, Nat.reduceMod, Int.reduceMod, Int.reduceToNat, Int.reduceNeg, h38', h39']
  refine hK6 _ ?_
  clear hK6 K6
  refine Tr.kp [6] ?_
  simp only [pk_cons, pk_nil, ↓A_cons, ↓reduceIte, Nat.reduceEqDiff, reduceCtorEq]
  refine Tr.ret ?_
  simp -implicitDefEqProofs (disch := first | omega | (simp only [go_sem, List.length_append, List.length_drop, List.length_take] <;> omega) | decide) only [go_sem, ↓reduceIte, Nat.reduceEqDiff, reduceCtorEq]
  all_goals (exact congrArg (fun z => some (C.val (.int .i64 z))) (by unfold priS; first | (rw [if_pos hc11]; rfl) | rw [if_neg hc11]))
set_option maxRecDepth 100000 in
set_option maxHeartbeats 8000000 in
theorem fc42 {gl : Nat → C} {M : Nat} {pu : Nat → List C → Option C}  (hcx : CxOK (cxP gl M pu)) (l : List Int) (b w i j : Int) (hf : Fine l b w) (hij : 0 ≤ i ∧ i < j ∧ j ≤ l.length) : FC Try.prog gl 42 [sl iC .no l, .val (.int .i64 b), .val (.int .i64 w), .val (.int .i64 i), .val (.int .i64 j)] [] (.val (.int .i64 (freR l b w i j))) [] := by
 replace hcx := hcx.reN (M := 31)
 refine FC.ofA (cx := cxP gl 31 pu) (rs := [.tmp 10]) rfl Try.func42 rfl rfl rfl (by simp only [List.length_cons, List.length_nil]; decide) (by simp only [go_sem]) ?_
 simp only [ini, go_sem]
 have hf1 := hf.1
 have hf2 := hf.2.1
 have hf3 := hf.2.2.1
 refine Tr.seqK fun K1 hK1 => ?_
 refine Tr.rg hcx [] _ [] rfl rfl rfl ?_
 simp -implicitDefEqProofs (maxSteps := 2000000) (disch := first | omega | (simp only [go_sem, List.length_append, List.length_drop, List.length_take] <;> omega) | decide) only [go_sem, ↓reduceIte, Nat.reduceEqDiff, reduceCtorEq, Nat.reduceLT, Nat.reduceBEq, Nat.reduceAdd, Nat.reduceSub, Nat.reduceMul, Nat.reduceMod, Int.reduceMod, Int.reduceToNat, Int.reduceNeg]
 refine hK1 _ ?_
 clear hK1 K1
 refine Tr.kp [0, 1, 2, 3, 4] ?_
 simp only [pk_cons, pk_nil, ↓A_cons, ↓reduceIte, Nat.reduceEqDiff, reduceCtorEq]
 refine Tr.seqK fun K2 hK2 => ?_
 refine Tr.seqK fun K3 hK3 => ?_
 refine Tr.rg hcx [1000012] _ [] rfl rfl rfl ?_
 simp -implicitDefEqProofs (maxSteps := 2000000) (disch := first | omega | (simp only [go_sem, List.length_append, List.length_drop, List.length_take] <;> omega) | decide) only [go_sem, ↓reduceIte, Nat.reduceEqDiff, reduceCtorEq, Nat.reduceLT, Nat.reduceBEq, Nat.reduceAdd, Nat.reduceSub, Nat.reduceMul, Nat.reduceMod, Int.reduceMod, Int.reduceToNat, Int.reduceNeg]
 refine hK3 _ ?_
 clear hK3 K3
 refine Tr.kp [0, 1, 2, 3, 4, 11] ?_
 simp only [pk_cons, pk_nil, ↓A_cons, ↓reduceIte, Nat.reduceEqDiff, reduceCtorEq]
 refine Tr.blk ?_
 refine Tr.loopI (α := Int) (fun a => [(0, ?v0_41), (1, ?v1_41), (2, .val (.int .i64 (freR l b w i a))), (3, ?v3_41), (4, ?v4_41), (11, .val (.int .i64 a))]) (fun a => ?h_41) (fun a => i ≤ a ∧ a ≤ j) (fun a => (j - a).toNat) (i) ?_ ?le_41 ?hh_41 ?bd_41
 case hh_41 => exact rfl
 case le_41 => (simp only [Le_nil, Le_cons, ↓A_cons, ↓reduceIte, Nat.reduceEqDiff, reduceCtorEq, CLe_refl, CLe_top, CLe_full, CLe_nil, CLe_own, and_true, true_and]; all_goals (repeat' first | exact CLe.refl _ | exact True.intro | (refine CLe_sln ?_; first | with_reducible rfl | (simp only [List.take_zero]; done) | (rfl; done)) | exact CLe_nI (by omega) | exact CLe_int (by omega) | exact CLe_inI (by omega) | exact CLe_nIi (by omega) | with_reducible apply And.intro)); all_goals first | exact CLe.refl _ | (rw [show freR l b w i i = w from if_pos (Int.le_refl _)]; exact CLe.refl _)
 · omega
 case bd_41 =>
  rintro k hk
  have hkb := freR_b hf (i := i) (j := k) hij.1 (by omega)
  refine Tr.seqK fun K4 hK4 => ?_
  refine Tr.seqK fun K5 hK5 => ?_
  refine Tr.rg hcx [] _ [] rfl rfl rfl ?_
  simp -implicitDefEqProofs (maxSteps := 2000000) (disch := first | omega | (simp only [go_sem, List.length_append, List.length_drop, List.length_take] <;> omega) | decide) only [go_sem, ↓reduceIte, Nat.reduceEqDiff, reduceCtorEq, Nat.reduceLT, Nat.reduceBEq, Nat.reduceAdd, Nat.reduceSub, Nat.reduceMul, Nat.reduceMod, Int.reduceMod, Int.reduceToNat, Int.reduceNeg]
  refine hK5 _ ?_
  clear hK5 K5
  refine Tr.kp [0, 1, 2, 3, 4, 11, 15] ?_
  simp only [pk_cons, pk_nil, ↓A_cons, ↓reduceIte, Nat.reduceEqDiff, reduceCtorEq]
  refine Tr.condG fun KT KF hT hF => ?_
  simp only [ev_tmp, ev_const, ↓A_cons, ↓reduceIte, Nat.reduceEqDiff, reduceCtorEq, condG_bool, GB_true, GB_false, decide_eq_true_eq]
  refine GB.dec (fun hc15 => hT ?_) (fun hc15 => hF ?_)
  ·
   clear hT hF KT KF
   have hg := hf.2.2.2 k.toNat (by omega)
   refine Tr.skip ?_
   refine hK4 _ ?_
   clear hK4 K4
   refine Tr.kp [0, 1, 2, 3, 4, 11] ?_
   simp only [pk_cons, pk_nil, ↓A_cons, ↓reduceIte, Nat.reduceEqDiff, reduceCtorEq]
   refine Tr.seqK fun K6 hK6 => ?_
   refine Tr.blk ?_
   refine Tr.seqK fun K7 hK7 => ?_
   refine Tr.rg hcx [1000023] _ [] rfl rfl rfl ?_
   simp -implicitDefEqProofs (maxSteps := 2000000) (disch := first | omega | (simp only [go_sem, List.length_append, List.length_drop, List.length_take] <;> omega) | decide) only [go_sem, ↓reduceIte, Nat.reduceEqDiff, reduceCtorEq, Nat.reduceLT, Nat.reduceBEq, Nat.reduceAdd, Nat.reduceSub, Nat.reduceMul, Nat.reduceMod, Int.reduceMod, Int.reduceToNat, Int.reduceNeg]
   refine hK7 _ ?_
   clear hK7 K7
   refine Tr.kp [0, 1, 2, 3, 4, 11] ?_
   simp only [pk_cons, pk_nil, ↓A_cons, ↓reduceIte, Nat.reduceEqDiff, reduceCtorEq]
   refine Tr.seqK fun K8 hK8 => ?_
   refine Tr.rg hcx [] _ [] rfl rfl rfl ?_
   simp -implicitDefEqProofs (maxSteps := 2000000) (disch := first | omega | (simp only [go_sem, List.length_append, List.length_drop, List.length_take] <;> omega) | decide) only [go_sem, ↓reduceIte, Nat.reduceEqDiff, reduceCtorEq, Nat.reduceLT, Nat.reduceBEq, Nat.reduceAdd, Nat.reduceSub, Nat.reduceMul, Nat.reduceMod, Int.reduceMod, Int.reduceToNat, Int.reduceNeg]
   refine hK8 _ ?_
   clear hK8 K8
   refine Tr.kp [0, 1, 2, 3, 4, 11, 26] ?_
   simp only [pk_cons, pk_nil, ↓A_cons, ↓reduceIte, Nat.reduceEqDiff, reduceCtorEq]
   refine Tr.condG fun KT KF hT hF => ?_
   simp only [ev_tmp, ev_const, ↓A_cons, ↓reduceIte, Nat.reduceEqDiff, reduceCtorEq, condG_bool, GB_true, GB_false, decide_eq_true_eq]
   refine GB.dec (fun hc26 => hT ?_) (fun hc26 => hF ?_)
   ·
    clear hT hF KT KF
    refine Tr.rg hcx [1000029] _ [] rfl rfl rfl ?_
    simp -implicitDefEqProofs (maxSteps := 2000000) (disch := first | omega | (simp only [go_sem, List.length_append, List.length_drop, List.length_take] <;> omega) | decide) only [go_sem, ↓reduceIte, Nat.reduceEqDiff, reduceCtorEq, Nat.reduceLT, Nat.reduceBEq, Nat.reduceAdd, Nat.reduceSub, Nat.reduceMul, Nat.reduceMod, Int.reduceMod, Int.reduceToNat, Int.reduceNeg]
    refine hK6 _ ?_
    clear hK6 K6
    refine Tr.kp [0, 1, 2, 3, 4, 11] ?_
    simp only [pk_cons, pk_nil, ↓A_cons, ↓reduceIte, Nat.reduceEqDiff, reduceCtorEq]
    refine Tr.rg hcx [1000017] _ [] rfl rfl rfl ?_
    simp -implicitDefEqProofs (maxSteps := 2000000) (disch := first | omega | (simp only [go_sem, List.length_append, List.length_drop, List.length_take] <;> omega) | decide) only [go_sem, ↓reduceIte, Nat.reduceEqDiff, reduceCtorEq, Nat.reduceLT, Nat.reduceBEq, Nat.reduceAdd, Nat.reduceSub, Nat.reduceMul, Nat.reduceMod, Int.reduceMod, Int.reduceToNat, Int.reduceNeg]
    refine ⟨k + 1, ⟨by omega, by first | omega | (simp only []; omega)⟩, ?_, rfl⟩
    (simp only [Le_nil, Le_cons, ↓A_cons, ↓reduceIte, Nat.reduceEqDiff, reduceCtorEq, CLe_refl, CLe_top, CLe_full, CLe_nil, CLe_own, and_true, true_and]; all_goals (repeat' first | exact CLe.refl _ | exact True.intro | (refine CLe_sln ?_; first | with_reducible rfl | (simp only [List.take_zero]; done) | (rfl; done)) | exact CLe_nI (by omega) | exact CLe_int (by omega) | exact CLe_inI (by omega) | exact CLe_nIi (by omega) | with_reducible apply And.intro))
    all_goals first | (rw [freR_S l b w i k hij.1 hc26]; exact CLe.refl _) | ((obtain rfl : k = i := (by omega)); rw [freR_0 l b w k hij.1, show freR l b w k k = w from if_pos (Int.le_refl _)]; exact CLe.refl _)
   ·
    clear hT hF KT KF
    refine Tr.skip ?_
    refine hK6 _ ?_
    clear hK6 K6
    refine Tr.kp [0, 1, 2, 3, 4, 11] ?_
    simp only [pk_cons, pk_nil, ↓A_cons, ↓reduceIte, Nat.reduceEqDiff, reduceCtorEq]
    refine Tr.rg hcx [1000017] _ [] rfl rfl rfl ?_
    simp -implicitDefEqProofs (maxSteps := 2000000) (disch := first | omega | (simp only [go_sem, List.length_append, List.length_drop, List.length_take] <;> omega) | decide) only [go_sem, ↓reduceIte, Nat.reduceEqDiff, reduceCtorEq, Nat.reduceLT, Nat.reduceBEq, Nat.reduceAdd, Nat.reduceSub, Nat.reduceMul, Nat.reduceMod, Int.reduceMod, Int.reduceToNat, Int.reduceNeg]
    refine ⟨k + 1, ⟨by omega, by first | omega | (simp only []; omega)⟩, ?_, rfl⟩
    (simp only [Le_nil, Le_cons, ↓A_cons, ↓reduceIte, Nat.reduceEqDiff, reduceCtorEq, CLe_refl, CLe_top, CLe_full, CLe_nil, CLe_own, and_true, true_and]; all_goals (repeat' first | exact CLe.refl _ | exact True.intro | (refine CLe_sln ?_; first | with_reducible rfl | (simp only [List.take_zero]; done) | (rfl; done)) | exact CLe_nI (by omega) | exact CLe_int (by omega) | exact CLe_inI (by omega) | exact CLe_nIi (by omega) | with_reducible apply And.intro))
    all_goals first | (rw [freR_S l b w i k hij.1 hc26]; exact CLe.refl _) | ((obtain rfl : k = i := (by omega)); rw [freR_0 l b w k hij.1, show freR l b w k k = w from if_pos (Int.le_refl _)]; exact CLe.refl _)
  ·
   clear hT hF KT KF
   obtain rfl : k = j := by omega
   refine Tr.exit ?_
   refine hK2 _ ?_
   clear hK4 K4 hK2 K2
   refine Tr.kp [2] ?_
   simp only [pk_cons, pk_nil, ↓A_cons, ↓reduceIte, Nat.reduceEqDiff, reduceCtorEq]
   refine Tr.seqK fun K9 hK9 => ?_
   refine Tr.rg hcx [1000030] _ [] rfl rfl rfl ?_
   simp -implicitDefEqProofs (maxSteps := 2000000) (disch := first | omega | (simp only [go_sem, List.length_append, List.length_drop, List.length_take] <;> omega) | decide) only [go_sem, ↓reduceIte, Nat.reduceEqDiff, reduceCtorEq, Nat.reduceLT, Nat.reduceBEq, Nat.reduceAdd, Nat.reduceSub, Nat.reduceMul, Nat.reduceMod, Int.reduceMod, Int.reduceToNat, Int.reduceNeg]
   refine hK9 _ ?_
   clear hK9 K9
   refine Tr.kp [10] ?_
   simp only [pk_cons, pk_nil, ↓A_cons, ↓reduceIte, Nat.reduceEqDiff, reduceCtorEq]
   refine Tr.ret ?_
   simp -implicitDefEqProofs (disch := first | omega | (simp only [go_sem, List.length_append, List.length_drop, List.length_take] <;> omega) | decide) only [go_sem, ↓reduceIte, Nat.reduceEqDiff, reduceCtorEq]
   all_goals (rfl)
set_option maxRecDepth 100000 in
set_option maxHeartbeats 8000000 in
theorem fc43 {gl : Nat → C} {M : Nat} {pu : Nat → List C → Option C}  (hcx : CxOK (cxP gl M pu)) (h42 : ∀ (l : List Int) (b w i j : Int), Fine l b w → 0 ≤ i ∧ i < j ∧ j ≤ l.length → pu 42 [sl iC .no l, .val (.int .i64 b), .val (.int .i64 w), .val (.int .i64 i), .val (.int .i64 j)] = some (.val (.int .i64 (freR l b w i j)))) (l : List Int) (b w i j : Int) (hf : Fine l b w) (hij : 0 ≤ i ∧ i < j ∧ j ≤ l.length) : FC Try.prog gl 43 [sl iC .no l, .val (.int .i64 b), .val (.int .i64 w), .val (.int .i64 i), .val (.int .i64 j)] [] (.val (.int .i64 (priR l b w i j))) [] := by
 replace hcx := hcx.reN (M := 25)
 refine FC.ofA (cx := cxP gl 25 pu) (rs := [.tmp 10]) rfl Try.func43 rfl rfl rfl (by simp only [List.length_cons, List.length_nil]; decide) (by simp only [go_sem]) ?_
 simp only [ini, go_sem]
 have hf1 := hf.1
 have h42' := h42 l b w i j hf hij
 have hfb := freR_b hf (i := i) (j := j) hij.1 hij.2.2
 have hsq := sq_b ⟨hfb.1, Int.le_trans hfb.2 (by decide)⟩
 refine Tr.seqK fun K1 hK1 => ?_
 refine Tr.rg hcx [] _ [] rfl rfl rfl ?_
 simp -implicitDefEqProofs (maxSteps := 2000000) (disch := first | omega | (simp only [go_sem, List.length_append, List.length_drop, List.length_take] <;> omega) | decide) only [go_sem, ↓reduceIte, Nat.reduceEqDiff, reduceCtorEq, Nat.reduceLT, Nat.reduceBEq, Nat.reduceAdd, Nat.reduceSub, Nat.reduceMul, Nat.reduceMod, Int.reduceMod, Int.reduceToNat, Int.reduceNeg, h42']
 refine hK1 _ ?_
 clear hK1 K1
 refine Tr.kp [0, 1, 2, 3, 4] ?_
 simp only [pk_cons, pk_nil, ↓A_cons, ↓reduceIte, Nat.reduceEqDiff, reduceCtorEq]
 refine Tr.seqK fun K2 hK2 => ?_
 refine Tr.seqK fun K3 hK3 => ?_
 refine Tr.rg hcx [] _ [] rfl rfl rfl ?_
 simp -implicitDefEqProofs (maxSteps := 2000000) (disch := first | omega | (simp only [go_sem, List.length_append, List.length_drop, List.length_take] <;> omega) | decide) only [go_sem, ↓reduceIte, Nat.reduceEqDiff, reduceCtorEq, Nat.reduceLT, Nat.reduceBEq, Nat.reduceAdd, Nat.reduceSub, Nat.reduceMul, Nat.reduceMod, Int.reduceMod, Int.reduceToNat, Int.reduceNeg, h42']
 refine hK3 _ ?_
 clear hK3 K3
 refine Tr.kp [0, 1, 2, 3, 4, 15] ?_
 simp only [pk_cons, pk_nil, ↓A_cons, ↓reduceIte, Nat.reduceEqDiff, reduceCtorEq]
 refine Tr.condG fun KT KF hT hF => ?_
 simp only [ev_tmp, ev_const, ↓A_cons, ↓reduceIte, Nat.reduceEqDiff, reduceCtorEq, condG_bool, GB_true, GB_false, decide_eq_true_eq]
 refine GB.dec (fun hc15 => hT ?_) (fun hc15 => hF ?_)
 ·
  clear hT hF KT KF
  refine Tr.seqK fun K4 hK4 => ?_
  refine Tr.rg hcx [] _ [] rfl rfl rfl ?_
  simp -implicitDefEqProofs (maxSteps := 2000000) (disch := first | omega | (simp only [go_sem, List.length_append, List.length_drop, List.length_take] <;> omega) | decide) only [go_sem, ↓reduceIte, Nat.reduceEqDiff, reduceCtorEq, Nat.reduceLT, Nat.reduceBEq, Nat.reduceAdd, Nat.reduceSub, Nat.reduceMul, Nat.reduceMod, Int.reduceMod, Int.reduceToNat, Int.reduceNeg, h42']
  refine hK4 _ ?_
  clear hK4 K4
  refine Tr.kp [10] ?_
  simp only [pk_cons, pk_nil, ↓A_cons, ↓reduceIte, Nat.reduceEqDiff, reduceCtorEq]
  refine Tr.ret ?_
  simp -implicitDefEqProofs (disch := first | omega | (simp only [go_sem, List.length_append, List.length_drop, List.length_take] <;> omega) | decide) only [go_sem, ↓reduceIte, Nat.reduceEqDiff, reduceCtorEq]
  all_goals (exact congrArg (fun z => some (C.val (.int .i64 z))) (by unfold priR; first | (rw [if_pos hc15]; rfl) | rw [if_neg hc15]))
 ·
  clear hT hF KT KF
  refine Tr.skip ?_
  refine hK2 _ ?_
  clear hK2 K2
  refine Tr.kp [0, 1, 2, 3, 4] ?_
  simp only [pk_cons, pk_nil, ↓A_cons, ↓reduceIte, Nat.reduceEqDiff, reduceCtorEq]
  refine Tr.seqK fun K5 hK5 => ?_
  refine Tr.rg hcx [1000021] _ [] rfl rfl rfl ?_
  simp -implicitDefEqProofs (maxSteps := 2000000) (disch := first | omega | (simp only [go_sem, List.length_append, List.length_drop, List.length_take] <;> omega) | decide) only [go_sem, ↓reduceIte, Nat.reduceEqDiff, reduceCtorEq, Nat.reduceLT, Nat.reduceBEq, Nat.reduceAdd, Nat.reduceSub, Nat.reduceMul, Nat.reduceMod, Int.reduceMod, Int.reduceToNat, Int.reduceNeg, h42']
  refine hK5 _ ?_
  clear hK5 K5
  refine Tr.kp [11] ?_
  simp only [pk_cons, pk_nil, ↓A_cons, ↓reduceIte, Nat.reduceEqDiff, reduceCtorEq]
  refine Tr.seqK fun K6 hK6 => ?_
  refine Tr.rg hcx [1000024] _ [] rfl rfl rfl ?_
  simp -implicitDefEqProofs (maxSteps := 2000000) (disch := first | omega | (simp only [go_sem, List.length_append, List.length_drop, List.length_take] <;> omega) | decide) only [go_sem, ↓reduceIte, Nat.reduceEqDiff, reduceCtorEq, Nat.reduceLT, Nat.reduceBEq, Nat.reduceAdd, Nat.reduceSub, Nat.reduceMul, Nat.reduceMod, Int.reduceMod, Int.reduceToNat, Int.reduceNeg, h42']
  refine hK6 _ ?_
  clear hK6 K6
  refine Tr.kp [10] ?_
  simp only [pk_cons, pk_nil, ↓A_cons, ↓reduceIte, Nat.reduceEqDiff, reduceCtorEq]
  refine Tr.ret ?_
  simp -implicitDefEqProofs (disch := first | omega | (simp only [go_sem, List.length_append, List.length_drop, List.length_take] <;> omega) | decide) only [go_sem, ↓reduceIte, Nat.reduceEqDiff, reduceCtorEq]
  all_goals (exact congrArg (fun z => some (C.val (.int .i64 z))) (by unfold priR; first | (rw [if_pos hc15]; rfl) | rw [if_neg hc15]))
end Go.Sx
