/-
  Package token: the texts that the laws are tried with, in plain terms. And what follows.
-/
import Derived.Test.YtljjjkmiegeocaaPas
import Derived.Test.YtljjjkmiegeocaaPar
set_option linter.unusedSimpArgs false
set_option linter.unusedVariables false
namespace Go.Sx
def aroundI (n : Int) (m : Nat) : Nat := ((if n < 0 then -(n + 1) else n).tmod (m : Int)).toNat
theorem around_int (n : Int) (m : Nat) : (((aroundI n m : Nat) : Int)) = (if n < 0 then -(n + 1) else n).tmod (m : Int) := by
  unfold aroundI
  refine Int.toNat_of_nonneg (Int.tmod_nonneg _ ?_)
  split <;> omega
theorem around_lt (n : Int) {m : Nat} (h : 0 < m) : aroundI n m < m := by
  have h1 := around_int n m
  have h2 := Int.tmod_lt_of_pos (if n < 0 then -(n + 1) else n) (b := (m : Int)) (by omega)
  omega
/-! Lengths. -/
end Go.Sx
namespace Go.Sx
def pgB : List Int := [0, 1, 1, 2, 1, 4096, 4097, -1]
def pgW : List Int := [4096, 4097, -1]
theorem pgB_len : pgB.length = 8 := rfl
theorem pgW_len : pgW.length = 3 := rfl
def pageB (b : Int) : Int := gt pgB (aroundI b 8)
def pageW (w : Int) : Int := if 36 < aroundI w 40 then gt pgW (aroundI w 40 - 37) else (aroundI w 40 : Int)
theorem pageW_T {w : Int} (h : 36 < aroundI w 40) : pageW w = gt pgW (aroundI w 40 - 37) := if_pos h
theorem pageW_F {w : Int} (h : ¬ 36 < aroundI w 40) : pageW w = (aroundI w 40 : Int) := if_neg h
theorem pgB_b : ∀ i, i < 8 → -1 ≤ gt pgB i ∧ gt pgB i ≤ 4097 := by decide
theorem pgW_b : ∀ i, i < 3 → -1 ≤ gt pgW i ∧ gt pgW i ≤ 4097 := by decide
theorem pageB_b (b : Int) : -1 ≤ pageB b ∧ pageB b ≤ 4097 := pgB_b _ (around_lt b (by decide))
theorem pageW_b (w : Int) : -1 ≤ pageW w ∧ pageW w ≤ 4097 := by
  have h := around_lt w (m := 40) (by decide)
  by_cases c : 36 < aroundI w 40
  · rw [pageW_T c]; exact pgW_b _ (by omega)
  · rw [pageW_F c]; omega
/-- The words' widths. -/
def widR (l : List Int) : Nat → List Int
  | 0 => []
  | k + 1 => widR l k ++ [((aroundI (gt l k) 10 : Nat) : Int)]
def widI (l : List Int) : List Int := widR l (min l.length 9)
theorem widR_len (l : List Int) : ∀ k, (widR l k).length = k
  | 0 => rfl
  | k + 1 => by simp [widR, widR_len l k]
theorem widR_b (l : List Int) : ∀ k, ∀ x ∈ widR l k, 0 ≤ x ∧ x < 10
  | 0, x, h => by simp [widR] at h
  | k + 1, x, h => by
    simp only [widR, List.mem_append, List.mem_singleton] at h
    rcases h with h | h
    · exact widR_b l k x h
    · have := around_lt (gt l k) (m := 10) (by decide)
      omega
theorem gt_mem {α : Type} [Inhabited α] (l : List α) (i : Nat) (h : i < l.length) : gt l i ∈ l := by
  simp only [gt, List.getD, List.getElem?_eq_getElem h, Option.getD_some]
  exact List.getElem_mem h
theorem LI_of {l : List Int} (h : l.length ≤ 9223372036854775807) (hb : ∀ x ∈ l, -9223372036854775808 ≤ x ∧ x ≤ 9223372036854775807) : LI l := ⟨h, fun i hi => hb _ (gt_mem l i hi)⟩
theorem wid_len (l : List Int) : (widI l).length ≤ 9 := by unfold widI; rw [widR_len]; omega
theorem wid_LI (l : List Int) : LI (widI l) := LI_of (by have := wid_len l; omega) fun x h => by have := widR_b l _ x h; omega
theorem wid_b (l : List Int) (i : Nat) (h : i < (widI l).length) : 0 ≤ gt (widI l) i ∧ gt (widI l) i < 10 := widR_b l _ _ (gt_mem _ i h)
/-- Some bits as ends. -/
def bitI (x : Int) (k : Nat) : Int := x.fdiv (2 ^ (min k 64)) % 2
def endsR (x : Int) : Nat → List Int
  | 0 => []
  | j + 1 => if 0 < j ∧ bitI x (j % 16) = 1 then endsR x j ++ [(j : Int)] else endsR x j
def endsI (n : Nat) (x : Int) : List Int := if 0 < n then endsR x n ++ [(n : Int)] else []
theorem endsR_T {x : Int} {j : Nat} (h : 0 < j) (hb : bitI x (j % 16) = 1) : endsR x (j + 1) = endsR x j ++ [(j : Int)] := if_pos ⟨h, hb⟩
theorem endsR_F {x : Int} {j : Nat} (hb : ¬ bitI x (j % 16) = 1) : endsR x (j + 1) = endsR x j := if_neg fun h => hb h.2
theorem ends_T {n : Nat} (x : Int) (h : 0 < n) : endsI n x = endsR x n ++ [(n : Int)] := if_pos h
theorem ends_F {n : Nat} (x : Int) (h : ¬ 0 < n) : endsI n x = [] := if_neg h
theorem endsR_len (x : Int) : ∀ j, (endsR x j).length ≤ j
  | 0 => Nat.le_refl _
  | j + 1 => by
    have := endsR_len x j
    unfold endsR; split
    · simp only [List.length_append, List.length_singleton]; omega
    · omega
/-- Which list comes first. -/
def smaL : List Int → List Int → Bool
  | [], [] => false
  | [], _ :: _ => true
  | _ :: _, [] => false
  | a :: x, b :: y => if a = b then smaL x y else decide (a < b)
theorem smaL_at : ∀ {x y : List Int} {i : Nat}, i < x.length → i < y.length → (∀ j, j < i → gt x j = gt y j) → ¬ gt x i = gt y i → smaL x y = decide (gt x i < gt y i)
  | [], y, i, h, _, _, _ => absurd h (Nat.not_lt_zero i)
  | a :: x, [], i, _, h, _, _ => absurd h (Nat.not_lt_zero i)
  | a :: x, b :: y, 0, _, _, _, hn => by
    rw [gt_cons0, gt_cons0] at *
    exact if_neg hn
  | a :: x, b :: y, i + 1, h1, h2, hA, hn => by
    have h0 := hA 0 (Nat.succ_pos i)
    rw [gt_cons0, gt_cons0] at h0
    rw [gt_consS, gt_consS] at *
    rw [smaL, if_pos h0]
    exact smaL_at (by simpa using h1) (by simpa using h2) (fun j hj => by have := hA (j + 1) (by omega); rwa [gt_consS, gt_consS] at this) hn
theorem smaL_end : ∀ {x y : List Int}, (∀ j, j < x.length → j < y.length → gt x j = gt y j) → smaL x y = decide (x.length < y.length)
  | [], [], _ => rfl
  | [], b :: y, _ => by simp [smaL]
  | a :: x, [], _ => by simp [smaL]
  | a :: x, b :: y, hA => by
    have h0 := hA 0 (Nat.succ_pos _) (Nat.succ_pos _)
    rw [gt_cons0, gt_cons0] at h0
    rw [smaL, if_pos h0, smaL_end (fun j h1 h2 => by have := hA (j + 1) (by simpa using h1) (by simpa using h2); rwa [gt_consS, gt_consS] at this)]
    simp
/-- A certificate that is bent. -/
def wr (x : Int) : Int := IntKind.wrap .i64 x
def benB (L : List Int) (p : Int) : Nat := aroundI p (max L.length 1)
def benD (p : Int) : Int := (aroundI (p.tdiv 16) 7 : Int) - 3
def bentT (E L K : List Int) (h p : Int) : List Int × List Int × List Int :=
  if aroundI h 8 = 0 then (if 0 < E.length then E.set (aroundI p E.length) (wr (gt E (aroundI p E.length) + benD p)) else E, L, K)
  else if aroundI h 8 = 1 then (if 0 < E.length then E.take (aroundI p E.length) ++ E.drop (aroundI p E.length + 1) else E, L, K)
  else if aroundI h 8 = 2 then (E ++ [benD p], L, K)
  else if aroundI h 8 = 3 then (E, if benB L p < L.length then L.set (benB L p) (wr (gt L (benB L p) + benD p)) else L, K)
  else if aroundI h 8 = 4 then (E, L, if benB L p < K.length then K.set (benB L p) (wr (gt K (benB L p) + benD p)) else K)
  else if aroundI h 8 = 5 then (E, L ++ [benD p], K)
  else if aroundI h 8 = 6 then (E, L, if 0 < K.length then K.drop 1 else K)
  else (E, L, if benB L p < K.length then K.set (benB L p) (wr (p * 4294967296)) else K)
end Go.Sx
