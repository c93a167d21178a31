/-
  Plain facts on lists, and the encoding of integers and strings. And what follows.
-/
import Derived.Test.YtclpbgpclnipcaaProg
import Derived.KernelRfl
import Derived.Test.YtclpbgpclnipcaaSc
set_option linter.unusedSimpArgs false
set_option linter.unusedVariables false
namespace Go.Sx
open Go.RowKit

theorem set_mid {α : Type} (l r : List α) (x v : α) (t : Nat) (h : l.length = t) : (l ++ x :: r).set t v = l ++ v :: r := by
  subst h; simp
theorem set_rep {α : Type} (l : List α) (x v : α) (n t : Nat) (h : l.length = t) (h2 : t < n) : (l ++ List.replicate (n - t) x).set t v = l ++ v :: List.replicate (n - 1 - t) x := by
  have e : n - t = (n - 1 - t) + 1 := by omega
  rw [e, List.replicate_succ, set_mid _ _ _ _ _ h]
theorem gt_mid {α : Type} [Inhabited α] (l r : List α) (x : α) (t : Nat) (h : l.length = t) : gt (l ++ x :: r) t = x := by
  subst h; simp [gt, List.getD]
theorem gt_left {α : Type} [Inhabited α] (l r : List α) (t : Nat) (h : t < l.length) : gt (l ++ r) t = gt l t := by
  simp [gt, List.getD, List.getElem?_append_left h]
theorem take_snoc {α : Type} [Inhabited α] (l : List α) (j : Nat) (h : j < l.length) : l.take (j + 1) = l.take j ++ [gt l j] := by
  rw [List.take_add_one, List.getElem?_eq_getElem h]; simp [gt, List.getD, List.getElem?_eq_getElem h]
theorem take_next {α : Type} [Inhabited α] (l : List α) (j : Nat) (h : j < l.length) : l.take j ++ [gt l j] = l.take (j + 1) := (take_snoc l j h).symm
def le (m : Nat) : List UInt8 := if h : m = 0 then [] else UInt8.ofNat (m % 256) :: le (m / 256)
termination_by m
decreasing_by omega
theorem le_zero : le 0 = [] := by rw [le]; simp
theorem le_pos (m : Nat) (h : m ≠ 0) : le m = UInt8.ofNat (m % 256) :: le (m / 256) := by rw [le]; simp [h]
def wint (n : Int) : List UInt8 :=
  if 0 ≤ n then UInt8.ofNat (128 + (le n.toNat).length) :: (le n.toNat).reverse
  else UInt8.ofNat (127 - (le (-1 - n).toNat).length) :: ((le (-1 - n).toNat).reverse.map fun c => 255 - c)
def wb (s : List UInt8) : List UInt8 := wint s.length ++ s
theorem le_len (k : Nat) : ∀ m, m < 256 ^ k → (le m).length ≤ k := by
  induction k with
  | zero => intro m h; have : m = 0 := by simpa using h
            subst this; simp [le_zero]
  | succ k ih =>
    intro m h
    by_cases hm : m = 0
    · subst hm; simp [le_zero]
    · rw [le_pos m hm]
      have := ih (m / 256) (by rw [Nat.pow_succ] at h; exact Nat.div_lt_of_lt_mul (by omega))
      simp; omega
theorem wb_len (s : List UInt8) (h : s.length < 18446744073709551616) : (wb s).length ≤ s.length + 9 := by
  have := le_len 8 s.length (by simpa using h)
  simp [wb, wint]; omega
theorem wb_pos (s : List UInt8) : 1 ≤ (wb s).length := by
  unfold wb wint; split <;> simp <;> omega
theorem le_len_eq : ∀ (k m : Nat), m < 256 ^ k → (k = 0 ∨ 256 ^ (k - 1) ≤ m) → (le m).length = k
  | 0, m, h, _ => by
    have : m = 0 := by simpa using h
    subst this; simp [le_zero]
  | k + 1, m, h, h2 => by
    have h3 : 256 ^ k ≤ m := by simpa using h2
    have hp : 0 < 256 ^ k := Nat.pow_pos (by decide)
    have hm : m ≠ 0 := by omega
    rw [le_pos m hm, List.length_cons, le_len_eq k (m / 256) (by rw [Nat.pow_succ] at h; exact Nat.div_lt_of_lt_mul (by omega)) ?_]
    rcases Nat.eq_zero_or_pos k with rfl | hk
    · exact .inl rfl
    · right
      rw [Nat.le_div_iff_mul_le (by decide), ← Nat.pow_succ]
      rw [show (k - 1).succ = k by omega]; exact h3
def be (m k : Nat) : List UInt8 := (List.range k).map fun j => UInt8.ofNat (m >>> (8 * (k - 1 - j)))
theorem be_len (m k : Nat) : (be m k).length = k := by simp [be]
theorem be_gt (m k j : Nat) (h : j < k) : gt (be m k) j = UInt8.ofNat (m >>> (8 * (k - 1 - j))) := by
  simp [be, gt, List.getD, h]
theorem le_gt : ∀ (j m : Nat), j < (le m).length → gt (le m) j = UInt8.ofNat (m >>> (8 * j))
  | 0, m, h => by
    have hm : m ≠ 0 := by rintro rfl; simp [le_zero] at h
    rw [le_pos m hm]
    show UInt8.ofNat (m % 256) = _
    apply UInt8.toNat_inj.1; simp
  | j + 1, m, h => by
    have hm : m ≠ 0 := by rintro rfl; simp [le_zero] at h
    rw [le_pos m hm] at h ⊢
    rw [gt_consS, le_gt j (m / 256) (by simpa using h)]
    have : 8 * (j + 1) = 8 + 8 * j := by omega
    rw [this, Nat.shiftRight_add, show m >>> 8 = m / 256 from Nat.shiftRight_eq_div_pow m 8]
theorem gt_rev {α : Type} [Inhabited α] (l : List α) (j : Nat) (h : j < l.length) : gt l.reverse j = gt l (l.length - 1 - j) := by
  simp [gt, List.getD, List.getElem?_reverse h]
theorem ext_gt {α : Type} [Inhabited α] (l l' : List α) (h : l.length = l'.length) (hg : ∀ i < l.length, gt l i = gt l' i) : l = l' := by
  apply List.ext_getElem h
  intro i h1 h2
  have := hg i h1
  simpa [gt, List.getD, List.getElem?_eq_getElem h1, List.getElem?_eq_getElem h2] using this
theorem le_rev (m : Nat) : (le m).reverse = be m (le m).length := by
  refine ext_gt _ _ (by simp [be_len]) fun i hi => ?_
  have hi' : i < (le m).length := by simpa using hi
  rw [gt_rev _ _ hi', be_gt _ _ _ hi', le_gt _ _ (by omega)]
theorem xor255 (x : UInt8) : x ^^^ 255 = 255 - x := by
  apply UInt8.toNat_inj.1
  have hx := x.toNat_lt
  rw [UInt8.toNat_xor, UInt8.toNat_sub_of_le _ _ (by rw [UInt8.le_iff_toNat_le]; show _ ≤ 255; omega)]
  show x.toNat ^^^ 255 = 255 - x.toNat
  have h1 : BitVec.ofNat 8 x.toNat ^^^ BitVec.allOnes 8 = ~~~(BitVec.ofNat 8 x.toNat) := BitVec.xor_allOnes
  have h2 := congrArg BitVec.toNat h1
  rw [BitVec.toNat_xor, BitVec.toNat_not, BitVec.toNat_ofNat, BitVec.toNat_allOnes, Nat.mod_eq_of_lt (by omega)] at h2
  simpa using h2
theorem gt_map {α β : Type} [Inhabited α] [Inhabited β] (l : List α) (f : α → β) (j : Nat) (h : j < l.length) : gt (l.map f) j = f (gt l j) := by
  simp [gt, List.getD, List.getElem?_eq_getElem h]
def wI (m : Nat) (x : UInt8) : List UInt8 := (UInt8.ofNat (128 + (le m).length) ^^^ x) :: (be m (le m).length).map (· ^^^ x)
theorem wint_pos (m : Nat) : wint m = wI m 0 := by
  unfold wint wI
  rw [if_pos (by omega), ← le_rev]
  simp
theorem wint_neg (m : Nat) (h : (le m).length ≤ 8) : wint (-1 - (m : Int)) = wI m 255 := by
  unfold wint wI
  have e : (-1 - (-1 - (m : Int))).toNat = m := by omega
  rw [if_neg (by omega), e, ← le_rev]
  have h2 : UInt8.ofNat (127 - (le m).length) = UInt8.ofNat (128 + (le m).length) ^^^ 255 := by
    generalize (le m).length = k at h
    have key : ∀ k : Fin 9, UInt8.ofNat (127 - k.val) = UInt8.ofNat (128 + k.val) ^^^ 255 := by decide
    exact key ⟨k, by omega⟩
  rw [h2]
  simp only [xor255]
theorem shr_pow (m k : Nat) : m >>> (8 * k) = m / 256 ^ k := by
  rw [Nat.shiftRight_eq_div_pow, Nat.pow_mul]
theorem le_done (m k : Nat) (h : m < 256 ^ k) (h2 : ¬ 0 < k ∨ 0 < m >>> (8 * (k - 1))) : k = (le m).length := by
  refine (le_len_eq k m h ?_).symm
  rcases h2 with h2 | h2
  · left; omega
  · right
    rw [shr_pow] at h2
    have hp : 0 < 256 ^ (k - 1) := Nat.pow_pos (by decide)
    exact (Nat.le_div_iff_mul_le hp).1 h2 |> (by simpa using ·)
theorem le_less (m k : Nat) (_ : 0 < k) (h2 : ¬ 0 < m >>> (8 * (k - 1))) : m < 256 ^ (k - 1) := by
  rw [shr_pow] at h2
  have hp : 0 < 256 ^ (k - 1) := Nat.pow_pos (by decide)
  have : m / 256 ^ (k - 1) = 0 := Nat.eq_zero_of_not_pos h2
  exact (Nat.div_eq_zero_iff_lt hp).1 this
theorem wI_next (m : Nat) (x : UInt8) (a : Nat) (h : a < (le m).length) : ((be m (le m).length).map (· ^^^ x)).take a ++ [UInt8.ofNat (m >>> (8 * ((le m).length - 1 - a))) ^^^ x] = ((be m (le m).length).map (· ^^^ x)).take (a + 1) := by
  have hl : a < ((be m (le m).length).map (· ^^^ x)).length := by simpa [be_len] using h
  rw [take_snoc _ _ hl, gt_map _ _ _ (by rw [be_len]; exact h), be_gt _ _ _ h]
theorem rI_next (l : List UInt8) (f : UInt8 → UInt8) (a : Nat) (h : a < l.length) : (l.reverse.map f).take a ++ [f (gt l (l.length - 1 - a))] = (l.reverse.map f).take (a + 1) := by
  rw [take_snoc _ _ (by simpa using h), gt_map _ _ _ (by simpa using h), gt_rev _ _ h]
theorem flat_snoc {α : Type} (l : List (List α)) (i : Nat) (h : i < l.length) : (l.take i).flatten ++ gt l i = (l.take (i + 1)).flatten := by
  rw [take_snoc l i h]; simp
theorem flat_le {α : Type} (l : List (List α)) (i : Nat) (h : i < l.length) : (l.take i).flatten.length + (gt l i).length ≤ l.flatten.length := by
  have e := flat_snoc l i h
  have e2 : l.flatten = (l.take (i + 1)).flatten ++ (l.drop (i + 1)).flatten := by rw [← List.flatten_append, List.take_append_drop]
  rw [e2, List.length_append, ← e, List.length_append]; omega
theorem rep_snoc {α : Type} (n : Nat) (x : α) : List.replicate n x ++ [x] = List.replicate (n + 1) x := by rw [List.replicate_succ']
theorem app_rep {α : Type} (l : List α) (x y : α) (n t : Nat) : l ++ x :: List.replicate (n - 1 - t) y = (l ++ [x]) ++ List.replicate (n - (t + 1)) y := by
  rw [show n - (t + 1) = n - 1 - t by omega]; simp
theorem take_rep {α : Type} [Inhabited α] (l : List α) (n t : Nat) (y : α) (h : t < l.length) : l.take t ++ gt l t :: List.replicate (n - 1 - t) y = l.take (t + 1) ++ List.replicate (n - (t + 1)) y := by
  rw [app_rep, take_snoc l t h]
theorem le_inj (m n : Nat) (h : le m = le n) : m = n := by
  induction m using Nat.strongRecOn generalizing n with
  | ind m ih =>
    by_cases hm : m = 0
    · subst hm
      by_cases hn : n = 0
      · exact hn.symm
      · rw [le_zero, le_pos n hn] at h; cases h
    · by_cases hn : n = 0
      · subst hn; rw [le_zero, le_pos m hm] at h; cases h
      · rw [le_pos m hm, le_pos n hn] at h
        obtain ⟨h1, h2⟩ := List.cons.inj h
        have h3 := congrArg UInt8.toNat h1
        simp at h3
        have := ih (m / 256) (by omega) _ h2
        omega
theorem wint_cancel (m n : Nat) (x y : List UInt8) (hm : m < 18446744073709551616) (hn : n < 18446744073709551616) (h : wint m ++ x = wint n ++ y) : m = n ∧ x = y := by
  have h1 := le_len 8 m (by simpa using hm)
  have h2 := le_len 8 n (by simpa using hn)
  unfold wint at h
  rw [if_pos (by omega), if_pos (by omega)] at h
  simp only [Int.toNat_natCast, List.cons_append] at h
  obtain ⟨h3, h4⟩ := List.cons.inj h
  have h5 := congrArg UInt8.toNat h3
  simp at h5
  have h6 : (le m).length = (le n).length := by omega
  obtain ⟨h7, h8⟩ := List.append_inj h4 (by simp [h6])
  exact ⟨le_inj _ _ (by simpa using h7), h8⟩
theorem wb_cancel (s t x y : List UInt8) (hs : s.length < 18446744073709551616) (ht : t.length < 18446744073709551616) (h : wb s ++ x = wb t ++ y) : s = t ∧ x = y := by
  unfold wb at h
  rw [List.append_assoc, List.append_assoc] at h
  obtain ⟨h1, h2⟩ := wint_cancel _ _ _ _ hs ht h
  obtain ⟨h3, h4⟩ := List.append_inj h2 h1
  exact ⟨h3, h4⟩
theorem take_eq_next {α : Type} [Inhabited α] [DecidableEq α] (a b : List α) (i : Nat) (ha : i < a.length) (hb : i < b.length) (h : a.take i = b.take i) : decide (gt a i = gt b i) = decide (a.take (i + 1) = b.take (i + 1)) := by
  rw [decide_eq_decide, take_snoc a i ha, take_snoc b i hb, h]; simp
theorem take_ne_next {α : Type} [Inhabited α] [DecidableEq α] (a b : List α) (i : Nat) (h : ¬ a.take i = b.take i) : false = decide (a.take (i + 1) = b.take (i + 1)) := by
  symm; rw [decide_eq_false_iff_not]
  intro hc
  apply h
  have := congrArg (List.take i) hc
  simpa [List.take_take] using this
theorem take_flat_le {α : Type} (l : List (List α)) (k : Nat) : (l.take k).flatten.length ≤ l.flatten.length := by
  have e2 : l.flatten = (l.take k).flatten ++ (l.drop k).flatten := by rw [← List.flatten_append, List.take_append_drop]
  rw [e2, List.length_append]; omega
end Go.Sx

namespace Go.Sx
open Go.RowKit Go.Proofs

theorem td2 : td Try.prog 2 = some ⟨.int .i64, 1, 8, [.int .i64 0]⟩ := by kernel_rfl
theorem td3 : td Try.prog 3 = some ⟨.int .i64, 1, 8, [.int .i64 0]⟩ := by kernel_rfl
theorem td4 : td Try.prog 4 = some ⟨.bool, 1, 1, [.bool false]⟩ := by kernel_rfl
theorem td5 : td Try.prog 5 = some ⟨.int .u8, 1, 1, [.int .u8 0]⟩ := by kernel_rfl
theorem td9 : td Try.prog 9 = some ⟨.string, 1, 16, [.string ⟨#[]⟩]⟩ := by kernel_rfl
theorem td22 : td Try.prog 22 = some ⟨.slice 3, 1, 24, [.slice none 0 0]⟩ := by kernel_rfl
theorem td23 : td Try.prog 23 = some ⟨.slice 9, 1, 24, [.slice none 0 0]⟩ := by kernel_rfl
theorem td24 : td Try.prog 24 = some ⟨.slice 57, 1, 24, [.slice none 0 0]⟩ := by kernel_rfl
theorem td28 : td Try.prog 28 = some ⟨.slice 5, 1, 24, [.slice none 0 0]⟩ := by kernel_rfl
theorem td35 : td Try.prog 35 = some ⟨.int .i64, 1, 8, [.int .i64 0]⟩ := by kernel_rfl
theorem td54 : td Try.prog 54 = some ⟨.slice 28, 1, 24, [.slice none 0 0]⟩ := by kernel_rfl
theorem td56 : td Try.prog 56 = some ⟨.array 16 5, 16, 16, List.replicate 16 (.int .u8 0)⟩ := by kernel_rfl
theorem td57 : td Try.prog 57 = some ⟨.array 16 5, 16, 16, List.replicate 16 (.int .u8 0)⟩ := by kernel_rfl
theorem td58 : td Try.prog 58 = some ⟨.int .u64, 1, 8, [.int .u64 0]⟩ := by kernel_rfl
theorem td59 : td Try.prog 59 = some ⟨.int .u64, 1, 8, [.int .u64 0]⟩ := by kernel_rfl
noncomputable def cxP (gl : Nat → C) (M : Nat) (pu : Nat → List C → Option C) : Cx := ⟨Try.prog, M, gl, pu, fun _ _ _ => none⟩
theorem cxP_P (gl : Nat → C) (M : Nat) (pu : Nat → List C → Option C) : (cxP gl M pu).P = Try.prog := rfl
theorem cxP_N (gl : Nat → C) (M : Nat) (pu : Nat → List C → Option C) : (cxP gl M pu).N = M := rfl
theorem cxP_pu (gl : Nat → C) (M : Nat) (pu : Nat → List C → Option C) : (cxP gl M pu).pu = pu := rfl
theorem cxP_hp (gl : Nat → C) (M : Nat) (pu : Nat → List C → Option C) : (cxP gl M pu).hp = fun _ _ _ => none := rfl
theorem cxP_gl (gl : Nat → C) (M : Nat) (pu : Nat → List C → Option C) : (cxP gl M pu).gl = gl := rfl
theorem hMO {gl : Nat → C} {M : Nat} {pu : Nat → List C → Option C} : (cxP gl M pu).P.follows .mixedOrders = true := by
  rw [cxP_P]; kernel_rfl
theorem eq57 (op : BinOp) (a b : List UInt8) (ha : a.length = 16) (hb : b.length = 16) : binPlan Try.prog op 57 (.agg (cl bC a)) (.agg (cl bC b)) = eqR op (decide (a = b)) := eq_arr8 Try.prog td57 td5 (by kernel_rfl) op a b ha hb
attribute [go_sem] td2 td3 td4 td5 td9 td22 td23 td24 td28 td35 td54 td56 td57 td58 td59 cxP_P cxP_N cxP_pu cxP_hp cxP_gl
end Go.Sx

namespace Go.Sx
open Go.RowKit Go.Proofs

theorem gt_mem {α : Type} [Inhabited α] (l : List α) (i : Nat) (h : i < l.length) : gt l i ∈ l := by
  simp [gt, List.getD, List.getElem?_eq_getElem h]
def wInts (l : List Int) : List UInt8 := wint l.length ++ l.flatMap wint
def wStrs (l : List (List UInt8)) : List UInt8 := wint l.length ++ l.flatMap wb
def wDigs (l : List Dig) : List UInt8 := wint l.length ++ l.flatMap (·.1)
theorem wint_len (n : Int) (h : -9223372036854775808 ≤ n ∧ n ≤ 9223372036854775807) : (wint n).length ≤ 9 := by
  unfold wint
  split
  · have := le_len 8 n.toNat (by omega)
    simp; omega
  · have := le_len 8 (-1 - n).toNat (by omega)
    simp; omega
theorem wintn_len (n : Nat) (h : n < 18446744073709551616) : (wint (n : Int)).length ≤ 9 := by
  unfold wint
  rw [if_pos (by omega)]
  have := le_len 8 n (by simpa using h)
  simp; omega
theorem fm_snoc {α β : Type} [Inhabited α] (f : α → List β) (l : List α) (i : Nat) (h : i < l.length) : (l.take i).flatMap f ++ f (gt l i) = (l.take (i + 1)).flatMap f := by
  rw [take_snoc l i h]; simp
theorem ints_le (l : List Int) (hr : ∀ x ∈ l, -9223372036854775808 ≤ x ∧ x ≤ 9223372036854775807) : ∀ i ≤ l.length, ((l.take i).flatMap wint).length ≤ 9 * i
  | 0, _ => by simp
  | i + 1, h => by
    rw [← fm_snoc wint l i (by omega), List.length_append]
    have := ints_le l hr i (by omega)
    have := wint_len (gt l i) (hr _ (gt_mem l i (by omega)))
    omega
theorem strs_le (l : List (List UInt8)) (hb : l.flatten.length < 1099511627776) : ∀ i ≤ l.length, ((l.take i).flatMap wb).length ≤ 9 * i + (l.take i).flatten.length
  | 0, _ => by simp
  | i + 1, h => by
    rw [← fm_snoc wb l i (by omega), ← flat_snoc l i (by omega), List.length_append, List.length_append]
    have := strs_le l hb i (by omega)
    have := flat_le l i (by omega)
    have := wb_len (gt l i) (by omega)
    omega
theorem digs_le (l : List Dig) : ∀ i ≤ l.length, ((l.take i).flatMap (·.1)).length = 16 * i
  | 0, _ => by simp
  | i + 1, h => by
    rw [← fm_snoc (·.1) l i (by omega), List.length_append, digs_le l i (by omega), (gt l i).2]; omega
theorem dec_len {α : Type} [DecidableEq α] {x y : List α} (h : ¬ x.length = y.length) : decide (x = y) = false := by
  rw [decide_eq_false_iff_not]; rintro rfl; exact h rfl
theorem dec_ne {α : Type} [Inhabited α] [DecidableEq α] {x y : List α} {i : Nat} (h : ¬ gt x i = gt y i) : decide (x = y) = false := by
  rw [decide_eq_false_iff_not]; rintro rfl; exact h rfl
theorem dec_eq {α : Type} [DecidableEq α] {x y : List α} {i : Nat} (hi : ¬ i < x.length) (hl : x.length = y.length) (h : x.take i = y.take i) : decide (x = y) = true := by
  rw [decide_eq_true_iff, ← List.take_of_length_le (show x.length ≤ i by omega), h, List.take_of_length_le (by omega)]
theorem take_next2 {α : Type} [Inhabited α] {x y : List α} {i : Nat} (hi : i < x.length) (hl : x.length = y.length) (h : x.take i = y.take i) (he : gt x i = gt y i) : x.take (i + 1) = y.take (i + 1) := by
  rw [take_snoc x i hi, take_snoc y i (by omega), h, he]
theorem dig_ext {a b : Dig} : a.1 = b.1 ↔ a = b := ⟨Subtype.ext, fun h => by rw [h]⟩
theorem gt_take (l : List Dig) (k i : Nat) (h : i < 16) : (gt l k).1.take i ++ [gt (gt l k).1 i] = (gt l k).1.take (i + 1) := (take_snoc _ _ (by rw [(gt l k).2]; exact h)).symm

/-! Decoding. -/
def flipOf (x : UInt8) : UInt8 := if x < 128 then 255 else 0
def kOf (x : UInt8) : Nat := (x ^^^ flipOf x).toNat - 128
def accF (f : UInt8) (l : List UInt8) : Nat := l.foldl (fun m c => m * 256 + (c ^^^ f).toNat) 0
theorem accF_snoc (f : UInt8) (l : List UInt8) (c : UInt8) : accF f (l ++ [c]) = accF f l * 256 + (c ^^^ f).toNat := by simp [accF]
theorem accF_lt (f : UInt8) (l : List UInt8) : accF f l < 256 ^ l.length := by
  have key : ∀ n (l : List UInt8), l.length = n → accF f l < 256 ^ n := by
    intro n
    induction n with
    | zero => intro l hl; rw [List.length_eq_zero_iff.1 hl]; simp [accF]
    | succ n ih =>
      intro l hl
      have hne : l ≠ [] := by rintro rfl; simp at hl
      rw [← List.dropLast_concat_getLast hne, accF_snoc]
      have h1 := ih l.dropLast (by simp [hl])
      have h2 := (l.getLast hne ^^^ f).toNat_lt
      rw [Nat.pow_succ]; omega
  exact key _ l rfl
theorem flip_ge (x : UInt8) : 128 ≤ (x ^^^ flipOf x).toNat := by
  unfold flipOf
  split
  · rename_i h
    rw [xor255, UInt8.toNat_sub_of_le _ _ (by rw [UInt8.le_iff_toNat_le]; have := x.toNat_lt; show _ ≤ 255; omega)]
    rw [UInt8.lt_iff_toNat_lt] at h
    have h' : x.toNat < 128 := h
    show 128 ≤ 255 - x.toNat
    omega
  · rename_i h
    rw [UInt8.lt_iff_toNat_lt] at h
    have h' : ¬ x.toNat < 128 := h
    simp; omega
def getI (b : List UInt8) : Int × Nat × Nat := match b with
  | [] => (0, 0, 3)
  | x :: r =>
    if 8 < kOf x then (0, 0, 2) else
    if (x :: r).length ≤ kOf x then (0, 0, 3) else
    if 0 < kOf x ∧ gt (x :: r) 1 ^^^ flipOf x = 0 then (0, 0, 2) else
    if 9223372036854775808 ≤ accF (flipOf x) (r.take (kOf x)) then (0, 0, 2) else
    (if x < 128 then -1 - (accF (flipOf x) (r.take (kOf x)) : Int) else (accF (flipOf x) (r.take (kOf x)) : Int), kOf x + 1, 0)
section
variable {x : UInt8} {r : List UInt8} {k : Nat} (hk : kOf x = k)
include hk
theorem getI_1 (h : 8 < k) : getI (x :: r) = (0, 0, 2) := by subst hk; simp only [getI]; rw [if_pos h]
theorem getI_2 (h : ¬ 8 < k) (h2 : (x :: r).length ≤ k) : getI (x :: r) = (0, 0, 3) := by subst hk; simp only [getI]; rw [if_neg h, if_pos h2]
theorem getI_3 (h : ¬ 8 < k) (h2 : ¬ (x :: r).length ≤ k) (h3 : 0 < k) (h4 : gt (x :: r) 1 ^^^ flipOf x = 0) : getI (x :: r) = (0, 0, 2) := by
  subst hk; simp only [getI]; rw [if_neg h, if_neg h2, if_pos ⟨h3, h4⟩]
theorem getI_4 (h : ¬ 8 < k) (h2 : ¬ (x :: r).length ≤ k) (h3 : ¬ (0 < k ∧ gt (x :: r) 1 ^^^ flipOf x = 0)) (h4 : 9223372036854775808 ≤ accF (flipOf x) (r.take k)) : getI (x :: r) = (0, 0, 2) := by
  subst hk; simp only [getI]; rw [if_neg h, if_neg h2, if_neg h3, if_pos h4]
theorem getI_5 (h : ¬ 8 < k) (h2 : ¬ (x :: r).length ≤ k) (h3 : ¬ (0 < k ∧ gt (x :: r) 1 ^^^ flipOf x = 0)) (h4 : ¬ 9223372036854775808 ≤ accF (flipOf x) (r.take k)) (h5 : x < 128) : getI (x :: r) = (-1 - (accF (flipOf x) (r.take k) : Int), k + 1, 0) := by
  subst hk; simp only [getI]; rw [if_neg h, if_neg h2, if_neg h3, if_neg h4, if_pos h5]
theorem getI_6 (h : ¬ 8 < k) (h2 : ¬ (x :: r).length ≤ k) (h3 : ¬ (0 < k ∧ gt (x :: r) 1 ^^^ flipOf x = 0)) (h4 : ¬ 9223372036854775808 ≤ accF (flipOf x) (r.take k)) (h5 : ¬ x < 128) : getI (x :: r) = ((accF (flipOf x) (r.take k) : Int), k + 1, 0) := by
  subst hk; simp only [getI]; rw [if_neg h, if_neg h2, if_neg h3, if_neg h4, if_neg h5]
end
theorem flip_pos (x : UInt8) : (UInt8.ofNat 0 < flipOf x) = (x < 128) := by
  unfold flipOf
  split
  · rename_i h; simp [h]
  · rename_i h
    simp only [h, eq_iff_iff, iff_false]; decide
theorem big63 (m : Nat) (h : m < 18446744073709551616) : (0 < m >>> 63) = (9223372036854775808 ≤ m) := by
  rw [Nat.shiftRight_eq_div_pow]
  apply propext
  constructor
  · intro h2
    have := (Nat.div_pos_iff.1 h2).2
    simpa using this
  · intro h2
    exact Nat.div_pos (by simpa using h2) (by decide)
theorem acc_next (f : UInt8) (l : List UInt8) (a : Nat) (h : a < l.length) (h8 : a < 8) : (accF f (l.take a) * 2 ^ 8 % 18446744073709551616 ||| (gt l a ^^^ f).toNat) = accF f (l.take (a + 1)) := by
  rw [take_snoc l a h, accF_snoc]
  have h1 := accF_lt f (l.take a)
  rw [List.length_take, Nat.min_eq_left (by omega)] at h1
  have h2 : 256 ^ a ≤ 256 ^ 7 := Nat.pow_le_pow_right (by decide) (by omega)
  have h3 := (gt l a ^^^ f).toNat_lt
  have h4 : (256 : Nat) ^ 7 = 72057594037927936 := by decide
  rw [Nat.mod_eq_of_lt (by omega)]
  have := Nat.two_pow_add_eq_or_of_lt (i := 8) (b := (gt l a ^^^ f).toNat) (by simpa using h3) (accF f (l.take a))
  rw [Nat.mul_comm] at this
  rw [← this]

theorem kOf_cases (x : UInt8) : (x.toNat < 128 ∧ kOf x = 127 - x.toNat) ∨ (128 ≤ x.toNat ∧ kOf x = x.toNat - 128) := by
  unfold kOf flipOf
  have hx := x.toNat_lt
  split
  · rename_i h
    rw [UInt8.lt_iff_toNat_lt] at h
    have h' : x.toNat < 128 := h
    left
    refine ⟨h', ?_⟩
    rw [xor255, UInt8.toNat_sub_of_le _ _ (by rw [UInt8.le_iff_toNat_le]; show _ ≤ 255; omega)]
    show 255 - x.toNat - 128 = _
    omega
  · rename_i h
    rw [UInt8.lt_iff_toNat_lt] at h
    have h' : ¬ x.toNat < 128 := h
    right
    exact ⟨by omega, by simp⟩
theorem xflip (c x : UInt8) : (c ^^^ flipOf x).toNat = if x.toNat < 128 then 255 - c.toNat else c.toNat := by
  have e : (x < 128) = (x.toNat < 128) := by rw [UInt8.lt_iff_toNat_lt]; rfl
  unfold flipOf
  simp only [e]
  split
  · rw [xor255, UInt8.toNat_sub_of_le _ _ (by rw [UInt8.le_iff_toNat_le]; have := c.toNat_lt; show _ ≤ 255; omega)]; rfl
  · simp
theorem be_snoc (m c k : Nat) (hc : c < 256) : be (m * 256 + c) (k + 1) = be m k ++ [UInt8.ofNat c] := by
  refine ext_gt _ _ (by simp [be_len]) fun i hi => ?_
  rw [be_len] at hi
  rw [be_gt _ _ _ hi]
  rcases Nat.lt_or_ge i k with h | h
  · rw [gt_left _ _ _ (by rw [be_len]; exact h), be_gt _ _ _ h]
    congr 1
    rw [show k + 1 - 1 - i = (k - 1 - i) + 1 by omega, shr_pow, shr_pow, Nat.pow_succ, Nat.mul_comm (256 ^ (k - 1 - i)), ← Nat.div_div_eq_div_mul]
    congr 1; omega
  · have : i = k := by omega
    subst this
    rw [gt_mid _ _ _ _ (be_len _ _)]
    apply UInt8.toNat_inj.1
    simp
theorem be_acc (f : UInt8) (l : List UInt8) : be (accF f l) l.length = l.map (· ^^^ f) := by
  have key : ∀ n (l : List UInt8), l.length = n → be (accF f l) l.length = l.map (· ^^^ f) := by
    intro n
    induction n with
    | zero => intro l hl; rw [List.length_eq_zero_iff.1 hl]; rfl
    | succ n ih =>
      intro l hl
      have hne : l ≠ [] := by rintro rfl; simp at hl
      rw [← List.dropLast_concat_getLast hne, accF_snoc, List.length_append, List.length_singleton, be_snoc _ _ _ (l.getLast hne ^^^ f).toNat_lt, ih l.dropLast (by simp [hl]), List.map_append]
      simp
  exact key _ l rfl
theorem acc_ge (f : UInt8) : ∀ (l : List UInt8) (m : Nat), m * 256 ^ l.length ≤ l.foldl (fun m c => m * 256 + (c ^^^ f).toNat) m
  | [], m => by simp
  | c :: l, m => by
    refine Nat.le_trans ?_ (acc_ge f l (m * 256 + (c ^^^ f).toNat))
    rw [List.length_cons, Nat.pow_succ, Nat.mul_comm (256 ^ l.length), ← Nat.mul_assoc]
    exact Nat.mul_le_mul_right _ (by omega)
theorem acc_app (f : UInt8) (l l' : List UInt8) : accF f l * 256 ^ l'.length ≤ accF f (l ++ l') := by
  unfold accF
  rw [List.foldl_append]
  exact acc_ge f l' _
theorem xor_cancel (a b c : UInt8) : a ^^^ c = b ^^^ c ↔ a = b := by
  constructor
  · intro h
    have := congrArg (· ^^^ c) h
    simpa [UInt8.xor_assoc] using this
  · rintro rfl; rfl
/-- An encoding is read back just where it begins with no zero. -/
theorem canon {x : UInt8} {r : List UInt8} {k : Nat} (hk : kOf x = k) (h8 : k ≤ 8) (hl : k ≤ r.length) : wI (accF (flipOf x) (r.take k)) (flipOf x) = x :: r.take k ↔ ¬ (0 < k ∧ gt (x :: r) 1 ^^^ flipOf x = 0) := by
  have hkl : (r.take k).length = k := by rw [List.length_take]; omega
  have hx : x = UInt8.ofNat (128 + k) ^^^ flipOf x := by
    have hge := flip_ge x
    have hlt := (x ^^^ flipOf x).toNat_lt
    have e : UInt8.ofNat (128 + k) = x ^^^ flipOf x := by
      apply UInt8.toNat_inj.1
      unfold kOf at hk
      have e2 : (UInt8.ofNat (128 + k)).toNat = (128 + k) % 256 := rfl
      rw [e2]
      omega
    rw [e, UInt8.xor_assoc, UInt8.xor_self, UInt8.xor_zero]
  have hlt := accF_lt (flipOf x) (r.take k)
  rw [hkl] at hlt
  have hle : (le (accF (flipOf x) (r.take k))).length ≤ k := le_len k _ hlt
  unfold wI
  constructor
  · intro h
    rintro ⟨hk0, hz⟩
    have h2 : UInt8.ofNat (128 + (le (accF (flipOf x) (r.take k))).length) = UInt8.ofNat (128 + k) := by
      have h3 : UInt8.ofNat (128 + (le (accF (flipOf x) (r.take k))).length) ^^^ flipOf x = UInt8.ofNat (128 + k) ^^^ flipOf x := by
        exact (List.cons.inj h).1.trans hx
      exact (xor_cancel _ _ _).1 h3
    have h4 := congrArg UInt8.toNat h2
    simp at h4
    have h5 : (le (accF (flipOf x) (r.take k))).length = k := by omega
    -- the first digit is zero
    obtain ⟨c, r', rfl⟩ : ∃ c r', r = c :: r' := by
      cases r with
      | nil => simp at hl; omega
      | cons c r' => exact ⟨c, r', rfl⟩
    have hz' : c ^^^ flipOf x = 0 := hz
    obtain ⟨k', rfl⟩ : ∃ k', k = k' + 1 := ⟨k - 1, by omega⟩
    rw [List.take_succ_cons] at hlt h5
    have h6 : accF (flipOf x) (c :: r'.take k') = accF (flipOf x) (r'.take k') := by
      show List.foldl _ _ _ = _
      rw [List.foldl_cons, hz']; rfl
    have h7 := accF_lt (flipOf x) (r'.take k')
    have h8 : (r'.take k').length ≤ k' := by rw [List.length_take]; omega
    have h9 : (le (accF (flipOf x) (r'.take k'))).length ≤ k' := le_len k' _ (Nat.lt_of_lt_of_le h7 (Nat.pow_le_pow_right (by decide) h8))
    rw [h6] at h5
    omega
  · intro hn
    have h5 : (le (accF (flipOf x) (r.take k))).length = k := by
      refine le_len_eq k _ hlt ?_
      rcases Nat.eq_zero_or_pos k with h0 | h0
      · exact .inl h0
      · right
        obtain ⟨c, r', rfl⟩ : ∃ c r', r = c :: r' := by
          cases r with
          | nil => simp at hl; omega
          | cons c r' => exact ⟨c, r', rfl⟩
        obtain ⟨k', rfl⟩ : ∃ k', k = k' + 1 := ⟨k - 1, by omega⟩
        have hc : c ^^^ flipOf x ≠ 0 := fun h => hn ⟨h0, h⟩
        have hc' : 1 ≤ (c ^^^ flipOf x).toNat := by
          rcases Nat.eq_zero_or_pos (c ^^^ flipOf x).toNat with h | h
          · exact absurd (UInt8.toNat_inj.1 (by simpa using h)) hc
          · exact h
        rw [List.take_succ_cons]
        have h1 := acc_ge (flipOf x) (r'.take k') (0 * 256 + (c ^^^ flipOf x).toNat)
        have h2 : (r'.take k').length = k' := by rw [List.length_take]; simp at hl; omega
        rw [h2] at h1
        simp only [Nat.add_sub_cancel]
        refine Nat.le_trans ?_ h1
        rw [Nat.zero_mul, Nat.zero_add]
        exact Nat.le_mul_of_pos_left _ hc'
    rw [h5]
    rw [← hx]
    refine congrArg (List.cons x) ?_
    have h6 := be_acc (flipOf x) (r.take k)
    rw [hkl] at h6
    rw [h6, List.map_map]
    have : ((fun y => y ^^^ flipOf x) ∘ fun y => y ^^^ flipOf x) = id := by
      funext y
      show (y ^^^ flipOf x) ^^^ flipOf x = y
      rw [UInt8.xor_assoc, UInt8.xor_self, UInt8.xor_zero]
    rw [this, List.map_id]
end Go.Sx

namespace Go.Sx
theorem x128 (x : UInt8) : (x < 128) = (x.toNat < 128) := by rw [UInt8.lt_iff_toNat_lt]; rfl
theorem flip_of (x : UInt8) : (x.toNat < 128 → flipOf x = 255) ∧ (¬ x.toNat < 128 → flipOf x = 0) := by
  unfold flipOf
  have e := x128 x
  exact ⟨fun h => if_pos (e.mpr h), fun h => if_neg fun h' => h (e.mp h')⟩
section
variable {b : List UInt8} {x : UInt8} {r : List UInt8} {k : Nat} (hbe : b = x :: r) (hk : kOf x = k)
include hbe hk
theorem rg1 (h : 8 < k) : getI b = (0, 0, 2) := by subst hbe; exact getI_1 hk h
theorem rg2 (h8 : k ≤ 8) (h : b.length < k + 1) : getI b = (0, 0, 3) := by subst hbe; exact getI_2 hk (by omega) (by omega)
theorem rg3 (h8 : k ≤ 8) (hl : ¬ b.length < k + 1) (i : Nat) (hi : i + 1 ≤ k) (hc : 36028797018963967 < accF (flipOf x) ((r.take k).take i)) : getI b = (0, 0, 2) := by
  subst hbe
  by_cases h3 : 0 < k ∧ gt (x :: r) 1 ^^^ flipOf x = 0
  · exact getI_3 hk (by omega) (by omega) h3.1 h3.2
  · refine getI_4 hk (by omega) (by omega) h3 ?_
    have h1 := acc_app (flipOf x) ((r.take k).take i) ((r.take k).drop i)
    rw [List.take_append_drop] at h1
    have h2 : ((r.take k).drop i).length = k - i := by rw [List.length_drop, List.length_take]; simp at hl; omega
    rw [h2] at h1
    have h4 : 256 ^ 1 ≤ 256 ^ (k - i) := Nat.pow_le_pow_right (by decide) (by omega)
    have h5 := Nat.mul_le_mul_left (accF (flipOf x) ((r.take k).take i)) h4
    omega
theorem rtake (h8 : k ≤ 8) (hl : ¬ b.length < k + 1) (i : Nat) (hi : i + 1 ≤ k) : gt b (i + 1) = gt (r.take k) i ∧ i < (r.take k).length := by
  have _ := hk
  subst hbe
  simp at hl
  refine ⟨?_, by rw [List.length_take]; omega⟩
  rw [gt_consS]
  unfold gt
  rw [List.getD_eq_getElem?_getD, List.getD_eq_getElem?_getD, List.getElem?_take_of_lt (by omega)]
theorem raccN (h8 : k ≤ 8) (hl : ¬ b.length < k + 1) (i : Nat) (hi : i + 1 ≤ k) : 256 * accF (flipOf x) ((r.take k).take i) + (gt (r.take k) i ^^^ flipOf x).toNat = accF (flipOf x) ((r.take k).take (i + 1)) := by
  rw [take_snoc _ _ (rtake hbe hk h8 hl i hi).2, accF_snoc]
  omega
theorem rwi (h8 : k ≤ 8) (hl : ¬ b.length < k + 1) : (if x.toNat < 128 then wint (-1 - (accF (flipOf x) (r.take k) : Int)) else wint (accF (flipOf x) (r.take k))) = wI (accF (flipOf x) (r.take k)) (flipOf x) := by
  have _ := hbe
  have hle : (le (accF (flipOf x) (r.take k))).length ≤ 8 := by
    refine le_len 8 _ (Nat.lt_of_lt_of_le (accF_lt _ _) (Nat.pow_le_pow_right (by decide) ?_))
    rw [List.length_take]; omega
  split
  · rename_i h; rw [wint_neg _ hle, (flip_of x).1 h]
  · rename_i h; rw [wint_pos, (flip_of x).2 h]
theorem rcan (h8 : k ≤ 8) (hl : ¬ b.length < k + 1) : ((if x.toNat < 128 then wint (-1 - (accF (flipOf x) (r.take k) : Int)) else wint (accF (flipOf x) (r.take k))) = b.take (k + 1)) ↔ ¬ (0 < k ∧ gt (x :: r) 1 ^^^ flipOf x = 0) := by
  rw [rwi hbe hk h8 hl, ← canon hk h8 (by subst hbe; simp at hl; omega)]
  subst hbe
  rw [List.take_succ_cons]
theorem rg4n (h8 : k ≤ 8) (hl : ¬ b.length < k + 1) (h128 : x.toNat < 128) (hc : wint (-1 - (accF (flipOf x) (r.take k) : Int)) ≠ b.take (k + 1)) : getI b = (0, 0, 2) := by
  have h := rcan hbe hk h8 hl
  rw [if_pos h128] at h
  have h3 := Classical.not_not.1 (mt h.2 hc)
  subst hbe
  exact getI_3 hk (by omega) (by omega) h3.1 h3.2
theorem rg4p (h8 : k ≤ 8) (hl : ¬ b.length < k + 1) (h128 : ¬ x.toNat < 128) (hc : wint (accF (flipOf x) (r.take k)) ≠ b.take (k + 1)) : getI b = (0, 0, 2) := by
  have h := rcan hbe hk h8 hl
  rw [if_neg h128] at h
  have h3 := Classical.not_not.1 (mt h.2 hc)
  subst hbe
  exact getI_3 hk (by omega) (by omega) h3.1 h3.2
theorem rg5 (h8 : k ≤ 8) (hl : ¬ b.length < k + 1) (h128 : x.toNat < 128) (hm : accF (flipOf x) (r.take k) < 9223372036854775808) (hc : wint (-1 - (accF (flipOf x) (r.take k) : Int)) = b.take (k + 1)) : getI b = (-1 - (accF (flipOf x) (r.take k) : Int), k + 1, 0) := by
  have h := rcan hbe hk h8 hl
  rw [if_pos h128] at h
  have h3 := h.1 hc
  have hx := x128 x
  subst hbe
  exact getI_5 hk (by omega) (by omega) h3 (by omega) (by rw [hx]; exact h128)
theorem rg6 (h8 : k ≤ 8) (hl : ¬ b.length < k + 1) (h128 : ¬ x.toNat < 128) (hm : accF (flipOf x) (r.take k) < 9223372036854775808) (hc : wint (accF (flipOf x) (r.take k)) = b.take (k + 1)) : getI b = ((accF (flipOf x) (r.take k) : Int), k + 1, 0) := by
  have h := rcan hbe hk h8 hl
  rw [if_neg h128] at h
  have h3 := h.1 hc
  have hx := x128 x
  subst hbe
  exact getI_6 hk (by omega) (by omega) h3 (by omega) (by rw [hx]; exact h128)
end
end Go.Sx

namespace Go.Sx
theorem getI_spec (b : List UInt8) : getI b = (0, 0, 2) ∨ getI b = (0, 0, 3) ∨ ((getI b).2.2 = 0 ∧ 1 ≤ (getI b).2.1 ∧ (getI b).2.1 ≤ 9 ∧ (getI b).2.1 ≤ b.length ∧ -9223372036854775808 ≤ (getI b).1 ∧ (getI b).1 ≤ 9223372036854775807) := by
  rcases b with _ | ⟨x, r⟩
  · exact .inr (.inl rfl)
  · obtain ⟨k, hk⟩ : ∃ k, kOf x = k := ⟨_, rfl⟩
    by_cases h1 : 8 < k
    · exact .inl (getI_1 hk h1)
    by_cases h2 : (x :: r).length ≤ k
    · exact .inr (.inl (getI_2 hk h1 h2))
    by_cases h3 : 0 < k ∧ gt (x :: r) 1 ^^^ flipOf x = 0
    · exact .inl (getI_3 hk h1 h2 h3.1 h3.2)
    by_cases h4 : 9223372036854775808 ≤ accF (flipOf x) (r.take k)
    · exact .inl (getI_4 hk h1 h2 h3 h4)
    · right; right
      by_cases h5 : x < 128
      · rw [getI_5 hk h1 h2 h3 h4 h5]; exact ⟨rfl, Nat.le_add_left 1 k, by show k + 1 ≤ 9; omega, by show k + 1 ≤ (x :: r).length; omega, by show _ ≤ (-1 - (accF (flipOf x) (r.take k) : Int)); omega, by show (-1 - (accF (flipOf x) (r.take k) : Int)) ≤ _; omega⟩
      · rw [getI_6 hk h1 h2 h3 h4 h5]; exact ⟨rfl, Nat.le_add_left 1 k, by show k + 1 ≤ 9; omega, by show k + 1 ≤ (x :: r).length; omega, by show _ ≤ ((accF (flipOf x) (r.take k) : Int)); omega, by show ((accF (flipOf x) (r.take k) : Int)) ≤ _; omega⟩
theorem getI_err {b : List UInt8} (h : (getI b).2.2 ≠ 0) : getI b = (0, 0, (getI b).2.2) ∧ (getI b).2.2 ≤ 3 := by
  rcases getI_spec b with e | e | e
  · rw [e]; exact ⟨rfl, by decide⟩
  · rw [e]; exact ⟨rfl, by decide⟩
  · exact absurd e.1 h
theorem getI_ok {b : List UInt8} (h : (getI b).2.2 = 0) : 1 ≤ (getI b).2.1 ∧ (getI b).2.1 ≤ 9 ∧ (getI b).2.1 ≤ b.length ∧ -9223372036854775808 ≤ (getI b).1 ∧ (getI b).1 ≤ 9223372036854775807 := by
  rcases getI_spec b with e | e | e
  · rw [e] at h; cases h
  · rw [e] at h; cases h
  · exact e.2
theorem getI_bd (b : List UInt8) : (getI b).2.1 ≤ b.length ∧ (getI b).2.1 ≤ 9 ∧ (getI b).2.2 ≤ 3 ∧ -9223372036854775808 ≤ (getI b).1 ∧ (getI b).1 ≤ 9223372036854775807 := by
  rcases getI_spec b with e | e | e
  · rw [e]; exact ⟨Nat.zero_le _, by decide, by decide, by decide, by decide⟩
  · rw [e]; exact ⟨Nat.zero_le _, by decide, by decide, by decide, by decide⟩
  · exact ⟨e.2.2.2.1, e.2.2.1, by omega, e.2.2.2.2⟩

/-- The error, the number and the place after it. -/
def cntE (b : List UInt8) (s : Nat) : Nat := if (getI b).2.2 ≠ 0 then (getI b).2.2 else if (getI b).1 < 0 then 2 else if (b.length - (getI b).2.1) / s < (getI b).1.toNat then 3 else 0
def cn (b : List UInt8) : Nat := (getI b).1.toNat
def ca (b : List UInt8) : Nat := (getI b).2.1
theorem cnt_1 {b : List UInt8} {s : Nat} (h : (getI b).2.2 ≠ 0) : cntE b s = (getI b).2.2 := by unfold cntE; rw [if_pos h]
theorem cnt_2 {b : List UInt8} {s : Nat} (h : ¬ (getI b).2.2 ≠ 0) (h2 : (getI b).1 < 0) : cntE b s = 2 := by unfold cntE; rw [if_neg h, if_pos h2]
theorem cnt_3 {b : List UInt8} {s : Nat} (h : ¬ (getI b).2.2 ≠ 0) (h2 : ¬ (getI b).1 < 0) (h3 : (b.length - (getI b).2.1) / s < (getI b).1.toNat) : cntE b s = 3 := by unfold cntE; rw [if_neg h, if_neg h2, if_pos h3]
theorem cnt_0 {b : List UInt8} {s : Nat} (h : ¬ (getI b).2.2 ≠ 0) (h2 : ¬ (getI b).1 < 0) (h3 : ¬ (b.length - (getI b).2.1) / s < (getI b).1.toNat) : cntE b s = 0 := by unfold cntE; rw [if_neg h, if_neg h2, if_neg h3]
theorem cnt_le (b : List UInt8) (s : Nat) : cntE b s ≤ 3 := by
  have := getI_bd b
  unfold cntE
  split
  · omega
  · split
    · decide
    · split <;> decide
theorem cnt_ok {b : List UInt8} {s : Nat} (hs : 0 < s) (h : cntE b s = 0) : (getI b).2.2 = 0 ∧ (getI b).1 = (cn b : Int) ∧ 1 ≤ ca b ∧ ca b ≤ 9 ∧ ca b ≤ b.length ∧ cn b * s ≤ b.length - ca b ∧ cn b ≤ b.length := by
  unfold cntE at h
  split at h
  · rename_i h1; exact absurd h h1
  · rename_i h1
    have h1' := Classical.not_not.1 h1
    have h5 := getI_ok h1'
    split at h
    · cases h
    · rename_i h2
      split at h
      · cases h
      · rename_i h3
        have h4 : cn b * s ≤ b.length - ca b := (Nat.le_div_iff_mul_le hs).1 (Nat.le_of_not_lt h3)
        have h6 : cn b * 1 ≤ cn b * s := Nat.mul_le_mul_left _ hs
        refine ⟨h1', ?_, h5.1, h5.2.1, h5.2.2.1, h4, by omega⟩
        unfold cn; omega
/-- A string. -/
def getB (b : List UInt8) : List UInt8 × Nat × Nat := if cntE b 1 = 0 then ((b.drop (ca b)).take (cn b), ca b + cn b, 0) else ([], 0, cntE b 1)
theorem getB_1 {b : List UInt8} (h : cntE b 1 = 0) : getB b = ((b.drop (ca b)).take (cn b), ca b + cn b, 0) := by unfold getB; rw [if_pos h]
theorem getB_2 {b : List UInt8} (h : ¬ cntE b 1 = 0) : getB b = ([], 0, cntE b 1) := by unfold getB; rw [if_neg h]
theorem getB_bd (b : List UInt8) : (getB b).2.1 ≤ b.length ∧ (getB b).1.length ≤ b.length ∧ (getB b).2.2 ≤ 3 ∧ ((getB b).2.2 = 0 → 1 ≤ (getB b).2.1 ∧ (getB b).1.length + 1 ≤ (getB b).2.1) := by
  have h3 := cnt_le b 1
  by_cases h : cntE b 1 = 0
  · have h1 := cnt_ok (by decide) h
    rw [getB_1 h]
    refine ⟨by show ca b + cn b ≤ _; omega, by show (List.take (cn b) (b.drop (ca b))).length ≤ _; rw [List.length_take, List.length_drop]; omega, Nat.zero_le _, fun _ => ⟨by show 1 ≤ ca b + cn b; omega, ?_⟩⟩
    show (List.take (cn b) (b.drop (ca b))).length + 1 ≤ ca b + cn b
    rw [List.length_take]; omega
  · rw [getB_2 h]; exact ⟨Nat.zero_le _, Nat.zero_le _, h3, fun h' => absurd h' h⟩
/-- The loop of a list's decoder: elements still to read, place, elements read. -/
def lst {α : Type} (g : List UInt8 → α × Nat × Nat) (b : List UInt8) : Nat → Nat → List α → List α × Nat × Nat
  | 0, a, l => (l, a, 0)
  | n + 1, a, l => if (g (b.drop a)).2.2 ≠ 0 then ([], 0, (g (b.drop a)).2.2) else lst g b n (a + (g (b.drop a)).2.1) (l ++ [(g (b.drop a)).1])
theorem lst_0 {α : Type} (g : List UInt8 → α × Nat × Nat) (b : List UInt8) (a : Nat) (l : List α) : lst g b 0 a l = (l, a, 0) := rfl
theorem lst_e {α : Type} {g : List UInt8 → α × Nat × Nat} {b : List UInt8} {n a : Nat} {l : List α} (hn : 0 < n) (h : (g (b.drop a)).2.2 ≠ 0) : lst g b n a l = ([], 0, (g (b.drop a)).2.2) := by
  obtain ⟨m, rfl⟩ : ∃ m, n = m + 1 := ⟨n - 1, by omega⟩
  unfold lst; rw [if_pos h]
theorem lst_s {α : Type} {g : List UInt8 → α × Nat × Nat} {b : List UInt8} {n i a : Nat} {l : List α} (hn : i < n) (h : (g (b.drop a)).2.2 = 0) : lst g b (n - i) a l = lst g b (n - (i + 1)) (a + (g (b.drop a)).2.1) (l ++ [(g (b.drop a)).1]) := by
  obtain ⟨m, hm⟩ : ∃ m, n - i = m + 1 := ⟨n - i - 1, by omega⟩
  rw [hm, show n - (i + 1) = m by omega]
  conv => lhs; unfold lst
  rw [if_neg (not_not_intro h)]
def getL {α : Type} (g : List UInt8 → α × Nat × Nat) (s : Nat) (b : List UInt8) : List α × Nat × Nat := if cntE b s = 0 then lst g b (cn b) (ca b) [] else ([], 0, cntE b s)
theorem getL_1 {α : Type} {g : List UInt8 → α × Nat × Nat} {s : Nat} {b : List UInt8} (h : cntE b s = 0) : getL g s b = lst g b (cn b) (ca b) [] := by unfold getL; rw [if_pos h]
theorem getL_2 {α : Type} {g : List UInt8 → α × Nat × Nat} {s : Nat} {b : List UInt8} (h : ¬ cntE b s = 0) : getL g s b = ([], 0, cntE b s) := by unfold getL; rw [if_neg h]
/-- A digest. -/
def mkD (l : List UInt8) : Dig := if h : l.length = 16 then ⟨l, h⟩ else ⟨List.replicate 16 0, by simp⟩
def getD1 (b : List UInt8) : Dig × Nat × Nat := (mkD (b.take 16), 16, 0)
end Go.Sx
namespace Go.Sx
theorem cnt_3' {b : List UInt8} {s : Nat} (hs : 0 < s) (h : ¬ (getI b).2.2 ≠ 0) (h2 : ¬ (getI b).1 < 0) (h3 : b.length < (getI b).1.toNat ∨ b.length - (getI b).2.1 < (getI b).1.toNat * s) : cntE b s = 3 := by
  refine cnt_3 h h2 ((Nat.div_lt_iff_lt_mul hs).2 ?_)
  rcases h3 with h3 | h3
  · have : (getI b).1.toNat * 1 ≤ (getI b).1.toNat * s := Nat.mul_le_mul_left _ hs
    omega
  · exact h3
theorem cnt_0' {b : List UInt8} {s : Nat} (hs : 0 < s) (h : ¬ (getI b).2.2 ≠ 0) (h2 : ¬ (getI b).1 < 0) (h3 : ¬ b.length - (getI b).2.1 < (getI b).1.toNat * s) : cntE b s = 0 := by
  refine cnt_0 h h2 fun h4 => h3 ((Nat.div_lt_iff_lt_mul hs).1 h4)
theorem nn_nI {n : Int} (h : ¬ n < 0) : Value.int .i64 n = nI n.toNat := by
  show _ = Value.int .i64 (n.toNat : Int)
  rw [Int.toNat_of_nonneg (by omega)]
end Go.Sx
namespace Go.Sx
theorem mkD_eq (l : List UInt8) (h : l.length = 16) : mkD l = ⟨l, h⟩ := by unfold mkD; rw [dif_pos h]
theorem gd_take (b : List UInt8) (p : Nat) (h : p + 16 ≤ b.length) : ((b.drop p).take 16).length = 16 := by rw [List.length_take, List.length_drop]; omega
theorem lst_d {b : List UInt8} {n i : Nat} {l : List Dig} (p : Nat) (hn : i < n) : lst getD1 b (n - i) (p + 16 * i) l = lst getD1 b (n - (i + 1)) (p + 16 * (i + 1)) (l ++ [mkD ((b.drop (p + 16 * i)).take 16)]) := by
  rw [lst_s hn rfl]; rfl
theorem dbuf_set (l : List UInt8) (j : Nat) (x : UInt8) (h : l.length = j) (hj : j < 16) : (l ++ List.replicate (16 - j) (0 : UInt8)).set j x = (l ++ [x]) ++ List.replicate (16 - (j + 1)) 0 := by
  rw [set_rep l 0 x 16 j h hj, List.append_assoc, show 16 - (j + 1) = 16 - 1 - j by omega]
  rfl
theorem dtake_next (b : List UInt8) (p j : Nat) (hj : j < 16) (h : p + 16 ≤ b.length) : (b.drop p).take j ++ [gt b (p + j)] = (b.drop p).take (j + 1) := by
  rw [take_snoc _ _ (by rw [List.length_drop]; omega)]
  congr 2
  unfold gt
  rw [List.getD_eq_getElem?_getD, List.getD_eq_getElem?_getD, List.getElem?_drop]
end Go.Sx

namespace Go.Sx
open Go.RowKit Go.Proofs
noncomputable def cxH (gl : Nat → C) (M : Nat) (pu : Nat → List C → Option C) (hp : Nat → List C → Hp → Option (C × Hp)) : Cx := ⟨Try.prog, M, gl, pu, hp⟩
theorem cxH_P (gl : Nat → C) (M : Nat) (pu : Nat → List C → Option C) (hp : Nat → List C → Hp → Option (C × Hp)) : (cxH gl M pu hp).P = Try.prog := rfl
theorem cxH_N (gl : Nat → C) (M : Nat) (pu : Nat → List C → Option C) (hp : Nat → List C → Hp → Option (C × Hp)) : (cxH gl M pu hp).N = M := rfl
theorem cxH_pu (gl : Nat → C) (M : Nat) (pu : Nat → List C → Option C) (hp : Nat → List C → Hp → Option (C × Hp)) : (cxH gl M pu hp).pu = pu := rfl
theorem cxH_hp (gl : Nat → C) (M : Nat) (pu : Nat → List C → Option C) (hp : Nat → List C → Hp → Option (C × Hp)) : (cxH gl M pu hp).hp = hp := rfl
theorem cxH_gl (gl : Nat → C) (M : Nat) (pu : Nat → List C → Option C) (hp : Nat → List C → Hp → Option (C × Hp)) : (cxH gl M pu hp).gl = gl := rfl
attribute [go_sem] cxH_P cxH_N cxH_pu cxH_hp cxH_gl
end Go.Sx

namespace Go.Sx
open Go.RowKit Go.Proofs
def dig12 : List UInt8 := ((List.replicate 16 (0 : UInt8)).set 0 (UInt8.ofNat 1)).set 1 (UInt8.ofNat 2)
def dig18 : List UInt8 := [129, 1] ++ dig12
theorem sn1 : getI (((((List.replicate 4 (0 : UInt8)).set 0 (UInt8.ofNat 130)).set 1 (UInt8.ofNat 1)).set 2 (UInt8.ofNat 0)).set 3 (UInt8.ofNat 9)) = ((256 : Int), 3, 0) := by kernel_rfl
theorem sn2 : getI (((List.replicate 2 (0 : UInt8)).set 0 (UInt8.ofNat 130)).set 1 (UInt8.ofNat 1)) = ((0 : Int), 0, 3) := by kernel_rfl
theorem sn3 : getI (((List.replicate 2 (0 : UInt8)).set 0 (UInt8.ofNat 129)).set 1 (UInt8.ofNat 0)) = ((0 : Int), 0, 2) := by kernel_rfl
theorem sn4 : getB ((((((List.replicate 5 (0 : UInt8)).set 0 (UInt8.ofNat 129)).set 1 (UInt8.ofNat 2)).set 2 (UInt8.ofNat 97)).set 3 (UInt8.ofNat 98)).set 4 (UInt8.ofNat 7)) = ([97, 98], 4, 0) := by kernel_rfl
theorem sn5 : getL getI 1 ((((((List.replicate 5 (0 : UInt8)).set 0 (UInt8.ofNat 129)).set 1 (UInt8.ofNat 2)).set 2 (UInt8.ofNat 129)).set 3 (UInt8.ofNat 1)).set 4 (UInt8.ofNat 127)) = ([(1 : Int), -1], 5, 0) := by kernel_rfl
theorem sn6 : getL getB 1 ((((((((List.replicate 7 (0 : UInt8)).set 0 (UInt8.ofNat 129)).set 1 (UInt8.ofNat 2)).set 2 (UInt8.ofNat 128)).set 3 (UInt8.ofNat 129)).set 4 (UInt8.ofNat 1)).set 5 (UInt8.ofNat 97)).set 6 (UInt8.ofNat 5)) = ([[], [97]], 6, 0) := by kernel_rfl
theorem sn7 (h : (((List.replicate 16 (0 : UInt8)).set 0 (UInt8.ofNat 1)).set 1 (UInt8.ofNat 2)).length = 16) : wDigs [⟨((List.replicate 16 0).set 0 (UInt8.ofNat 1)).set 1 (UInt8.ofNat 2), h⟩] = dig18 := by
  unfold wDigs dig18 dig12
  simp only [List.flatMap_cons, List.flatMap_nil, List.append_nil, List.length_cons, List.length_nil]
  have e : wint ((0 + 1 : Nat) : Int) = [129, 1] := by kernel_rfl
  rw [e]
theorem sn7l : dig18.length = 18 := by kernel_rfl
theorem sn8 (h : (((List.replicate 16 (0 : UInt8)).set 0 (UInt8.ofNat 1)).set 1 (UInt8.ofNat 2)).length = 16) : getL getD1 16 dig18 = ([⟨((List.replicate 16 0).set 0 (UInt8.ofNat 1)).set 1 (UInt8.ofNat 2), h⟩], 18, 0) := by
  have e : (getL getD1 16 dig18).1.map (·.1) = [dig12] ∧ (getL getD1 16 dig18).2 = (18, 0) := by constructor <;> kernel_rfl
  refine Prod.ext ?_ e.2
  have e1 := e.1
  generalize (getL getD1 16 dig18).1 = l at e1
  rcases l with _ | ⟨a, _ | ⟨b, l⟩⟩
  · cases e1
  · exact congrArg (fun d => [d]) (Subtype.ext (List.cons.inj e1).1)
  · cases (List.cons.inj e1).2
theorem sn8x : getL getD1 16 dig18 = ([⟨((List.replicate 16 0).set 0 (UInt8.ofNat 1)).set 1 (UInt8.ofNat 2), by simp⟩], 18, 0) := sn8 _
theorem sn9 : wint (-257) = ((((List.replicate 3 (0 : UInt8)).set 0 (UInt8.ofNat 125)).set 1 (UInt8.ofNat 254)).set 2 (UInt8.ofNat 255)) := by kernel_rfl
theorem sn10 : wb [97, 98] = (((((List.replicate 4 (0 : UInt8)).set 0 (UInt8.ofNat 129)).set 1 (UInt8.ofNat 2)).set 2 (UInt8.ofNat 97)).set 3 (UInt8.ofNat 98)) := by kernel_rfl
theorem sn11 : wInts [(1 : Int), -1] = ((((((List.replicate 5 (0 : UInt8)).set 0 (UInt8.ofNat 129)).set 1 (UInt8.ofNat 2)).set 2 (UInt8.ofNat 129)).set 3 (UInt8.ofNat 1)).set 4 (UInt8.ofNat 127)) := by kernel_rfl
theorem sn12 : wStrs [[], [97]] = (((((((List.replicate 6 (0 : UInt8)).set 0 (UInt8.ofNat 129)).set 1 (UInt8.ofNat 2)).set 2 (UInt8.ofNat 128)).set 3 (UInt8.ofNat 129)).set 4 (UInt8.ofNat 1)).set 5 (UInt8.ofNat 97)) := by kernel_rfl
theorem sn13 : ((List.replicate 2 ([] : List UInt8)).set 0 []).set 1 [97] = [[], [97]] := by kernel_rfl
theorem sn14 : (((List.replicate 2 (0 : Nat)).set 0 1).map Int.ofNat).set 1 (-1) = [(1 : Int), -1] := by kernel_rfl
theorem lay1s_nn (n : Nat) (l : List Nat) (i : Nat) (x : Nat) (r : List (Nat × C)) (h : i < l.length) : lay1s n (cl nC l) ((i, .val (nI x)) :: r) = lay1s n (cl nC (l.set i x)) r := by
  have e := cl_set (f := nC) l i x h
  rw [Nat.mul_one] at e
  have e2 : splice (cl nC l) i [.val (nI x)] = cl nC (l.set i x) := e
  show (if [C.val (nI x)].length = 1 ∧ i + 1 ≤ (cl nC l).length then lay1s n (splice (cl nC l) i [.val (nI x)]) r else none) = _
  rw [if_pos ⟨rfl, by rw [cl_len (f := nC)]; omega⟩, e2]
theorem sn15 (x : Int) : (x ∈ [(1 : Int), -1]) = (x = 1 ∨ x = -1) := by simp
end Go.Sx

namespace Go.Sx
theorem lst_len {α : Type} (g : List UInt8 → α × Nat × Nat) (b : List UInt8) : ∀ (n a : Nat) (l : List α), (lst g b n a l).1.length ≤ l.length + n
  | 0, a, l => Nat.le_refl _
  | n + 1, a, l => by
    unfold lst
    split
    · exact Nat.zero_le _
    · have := lst_len g b n (a + (g (b.drop a)).2.1) (l ++ [(g (b.drop a)).1])
      rw [List.length_append, List.length_singleton] at this
      omega
theorem getL_len {α : Type} (g : List UInt8 → α × Nat × Nat) (s : Nat) (b : List UInt8) (h : b.length < 1099511627776) (hs : 0 < s := by decide) : (getL g s b).1.length < 1099511627776 := by
  by_cases hE : cntE b s = 0
  · rw [getL_1 hE]
    have := cnt_ok hs hE
    have h2 := lst_len g b (cn b) (ca b) []
    rw [List.length_nil, Nat.zero_add] at h2
    omega
  · rw [getL_2 hE]; exact (by decide : (0 : Nat) < 1099511627776)
end Go.Sx

namespace Go.Sx
theorem lt_le (m : Nat) : m < 256 ^ (le m).length := by
  induction m using Nat.strongRecOn with
  | _ m ih =>
    by_cases h : m = 0
    · subst h; rw [le_zero]; decide
    · have := ih (m / 256) (Nat.div_lt_self (by omega) (by decide))
      rw [le_pos m h, List.length_cons, Nat.pow_succ]
      omega
theorem acc_be (f : UInt8) : ∀ (k m : Nat), m < 256 ^ k → accF f ((be m k).map (· ^^^ f)) = m
  | 0, m, h => by
    have : m = 0 := by simpa using h
    subst this; rfl
  | k + 1, m, h => by
    have e : m = m / 256 * 256 + m % 256 := by omega
    have h2 : m / 256 < 256 ^ k := by rw [Nat.pow_succ] at h; exact Nat.div_lt_of_lt_mul (by omega)
    have h3 : m % 256 < 256 := Nat.mod_lt _ (by decide)
    conv => lhs; rw [e]
    rw [be_snoc _ _ _ h3, List.map_append, List.map_cons, List.map_nil, accF_snoc, acc_be f k _ h2, UInt8.xor_assoc, UInt8.xor_self, UInt8.xor_zero]
    have : (UInt8.ofNat (m % 256)).toNat = m % 256 := by show (m % 256) % 256 = m % 256; omega
    omega
theorem flip_wI (f : UInt8) (hf : f = 0 ∨ f = 255) (L : Nat) (h : L ≤ 8) : flipOf (UInt8.ofNat (128 + L) ^^^ f) = f := by
  have : ∀ L < 9, flipOf (UInt8.ofNat (128 + L) ^^^ 0) = 0 ∧ flipOf (UInt8.ofNat (128 + L) ^^^ 255) = 255 := by decide
  rcases hf with rfl | rfl
  · exact (this L (by omega)).1
  · exact (this L (by omega)).2
theorem getI_wI (m : Nat) (f : UInt8) (hf : f = 0 ∨ f = 255) (hm : m < 9223372036854775808) (t : List UInt8) : getI (wI m f ++ t) = (if f = 255 then -1 - (m : Int) else (m : Int), (le m).length + 1, 0) := by
  have hL : (le m).length ≤ 8 := le_len 8 m (by omega)
  have hfl := flip_wI f hf _ hL
  have hk : kOf (UInt8.ofNat (128 + (le m).length) ^^^ f) = (le m).length := by
    unfold kOf
    rw [hfl, UInt8.xor_assoc, UInt8.xor_self, UInt8.xor_zero]
    show (128 + (le m).length) % 256 - 128 = _
    omega
  have hbl : ((be m (le m).length).map (· ^^^ f)).length = (le m).length := by rw [List.length_map, be_len]
  have htk : ((be m (le m).length).map (· ^^^ f) ++ t).take (le m).length = (be m (le m).length).map (· ^^^ f) := by
    rw [List.take_append_of_le_length (by omega), List.take_of_length_le (by omega)]
  have hac : accF (flipOf (UInt8.ofNat (128 + (le m).length) ^^^ f)) (((be m (le m).length).map (· ^^^ f) ++ t).take (le m).length) = m := by
    rw [hfl, htk]; exact acc_be f _ m (lt_le m)
  have hrl : (le m).length ≤ ((be m (le m).length).map (· ^^^ f) ++ t).length := by rw [List.length_append]; omega
  have h3 := (canon hk hL hrl).1 (by rw [hac, htk, hfl]; rfl)
  have h128 := x128 (UInt8.ofNat (128 + (le m).length) ^^^ f)
  show getI ((UInt8.ofNat (128 + (le m).length) ^^^ f) :: ((be m (le m).length).map (· ^^^ f) ++ t)) = _
  rcases hf with rfl | rfl
  · have hx : ¬ (UInt8.ofNat (128 + (le m).length) ^^^ 0 : UInt8) < 128 := by
      intro hx
      have := hfl
      unfold flipOf at this
      rw [if_pos hx] at this
      exact absurd this (by decide)
    rw [getI_6 hk (by omega) (by rw [List.length_cons]; omega) h3 (by rw [hac]; omega) hx, hac]
    rfl
  · have hx : (UInt8.ofNat (128 + (le m).length) ^^^ 255 : UInt8) < 128 := by
      apply Classical.byContradiction
      intro hx
      have := hfl
      unfold flipOf at this
      rw [if_neg hx] at this
      exact absurd this (by decide)
    rw [getI_5 hk (by omega) (by rw [List.length_cons]; omega) h3 (by rw [hac]; omega) hx, hac]
    rfl
theorem wI_len (m : Nat) (f : UInt8) : (wI m f).length = (le m).length + 1 := by unfold wI; rw [List.length_cons, List.length_map, be_len]
theorem getI_wint (n : Int) (hn : -9223372036854775808 ≤ n ∧ n ≤ 9223372036854775807) (t : List UInt8) : getI (wint n ++ t) = (n, (wint n).length, 0) := by
  rcases Int.lt_or_le n 0 with h | h
  · obtain ⟨m, hm⟩ : ∃ m : Nat, n = -1 - (m : Int) := ⟨(-1 - n).toNat, by omega⟩
    subst hm
    have hL : (le m).length ≤ 8 := le_len 8 m (by omega)
    rw [wint_neg m hL, getI_wI m 255 (.inr rfl) (by omega), wI_len, if_pos rfl]
  · obtain ⟨m, hm⟩ : ∃ m : Nat, n = (m : Int) := ⟨n.toNat, by omega⟩
    subst hm
    rw [wint_pos, getI_wI m 0 (.inl rfl) (by omega), wI_len, if_neg (by decide)]
end Go.Sx

namespace Go.Sx
open Go.RowKit Go.Proofs
theorem slf_gen {P : Program} {t e : TypeId} {a1 b1 y : Nat} {z1 z : List Value} {u : TypeDesc} (ht : td P t = some ⟨.slice e, a1, b1, z1⟩) (he : td P e = some ⟨u, 1, y, z⟩) (r : Rt) (l : List UInt8) (n : Nat) (h : n = l.length) :
    slicePlan P t (sl bC r l) none (some (.val (nI n))) (some (.val (nI n))) = some (vp (sl bC .full l)) := by
  subst h
  have hl : (cl bC l).length = l.length * 1 := cl_len (f := bC) l
  unfold slicePlan
  simp only [ht, sl, he, C.sl?]
  rw [if_pos ⟨hl, .inr rfl⟩, bound_nI _ _ _ (Nat.le_refl _)]
  simp only [Option.isSome_some, if_true, bound_nI _ _ _ (Nat.le_refl _), bound_none, true_and]
  rw [Nat.zero_mul, List.drop_zero, Nat.sub_zero, List.take_of_length_le (Nat.le_of_eq hl)]
  rfl
theorem slf28 (r : Rt) (l : List UInt8) (n : Nat) (h : n = l.length) : slicePlan Try.prog 28 (sl bC r l) none (some (.val (nI n))) (some (.val (nI n))) = some (vp (sl bC .full l)) := slf_gen td28 td5 r l n h
end Go.Sx

namespace Go.Sx
theorem cnt_enc (n s : Nat) (r : List UInt8) (hn : n < 9223372036854775808) (hs : 0 < s) (hr : n * s ≤ r.length) : cntE (wint n ++ r) s = 0 ∧ cn (wint n ++ r) = n ∧ ca (wint n ++ r) = (wint n).length := by
  have h := getI_wint (n : Int) (by omega) r
  refine ⟨?_, by unfold cn; rw [h]; rfl, by unfold ca; rw [h]⟩
  refine cnt_0' hs (by rw [h]; exact fun h => h rfl) (by rw [h]; show ¬ (n : Int) < 0; omega) ?_
  rw [h]
  show ¬ (wint n ++ r).length - (wint n).length < (n : Int).toNat * s
  rw [List.length_append, Int.toNat_natCast]
  omega
theorem getB_wb (s t : List UInt8) (hs : s.length < 9223372036854775808) : getB (wb s ++ t) = (s, (wb s).length, 0) := by
  unfold wb
  rw [List.append_assoc]
  obtain ⟨h1, h2, h3⟩ := cnt_enc s.length 1 (s ++ t) hs (by decide) (by rw [List.length_append]; omega)
  rw [getB_1 h1, h2, h3, List.drop_left, List.take_left, List.length_append]
theorem lst_enc {α : Type} (g : List UInt8 → α × Nat × Nat) (enc : α → List UInt8) (t : List UInt8) : ∀ (l : List α) (p : List UInt8) (o : List α), (∀ x ∈ l, ∀ t, g (enc x ++ t) = (x, (enc x).length, 0)) →
    lst g (p ++ (l.flatMap enc ++ t)) l.length p.length o = (o ++ l, p.length + (l.flatMap enc).length, 0)
  | [], p, o, _ => by simp [lst]
  | x :: l, p, o, h => by
    have hx := h x (by simp) (l.flatMap enc ++ t)
    rw [List.length_cons]
    unfold lst
    have e : (p ++ ((x :: l).flatMap enc ++ t)).drop p.length = enc x ++ (l.flatMap enc ++ t) := by
      rw [List.drop_left, List.flatMap_cons, List.append_assoc]
    rw [e, hx, if_neg (not_not_intro rfl)]
    have ih := lst_enc g enc t l (p ++ enc x) (o ++ [x]) (fun y hy => h y (by simp [hy]))
    have e2 : p ++ ((x :: l).flatMap enc ++ t) = (p ++ enc x) ++ (l.flatMap enc ++ t) := by
      rw [List.flatMap_cons, List.append_assoc, List.append_assoc]
    rw [e2]
    rw [List.length_append] at ih
    show lst g _ l.length (p.length + (enc x).length) (o ++ [x]) = _
    rw [ih, List.flatMap_cons, List.length_append, List.append_assoc, Nat.add_assoc]
    rfl
theorem getL_enc {α : Type} (g : List UInt8 → α × Nat × Nat) (enc : α → List UInt8) (s : Nat) (hs : 0 < s) (t : List UInt8) (l : List α) (h : ∀ x ∈ l, ∀ t, g (enc x ++ t) = (x, (enc x).length, 0)) (hl : l.length < 9223372036854775808) (hz : l.length * s ≤ (l.flatMap enc).length) :
    getL g s (wint l.length ++ l.flatMap enc ++ t) = (l, (wint l.length ++ l.flatMap enc).length, 0) := by
  rw [List.append_assoc]
  obtain ⟨h1, h2, h3⟩ := cnt_enc l.length s (l.flatMap enc ++ t) hl hs (by rw [List.length_append]; omega)
  rw [getL_1 h1, h2, h3, lst_enc g enc t l _ [] h, List.length_append]
  rfl
theorem flat_ge {α : Type} (enc : α → List UInt8) (s : Nat) : ∀ (l : List α), (∀ x ∈ l, s ≤ (enc x).length) → l.length * s ≤ (l.flatMap enc).length
  | [], _ => by simp
  | x :: l, h => by
    have := flat_ge enc s l (fun y hy => h y (by simp [hy]))
    have := h x (by simp)
    rw [List.length_cons, List.flatMap_cons, List.length_append, Nat.succ_mul]
    omega
theorem wint_ge (n : Int) : 1 ≤ (wint n).length := by unfold wint; split <;> simp
theorem getIs_enc (l : List Int) (t : List UInt8) (hl : l.length < 9223372036854775808) (hr : ∀ x ∈ l, -9223372036854775808 ≤ x ∧ x ≤ 9223372036854775807) : getL getI 1 (wInts l ++ t) = (l, (wInts l).length, 0) :=
  getL_enc getI wint 1 (by decide) t l (fun x hx t => getI_wint x (hr x hx) t) hl (flat_ge wint 1 l fun x _ => wint_ge x)
theorem getSs_enc (l : List (List UInt8)) (t : List UInt8) (hl : l.length < 9223372036854775808) (hr : ∀ x ∈ l, x.length < 9223372036854775808) : getL getB 1 (wStrs l ++ t) = (l, (wStrs l).length, 0) :=
  getL_enc getB wb 1 (by decide) t l (fun x hx t => getB_wb x t (hr x hx)) hl (flat_ge wb 1 l fun x _ => by unfold wb; rw [List.length_append]; have := wint_ge x.length; omega)
theorem getDs_enc (l : List Dig) (t : List UInt8) (hl : l.length < 9223372036854775808) : getL getD1 16 (wDigs l ++ t) = (l, (wDigs l).length, 0) :=
  getL_enc getD1 (·.1) 16 (by decide) t l (fun x hx t => by
    unfold getD1
    have e : (x.1 ++ t).take 16 = x.1 := by rw [List.take_append_of_le_length (Nat.le_of_eq x.2.symm), List.take_of_length_le (Nat.le_of_eq x.2)]
    rw [e, mkD_eq _ x.2, x.2]) hl (flat_ge _ 16 l fun x _ => Nat.le_of_eq x.2.symm)
end Go.Sx

namespace Go.Sx
theorem mem_flat {α : Type} : ∀ (x : List (List α)) (y : List α), y ∈ x → y.length ≤ x.flatten.length
  | [], y, h => by cases h
  | a :: x, y, h => by
    rw [List.flatten_cons, List.length_append]
    rcases List.mem_cons.1 h with rfl | h
    · omega
    · have := mem_flat x y h; omega
end Go.Sx

namespace Go.Sx

theorem getI_can {b : List UInt8} (h : (getI b).2.2 = 0) : wint (getI b).1 = b.take (getI b).2.1 := by
  rcases b with _ | ⟨x, r⟩
  · cases h
  · obtain ⟨k, hk⟩ : ∃ k, kOf x = k := ⟨_, rfl⟩
    by_cases h1 : 8 < k
    · rw [getI_1 hk h1] at h; cases h
    by_cases h2 : (x :: r).length ≤ k
    · rw [getI_2 hk h1 h2] at h; cases h
    by_cases h3 : 0 < k ∧ gt (x :: r) 1 ^^^ flipOf x = 0
    · rw [getI_3 hk h1 h2 h3.1 h3.2] at h; cases h
    by_cases h4 : 9223372036854775808 ≤ accF (flipOf x) (r.take k)
    · rw [getI_4 hk h1 h2 h3 h4] at h; cases h
    have hr := (rcan rfl hk (by omega) (by omega) : _ ↔ _).2 h3
    have hx := x128 x
    by_cases h5 : x < 128
    · rw [getI_5 hk h1 h2 h3 h4 h5]
      rw [hx] at h5
      rw [if_pos h5] at hr
      exact hr
    · rw [getI_6 hk h1 h2 h3 h4 h5]
      rw [hx] at h5
      rw [if_neg h5] at hr
      exact hr
theorem cnt_can {b : List UInt8} {s : Nat} (hs : 0 < s) (h : cntE b s = 0) : wint (cn b) = b.take (ca b) := by
  have h1 := cnt_ok hs h
  rw [← h1.2.1]
  exact getI_can h1.1
theorem take_add' {α : Type} (b : List α) (i j : Nat) : b.take (i + j) = b.take i ++ (b.drop i).take j := List.take_add
theorem getB_can {b : List UInt8} (h : (getB b).2.2 = 0) : wb (getB b).1 = b.take (getB b).2.1 := by
  by_cases hc : cntE b 1 = 0
  · have h1 := cnt_ok (by decide) hc
    rw [getB_1 hc]
    show wb _ = b.take (ca b + cn b)
    unfold wb
    rw [List.length_take, List.length_drop, Nat.min_eq_left (by omega), cnt_can (by decide) hc, take_add']
  · rw [getB_2 hc] at h; exact absurd h hc
theorem lst_can {α : Type} (g : List UInt8 → α × Nat × Nat) (enc : α → List UInt8) (s : Nat) (b : List UInt8)
    (hg : ∀ t, s ≤ t.length → (g t).2.2 = 0 → enc (g t).1 = t.take (g t).2.1 ∧ (g t).2.1 ≤ t.length ∧ (s = 0 ∨ (g t).2.1 = s)) :
    ∀ (n a : Nat) (l : List α), a ≤ b.length → n * s ≤ b.length - a → (lst g b n a l).2.2 = 0 →
      ∃ m, (lst g b n a l).1 = l ++ m ∧ m.length = n ∧ b.take (lst g b n a l).2.1 = b.take a ++ m.flatMap enc ∧ (lst g b n a l).2.1 ≤ b.length
  | 0, a, l, ha, _, _ => ⟨[], by simp [lst], rfl, by simp [lst], by simpa [lst] using ha⟩
  | n + 1, a, l, ha, hn, h => by
    rw [Nat.succ_mul] at hn
    by_cases he : (g (b.drop a)).2.2 ≠ 0
    · unfold lst at h; rw [if_pos he] at h; exact absurd h he
    · have he' := Classical.not_not.1 he
      obtain ⟨h1, h2, h3⟩ := hg (b.drop a) (by rw [List.length_drop]; omega) he'
      rw [List.length_drop] at h2
      have e : lst g b (n + 1) a l = lst g b n (a + (g (b.drop a)).2.1) (l ++ [(g (b.drop a)).1]) := by
        conv => lhs; unfold lst
        rw [if_neg he]
      rw [e] at h ⊢
      have hns : n * s ≤ b.length - (a + (g (b.drop a)).2.1) := by
        rcases h3 with h3 | h3
        · rw [h3, Nat.mul_zero]; exact Nat.zero_le _
        · omega
      obtain ⟨m, m1, m2, m3, m4⟩ := lst_can g enc s b hg n _ _ (by omega) hns h
      refine ⟨(g (b.drop a)).1 :: m, by rw [m1]; simp, by simp [m2], ?_, m4⟩
      rw [m3, take_add', ← h1, List.flatMap_cons, List.append_assoc]
theorem getL_can {α : Type} (g : List UInt8 → α × Nat × Nat) (enc : α → List UInt8) (s s1 : Nat) (b : List UInt8) (hs : 0 < s1) (hss : s ≤ s1)
    (hg : ∀ t, s ≤ t.length → (g t).2.2 = 0 → enc (g t).1 = t.take (g t).2.1 ∧ (g t).2.1 ≤ t.length ∧ (s = 0 ∨ (g t).2.1 = s)) (h : (getL g s1 b).2.2 = 0) :
    wint (getL g s1 b).1.length ++ (getL g s1 b).1.flatMap enc = b.take (getL g s1 b).2.1 ∧ (getL g s1 b).2.1 ≤ b.length := by
  by_cases hc : cntE b s1 = 0
  · have h1 := cnt_ok hs hc
    have hm : cn b * s ≤ cn b * s1 := Nat.mul_le_mul_left _ hss
    rw [getL_1 hc] at h ⊢
    obtain ⟨m, m1, m2, m3, m4⟩ := lst_can g enc s b hg (cn b) (ca b) [] (by omega) (by omega) h
    rw [m1, List.nil_append, m2, m3, cnt_can hs hc]
    exact ⟨rfl, m4⟩
  · rw [getL_2 hc] at h; exact absurd h hc
theorem getIs_can {b : List UInt8} (h : (getL getI 1 b).2.2 = 0) : wInts (getL getI 1 b).1 = b.take (getL getI 1 b).2.1 ∧ (getL getI 1 b).2.1 ≤ b.length :=
  getL_can getI wint 0 1 b (by decide) (by decide) (fun t _ ht => ⟨getI_can ht, (getI_bd t).1, .inl rfl⟩) h
theorem getSs_can {b : List UInt8} (h : (getL getB 1 b).2.2 = 0) : wStrs (getL getB 1 b).1 = b.take (getL getB 1 b).2.1 ∧ (getL getB 1 b).2.1 ≤ b.length :=
  getL_can getB wb 0 1 b (by decide) (by decide) (fun t _ ht => ⟨getB_can ht, (getB_bd t).1, .inl rfl⟩) h
theorem getDs_can {b : List UInt8} (h : (getL getD1 16 b).2.2 = 0) : wDigs (getL getD1 16 b).1 = b.take (getL getD1 16 b).2.1 ∧ (getL getD1 16 b).2.1 ≤ b.length :=
  getL_can getD1 (·.1) 16 16 b (by decide) (by decide) (fun t ht _ => by
    have h16 : (t.take 16).length = 16 := by rw [List.length_take]; omega
    refine ⟨?_, ht, .inr rfl⟩
    show (mkD (t.take 16)).1 = _
    rw [mkD_eq _ h16]; rfl) h
theorem lst_err {α : Type} (g : List UInt8 → α × Nat × Nat) (b : List UInt8) : ∀ (n a : Nat) (l : List α), (lst g b n a l).2.2 ≠ 0 → (lst g b n a l).1 = [] ∧ (lst g b n a l).2.1 = 0
  | 0, a, l, h => absurd rfl h
  | n + 1, a, l, h => by
    unfold lst at h ⊢
    split
    · exact ⟨rfl, rfl⟩
    · rename_i he
      rw [if_neg he] at h
      exact lst_err g b n _ _ h
theorem getL_err {α : Type} {g : List UInt8 → α × Nat × Nat} {s : Nat} {b : List UInt8} (h : (getL g s b).2.2 ≠ 0) : (getL g s b).1 = [] ∧ (getL g s b).2.1 = 0 := by
  by_cases hc : cntE b s = 0
  · rw [getL_1 hc] at h ⊢; exact lst_err g b _ _ _ h
  · rw [getL_2 hc]; exact ⟨rfl, rfl⟩
/-- The consumed bytes, for the closure of Canonical. -/
theorem len_can {c b : List UInt8} {u : Nat} (h : c = b.take u) : c.length ≤ b.length := by rw [h, List.length_take]; omega
theorem wI_can (b : List UInt8) : ((getI b).2.2 = 0 → (getI b).2.1 ≤ b.length ∧ b.take (getI b).2.1 = wint (getI b).1) :=
  fun h => ⟨(getI_bd b).1, (getI_can h).symm⟩
theorem wB_can (b : List UInt8) : ((getB b).2.2 = 0 → (getB b).2.1 ≤ b.length ∧ b.take (getB b).2.1 = wb (getB b).1) :=
  fun h => ⟨(getB_bd b).1, (getB_can h).symm⟩
theorem wIs_can (b : List UInt8) : ((getL getI 1 b).2.2 = 0 → (getL getI 1 b).2.1 ≤ b.length ∧ b.take (getL getI 1 b).2.1 = wInts (getL getI 1 b).1) :=
  fun h => ⟨(getIs_can h).2, (getIs_can h).1.symm⟩
theorem wSs_can (b : List UInt8) : ((getL getB 1 b).2.2 = 0 → (getL getB 1 b).2.1 ≤ b.length ∧ b.take (getL getB 1 b).2.1 = wStrs (getL getB 1 b).1) :=
  fun h => ⟨(getSs_can h).2, (getSs_can h).1.symm⟩
theorem wDs_can (b : List UInt8) : ((getL getD1 16 b).2.2 = 0 → (getL getD1 16 b).2.1 ≤ b.length ∧ b.take (getL getD1 16 b).2.1 = wDigs (getL getD1 16 b).1) :=
  fun h => ⟨(getDs_can h).2, (getDs_can h).1.symm⟩

/-! Beginnings. -/
theorem wint_hd (n : Int) (h : -9223372036854775808 ≤ n ∧ n ≤ 9223372036854775807) : ∃ x r, wint n = x :: r ∧ kOf x = r.length ∧ r.length ≤ 8 := by
  have hl := wint_len n h
  have key : ∀ k : Fin 9, kOf (UInt8.ofNat (128 + k.val)) = k.val ∧ kOf (UInt8.ofNat (127 - k.val)) = k.val := by decide
  unfold wint at hl ⊢
  split at hl
  · rename_i h0
    rw [if_pos h0]
    rw [List.length_cons, List.length_reverse] at hl
    exact ⟨_, _, rfl, by rw [List.length_reverse]; exact (key ⟨_, by omega⟩).1, by rw [List.length_reverse]; omega⟩
  · rename_i h0
    rw [if_neg h0]
    rw [List.length_cons, List.length_map, List.length_reverse] at hl
    exact ⟨_, _, rfl, by rw [List.length_map, List.length_reverse]; exact (key ⟨_, by omega⟩).2, by rw [List.length_map, List.length_reverse]; omega⟩
theorem getI_beg (n : Int) (h : -9223372036854775808 ≤ n ∧ n ≤ 9223372036854775807) (i : Nat) (hi : i < (wint n).length) : getI ((wint n).take i) = (0, 0, 3) := by
  obtain ⟨x, r, e, hk, h8⟩ := wint_hd n h
  rw [e] at hi ⊢
  cases i with
  | zero => rfl
  | succ i =>
    rw [List.take_succ_cons]
    refine getI_2 hk (by omega) ?_
    rw [List.length_cons] at hi ⊢
    rw [List.length_take]; omega
theorem cnt_beg (n s : Nat) (hs : 0 < s) (hn : n < 9223372036854775808) (t : List UInt8) (i : Nat) (hi : i < (wint n).length + n * s) : i < (wint n).length ∧ cntE ((wint n ++ t).take i) s = 3 ∨ ¬ i < (wint n).length ∧ cntE ((wint n ++ t).take i) s = 3 := by
  by_cases h : i < (wint n).length
  · left
    refine ⟨h, ?_⟩
    rw [List.take_append_of_le_length (by omega)]
    have := getI_beg n (by omega) i h
    rw [cnt_1 (by rw [this]; decide), this]
  · right
    refine ⟨h, ?_⟩
    have e : (wint n ++ t).take i = wint n ++ t.take (i - (wint n).length) := by rw [List.take_append, List.take_of_length_le (by omega)]
    rw [e]
    have hg := getI_wint n (by omega) (t.take (i - (wint n).length))
    have hlen : (wint n ++ t.take (i - (wint n).length)).length - (wint n).length ≤ i - (wint n).length := by rw [List.length_append, List.length_take]; omega
    have hlt : (wint (n : Int)).length + (i - (wint (n : Int)).length) < (wint (n : Int)).length + n * s := by omega
    refine cnt_3' hs (by rw [hg]; exact not_not_intro rfl) (by rw [hg]; show ¬ ((n : Int) < 0); omega) (.inr ?_)
    rw [hg]
    show (wint (n : Int) ++ _).length - (wint (n : Int)).length < ((n : Int)).toNat * s
    rw [Int.toNat_natCast]
    omega
theorem cnt_beg3 (n s : Nat) (hs : 0 < s) (hn : n < 9223372036854775808) (t : List UInt8) (i : Nat) (hi : i < (wint n).length + n * s) : cntE ((wint n ++ t).take i) s = 3 := by
  rcases cnt_beg n s hs hn t i hi with h | h
  · exact h.2
  · exact h.2
theorem getB_beg (s : List UInt8) (hs : s.length < 9223372036854775808) (i : Nat) (hi : i < (wb s).length) : (getB ((wb s).take i)).2.2 = 3 := by
  unfold wb at hi ⊢
  rw [List.length_append] at hi
  have h3 := cnt_beg3 s.length 1 (by decide) hs s i (by omega)
  rw [getB_2 (by rw [h3]; decide), h3]
theorem getDs_beg (l : List Dig) (hl : l.length < 9223372036854775808) (i : Nat) (hi : i < (wDigs l).length) : (getL getD1 16 ((wDigs l).take i)).2.2 = 3 := by
  have hd := digs_le l l.length (Nat.le_refl _)
  rw [List.take_length] at hd
  unfold wDigs at hi ⊢
  rw [List.length_append] at hi
  have h3 := cnt_beg3 l.length 16 (by decide) hl (l.flatMap (·.1)) i (by omega)
  rw [getL_2 (by rw [h3]; decide), h3]
theorem lst_beg {α : Type} (g : List UInt8 → α × Nat × Nat) (enc : α → List UInt8) (hge : ∀ x : α, True) : ∀ (l : List α) (p : List UInt8) (o : List α) (i : Nat),
    (∀ x ∈ l, ∀ t, g (enc x ++ t) = (x, (enc x).length, 0)) → (∀ x ∈ l, ∀ j < (enc x).length, (g ((enc x).take j)).2.2 = 3) → i < (l.flatMap enc).length →
    (lst g (p ++ (l.flatMap enc).take i) l.length p.length o).2.2 = 3
  | [], p, o, i, _, _, hi => by simp at hi
  | x :: l, p, o, i, h, hb, hi => by
    have hx := h x (by simp)
    have hxb := hb x (by simp)
    rw [List.flatMap_cons] at hi ⊢
    rw [List.length_append] at hi
    rw [List.length_cons]
    unfold lst
    rw [List.drop_left]
    by_cases hi2 : i < (enc x).length
    · rw [List.take_append_of_le_length (by omega)]
      have h3 := hxb i hi2
      rw [if_pos (by rw [h3]; decide), h3]
    · have e : (enc x ++ l.flatMap enc).take i = enc x ++ (l.flatMap enc).take (i - (enc x).length) := by rw [List.take_append, List.take_of_length_le (by omega)]
      rw [e, hx, if_neg (not_not_intro rfl)]
      have ih := lst_beg g enc hge l (p ++ enc x) (o ++ [x]) (i - (enc x).length) (fun y hy => h y (by simp [hy])) (fun y hy => hb y (by simp [hy])) (by omega)
      rw [List.length_append, List.append_assoc] at ih
      exact ih
theorem getL_beg {α : Type} (g : List UInt8 → α × Nat × Nat) (enc : α → List UInt8) (l : List α) (hl : l.length < 9223372036854775808) (h : ∀ x ∈ l, ∀ t, g (enc x ++ t) = (x, (enc x).length, 0)) (hb : ∀ x ∈ l, ∀ j < (enc x).length, (g ((enc x).take j)).2.2 = 3)
    (i : Nat) (hi : i < (wint l.length ++ l.flatMap enc).length) : (getL g 1 ((wint l.length ++ l.flatMap enc).take i)).2.2 = 3 := by
  rw [List.length_append] at hi
  by_cases hc : cntE ((wint l.length ++ l.flatMap enc).take i) 1 = 0
  · have hi2 : ¬ i < (wint (l.length : Int)).length + l.length * 1 := fun h' => by
      have := cnt_beg3 l.length 1 (by decide) hl (l.flatMap enc) i h'
      rw [this] at hc; cases hc
    have e : (wint (l.length : Int) ++ l.flatMap enc).take i = wint l.length ++ (l.flatMap enc).take (i - (wint (l.length : Int)).length) := by rw [List.take_append, List.take_of_length_le (by omega)]
    rw [e] at hc ⊢
    have hg := getI_wint l.length (by omega) ((l.flatMap enc).take (i - (wint (l.length : Int)).length))
    rw [getL_1 hc]
    have h1 : cn (wint l.length ++ (l.flatMap enc).take (i - (wint (l.length : Int)).length)) = l.length := by unfold cn; rw [hg]; rfl
    have h2 : ca (wint l.length ++ (l.flatMap enc).take (i - (wint (l.length : Int)).length)) = (wint (l.length : Int)).length := by unfold ca; rw [hg]
    rw [h1, h2]
    exact lst_beg g enc (fun _ => trivial) l _ [] _ h hb (by omega)
  · have hle := cnt_le ((wint l.length ++ l.flatMap enc).take i) 1
    rw [getL_2 hc]
    by_cases hi2 : i < (wint (l.length : Int)).length + l.length * 1
    · exact cnt_beg3 l.length 1 (by decide) hl (l.flatMap enc) i hi2
    · exfalso
      have e : (wint (l.length : Int) ++ l.flatMap enc).take i = wint l.length ++ (l.flatMap enc).take (i - (wint (l.length : Int)).length) := by rw [List.take_append, List.take_of_length_le (by omega)]
      rw [e] at hc
      have hg := getI_wint l.length (by omega) ((l.flatMap enc).take (i - (wint (l.length : Int)).length))
      refine hc (cnt_0' (by decide) (by rw [hg]; exact not_not_intro rfl) (by rw [hg]; show ¬ ((l.length : Int) < 0); omega) ?_)
      rw [hg]
      show ¬ (wint (l.length : Int) ++ _).length - (wint (l.length : Int)).length < ((l.length : Int)).toNat * 1
      rw [Int.toNat_natCast, List.length_append, List.length_take]
      omega
theorem getIs_beg (l : List Int) (hl : l.length < 9223372036854775808) (hr : ∀ x ∈ l, -9223372036854775808 ≤ x ∧ x ≤ 9223372036854775807) (i : Nat) (hi : i < (wInts l).length) : (getL getI 1 ((wInts l).take i)).2.2 = 3 :=
  getL_beg getI wint l hl (fun x hx t => getI_wint x (hr x hx) t) (fun x hx j hj => by rw [getI_beg x (hr x hx) j hj]) i hi
theorem getSs_beg (l : List (List UInt8)) (hl : l.length < 9223372036854775808) (hr : ∀ x ∈ l, x.length < 9223372036854775808) (i : Nat) (hi : i < (wStrs l).length) : (getL getB 1 ((wStrs l).take i)).2.2 = 3 :=
  getL_beg getB wb l hl (fun x hx t => getB_wb x t (hr x hx)) (fun x hx j hj => getB_beg x (hr x hx) j hj) i hi
end Go.Sx

namespace Go.Sx
open Op (bytesLess)
theorem bl_nil (l : List UInt8) : bytesLess l [] = false := by cases l <;> rfl
theorem bl_cons (a b : UInt8) (x y : List UInt8) : bytesLess (a :: x) (b :: y) = (decide (a < b) || (a == b && bytesLess x y)) := rfl
theorem bl_irrefl : ∀ l : List UInt8, bytesLess l l = false
  | [] => rfl
  | a :: l => by rw [bl_cons, bl_irrefl l]; simp
theorem bl_snoc : ∀ (x y : List UInt8) (a b : UInt8), x.length = y.length → bytesLess (x ++ [a]) (y ++ [b]) = (bytesLess x y || (decide (x = y) && decide (a < b)))
  | [], [], a, b, _ => by simp [bytesLess]
  | c :: x, d :: y, a, b, h => by
    rw [List.cons_append, List.cons_append, bl_cons, bl_cons, bl_snoc x y a b (by simpa using h)]
    by_cases h1 : c < d
    · simp [h1]
    · by_cases h2 : c = d
      · subst h2; simp [h1]
      · have : (c == d) = false := by rw [beq_eq_false_iff_ne]; exact h2
        simp [h1, h2, this]
theorem bl_map (x y : List UInt8) (h : x.length = y.length) : bytesLess (x.map fun c => 255 - c) (y.map fun c => 255 - c) = bytesLess y x := by
  induction x generalizing y with
  | nil => cases y with | nil => rfl | cons _ _ => simp at h
  | cons a x ih =>
    cases y with
    | nil => simp at h
    | cons b y =>
      rw [List.map_cons, List.map_cons, bl_cons, bl_cons, ih y (by simpa using h)]
      have e1 : (255 - a < 255 - b) = (b < a) := by
        rw [UInt8.lt_iff_toNat_lt, UInt8.lt_iff_toNat_lt, UInt8.toNat_sub_of_le _ _ (by rw [UInt8.le_iff_toNat_le]; have := a.toNat_lt; show _ ≤ 255; omega), UInt8.toNat_sub_of_le _ _ (by rw [UInt8.le_iff_toNat_le]; have := b.toNat_lt; show _ ≤ 255; omega)]
        have := a.toNat_lt
        have := b.toNat_lt
        show (255 - a.toNat < 255 - b.toNat) = _
        apply propext; omega
      have e2 : ((255 - a == 255 - b) = (b == a)) := by
        have : (255 - a = 255 - b) ↔ b = a := by
          rw [← xor255, ← xor255, xor_cancel]; exact eq_comm
        rw [Bool.eq_iff_iff, beq_iff_eq, beq_iff_eq, this]
      simp only [e1, e2]
theorem be_lt : ∀ (k m n : Nat), m < 256 ^ k → n < 256 ^ k → bytesLess (be m k) (be n k) = decide (m < n) ∧ (be m k = be n k ↔ m = n)
  | 0, m, n, hm, hn => by
    have : m = 0 := by simpa using hm
    have : n = 0 := by simpa using hn
    subst m n; exact ⟨rfl, by simp⟩
  | k + 1, m, n, hm, hn => by
    have hp := Nat.pow_succ (n := 256) (m := k)
    have e1 : m = m / 256 * 256 + m % 256 := by omega
    have e2 : n = n / 256 * 256 + n % 256 := by omega
    have s1 : be m (k + 1) = be (m / 256) k ++ [UInt8.ofNat (m % 256)] := by
      conv => lhs; rw [e1]
      exact be_snoc _ _ _ (by omega)
    have s2 : be n (k + 1) = be (n / 256) k ++ [UInt8.ofNat (n % 256)] := by
      conv => lhs; rw [e2]
      exact be_snoc _ _ _ (by omega)
    obtain ⟨i1, i2⟩ := be_lt k (m / 256) (n / 256) (by omega) (by omega)
    have h1 : (UInt8.ofNat (m % 256) < UInt8.ofNat (n % 256)) ↔ m % 256 < n % 256 := by
      rw [UInt8.lt_iff_toNat_lt]; simp
    have h2 : (UInt8.ofNat (m % 256) = UInt8.ofNat (n % 256)) ↔ m % 256 = n % 256 := by
      rw [← UInt8.toNat_inj]; simp
    rw [s1, s2]
    constructor
    · rw [bl_snoc _ _ _ _ (by rw [be_len, be_len]), i1]
      rw [Bool.eq_iff_iff]
      simp only [Bool.or_eq_true, decide_eq_true_eq, Bool.and_eq_true, i2, h1]
      omega
    · constructor
      · intro h
        obtain ⟨a1, a2⟩ := List.append_inj h (by rw [be_len, be_len])
        have a3 := i2.1 a1
        have a4 := h2.1 (List.cons.inj a2).1
        omega
      · rintro rfl; rfl
theorem wint_inj {m n : Int} (hm : -9223372036854775808 ≤ m ∧ m ≤ 9223372036854775807) (hn : -9223372036854775808 ≤ n ∧ n ≤ 9223372036854775807) (h : wint m = wint n) : m = n := by
  have h1 := getI_wint m hm []
  have h2 := getI_wint n hn []
  rw [h, h2] at h1
  exact (congrArg Prod.fst h1).symm
theorem le_mono {m n : Nat} (h : (le m).length < (le n).length) : m < n := by
  rcases Nat.lt_or_ge m n with h1 | h1
  · exact h1
  · exfalso
    have hk : (le n).length ≤ (le m).length := by
      refine le_len (le m).length n (Nat.lt_of_le_of_lt h1 ?_)
      have key : ∀ m, m < 256 ^ (le m).length := by
        intro m
        induction m using Nat.strongRecOn with
        | ind m ih =>
          by_cases hm : m = 0
          · subst hm; rw [le_zero]; decide
          · rw [le_pos m hm, List.length_cons, Nat.pow_succ]
            have := ih (m / 256) (by omega)
            omega
      exact key m
    omega
theorem le_lt (m : Nat) : m < 256 ^ (le m).length := by
  induction m using Nat.strongRecOn with
  | ind m ih =>
    by_cases hm : m = 0
    · subst hm; rw [le_zero]; decide
    · rw [le_pos m hm, List.length_cons, Nat.pow_succ]
      have := ih (m / 256) (by omega)
      omega
theorem ofNat_lt (a b : Nat) (ha : a < 256) (hb : b < 256) : (UInt8.ofNat a < UInt8.ofNat b) ↔ a < b := by
  rw [UInt8.lt_iff_toNat_lt]; simp [Nat.mod_eq_of_lt ha, Nat.mod_eq_of_lt hb]
theorem ofNat_eq (a b : Nat) (ha : a < 256) (hb : b < 256) : (UInt8.ofNat a = UInt8.ofNat b) ↔ a = b := by
  rw [← UInt8.toNat_inj]; simp [Nat.mod_eq_of_lt ha, Nat.mod_eq_of_lt hb]
theorem bl_hd {a b : Nat} (x y : List UInt8) (ha : a < 256) (hb : b < 256) (h : a ≠ b) : bytesLess (UInt8.ofNat a :: x) (UInt8.ofNat b :: y) = decide (a < b) := by
  rw [bl_cons]
  simp only [ofNat_lt a b ha hb]
  have : (UInt8.ofNat a == UInt8.ofNat b) = false := by
    rw [beq_eq_false_iff_ne]; exact fun h' => h ((ofNat_eq a b ha hb).1 h')
  rw [this]; simp
theorem bl_eq (a : UInt8) (x y : List UInt8) : bytesLess (a :: x) (a :: y) = bytesLess x y := by
  rw [bl_cons]; simp
theorem wint_lt (m n : Int) (hm : -9223372036854775808 ≤ m ∧ m ≤ 9223372036854775807) (hn : -9223372036854775808 ≤ n ∧ n ≤ 9223372036854775807) : bytesLess (wint m) (wint n) = decide (m < n) := by
  have hl1 : 0 ≤ m → (le m.toNat).length ≤ 8 := fun h => le_len 8 _ (by omega)
  have hl2 : 0 ≤ n → (le n.toNat).length ≤ 8 := fun h => le_len 8 _ (by omega)
  have hl3 : ¬ 0 ≤ m → (le (-1 - m).toNat).length ≤ 8 := fun h => le_len 8 _ (by omega)
  have hl4 : ¬ 0 ≤ n → (le (-1 - n).toNat).length ≤ 8 := fun h => le_len 8 _ (by omega)
  unfold wint
  by_cases h1 : 0 ≤ m
  · by_cases h2 : 0 ≤ n
    · rw [if_pos h1, if_pos h2]
      have a1 := hl1 h1
      have a2 := hl2 h2
      by_cases h : (le m.toNat).length = (le n.toNat).length
      · rw [h, bl_eq, le_rev, le_rev, h, (be_lt _ _ _ (by rw [← h]; exact le_lt _) (le_lt _)).1]
        apply decide_eq_decide.2; omega
      · rw [bl_hd _ _ (by omega) (by omega) (by omega)]
        apply decide_eq_decide.2
        rcases Nat.lt_or_gt_of_ne h with h | h
        · have := le_mono h; omega
        · have := le_mono h; omega
    · rw [if_pos h1, if_neg h2]
      have a1 := hl1 h1
      have a2 := hl4 h2
      rw [bl_hd _ _ (by omega) (by omega) (by omega)]
      apply decide_eq_decide.2; omega
  · by_cases h2 : 0 ≤ n
    · rw [if_neg h1, if_pos h2]
      have a1 := hl3 h1
      have a2 := hl2 h2
      rw [bl_hd _ _ (by omega) (by omega) (by omega)]
      apply decide_eq_decide.2; omega
    · rw [if_neg h1, if_neg h2]
      have a1 := hl3 h1
      have a2 := hl4 h2
      by_cases h : (le (-1 - m).toNat).length = (le (-1 - n).toNat).length
      · rw [h, bl_eq, bl_map _ _ (by simpa using h), le_rev, le_rev, h, (be_lt _ _ _ (le_lt _) (by rw [← h]; exact le_lt _)).1]
        apply decide_eq_decide.2; omega
      · rw [bl_hd _ _ (by omega) (by omega) (by omega)]
        apply decide_eq_decide.2
        rcases Nat.lt_or_gt_of_ne h with h | h
        · have := le_mono h; omega
        · have := le_mono h; omega
theorem wint_eq (m n : Int) (hm : -9223372036854775808 ≤ m ∧ m ≤ 9223372036854775807) (hn : -9223372036854775808 ≤ n ∧ n ≤ 9223372036854775807) : (wint m = wint n) ↔ m = n :=
  ⟨wint_inj hm hn, fun h => by rw [h]⟩
theorem wint_pre (m n : Int) (hm : -9223372036854775808 ≤ m ∧ m ≤ 9223372036854775807) (hn : -9223372036854775808 ≤ n ∧ n ≤ 9223372036854775807) :
    ((wint m).take (min (wint m).length (wint n).length) = (wint n).take (min (wint m).length (wint n).length)) ↔ m = n := by
  constructor
  · intro h
    obtain ⟨x, r, e, hk, h8⟩ := wint_hd m hm
    obtain ⟨y, s, f, hj, h9⟩ := wint_hd n hn
    rw [← wint_eq m n hm hn]
    rw [e, f] at h ⊢
    have hp : min (x :: r).length (y :: s).length = min r.length s.length + 1 := by simp only [List.length_cons]; omega
    rw [hp, List.take_succ_cons, List.take_succ_cons] at h
    obtain ⟨rfl, h2⟩ := List.cons.inj h
    have hl : r.length = s.length := by omega
    rw [hl, Nat.min_self, List.take_length, ← hl, List.take_length] at h2
    rw [h2]
  · rintro rfl; rfl
end Go.Sx

namespace Go.Sx
theorem lst_all {α : Type} (g : List UInt8 → α × Nat × Nat) (p : α → Prop) (hp : ∀ t, p (g t).1) (b : List UInt8) : ∀ (n a : Nat) (l : List α), (∀ x ∈ l, p x) → ∀ x ∈ (lst g b n a l).1, p x
  | 0, a, l, h => h
  | n + 1, a, l, h => by
    unfold lst
    split
    · intro x hx; cases hx
    · exact lst_all g p hp b n _ _ fun x hx => by
        rcases List.mem_append.1 hx with h1 | h1
        · exact h x h1
        · rw [List.mem_singleton.1 h1]; exact hp _
theorem getIs_rng (b : List UInt8) : ∀ x ∈ (getL getI 1 b).1, -9223372036854775808 ≤ x ∧ x ≤ 9223372036854775807 := by
  unfold getL
  split
  · exact lst_all getI _ (fun t => (getI_bd t).2.2.2) b _ _ _ (fun x hx => by cases hx)
  · intro x hx; cases hx
theorem wInts_ge (l : List Int) : l.length ≤ (wInts l).length := by
  unfold wInts; rw [List.length_append]
  have := flat_ge wint 1 l (fun x _ => wint_ge x)
  omega
theorem wStrs_ge (l : List (List UInt8)) : l.length + l.flatten.length ≤ (wStrs l).length := by
  have key : ∀ l : List (List UInt8), l.length + l.flatten.length ≤ (l.flatMap wb).length := by
    intro l
    induction l with
    | nil => simp
    | cons x l ih =>
      rw [List.length_cons, List.flatten_cons, List.flatMap_cons, List.length_append, List.length_append]
      have : x.length + 1 ≤ (wb x).length := by unfold wb; rw [List.length_append]; have := wint_ge x.length; omega
      omega
  unfold wStrs; rw [List.length_append]
  have := key l
  omega
theorem wDigs_ge (l : List Dig) : l.length ≤ (wDigs l).length := by
  unfold wDigs; rw [List.length_append]
  have := flat_ge (·.1) 16 l (fun x _ => Nat.le_of_eq x.2.symm)
  omega
theorem lenIs (b : List UInt8) : (wInts (getL getI 1 b).1).length ≤ b.length + 9 := by
  by_cases h : (getL getI 1 b).2.2 = 0
  · have := len_can (getIs_can h).1; omega
  · rw [(getL_err h).1]; unfold wInts; have := wint_len ((0 : Nat) : Int) (by decide); simp at this ⊢; omega
theorem lenSs (b : List UInt8) : (wStrs (getL getB 1 b).1).length ≤ b.length + 9 := by
  by_cases h : (getL getB 1 b).2.2 = 0
  · have := len_can (getSs_can h).1; omega
  · rw [(getL_err h).1]; unfold wStrs; have := wint_len ((0 : Nat) : Int) (by decide); simp at this ⊢; omega
theorem lenDs (b : List UInt8) : (wDigs (getL getD1 16 b).1).length ≤ b.length + 9 := by
  by_cases h : (getL getD1 16 b).2.2 = 0
  · have := len_can (getDs_can h).1; omega
  · rw [(getL_err h).1]; unfold wDigs; have := wint_len ((0 : Nat) : Int) (by decide); simp at this ⊢; omega
end Go.Sx
