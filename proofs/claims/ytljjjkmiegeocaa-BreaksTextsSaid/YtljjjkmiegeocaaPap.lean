/-
  Package token: what the functions compute, in plain terms. And what follows.
-/
import Derived.Test.YtljjjkmiegeocaaPaj
import Derived.Test.YtljjjkmiegeocaaPao
set_option linter.unusedSimpArgs false
set_option linter.unusedVariables false
namespace Go.Sx
structure Tok where
  a : Nat
  e : Nat
  k : Nat
deriving DecidableEq
instance : Inhabited Tok := ⟨⟨0, 0, 0⟩⟩
def kd (c : UInt8) : Nat := if (97 ≤ c ∧ c ≤ 122) ∨ (65 ≤ c ∧ c ≤ 90) then 0 else if 48 ≤ c ∧ c ≤ 57 then 1 else if c = 64 then 3 else 2
theorem all8 (p : UInt8 → Bool) (h : (List.range 256).all (fun n => p (UInt8.ofNat n)) = true) (c : UInt8) : p c = true := by
  have h1 := List.all_eq_true.1 h c.toNat (List.mem_range.2 c.toNat_lt)
  have h2 : UInt8.ofNat c.toNat = c := UInt8.toNat_inj.1 (by simp)
  rwa [h2] at h1
theorem kd_le (c : UInt8) : kd c ≤ 3 := by
  have := all8 (fun c => decide (kd c ≤ 3)) (by decide +kernel) c
  simpa using this
theorem kd_blank : kd 32 = 2 := by decide
/-- The tokens from a place on; a token may be open. -/
def spl (p : Nat) : Option (Nat × Nat) → List UInt8 → List Tok
  | none, [] => []
  | some (a, k), [] => [⟨a, p, k⟩]
  | none, c :: r => if c = 32 then spl (p + 1) none r else spl (p + 1) (some (p, kd c)) r
  | some (a, k), c :: r => if c ≠ 32 ∧ k < 2 ∧ kd c = k then spl (p + 1) (some (a, k)) r else
      ⟨a, p, k⟩ :: (if c = 32 then spl (p + 1) none r else spl (p + 1) (some (p, kd c)) r)
def toks (s : List UInt8) : List Tok := spl 0 none s
/-- The length of the run of a kind. -/
def rnL (k : Nat) : List UInt8 → Nat
  | [] => 0
  | c :: r => if k < 2 ∧ kd c = k then rnL k r + 1 else 0
theorem rnL_le (k : Nat) : ∀ l, rnL k l ≤ l.length
  | [] => Nat.le_refl _
  | c :: r => by
    unfold rnL
    have := rnL_le k r
    split <;> simp <;> omega
theorem spl_none_cons (p : Nat) (c : UInt8) (r : List UInt8) : spl p none (c :: r) = if c = 32 then spl (p + 1) none r else spl (p + 1) (some (p, kd c)) r := rfl
theorem spl_open (a k : Nat) : ∀ (l : List UInt8) (p : Nat), spl p (some (a, k)) l = ⟨a, p + rnL k l, k⟩ :: spl (p + rnL k l) none (l.drop (rnL k l))
  | [], p => rfl
  | c :: r, p => by
    by_cases h : k < 2 ∧ kd c = k
    · have hc : c ≠ 32 := by rintro rfl; rw [kd_blank] at h; omega
      have e1 : spl p (some (a, k)) (c :: r) = spl (p + 1) (some (a, k)) r := if_pos ⟨hc, h⟩
      have e2 : rnL k (c :: r) = rnL k r + 1 := if_pos h
      rw [e1, e2, spl_open a k r (p + 1), List.drop_succ_cons]
      rw [show p + 1 + rnL k r = p + (rnL k r + 1) by omega]
    · have e1 : spl p (some (a, k)) (c :: r) = ⟨a, p, k⟩ :: spl p none (c :: r) := if_neg (fun h' => h h'.2)
      have e2 : rnL k (c :: r) = 0 := if_neg h
      rw [e1, e2]
      rfl
theorem spl_tok (p : Nat) (c : UInt8) (r : List UInt8) (h : c ≠ 32) : spl p none (c :: r) = ⟨p, p + 1 + rnL (kd c) r, kd c⟩ :: spl (p + 1 + rnL (kd c) r) none (r.drop (rnL (kd c) r)) := by
  rw [spl_none_cons, if_neg h, spl_open]
theorem spl_blank (p : Nat) (r : List UInt8) : spl p none (32 :: r) = spl (p + 1) none r := by rw [spl_none_cons, if_pos rfl]
/-- The reference's way: a byte continues the last token. -/
def rfs (p : Nat) (prev : Option UInt8) (out : List Tok) : List UInt8 → List Tok
  | [] => out
  | c :: r => rfs (p + 1) (some c) (if c = 32 then out else if out ≠ [] ∧ kd c < 2 ∧ prev.map kd = some (kd c) then out.dropLast ++ [⟨(out.getLastD default).a, p + 1, (out.getLastD default).k⟩] else out ++ [⟨p, p + 1, kd c⟩]) r
def opn (p : Nat) : Option (Nat × Nat) → List Tok
  | none => []
  | some (a, k) => [⟨a, p, k⟩]
theorem rfs_spl : ∀ (l : List UInt8) (p : Nat) (prev : Option UInt8) (cur : Option (Nat × Nat)) (out : List Tok),
    (cur = none → prev = none ∨ prev = some 32) → (∀ a k, cur = some (a, k) → ∃ c, prev = some c ∧ kd c = k ∧ c ≠ 32) →
    rfs p prev (out ++ opn p cur) l = out ++ spl p cur l
  | [], p, prev, none, out, _, _ => by simp [rfs, opn, spl]
  | [], p, prev, some (a, k), out, _, _ => rfl
  | c :: r, p, prev, none, out, h1, _ => by
    unfold rfs
    rw [spl_none_cons]
    by_cases hc : c = 32
    · subst hc
      rw [if_pos rfl, if_pos rfl]
      exact rfs_spl r (p + 1) (some 32) none out (fun _ => .inr rfl) (fun a k h => by cases h)
    · rw [if_neg hc, if_neg hc, if_neg]
      · have ih := rfs_spl r (p + 1) (some c) (some (p, kd c)) out (fun h => by cases h) (fun a k h => ⟨c, rfl, by cases h; rfl, hc⟩)
        simpa [opn] using ih
      · rintro ⟨_, h3, h4⟩
        rcases h1 rfl with rfl | rfl
        · cases h4
        · simp only [Option.map_some, Option.some.injEq, kd_blank] at h4; omega
  | c :: r, p, prev, some (a, k), out, _, h2 => by
    obtain ⟨c', rfl, hk, hc'⟩ := h2 a k rfl
    unfold rfs spl
    by_cases hc : c = 32
    · subst hc
      rw [if_pos rfl, if_neg (fun h => h.1 rfl), if_pos rfl]
      have ih := rfs_spl r (p + 1) (some 32) none (out ++ opn p (some (a, k))) (fun _ => .inr rfl) (fun a k h => by cases h)
      simpa [opn] using ih
    · rw [if_neg hc]
      by_cases h : k < 2 ∧ kd c = k
      · rw [if_pos ⟨by simp [opn], by omega, by simp; omega⟩, if_pos ⟨hc, h⟩]
        have ih := rfs_spl r (p + 1) (some c) (some (a, k)) out (fun h => by cases h) (fun a' k' h' => ⟨c, rfl, by cases h'; exact h.2, hc⟩)
        simpa [opn] using ih
      · have hn : ¬ (out ++ opn p (some (a, k)) ≠ [] ∧ kd c < 2 ∧ Option.map kd (some c') = some (kd c)) := by
          rintro ⟨_, h3, h4⟩
          simp only [Option.map_some, Option.some.injEq] at h4
          omega
        rw [if_neg hn, if_neg (fun h' => h h'.2), if_neg hc]
        have ih := rfs_spl r (p + 1) (some c) (some (p, kd c)) (out ++ opn p (some (a, k))) (fun h => by cases h) (fun a k h => ⟨c, rfl, by cases h; rfl, hc⟩)
        simpa [opn] using ih
theorem rfs_toks (s : List UInt8) : rfs 0 none [] s = toks s := by
  have := rfs_spl s 0 none none [] (fun _ => .inl rfl) (fun a k h => by cases h)
  rw [List.nil_append] at this
  exact this
/-- Where tokens lie. -/
def Lie (lo hi : Nat) : List Tok → Prop
  | [] => lo ≤ hi
  | t :: r => lo ≤ t.a ∧ t.a < t.e ∧ t.e ≤ hi ∧ t.k ≤ 3 ∧ Lie t.e hi r
theorem Lie.mono {lo lo' hi : Nat} (h : lo' ≤ lo) : ∀ {l : List Tok}, Lie lo hi l → Lie lo' hi l
  | [], k => Nat.le_trans h k
  | t :: r, k => ⟨Nat.le_trans h k.1, k.2⟩
theorem spl_lie : ∀ (l : List UInt8) (p : Nat), Lie p (p + l.length) (spl p none l) ∧ ∀ a k, a < p → k ≤ 3 → Lie a (p + l.length) (spl p (some (a, k)) l)
  | [], p => ⟨Nat.le_refl _, fun a k h hk => ⟨Nat.le_refl _, h, Nat.le_refl _, hk, Nat.le_refl _⟩⟩
  | c :: r, p => by
    obtain ⟨i1, i2⟩ := spl_lie r (p + 1)
    have e : p + 1 + r.length = p + (c :: r).length := by simp; omega
    rw [e] at i1 i2
    have hno : Lie p (p + (c :: r).length) (if c = 32 then spl (p + 1) none r else spl (p + 1) (some (p, kd c)) r) := by
      split
      · exact i1.mono (by omega)
      · exact i2 p (kd c) (by omega) (kd_le c)
    refine ⟨by rw [spl_none_cons]; exact hno, fun a k h hk => ?_⟩
    unfold spl
    split
    · exact i2 a k (by omega) hk
    · exact ⟨Nat.le_refl _, h, Nat.le_add_right _ _, hk, hno⟩
theorem toks_lie (s : List UInt8) : Lie 0 s.length (toks s) := by
  have := (spl_lie s 0).1
  rwa [Nat.zero_add] at this
theorem Lie.get {lo hi : Nat} : ∀ {l : List Tok}, Lie lo hi l → ∀ i < l.length, lo ≤ (gt l i).a ∧ (gt l i).a < (gt l i).e ∧ (gt l i).e ≤ hi ∧ (gt l i).k ≤ 3
  | t :: r, h, 0, _ => ⟨h.1, h.2.1, h.2.2.1, h.2.2.2.1⟩
  | t :: r, h, i + 1, hi' => by
    rw [gt_consS]
    have := h.2.2.2.2.get i (by simpa using hi')
    have := h.2.1
    have := h.1
    omega
theorem Lie.lt {lo hi : Nat} : ∀ {l : List Tok}, Lie lo hi l → ∀ i j, i < j → j < l.length → (gt l i).e ≤ (gt l j).a
  | t :: r, h, 0, j + 1, _, hj => by
    rw [gt_consS, gt_cons0]
    exact (h.2.2.2.2.get j (by simpa using hj)).1
  | t :: r, h, i + 1, j + 1, hij, hj => by
    rw [gt_consS, gt_consS]
    exact h.2.2.2.2.lt i j (by omega) (by simpa using hj)
theorem Lie.len {lo hi : Nat} : ∀ {l : List Tok}, Lie lo hi l → l.length + lo ≤ hi
  | [], h => by simpa [Lie] using h
  | t :: r, h => by
    have := h.2.2.2.2.len
    have := h.1
    have := h.2.1
    simp; omega
theorem toks_len (s : List UInt8) : (toks s).length ≤ s.length := by have := (toks_lie s).len; omega
theorem toks_get (s : List UInt8) (i : Nat) (h : i < (toks s).length) : (gt (toks s) i).a < (gt (toks s) i).e ∧ (gt (toks s) i).e ≤ s.length ∧ (gt (toks s) i).k ≤ 3 := ((toks_lie s).get i h).2
theorem toks_le (s : List UInt8) (i j : Nat) (h : i ≤ j) (hj : j < (toks s).length) : (gt (toks s) i).a < (gt (toks s) j).e := by
  have h1 := toks_get s i (by omega)
  have h2 := toks_get s j hj
  rcases Nat.lt_or_eq_of_le h with h3 | rfl
  · have := (toks_lie s).lt i j h3 hj; omega
  · exact h1.1
/-- A blank parts the tokens. -/
theorem spl_app (y : List UInt8) : ∀ (x : List UInt8) (p : Nat) (cur : Option (Nat × Nat)), spl p cur (x ++ 32 :: y) = spl p cur x ++ spl (p + x.length + 1) none y
  | [], p, none => by simp [spl]
  | [], p, some (a, k) => by simp [spl]
  | c :: x, p, none => by
    rw [List.cons_append, spl_none_cons, spl_none_cons]
    have e : p + (c :: x).length + 1 = p + 1 + x.length + 1 := by simp; omega
    rw [e]
    split
    · exact spl_app y x (p + 1) none
    · exact spl_app y x (p + 1) (some (p, kd c))
  | c :: x, p, some (a, k) => by
    rw [List.cons_append]
    have e : p + (c :: x).length + 1 = p + 1 + x.length + 1 := by simp; omega
    rw [e]
    by_cases h : c ≠ 32 ∧ k < 2 ∧ kd c = k
    · have e1 : ∀ r, spl p (some (a, k)) (c :: r) = spl (p + 1) (some (a, k)) r := fun r => if_pos h
      rw [e1, e1]
      exact spl_app y x (p + 1) (some (a, k))
    · have e1 : ∀ r, spl p (some (a, k)) (c :: r) = ⟨a, p, k⟩ :: (if c = 32 then spl (p + 1) none r else spl (p + 1) (some (p, kd c)) r) := fun r => if_neg h
      rw [e1, e1, List.cons_append]
      congr 1
      split
      · exact spl_app y x (p + 1) none
      · exact spl_app y x (p + 1) (some (p, kd c))
def shT (d : Nat) (t : Tok) : Tok := ⟨t.a + d, t.e + d, t.k⟩
theorem spl_shift (d : Nat) : ∀ (l : List UInt8) (p : Nat) (cur : Option (Nat × Nat)), spl (p + d) (cur.map fun q => (q.1 + d, q.2)) l = (spl p cur l).map (shT d)
  | [], p, none => rfl
  | [], p, some (a, k) => rfl
  | c :: r, p, none => by
    rw [Option.map_none, spl_none_cons, spl_none_cons]
    have e : p + d + 1 = p + 1 + d := by omega
    rw [e]
    split
    · exact spl_shift d r (p + 1) none
    · exact spl_shift d r (p + 1) (some (p, kd c))
  | c :: r, p, some (a, k) => by
    rw [Option.map_some]
    have e : p + d + 1 = p + 1 + d := by omega
    unfold spl
    rw [e]
    split
    · exact spl_shift d r (p + 1) (some (a, k))
    · rw [List.map_cons]
      congr 1
      split
      · exact spl_shift d r (p + 1) none
      · exact spl_shift d r (p + 1) (some (p, kd c))
theorem toks_join (x y : List UInt8) : toks (x ++ 32 :: y) = toks x ++ (toks y).map (shT (x.length + 1)) := by
  unfold toks
  rw [spl_app]
  congr 1
  have := spl_shift (x.length + 1) y 0 none
  rw [← this]
  rw [Option.map_none, Nat.zero_add, Nat.zero_add]
/-- Valid's answer. -/
def badAt (s : List UInt8) (i : Nat) : Bool := decide (gt s i < 32) || decide (126 < gt s i) || (decide (gt s i = 32) && (decide (i = 0) || decide (i + 1 = s.length) || decide (gt s (i - 1) = 32)))
def bad (s : List UInt8) : Bool := (List.range s.length).any (badAt s)
def validE (s : List UInt8) : Nat := if 4096 < s.length then 4 else if bad s = true then 2 else if s = [] then 2 else if 256 < (toks s).length then 4 else 0
def partT (s : List UInt8) (f t : Nat) : List UInt8 := (s.drop (gt (toks s) f).a).take ((gt (toks s) (t - 1)).e - (gt (toks s) f).a)
def part (s : List UInt8) (f t : Int) : List UInt8 := if f < 0 ∨ t ≤ f ∨ ((toks s).length : Int) < t then [] else partT s f.toNat t.toNat
def joinT (a b : List UInt8) : List UInt8 := a ++ 32 :: b
def cutT (s : List UInt8) (k : Int) : List UInt8 × List UInt8 × Nat :=
  if validE s ≠ 0 then ([], [], validE s) else if k < 1 ∨ ((toks s).length : Int) ≤ k ∨ (gt (toks s) k.toNat).a = (gt (toks s) (k.toNat - 1)).e then ([], [], 5) else
  (s.take ((gt (toks s) k.toNat).a - 1), s.drop (gt (toks s) k.toNat).a, 0)
end Go.Sx
namespace Go.Sx
def aroundI (n : Int) (m : Nat) : Nat := ((if n < 0 then -(n + 1) else n).tmod (m : Int)).toNat
theorem around_int (n : Int) (m : Nat) : (((aroundI n m : Nat) : Int)) = (if n < 0 then -(n + 1) else n).tmod (m : Int) := by
  unfold aroundI
  refine Int.toNat_of_nonneg (Int.tmod_nonneg _ ?_)
  split <;> omega
theorem around_lt (n : Int) {m : Nat} (h : 0 < m) : aroundI n m < m := by
  have h1 := around_int n m
  have h2 := Int.tmod_lt_of_pos (if n < 0 then -(n + 1) else n) (b := (m : Int)) (by omega)
  omega
def atI (l : List Int) (i m : Nat) : Nat := if l.length ≤ i then 0 else aroundI (gt l i) m
theorem atI_lt (l : List Int) (i : Nat) {m : Nat} (h : 0 < m) : atI l i m < m := by
  unfold atI; split
  · exact h
  · exact around_lt _ h
def capC (c : UInt8) : UInt8 := if 97 ≤ c ∧ c ≤ 122 then c - 97 + 65 else c
def capT : List UInt8 → List UInt8
  | [] => []
  | c :: r => capC c :: r
def dresT (w : List UInt8) (n : Nat) : List UInt8 :=
  if n = 6 then capT w else if n = 7 then w ++ [44] else if n = 8 then w ++ [46] else if n = 9 then capT w ++ [46] else if n = 10 then [40] ++ w ++ [41] else if n = 11 then w ++ [63] else w
def wlist : List (List UInt8) := [[97, 110, 110, 97], [114, 111, 109, 101], [107, 105, 110, 103], [116, 104, 101], [111, 102], [111, 100, 101], [108, 121, 114, 101], [120], [49, 50]]
def uniT (n : Nat) : List UInt8 := dresT (gt wlist (n % 9)) (n / 9)
def textR (l : List Int) (k : Nat) : Nat → List UInt8
  | 0 => []
  | i + 1 => (if 0 < i then textR l k i ++ [32] else textR l k i) ++ uniT (atI l (k + 1 + i) 108)
def textT (l : List Int) (k : Nat) : List UInt8 := textR l k (1 + atI l k 9)
/-! Lengths. -/
theorem gt_all {α : Type} [Inhabited α] (l : List α) (p : α → Bool) (h : l.all p = true) (i : Nat) (hi : i < l.length) : p (gt l i) = true := by
  have e : gt l i = l[i] := by simp [gt, List.getD, List.getElem?_eq_getElem hi]
  rw [e]; exact List.all_eq_true.1 h _ (List.getElem_mem hi)
/-- What may stand in a valid text: no blank at the ends, none behind another. -/
def okT (p : Bool) : List UInt8 → Bool
  | [] => !p
  | c :: r => if c = 32 then !p && okT true r else decide (32 ≤ c) && decide (c ≤ 126) && okT false r
theorem okT_unit : (List.range 108).all (fun n => okT true (uniT n) && decide ((uniT n).length ≤ 7) && decide (0 < (uniT n).length)) = true := by decide +kernel
theorem okT_app : ∀ (x : List UInt8) (p : Bool) (y : List UInt8), okT p x = true → okT true y = true → okT p (x ++ 32 :: y) = true
  | [], p, y, hx, hy => by
    simp only [okT, Bool.not_eq_true'] at hx; subst hx
    simp only [List.nil_append, okT, if_pos, Bool.not_false, Bool.true_and, hy]
  | c :: r, p, y, hx, hy => by
    simp only [okT, List.cons_append] at hx ⊢
    by_cases hc : c = 32
    · rw [if_pos hc] at hx ⊢
      simp only [Bool.and_eq_true] at hx ⊢
      exact ⟨hx.1, okT_app r true y hx.2 hy⟩
    · rw [if_neg hc] at hx ⊢
      simp only [Bool.and_eq_true] at hx ⊢
      exact ⟨hx.1, okT_app r false y hx.2 hy⟩
theorem unit_ok (n : Nat) (h : n < 108) : okT true (uniT n) = true ∧ (uniT n).length ≤ 7 ∧ 0 < (uniT n).length := by
  have := List.all_eq_true.1 okT_unit n (List.mem_range.2 h)
  simp only [Bool.and_eq_true, decide_eq_true_eq] at this
  exact ⟨this.1.1, this.1.2, this.2⟩
theorem textR_ok (l : List Int) (k : Nat) : ∀ i, 0 < i → okT true (textR l k i) = true ∧ (textR l k i).length ≤ 8 * i ∧ 0 < (textR l k i).length
  | 0, h => absurd h (Nat.lt_irrefl 0)
  | 1, _ => by
    have := unit_ok (atI l (k + 1 + 0) 108) (atI_lt _ _ (by decide))
    have e : textR l k 1 = uniT (atI l (k + 1 + 0) 108) := by simp [textR]
    rw [e]; exact ⟨this.1, by omega, this.2.2⟩
  | i + 2, _ => by
    obtain ⟨h1, h2, h3⟩ := textR_ok l k (i + 1) (by omega)
    have u := unit_ok (atI l (k + 1 + (i + 1)) 108) (atI_lt _ _ (by decide))
    have e : textR l k (i + 2) = textR l k (i + 1) ++ 32 :: uniT (atI l (k + 1 + (i + 1)) 108) := by
      rw [textR, if_pos (by omega)]; simp
    rw [e]
    exact ⟨okT_app _ _ _ h1 u.1, by simp; omega, by simp; omega⟩
theorem textR_len (l : List Int) (k i : Nat) : (textR l k i).length ≤ 8 * i := by
  cases i with
  | zero => simp [textR]
  | succ i => exact (textR_ok l k (i + 1) (by omega)).2.1
end Go.Sx
namespace Go.Sx
theorem gt_mem {α : Type} [Inhabited α] (l : List α) (i : Nat) (h : i < l.length) : gt l i ∈ l := by
  simp only [gt, List.getD, List.getElem?_eq_getElem h, Option.getD_some]
  exact List.getElem_mem h
theorem LI_of {l : List Int} (h : l.length ≤ 9223372036854775807) (hb : ∀ x ∈ l, -9223372036854775808 ≤ x ∧ x ≤ 9223372036854775807) : LI l := ⟨h, fun i hi => hb _ (gt_mem l i hi)⟩
/-- A certificate that is bent. -/
def wr (x : Int) : Int := IntKind.wrap .i64 x
end Go.Sx
namespace Go.Sx
open Go.RowKit Go.Proofs
theorem dec_len {α : Type} [DecidableEq α] {x y : List α} (h : ¬ x.length = y.length) : decide (x = y) = false := by
  apply decide_eq_false; intro e; exact h (by rw [e])
theorem dec_ne {α : Type} [Inhabited α] [DecidableEq α] {x y : List α} {i : Nat} (h : ¬ gt x i = gt y i) : decide (x = y) = false := by
  apply decide_eq_false; intro e; exact h (by rw [e])
theorem dec_eq {α : Type} [DecidableEq α] {x y : List α} {i : Nat} (hi : ¬ i < x.length) (hl : x.length = y.length) (h : x.take i = y.take i) : decide (x = y) = true := by
  apply decide_eq_true
  rwa [List.take_of_length_le (by omega), List.take_of_length_le (by omega)] at h
theorem take_next2 {α : Type} [Inhabited α] {x y : List α} {i : Nat} (hi : i < x.length) (hl : x.length = y.length) (h : x.take i = y.take i) (he : gt x i = gt y i) : x.take (i + 1) = y.take (i + 1) := by
  rw [take_snoc x i hi, take_snoc y i (by omega), h, he]
set_option maxRecDepth 100000 in
set_option maxHeartbeats 8000000 in
theorem fc17 {gl : Nat → C} {M : Nat} {pu : Nat → List C → Option C}  (hcx : CxOK (cxP gl M pu)) (x y : List Int) (hx : x.length < 9223372036854775807) : FC Try.prog gl 17 [sl iC .no x, sl iC .no y] [] (.val (.bool (decide (x = y)))) [] := by
 replace hcx := hcx.reN (M := 26)
 refine FC.ofA (cx := cxP gl 26 pu) (rs := [.tmp 4]) rfl Try.func17 rfl rfl rfl (by simp only [List.length_cons, List.length_nil]; decide) (by simp only [go_sem]) ?_
 simp only [ini, go_sem]
 refine Tr.seqK fun K1 hK1 => ?_
 refine Tr.rg hcx [] _ [] rfl rfl rfl ?_
 simp -implicitDefEqProofs (maxSteps := 2000000) (disch := first | omega | (simp only [go_sem, List.length_append, List.length_drop, List.length_take] <;> omega) | decide) only [go_sem, ↓reduceIte, Nat.reduceEqDiff, reduceCtorEq, Nat.reduceLT, Nat.reduceBEq, Nat.reduceAdd, Nat.reduceSub, Nat.reduceMul, Nat.reduceMod]
 refine hK1 _ ?_
 clear hK1 K1
 refine Tr.kp [0, 1] ?_
 simp only [pk_cons, pk_nil, ↓A_cons, ↓reduceIte, Nat.reduceEqDiff]
 refine Tr.seqK fun K2 hK2 => ?_
 refine Tr.seqK fun K3 hK3 => ?_
 refine Tr.rg hcx [] _ [] rfl rfl rfl ?_
 simp -implicitDefEqProofs (maxSteps := 2000000) (disch := first | omega | (simp only [go_sem, List.length_append, List.length_drop, List.length_take] <;> omega) | decide) only [go_sem, ↓reduceIte, Nat.reduceEqDiff, reduceCtorEq, Nat.reduceLT, Nat.reduceBEq, Nat.reduceAdd, Nat.reduceSub, Nat.reduceMul, Nat.reduceMod]
 refine hK3 _ ?_
 clear hK3 K3
 refine Tr.kp [0, 1, 10] ?_
 simp only [pk_cons, pk_nil, ↓A_cons, ↓reduceIte, Nat.reduceEqDiff]
 refine Tr.condG fun KT KF hT hF => ?_
 simp only [ev_tmp, ev_const, ↓A_cons, ↓reduceIte, Nat.reduceEqDiff, reduceCtorEq, condG_bool, GB_true, GB_false, decide_eq_true_eq]
 refine GB.dec (fun hc10 => hT ?_) (fun hc10 => hF ?_)
 ·
  clear hT hF KT KF
  refine Tr.seqK fun K4 hK4 => ?_
  refine Tr.rg hcx [] _ [] rfl rfl rfl ?_
  simp -implicitDefEqProofs (maxSteps := 2000000) (disch := first | omega | (simp only [go_sem, List.length_append, List.length_drop, List.length_take] <;> omega) | decide) only [go_sem, ↓reduceIte, Nat.reduceEqDiff, reduceCtorEq, Nat.reduceLT, Nat.reduceBEq, Nat.reduceAdd, Nat.reduceSub, Nat.reduceMul, Nat.reduceMod]
  refine hK4 _ ?_
  clear hK4 K4
  refine Tr.kp [4] ?_
  simp only [pk_cons, pk_nil, ↓A_cons, ↓reduceIte, Nat.reduceEqDiff]
  refine Tr.ret ?_
  simp -implicitDefEqProofs (disch := first | omega | (simp only [go_sem, List.length_append, List.length_drop, List.length_take] <;> omega) | decide) only [go_sem, ↓reduceIte, Nat.reduceEqDiff, reduceCtorEq]
  all_goals (first | rw [dec_len hc10] | rw [dec_ne hc25] | rw [dec_eq hc14 (Classical.not_not.1 hc10) hA])
 ·
  clear hT hF KT KF
  have hll : x.length = y.length := Classical.not_not.1 hc10
  refine Tr.skip ?_
  refine hK2 _ ?_
  clear hK2 K2
  refine Tr.kp [0, 1] ?_
  simp only [pk_cons, pk_nil, ↓A_cons, ↓reduceIte, Nat.reduceEqDiff]
  refine Tr.seqK fun K5 hK5 => ?_
  refine Tr.seqK fun K6 hK6 => ?_
  refine Tr.rg hcx [] _ [] rfl rfl rfl ?_
  simp -implicitDefEqProofs (maxSteps := 2000000) (disch := first | omega | (simp only [go_sem, List.length_append, List.length_drop, List.length_take] <;> omega) | decide) only [go_sem, ↓reduceIte, Nat.reduceEqDiff, reduceCtorEq, Nat.reduceLT, Nat.reduceBEq, Nat.reduceAdd, Nat.reduceSub, Nat.reduceMul, Nat.reduceMod]
  refine hK6 _ ?_
  clear hK6 K6
  refine Tr.kp [0, 1, 5] ?_
  simp only [pk_cons, pk_nil, ↓A_cons, ↓reduceIte, Nat.reduceEqDiff]
  refine Tr.blk ?_
  refine Tr.loopI (α := Nat) (fun a => [(0, ?v0_14), (1, ?v1_14), (5, .val (nI a))]) (fun a => ?h_14) (fun a => a ≤ x.length ∧ x.take a = y.take a) (fun a => x.length - a) (0) ?_ ?le_14 ?hh_14 ?bd_14
  case hh_14 => exact rfl
  case le_14 => (simp only [Le_nil, Le_cons, ↓A_cons, ↓reduceIte, Nat.reduceEqDiff, reduceCtorEq, CLe_refl, CLe_top, CLe_full, CLe_nil, CLe_own, and_true, true_and]; all_goals (repeat' first | exact CLe.refl _ | exact True.intro | (refine CLe_sln ?_; first | with_reducible rfl | (simp only [List.take_zero]; done) | (rfl; done)) | exact CLe_nI (by omega) | exact CLe_int (by omega) | exact CLe_inI (by omega) | exact CLe_nIi (by omega) | with_reducible apply And.intro))
  · exact ⟨by omega, rfl⟩
  case bd_14 =>
   rintro i ⟨hi, hA⟩
   refine Tr.seqK fun K7 hK7 => ?_
   refine Tr.seqK fun K8 hK8 => ?_
   refine Tr.rg hcx [] _ [] rfl rfl rfl ?_
   simp -implicitDefEqProofs (maxSteps := 2000000) (disch := first | omega | (simp only [go_sem, List.length_append, List.length_drop, List.length_take] <;> omega) | decide) only [go_sem, ↓reduceIte, Nat.reduceEqDiff, reduceCtorEq, Nat.reduceLT, Nat.reduceBEq, Nat.reduceAdd, Nat.reduceSub, Nat.reduceMul, Nat.reduceMod]
   refine hK8 _ ?_
   clear hK8 K8
   refine Tr.kp [0, 1, 5, 14] ?_
   simp only [pk_cons, pk_nil, ↓A_cons, ↓reduceIte, Nat.reduceEqDiff]
   refine Tr.condG fun KT KF hT hF => ?_
   simp only [ev_tmp, ev_const, ↓A_cons, ↓reduceIte, Nat.reduceEqDiff, reduceCtorEq, condG_bool, GB_true, GB_false, decide_eq_true_eq]
   refine GB.dec (fun hc14 => hT ?_) (fun hc14 => hF ?_)
   ·
    clear hT hF KT KF
    refine Tr.skip ?_
    refine hK7 _ ?_
    clear hK7 K7
    refine Tr.kp [0, 1, 5] ?_
    simp only [pk_cons, pk_nil, ↓A_cons, ↓reduceIte, Nat.reduceEqDiff]
    refine Tr.seqK fun K9 hK9 => ?_
    refine Tr.blk ?_
    refine Tr.seqK fun K10 hK10 => ?_
    refine Tr.rgD hcx hMO [] _ [] rfl rfl rfl rfl ?_
    simp -implicitDefEqProofs (maxSteps := 2000000) (disch := first | omega | (simp only [go_sem, List.length_append, List.length_drop, List.length_take] <;> omega) | decide) only [go_sem, ↓reduceIte, Nat.reduceEqDiff, reduceCtorEq, Nat.reduceLT, Nat.reduceBEq, Nat.reduceAdd, Nat.reduceSub, Nat.reduceMul, Nat.reduceMod]
    with_reducible refine And.intro ?_ ?_
    · exact rfl
    refine hK10 _ ?_
    clear hK10 K10
    refine Tr.kp [0, 1, 5, 25] ?_
    simp only [pk_cons, pk_nil, ↓A_cons, ↓reduceIte, Nat.reduceEqDiff]
    refine Tr.condG fun KT KF hT hF => ?_
    simp only [ev_tmp, ev_const, ↓A_cons, ↓reduceIte, Nat.reduceEqDiff, reduceCtorEq, condG_bool, GB_true, GB_false, decide_eq_true_eq]
    refine GB.dec (fun hc25 => hT ?_) (fun hc25 => hF ?_)
    ·
     clear hT hF KT KF
     refine Tr.seqK fun K11 hK11 => ?_
     refine Tr.rg hcx [] _ [] rfl rfl rfl ?_
     simp -implicitDefEqProofs (maxSteps := 2000000) (disch := first | omega | (simp only [go_sem, List.length_append, List.length_drop, List.length_take] <;> omega) | decide) only [go_sem, ↓reduceIte, Nat.reduceEqDiff, reduceCtorEq, Nat.reduceLT, Nat.reduceBEq, Nat.reduceAdd, Nat.reduceSub, Nat.reduceMul, Nat.reduceMod]
     refine hK11 _ ?_
     clear hK11 K11
     refine Tr.kp [4] ?_
     simp only [pk_cons, pk_nil, ↓A_cons, ↓reduceIte, Nat.reduceEqDiff]
     refine Tr.ret ?_
     simp -implicitDefEqProofs (disch := first | omega | (simp only [go_sem, List.length_append, List.length_drop, List.length_take] <;> omega) | decide) only [go_sem, ↓reduceIte, Nat.reduceEqDiff, reduceCtorEq]
     all_goals (first | rw [dec_len hc10] | rw [dec_ne hc25] | rw [dec_eq hc14 (Classical.not_not.1 hc10) hA])
    ·
     clear hT hF KT KF
     refine Tr.skip ?_
     refine hK9 _ ?_
     clear hK9 K9
     refine Tr.kp [0, 1, 5] ?_
     simp only [pk_cons, pk_nil, ↓A_cons, ↓reduceIte, Nat.reduceEqDiff]
     refine Tr.rg hcx [1000016] _ [] rfl rfl rfl ?_
     simp -implicitDefEqProofs (maxSteps := 2000000) (disch := first | omega | (simp only [go_sem, List.length_append, List.length_drop, List.length_take] <;> omega) | decide) only [go_sem, ↓reduceIte, Nat.reduceEqDiff, reduceCtorEq, Nat.reduceLT, Nat.reduceBEq, Nat.reduceAdd, Nat.reduceSub, Nat.reduceMul, Nat.reduceMod]
     refine ⟨i + 1, ⟨⟨by omega, take_next2 hc14 (Classical.not_not.1 hc10) hA (Classical.not_not.1 hc25)⟩, by first | omega | (simp only []; omega)⟩, ?_, rfl⟩
     (simp only [Le_nil, Le_cons, ↓A_cons, ↓reduceIte, Nat.reduceEqDiff, reduceCtorEq, CLe_refl, CLe_top, CLe_full, CLe_nil, CLe_own, and_true, true_and]; all_goals (repeat' first | exact CLe.refl _ | exact True.intro | (refine CLe_sln ?_; first | with_reducible rfl | (simp only [List.take_zero]; done) | (rfl; done)) | exact CLe_nI (by omega) | exact CLe_int (by omega) | exact CLe_inI (by omega) | exact CLe_nIi (by omega) | with_reducible apply And.intro))
   ·
    clear hT hF KT KF
    refine Tr.exit ?_
    refine hK5 _ ?_
    clear hK7 K7 hK5 K5
    refine Tr.kp [] ?_
    simp only [pk_cons, pk_nil, ↓A_cons, ↓reduceIte, Nat.reduceEqDiff]
    refine Tr.seqK fun K12 hK12 => ?_
    refine Tr.rg hcx [] _ [] rfl rfl rfl ?_
    simp -implicitDefEqProofs (maxSteps := 2000000) (disch := first | omega | (simp only [go_sem, List.length_append, List.length_drop, List.length_take] <;> omega) | decide) only [go_sem, ↓reduceIte, Nat.reduceEqDiff, reduceCtorEq, Nat.reduceLT, Nat.reduceBEq, Nat.reduceAdd, Nat.reduceSub, Nat.reduceMul, Nat.reduceMod]
    refine hK12 _ ?_
    clear hK12 K12
    refine Tr.kp [4] ?_
    simp only [pk_cons, pk_nil, ↓A_cons, ↓reduceIte, Nat.reduceEqDiff]
    refine Tr.ret ?_
    simp -implicitDefEqProofs (disch := first | omega | (simp only [go_sem, List.length_append, List.length_drop, List.length_take] <;> omega) | decide) only [go_sem, ↓reduceIte, Nat.reduceEqDiff, reduceCtorEq]
    all_goals (first | rw [dec_len hc10] | rw [dec_ne hc25] | rw [dec_eq hc14 (Classical.not_not.1 hc10) hA])
set_option maxRecDepth 100000 in
set_option maxHeartbeats 8000000 in
theorem fc15 {gl : Nat → C} {M : Nat} {pu : Nat → List C → Option C}  (hcx : CxOK (cxP gl M pu)) (h17 : ∀ x y : List Int, x.length < 9223372036854775807 → pu 17 [sl iC .no x, sl iC .no y] = some (.val (.bool (decide (x = y))))) (x1 x2 x3 y1 y2 y3 : List Int) (hx1 : x1.length < 9223372036854775807) (hx2 : x2.length < 9223372036854775807) (hx3 : x3.length < 9223372036854775807) : FC Try.prog gl 15 [.agg [sl iC .no x1, sl iC .no x2, sl iC .no x3], .agg [sl iC .no y1, sl iC .no y2, sl iC .no y3]] [] (.val (.bool (decide ((x1, x2, x3) = (y1, y2, y3))))) [] := by
 replace hcx := hcx.reN (M := 24)
 refine FC.ofA (cx := cxP gl 24 pu) (rs := [.tmp 4]) rfl Try.func15 rfl rfl rfl (by simp only [List.length_cons, List.length_nil]; decide) (by simp only [go_sem]) ?_
 simp only [ini, go_sem]
 refine Tr.seqK fun K1 hK1 => ?_
 refine Tr.rg hcx [] _ [none, none] rfl rfl rfl ?_
 simp -implicitDefEqProofs (maxSteps := 2000000) (disch := first | omega | (simp only [go_sem, List.length_append, List.length_drop, List.length_take] <;> omega) | decide) only [go_sem, ↓reduceIte, Nat.reduceEqDiff, reduceCtorEq, Nat.reduceLT, Nat.reduceBEq, Nat.reduceAdd, Nat.reduceSub, Nat.reduceMul, Nat.reduceMod, h17]
 refine hK1 _ ?_
 clear hK1 K1
 refine Tr.kp [2, 3] ?_
 simp only [pk_cons, pk_nil, ↓A_cons, ↓reduceIte, Nat.reduceEqDiff]
 refine Tr.seqK fun K2 hK2 => ?_
 by_cases b1 : x1 = y1
 ·
  have b1o := b1
  replace b1 := eq_true b1
  by_cases b2 : x2 = y2
  ·
   have b2o := b2
   replace b2 := eq_true b2
   refine Tr.rg hcx [1000023] [some 5, some 6, some 7, some 8, some 9, some 10, some 11, some 12, some 13, some 14, some 15, some 16, some 17, some 18, some 19, some 20, some 21, some 22, some 23, some 4] [] rfl rfl rfl ?_
   simp -implicitDefEqProofs (maxSteps := 2000000) (disch := first | omega | (simp only [go_sem, List.length_append, List.length_drop, List.length_take] <;> omega) | decide) only [go_sem, ↓reduceIte, Nat.reduceEqDiff, reduceCtorEq, Nat.reduceLT, Nat.reduceBEq, Nat.reduceAdd, Nat.reduceSub, Nat.reduceMul, Nat.reduceMod, h17, b1, b2]
   refine hK2 _ ?_
   clear hK2 K2
   refine Tr.kp [4] ?_
   simp only [pk_cons, pk_nil, ↓A_cons, ↓reduceIte, Nat.reduceEqDiff]
   refine Tr.ret ?_
   simp -implicitDefEqProofs (disch := first | omega | (simp only [go_sem, List.length_append, List.length_drop, List.length_take] <;> omega) | decide) only [go_sem, ↓reduceIte, Nat.reduceEqDiff, reduceCtorEq]
   all_goals (first | (subst b1o; subst b2o; simp; done) | (subst b1o; simp [b2o]; done) | (simp [b1o]; done))
  ·
   have b2o := b2
   replace b2 := eq_false b2
   refine Tr.rg hcx [1000023] [some 5, some 6, some 7, some 8, some 9, some 10, some 11, some 12, some 13, some 14, some 15, some 16, some 17, some 18, some 19, some 20, some 21, some 22, some 23, some 4] [] rfl rfl rfl ?_
   simp -implicitDefEqProofs (maxSteps := 2000000) (disch := first | omega | (simp only [go_sem, List.length_append, List.length_drop, List.length_take] <;> omega) | decide) only [go_sem, ↓reduceIte, Nat.reduceEqDiff, reduceCtorEq, Nat.reduceLT, Nat.reduceBEq, Nat.reduceAdd, Nat.reduceSub, Nat.reduceMul, Nat.reduceMod, h17, b1, b2]
   refine hK2 _ ?_
   clear hK2 K2
   refine Tr.kp [4] ?_
   simp only [pk_cons, pk_nil, ↓A_cons, ↓reduceIte, Nat.reduceEqDiff]
   refine Tr.ret ?_
   simp -implicitDefEqProofs (disch := first | omega | (simp only [go_sem, List.length_append, List.length_drop, List.length_take] <;> omega) | decide) only [go_sem, ↓reduceIte, Nat.reduceEqDiff, reduceCtorEq]
   all_goals (first | (subst b1o; subst b2o; simp; done) | (subst b1o; simp [b2o]; done) | (simp [b1o]; done))
 ·
  have b1o := b1
  replace b1 := eq_false b1
  refine Tr.rg hcx [1000023] [some 5, some 6, some 7, some 8, some 9, some 10, some 11, some 12, some 13, some 14, some 15, some 16, some 17, some 18, some 19, some 20, some 21, some 22, some 23, some 4] [] rfl rfl rfl ?_
  simp -implicitDefEqProofs (maxSteps := 2000000) (disch := first | omega | (simp only [go_sem, List.length_append, List.length_drop, List.length_take] <;> omega) | decide) only [go_sem, ↓reduceIte, Nat.reduceEqDiff, reduceCtorEq, Nat.reduceLT, Nat.reduceBEq, Nat.reduceAdd, Nat.reduceSub, Nat.reduceMul, Nat.reduceMod, h17, b1]
  refine hK2 _ ?_
  clear hK2 K2
  refine Tr.kp [4] ?_
  simp only [pk_cons, pk_nil, ↓A_cons, ↓reduceIte, Nat.reduceEqDiff]
  refine Tr.ret ?_
  simp -implicitDefEqProofs (disch := first | omega | (simp only [go_sem, List.length_append, List.length_drop, List.length_take] <;> omega) | decide) only [go_sem, ↓reduceIte, Nat.reduceEqDiff, reduceCtorEq]
  all_goals (first | (subst b1o; subst b2o; simp; done) | (subst b1o; simp [b2o]; done) | (simp [b1o]; done))
set_option maxRecDepth 100000 in
set_option maxHeartbeats 8000000 in
theorem fc16 {gl : Nat → C} {M : Nat} {pu : Nat → List C → Option C}  (hcx : CxOK (cxP gl M pu)) (x1 x2 x3 : List Int) : FC Try.prog gl 16 [.agg [sl iC .no x1, sl iC .no x2, sl iC .no x3]] [] (.agg [sl iC .no x1, sl iC .no x2, sl iC .no x3]) [] := by
 replace hcx := hcx.reN (M := 10)
 refine FC.ofA (cx := cxP gl 10 pu) (rs := [.cell 2 32]) rfl Try.func16 rfl rfl rfl (by simp only [List.length_cons, List.length_nil]; decide) (by simp only [go_sem]) ?_
 simp only [ini, go_sem]
 refine Tr.seqK fun K1 hK1 => ?_
 refine Tr.rg hcx [] _ [none, none] rfl rfl rfl ?_
 simp -implicitDefEqProofs (maxSteps := 2000000) (disch := first | omega | (simp only [go_sem, List.length_append, List.length_drop, List.length_take] <;> omega) | decide) only [go_sem, ↓reduceIte, Nat.reduceEqDiff, reduceCtorEq, Nat.reduceLT, Nat.reduceBEq, Nat.reduceAdd, Nat.reduceSub, Nat.reduceMul, Nat.reduceMod]
 refine hK1 _ ?_
 clear hK1 K1
 refine Tr.kp [1, 2] ?_
 simp only [pk_cons, pk_nil, ↓A_cons, ↓reduceIte, Nat.reduceEqDiff]
 refine Tr.seqK fun K2 hK2 => ?_
 refine Tr.rg hcx [] _ [] rfl rfl rfl ?_
 simp -implicitDefEqProofs (maxSteps := 2000000) (disch := first | omega | (simp only [go_sem, List.length_append, List.length_drop, List.length_take] <;> omega) | decide) only [go_sem, ↓reduceIte, Nat.reduceEqDiff, reduceCtorEq, Nat.reduceLT, Nat.reduceBEq, Nat.reduceAdd, Nat.reduceSub, Nat.reduceMul, Nat.reduceMod]
 refine hK2 _ ?_
 clear hK2 K2
 refine Tr.kp [2] ?_
 simp only [pk_cons, pk_nil, ↓A_cons, ↓reduceIte, Nat.reduceEqDiff]
 refine Tr.ret ?_
 simp -implicitDefEqProofs (disch := first | omega | (simp only [go_sem, List.length_append, List.length_drop, List.length_take] <;> omega) | decide) only [go_sem, ↓reduceIte, Nat.reduceEqDiff, reduceCtorEq]
 all_goals (rfl)
set_option maxRecDepth 100000 in
set_option maxHeartbeats 8000000 in
theorem fc30 {gl : Nat → C} {M : Nat} {pu : Nat → List C → Option C}  (hcx : CxOK (cxP gl M pu)) (n : Int) (m : Nat) (hn : -9223372036854775808 ≤ n ∧ n ≤ 9223372036854775807 ∧ 0 < m ∧ m ≤ 9223372036854775807) : FC Try.prog gl 30 [.val (.int .i64 n), .val (nI m)] [] (.val (nI (aroundI n m))) [] := by
 replace hcx := hcx.reN (M := 13)
 refine FC.ofA (cx := cxP gl 13 pu) (rs := [.tmp 4]) rfl Try.func30 rfl rfl rfl (by simp only [List.length_cons, List.length_nil]; decide) (by simp only [go_sem]) ?_
 simp only [ini, go_sem]
 refine Tr.seqK fun K1 hK1 => ?_
 refine Tr.rg hcx [] _ [] rfl rfl rfl ?_
 simp -implicitDefEqProofs (maxSteps := 2000000) (disch := first | omega | (simp only [go_sem, List.length_append, List.length_drop, List.length_take] <;> omega) | decide) only [go_sem, ↓reduceIte, Nat.reduceEqDiff, reduceCtorEq, Nat.reduceLT, Nat.reduceBEq, Nat.reduceAdd, Nat.reduceSub, Nat.reduceMul, Nat.reduceMod]
 refine hK1 _ ?_
 clear hK1 K1
 refine Tr.kp [0, 1] ?_
 simp only [pk_cons, pk_nil, ↓A_cons, ↓reduceIte, Nat.reduceEqDiff]
 refine Tr.seqK fun K2 hK2 => ?_
 refine Tr.seqK fun K3 hK3 => ?_
 refine Tr.rg hcx [] _ [] rfl rfl rfl ?_
 simp -implicitDefEqProofs (maxSteps := 2000000) (disch := first | omega | (simp only [go_sem, List.length_append, List.length_drop, List.length_take] <;> omega) | decide) only [go_sem, ↓reduceIte, Nat.reduceEqDiff, reduceCtorEq, Nat.reduceLT, Nat.reduceBEq, Nat.reduceAdd, Nat.reduceSub, Nat.reduceMul, Nat.reduceMod]
 refine hK3 _ ?_
 clear hK3 K3
 refine Tr.kp [0, 1, 6] ?_
 simp only [pk_cons, pk_nil, ↓A_cons, ↓reduceIte, Nat.reduceEqDiff]
 refine Tr.condG fun KT KF hT hF => ?_
 simp only [ev_tmp, ev_const, ↓A_cons, ↓reduceIte, Nat.reduceEqDiff, reduceCtorEq, condG_bool, GB_true, GB_false, decide_eq_true_eq]
 refine GB.dec (fun hc6 => hT ?_) (fun hc6 => hF ?_)
 ·
  clear hT hF KT KF
  refine Tr.rg hcx [1000009] _ [] rfl rfl rfl ?_
  simp -implicitDefEqProofs (maxSteps := 2000000) (disch := first | omega | (simp only [go_sem, List.length_append, List.length_drop, List.length_take] <;> omega) | decide) only [go_sem, ↓reduceIte, Nat.reduceEqDiff, reduceCtorEq, Nat.reduceLT, Nat.reduceBEq, Nat.reduceAdd, Nat.reduceSub, Nat.reduceMul, Nat.reduceMod]
  refine hK2 _ ?_
  clear hK2 K2
  refine Tr.kp [0, 1] ?_
  simp only [pk_cons, pk_nil, ↓A_cons, ↓reduceIte, Nat.reduceEqDiff]
  refine Tr.seqK fun K4 hK4 => ?_
  refine Tr.rg hcx [1000012] _ [] rfl rfl rfl ?_
  simp -implicitDefEqProofs (maxSteps := 2000000) (disch := first | omega | (simp only [go_sem, List.length_append, List.length_drop, List.length_take] <;> omega) | decide) only [go_sem, ↓reduceIte, Nat.reduceEqDiff, reduceCtorEq, Nat.reduceLT, Nat.reduceBEq, Nat.reduceAdd, Nat.reduceSub, Nat.reduceMul, Nat.reduceMod]
  refine hK4 _ ?_
  clear hK4 K4
  refine Tr.kp [4] ?_
  simp only [pk_cons, pk_nil, ↓A_cons, ↓reduceIte, Nat.reduceEqDiff]
  refine Tr.ret ?_
  simp -implicitDefEqProofs (disch := first | omega | (simp only [go_sem, List.length_append, List.length_drop, List.length_take] <;> omega) | decide) only [go_sem, ↓reduceIte, Nat.reduceEqDiff, reduceCtorEq]
  all_goals (exact congrArg (fun z => some (C.val (.int .i64 z))) (by rw [around_int]; first | (rw [if_pos (by omega)]; rfl) | rw [if_neg (by omega)]))
 ·
  clear hT hF KT KF
  refine Tr.skip ?_
  refine hK2 _ ?_
  clear hK2 K2
  refine Tr.kp [0, 1] ?_
  simp only [pk_cons, pk_nil, ↓A_cons, ↓reduceIte, Nat.reduceEqDiff]
  refine Tr.seqK fun K5 hK5 => ?_
  refine Tr.rg hcx [1000012] _ [] rfl rfl rfl ?_
  simp -implicitDefEqProofs (maxSteps := 2000000) (disch := first | omega | (simp only [go_sem, List.length_append, List.length_drop, List.length_take] <;> omega) | decide) only [go_sem, ↓reduceIte, Nat.reduceEqDiff, reduceCtorEq, Nat.reduceLT, Nat.reduceBEq, Nat.reduceAdd, Nat.reduceSub, Nat.reduceMul, Nat.reduceMod]
  refine hK5 _ ?_
  clear hK5 K5
  refine Tr.kp [4] ?_
  simp only [pk_cons, pk_nil, ↓A_cons, ↓reduceIte, Nat.reduceEqDiff]
  refine Tr.ret ?_
  simp -implicitDefEqProofs (disch := first | omega | (simp only [go_sem, List.length_append, List.length_drop, List.length_take] <;> omega) | decide) only [go_sem, ↓reduceIte, Nat.reduceEqDiff, reduceCtorEq]
  all_goals (exact congrArg (fun z => some (C.val (.int .i64 z))) (by rw [around_int]; first | (rw [if_pos (by omega)]; rfl) | rw [if_neg (by omega)]))
end Go.Sx
namespace Go.Sx
open Go.RowKit Go.Proofs
theorem FC.le {P : Program} {gl : Nat → C} {f : Nat} {args args' : List C} {c : C} {h h' : Hp} (hf : FC P gl f args h c h') (ha : ∀ G vs, RepL G args' vs → RepL G args vs) : FC P gl f args' h c h' :=
  ⟨hf.1, fun G w vs hw ht hg hr => hf.2 G w vs hw ht hg (ha G _ hr)⟩
theorem repL_cons {G : Gh} {x y : C} {xs ys : List C} (h : CLe x y) (ht : ∀ vs, RepL G xs vs → RepL G ys vs) : ∀ vs, RepL G (x :: xs) vs → RepL G (y :: ys) vs := fun vs hr => by
  obtain ⟨v1, l1, e, h1, h2⟩ := hr
  exact ⟨v1, l1, e, h.1 G v1 h1, ht _ h2⟩
theorem CLe_agg {xs ys : List C} (h : ∀ G vs, RepL G xs vs → RepL G ys vs) : CLe (.agg xs) (.agg ys) := by
  refine ⟨fun G v hv => ?_, fun s n xs e => by cases e⟩
  simp only [Rep] at hv ⊢
  obtain ⟨vs, e, hr, ho⟩ := hv
  exact ⟨vs, e, h G _ hr, ho⟩
theorem fc15f {gl : Nat → C} {M : Nat} {pu : Nat → List C → Option C} (hcx : CxOK (cxP gl M pu)) (h17 : ∀ x y : List Int, x.length < 9223372036854775807 → pu 17 [sl iC .no x, sl iC .no y] = some (.val (.bool (decide (x = y))))) (x1 x2 x3 y2 y3 : List Int) (hx1 : x1.length < 9223372036854775807) (hx2 : x2.length < 9223372036854775807) (hx3 : x3.length < 9223372036854775807) :
    FC Try.prog gl 15 [.agg [sl iC .no x1, sl iC .no x2, sl iC .no x3], .agg [.val (.slice none 0 0), sl iC .full y2, sl iC .full y3]] [] (.val (.bool (decide ((x1, x2, x3) = ([], y2, y3))))) [] :=
  FC.le (fc15 hcx h17 x1 x2 x3 [] y2 y3 hx1 hx2 hx3) fun G => repL_cons (CLe.refl _) (repL_cons (CLe_agg fun G => repL_cons (CLe_sln rfl) (repL_cons (CLe.full _ _ _) (repL_cons (CLe.full _ _ _) fun _ h => h))) fun _ h => h)
def lvL : List Int := [3, 2, 2, 5]
theorem lvL_LI : LI lvL := LI_of (by decide) (by decide)
theorem bsA_lvL (u : TypeDesc) (y : Nat) : bsA (some ⟨u, 1, y, [nI 0]⟩) 4 [(0, .val (nI 3)), (1, .val (nI 2)), (2, .val (nI 2)), (3, .val (nI 5))] = some (vp (sl iC .full lvL)) := by
  rw [bsA_one u y 4 (nI 0) _ rfl (by decide)]; rfl
def lvA : List Int := [2, 3, 4]
theorem lvA_LI : LI lvA := LI_of (by decide) (by decide)
theorem bsA_lvA (u : TypeDesc) (y : Nat) : bsA (some ⟨u, 1, y, [nI 0]⟩) 3 [(0, .val (nI 2)), (1, .val (nI 3)), (2, .val (nI 4))] = some (vp (sl iC .full lvA)) := by
  rw [bsA_one u y 3 (nI 0) _ rfl (by decide)]; rfl
def lvB : List Int := [1, 4]
theorem lvB_LI : LI lvB := LI_of (by decide) (by decide)
theorem bsA_lvB (u : TypeDesc) (y : Nat) : bsA (some ⟨u, 1, y, [nI 0]⟩) 2 [(0, .val (nI 1)), (1, .val (nI 4))] = some (vp (sl iC .full lvB)) := by
  rw [bsA_one u y 2 (nI 0) _ rfl (by decide)]; rfl
def lvC : List Int := [1, 3]
theorem lvC_LI : LI lvC := LI_of (by decide) (by decide)
theorem bsA_lvC (u : TypeDesc) (y : Nat) : bsA (some ⟨u, 1, y, [nI 0]⟩) 2 [(0, .val (nI 1)), (1, .val (nI 3))] = some (vp (sl iC .full lvC)) := by
  rw [bsA_one u y 2 (nI 0) _ rfl (by decide)]; rfl
def lvD : List Int := [7]
theorem lvD_LI : LI lvD := LI_of (by decide) (by decide)
def lvE : List Int := [1, 3, 4]
theorem lvE_LI : LI lvE := LI_of (by decide) (by decide)
theorem bsA_lvE (u : TypeDesc) (y : Nat) : bsA (some ⟨u, 1, y, [nI 0]⟩) 3 [(0, .val (nI 1)), (1, .val (nI 3)), (2, .val (nI 4))] = some (vp (sl iC .full lvE)) := by
  rw [bsA_one u y 3 (nI 0) _ rfl (by decide)]; rfl
def lvF : List Int := [3, 2, 2, 1, 0]
theorem lvF_LI : LI lvF := LI_of (by decide) (by decide)
theorem bsA_lvF (u : TypeDesc) (y : Nat) : bsA (some ⟨u, 1, y, [nI 0]⟩) 5 [(0, .val (nI 3)), (1, .val (nI 2)), (2, .val (nI 2)), (3, .val (nI 1)), (4, .val (nI 0))] = some (vp (sl iC .full lvF)) := by
  rw [bsA_one u y 5 (nI 0) _ rfl (by decide)]; rfl
def lvG : List Int := [10, 1, 16, 0, 0]
theorem lvG_LI : LI lvG := LI_of (by decide) (by decide)
theorem bsA_lvG (u : TypeDesc) (y : Nat) : bsA (some ⟨u, 1, y, [nI 0]⟩) 5 [(0, .val (nI 10)), (1, .val (nI 1)), (2, .val (nI 16)), (3, .val (nI 0)), (4, .val (nI 0))] = some (vp (sl iC .full lvG)) := by
  rw [bsA_one u y 5 (nI 0) _ rfl (by decide)]; rfl
def lv0 : List Int := [0]
attribute [local go_sem high] bsA_lvL bsA_lvA bsA_lvB bsA_lvC bsA_lvE bsA_lvF bsA_lvG
theorem ex_f1 : fillT lvL 1 6 = (lvE, lvF, lvG, 0) := by kernel_rfl
theorem ex_f2 : fillT lvD 1 6 = ([], [], [], 21) := by kernel_rfl
theorem ex_f3 : fillT [] 1 6 = ([], lv0, lv0, 0) := by kernel_rfl
theorem ex_g1 : greT lvL 1 6 = (lvA, 0) := by kernel_rfl
theorem ex_c1 : costT lvL 1 6 lvA = (3, 16, 0) := by kernel_rfl
theorem ex_c2 : (costT lvL 1 6 lvB).2.2 = 21 := by kernel_rfl
theorem ex_c3 : (costT lvL 1 6 lvC).2.2 = 5 := by kernel_rfl
theorem ex_k1 : chkT lvL 1 6 lvE lvF lvG = 0 := by kernel_rfl
set_option maxRecDepth 100000 in
set_option maxHeartbeats 8000000 in
theorem fc18 {gl : Nat → C} {M : Nat} {pu : Nat → List C → Option C}  (hcx : CxOK (cxP gl M pu)) (h11 : ∀ (l : List Int) (b w : Int), LI l → (-9223372036854775808 ≤ b ∧ b ≤ 9223372036854775807) → (-9223372036854775808 ≤ w ∧ w ≤ 9223372036854775807) → pu 11 [sl iC .no l, .val (.int .i64 b), .val (.int .i64 w)] = some (.tup [.agg [sl iC .no (fillT l b w).1, sl iC .no (fillT l b w).2.1, sl iC .no (fillT l b w).2.2.1], .val (nI (fillT l b w).2.2.2)])) (h13 : ∀ (l : List Int) (b w : Int), LI l → (-9223372036854775808 ≤ b ∧ b ≤ 9223372036854775807) → (-9223372036854775808 ≤ w ∧ w ≤ 9223372036854775807) → pu 13 [sl iC .no l, .val (.int .i64 b), .val (.int .i64 w)] = some (.tup [sl iC .no (greT l b w).1, .val (nI (greT l b w).2)])) (h21 : ∀ (l : List Int) (b w : Int) (e : List Int), LI l → (-9223372036854775808 ≤ b ∧ b ≤ 9223372036854775807) → (-9223372036854775808 ≤ w ∧ w ≤ 9223372036854775807) → LI e → pu 21 [sl iC .no l, .val (.int .i64 b), .val (.int .i64 w), sl iC .no e] = some (.tup [.val (nI (costT l b w e).1), .val (.int .i64 (costT l b w e).2.1), .val (nI (costT l b w e).2.2)])) (h23 : ∀ (l : List Int) (b w : Int) (E L K : List Int), LI l → (-9223372036854775808 ≤ b ∧ b ≤ 9223372036854775807) → (-9223372036854775808 ≤ w ∧ w ≤ 9223372036854775807) → LI E → LI L → LI K → pu 23 [sl iC .no l, .val (.int .i64 b), .val (.int .i64 w), .agg [sl iC .no E, sl iC .no L, sl iC .no K]] = some (.val (nI (chkT l b w E L K)))) (h16 : ∀ (x1 x2 x3 : List Int), pu 16 [.agg [sl iC .no x1, sl iC .no x2, sl iC .no x3]] = some (.agg [sl iC .no x1, sl iC .no x2, sl iC .no x3])) (h15 : ∀ (x1 x2 x3 y1 y2 y3 : List Int), x1.length < 9223372036854775807 → x2.length < 9223372036854775807 → x3.length < 9223372036854775807 → pu 15 [.agg [sl iC .no x1, sl iC .no x2, sl iC .no x3], .agg [sl iC .no y1, sl iC .no y2, sl iC .no y3]] = some (.val (.bool (decide ((x1, x2, x3) = (y1, y2, y3)))))) (h15f : ∀ (x1 x2 x3 y2 y3 : List Int), x1.length < 9223372036854775807 → x2.length < 9223372036854775807 → x3.length < 9223372036854775807 → pu 15 [.agg [sl iC .no x1, sl iC .no x2, sl iC .no x3], .agg [.val (.slice none 0 0), sl iC .full y2, sl iC .full y3]] = some (.val (.bool (decide ((x1, x2, x3) = ([], y2, y3)))))) (h17 : ∀ x y : List Int, x.length < 9223372036854775807 → pu 17 [sl iC .no x, sl iC .no y] = some (.val (.bool (decide (x = y)))))  : FC Try.prog gl 18 [] [] (.val (.bool true)) [] := by
 replace hcx := hcx.reN (M := 126)
 refine FC.ofA (cx := cxP gl 126 pu) (rs := [.tmp 0]) rfl Try.func18 rfl rfl rfl (by simp only [List.length_cons, List.length_nil]; decide) (by simp only [go_sem]) ?_
 simp only [ini, go_sem]
 have e11a : pu 11 [sl iC .no lvL, .val (nI 1), .val (nI 6)] = some (.tup [.agg [sl iC .no lvE, sl iC .no lvF, sl iC .no lvG], .val (nI 0)]) := (h11 lvL 1 6 lvL_LI ⟨by decide, by decide⟩ ⟨by decide, by decide⟩).trans (by first | (rw [ex_f1]; done) | (rw [ex_f1]; rfl))
 have e11b : pu 11 [sl iC .no [((7 : Nat) : Int)], .val (nI 1), .val (nI 6)] = some (.tup [.agg [sl iC .no [], sl iC .no [], sl iC .no []], .val (nI 21)]) := (h11 lvD 1 6 lvD_LI ⟨by decide, by decide⟩ ⟨by decide, by decide⟩).trans (by first | (rw [ex_f2]; done) | (rw [ex_f2]; rfl))
 have e11c : pu 11 [.sl .no 0 [], .val (nI 1), .val (nI 6)] = some (.tup [.agg [sl iC .no [], sl iC .no [((0 : Nat) : Int)], sl iC .no [((0 : Nat) : Int)]], .val (nI 0)]) := (h11 [] 1 6 (LI_of (by decide) (by decide)) ⟨by decide, by decide⟩ ⟨by decide, by decide⟩).trans (by first | (rw [ex_f3]; done) | (rw [ex_f3]; rfl))
 have e13 : pu 13 [sl iC .no lvL, .val (nI 1), .val (nI 6)] = some (.tup [sl iC .no lvA, .val (nI 0)]) := (h13 lvL 1 6 lvL_LI ⟨by decide, by decide⟩ ⟨by decide, by decide⟩).trans (by rw [ex_g1])
 have e21a : pu 21 [sl iC .no lvL, .val (nI 1), .val (nI 6), sl iC .no lvA] = some (.tup [.val (nI 3), .val (nI 16), .val (nI 0)]) := (h21 lvL 1 6 lvA lvL_LI ⟨by decide, by decide⟩ ⟨by decide, by decide⟩ lvA_LI).trans (by rw [ex_c1]; rfl)
 have e21b : pu 21 [sl iC .no lvL, .val (nI 1), .val (nI 6), sl iC .no lvB] = some (.tup [.val (nI (costT lvL 1 6 lvB).1), .val (.int .i64 (costT lvL 1 6 lvB).2.1), .val (nI 21)]) := (h21 lvL 1 6 lvB lvL_LI ⟨by decide, by decide⟩ ⟨by decide, by decide⟩ lvB_LI).trans (by simp only [ex_c2]; first | done | rfl)
 have e21c : pu 21 [sl iC .no lvL, .val (nI 1), .val (nI 6), sl iC .no lvC] = some (.tup [.val (nI (costT lvL 1 6 lvC).1), .val (.int .i64 (costT lvL 1 6 lvC).2.1), .val (nI 5)]) := (h21 lvL 1 6 lvC lvL_LI ⟨by decide, by decide⟩ ⟨by decide, by decide⟩ lvC_LI).trans (by simp only [ex_c3]; first | done | rfl)
 have e23 : pu 23 [sl iC .no lvL, .val (nI 1), .val (nI 6), .agg [sl iC .no lvE, sl iC .no lvF, sl iC .no lvG]] = some (.val (nI 0)) := (h23 lvL 1 6 lvE lvF lvG lvL_LI ⟨by decide, by decide⟩ ⟨by decide, by decide⟩ lvE_LI lvF_LI lvG_LI).trans (by rw [ex_k1])
 have e15a : pu 15 [.agg [sl iC .no lvE, sl iC .no lvF, sl iC .no lvG], .agg [sl iC .no lvE, sl iC .no lvF, sl iC .no lvG]] = some (.val (.bool true)) := (h15 lvE lvF lvG lvE lvF lvG (by decide) (by decide) (by decide)).trans (by rw [decide_eq_true rfl])
 have e15b : pu 15 [.agg [sl iC .no [], sl iC .no [((0 : Nat) : Int)], sl iC .no [((0 : Nat) : Int)]], .agg [.val (.slice none 0 0), sl iC .full [((0 : Nat) : Int)], sl iC .full [((0 : Nat) : Int)]]] = some (.val (.bool true)) := (h15f [] [((0 : Nat) : Int)] [((0 : Nat) : Int)] [((0 : Nat) : Int)] [((0 : Nat) : Int)] (by decide) (by decide) (by decide)).trans (by rw [decide_eq_true rfl])
 have e17 : pu 17 [sl iC .no lvA, sl iC .no lvA] = some (.val (.bool true)) := (h17 lvA lvA (by decide)).trans (by rw [decide_eq_true rfl])
 refine Tr.seqK fun K1 hK1 => ?_
 refine Tr.rg hcx [] _ [] rfl rfl rfl ?_
 simp -implicitDefEqProofs (maxSteps := 2000000) (disch := first | omega | (simp only [go_sem, List.length_append, List.length_drop, List.length_take] <;> omega) | decide) only [go_sem, ↓reduceIte, Nat.reduceEqDiff, reduceCtorEq, Nat.reduceLT, Nat.reduceBEq, Nat.reduceAdd, Nat.reduceSub, Nat.reduceMul, Nat.reduceMod, e11a, e11b, e11c, e13, e21a, e21b, e21c, e23, e15a, e15b, e17, h16]
 refine hK1 _ ?_
 clear hK1 K1
 refine Tr.kp [] ?_
 simp only [pk_cons, pk_nil, ↓A_cons, ↓reduceIte, Nat.reduceEqDiff]
 refine Tr.seqK fun K2 hK2 => ?_
 refine Tr.rg hcx [1000021] _ [] rfl rfl rfl ?_
 simp -implicitDefEqProofs (maxSteps := 2000000) (disch := first | omega | (simp only [go_sem, List.length_append, List.length_drop, List.length_take] <;> omega) | decide) only [go_sem, ↓reduceIte, Nat.reduceEqDiff, reduceCtorEq, Nat.reduceLT, Nat.reduceBEq, Nat.reduceAdd, Nat.reduceSub, Nat.reduceMul, Nat.reduceMod, e11a, e11b, e11c, e13, e21a, e21b, e21c, e23, e15a, e15b, e17, h16]
 refine hK2 _ ?_
 clear hK2 K2
 refine Tr.kp [1] ?_
 simp only [pk_cons, pk_nil, ↓A_cons, ↓reduceIte, Nat.reduceEqDiff]
 refine Tr.seqK fun K3 hK3 => ?_
 refine Tr.rg hcx [1000026] _ [none] rfl rfl rfl ?_
 simp -implicitDefEqProofs (maxSteps := 2000000) (disch := first | omega | (simp only [go_sem, List.length_append, List.length_drop, List.length_take] <;> omega) | decide) only [go_sem, ↓reduceIte, Nat.reduceEqDiff, reduceCtorEq, Nat.reduceLT, Nat.reduceBEq, Nat.reduceAdd, Nat.reduceSub, Nat.reduceMul, Nat.reduceMod, e11a, e11b, e11c, e13, e21a, e21b, e21c, e23, e15a, e15b, e17, h16]
 refine hK3 _ ?_
 clear hK3 K3
 refine Tr.kp [1, 2, 3] ?_
 simp only [pk_cons, pk_nil, ↓A_cons, ↓reduceIte, Nat.reduceEqDiff]
 refine Tr.seqK fun K4 hK4 => ?_
 refine Tr.rg hcx [1000030, 1000031] _ [] rfl rfl rfl ?_
 simp -implicitDefEqProofs (maxSteps := 2000000) (disch := first | omega | (simp only [go_sem, List.length_append, List.length_drop, List.length_take] <;> omega) | decide) only [go_sem, ↓reduceIte, Nat.reduceEqDiff, reduceCtorEq, Nat.reduceLT, Nat.reduceBEq, Nat.reduceAdd, Nat.reduceSub, Nat.reduceMul, Nat.reduceMod, e11a, e11b, e11c, e13, e21a, e21b, e21c, e23, e15a, e15b, e17, h16]
 refine hK4 _ ?_
 clear hK4 K4
 refine Tr.kp [1, 2, 3, 4, 5] ?_
 simp only [pk_cons, pk_nil, ↓A_cons, ↓reduceIte, Nat.reduceEqDiff]
 refine Tr.seqK fun K5 hK5 => ?_
 refine Tr.rg hcx [1000036, 1000037, 1000038] _ [] rfl rfl rfl ?_
 simp -implicitDefEqProofs (maxSteps := 2000000) (disch := first | omega | (simp only [go_sem, List.length_append, List.length_drop, List.length_take] <;> omega) | decide) only [go_sem, ↓reduceIte, Nat.reduceEqDiff, reduceCtorEq, Nat.reduceLT, Nat.reduceBEq, Nat.reduceAdd, Nat.reduceSub, Nat.reduceMul, Nat.reduceMod, e11a, e11b, e11c, e13, e21a, e21b, e21c, e23, e15a, e15b, e17, h16]
 refine hK5 _ ?_
 clear hK5 K5
 refine Tr.kp [1, 2, 3, 4, 5, 6, 7, 8] ?_
 simp only [pk_cons, pk_nil, ↓A_cons, ↓reduceIte, Nat.reduceEqDiff]
 refine Tr.seqK fun K6 hK6 => ?_
 refine Tr.rg hcx [1000043, 1000044, 1000045] _ [] rfl rfl rfl ?_
 simp -implicitDefEqProofs (maxSteps := 2000000) (disch := first | omega | (simp only [go_sem, List.length_append, List.length_drop, List.length_take] <;> omega) | decide) only [go_sem, ↓reduceIte, Nat.reduceEqDiff, reduceCtorEq, Nat.reduceLT, Nat.reduceBEq, Nat.reduceAdd, Nat.reduceSub, Nat.reduceMul, Nat.reduceMod, e11a, e11b, e11c, e13, e21a, e21b, e21c, e23, e15a, e15b, e17, h16]
 refine hK6 _ ?_
 clear hK6 K6
 refine Tr.kp [1, 2, 3, 4, 5, 6, 7, 8, 11] ?_
 simp only [pk_cons, pk_nil, ↓A_cons, ↓reduceIte, Nat.reduceEqDiff]
 refine Tr.seqK fun K7 hK7 => ?_
 refine Tr.rg hcx [1000050, 1000051, 1000052] _ [] rfl rfl rfl ?_
 simp -implicitDefEqProofs (maxSteps := 2000000) (disch := first | omega | (simp only [go_sem, List.length_append, List.length_drop, List.length_take] <;> omega) | decide) only [go_sem, ↓reduceIte, Nat.reduceEqDiff, reduceCtorEq, Nat.reduceLT, Nat.reduceBEq, Nat.reduceAdd, Nat.reduceSub, Nat.reduceMul, Nat.reduceMod, e11a, e11b, e11c, e13, e21a, e21b, e21c, e23, e15a, e15b, e17, h16]
 refine hK7 _ ?_
 clear hK7 K7
 refine Tr.kp [1, 2, 3, 4, 5, 6, 7, 8, 11, 14] ?_
 simp only [pk_cons, pk_nil, ↓A_cons, ↓reduceIte, Nat.reduceEqDiff]
 refine Tr.seqK fun K8 hK8 => ?_
 refine Tr.rg hcx [1000057] _ [none] rfl rfl rfl ?_
 simp -implicitDefEqProofs (maxSteps := 2000000) (disch := first | omega | (simp only [go_sem, List.length_append, List.length_drop, List.length_take] <;> omega) | decide) only [go_sem, ↓reduceIte, Nat.reduceEqDiff, reduceCtorEq, Nat.reduceLT, Nat.reduceBEq, Nat.reduceAdd, Nat.reduceSub, Nat.reduceMul, Nat.reduceMod, e11a, e11b, e11c, e13, e21a, e21b, e21c, e23, e15a, e15b, e17, h16]
 refine hK8 _ ?_
 clear hK8 K8
 refine Tr.kp [1, 2, 3, 4, 5, 6, 7, 8, 11, 14, 16] ?_
 simp only [pk_cons, pk_nil, ↓A_cons, ↓reduceIte, Nat.reduceEqDiff]
 refine Tr.seqK fun K9 hK9 => ?_
 refine Tr.rg hcx [1000061] _ [none] rfl rfl rfl ?_
 simp -implicitDefEqProofs (maxSteps := 2000000) (disch := first | omega | (simp only [go_sem, List.length_append, List.length_drop, List.length_take] <;> omega) | decide) only [go_sem, ↓reduceIte, Nat.reduceEqDiff, reduceCtorEq, Nat.reduceLT, Nat.reduceBEq, Nat.reduceAdd, Nat.reduceSub, Nat.reduceMul, Nat.reduceMod, e11a, e11b, e11c, e13, e21a, e21b, e21c, e23, e15a, e15b, e17, h16]
 refine hK9 _ ?_
 clear hK9 K9
 refine Tr.kp [1, 2, 3, 4, 5, 6, 7, 8, 11, 14, 16, 17, 18] ?_
 simp only [pk_cons, pk_nil, ↓A_cons, ↓reduceIte, Nat.reduceEqDiff]
 refine Tr.seqK fun K10 hK10 => ?_
 refine Tr.rg hcx [] _ [none] rfl rfl rfl ?_
 simp -implicitDefEqProofs (maxSteps := 2000000) (disch := first | omega | (simp only [go_sem, List.length_append, List.length_drop, List.length_take] <;> omega) | decide) only [go_sem, ↓reduceIte, Nat.reduceEqDiff, reduceCtorEq, Nat.reduceLT, Nat.reduceBEq, Nat.reduceAdd, Nat.reduceSub, Nat.reduceMul, Nat.reduceMod, e11a, e11b, e11c, e13, e21a, e21b, e21c, e23, e15a, e15b, e17, h16]
 refine hK10 _ ?_
 clear hK10 K10
 refine Tr.kp [1, 2, 3, 4, 5, 6, 7, 8, 11, 14, 16, 17, 18, 19] ?_
 simp only [pk_cons, pk_nil, ↓A_cons, ↓reduceIte, Nat.reduceEqDiff]
 refine Tr.seqK fun K11 hK11 => ?_
 refine Tr.rg hcx [1000091] [some 66, some 67, some 68, some 69, some 70, some 71, some 72, some 73, some 74, some 75, some 76, some 77, some 78, some 79, some 80, some 81, some 82, some 83, some 84, some 85, some 86, some 87, some 88, some 89, some 90, some 91, some 20] [] rfl rfl rfl ?_
 simp -implicitDefEqProofs (maxSteps := 2000000) (disch := first | omega | (simp only [go_sem, List.length_append, List.length_drop, List.length_take] <;> omega) | decide) only [go_sem, ↓reduceIte, Nat.reduceEqDiff, reduceCtorEq, Nat.reduceLT, Nat.reduceBEq, Nat.reduceAdd, Nat.reduceSub, Nat.reduceMul, Nat.reduceMod, e11a, e11b, e11c, e13, e21a, e21b, e21c, e23, e15a, e15b, e17, h16]
 refine hK11 _ ?_
 clear hK11 K11
 refine Tr.kp [1, 2, 4, 6, 7, 17, 19, 20] ?_
 simp only [pk_cons, pk_nil, ↓A_cons, ↓reduceIte, Nat.reduceEqDiff]
 refine Tr.seqK fun K12 hK12 => ?_
 refine Tr.bxc 3 0 (sl iC .no lvE) [sl iC .full lvE, sl iC .full lvF, sl iC .full lvG] rfl rfl (CLe.full _ _ _) rfl ?_
 refine Tr.bxc 3 1 (sl iC .no lvF) [sl iC .no lvE, sl iC .full lvF, sl iC .full lvG] rfl rfl (CLe.full _ _ _) rfl ?_
 refine Tr.bxc 3 2 (sl iC .no lvG) [sl iC .no lvE, sl iC .no lvF, sl iC .full lvG] rfl rfl (CLe.full _ _ _) rfl ?_
 simp only [List.set_cons_succ, List.set_cons_zero]
 refine Tr.rgD hcx hMO [1000125] [some 92, some 93, some 94, some 95, some 96, some 97, some 98, some 99, some 100, some 101, some 102, some 103, some 104, some 105, some 106, some 107, some 108, some 109, some 110, some 111, some 112, some 113, some 114, some 115, some 116, some 117, some 118, some 119, some 120, some 121, some 122, some 123, some 124, some 125, some 0] [] rfl rfl rfl rfl ?_
 simp -implicitDefEqProofs (maxSteps := 2000000) (disch := first | omega | (simp only [go_sem, List.length_append, List.length_drop, List.length_take] <;> omega) | decide) only [go_sem, ↓reduceIte, Nat.reduceEqDiff, reduceCtorEq, Nat.reduceLT, Nat.reduceBEq, Nat.reduceAdd, Nat.reduceSub, Nat.reduceMul, Nat.reduceMod, e11a, e11b, e11c, e13, e21a, e21b, e21c, e23, e15a, e15b, e17, h16]
 with_reducible refine And.intro ?_ ?_
 · exact rfl
 refine hK12 _ ?_
 clear hK12 K12
 refine Tr.kp [0] ?_
 simp only [pk_cons, pk_nil, ↓A_cons, ↓reduceIte, Nat.reduceEqDiff]
 refine Tr.ret ?_
 simp -implicitDefEqProofs (disch := first | omega | (simp only [go_sem, List.length_append, List.length_drop, List.length_take] <;> omega) | decide) only [go_sem, ↓reduceIte, Nat.reduceEqDiff, reduceCtorEq]
 all_goals (rfl)
end Go.Sx
namespace Go.Sx
/-- A list of at most so many numbers of sixty-four bits. -/
def LN (l : List Int) (n : Nat) : Prop := l.length ≤ n ∧ ∀ x ∈ l, -9223372036854775808 ≤ x ∧ x ≤ 9223372036854775807
theorem LN.li {l : List Int} {n : Nat} (h : LN l n) (hn : n ≤ 9223372036854775807) : LI l := LI_of (by have := h.1; omega) h.2
theorem LN.nil (n : Nat) : LN [] n := ⟨Nat.zero_le _, fun x h => by simp at h⟩
theorem LN_gt {l : List Int} {n : Nat} (h : l.length ≤ n) (hb : ∀ i, i < l.length → -9223372036854775808 ≤ gt l i ∧ gt l i ≤ 9223372036854775807) : LN l n := ⟨h, fun x hx => by
  obtain ⟨i, hi, e⟩ := List.getElem_of_mem hx
  have := hb i hi
  rw [show gt l i = x from by rw [← e]; simp [gt, List.getD, List.getElem?_eq_getElem hi]] at this
  exact this⟩
theorem chn_ok {l : List Int} {b w : Int} (h : ∀ k, k < l.length → k < nxt l b w k ∧ nxt l b w k ≤ l.length) : ∀ (f k : Nat), (chn l b w f k).length ≤ f ∧ ∀ x ∈ chn l b w f k, 0 ≤ x ∧ x ≤ (l.length : Int)
  | 0, k => ⟨Nat.le_refl _, fun x hx => by simp [chn] at hx⟩
  | f + 1, k => by
    have ih := chn_ok h f (nxt l b w k)
    simp only [chn]
    split
    · rename_i hk
      have := h k hk
      refine ⟨by simp only [List.length_cons]; omega, fun x hx => ?_⟩
      rcases List.mem_cons.1 hx with rfl | hx
      · omega
      · exact ih.2 x hx
    · exact ⟨by simp, fun x hx => by simp at hx⟩
theorem fill_ok (l : List Int) (b w : Int) : LN (fillT l b w).1 257 ∧ LN (fillT l b w).2.1 257 ∧ LN (fillT l b w).2.2.1 257 := by
  by_cases hE : errE l b w = 0
  · have hF := errE_0.1 hE
    have h1 := hF.1
    by_cases hw : wideW l w = true
    · rw [fill_w hE hw]; exact ⟨LN.nil _, LN.nil _, LN.nil _⟩
    · replace hw : wideW l w = false := by simpa using hw
      have hA := wideW_n hw
      rw [fill_0 hE hA]
      have hn := fun k (hk : k < l.length) => nxt_in (b := b) (w := w) hk ⟨fit_pos hk (hA k hk), fit_le l b w k⟩
      have hc := chn_ok hn (l.length - 0) 0
      have hd := dp_len l b w l.length
      have hb := dp_bc hF l.length (Nat.le_refl _) (fun q h1 h2 => hA q h2)
      show LN (endF l b w) 257 ∧ LN (dp l b w l.length).1 257 ∧ LN (dp l b w l.length).2 257
      refine ⟨⟨by unfold endF; omega, fun x hx => by have := hc.2 x hx; omega⟩, LN_gt (by omega) fun i hi => ?_, LN_gt (by omega) fun i hi => ?_⟩ <;>
      · have := hb i (by omega)
        omega
  · rw [fill_e hE]; exact ⟨LN.nil _, LN.nil _, LN.nil _⟩
end Go.Sx
namespace Go.Sx
open Go.RowKit Go.Proofs
end Go.Sx
namespace Go.Sx
open Go.RowKit Go.Proofs
def res37 (l : List Int) (b w : Int) : C := if errE l b w = 0 then .tup [.agg [sl iC .no (sumsL l b l.length), .val (.int .i64 b), .val (.int .i64 w)], .val (nI 0)] else .tup [.agg [.val (.slice none 0 0), .val (nI 0), .val (nI 0)], .val (nI (errE l b w))]
theorem fc37c {gl : Nat → C} {M : Nat} {pu : Nat → List C → Option C} (hcx : CxOK (cxP gl M pu)) (h53 : ∀ n : Int, -9223372036854775808 ≤ n ∧ n ≤ 9223372036854775807 → pu 53 [.val (.int .i64 n)] = some (.val (.bool (proI n)))) (l : List Int) (b w : Int) (hl : LI l) (hb : -9223372036854775808 ≤ b ∧ b ≤ 9223372036854775807) (hw : -9223372036854775808 ≤ w ∧ w ≤ 9223372036854775807) :
    FC Try.prog gl 37 [sl iC .no l, .val (.int .i64 b), .val (.int .i64 w)] [] (res37 l b w) [] := by
  unfold res37
  by_cases hE : errE l b w = 0
  · rw [if_pos hE]; exact fc37 hcx h53 l b w hl hb hw (errE_0.1 hE)
  · rw [if_neg hE]; exact fc37e hcx h53 l b w hl hb hw hE
def yF (z : Bool) (y1 y2 y3 : List Int) : C := if z = true then .agg [.val (.slice none 0 0), sl iC .full y2, sl iC .full y3] else .agg [sl iC .no y1, sl iC .no y2, sl iC .no y3]
theorem noRef_yF (n : Nat) (z : Bool) (y1 y2 y3 : List Int) : noRef n (yF z y1 y2 y3) = true := by
  unfold yF; split <;> simp only [noRef_agg, noRefs_cons, noRefs_nil, noRef_sl, noRef_val, Bool.true_and, Bool.and_true]
theorem yF_inj {z z' : Bool} {y1 y2 y3 y1' y2' y3' : List Int} (h : yF z y1 y2 y3 = yF z' y1' y2' y3') (h1 : z = true → y1 = []) (h2 : z' = true → y1' = []) : y1 = y1' ∧ y2 = y2' ∧ y3 = y3' := by
  unfold yF at h
  cases z <;> cases z' <;> simp only [if_true, if_false, reduceCtorEq, Bool.false_eq_true, C.agg.injEq, List.cons.injEq, and_true] at h
  · exact ⟨sl_inj.1 h.1, sl_inj.1 h.2.1, sl_inj.1 h.2.2⟩
  · exact absurd h.1 (by simp [sl])
  · exact absurd h.1 (by simp [sl])
  · exact ⟨(h1 rfl).trans (h2 rfl).symm, sl_inj.1 h.2.1, sl_inj.1 h.2.2⟩
theorem fc15z {gl : Nat → C} {M : Nat} {pu : Nat → List C → Option C} (hcx : CxOK (cxP gl M pu)) (h17 : ∀ x y : List Int, x.length < 9223372036854775807 → pu 17 [sl iC .no x, sl iC .no y] = some (.val (.bool (decide (x = y))))) (z : Bool) (x1 x2 x3 y1 y2 y3 : List Int) (hz : z = true → y1 = []) (hx1 : x1.length < 9223372036854775807) (hx2 : x2.length < 9223372036854775807) (hx3 : x3.length < 9223372036854775807) :
    FC Try.prog gl 15 [.agg [sl iC .no x1, sl iC .no x2, sl iC .no x3], yF z y1 y2 y3] [] (.val (.bool (decide ((x1, x2, x3) = (y1, y2, y3))))) [] := by
  unfold yF
  cases z with
  | true => rw [if_pos rfl, hz rfl]; exact fc15f hcx h17 x1 x2 x3 y2 y3 hx1 hx2 hx3
  | false => rw [if_neg (by simp)]; exact fc15 hcx h17 x1 x2 x3 y1 y2 y3 hx1 hx2 hx3
end Go.Sx
namespace Go.Sx
open Go.RowKit Go.Proofs
theorem apFP_some (cs : List C) (h : Hp) : apFP (some cs) h = (5, h.length) := rfl
attribute [go_sem] apFP_some
section
variable {cx : Cx} {apps : List Nat} {dsts : List (Option Nat)} {l : List Oper} {id' : Nat} {d : Option Nat} {e : List (Nat × C)} {h : Hp} {fs : List FP} {K : List FP → St → Prop}
end
end Go.Sx
namespace Go.Sx
open Go.RowKit Go.Proofs
end Go.Sx
namespace Go.Sx
open Go.RowKit Go.Proofs
abbrev Cr := List Int × List Int × List Int
def cC (t : Cr) : List C := [sl iC .no t.1, sl iC .no t.2.1, sl iC .no t.2.2]
instance : Cel cC 3 := ⟨fun _ => rfl, fun _ => rfl, by decide, fun _ _ => rfl⟩
end Go.Sx
namespace Go.Sx
/-- Which pair comes first. -/
def lx (a1 a2 b1 b2 : Int) : Prop := a1 < b1 ∨ a1 = b1 ∧ a2 < b2
theorem befI_T {a1 a2 b1 b2 : Int} : befI a1 a2 b1 b2 = true ↔ lx a1 a2 b1 b2 := by unfold befI lx; exact decide_eq_true_iff
theorem befI_F {a1 a2 b1 b2 : Int} : befI a1 a2 b1 b2 = false ↔ ¬ lx a1 a2 b1 b2 := by unfold befI lx; exact decide_eq_false_iff_not
/-- What a problem says of a division: which lines fit, and what they cost. -/
structure Prb where
  n : Nat
  fe : Nat → Nat → Prop
  pr : Nat → Nat → Int
/-- The numbers that say the best. -/
structure Opt (p : Prb) (L K : Nat → Int) (N : Nat → Nat) : Prop where
  endL : L p.n = 0
  endK : K p.n = 0
  inN : ∀ k, k < p.n → k < N k ∧ N k ≤ p.n ∧ p.fe k (N k)
  valL : ∀ k, k < p.n → L k = L (N k) + 1
  valK : ∀ k, k < p.n → K k = K (N k) + p.pr k (N k)
  min : ∀ k j, k < j → j ≤ p.n → p.fe k j → ¬ lx (L j + 1) (K j + p.pr k j) (L k) (K k)
  fst : ∀ k j, k < j → j < N k → k < p.n → p.fe k j → lx (L k) (K k) (L j + 1) (K j + p.pr k j)
/-- Divisions of the words from one on. -/
def Dv (p : Prb) : Nat → List Int → Prop
  | k, [] => k = p.n
  | k, x :: e => ∃ j : Nat, x = (j : Int) ∧ k < j ∧ j ≤ p.n ∧ p.fe k j ∧ Dv p j e
def sm (p : Prb) : Nat → List Int → Int
  | _, [] => 0
  | k, x :: e => p.pr k x.toNat + sm p x.toNat e
theorem sm_cons (p : Prb) (k j : Nat) (e : List Int) : sm p k ((j : Int) :: e) = p.pr k j + sm p j e := rfl
/-- The best ends. -/
def chN (N : Nat → Nat) (n : Nat) : Nat → Nat → List Int
  | 0, _ => []
  | f + 1, k => if k < n then ((N k : Nat) : Int) :: chN N n f (N k) else []
section
variable {p : Prb} {L K : Nat → Int} {N : Nat → Nat} (O : Opt p L K N)
include O
theorem chN_ok : ∀ (f k : Nat), p.n - k ≤ f → k ≤ p.n → Dv p k (chN N p.n f k) ∧ ((chN N p.n f k).length : Int) = L k ∧ sm p k (chN N p.n f k) = K k
  | 0, k, h1, h2 => by
    have : k = p.n := by omega
    subst this
    exact ⟨rfl, O.endL.symm, O.endK.symm⟩
  | f + 1, k, h1, h2 => by
    unfold chN
    split
    · rename_i hk
      obtain ⟨g1, g2, g3⟩ := O.inN k hk
      obtain ⟨i1, i2, i3⟩ := chN_ok f (N k) (by omega) g2
      refine ⟨⟨N k, rfl, g1, g2, g3, i1⟩, ?_, ?_⟩
      · rw [List.length_cons, O.valL k hk, ← i2]; omega
      · rw [sm_cons, i3, O.valK k hk]; omega
    · have : k = p.n := by omega
      subst this
      exact ⟨rfl, O.endL.symm, O.endK.symm⟩
end
end Go.Sx
