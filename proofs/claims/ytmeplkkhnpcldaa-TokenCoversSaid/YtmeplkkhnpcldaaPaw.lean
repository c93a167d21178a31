/-
  Package token: parts, valid texts, cuts and joins, in plain terms.
-/
import Derived.Test.YtmeplkkhnpcldaaPav
set_option linter.unusedSimpArgs false
set_option linter.unusedVariables false
namespace Go.Sx
theorem preE_S (at' : Nat) (l : List Tok) (k : Nat) : preE at' l (k + 1) = (gt l k).e := by unfold preE; rw [if_neg (by omega)]; rfl
theorem part_one (s : List UInt8) (k : Nat) (h : k < (toks s).length) : part s (k : Nat) ((k + 1 : Nat) : Int) = (s.drop (gt (toks s) k).a).take ((gt (toks s) k).e - (gt (toks s) k).a) := by
  unfold part
  rw [if_neg (by omega)]
  unfold partT
  simp only [Int.toNat_natCast, Nat.add_sub_cancel]
theorem not_bad {s : List UInt8} (h : ¬ bad s = true) (i : Nat) (hi : i < s.length) : badAt s i = false := by
  cases hb : badAt s i with
  | false => rfl
  | true => exact absurd (List.any_eq_true.2 ⟨i, List.mem_range.2 hi, hb⟩) h
theorem valid_facts {s : List UInt8} (h : validE s = 0) : s.length ≤ 4096 ∧ ¬ bad s = true ∧ 0 < s.length ∧ (toks s).length ≤ 256 := by
  unfold validE at h
  split at h
  · cases h
  · rename_i h1
    split at h
    · cases h
    · rename_i h2
      split at h
      · cases h
      · rename_i h3
        split at h
        · cases h
        · rename_i h4
          exact ⟨by omega, h2, List.length_pos_iff.2 h3, by omega⟩
theorem first_ne {s : List UInt8} (h : validE s = 0) : gt s 0 ≠ 32 := fun e => by
  obtain ⟨_, h2, h3, _⟩ := valid_facts h
  have := not_bad h2 0 h3
  unfold badAt at this
  rw [e] at this
  simp at this
theorem last_ne {s : List UInt8} (h : validE s = 0) : gt s (s.length - 1) ≠ 32 := fun e => by
  obtain ⟨_, h2, h3, _⟩ := valid_facts h
  have := not_bad h2 (s.length - 1) (by omega)
  unfold badAt at this
  rw [e] at this
  have e2 : s.length - 1 + 1 = s.length := by omega
  simp [e2] at this
theorem toks_pos {s : List UInt8} (h : validE s = 0) : 0 < (toks s).length := by
  rcases Nat.eq_zero_or_pos (toks s).length with h0 | h0
  · exfalso
    have := (toks_cov s).tail 0 (by rw [h0]; exact Nat.le_refl _) (valid_facts h).2.2.1
    exact first_ne h this
  · exact h0
theorem tok_first {s : List UInt8} (h : validE s = 0) : (gt (toks s) 0).a = 0 := by
  rcases Nat.eq_zero_or_pos (gt (toks s) 0).a with h0 | h0
  · exact h0
  · exfalso
    exact first_ne h ((toks_at s 0 (toks_pos h)).2.1 0 (Nat.zero_le _) h0)
theorem tok_last {s : List UInt8} (h : validE s = 0) : (gt (toks s) ((toks s).length - 1)).e = s.length := by
  have hp := toks_pos h
  have h1 := (toks_at s ((toks s).length - 1) (by omega)).1.2.2.1
  rcases Nat.lt_or_eq_of_le h1 with h0 | h0
  · exfalso
    refine last_ne h ((toks_cov s).tail (s.length - 1) ?_ (by omega))
    obtain ⟨m, hm⟩ : ∃ m, (toks s).length = m + 1 := ⟨(toks s).length - 1, by omega⟩
    rw [hm, preE_S]
    rw [hm, Nat.add_sub_cancel] at h0
    omega
  · exact h0
theorem part_all {s : List UInt8} (h : validE s = 0) : part s ((0 : Nat) : Int) ((toks s).length : Int) = s := by
  have hp := toks_pos h
  unfold part
  rw [if_neg (by omega)]
  unfold partT
  simp only [Int.toNat_natCast]
  rw [tok_first h, tok_last h, List.drop_zero, Nat.sub_zero, List.take_length]
end Go.Sx
