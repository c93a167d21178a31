/-
   And what follows.
-/
import Derived.Test.YtmoaeemdlompaaaDoorPap
import Derived.Test.YtmoaeemdlompaaaDoorPaw
import Derived.Test.YtmoaeemdlompaaaDoorPau
import Derived.Test.YtmoaeemdlompaaaDoorPat
import Derived.Test.YtmoaeemdlompaaaDoorPav
set_option linter.unusedSimpArgs false
set_option linter.unusedVariables false
namespace Go.Sx
theorem lt_le (m : Nat) : m < 256 ^ (le m).length := by
  induction m using Nat.strongRecOn with
  | _ m ih =>
    by_cases h : m = 0
    · subst h; rw [le_zero]; decide
    · have := ih (m / 256) (Nat.div_lt_self (by omega) (by decide))
      rw [le_pos m h, List.length_cons, Nat.pow_succ]
      omega
theorem acc_be (f : UInt8) : ∀ (k m : Nat), m < 256 ^ k → accF f ((be m k).map (· ^^^ f)) = m
  | 0, m, h => by
    have : m = 0 := by simpa using h
    subst this; rfl
  | k + 1, m, h => by
    have e : m = m / 256 * 256 + m % 256 := by omega
    have h2 : m / 256 < 256 ^ k := by rw [Nat.pow_succ] at h; exact Nat.div_lt_of_lt_mul (by omega)
    have h3 : m % 256 < 256 := Nat.mod_lt _ (by decide)
    conv => lhs; rw [e]
    rw [be_snoc _ _ _ h3, List.map_append, List.map_cons, List.map_nil, accF_snoc, acc_be f k _ h2, UInt8.xor_assoc, UInt8.xor_self, UInt8.xor_zero]
    have : (UInt8.ofNat (m % 256)).toNat = m % 256 := by show (m % 256) % 256 = m % 256; omega
    omega
theorem flip_wI (f : UInt8) (hf : f = 0 ∨ f = 255) (L : Nat) (h : L ≤ 8) : flipOf (UInt8.ofNat (128 + L) ^^^ f) = f := by
  have : ∀ L < 9, flipOf (UInt8.ofNat (128 + L) ^^^ 0) = 0 ∧ flipOf (UInt8.ofNat (128 + L) ^^^ 255) = 255 := by decide
  rcases hf with rfl | rfl
  · exact (this L (by omega)).1
  · exact (this L (by omega)).2
theorem getI_wI (m : Nat) (f : UInt8) (hf : f = 0 ∨ f = 255) (hm : m < 9223372036854775808) (t : List UInt8) : getI (wI m f ++ t) = (if f = 255 then -1 - (m : Int) else (m : Int), (le m).length + 1, 0) := by
  have hL : (le m).length ≤ 8 := le_len 8 m (by omega)
  have hfl := flip_wI f hf _ hL
  have hk : kOf (UInt8.ofNat (128 + (le m).length) ^^^ f) = (le m).length := by
    unfold kOf
    rw [hfl, UInt8.xor_assoc, UInt8.xor_self, UInt8.xor_zero]
    show (128 + (le m).length) % 256 - 128 = _
    omega
  have hbl : ((be m (le m).length).map (· ^^^ f)).length = (le m).length := by rw [List.length_map, be_len]
  have htk : ((be m (le m).length).map (· ^^^ f) ++ t).take (le m).length = (be m (le m).length).map (· ^^^ f) := by
    rw [List.take_append_of_le_length (by omega), List.take_of_length_le (by omega)]
  have hac : accF (flipOf (UInt8.ofNat (128 + (le m).length) ^^^ f)) (((be m (le m).length).map (· ^^^ f) ++ t).take (le m).length) = m := by
    rw [hfl, htk]; exact acc_be f _ m (lt_le m)
  have hrl : (le m).length ≤ ((be m (le m).length).map (· ^^^ f) ++ t).length := by rw [List.length_append]; omega
  have h3 := (canon hk hL hrl).1 (by rw [hac, htk, hfl]; rfl)
  have h128 := x128 (UInt8.ofNat (128 + (le m).length) ^^^ f)
  show getI ((UInt8.ofNat (128 + (le m).length) ^^^ f) :: ((be m (le m).length).map (· ^^^ f) ++ t)) = _
  rcases hf with rfl | rfl
  · have hx : ¬ (UInt8.ofNat (128 + (le m).length) ^^^ 0 : UInt8) < 128 := by
      intro hx
      have := hfl
      unfold flipOf at this
      rw [if_pos hx] at this
      exact absurd this (by decide)
    rw [getI_6 hk (by omega) (by rw [List.length_cons]; omega) h3 (by rw [hac]; omega) hx, hac]
    rfl
  · have hx : (UInt8.ofNat (128 + (le m).length) ^^^ 255 : UInt8) < 128 := by
      apply Classical.byContradiction
      intro hx
      have := hfl
      unfold flipOf at this
      rw [if_neg hx] at this
      exact absurd this (by decide)
    rw [getI_5 hk (by omega) (by rw [List.length_cons]; omega) h3 (by rw [hac]; omega) hx, hac]
    rfl
theorem wI_len (m : Nat) (f : UInt8) : (wI m f).length = (le m).length + 1 := by unfold wI; rw [List.length_cons, List.length_map, be_len]
theorem getI_wint (n : Int) (hn : -9223372036854775808 ≤ n ∧ n ≤ 9223372036854775807) (t : List UInt8) : getI (wint n ++ t) = (n, (wint n).length, 0) := by
  rcases Int.lt_or_le n 0 with h | h
  · obtain ⟨m, hm⟩ : ∃ m : Nat, n = -1 - (m : Int) := ⟨(-1 - n).toNat, by omega⟩
    subst hm
    have hL : (le m).length ≤ 8 := le_len 8 m (by omega)
    rw [wint_neg m hL, getI_wI m 255 (.inr rfl) (by omega), wI_len, if_pos rfl]
  · obtain ⟨m, hm⟩ : ∃ m : Nat, n = (m : Int) := ⟨n.toNat, by omega⟩
    subst hm
    rw [wint_pos, getI_wI m 0 (.inl rfl) (by omega), wI_len, if_neg (by decide)]
end Go.Sx
namespace Go.Sx
open Go.RowKit Go.Proofs
def Clash (s t : List UInt8) : Prop := ¬ s = t ∧ (h16 s).1 = (h16 t).1
theorem ColT_of {TS : List (List UInt8)} {s t : List UInt8} (hs : s ∈ TS) (ht : t ∈ TS) (h : Clash s t) : ColT TS := by
  obtain ⟨i, hi, rfl⟩ := List.getElem_of_mem hs
  obtain ⟨k, hk, rfl⟩ := List.getElem_of_mem ht
  have g : ∀ (j : Nat) (hj : j < TS.length), gt TS j = TS[j] := fun j hj => by simp only [gt, List.getD]; rw [List.getElem?_eq_getElem hj]; rfl
  have hne : i ≠ k := fun e => by subst e; exact h.1 rfl
  by_cases hlt : k < i
  · refine ⟨i, k, hi, hlt, ?_⟩
    unfold hitT; rw [g i hi, g k hk]; exact h
  · refine ⟨k, i, hk, by omega, ?_⟩
    unfold hitT; rw [g i hi, g k hk]; exact ⟨fun e => h.1 e.symm, h.2.symm⟩
theorem inp_parts {tag : Int} {a b : List (List UInt8)} (ha : ∀ s ∈ a, s.length < 1000000) (hb : ∀ s ∈ b, s.length < 1000000) (h : inp tag a = inp tag b) : a = b := by
  unfold inp at h
  exact parts_inj a b (fun s hs => by have := ha s hs; omega) (fun s hs => by have := hb s hs; omega) (List.cons.inj h).2
theorem ofT_or {tag : Int} {a b : List (List UInt8)} (ha : ∀ s ∈ a, s.length < 1000000) (hb : ∀ s ∈ b, s.length < 1000000) (h : ofT tag a = ofT tag b) : a = b ∨ Clash (inp tag a) (inp tag b) := by
  by_cases e : inp tag a = inp tag b
  · exact .inl (inp_parts ha hb e)
  · exact .inr ⟨e, h⟩
theorem two_lt {x y : List UInt8} (hx : x.length < 1000000) (hy : y.length < 1000000) : ∀ s ∈ [x, y], s.length < 1000000 := fun s hs => by
  rcases List.mem_cons.1 hs with rfl | hs
  · exact hx
  · rw [List.mem_singleton.1 hs]; exact hy
theorem one_lt {x : List UInt8} (hx : x.length < 1000000) : ∀ s ∈ [x], s.length < 1000000 := fun s hs => by rw [List.mem_singleton.1 hs]; exact hx
def txt (l : List Leaf) : Nat → Nat → Nat → List (List UInt8)
  | 0, a, _ => [inp 3 [(gt l a).1, (gt l a).2]]
  | d + 1, a, b => if b - a ≤ 1 then [inp 3 [(gt l a).1, (gt l a).2]] else txt l d a (a + halfT (b - a)) ++ txt l d (a + halfT (b - a)) b ++ [inp 4 [rowD l d a (a + halfT (b - a)), rowD l d (a + halfT (b - a)) b]]
theorem txt_1 {l : List Leaf} {d a b : Nat} (h : b - a ≤ 1) : txt l d a b = [inp 3 [(gt l a).1, (gt l a).2]] := by cases d <;> simp only [txt, if_pos h]
theorem txt_2 {l : List Leaf} {d a b : Nat} (h : ¬ b - a ≤ 1) : txt l (d + 1) a b = txt l d a (a + halfT (b - a)) ++ txt l d (a + halfT (b - a)) b ++ [inp 4 [rowD l d a (a + halfT (b - a)), rowD l d (a + halfT (b - a)) b]] := by simp only [txt, if_neg h]
theorem row_txt (l : List Leaf) (S : List Dig) : ∀ d a b (st : TS), a < b → b ≤ l.length → b - a ≤ 2 ^ d → (rowR l 0 S d a b st).2.1 = st.1 ++ txt l d a b
  | 0, a, b, st, h1, h2, h3 => by
    have h3' : b - a ≤ 1 := h3
    rw [rowR_l (by omega) h3', txt_1 h3']; rfl
  | d + 1, a, b, st, h1, h2, h3 => by
    by_cases e : b - a ≤ 1
    · rw [rowR_l (by omega) e, txt_1 e]; rfl
    · have hh := half_lt (n := b - a) (by omega)
      have hh2 := half_le (by omega) h3
      rw [rowR_n (by omega) e, txt_2 e]
      simp only [nodR]
      have g1 := row_txt l S d a (a + halfT (b - a)) st (by omega) (by omega) (by omega)
      have g2 := row_txt l S d (a + halfT (b - a)) b (rowR l 0 S d a (a + halfT (b - a)) st).2 (by omega) (by omega) (by omega)
      rw [g2, g1, rowR_D ⟨by omega, by omega, by omega⟩, rowR_D ⟨by omega, by omega, by omega⟩]
      simp only [List.append_assoc]
theorem leaf_lt {l : List Leaf} (h : OkL l) (i : Nat) : (gt l i).1.length < 1000000 ∧ (gt l i).2.length < 1000000 := gt_all h.lz i
theorem rows_or {a b : List Leaf} (ha : OkL a) (hb : OkL b) (hab : a.length = b.length) : ∀ d x y, x < y → y ≤ a.length → y - x ≤ 2 ^ d → rowD a d x y = rowD b d x y →
    (∀ i, x ≤ i → i < y → gt a i = gt b i) ∨ ∃ s ∈ txt a d x y, ∃ t ∈ txt b d x y, Clash s t := by
  intro d
  have leaf : ∀ {d x y}, x < y → y - x ≤ 1 → rowD a d x y = rowD b d x y → (∀ i, x ≤ i → i < y → gt a i = gt b i) ∨ ∃ s ∈ txt a d x y, ∃ t ∈ txt b d x y, Clash s t := by
    intro d x y h1 e h4
    rw [rowD_1 e, rowD_1 e] at h4
    have la := leaf_lt ha x
    have lb := leaf_lt hb x
    rcases ofT_or (two_lt la.1 la.2) (two_lt lb.1 lb.2) h4 with q | q
    · refine .inl fun i hi hi2 => ?_
      obtain rfl : i = x := by omega
      simp only [List.cons.injEq, and_true] at q
      exact Prod.ext q.1 q.2
    · exact .inr ⟨_, by rw [txt_1 e]; exact List.mem_singleton.2 rfl, _, by rw [txt_1 e]; exact List.mem_singleton.2 rfl, q⟩
  induction d with
  | zero => exact fun x y h1 h2 h3 h4 => leaf h1 h3 h4
  | succ d ih =>
    intro x y h1 h2 h3 h4
    by_cases e : y - x ≤ 1
    · exact leaf h1 e h4
    · have hh := half_lt (n := y - x) (by omega)
      have hh2 := half_le (by omega) h3
      rw [rowD_2 e, rowD_2 e] at h4
      have L : ∀ (l : List Leaf) (d a b : Nat), (rowD l d a b).length < 1000000 := fun l d a b => by rw [rowD_len]; omega
      rcases ofT_or (two_lt (L _ _ _ _) (L _ _ _ _)) (two_lt (L _ _ _ _) (L _ _ _ _)) h4 with q | q
      · simp only [List.cons.injEq, and_true] at q
        rcases ih x (x + halfT (y - x)) (by omega) (by omega) (by omega) q.1 with g | ⟨s, hs, t, ht, c⟩
        · rcases ih (x + halfT (y - x)) y (by omega) (by omega) (by omega) q.2 with g' | ⟨s, hs, t, ht, c⟩
          · refine .inl fun i hi hi2 => ?_
            by_cases hx : i < x + halfT (y - x)
            · exact g i hi hx
            · exact g' i (by omega) hi2
          · exact .inr ⟨s, by rw [txt_2 e]; exact List.mem_append_left _ (List.mem_append_right _ hs), t, by rw [txt_2 e]; exact List.mem_append_left _ (List.mem_append_right _ ht), c⟩
        · exact .inr ⟨s, by rw [txt_2 e]; exact List.mem_append_left _ (List.mem_append_left _ hs), t, by rw [txt_2 e]; exact List.mem_append_left _ (List.mem_append_left _ ht), c⟩
      · exact .inr ⟨_, by rw [txt_2 e]; exact List.mem_append_right _ (List.mem_singleton.2 rfl), _, by rw [txt_2 e]; exact List.mem_append_right _ (List.mem_singleton.2 rfl), q⟩
theorem wint_in {n m : Nat} (hn : n ≤ 4096) (hm : m ≤ 4096) (h : wint ((n : Nat) : Int) = wint ((m : Nat) : Int)) : n = m := by
  have h1 := getI_wint ((n : Nat) : Int) (by omega) []
  have h2 := getI_wint ((m : Nat) : Int) (by omega) []
  rw [h] at h1
  have := h1.symm.trans h2
  simp only [Prod.mk.injEq] at this
  omega
def rtp (l : List Leaf) : List (List UInt8) := if l.length = 0 then [wint ((0 : Nat) : Int)] else [wint ((l.length : Nat) : Int), rowD l 12 0 l.length]
theorem rotL_p (l : List Leaf) : rotL l = ofT 4 (rtp l) := by
  unfold rotL rotT rtp digT
  split
  · rfl
  · rfl
theorem rtp_lt {l : List Leaf} (h : l.length ≤ 4096) : ∀ s ∈ rtp l, s.length < 1000000 := by
  unfold rtp
  split
  · exact one_lt (wint_sm 0 (by omega))
  · exact two_lt (wint_sm _ h) (by rw [rowD_len]; omega)
theorem txA_eq {l : List Leaf} (h : l.length ≤ 4096) : txA l = (if l.length = 0 then [] else txt l 12 0 l.length) ++ [inp 4 (rtp l)] := by
  unfold txA rtp
  by_cases e : l.length = 0
  · rw [rooR_0 e, if_pos e, if_pos e, e]
  · rw [rooR_n e, if_neg e, if_neg e, rowR_D ⟨by omega, Nat.le_refl _, h⟩]
    show (rowR l 0 [] 12 0 l.length ([], 0, false)).2.1 ++ _ = _
    rw [row_txt l [] 12 0 l.length _ (by omega) (Nat.le_refl _) h]
    try rfl
theorem txB_all {l : List Leaf} (h : l.length ≤ 4096) : txB ((0 : Nat) : Int) ((l.length : Nat) : Int) l [] = txA l := by
  rw [txB_2 (fun q => by unfold BadC at q; omega)]; rfl
theorem ext_lf {a b : List Leaf} (h : a.length = b.length) (h2 : ∀ i, i < a.length → gt a i = gt b i) : a = b := by
  apply List.ext_getElem h
  intro i h3 h4
  have := h2 i h3
  rwa [gtI h3, gtI h4] at this
where gtI {l : List Leaf} {i : Nat} (h : i < l.length) : gt l i = l[i] := by simp only [gt, List.getD]; rw [List.getElem?_eq_getElem h]; rfl
theorem binds {a b : List Leaf} (ha : OkL a) (hb : OkL b) (h : rotL a = rotL b) (hne : ¬ a = b) : ColT (txA a ++ txA b) := by
  rw [rotL_p, rotL_p] at h
  have ta : inp 4 (rtp a) ∈ txA a := by rw [txA_eq ha.1]; exact List.mem_append_right _ (List.mem_singleton.2 rfl)
  have tb : inp 4 (rtp b) ∈ txA b := by rw [txA_eq hb.1]; exact List.mem_append_right _ (List.mem_singleton.2 rfl)
  rcases ofT_or (rtp_lt ha.1) (rtp_lt hb.1) h with q | q
  · unfold rtp at q
    by_cases ea : a.length = 0
    · by_cases eb : b.length = 0
      · exact (hne (by rw [List.eq_nil_of_length_eq_zero ea, List.eq_nil_of_length_eq_zero eb])).elim
      · rw [if_pos ea, if_neg eb] at q; simp at q
    · by_cases eb : b.length = 0
      · rw [if_neg ea, if_pos eb] at q; simp at q
      · rw [if_neg ea, if_neg eb] at q
        simp only [List.cons.injEq, and_true] at q
        have hn := wint_in ha.1 hb.1 q.1
        have q2 := q.2
        rw [← hn] at q2
        rcases rows_or ha hb hn 12 0 a.length (by omega) (Nat.le_refl _) ha.1 q2 with g | ⟨s, hs, t, ht, c⟩
        · exact (hne (ext_lf hn fun i hi => g i (Nat.zero_le _) hi)).elim
        · refine ColT_of (List.mem_append_left _ ?_) (List.mem_append_right _ ?_) c
          · rw [txA_eq ha.1, if_neg ea]; exact List.mem_append_left _ hs
          · rw [txA_eq hb.1, if_neg eb, ← hn]; exact List.mem_append_left _ ht
  · exact ColT_of (List.mem_append_left _ ta) (List.mem_append_right _ tb) q
end Go.Sx
namespace Go.Sx
open Go.RowKit Go.Proofs
set_option maxRecDepth 100000
set_option maxHeartbeats 8000000
theorem rooT_2 (l : List Leaf) : (rooT l).2 = 0 ↔ valT l = 0 := by
  unfold rooT; split
  · rename_i h; exact ⟨fun _ => h, fun _ => rfl⟩
  · exact Iff.rfl
theorem X_fc8 {p : Prop} (e : p := by intro KZ hZ; simp -implicitDefEqProofs (disch := first | omega | (simp only [go_sem, lA, lD, lT, hLl, hR0] <;> omega) | decide) only [go_sem, ↓reduceIte, Nat.reduceEqDiff, reduceCtorEq, Nat.reduceLT, Nat.reduceBEq, Nat.reduceAdd, eq_self, decide_true, decide_false, not_true_eq_false, not_false_eq_true, h19, e10, e10', e17, e28, e12n, e39, e38, eq23, Bool.true_beq, Bool.false_beq, Bool.not_true, Bool.not_false, b1, b2, c1, c2, hy]; with_reducible exact hZ) : p := e
theorem Y_fc8 {p : Prop} (e : p := by intro KZ hZ; simp -implicitDefEqProofs (disch := first | omega | (simp only [go_sem, lA, lD, lT, hLl, hR0] <;> omega) | decide) only [go_sem, ↓reduceIte, Nat.reduceEqDiff, reduceCtorEq, Nat.reduceLT, Nat.reduceBEq, Nat.reduceAdd, eq_self, decide_true, decide_false, not_true_eq_false, not_false_eq_true, h19, e10, e10', e17, e28, e12n, e39, e38, eq23, Bool.true_beq, Bool.false_beq, Bool.not_true, Bool.not_false, b1, b2, c1, c2, hy]; with_reducible refine And.intro ?_ hZ; first | exact rfl | decide) : p := e
theorem F_fc8 {p : Prop} (e : p := by simp -implicitDefEqProofs (disch := first | omega | (simp only [go_sem, lA, lD, lT, hLl, hR0] <;> omega) | decide) only [go_sem, ↓reduceIte, Nat.reduceEqDiff, reduceCtorEq]; all_goals (rfl)) : p := e
theorem fc8 {gl : Nat → C} {M : Nat} {pu : Nat → List C → Option C}  (hcx : CxOK (cxP gl M pu))  (h10 : ∀ l : List Int, LI l → pu 10 [sl iC .no l] = some (sl eC (.own 2) (lvsT l))) (h12 : ∀ l : List Leaf, LB l → pu 12 [sl eC .no l] = some (.tup [.agg (cl bC (rooT l).1), .val (nI (rooT l).2)])) (h13 : ∀ l : List Leaf, l.length ≤ 1000000 → pu 13 [sl eC .no l] = some (sl eC (.own 2) l)) (h17 : ∀ (n : Int) (m : Nat), -9223372036854775808 ≤ n ∧ n ≤ 9223372036854775807 ∧ 0 < m ∧ m ≤ 9223372036854775807 → pu 17 [.val (.int .i64 n), .val (nI m)] = some (.val (nI (aroundI n m)))) (h19 : pu 19 [] = some (.val (.bool true))) (h28n : ∀ (l : List Leaf) (w y : Int), (-9223372036854775808 ≤ w ∧ w ≤ 9223372036854775807) → (-9223372036854775808 ≤ y ∧ y ≤ 9223372036854775807) → l.length ≤ 1000000 → (∀ i, i < l.length → (gt l i).1.length ≤ 1000000 ∧ (gt l i).2.length ≤ 1000000) → pu 28 [.agg [.val (nI 0), .val (nI 0), sl eC .no l, .val (.slice none 0 0)], .val (.int .i64 w), .val (.int .i64 y)] = some (.agg (pC (bentT (toZ (0, 0, l, [])) w y)))) (h34 : ∀ x y : List Leaf, x.length ≤ 1000000 → y.length ≤ 1000000 → pu 34 [sl eC .no x, sl eC .no y] = some (.val (.bool (decide (x = y))))) (h37 : ∀ (a : List Leaf) (f z : Int) (l : List Leaf) (S : List Dig), LZ a → a.length ≤ 4096 → (-9223372036854775808 ≤ f ∧ f ≤ 9223372036854775807) → (-9223372036854775808 ≤ z ∧ z ≤ 9223372036854775807) → l.length ≤ 1000000 → (∀ i, i < l.length → (gt l i).1.length < 1000000 ∧ (gt l i).2.length < 1000000) → S.length ≤ 1000000 → pu 37 [sl eC .no a, .agg [.val (.int .i64 f), .val (.int .i64 z), sl eC .no l, sl dC .no S]] = some (.val (.bool (colB (txA a ++ txB f z l S))))) (h38 : ∀ (tag : Int) (parts : List (List UInt8)), (inp tag parts).length < 1099511627776 → pu 38 [.val (.int .i64 tag), sl sC .no parts] = some (.agg (cl bC (ofT tag parts)))) (h39 : ∀ n : Int, -9223372036854775808 ≤ n ∧ n ≤ 9223372036854775807 → pu 39 [.val (.int .i64 n)] = some (sl bC (.own 1) (wint n))) (l l' : List Int) (w u : Int) (hl : LI l) (hl' : LI l') (hw : -9223372036854775808 ≤ w ∧ w ≤ 9223372036854775807) (huu : -9223372036854775808 ≤ u ∧ u ≤ 9223372036854775807) : FC Tryd.prog gl 8 [sl iC .no l, sl iC .no l', .val (.int .i64 w), .val (.int .i64 u)] [] (.val (.bool true)) [] := by
 replace hcx := hcx.reN (M := 118)
 refine FC.ofA (cx := cxP gl 118 pu) (rs := [.tmp 8]) rfl Tryd.func8 rfl rfl rfl (by simp only [List.length_cons, List.length_nil]; decide) (by simp only [go_sem]) ?_
 simp only [ini, go_sem]
 have b1 := True.intro
 have b2 := True.intro
 have c1 := True.intro
 have c2 := True.intro
 have hy := True.intro
 obtain ⟨X, hX⟩ : ∃ X, lvsT l = X := ⟨_, rfl⟩
 obtain ⟨Y, hY⟩ : ∃ Y, lvsT l' = Y := ⟨_, rfl⟩
 have lv := lvs_lb l
 have lv' := lvs_lb l'
 rw [hX] at lv
 rw [hY] at lv'
 have szX : ∀ i, i < X.length → (gt X i).1.length ≤ 5000 ∧ (gt X i).2.length ≤ 5000 := fun i hi => by have := lv.2 i hi; omega
 have szY : ∀ i, i < Y.length → (gt Y i).1.length ≤ 5000 ∧ (gt Y i).2.length ≤ 5000 := fun i hi => by have := lv'.2 i hi; omega
 have e10 : pu 10 [sl iC .no l] = some (sl eC (.own 2) X) := (h10 l hl).trans (by rw [hX])
 have e10' : pu 10 [sl iC .no l'] = some (sl eC (.own 2) Y) := (h10 l' hl').trans (by rw [hY])
 have e17 := h17 w 4 ⟨hw.1, hw.2, by omega, by omega⟩
 have hr := around_lt w (m := 4) (by omega)
 obtain ⟨r, hR⟩ : ∃ r, aroundI w 4 = r := ⟨_, rfl⟩
 rw [hR] at e17 hr
 have e28 := h28n X ((4 + r : Nat) : Int) u (by omega) huu (by omega) (fun i hi => by have := szX i hi; omega)
 obtain ⟨O, hO⟩ : ∃ O, bentT (toZ (0, 0, X, [])) ((4 + r : Nat) : Int) u = O := ⟨_, rfl⟩
 have bO : PB 5002 O := by rw [← hO]; exact bent_pb ⟨by show -9223372036854775808 ≤ (0 : Int) ∧ (0 : Int) ≤ 9223372036854775807; omega, by show -9223372036854775808 ≤ (0 : Int) ∧ (0 : Int) ≤ 9223372036854775807; omega, by show X.length ≤ 5000; omega, szX, Nat.zero_le _⟩ huu
 rw [hO] at e28
 replace e28 : pu 28 [.agg [.val (nI 0), .val (nI 0), sl eC .no X, .val (.slice none 0 0)], .val (nI (4 + r)), .val (.int .i64 u)] = some (.agg [.val (.int .i64 O.1), .val (.int .i64 O.2.1), sl eC .no O.2.2.1, sl dC .no O.2.2.2]) := e28
 obtain ⟨LS, hLS⟩ : ∃ LS, [X, Y, O.2.2.1] = LS := ⟨_, rfl⟩
 have hLl : LS.length = 3 := by rw [← hLS]; rfl
 have hLb : ∀ i, i < 3 → (gt LS i).length ≤ 5002 ∧ ∀ j, j < (gt LS i).length → (gt (gt LS i) j).1.length ≤ 5002 ∧ (gt (gt LS i) j).2.length ≤ 5002 := fun i hi => by
   rw [← hLS]
   match i, hi with
   | 0, _ => exact ⟨by show X.length ≤ _; omega, fun j hj => by have := szX j hj; exact ⟨by show (gt X j).1.length ≤ _; omega, by show (gt X j).2.length ≤ _; omega⟩⟩
   | 1, _ => exact ⟨by show Y.length ≤ _; omega, fun j hj => by have := szY j hj; exact ⟨by show (gt Y j).1.length ≤ _; omega, by show (gt Y j).2.length ≤ _; omega⟩⟩
   | 2, _ => exact ⟨bO.2.2.1, bO.2.2.2.1⟩
 have e12n : pu 12 [.sl .no 0 []] = some (.tup [.agg (cl bC (rotL [])), .val (nI 0)]) := (h12 [] LB_nil).trans (by rw [rooT_ok (by rfl)])
 have e39 : pu 39 [.val (nI 0)] = some (sl bC (.own 1) (wint ((0 : Nat) : Int))) := h39 ((0 : Nat) : Int) (by omega)
 have e38 : pu 38 [.val (nI 4), sl sC .no [wint ((0 : Nat) : Int)]] = some (.agg (cl bC (rotL []))) := h38 4 _ (inp_len1 4 _ (wint_sm 0 (by omega)))
 have hR0 := rotL_len []
 obtain ⟨R0, hR0e⟩ : ∃ R0, rotL [] = R0 := ⟨_, rfl⟩
 rw [hR0e] at e12n e38 hR0
 refine Tr.w hcx [] _ [] rfl rfl rfl ?_ X_fc8
 refine Tr.w hcx [1000022] _ [] rfl rfl rfl ?_ X_fc8
 refine Tr.k [1, 2, 3, 9] ?_
 refine Tr.w hcx [] _ [none] rfl rfl rfl ?_ X_fc8
 refine Tr.k [1, 9, 10] ?_
 have hy := @hLS
 refine Tr.wD hcx hMO [1000035] _ [] rfl rfl rfl rfl ?_ Y_fc8
 refine Tr.k [11] ?_
 refine Tr.seqK fun K1 hK1 => ?_
 refine Tr.k [11] ?_
 refine Tr.m1 hcx [] ?_
 simp only [mvC_lsl]
 have hy := True.intro
 refine Tr.w hcx [] _ [] rfl rfl rfl ?_ X_fc8
 refine Tr.k [11, 12] ?_
 refine Tr.blk ?_
 refine Tr.loopM hcx (α := Nat) (fun a => [(11, ?v11_1), (12, .val (nI a))]) (fun a => []) (fun a => a ≤ 3) (fun a => 3 - a) (0) (Nat.zero_le _) ?le_1 ?hh_1 ?bd_1
 case hh_1 => exact rfl
 case le_1 => exact LT
 rintro i hi
 refine Tr.seqK fun K2 hK2 => ?_
 refine Tr.w hcx [] _ [] rfl rfl rfl ?_ X_fc8
 refine Tr.cD rfl (fun hc37 => ?_) (fun hc37 => ?_)
 ·
  refine Tr.skip ?_
  refine hK2 _ ?_
  refine Tr.seqK fun K3 hK3 => ?_
  refine Tr.blk ?_
  refine Tr.w hcx [] _ [] rfl rfl rfl ?_ X_fc8
  refine Tr.k [11, 12, 13] ?_
  refine Tr.blk ?_
  refine Tr.loopM hcx (α := Nat) (fun a => [(11, ?v11_2), (12, ?v12_2), (13, .val (nI a))]) (fun a => []) (fun a => a ≤ i) (fun a => i - a) (0) (Nat.zero_le _) ?le_2 ?hh_2 ?bd_2
  case hh_2 => exact rfl
  case le_2 => exact LT
  rintro j hj
  refine Tr.seqK fun K4 hK4 => ?_
  refine Tr.w hcx [] _ [] rfl rfl rfl ?_ X_fc8
  refine Tr.cD rfl (fun hc42 => ?_) (fun hc42 => ?_)
  ·
   obtain ⟨A, hA⟩ : ∃ A, gt LS i = A := ⟨_, rfl⟩
   obtain ⟨B, hB⟩ : ∃ B, gt LS j = B := ⟨_, rfl⟩
   have bA := hLb i hc37
   have bB := hLb j (by omega)
   rw [hA] at bA
   rw [hB] at bB
   have lbA : LB A := LB.ofSmall ⟨by omega, fun k hk => by have := bA.2 k hk; omega⟩
   have lbB : LB B := LB.ofSmall ⟨by omega, fun k hk => by have := bB.2 k hk; omega⟩
   have e13a := h13 A (by omega)
   have e13b := h13 B (by omega)
   have e12a := h12 A lbA
   have e12b := h12 B lbB
   have e34 := h34 A B (by omega) (by omega)
   have rA : (rooT A).1.length = 16 := by unfold rooT; split; exact rotL_len A; rfl
   have rB : (rooT B).1.length = 16 := by unfold rooT; split; exact rotL_len B; rfl
   refine Tr.skip ?_
   refine hK4 _ ?_
   refine Tr.k [11, 12, 13] ?_
   refine Tr.seqK fun K5 hK5 => ?_
   refine Tr.blk ?_
   have hy := And.intro @hA (And.intro @e13a @e12a)
   refine Tr.w hcx [1000053] _ [none] rfl rfl rfl ?_ X_fc8
   refine Tr.k [11, 12, 13, 14, 15] ?_
   have hy := And.intro @hB (And.intro @e13b @e12b)
   refine Tr.w hcx [1000062] _ [none] rfl rfl rfl ?_ X_fc8
   refine Tr.k [11, 12, 13, 14, 15, 16, 17] ?_
   refine Tr.seqK fun K6 hK6 => ?_
   by_cases b1 : (rooT A).2 = 0
   ·
    by_cases b2 : (rooT B).2 = 0
    ·
     have hy := True.intro
     refine Tr.w hcx [] [some 63, some 64, some 65, some 66, some 67, some 68] [] rfl rfl rfl ?_ X_fc8
     refine Tr.k [11, 12, 13, 14, 16, 68] ?_
     refine Tr.cF rfl ?_
     refine Tr.skip ?_
     refine hK6 _ ?_
     refine Tr.k [11, 12, 13, 14, 16] ?_
     have hy := @hB
     refine Tr.wD hcx hMO [] _ [none] rfl rfl rfl rfl ?_ Y_fc8
     refine Tr.k [11, 12, 13, 14, 16, 18] ?_
     by_cases c1 : A = B
     ·
      refine Tr.bxc 2 3 (sl dC .no []) _ rfl rfl (CLe_sln rfl) rfl ?_
      have vA := (rooT_2 A).1 b1
      have vB := (rooT_2 B).1 b2
      have oA := valT_ok (l := A) (by omega)
      have oB := valT_ok (l := B) (by omega)
      have e37 : pu 37 [sl eC .no A, .agg [.val (nI 0), .val (nI B.length), sl eC .no B, sl dC .no []]] = some (.val (.bool (colB (txA A ++ txA B)))) := (h37 A ((0 : Nat) : Int) ((B.length : Nat) : Int) B [] oA.lz oA.1 (by omega) (by omega) (by omega) (fun k hk => by have := bB.2 k hk; omega) (by simp)).trans (by rw [txB_all oB.1])
      have cc : (rooT A).1 = (rooT B).1 → ¬ A = B → colB (txA A ++ txA B) = true := fun h hn => by
        rw [rooT_ok vA, rooT_ok vB] at h
        obtain ⟨p, q, h1, h2, h3⟩ := binds oA oB h hn
        exact colB_T h1 h2 h3
      have ce : A = B → (rooT A).1 = (rooT B).1 := fun h => by rw [h]
      have c1r := ce c1
      have e34b : pu 34 [sl eC .no B, sl eC .no B] = some (.val (.bool true)) := (h34 B B (by omega) (by omega)).trans (by simp)
      have c3 := True.intro
      have hy := And.intro @hA (And.intro @hB (And.intro @e34 (And.intro @e34b (And.intro @e37 (And.intro @c1r @c3)))))
      refine Tr.wD hcx hMO [] [some 79, some 80, some 81, some 82, some 83, some 84, some 85, some 86, some 87, some 88, some 89, some 90, some 91, some 92, some 93, some 94, some 95, some 96, some 97, some 98, some 99, some 100] [] rfl rfl rfl rfl ?_ Y_fc8
      refine Tr.k [11, 12, 13, 100] ?_
      refine Tr.cF rfl ?_
      refine Tr.skip ?_
      refine hK5 _ ?_
      have hy := True.intro
      refine Tr.v hcx [1000044] _ [] rfl rfl rfl ?_ X_fc8
      first
      | ((refine ⟨[], ⟨by decide, by decide, by decide⟩, j + 1, ⟨(by omega), O1⟩, ?_, by simp only [mvH_eq, mvHa_nil, mvHa_cons, hget_0, hget_S, Option.map_some, Option.map_none, mvCs_cl, mvCs_f, mvCs_nil, mvCs_cons, mvC_val, mvC_top, mvC_sl, mvC_gv, mvC_sv, mvC_bp, mvC_agg, mvC_kp, mvGv_some, mvGv_none, mvSv_some, mvSv_none, mvBp_some, mvBp_none, loc_nil, loc_cons, ↓reduceIte, Nat.reduceEqDiff, reduceCtorEq, Nat.reduceAdd, Nat.zero_add, Nat.one_ne_zero, Nat.zero_ne_one, mvC_fn, mvC_bt, mvBt_some, mvBt_none, mvC_mp, mvMp_some, mvMp_none] <;> rfl⟩); (simp only [Le_nil, Le_cons, ↓A_cons, CLe_refl, CLe_top, CLe_full, CLe_nil, CLe_own, and_true, true_and, mvH_eq, mvHa_nil, mvHa_cons, hget_0, hget_S, Option.map_some, Option.map_none, mvCs_cl, mvCs_f, mvCs_nil, mvCs_cons, mvC_val, mvC_top, mvC_sl, mvC_gv, mvC_sv, mvC_bp, mvC_agg, mvC_kp, mvGv_some, mvGv_none, mvSv_some, mvSv_none, mvBp_some, mvBp_none, loc_nil, loc_cons, ↓reduceIte, Nat.reduceEqDiff, reduceCtorEq, Nat.reduceAdd, Nat.zero_add, Nat.one_ne_zero, Nat.zero_ne_one, mvC_fn, mvC_bt, mvBt_some, mvBt_none, mvC_mp, mvMp_some, mvMp_none]; all_goals (repeat' first | exact CLe.refl _ | exact True.intro | (with_reducible refine And.intro ?_ ?_))); (all_goals (first | (rw [mvC_lsl]; exact CLe.refl _) | exact CLe.refl _)); (done))
     by_cases c2 : (rooT A).1 = (rooT B).1
     ·
      refine Tr.bxc 2 3 (sl dC .no []) _ rfl rfl (CLe_sln rfl) rfl ?_
      have vA := (rooT_2 A).1 b1
      have vB := (rooT_2 B).1 b2
      have oA := valT_ok (l := A) (by omega)
      have oB := valT_ok (l := B) (by omega)
      have e37 : pu 37 [sl eC .no A, .agg [.val (nI 0), .val (nI B.length), sl eC .no B, sl dC .no []]] = some (.val (.bool (colB (txA A ++ txA B)))) := (h37 A ((0 : Nat) : Int) ((B.length : Nat) : Int) B [] oA.lz oA.1 (by omega) (by omega) (by omega) (fun k hk => by have := bB.2 k hk; omega) (by simp)).trans (by rw [txB_all oB.1])
      have cc : (rooT A).1 = (rooT B).1 → ¬ A = B → colB (txA A ++ txA B) = true := fun h hn => by
        rw [rooT_ok vA, rooT_ok vB] at h
        obtain ⟨p, q, h1, h2, h3⟩ := binds oA oB h hn
        exact colB_T h1 h2 h3
      have ce : A = B → (rooT A).1 = (rooT B).1 := fun h => by rw [h]
      have c1r := True.intro
      have e34b := True.intro
      have c3 := cc c2 c1
      have hy := And.intro @hA (And.intro @hB (And.intro @e34 (And.intro @e34b (And.intro @e37 (And.intro @c1r @c3)))))
      refine Tr.wD hcx hMO [] [some 79, some 80, some 81, some 82, some 83, some 84, some 85, some 86, some 87, some 88, some 89, some 90, some 91, some 92, some 93, some 94, some 95, some 96, some 97, some 98, some 99, some 100] [] rfl rfl rfl rfl ?_ Y_fc8
      refine Tr.k [11, 12, 13, 100] ?_
      refine Tr.cF rfl ?_
      refine Tr.skip ?_
      refine hK5 _ ?_
      have hy := True.intro
      refine Tr.v hcx [1000044] _ [] rfl rfl rfl ?_ X_fc8
      first
      | ((refine ⟨[], ⟨by decide, by decide, by decide⟩, j + 1, ⟨(by omega), O1⟩, ?_, by simp only [mvH_eq, mvHa_nil, mvHa_cons, hget_0, hget_S, Option.map_some, Option.map_none, mvCs_cl, mvCs_f, mvCs_nil, mvCs_cons, mvC_val, mvC_top, mvC_sl, mvC_gv, mvC_sv, mvC_bp, mvC_agg, mvC_kp, mvGv_some, mvGv_none, mvSv_some, mvSv_none, mvBp_some, mvBp_none, loc_nil, loc_cons, ↓reduceIte, Nat.reduceEqDiff, reduceCtorEq, Nat.reduceAdd, Nat.zero_add, Nat.one_ne_zero, Nat.zero_ne_one, mvC_fn, mvC_bt, mvBt_some, mvBt_none, mvC_mp, mvMp_some, mvMp_none] <;> rfl⟩); (simp only [Le_nil, Le_cons, ↓A_cons, CLe_refl, CLe_top, CLe_full, CLe_nil, CLe_own, and_true, true_and, mvH_eq, mvHa_nil, mvHa_cons, hget_0, hget_S, Option.map_some, Option.map_none, mvCs_cl, mvCs_f, mvCs_nil, mvCs_cons, mvC_val, mvC_top, mvC_sl, mvC_gv, mvC_sv, mvC_bp, mvC_agg, mvC_kp, mvGv_some, mvGv_none, mvSv_some, mvSv_none, mvBp_some, mvBp_none, loc_nil, loc_cons, ↓reduceIte, Nat.reduceEqDiff, reduceCtorEq, Nat.reduceAdd, Nat.zero_add, Nat.one_ne_zero, Nat.zero_ne_one, mvC_fn, mvC_bt, mvBt_some, mvBt_none, mvC_mp, mvMp_some, mvMp_none]; all_goals (repeat' first | exact CLe.refl _ | exact True.intro | (with_reducible refine And.intro ?_ ?_))); (all_goals (first | (rw [mvC_lsl]; exact CLe.refl _) | exact CLe.refl _)); (done))
     refine Tr.bxc 2 3 (sl dC .no []) _ rfl rfl (CLe_sln rfl) rfl ?_
     have vA := (rooT_2 A).1 b1
     have vB := (rooT_2 B).1 b2
     have oA := valT_ok (l := A) (by omega)
     have oB := valT_ok (l := B) (by omega)
     have e37 : pu 37 [sl eC .no A, .agg [.val (nI 0), .val (nI B.length), sl eC .no B, sl dC .no []]] = some (.val (.bool (colB (txA A ++ txA B)))) := (h37 A ((0 : Nat) : Int) ((B.length : Nat) : Int) B [] oA.lz oA.1 (by omega) (by omega) (by omega) (fun k hk => by have := bB.2 k hk; omega) (by simp)).trans (by rw [txB_all oB.1])
     have cc : (rooT A).1 = (rooT B).1 → ¬ A = B → colB (txA A ++ txA B) = true := fun h hn => by
       rw [rooT_ok vA, rooT_ok vB] at h
       obtain ⟨p, q, h1, h2, h3⟩ := binds oA oB h hn
       exact colB_T h1 h2 h3
     have ce : A = B → (rooT A).1 = (rooT B).1 := fun h => by rw [h]
     have c1r := True.intro
     have e34b := True.intro
     have c3 := True.intro
     have hy := And.intro @hA (And.intro @hB (And.intro @e34 (And.intro @e34b (And.intro @e37 (And.intro @c1r @c3)))))
     refine Tr.wD hcx hMO [] [some 79, some 80, some 81, some 82, some 83, some 84, some 85, some 86, some 87, some 88, some 89, some 90, some 91, some 92, some 93, some 94, some 95, some 96, some 97, some 98, some 99, some 100] [] rfl rfl rfl rfl ?_ Y_fc8
     refine Tr.k [11, 12, 13, 100] ?_
     refine Tr.cF rfl ?_
     refine Tr.skip ?_
     refine hK5 _ ?_
     have hy := True.intro
     refine Tr.v hcx [1000044] _ [] rfl rfl rfl ?_ X_fc8
     first
     | ((refine ⟨[], ⟨by decide, by decide, by decide⟩, j + 1, ⟨(by omega), O1⟩, ?_, by simp only [mvH_eq, mvHa_nil, mvHa_cons, hget_0, hget_S, Option.map_some, Option.map_none, mvCs_cl, mvCs_f, mvCs_nil, mvCs_cons, mvC_val, mvC_top, mvC_sl, mvC_gv, mvC_sv, mvC_bp, mvC_agg, mvC_kp, mvGv_some, mvGv_none, mvSv_some, mvSv_none, mvBp_some, mvBp_none, loc_nil, loc_cons, ↓reduceIte, Nat.reduceEqDiff, reduceCtorEq, Nat.reduceAdd, Nat.zero_add, Nat.one_ne_zero, Nat.zero_ne_one, mvC_fn, mvC_bt, mvBt_some, mvBt_none, mvC_mp, mvMp_some, mvMp_none] <;> rfl⟩); (simp only [Le_nil, Le_cons, ↓A_cons, CLe_refl, CLe_top, CLe_full, CLe_nil, CLe_own, and_true, true_and, mvH_eq, mvHa_nil, mvHa_cons, hget_0, hget_S, Option.map_some, Option.map_none, mvCs_cl, mvCs_f, mvCs_nil, mvCs_cons, mvC_val, mvC_top, mvC_sl, mvC_gv, mvC_sv, mvC_bp, mvC_agg, mvC_kp, mvGv_some, mvGv_none, mvSv_some, mvSv_none, mvBp_some, mvBp_none, loc_nil, loc_cons, ↓reduceIte, Nat.reduceEqDiff, reduceCtorEq, Nat.reduceAdd, Nat.zero_add, Nat.one_ne_zero, Nat.zero_ne_one, mvC_fn, mvC_bt, mvBt_some, mvBt_none, mvC_mp, mvMp_some, mvMp_none]; all_goals (repeat' first | exact CLe.refl _ | exact True.intro | (with_reducible refine And.intro ?_ ?_))); (all_goals (first | (rw [mvC_lsl]; exact CLe.refl _) | exact CLe.refl _)); (done))
    have hy := True.intro
    refine Tr.w hcx [] [some 63, some 64, some 65, some 66, some 67, some 68] [] rfl rfl rfl ?_ X_fc8
    refine Tr.k [11, 12, 13, 14, 16, 68] ?_
    refine Tr.cT rfl ?_
    refine Tr.exit ?_
    refine hK5 _ ?_
    refine Tr.v hcx [1000044] _ [] rfl rfl rfl ?_ X_fc8
    first
    | ((refine ⟨[], ⟨by decide, by decide, by decide⟩, j + 1, ⟨(by omega), O1⟩, ?_, by simp only [mvH_eq, mvHa_nil, mvHa_cons, hget_0, hget_S, Option.map_some, Option.map_none, mvCs_cl, mvCs_f, mvCs_nil, mvCs_cons, mvC_val, mvC_top, mvC_sl, mvC_gv, mvC_sv, mvC_bp, mvC_agg, mvC_kp, mvGv_some, mvGv_none, mvSv_some, mvSv_none, mvBp_some, mvBp_none, loc_nil, loc_cons, ↓reduceIte, Nat.reduceEqDiff, reduceCtorEq, Nat.reduceAdd, Nat.zero_add, Nat.one_ne_zero, Nat.zero_ne_one, mvC_fn, mvC_bt, mvBt_some, mvBt_none, mvC_mp, mvMp_some, mvMp_none] <;> rfl⟩); (simp only [Le_nil, Le_cons, ↓A_cons, CLe_refl, CLe_top, CLe_full, CLe_nil, CLe_own, and_true, true_and, mvH_eq, mvHa_nil, mvHa_cons, hget_0, hget_S, Option.map_some, Option.map_none, mvCs_cl, mvCs_f, mvCs_nil, mvCs_cons, mvC_val, mvC_top, mvC_sl, mvC_gv, mvC_sv, mvC_bp, mvC_agg, mvC_kp, mvGv_some, mvGv_none, mvSv_some, mvSv_none, mvBp_some, mvBp_none, loc_nil, loc_cons, ↓reduceIte, Nat.reduceEqDiff, reduceCtorEq, Nat.reduceAdd, Nat.zero_add, Nat.one_ne_zero, Nat.zero_ne_one, mvC_fn, mvC_bt, mvBt_some, mvBt_none, mvC_mp, mvMp_some, mvMp_none]; all_goals (repeat' first | exact CLe.refl _ | exact True.intro | (with_reducible refine And.intro ?_ ?_))); (all_goals (first | (rw [mvC_lsl]; exact CLe.refl _) | exact CLe.refl _)); (done))
   have hy := True.intro
   refine Tr.w hcx [] [some 63, some 64, some 65, some 66, some 67, some 68] [] rfl rfl rfl ?_ X_fc8
   refine Tr.k [11, 12, 13, 14, 16, 68] ?_
   refine Tr.cT rfl ?_
   refine Tr.exit ?_
   refine hK5 _ ?_
   refine Tr.v hcx [1000044] _ [] rfl rfl rfl ?_ X_fc8
   first
   | ((refine ⟨[], ⟨by decide, by decide, by decide⟩, j + 1, ⟨(by omega), O1⟩, ?_, by simp only [mvH_eq, mvHa_nil, mvHa_cons, hget_0, hget_S, Option.map_some, Option.map_none, mvCs_cl, mvCs_f, mvCs_nil, mvCs_cons, mvC_val, mvC_top, mvC_sl, mvC_gv, mvC_sv, mvC_bp, mvC_agg, mvC_kp, mvGv_some, mvGv_none, mvSv_some, mvSv_none, mvBp_some, mvBp_none, loc_nil, loc_cons, ↓reduceIte, Nat.reduceEqDiff, reduceCtorEq, Nat.reduceAdd, Nat.zero_add, Nat.one_ne_zero, Nat.zero_ne_one, mvC_fn, mvC_bt, mvBt_some, mvBt_none, mvC_mp, mvMp_some, mvMp_none] <;> rfl⟩); (simp only [Le_nil, Le_cons, ↓A_cons, CLe_refl, CLe_top, CLe_full, CLe_nil, CLe_own, and_true, true_and, mvH_eq, mvHa_nil, mvHa_cons, hget_0, hget_S, Option.map_some, Option.map_none, mvCs_cl, mvCs_f, mvCs_nil, mvCs_cons, mvC_val, mvC_top, mvC_sl, mvC_gv, mvC_sv, mvC_bp, mvC_agg, mvC_kp, mvGv_some, mvGv_none, mvSv_some, mvSv_none, mvBp_some, mvBp_none, loc_nil, loc_cons, ↓reduceIte, Nat.reduceEqDiff, reduceCtorEq, Nat.reduceAdd, Nat.zero_add, Nat.one_ne_zero, Nat.zero_ne_one, mvC_fn, mvC_bt, mvBt_some, mvBt_none, mvC_mp, mvMp_some, mvMp_none]; all_goals (repeat' first | exact CLe.refl _ | exact True.intro | (with_reducible refine And.intro ?_ ?_))); (all_goals (first | (rw [mvC_lsl]; exact CLe.refl _) | exact CLe.refl _)); (done))
  refine Tr.exit ?_
  refine hK3 _ ?_
  refine Tr.v hcx [1000039] _ [] rfl rfl rfl ?_ X_fc8
  first
  | ((refine ⟨[], ⟨by decide, by decide, by decide⟩, i + 1, ⟨(by omega), O1⟩, ?_, by simp only [mvH_eq, mvHa_nil, mvHa_cons, hget_0, hget_S, Option.map_some, Option.map_none, mvCs_cl, mvCs_f, mvCs_nil, mvCs_cons, mvC_val, mvC_top, mvC_sl, mvC_gv, mvC_sv, mvC_bp, mvC_agg, mvC_kp, mvGv_some, mvGv_none, mvSv_some, mvSv_none, mvBp_some, mvBp_none, loc_nil, loc_cons, ↓reduceIte, Nat.reduceEqDiff, reduceCtorEq, Nat.reduceAdd, Nat.zero_add, Nat.one_ne_zero, Nat.zero_ne_one, mvC_fn, mvC_bt, mvBt_some, mvBt_none, mvC_mp, mvMp_some, mvMp_none] <;> rfl⟩); (simp only [Le_nil, Le_cons, ↓A_cons, CLe_refl, CLe_top, CLe_full, CLe_nil, CLe_own, and_true, true_and, mvH_eq, mvHa_nil, mvHa_cons, hget_0, hget_S, Option.map_some, Option.map_none, mvCs_cl, mvCs_f, mvCs_nil, mvCs_cons, mvC_val, mvC_top, mvC_sl, mvC_gv, mvC_sv, mvC_bp, mvC_agg, mvC_kp, mvGv_some, mvGv_none, mvSv_some, mvSv_none, mvBp_some, mvBp_none, loc_nil, loc_cons, ↓reduceIte, Nat.reduceEqDiff, reduceCtorEq, Nat.reduceAdd, Nat.zero_add, Nat.one_ne_zero, Nat.zero_ne_one, mvC_fn, mvC_bt, mvBt_some, mvBt_none, mvC_mp, mvMp_some, mvMp_none]; all_goals (repeat' first | exact CLe.refl _ | exact True.intro | (with_reducible refine And.intro ?_ ?_))); (all_goals (first | (rw [mvC_lsl]; exact CLe.refl _) | exact CLe.refl _)); (done))
 refine Tr.exit ?_
 refine hK1 _ ?_
 refine Tr.w hcx [1000104] _ [none] rfl rfl rfl ?_ X_fc8
 refine Tr.k [19, 20] ?_
 refine Tr.wD hcx hMO [1000117] [some 105, some 106, some 107, some 108, some 109, some 110, some 111, some 112, some 113, some 114, some 115, some 116, some 117, some 8] [] rfl rfl rfl rfl ?_ Y_fc8
 refine Tr.k [8] ?_
 exact Tr.ret F_fc8
end Go.Sx
namespace Go.Sx
open Go.RowKit Go.Proofs
set_option maxRecDepth 100000
section
variable {gl : Nat → C} {M : Nat} {pu : Nat → List C → Option C}
theorem fc37' (hcx : CxOK (cxP gl M pu)) (hnr : ∀ (g : Nat) (xs : List C), noRefs 0 xs = false → pu g xs = none) (h65 : ∀ (tag : Int) (parts : List (List UInt8)), (inp tag parts).length < 1099511627776 → pu 65 [.val (.int .i64 tag), sl sC .no parts] = some (sl bC (.own 1) (inp tag parts))) (h64 : ∀ b : List UInt8, b.length < 35184372088832 → pu 64 [sl bC .no b] = some (.agg (cl bC ((sha b).take 16)))) (h84 : ∀ h : List UInt8, h.length = 16 → pu 84 [.agg (cl bC h)] = some (.val (str h))) (h106 : ∀ n : Nat, n ≤ 4611686018427387000 → pu 106 [.val (nI n)] = some (.val (nI (halfT n)))) (h83 : ∀ n : Int, -9223372036854775808 ≤ n ∧ n ≤ 9223372036854775807 → pu 83 [.val (.int .i64 n)] = some (sl bC (.own 1) (wint n)))
    (a : List Leaf) (f z : Int) (l : List Leaf) (S : List Dig) (ha : LZ a) (ha2 : a.length ≤ 4096) (hf : -9223372036854775808 ≤ f ∧ f ≤ 9223372036854775807) (hz : -9223372036854775808 ≤ z ∧ z ≤ 9223372036854775807) (hl : l.length ≤ 1000000) (hl2 : ∀ i, i < l.length → (gt l i).1.length < 1000000 ∧ (gt l i).2.length < 1000000) (hS : S.length ≤ 1000000) :
    FC Tryd.prog gl 37 [sl eC .no a, .agg [.val (.int .i64 f), .val (.int .i64 z), sl eC .no l, sl dC .no S]] [] (.val (.bool (colB (txA a ++ txB f z l S)))) [] := by
  have F := gc52 hcx hnr h65 h64 h84 h106 h83
  exact fc37 (hcx := CxOK.sm (M := M) (toR hcx M) ⟨_, Tryd.func52, rfl, rfl⟩ (s52 F)) (hnr := hnr) (h64 := h64) (hn52 := fun xs h => Small.never _ _ xs h)
    (hq52 := fun pre suf l f S n T u sh h0 h1 h2 h3 h4 h5 h6 h7 => by
      have h := Small.look (s52 F) (fun _ _ _ => none) ⟨(l, f, S, n, T, u, sh), h2, h3, h4, h5, h6, h7⟩ pre suf h0 h1
      simpa only [s52, List.length_nil, Nat.zero_add, Nat.add_zero, bkCs, bkC, bks_cl, bk_sl, shH_cons, shH_nil, Option.map_some, List.map_cons, List.map_nil, List.nil_append, List.cons_append] using h) (a := a) (f := f) (z := z) (l := l) (S := S) (ha := ha) (ha2 := ha2) (hf := hf) (hz := hz) (hl := hl) (hl2 := hl2) (hS := hS)
theorem FC.wk {P : Program} {g : Nat} {xs ys : List C} {c : C} {h h' : Hp} (H : FC P gl g xs h c h') (q : ∀ (G : Gh) (vs : List Value), RepL G ys vs → RepL G xs vs) : FC P gl g ys h c h' :=
  ⟨H.1, fun G w vs W T hg r => H.2 G w vs W T hg (q G _ r)⟩
theorem fc28n (hcx : CxOK (cxP gl M pu)) (h17 : ∀ (n : Int) (m : Nat), -9223372036854775808 ≤ n ∧ n ≤ 9223372036854775807 ∧ 0 < m ∧ m ≤ 9223372036854775807 → pu 17 [.val (.int .i64 n), .val (nI m)] = some (.val (nI (aroundI n m)))) (h49 : ∀ n : Nat, n ≤ 1000000000000 → pu 49 [.val (nI n)] = some (.val (str (keyT n))))
    (l : List Leaf) (w y : Int) (hw : -9223372036854775808 ≤ w ∧ w ≤ 9223372036854775807) (hy : -9223372036854775808 ≤ y ∧ y ≤ 9223372036854775807) (hl : l.length ≤ 1000000) (hl2 : ∀ i, i < l.length → (gt l i).1.length ≤ 1000000 ∧ (gt l i).2.length ≤ 1000000) :
    FC Tryd.prog gl 28 [.agg [.val (nI 0), .val (nI 0), sl eC .no l, .val (.slice none 0 0)], .val (.int .i64 w), .val (.int .i64 y)] [] (.agg (pC (bentT (toZ (0, 0, l, [])) w y))) [] :=
  FC.wk (fc28 hcx h17 h49 ((0 : Nat) : Int) ((0 : Nat) : Int) l [] w y hw hy hl hl2 (Nat.zero_le _)) fun G vs r => by
    simp only [RepL, Rep] at r ⊢
    obtain ⟨v, vs', h1, ⟨cs, h2, ⟨u1, us1, h3, q1, u2, us2, h4, q2, u3, us3, h5, q3, u4, us4, h6, q4, h7⟩, ho⟩, r2⟩ := r
    refine ⟨v, vs', h1, ⟨cs, h2, ⟨u1, us1, h3, q1, u2, us2, h4, q2, u3, us3, h5, q3, u4, us4, h6, ?_, h7⟩, ho⟩, r2⟩
    exact (CLe_sln (f := dC) (r := .no) (l := []) rfl).1 G u4 (by simp only [Rep]; exact q4)
end
end Go.Sx
