/-
  Package sign: keys and signatures. And what follows.
-/
import Derived.DeepKeys4
import Derived.MapViews
import Derived.Test.YthjamgmeehjfmaaDoorPau
import Derived.Test.YthjamgmeehjfmaaDoorPas
set_option linter.unusedSimpArgs false
set_option linter.unusedVariables false
namespace Go.Sx
open Go.RowKit Go.Proofs
set_option maxRecDepth 100000
set_option maxHeartbeats 8000000
theorem xor1_nat (x : Nat) : x ^^^ 1 = sib x := by
  unfold sib
  apply Nat.eq_of_testBit_eq
  intro j
  rw [Nat.testBit_xor]
  by_cases h : x % 2 = 1
  · rw [if_pos h]
    obtain ⟨q, rfl⟩ : ∃ q, x = 2 * q + 1 := ⟨x / 2, by omega⟩
    cases j with
    | zero => simp
    | succ j => simp [Nat.testBit_succ]; congr 1; omega
  · rw [if_neg h]
    obtain ⟨q, rfl⟩ : ∃ q, x = 2 * q := ⟨x / 2, by omega⟩
    cases j with
    | zero => simp
    | succ j => simp [Nat.testBit_succ]; congr 1; omega
theorem i_xor1 (P : Program) (t : TypeId) (x : Nat) (h : x < 4611686018427387904) : binPlan P .xor t (.val (nI x)) (.val (nI 1)) = some (vp (.val (nI (sib x)))) := by
  simp only [nI, bin_int]
  show some (vp (.val (.int .i64 (IntKind.wrap .i64 ((BitVec.ofInt 64 (x : Int) ^^^ BitVec.ofInt 64 ((1 : Nat) : Int)).toNat : Int))))) = _
  rw [BitVec.ofInt_natCast, BitVec.ofInt_natCast, BitVec.toNat_xor, BitVec.toNat_ofNat, BitVec.toNat_ofNat, Nat.mod_eq_of_lt (show x < 2 ^ 64 by omega)]
  have hs : sib x < 9223372036854775808 := by unfold sib; split <;> omega
  rw [show 1 % 2 ^ 64 = 1 from rfl, xor1_nat, wrap_i64 _ (by omega) (by omega)]
/-- The nodes that have been computed. -/
def auM (i : Nat) (M : List (Nat × Nat)) : Nat → List (Nat × Nat)
  | 0 => M
  | l + 1 => vis l (sib (i / 2 ^ l)) (auM i M l)
theorem auM_ok (i k : Nat) {M : List (Nat × Nat)} (h : OkM M) (hik : i < 2 ^ k) (hk : k ≤ 6) : ∀ l, l ≤ k → OkM (auM i M l)
  | 0, _ => h
  | l + 1, hl => by
    refine vis_ok ?_ (auM_ok i k h hik hk l (by omega))
    have hjl : i / 2 ^ l < 2 ^ (k - l) := by
      rw [Nat.div_lt_iff_lt_mul (pow_pos2 l), ← Nat.pow_add, show k - l + l = k by omega]; exact hik
    have hph := pow_half (h := k) (l := l) (by omega)
    have hsbl := sib_lt (j := i / 2 ^ l) (p := 2 ^ (k - (l + 1))) (by omega)
    have h1 : (sib (i / 2 ^ l) + 1) * 2 ^ l ≤ 2 ^ (k - l) * 2 ^ l := Nat.mul_le_mul_right _ (by omega)
    rw [← Nat.pow_add, show k - l + l = k by omega] at h1
    have h2 : 2 ^ k ≤ 2 ^ 6 := Nat.pow_le_pow_right (by decide) hk
    omega
theorem wint_gt0 (n : Int) : 0 < (wint n).length := by unfold wint; split <;> simp
theorem okRow3 (t : C) (n : Nat) (s : Nat × Nat) (l : List UInt8) (ht : notTup t = true) : ∀ o ∈ [some [t, .gv 2 n s], some (cl bC l)], okBox o = true := by
  intro o ho
  simp only [List.mem_cons, List.not_mem_nil, or_false] at ho
  rcases ho with rfl | rfl
  · cases t <;> first | rfl | cases ht
  · cases l <;> rfl
theorem okRow4 (t : C) (n : Nat) (s : Nat × Nat) (l : List UInt8) (ht : notTup t = true) : ∀ o ∈ [some [t, .gv 2 n s], some (cl bC l), none], okBox o = true := by
  intro o ho
  simp only [List.mem_cons, List.not_mem_nil, or_false] at ho
  rcases ho with rfl | rfl | rfl
  · cases t <;> first | rfl | cases ht
  · cases l <;> rfl
  · rfl
theorem okM1 (seed : List UInt8) (M : List (Nat × Nat)) : ∀ o ∈ [some (mapC (ents seed M))], okBox o = true := by intro o ho; simp only [List.mem_singleton] at ho; subst ho; rfl
theorem noOk : ∀ o ∈ ([] : Hp), okBox o = true := by intro o ho; cases ho
theorem X_fc12 {p : Prop} (e : p := by intro KZ hZ; simp -implicitDefEqProofs (disch := first | omega | (simp only [go_sem, lA, lD, lT, treeT_len] <;> omega) | decide) only [go_sem, ↓reduceIte, Nat.reduceEqDiff, reduceCtorEq, Nat.reduceLT, Nat.reduceBEq, Nat.reduceAdd, bA, bB, hy]; exact hZ) : p := e
theorem F_fc12 {p : Prop} (e : p := by simp -implicitDefEqProofs (disch := first | omega | (simp only [go_sem, lA, lD, lT, treeT_len] <;> omega) | decide) only [go_sem, ↓reduceIte, Nat.reduceEqDiff, reduceCtorEq]; all_goals (first | (rw [pub_T b0]) | (rw [pub_F (fun x => bA0 x.1)]) | (rw [pub_F (fun x => bB0 x.2)]))) : p := e
theorem fc12 {gl : Nat → C} {M : Nat} {pu : Nat → List C → Option C} {hp : Nat → List C → Hp → Option (C × Hp)} (hcx : CxOK (cxQ gl M pu hp))  (h21 : ∀ h : Int, pu 21 [.val (.int .i64 h)] = some (.val (.bool (decide (0 ≤ h ∧ h ≤ 6))))) (hn22 : ∀ xs, pu 22 xs = none) (hq22 : ∀ (pre : Hp) (seed : List UInt8), (∀ o ∈ pre, okBox o = true) → hp 22 [.val (str seed)] pre = some (.fn 44 [.kp [.mp pre.length], .kp [.val (str seed)], atK pre.length seed 8], pre ++ [some (mapC (ents seed []))])) (hq44 : ∀ (pre suf : Hp) (seed : List UInt8) (l k : Nat) (M : List (Nat × Nat)), (∀ o ∈ pre, okBox o = true) → (∀ o ∈ suf, okBox o = true) → seed.length ≤ 1000000 → OkM M → (k + 1) * 2 ^ l ≤ 1000000 ∧ l < 7 → hp 44 [.val (nI l), .val (nI k), .kp [.mp pre.length], .kp [.val (str seed)], atK pre.length seed 8] (pre ++ ([some (mapC (ents seed M))] ++ suf)) = some (.agg (cl bC (treeT seed l k)), pre ++ ([some (mapC (ents seed (vis l k M)))] ++ suf))) (hnr : ∀ (g : Nat) (xs : List C), noRefs 0 xs = false → pu g xs = none) (seed : List UInt8) (h : Int) (hs : seed.length ≤ 1000000) : FC Tryd.prog gl 12 [.val (str seed), .val (.int .i64 h)] [] (.tup [.agg (cl bC (pubT seed h).1), .val (nI (pubT seed h).2)]) [] := by
 replace hcx := hcx.reN (M := 19)
 refine FC.ofA (cx := cxQ gl 19 pu hp) (rs := [.cell 4 23, .tmp 5]) rfl Tryd.func12 rfl rfl rfl (by simp only [List.length_cons, List.length_nil]; decide) (by simp only [go_sem]) ?_
 simp only [ini, go_sem]
 have bA := True.intro
 have bB := True.intro
 have hy := True.intro
 have e21 := h21 h
 refine Tr.w hcx [] _ [none] rfl rfl rfl ?_ X_fc12
 refine Tr.k [0, 1, 4] ?_
 refine Tr.seqK fun K1 hK1 => ?_
 by_cases bA : seed.length = 32
 ·
  have bA0 := bA
  by_cases bB : 0 ≤ h ∧ h ≤ 6
  ·
   have bB0 := bB
   have b0 : Fit seed h := ⟨bA0, bB0⟩
   obtain ⟨k, rfl⟩ : ∃ k : Nat, h = (k : Int) := ⟨h.toNat, by have := b0.2.1; omega⟩
   replace e21 : pu 21 [.val (nI k)] = some (.val (.bool (decide (0 ≤ (k : Int) ∧ (k : Int) ≤ 6)))) := e21
   have hk6 : k ≤ 6 := by have := b0.2.2; omega
   have htl := fun l j => treeT_len seed l j
   have hp64 := pow_64 hk6 0
   rw [Nat.sub_zero] at hp64
   have hy := @e21
   refine Tr.w hcx [] [some 6, some 7, some 8, some 9, some 10, some 11, some 12, some 13] [] rfl rfl rfl ?_ X_fc12
   refine Tr.k [0, 1, 4, 13] ?_
   refine Tr.cF rfl ?_
   refine Tr.skip ?_
   refine hK1 _ ?_
   refine Tr.k [0, 1, 4] ?_
   have e22 : hp 22 [.val (str seed)] [some (cl bC (List.replicate 16 0))] = _ := hq22 [some (cl bC (List.replicate 16 0))] seed okZ
   simp only [List.cons_append, List.nil_append, List.length_cons, List.length_nil] at e22
   have en22 := hn22 [.val (str seed)]
   have en44 : ∀ l j q, pu 44 [.val (nI l), .val (nI j), .kp [.mp q], .kp [.val (str seed)], atK q seed 8] = none := fun l j q => hnr 44 _ (by simp [noRefs, noRef])
   have e44 := hq44 [some (cl bC (List.replicate 16 0))] [] seed k 0 [] okZ noOk hs okM_nil ⟨by omega, by omega⟩
   simp only [List.cons_append, List.nil_append, List.length_cons, List.length_nil] at e44
   have hy := And.intro @e22 (And.intro @en22 (And.intro @e44 @en44))
   refine Tr.w hcx [] _ [] rfl rfl rfl ?_ X_fc12
   refine Tr.k [4, 5] ?_
   exact Tr.ret F_fc12
  have bB0 := bB
  replace bB := eq_false bB
  have hy := @e21
  refine Tr.w hcx [] [some 6, some 7, some 8, some 9, some 10, some 11, some 12, some 13] [] rfl rfl rfl ?_ X_fc12
  refine Tr.k [0, 1, 4, 13] ?_
  refine Tr.cT rfl ?_
  have hy := True.intro
  refine Tr.w hcx [] _ [] rfl rfl rfl ?_ X_fc12
  refine Tr.k [4, 5] ?_
  exact Tr.ret F_fc12
 have bA0 := bA
 replace bA := eq_false bA
 have hy := @e21
 refine Tr.w hcx [] [some 6, some 7, some 8, some 9, some 10, some 11, some 12, some 13] [] rfl rfl rfl ?_ X_fc12
 refine Tr.k [0, 1, 4, 13] ?_
 refine Tr.cT rfl ?_
 have hy := True.intro
 refine Tr.w hcx [] _ [] rfl rfl rfl ?_ X_fc12
 refine Tr.k [4, 5] ?_
 exact Tr.ret F_fc12
theorem X_fc14 {p : Prop} (e : p := by intro KZ hZ; simp -implicitDefEqProofs (disch := first | omega | (simp only [go_sem, lA, lD, lT, treeT_len, advT_len, staT_len, sgR_len, auR_len, hDl] <;> omega) | decide) only [go_sem, ↓reduceIte, Nat.reduceEqDiff, reduceCtorEq, Nat.reduceLT, Nat.reduceBEq, Nat.reduceAdd, Nat.one_mul, bA, bB, b1, b2, hy]; exact hZ) : p := e
theorem F_fc14 {p : Prop} (e : p := by simp -implicitDefEqProofs (disch := first | omega | (simp only [go_sem, lA, lD, lT, treeT_len, advT_len, staT_len, sgR_len, auR_len, hDl] <;> omega) | decide) only [go_sem, ↓reduceIte, Nat.reduceEqDiff, reduceCtorEq]; all_goals (first | (rw [sign_1 (fun x => bA0 x.1)]; done) | (rw [sign_1 (fun x => bB0 x.2)]; done) | (rw [sign_20 b0 (by first | exact Or.inl b1 | exact Or.inr b2)]; done) | (rw [sign_4 b0 hik hc35]; done) | (rw [sign_0 b0 hik (by omega), sigT, ← hD]; done))) : p := e
theorem fc14 {gl : Nat → C} {M : Nat} {pu : Nat → List C → Option C} {hp : Nat → List C → Hp → Option (C × Hp)} (hcx : CxOK (cxQ gl M pu hp))  (h21 : ∀ h : Int, pu 21 [.val (.int .i64 h)] = some (.val (.bool (decide (0 ≤ h ∧ h ≤ 6))))) (hn22 : ∀ xs, pu 22 xs = none) (hq22 : ∀ (pre : Hp) (seed : List UInt8), (∀ o ∈ pre, okBox o = true) → hp 22 [.val (str seed)] pre = some (.fn 44 [.kp [.mp pre.length], .kp [.val (str seed)], atK pre.length seed 8], pre ++ [some (mapC (ents seed []))])) (hq44 : ∀ (pre suf : Hp) (seed : List UInt8) (l k : Nat) (M : List (Nat × Nat)), (∀ o ∈ pre, okBox o = true) → (∀ o ∈ suf, okBox o = true) → seed.length ≤ 1000000 → OkM M → (k + 1) * 2 ^ l ≤ 1000000 ∧ l < 7 → hp 44 [.val (nI l), .val (nI k), .kp [.mp pre.length], .kp [.val (str seed)], atK pre.length seed 8] (pre ++ ([some (mapC (ents seed M))] ++ suf)) = some (.agg (cl bC (treeT seed l k)), pre ++ ([some (mapC (ents seed (vis l k M)))] ++ suf))) (hnr : ∀ (g : Nat) (xs : List C), noRefs 0 xs = false → pu g xs = none) (h26 : ∀ n : Int, -9223372036854775808 ≤ n ∧ n ≤ 9223372036854775807 → pu 26 [.val (.int .i64 n)] = some (sl bC (.own 1) (wint n))) (h16 : ∀ (p : List UInt8) (i : Int) (m : List UInt8), p.length = 16 → (-9223372036854775808 ≤ i ∧ i ≤ 9223372036854775807) → m.length ≤ 1048576 → pu 16 [.agg (cl bC p), .val (.int .i64 i), .val (str m)] = some (.agg (cl bC (msgT p i m)))) (h10 : ∀ d : List UInt8, d.length = 16 → pu 10 [.agg (cl bC d)] = some (sl nC .no (digT d))) (h28 : ∀ (seed : List UInt8) (i c : Nat), seed.length ≤ 1000000 → i < 1000000 ∧ c < 1000000 → pu 28 [.val (str seed), .val (nI i), .val (nI c)] = some (.agg (cl bC (staT seed i c)))) (h27 : ∀ (i c f t : Nat) (v : List UInt8), v.length = 16 → i < 1000000 ∧ c < 1000000 ∧ f < 1000000 ∧ t < 1000000 → pu 27 [.val (nI i), .val (nI c), .val (nI f), .val (nI t), .agg (cl bC v)] = some (.agg (cl bC (advT i c f v (t - f))))) (hq25i : ∀ (pre : Hp) (p : List UInt8), (∀ o ∈ pre, okBox o = true) → 0 < p.length ∧ p.length ≤ 1000000000 → hp 25 [.bt pre.length 54 2, sl bC .no p] (pre ++ [some [.val (.pointer none), .val (.slice none 0 0)]]) = some (.tup [.val (nI p.length), .val .nilIface], pre ++ [some [.bt pre.length 54 2, .gv (pre.length + 1) p.length (1, 5)], some (cl bC p)])) (hq25u : ∀ (pre : Hp) (l p : List UInt8), (∀ o ∈ pre, okBox o = true) → 0 < p.length ∧ p.length ≤ 1000000000 ∧ l.length ≤ 1000000000 → hp 25 [.bt pre.length 54 2, .sv (pre.length + 2) 0 p.length] (pre ++ [some [.bt pre.length 54 2, .gv (pre.length + 1) l.length (1, 5)], some (cl bC l), some (cl bC p)]) = some (.tup [.val (nI p.length), .val .nilIface], pre ++ [some [.bt pre.length 54 2, .gv (pre.length + 3) (l ++ p).length (1, 5)], some deadC, some (cl bC p), some (cl bC (l ++ p))])) (hq25n : ∀ (b k m : Nat), ∃ r, hp 25 [.bt b 54 2, .sv k 0 m] [] = some r) (hq29 : ∀ (pre suf : Hp) (l : List UInt8), (∀ o ∈ pre, okBox o = true) → (∀ o ∈ suf, okBox o = true) → l ≠ [] ∧ l.length ≤ 1000000000 → hp 29 [.bt pre.length 54 2] (pre ++ ([some [.bt pre.length 54 2, .gv (pre.length + 1) l.length (1, 5)], some (cl bC l)] ++ suf)) = some (.val (str l), pre ++ ([some deadC, some deadC] ++ suf))) (seed : List UInt8) (h x : Int) (m : List UInt8) (hs : seed.length ≤ 1000000) (hx : -9223372036854775808 ≤ x ∧ x ≤ 9223372036854775807) (hm : m.length ≤ 1000000000) : FC Tryd.prog gl 14 [.val (str seed), .val (.int .i64 h), .val (.int .i64 x), .val (str m)] [] (.tup [.val (str (signT seed h x m).1), .val (nI (signT seed h x m).2)]) [] := by
 replace hcx := hcx.reN (M := 83)
 refine FC.ofA (cx := cxQ gl 83 pu hp) (rs := [.tmp 8, .tmp 9]) rfl Tryd.func14 rfl rfl rfl (by simp only [List.length_cons, List.length_nil]; decide) (by simp only [go_sem]) ?_
 simp only [ini, go_sem]
 have bA := True.intro
 have bB := True.intro
 have b1 := True.intro
 have b2 := True.intro
 have hy := True.intro
 have e21 := h21 h
 have hDl := True.intro
 have hi0 := True.intro
 have hi2 := True.intro
 refine Tr.w hcx [] _ [] rfl rfl rfl ?_ X_fc14
 refine Tr.k [0, 1, 2, 3] ?_
 refine Tr.seqK fun K1 hK1 => ?_
 refine Tr.blk ?_
 by_cases bA : seed.length = 32
 ·
  have bA0 := bA
  by_cases bB : 0 ≤ h ∧ h ≤ 6
  ·
   have bB0 := bB
   have b0 : Fit seed h := ⟨bA0, bB0⟩
   obtain ⟨k, rfl⟩ : ∃ k : Nat, h = (k : Int) := ⟨h.toNat, by have := b0.2.1; omega⟩
   replace e21 : pu 21 [.val (nI k)] = some (.val (.bool (decide (0 ≤ (k : Int) ∧ (k : Int) ≤ 6)))) := e21
   have hk6 : k ≤ 6 := by have := b0.2.2; omega
   have htl := fun l j => treeT_len seed l j
   have hp64 := pow_64 hk6 0
   rw [Nat.sub_zero] at hp64
   have hy := @e21
   refine Tr.w hcx [1000025] [some 18, some 19, some 20, some 21, some 22, some 23, some 24, some 25, some 17] [] rfl rfl rfl ?_ X_fc14
   refine Tr.k [0, 1, 2, 3, 17] ?_
   refine Tr.cF rfl ?_
   by_cases b1 : x < ((0 : Nat) : Int)
   ·
    have hy := And.intro @i_shl (And.intro @hi0 @hi2)
    refine Tr.w hcx [1000034] [some 27, some 28, some 29, some 30, some 31, some 32, some 33, some 34, some 26] [] rfl rfl rfl ?_ X_fc14
    refine Tr.k [0, 1, 2, 3, 26] ?_
    refine Tr.cT rfl ?_
    have hy := True.intro
    refine Tr.w hcx [] _ [] rfl rfl rfl ?_ X_fc14
    refine Tr.k [8, 9] ?_
    exact Tr.ret F_fc14
   by_cases b2 : ((2 ^ k : Nat) : Int) ≤ x
   ·
    skip
    have hy := And.intro @i_shl (And.intro @hi0 @hi2)
    refine Tr.w hcx [1000034] [some 27, some 28, some 29, some 30, some 31, some 32, some 33, some 34, some 26] [] rfl rfl rfl ?_ X_fc14
    refine Tr.k [0, 1, 2, 3, 26] ?_
    refine Tr.cT rfl ?_
    have hy := True.intro
    refine Tr.w hcx [] _ [] rfl rfl rfl ?_ X_fc14
    refine Tr.k [8, 9] ?_
    exact Tr.ret F_fc14
   obtain ⟨i, rfl⟩ : ∃ i : Nat, x = (i : Int) := ⟨x.toNat, by omega⟩
   have hik : i < 2 ^ k := by omega
   have hi0 : (i < 0) = False := by simp
   have hi2 : (2 ^ k ≤ i) = False := eq_false (by omega)
   have hi64 : i < 64 := by omega
   have hy := And.intro @i_shl (And.intro @hi0 @hi2)
   refine Tr.w hcx [1000034] [some 27, some 28, some 29, some 30, some 31, some 32, some 33, some 34, some 26] [] rfl rfl rfl ?_ X_fc14
   refine Tr.k [0, 1, 2, 3, 26] ?_
   refine Tr.cF rfl ?_
   have hy := True.intro
   refine Tr.w hcx [1000038] _ [] rfl rfl rfl ?_ X_fc14
   refine Tr.k [0, 1, 2, 3, 35] ?_
   refine Tr.cD rfl (fun hc35 => ?_) (fun hc35 => ?_)
   ·
    refine Tr.w hcx [] _ [] rfl rfl rfl ?_ X_fc14
    refine Tr.k [8, 9] ?_
    exact Tr.ret F_fc14
   have hml : m.length ≤ 1048576 := by omega
   have e16 : pu 16 [.agg (cl bC (treeT seed k 0)), .val (nI i), .val (str m)] = some (.agg (cl bC (msgT (treeT seed k 0) (i : Int) m))) := h16 _ (i : Int) m (treeT_len _ _ _) (by omega) hml
   have hmsl := msgT_len (treeT seed k 0) (i : Int) m
   have e10 := h10 _ hmsl
   have e26 : pu 26 [.val (nI i)] = some (sl bC (.own 1) (wint (i : Int))) := h26 (i : Int) (by omega)
   obtain ⟨D, hD⟩ : ∃ D, D = (digT (msgT (treeT seed k 0) (i : Int) m)) := ⟨_, rfl⟩
   rw [← hD] at e10
   have hDl : D.length = 68 := by rw [hD]; exact digT_len _
   have hD4 : ∀ c, c < 68 → gt D c < 4 := fun c hc => by rw [hD]; exact digT_lt _ c hc
   have hsl := sgR_len seed i D
   have hsl68 := hsl 68
   have hal := auR_len seed i (sgR seed i D 68)
   have hwl0 : 0 < (wint (i : Int)).length := wint_gt0 _
   have hwl := wintn_len i (by omega)
   obtain ⟨M0, hM0⟩ : ∃ M0, M0 = vis k 0 [] := ⟨_, rfl⟩
   have hM0n : OkM M0 := by rw [hM0]; exact vis_ok (by omega) okM_nil
   have hmvM := fun (ρ : List Nat) (M : List (Nat × Nat)) => mvCs_flat ρ (mapC (ents seed M)) (mapC_fl seed M)
   have hmvA := atK_mv 0 0 [0, 1, 4] seed rfl 8
   have e22 : hp 22 [.val (str seed)] ([] : Hp) = _ := hq22 ([] : Hp) seed noOk
   simp only [List.cons_append, List.nil_append, List.length_cons, List.length_nil] at e22
   have en22 := hn22 [.val (str seed)]
   have en44 : ∀ l j q, pu 44 [.val (nI l), .val (nI j), .kp [.mp q], .kp [.val (str seed)], atK q seed 8] = none := fun l j q => hnr 44 _ (by simp [noRefs, noRef])
   have e25i := hq25i [some (mapC (ents seed []))] (wint (i : Int)) (okM1 seed []) ⟨hwl0, by omega⟩
   simp only [List.cons_append, List.nil_append, List.length_cons, List.length_nil] at e25i
   have en25i : pu 25 [.bt 1 54 2, sl bC .no (wint (i : Int))] = none := hnr 25 _ rfl
   have e44 := hq44 [] [some [.bt 1 54 2, .gv 2 (wint (i : Int)).length (1, 5)], some (cl bC (wint (i : Int)))] seed k 0 [] noOk (okRow3 _ _ _ _ rfl) hs okM_nil ⟨by omega, by omega⟩
   rw [← hM0] at e44
   simp only [List.cons_append, List.nil_append, List.length_cons, List.length_nil] at e44
   refine Tr.skip ?_
   refine hK1 _ ?_
   refine Tr.k [0, 1, 2, 3] ?_
   have hy := And.intro @e22 @en22
   refine Tr.w hcx [1000040] _ [] rfl rfl rfl ?_ X_fc14
   refine Tr.k [0, 1, 2, 3, 10] ?_
   have hy := True.intro
   refine Tr.wG hcx [11] [] _ [none] rfl rfl rfl ?_ X_fc14
   refine Tr.k [0, 1, 2, 3, 10, 11] ?_
   have hy := And.intro @e26 (And.intro @e25i @en25i)
   refine Tr.w hcx [] _ [] rfl rfl rfl ?_ X_fc14
   refine Tr.k [0, 1, 2, 3, 10, 11] ?_
   refine Tr.seqK fun K2 hK2 => ?_
   have hy := And.intro @e44 (And.intro @en44 (And.intro @e16 @e10))
   refine Tr.w hcx [] _ [] rfl rfl rfl ?_ X_fc14
   refine Tr.k [0, 1, 2, 10, 11, 50, 51, 52] ?_
   refine Tr.blk ?_
   refine Tr.loopM hcx (α := Nat) (fun a => [(0, ?v0_1), (1, ?v1_1), (2, ?v2_1), (10, ?v10_1), (11, ?v11_1), (50, ?v50_1), (51, ?v51_1), (52, .val (nI a))]) (fun a => [some (mapC (ents seed M0)), some [.bt 1 54 2, .gv 2 (sgR seed i D a).length (1, 5)], some (cl bC (sgR seed i D a))]) (fun a => a ≤ 68) (fun a => 68 - a) (0) (Nat.zero_le _) ?le_1 ?hh_1 ?bd_1
   case hh_1 => exact rfl
   case le_1 => exact LT
   rintro c hc
   have hy := True.intro
   refine Tr.w hcx [] _ [] rfl rfl rfl ?_ X_fc14
   refine Tr.k [0, 1, 2, 10, 11, 50, 51, 52, 53] ?_
   refine Tr.seqK fun K3 hK3 => ?_
   refine Tr.cD rfl (fun hc53 => ?_) (fun hc53 => ?_)
   ·
    replace hc53 : c < 68 := hDl ▸ hc53
    have hd4 := hD4 c hc53
    have e28 := h28 seed i c hs ⟨by omega, by omega⟩
    have e27 : pu 27 [.val (nI i), .val (nI c), .val (nI 0), .val (nI (gt D c)), .agg (cl bC (staT seed i c))] = some (.agg (cl bC (advT i c 0 (staT seed i c) (gt D c)))) := h27 i c 0 (gt D c) _ (staT_len _ _ _) ⟨by omega, by omega, by omega, by omega⟩
    have hadl := advT_len i c 0 (staT_len seed i c) (gt D c)
    have hslc := hsl c
    have e25 : hp 25 [.bt 1 54 2, .sv 3 0 16] [some (mapC (ents seed M0)), some [.bt 1 54 2, .gv 2 (sgR seed i D c).length (1, 5)], some (cl bC (sgR seed i D c)), some (cl bC (advT i c 0 (staT seed i c) (gt D c)))] = some (.tup [.val (nI 16), .val .nilIface], [some (mapC (ents seed M0)), some [.bt 1 54 2, .gv 4 (sgR seed i D (c + 1)).length (1, 5)], some deadC, some (cl bC (advT i c 0 (staT seed i c) (gt D c))), some (cl bC (sgR seed i D (c + 1)))]) := by
      have h := hq25u [some (mapC (ents seed M0))] (sgR seed i D c) (advT i c 0 (staT seed i c) (gt D c)) (okM1 seed M0) ⟨by omega, by omega, by omega⟩
      rw [hadl] at h; exact h
    have en25 : pu 25 [.bt 1 54 2, .sv 3 0 16] = none := hnr 25 _ rfl
    obtain ⟨r3, en3⟩ := hq25n 1 3 16
    refine Tr.skip ?_
    refine hK3 _ ?_
    refine Tr.k [0, 1, 2, 10, 11, 50, 51, 52] ?_
    refine Tr.seqK fun K4 hK4 => ?_
    refine Tr.blk ?_
    refine Tr.w hcx [1000054, 1000056] _ [] rfl rfl rfl ?_ X_fc14
    refine Tr.k [0, 1, 2, 10, 11, 12, 13, 50, 51, 52] ?_
    have hy := And.intro @e28 @e27
    refine Tr.w hcx [] _ [none] rfl rfl rfl ?_ X_fc14
    refine Tr.k [0, 1, 2, 10, 11, 14, 50, 51, 52] ?_
    have hy := And.intro @e25 (And.intro @en25 @en3)
    refine Tr.v hcx [] _ [] rfl rfl rfl ?_ X_fc14
    refine hK4 _ ?_
    refine Tr.k [0, 1, 2, 10, 11, 50, 51, 52] ?_
    have hy := True.intro
    refine Tr.v hcx [] _ [] rfl rfl rfl ?_ X_fc14
    first
    | ((refine ⟨[0, 1, 4], ⟨by decide, by decide, by decide⟩, c + 1, ⟨by omega, O1⟩, ?_, by simp only [mvH_eq, mvHa_nil, mvHa_cons, hget_0, hget_S, Option.map_some, Option.map_none, mvCs_cl, mvCs_f, mvCs_nil, mvCs_cons, mvC_val, mvC_top, mvC_sl, mvC_gv, mvC_sv, mvC_bp, mvC_agg, mvC_kp, mvGv_some, mvGv_none, mvSv_some, mvSv_none, mvBp_some, mvBp_none, loc_nil, loc_cons, ↓reduceIte, Nat.reduceEqDiff, reduceCtorEq, Nat.reduceAdd, Nat.zero_add, Nat.one_ne_zero, Nat.zero_ne_one, mvC_fn, mvC_bt, mvBt_some, mvBt_none, mvC_mp, mvMp_some, mvMp_none, hmvM] <;> rfl⟩); (simp only [Le_nil, Le_cons, ↓A_cons, CLe_refl, CLe_top, CLe_full, CLe_nil, CLe_own, and_true, true_and, mvH_eq, mvHa_nil, mvHa_cons, hget_0, hget_S, Option.map_some, Option.map_none, mvCs_cl, mvCs_f, mvCs_nil, mvCs_cons, mvC_val, mvC_top, mvC_sl, mvC_gv, mvC_sv, mvC_bp, mvC_agg, mvC_kp, mvGv_some, mvGv_none, mvSv_some, mvSv_none, mvBp_some, mvBp_none, loc_nil, loc_cons, ↓reduceIte, Nat.reduceEqDiff, reduceCtorEq, Nat.reduceAdd, Nat.zero_add, Nat.one_ne_zero, Nat.zero_ne_one, mvC_fn, mvC_bt, mvBt_some, mvBt_none, mvC_mp, mvMp_some, mvMp_none]; all_goals (repeat' first | exact CLe.refl _ | exact True.intro | (with_reducible refine And.intro ?_ ?_))); (all_goals first | exact CLe.refl _ | (rw [hmvA]; exact CLe.refl _)); (done))
   obtain rfl : c = 68 := by omega
   refine Tr.exit ?_
   refine hK2 _ ?_
   refine Tr.k [1, 2, 10, 11] ?_
   refine Tr.seqK fun K5 hK5 => ?_
   refine Tr.w hcx [] _ [] rfl rfl rfl ?_ X_fc14
   refine Tr.k [2, 10, 11, 68, 69] ?_
   refine Tr.blk ?_
   refine Tr.loopM hcx (α := Nat) (fun a => [(2, ?v2_2), (10, ?v10_2), (11, ?v11_2), (68, ?v68_2), (69, .val (nI a))]) (fun a => [some (mapC (ents seed (auM i M0 a))), some [.bt 1 54 2, .gv 2 (auR seed i (sgR seed i D 68) a).length (1, 5)], some (cl bC (auR seed i (sgR seed i D 68) a))]) (fun a => a ≤ k) (fun a => k - a) (0) (Nat.zero_le _) ?le_2 ?hh_2 ?bd_2
   case hh_2 => exact rfl
   case le_2 => exact LT
   rintro l hl
   refine Tr.w hcx [] _ [] rfl rfl rfl ?_ X_fc14
   refine Tr.k [2, 10, 11, 68, 69, 70] ?_
   refine Tr.seqK fun K6 hK6 => ?_
   refine Tr.cD rfl (fun hc70 => ?_) (fun hc70 => ?_)
   ·
    have hjl : i / 2 ^ l < 2 ^ (k - l) := by
      rw [Nat.div_lt_iff_lt_mul (pow_pos2 l), ← Nat.pow_add, show k - l + l = k by omega]; exact hik
    have hph := pow_half hc70
    have hall := hal l
    have hpkl := pow_64 hk6 l
    have hsbl := sib_lt (j := i / 2 ^ l) (p := 2 ^ (k - (l + 1))) (by omega)
    have hpl : (sib (i / 2 ^ l) + 1) * 2 ^ l ≤ 1000000 := by
      have h1 : (sib (i / 2 ^ l) + 1) * 2 ^ l ≤ 2 ^ (k - l) * 2 ^ l := Nat.mul_le_mul_right _ (by omega)
      rw [← Nat.pow_add, show k - l + l = k by omega] at h1
      omega
    have e44l := hq44 [] [some [.bt 1 54 2, .gv 2 (auR seed i (sgR seed i D 68) l).length (1, 5)], some (cl bC (auR seed i (sgR seed i D 68) l)), none] seed l (sib (i / 2 ^ l)) (auM i M0 l) noOk (okRow4 _ _ _ _ rfl) hs (auM_ok i k hM0n hik hk6 l hl) ⟨hpl, by omega⟩
    simp only [List.cons_append, List.nil_append, List.length_cons, List.length_nil] at e44l
    have hil64 : i / 2 ^ l < 64 := Nat.lt_of_le_of_lt (Nat.div_le_self _ _) hi64
    have htll := treeT_len seed l (sib (i / 2 ^ l))
    have e25 : hp 25 [.bt 1 54 2, .sv 3 0 16] [some (mapC (ents seed (vis l (sib (i / 2 ^ l)) (auM i M0 l)))), some [.bt 1 54 2, .gv 2 (auR seed i (sgR seed i D 68) l).length (1, 5)], some (cl bC (auR seed i (sgR seed i D 68) l)), some (cl bC (treeT seed l (sib (i / 2 ^ l))))] = some (.tup [.val (nI 16), .val .nilIface], [some (mapC (ents seed (auM i M0 (l + 1)))), some [.bt 1 54 2, .gv 4 (auR seed i (sgR seed i D 68) (l + 1)).length (1, 5)], some deadC, some (cl bC (treeT seed l (sib (i / 2 ^ l)))), some (cl bC (auR seed i (sgR seed i D 68) (l + 1)))]) := by
      have h := hq25u [some (mapC (ents seed (vis l (sib (i / 2 ^ l)) (auM i M0 l))))] (auR seed i (sgR seed i D 68) l) (treeT seed l (sib (i / 2 ^ l))) (okM1 seed _) ⟨by omega, by omega, by omega⟩
      rw [htll] at h; exact h
    have en25 : pu 25 [.bt 1 54 2, .sv 3 0 16] = none := hnr 25 _ rfl
    obtain ⟨r3, en3⟩ := hq25n 1 3 16
    refine Tr.skip ?_
    refine hK6 _ ?_
    refine Tr.k [2, 10, 11, 68, 69] ?_
    refine Tr.seqK fun K7 hK7 => ?_
    refine Tr.blk ?_
    refine Tr.w hcx [1000071] _ [] rfl rfl rfl ?_ X_fc14
    refine Tr.k [2, 10, 11, 15, 68, 69] ?_
    have hy := And.intro @i_shr (And.intro @i_xor1 (And.intro @e44l @en44))
    refine Tr.w hcx [] _ [none] rfl rfl rfl ?_ X_fc14
    refine Tr.k [2, 10, 11, 16, 68, 69] ?_
    have hy := And.intro @e25 (And.intro @en25 @en3)
    refine Tr.v hcx [] _ [] rfl rfl rfl ?_ X_fc14
    refine hK7 _ ?_
    refine Tr.k [2, 10, 11, 68, 69] ?_
    have hy := True.intro
    refine Tr.v hcx [] _ [] rfl rfl rfl ?_ X_fc14
    first
    | ((refine ⟨[0, 1, 4], ⟨by decide, by decide, by decide⟩, l + 1, ⟨by omega, O1⟩, ?_, by simp only [mvH_eq, mvHa_nil, mvHa_cons, hget_0, hget_S, Option.map_some, Option.map_none, mvCs_cl, mvCs_f, mvCs_nil, mvCs_cons, mvC_val, mvC_top, mvC_sl, mvC_gv, mvC_sv, mvC_bp, mvC_agg, mvC_kp, mvGv_some, mvGv_none, mvSv_some, mvSv_none, mvBp_some, mvBp_none, loc_nil, loc_cons, ↓reduceIte, Nat.reduceEqDiff, reduceCtorEq, Nat.reduceAdd, Nat.zero_add, Nat.one_ne_zero, Nat.zero_ne_one, mvC_fn, mvC_bt, mvBt_some, mvBt_none, mvC_mp, mvMp_some, mvMp_none, hmvM] <;> rfl⟩); (simp only [Le_nil, Le_cons, ↓A_cons, CLe_refl, CLe_top, CLe_full, CLe_nil, CLe_own, and_true, true_and, mvH_eq, mvHa_nil, mvHa_cons, hget_0, hget_S, Option.map_some, Option.map_none, mvCs_cl, mvCs_f, mvCs_nil, mvCs_cons, mvC_val, mvC_top, mvC_sl, mvC_gv, mvC_sv, mvC_bp, mvC_agg, mvC_kp, mvGv_some, mvGv_none, mvSv_some, mvSv_none, mvBp_some, mvBp_none, loc_nil, loc_cons, ↓reduceIte, Nat.reduceEqDiff, reduceCtorEq, Nat.reduceAdd, Nat.zero_add, Nat.one_ne_zero, Nat.zero_ne_one, mvC_fn, mvC_bt, mvBt_some, mvBt_none, mvC_mp, mvMp_some, mvMp_none]; all_goals (repeat' first | exact CLe.refl _ | exact True.intro | (with_reducible refine And.intro ?_ ?_))); (all_goals first | exact CLe.refl _ | (rw [hmvA]; exact CLe.refl _)); (done))
   obtain rfl : l = k := by omega
   have hall := hal l
   have en29 : pu 29 [.bt 1 54 2] = none := hnr 29 _ rfl
   have e29 := hq29 [some (mapC (ents seed (auM i M0 l)))] [] (auR seed i (sgR seed i D 68) l) (okM1 seed _) noOk ⟨(by intro e; rw [e] at hall; simp at hall; omega), by omega⟩
   simp only [List.cons_append, List.nil_append, List.length_cons, List.length_nil] at e29
   refine Tr.exit ?_
   refine hK5 _ ?_
   refine Tr.k [11] ?_
   have hy := And.intro @e29 @en29
   refine Tr.w hcx [1000082] _ [] rfl rfl rfl ?_ X_fc14
   refine Tr.k [8, 9] ?_
   exact Tr.ret F_fc14
  have bB0 := bB
  replace bB := eq_false bB
  have hy := @e21
  refine Tr.w hcx [1000025] [some 18, some 19, some 20, some 21, some 22, some 23, some 24, some 25, some 17] [] rfl rfl rfl ?_ X_fc14
  refine Tr.k [0, 1, 2, 3, 17] ?_
  refine Tr.cT rfl ?_
  have hy := True.intro
  refine Tr.w hcx [] _ [] rfl rfl rfl ?_ X_fc14
  refine Tr.k [8, 9] ?_
  exact Tr.ret F_fc14
 have bA0 := bA
 replace bA := eq_false bA
 have hy := @e21
 refine Tr.w hcx [1000025] [some 18, some 19, some 20, some 21, some 22, some 23, some 24, some 25, some 17] [] rfl rfl rfl ?_ X_fc14
 refine Tr.k [0, 1, 2, 3, 17] ?_
 refine Tr.cT rfl ?_
 have hy := True.intro
 refine Tr.w hcx [] _ [] rfl rfl rfl ?_ X_fc14
 refine Tr.k [8, 9] ?_
 exact Tr.ret F_fc14
end Go.Sx
namespace Go.Sx
open Go.RowKit Go.Proofs
set_option maxRecDepth 100000
set_option maxHeartbeats 8000000
theorem digz_len : (digT (List.replicate 16 0)).length = 68 := digT_len _
theorem digz_0 : gt (digT (List.replicate 16 0)) 0 = 0 := by decide +kernel
theorem digz_64 : gt (digT (List.replicate 16 0)) 64 = 3 := by decide +kernel
theorem digz_67 : gt (digT (List.replicate 16 0)) 67 = 0 := by decide +kernel
theorem X_fc9 {p : Prop} (e : p := by intro KZ hZ; simp -implicitDefEqProofs (disch := first | omega | (simp only [go_sem, lA, lD, lT, hpl, hz1] <;> omega) | decide) only [go_sem, ↓reduceIte, Nat.reduceEqDiff, reduceCtorEq, Nat.reduceLT, Nat.reduceBEq, Nat.reduceAdd, hy]; exact hZ) : p := e
theorem Y_fc9 {p : Prop} (e : p := by intro KZ hZ; simp -implicitDefEqProofs (disch := first | omega | (simp only [go_sem, lA, lD, lT, hpl, hz1] <;> omega) | decide) only [go_sem, ↓reduceIte, Nat.reduceEqDiff, reduceCtorEq, Nat.reduceLT, Nat.reduceBEq, Nat.reduceAdd, hy]; refine And.intro ?_ hZ; exact rfl) : p := e
theorem F_fc9 {p : Prop} (e : p := by simp -implicitDefEqProofs (disch := first | omega | (simp only [go_sem, lA, lD, lT, hpl, hz1] <;> omega) | decide) only [go_sem, ↓reduceIte, Nat.reduceEqDiff, reduceCtorEq]; all_goals (rfl)) : p := e
theorem fc9 {gl : Nat → C} {M : Nat} {pu : Nat → List C → Option C}  (hcx : CxOK (cxP gl M pu))  (h20 : ∀ c : UInt8, pu 20 [.val (w8 c)] = some (.val (str (List.replicate 32 c)))) (h12 : ∀ (seed : List UInt8) (h : Int), seed.length ≤ 1000000 → (-9223372036854775808 ≤ h ∧ h ≤ 9223372036854775807) → (h ≤ 2 ∨ 6 < h) → pu 12 [.val (str seed), .val (.int .i64 h)] = some (.tup [.agg (cl bC (pubT seed h).1), .val (nI (pubT seed h).2)])) (h14 : ∀ (seed : List UInt8) (h x : Int) (m : List UInt8), seed.length ≤ 1000000 → (-9223372036854775808 ≤ h ∧ h ≤ 9223372036854775807) → (-9223372036854775808 ≤ x ∧ x ≤ 9223372036854775807) → m.length ≤ 1000000000 → (h ≤ 2 ∨ 6 < h) → pu 14 [.val (str seed), .val (.int .i64 h), .val (.int .i64 x), .val (str m)] = some (.tup [.val (str (signT seed h x m).1), .val (nI (signT seed h x m).2)])) (h18 : ∀ (p : List UInt8) (h : Int) (m sg : List UInt8), p.length = 16 → (-9223372036854775808 ≤ h ∧ h ≤ 9223372036854775807) → m.length ≤ 1000000000 → sg.length ≤ 900000 → pu 18 [.agg (cl bC p), .val (.int .i64 h), .val (str m), .val (str sg)] = some (.tup [.val (.int .i64 (verT p h m sg).1), .val (nI (verT p h m sg).2)])) (h16 : ∀ (p : List UInt8) (i : Int) (m : List UInt8), p.length = 16 → (-9223372036854775808 ≤ i ∧ i ≤ 9223372036854775807) → m.length ≤ 1048576 → pu 16 [.agg (cl bC p), .val (.int .i64 i), .val (str m)] = some (.agg (cl bC (msgT p i m)))) (h10 : ∀ d : List UInt8, d.length = 16 → pu 10 [.agg (cl bC d)] = some (sl nC .no (digT d)))  : FC Tryd.prog gl 9 [] [] (.val (.bool true)) [] := by
 replace hcx := hcx.reN (M := 105)
 refine FC.ofA (cx := cxP gl 105 pu) (rs := [.tmp 0]) rfl Tryd.func9 rfl rfl rfl (by simp only [List.length_cons, List.length_nil]; decide) (by simp only [go_sem]) ?_
 simp only [ini, go_sem]
 have hy := True.intro
 have e20 : pu 20 [.val (w8 (UInt8.ofNat 5))] = some (.val (str seed5)) := h20 5
 have hfit : Fit seed5 ((1 : Nat) : Int) := ⟨by decide, by decide, by decide⟩
 have hsl : seed5.length = 32 := by decide
 have e12 : pu 12 [.val (str seed5), .val (nI 1)] = some (.tup [.agg (cl bC pub5), .val (nI 0)]) := (h12 seed5 ((1 : Nat) : Int) (by omega) (by omega) (by omega)).trans (by rw [pub_T hfit, root5])
 have e14 : pu 14 [.val (str seed5), .val (nI 1), .val (nI 1), .val (str [109])] = some (.tup [.val (str (sigT seed5 1 1 [109])), .val (nI 0)]) := (h14 seed5 ((1 : Nat) : Int) ((1 : Nat) : Int) [109] (by first | omega | decide) (by first | omega | decide) (by first | omega | decide) (by first | omega | decide) (by first | omega | decide)).trans (by rw [sign_0 hfit (by decide) (by decide)])
 have e14b : pu 14 [.val (str seed5), .val (nI 1), .val (nI 2), .val (str [109])] = some (.tup [.val (str []), .val (nI 20)]) := (h14 seed5 ((1 : Nat) : Int) ((2 : Nat) : Int) [109] (by first | omega | decide) (by first | omega | decide) (by first | omega | decide) (by first | omega | decide) (by first | omega | decide)).trans (by rw [sign_20 hfit (by right; decide)])
 have hpl : pub5.length = 16 := by decide
 have hbl := bodT_len seed5 1 1 [109]
 have hwl := wintn_len 1 (by omega)
 have hsgl : (sigT seed5 1 1 [109]).length = (wint ((1 : Nat) : Int)).length + (68 + 1) * 16 := by rw [sigT_eq, List.length_append, hbl]
 have e18 : pu 18 [.agg (cl bC pub5), .val (nI 1), .val (str [109]), .val (str (sigT seed5 1 1 [109]))] = some (.tup [.val (nI 1), .val (nI 0)]) := (h18 pub5 ((1 : Nat) : Int) [109] (sigT seed5 1 1 [109]) hpl (by omega) (by decide) (by omega)).trans (by rw [← root5, ver_sign (by omega) (by decide) (by decide)]; rfl)
 have e18w : pu 18 [.agg (cl bC pub5), .val (nI 1), .val (str [110]), .val (str (sigT seed5 1 1 [109]))] = some (.tup [.val (nI 0), .val (nI 19)]) := (h18 pub5 ((1 : Nat) : Int) [110] (sigT seed5 1 1 [109]) hpl (by omega) (by decide) (by omega)).trans (by rw [show ((1 : Nat) : Int) = 1 from rfl, ver5w]; rfl)
 have hs1 : (List.drop 1 seed5).length = 31 := by decide
 have e12s : pu 12 [.val (str (List.drop 1 seed5)), .val (nI 0)] = some (.tup [.agg (cl bC (List.replicate 16 0)), .val (nI 1)]) := (h12 (List.drop 1 seed5) ((0 : Nat) : Int) (by omega) (by omega) (by omega)).trans (by rw [pub_F (fun x => by have := x.1; omega)])
 have hts : List.take (32 - 1) (List.drop 1 seed5) = List.drop 1 seed5 := List.take_of_length_le (by omega)
 have hts2 : List.take (seed5.length - 1) (List.drop 1 seed5) = List.drop 1 seed5 := List.take_of_length_le (by omega)
 have hts3 : List.take 31 (List.drop 1 seed5) = List.drop 1 seed5 := List.take_of_length_le (by omega)
 have e10 := h10 (List.replicate 16 0) rfl
 have e16 : pu 16 [.agg (cl bC pub5), .val (nI 1), .val (str [109])] = some (.agg (cl bC (msgT pub5 1 [109]))) := h16 pub5 1 [109] hpl (by omega) (by decide)
 have e16z : pu 16 [.agg (cl bC pub5), .val (nI 0), .val (str [109])] = some (.agg (cl bC (msgT pub5 0 [109]))) := h16 pub5 0 [109] hpl (by omega) (by decide)
 have hne := msg5_ne
 have hm1 := msgT_len pub5 1 [109]
 have hm0 := msgT_len pub5 0 [109]
 have hz1 := digz_len
 have hz2 := digz_0
 have hz3 := digz_64
 have hz4 := digz_67
 generalize hDZ : digT (List.replicate 16 0) = DZ at *
 generalize sigT seed5 1 1 [109] = S at *
 generalize msgT pub5 1 [109] = A1 at *
 generalize msgT pub5 0 [109] = A0 at *
 generalize pub5 = P at *
 generalize seed5 = seed at *
 replace hne := eq_false hne
 refine Tr.w hcx [] _ [] rfl rfl rfl ?_ X_fc9
 refine Tr.k [] ?_
 have hy := @e20
 refine Tr.w hcx [1000015] _ [] rfl rfl rfl ?_ X_fc9
 refine Tr.k [1] ?_
 have hy := @e12
 refine Tr.w hcx [1000020] _ [none] rfl rfl rfl ?_ X_fc9
 refine Tr.k [1, 2, 3] ?_
 have hy := @e14
 refine Tr.w hcx [1000024, 1000025] _ [] rfl rfl rfl ?_ X_fc9
 refine Tr.k [1, 2, 3, 4, 5] ?_
 have hy := @e18
 refine Tr.w hcx [1000030, 1000031] _ [] rfl rfl rfl ?_ X_fc9
 refine Tr.k [1, 2, 3, 4, 5, 6, 7] ?_
 have hy := @e18w
 refine Tr.w hcx [1000036, 1000037] _ [] rfl rfl rfl ?_ X_fc9
 refine Tr.k [1, 2, 3, 5, 6, 7, 9] ?_
 have hy := @e14b
 refine Tr.w hcx [1000041, 1000042] _ [] rfl rfl rfl ?_ X_fc9
 refine Tr.k [1, 2, 3, 5, 6, 7, 9, 11] ?_
 have hy := And.intro @hsl (And.intro @hts (And.intro @hts2 (And.intro @hts3 @e12s)))
 refine Tr.w hcx [1000048] _ [none] rfl rfl rfl ?_ X_fc9
 refine Tr.k [2, 3, 5, 6, 7, 9, 11, 13] ?_
 have hy := @e10
 refine Tr.w hcx [1000050] _ [] rfl rfl rfl ?_ X_fc9
 refine Tr.k [2, 3, 5, 6, 7, 9, 11, 13, 14] ?_
 refine Tr.seqK fun K1 hK1 => ?_
 have hy := @hz1
 refine Tr.w hcx [] [some 51, some 52, some 53, some 54, some 55, some 56, some 57, some 58, some 59, some 60, some 61, some 62, some 63, some 64, some 65] [] rfl rfl rfl ?_ X_fc9
 refine Tr.k [2, 6, 9, 11, 13, 14, 65] ?_
 refine Tr.cF rfl ?_
 refine Tr.skip ?_
 refine hK1 _ ?_
 refine Tr.k [2, 6, 9, 11, 13, 14] ?_
 have hy := And.intro @e16 (And.intro @e16z (And.intro @eq23 (And.intro @hne (And.intro @hz2 (And.intro @hz3 @hz4)))))
 refine Tr.wD hcx hMO [1000104] [some 66, some 67, some 68, some 69, some 70, some 71, some 72, some 73, some 74, some 75, some 76, some 77, some 78, some 79, some 80, some 81, some 82, some 83, some 84, some 85, some 86, some 87, some 88, some 89, some 90, some 91, some 92, some 93, some 94, some 95, some 96, some 97, some 98, some 99, some 100, some 101, some 102, some 103, some 104, some 0] [] rfl rfl rfl rfl ?_ Y_fc9
 refine Tr.k [0] ?_
 exact Tr.ret F_fc9
end Go.Sx
namespace Go.Sx
open Go.RowKit Go.Proofs
/-! The keys. -/
theorem sg_laid : laidOutB Tryd.prog = true := by kernel_rfl
theorem sg_row28 : (28 : TypeId) < Tryd.prog.types.size := of_decide_eq_true (by kernel_rfl)
theorem sg_u28 : Tryd.prog.underlying 28 = some (.array 2 3) := by kernel_rfl
theorem sg_u3 : Tryd.prog.underlying 3 = some (.int .i64) := by kernel_rfl
theorem sg_c28 : Tryd.prog.cellsOf 28 = 2 := by kernel_rfl
theorem sg_c3 : Tryd.prog.cellsOf 3 = 1 := by kernel_rfl
theorem sg_k28 : Tryd.prog.keyType 28 = true := by kernel_rfl
theorem sg_at28 : Tryd.prog.keyTypeAt 2 28 = true := by kernel_rfl
theorem sg_law : WideMaps.KeyLaw Tryd.prog 28 := deep_law_laid sg_laid (m := 2) (Nat.le_of_ble_eq_true rfl) sg_row28 sg_at28 (by rw [sg_u28])
theorem keyOf_G {P : Program} (hsz : 28 < P.types.size) (u28 : P.underlying 28 = some (.array 2 3)) (u3 : P.underlying 3 = some (.int .i64)) (c28 : P.cellsOf 28 = 2) (c3 : P.cellsOf 3 = 1) (k28 : P.keyType 28 = true)
    (a b : Int) (h : 0 ≤ a ∧ a < 1000000 ∧ 0 ≤ b ∧ b < 1000000) : ∃ l, Go.keyOf P 28 (.agg #[.int .i64 a, .int .i64 b]) = some l := by
  obtain ⟨n, hn⟩ : ∃ n, P.types.size + 1 = n + 2 := ⟨P.types.size - 1, by omega⟩
  have hmin : IntKind.i64.min = -9223372036854775808 := by decide
  have hmax : IntKind.i64.max = 9223372036854775807 := by decide
  have hw : ∀ x : Int, 0 ≤ x ∧ x < 1000000 → (Lit.int .i64 x).wf = true := fun x hx => by
    simp only [Lit.wf, hmin, hmax, Bool.and_eq_true, decide_eq_true_eq]; omega
  have h1 : ∀ x : Int, 0 ≤ x ∧ x < 1000000 → P.keyLits (n + 1) 3 [.int .i64 x] = some [.int .i64 x] := fun x hx => by
    simp only [Program.keyLits, u3, hw x hx, and_self, if_true]
  have hk : P.keyLits (n + 2) 28 [.int .i64 a, .int .i64 b] = some [.int .i64 a, .int .i64 b] := by
    have hr : List.range 2 = [0, 1] := rfl
    simp only [Program.keyLits, u28, u3, c28, c3, hr, hw a ⟨h.1, h.2.1⟩, hw b ⟨h.2.2.1, h.2.2.2⟩, List.length_cons, List.length_nil, Nat.mul_one, Nat.reduceAdd, List.mapM_cons, List.mapM_nil, List.drop_zero, List.drop_succ_cons, List.take_succ_cons, List.take_zero, and_self, Option.bind_eq_bind, Option.bind_some, Option.pure_def, Option.map_some, if_true, List.flatten_cons, List.flatten_nil, List.cons_append, List.nil_append]
  refine ⟨Lit.string (keyBytes [.int .i64 a, .int .i64 b]), ?_⟩
  unfold Go.keyOf
  rw [u28]
  have hf : (Value.agg #[.int .i64 a, .int .i64 b]).formed P 28 = true := by simp [Value.formed, u28, c28]
  simp only [k28, hf, Bool.and_self, if_true, hn]
  have hc : (Value.agg #[.int .i64 a, .int .i64 b]).cells.toList = [.int .i64 a, .int .i64 b] := rfl
  rw [hc, hk]; rfl
theorem keyOf_T (a b : Int) (h : 0 ≤ a ∧ a < 1000000 ∧ 0 ≤ b ∧ b < 1000000) : ∃ l, Go.keyOf Tryd.prog 28 (.agg #[.int .i64 a, .int .i64 b]) = some l := keyOf_G sg_row28 sg_u28 sg_u3 sg_c28 sg_c3 sg_k28 a b h
theorem km_ok (k : TypeId) (u : Value) (h : kmS k u = true) : Go.Maps.Keyed Tryd.prog k ∧ ∃ l, Go.keyOf Tryd.prog k u = some l := by
  unfold kmS at h
  simp only [Bool.and_eq_true, beq_iff_eq] at h
  obtain ⟨rfl, h⟩ := h
  refine ⟨Go.Maps.Keyed.of_law sg_law, ?_⟩
  split at h
  · rename_i vs
    split at h
    · rename_i a b hl
      have hv : vs = #[.int .i64 a, .int .i64 b] := by apply Array.ext'; rw [hl]
      subst hv
      exact keyOf_T a b (of_decide_eq_true h)
    · cases h
  · cases h
/-! Moves of rows. -/
mutual
theorem bk_flat (r : Nat → Nat) : ∀ c : C, flat c = true → bkC r c = c
  | .val _, _ => by simp only [bkC]
  | .agg xs, h => by simp only [flat] at h; simp only [bkC, bks_flat r xs h]
  | .tup xs, h => by simp only [flat] at h; simp only [bkC, bks_flat r xs h]
  | .top, h => by simp [flat] at h
  | .sl _ _ _, h => by simp [flat] at h
  | .sv _ _ _, h => by simp [flat] at h
  | .gv _ _ _, h => by simp [flat] at h
  | .bp _ _, h => by simp [flat] at h
  | .bt _ _ _, h => by simp [flat] at h
  | .mp _, h => by simp [flat] at h
  | .kp _, h => by simp [flat] at h
  | .fn _ _, h => by simp [flat] at h
theorem bks_flat (r : Nat → Nat) : ∀ l : List C, flats l = true → bkCs r l = l
  | [], _ => by simp only [bkCs]
  | x :: xs, h => by simp only [flats, Bool.and_eq_true] at h; simp only [bkCs, bk_flat r x h.1, bks_flat r xs h.2]
end
theorem bks_cl (r : Nat → Nat) {α : Type} (f : α → List C) [h : Fla f] (l : List α) : bkCs r (cl f l) = cl f l := bks_flat r _ (flats_cl f l)
theorem bk_sl (r : Nat → Nat) {α : Type} (f : α → List C) [h : Fla f] (q : Rt) (l : List α) : bkC r (sl f q l) = sl f q l := by unfold sl; simp only [bkC, bks_cl]
theorem live_clb (p : List UInt8) : (liveC (some (cl bC p))).isSome = true := by cases p <;> rfl
theorem cl_bC_inj {p q : List UInt8} (h : cl bC p = cl bC q) : p = q := cl_inj.1 h
theorem ents_inj (seed : List UInt8) : ∀ {M N : List (Nat × Nat)}, ents seed M = ents seed N → M = N
  | [], [], _ => rfl
  | [], _ :: _, h => by simp [ents] at h
  | _ :: _, [], h => by simp [ents] at h
  | (a, b) :: M, (a', b') :: N, h => by
    simp only [ents, List.cons.injEq, C.val.injEq] at h
    obtain ⟨h1, _, h3⟩ := h
    simp only [keyT, nI] at h1
    have h2 : a = a' ∧ b = b' := by
      injection h1 with h1
      have := congrArg Array.toList h1
      simp only [List.cons.injEq, Value.int.injEq, true_and, and_true] at this
      exact ⟨by exact_mod_cast this.1, by exact_mod_cast this.2⟩
    rw [h2.1, h2.2, ents_inj seed h3]
theorem mapC_inj {l m : List C} (h : mapC l = mapC m) : l = m := by
  simp only [mapC, List.cons.injEq, C.tup.injEq, true_and, and_true] at h; exact h
section
variable {gl : Nat → C} {pu : Nat → List C → Option C}
def hp0 : Nat → List C → Hp → Option (C × Hp) := fun _ _ _ => none
theorem q0 (hP : CxOK (cxP gl 0 pu)) (M : Nat) : CxOK (cxQ gl M pu hp0) := ⟨hP.glo, hP.pu, fun f a h c h' e => absurd e (by simp [cxQ, hp0]), fun k u h => km_ok k u h⟩
theorem enteredOf {f : Nat} {fn : Func} (h : Tryd.prog.funcs[f]? = some fn) (h1 : (fn.name == "runtime.NumGoroutine") = false) (h2 : fn.body.isNone = false) : Entered Tryd.prog f := ⟨fn, h, h1, h2⟩
abbrev D47 := {x : Bool × C × Hp // x.2.1.noOwn}
def enc47 (x : D47) : List C × Hp := ([.bt 0 54 2], some [bld0 x.1.1, x.1.2.1] :: x.1.2.2)
def out47 (x : D47) : C × Hp := (.tup [], some [.bt 0 54 2, x.1.2.1] :: x.1.2.2)
theorem ij47 (a b : D47) (h : enc47 a = enc47 b) : out47 a = out47 b := by
  obtain ⟨⟨f, x, r⟩, hx⟩ := a
  obtain ⟨⟨f', x', r'⟩, hx'⟩ := b
  simp only [enc47, Prod.mk.injEq, List.cons.injEq, Option.some.injEq, true_and, and_true] at h
  simp only [out47, h.1.2, h.2]
noncomputable def hp1 : Nat → List C → Hp → Option (C × Hp) := extH hp0 47 (tabH enc47 out47)
theorem q1 (hP : CxOK (cxP gl 0 pu)) (M : Nat) : CxOK (cxQ gl M pu hp1) := CxOK.extH (N := 0) (enc := enc47) (out := out47) (q0 hP 0) fun a => fc47 (enteredOf Tryd.func47 rfl rfl) a.1.1 a.1.2.1 a.2 a.1.2.2
theorem hq47 (f : Bool) (x : C) (rest : Hp) (hx : x.noOwn) : hp1 47 [.bt 0 54 2] (some [bld0 f, x] :: rest) = some (.tup [], some [.bt 0 54 2, x] :: rest) :=
  (extH_hit _ _).trans (tabH_enc ij47 ⟨(f, x, rest), hx⟩)
def OkH (h : Hp) : Prop := ∀ o ∈ h, okBox o = true
inductive D25 where
  | f (pre : Hp) (p : List UInt8) (h1 : OkH pre) (h2 : 0 < p.length ∧ p.length ≤ 1000000000)
  | u (pre : Hp) (l p : List UInt8) (h1 : OkH pre) (h2 : 0 < p.length ∧ p.length ≤ 1000000000 ∧ l.length ≤ 1000000000)
  | i (pre : Hp) (p : List UInt8) (h1 : OkH pre) (h2 : 0 < p.length ∧ p.length ≤ 1000000000)
  | n (b k m : Nat)
def enc25 : D25 → List C × Hp
  | .f pre p _ _ => ([.bt pre.length 54 2, .sv (pre.length + 1) 0 p.length], pre ++ [some [.val (.pointer none), .val (.slice none 0 0)], some (cl bC p)])
  | .u pre l p _ _ => ([.bt pre.length 54 2, .sv (pre.length + 2) 0 p.length], pre ++ [some [.bt pre.length 54 2, .gv (pre.length + 1) l.length (1, 5)], some (cl bC l), some (cl bC p)])
  | .i pre p _ _ => ([.bt pre.length 54 2, sl bC .no p], pre ++ [some [.val (.pointer none), .val (.slice none 0 0)]])
  | .n b k m => ([.bt b 54 2, .sv k 0 m], [])
def out25 : D25 → C × Hp
  | .f pre p _ _ => (.tup [.val (nI p.length), .val .nilIface], pre ++ [some [.bt pre.length 54 2, .gv (pre.length + 2) p.length (1, 5)], some (cl bC p), some (cl bC p)])
  | .u pre l p _ _ => (.tup [.val (nI p.length), .val .nilIface], pre ++ [some [.bt pre.length 54 2, .gv (pre.length + 3) (l ++ p).length (1, 5)], some deadC, some (cl bC p), some (cl bC (l ++ p))])
  | .i pre p _ _ => (.tup [.val (nI p.length), .val .nilIface], pre ++ [some [.bt pre.length 54 2, .gv (pre.length + 1) p.length (1, 5)], some (cl bC p)])
  | .n _ _ _ => (.top, [])
theorem ij25 (a b : D25) (h : enc25 a = enc25 b) : out25 a = out25 b := by
  cases a with
  | f pre p h1 h2 =>
    cases b with
    | f pre' p' h1' h2' =>
      simp only [enc25, Prod.mk.injEq, List.cons.injEq, C.bt.injEq, C.sv.injEq, and_true, true_and] at h
      obtain ⟨e1, e2⟩ := List.append_inj h.2 h.1.1
      simp only [List.cons.injEq, Option.some.injEq, true_and, and_true] at e2
      rw [out25, out25, e1, cl_bC_inj e2]
    | u pre' l' p' h1' h2' =>
      exfalso
      simp only [enc25, Prod.mk.injEq, List.cons.injEq, C.bt.injEq, C.sv.injEq, and_true, true_and] at h
      omega
    | i pre' p' h1' h2' => exfalso; simp [enc25, sl] at h
    | n b k m => exfalso; simp [enc25] at h
  | u pre l p h1 h2 =>
    cases b with
    | f pre' p' h1' h2' =>
      exfalso
      simp only [enc25, Prod.mk.injEq, List.cons.injEq, C.bt.injEq, C.sv.injEq, and_true, true_and] at h
      omega
    | u pre' l' p' h1' h2' =>
      simp only [enc25, Prod.mk.injEq, List.cons.injEq, C.bt.injEq, C.sv.injEq, and_true, true_and] at h
      obtain ⟨e1, e2⟩ := List.append_inj h.2 h.1.1
      simp only [List.cons.injEq, Option.some.injEq, true_and, and_true] at e2
      rw [out25, out25, e1, cl_bC_inj e2.2.1, cl_bC_inj e2.2.2]
    | i pre' p' h1' h2' => exfalso; simp [enc25, sl] at h
    | n b k m => exfalso; simp [enc25] at h
  | i pre p h1 h2 =>
    cases b with
    | f pre' p' h1' h2' => exfalso; simp [enc25, sl] at h
    | u pre' l' p' h1' h2' => exfalso; simp [enc25, sl] at h
    | i pre' p' h1' h2' =>
      simp only [enc25, Prod.mk.injEq, List.cons.injEq, C.bt.injEq, and_true, true_and] at h
      obtain ⟨e1, e2⟩ := List.append_inj h.2 h.1.1
      have e3 : cl bC p = cl bC p' := by
        have := h.1.2; unfold sl at this; injection this
      rw [out25, out25, e1, cl_bC_inj e3]
    | n b k m => exfalso; simp [enc25, sl] at h
  | n x k m =>
    cases b with
    | f pre' p' h1' h2' => exfalso; simp [enc25] at h
    | u pre' l' p' h1' h2' => exfalso; simp [enc25] at h
    | i pre' p' h1' h2' => exfalso; simp [enc25, sl] at h
    | n x' k' m' => rfl
noncomputable def hp2 : Nat → List C → Hp → Option (C × Hp) := extH hp1 25 (tabH enc25 out25)
theorem q2 (hP : CxOK (cxP gl 0 pu)) (hnr : ∀ (g : Nat) (xs : List C), noRefs 0 xs = false → pu g xs = none) (M : Nat) : CxOK (cxQ gl M pu hp2) := CxOK.extH (N := 0) (enc := enc25) (out := out25) (q1 hP 0) fun a => by
  have hg := (q1 hP 0).glo
  cases a with
  | f pre p h1 h2 =>
    have h := FC.pre (fc25f (q1 hP 0) hq47 hnr p h2.1 h2.2) pre h1 (by
      intro o ho; simp only [List.mem_cons, List.not_mem_nil, or_false] at ho
      rcases ho with rfl | rfl
      · rfl
      · rw [live_clb]; rfl) rfl (nrH_mem (by simp only [nrH_some, nrH_nil, noRefs_cl]; rfl)) (by simp) hg
    simp only [shH_cons, shH_nil, Option.map_some, bks_cl, bkCs, bkC, Nat.add_zero] at h
    exact h
  | u pre l p h1 h2 =>
    have h := FC.pre (fc25u (q1 hP 0) hq47 hnr l p h2.1 h2.2.1 h2.2.2) pre h1 (by
      intro o ho; simp only [List.mem_cons, List.not_mem_nil, or_false] at ho
      rcases ho with rfl | rfl | rfl
      · rfl
      · rw [live_clb]; rfl
      · rw [live_clb]; rfl) rfl (nrH_mem (by simp only [nrH_some, nrH_nil, noRefs_cl]; rfl)) (by simp) hg
    simp only [shH_cons, shH_nil, Option.map_some, bks_cl, bkCs, bkC, Nat.add_zero, deadC] at h
    exact h
  | i pre p h1 h2 =>
    have h := FC.pre (fc25a (q1 hP 0) hq47 hnr p h2.1 h2.2) pre h1 (by
      intro o ho; simp only [List.mem_cons, List.not_mem_nil, or_false] at ho
      subst ho; rfl) (by simp only [noRefs_cons, noRefs_nil, noRef_sl]; rfl) (nrH_mem (by simp only [nrH_some, nrH_nil]; rfl)) (by simp) hg
    simp only [shH_cons, shH_nil, Option.map_some, bks_cl, bk_sl, bkCs, bkC, Nat.add_zero] at h
    exact h
  | n b k m => exact FC.never (enteredOf Tryd.func25 rfl rfl) b 54 2 _ rfl
theorem hq25f (pre : Hp) (p : List UInt8) (h1 : ∀ o ∈ pre, okBox o = true) (h2 : 0 < p.length ∧ p.length ≤ 1000000000) : hp2 25 (enc25 (.f pre p h1 h2)).1 (enc25 (.f pre p h1 h2)).2 = some (out25 (.f pre p h1 h2)) := (extH_hit _ _).trans (tabH_enc ij25 (.f pre p h1 h2))
theorem hq25u (pre : Hp) (l p : List UInt8) (h1 : ∀ o ∈ pre, okBox o = true) (h2 : 0 < p.length ∧ p.length ≤ 1000000000 ∧ l.length ≤ 1000000000) : hp2 25 (enc25 (.u pre l p h1 h2)).1 (enc25 (.u pre l p h1 h2)).2 = some (out25 (.u pre l p h1 h2)) := (extH_hit _ _).trans (tabH_enc ij25 (.u pre l p h1 h2))
theorem hq25i (pre : Hp) (p : List UInt8) (h1 : ∀ o ∈ pre, okBox o = true) (h2 : 0 < p.length ∧ p.length ≤ 1000000000) : hp2 25 (enc25 (.i pre p h1 h2)).1 (enc25 (.i pre p h1 h2)).2 = some (out25 (.i pre p h1 h2)) := (extH_hit _ _).trans (tabH_enc ij25 (.i pre p h1 h2))
theorem hq25n (b k m : Nat) : ∃ r, hp2 25 [.bt b 54 2, .sv k 0 m] [] = some r := ⟨_, (extH_hit _ _).trans (tabH_enc ij25 (.n b k m))⟩
abbrev D29 := {x : Hp × Hp × List UInt8 // OkH x.1 ∧ OkH x.2.1 ∧ x.2.2 ≠ [] ∧ x.2.2.length ≤ 1000000000}
def enc29 (x : D29) : List C × Hp := ([.bt x.1.1.length 54 2], x.1.1 ++ ([some [.bt x.1.1.length 54 2, .gv (x.1.1.length + 1) x.1.2.2.length (1, 5)], some (cl bC x.1.2.2)] ++ x.1.2.1))
def out29 (x : D29) : C × Hp := (.val (str x.1.2.2), x.1.1 ++ ([some deadC, some deadC] ++ x.1.2.1))
theorem ij29 (a b : D29) (h : enc29 a = enc29 b) : out29 a = out29 b := by
  obtain ⟨⟨pre, suf, l⟩, h1, h2, h3⟩ := a
  obtain ⟨⟨pre', suf', l'⟩, h1', h2', h3'⟩ := b
  simp only [enc29, Prod.mk.injEq, List.cons.injEq, C.bt.injEq, and_true, true_and] at h
  obtain ⟨e1, e2⟩ := List.append_inj h.2 h.1
  simp only [List.cons_append, List.nil_append, List.cons.injEq, Option.some.injEq, true_and, and_true] at e2
  simp only [out29, e1, e2.2.2, cl_bC_inj e2.2.1]
noncomputable def hp3 : Nat → List C → Hp → Option (C × Hp) := extH hp2 29 (tabH enc29 out29)
theorem q3 (hP : CxOK (cxP gl 0 pu)) (hnr : ∀ (g : Nat) (xs : List C), noRefs 0 xs = false → pu g xs = none) (M : Nat) : CxOK (cxQ gl M pu hp3) := CxOK.extH (N := 0) (enc := enc29) (out := out29) (q2 hP hnr 0) fun a => by
  obtain ⟨⟨pre, suf, l⟩, h1, h2, h3, h4⟩ := a
  simp only at h3 h4
  have h := FC.mid (fc29 (gl := gl) (enteredOf Tryd.func29 rfl rfl) l h3 (by omega)) pre suf h1 h2 (by
      intro o ho; simp only [List.mem_cons, List.not_mem_nil, or_false] at ho
      rcases ho with rfl | rfl
      · rfl
      · rw [live_clb]; rfl) rfl (nrH_mem (by simp only [nrH_some, nrH_nil, noRefs_cl]; rfl)) (by simp) (q1 hP 0).glo
  simp only [shH_cons, shH_nil, Option.map_some, bks_cl, bkCs, bkC, Nat.add_zero, deadC, List.length_cons, List.length_nil, List.take_succ_cons, List.take_zero, List.drop_succ_cons, List.drop_zero, List.map_cons, List.map_nil, List.append_nil] at h
  exact h
theorem hq29 (pre suf : Hp) (l : List UInt8) (h1 : ∀ o ∈ pre, okBox o = true) (h2 : ∀ o ∈ suf, okBox o = true) (h3 : l ≠ [] ∧ l.length ≤ 1000000000) : hp3 29 [.bt pre.length 54 2] (pre ++ ([some [.bt pre.length 54 2, .gv (pre.length + 1) l.length (1, 5)], some (cl bC l)] ++ suf)) = some (.val (str l), pre ++ ([some deadC, some deadC] ++ suf)) :=
  (extH_hit _ _).trans (tabH_enc ij29 ⟨(pre, suf, l), h1, h2, h3⟩)
theorem hp3_25 (xs : List C) (h : Hp) : hp3 25 xs h = hp2 25 xs h := extH_miss (by decide) xs h
abbrev D22 := {x : Hp × List UInt8 // OkH x.1}
def enc22 (x : D22) : List C × Hp := ([.val (str x.1.2)], x.1.1)
def out22 (x : D22) : C × Hp := (.fn 44 [.kp [.mp x.1.1.length], .kp [.val (str x.1.2)], atK x.1.1.length x.1.2 8], x.1.1 ++ [some (mapC (ents x.1.2 []))])
theorem ij22 (a b : D22) (h : enc22 a = enc22 b) : out22 a = out22 b := by
  obtain ⟨⟨pre, s⟩, h1⟩ := a
  obtain ⟨⟨pre', s'⟩, h1'⟩ := b
  simp only [enc22, Prod.mk.injEq, List.cons.injEq, C.val.injEq, str_inj, and_true] at h
  simp only [out22, h.1, h.2]
noncomputable def hp4 : Nat → List C → Hp → Option (C × Hp) := extH hp3 22 (tabH enc22 out22)
theorem q4 (hP : CxOK (cxP gl 0 pu)) (hnr : ∀ (g : Nat) (xs : List C), noRefs 0 xs = false → pu g xs = none) (M : Nat) : CxOK (cxQ gl M pu hp4) := CxOK.extH (N := 0) (enc := enc22) (out := out22) (q3 hP hnr 0) fun a => by
  obtain ⟨⟨pre, s⟩, h1⟩ := a
  have h := FC.pre (fc22n (q3 hP hnr 0) s) pre h1 (by intro o ho; cases ho) rfl (by intro o ho; cases ho) (by simp) (q1 hP 0).glo
  simp only [shH_cons, shH_nil, Option.map_some, bkCs, bkC, Nat.add_zero, List.append_nil, atK_bk, mapC] at h
  exact h
theorem hq22 (pre : Hp) (seed : List UInt8) (h1 : ∀ o ∈ pre, okBox o = true) : hp4 22 [.val (str seed)] pre = some (.fn 44 [.kp [.mp pre.length], .kp [.val (str seed)], atK pre.length seed 8], pre ++ [some (mapC (ents seed []))]) :=
  (extH_hit _ _).trans (tabH_enc ij22 ⟨(pre, seed), h1⟩)
structure A44 where
  pre : Hp
  suf : Hp
  seed : List UInt8
  l : Nat
  k : Nat
  d : Nat
  M : List (Nat × Nat)
abbrev D44 (L : Nat) := {x : A44 // OkH x.pre ∧ OkH x.suf ∧ x.seed.length ≤ 1000000 ∧ OkM x.M ∧ (x.k + 1) * 2 ^ x.l ≤ 1000000 ∧ x.l < 7 ∧ x.l ≤ x.d ∧ x.l < L}
def enc44 (L : Nat) (x : D44 L) : List C × Hp := ([.val (nI x.1.l), .val (nI x.1.k), .kp [.mp x.1.pre.length], .kp [.val (str x.1.seed)], atK x.1.pre.length x.1.seed x.1.d], x.1.pre ++ ([some (mapC (ents x.1.seed x.1.M))] ++ x.1.suf))
def out44 (L : Nat) (x : D44 L) : C × Hp := (.agg (cl bC (treeT x.1.seed x.1.l x.1.k)), x.1.pre ++ ([some (mapC (ents x.1.seed (vis x.1.l x.1.k x.1.M)))] ++ x.1.suf))
theorem ij44 (L : Nat) (a b : D44 L) (h : enc44 L a = enc44 L b) : out44 L a = out44 L b := by
  obtain ⟨⟨pre, suf, seed, l, k, d, M⟩, h1⟩ := a
  obtain ⟨⟨pre', suf', seed', l', k', d', M'⟩, h1'⟩ := b
  simp only [enc44, Prod.mk.injEq, List.cons.injEq, C.val.injEq, C.kp.injEq, C.mp.injEq, str_inj, nI_inj, and_true] at h
  obtain ⟨⟨e1, e2, e3, e4, _⟩, e5⟩ := h
  obtain ⟨f1, f2⟩ := List.append_inj e5 e3
  simp only [List.cons_append, List.nil_append, List.cons.injEq, Option.some.injEq] at f2
  subst e4
  have := ents_inj seed (mapC_inj f2.1)
  simp only [out44, e1, e2, f1, f2.2, this]
noncomputable def hp5 (L : Nat) : Nat → List C → Hp → Option (C × Hp) := extH hp4 44 (tabH (enc44 L) (out44 L))
theorem hq44 (L : Nat) (pre suf : Hp) (seed : List UInt8) (l k d : Nat) (M : List (Nat × Nat)) (h1 : ∀ o ∈ pre, okBox o = true) (h2 : ∀ o ∈ suf, okBox o = true) (h3 : seed.length ≤ 1000000) (h4 : OkM M) (h5 : (k + 1) * 2 ^ l ≤ 1000000) (h6 : l < 7) (h7 : l ≤ d) (h8 : l < L) :
    hp5 L 44 [.val (nI l), .val (nI k), .kp [.mp pre.length], .kp [.val (str seed)], atK pre.length seed d] (pre ++ ([some (mapC (ents seed M))] ++ suf)) = some (.agg (cl bC (treeT seed l k)), pre ++ ([some (mapC (ents seed (vis l k M)))] ++ suf)) :=
  (extH_hit _ _).trans (tabH_enc (ij44 L) ⟨⟨pre, suf, seed, l, k, d, M⟩, h1, h2, h3, h4, h5, h6, h7, h8⟩)
theorem q5 (hP : CxOK (cxP gl 0 pu)) (hnr : ∀ (g : Nat) (xs : List C), noRefs 0 xs = false → pu g xs = none)
    (h38 : ∀ (seed : List UInt8) (k : Nat), seed.length ≤ 1000000 → k < 1000000 → pu 38 [.fn 45 [.kp [.val (nI k)], .kp [.val (str seed)]]] = some (.agg (cl bC (leafT seed k))))
    (h40 : ∀ a b : List UInt8, a.length = 16 → b.length = 16 → pu 40 [.agg (cl bC a), .agg (cl bC b)] = some (.agg (cl bC (nodT a b)))) : ∀ (L M : Nat), CxOK (cxQ gl M pu (hp5 L))
  | L, M0 => CxOK.extH (N := 0) (enc := enc44 L) (out := out44 L) (q4 hP hnr 0) fun a => by
    obtain ⟨⟨pre, suf, seed, l, k, d, M⟩, h1, h2, h3, h4, h5, h6, h7, h8⟩ := a
    simp only at h1 h2 h3 h4 h5 h6 h7 h8
    have small : FC Tryd.prog gl 44 [.val (nI l), .val (nI k), .kp [.mp 0], .kp [.val (str seed)], atK 0 seed d] [some (mapC (ents seed M))] (.agg (cl bC (treeT seed l k))) [some (mapC (ents seed (vis l k M)))] := by
      cases l with
      | zero => exact fc44z (q4 hP hnr 0) seed d k M h4 (by have := bd_lk h5; exact this.2) h3 hnr h38
      | succ l =>
        obtain ⟨d', rfl⟩ : ∃ d', d = d' + 1 := ⟨d - 1, by omega⟩
        cases L with
        | zero => omega
        | succ L =>
          exact fc44s (q5 hP hnr h38 h40 L 0) seed l d' k M h4 ⟨h5, by omega⟩ h3 hnr (fun M k suf hM hk hs => hq44 L [] suf seed l k d' M (by intro o ho; cases ho) hs h3 hM hk (by omega) (by omega) (by omega)) h40
    have h := FC.mid small pre suf h1 h2 (by
      intro o ho; simp only [List.mem_cons, List.not_mem_nil, or_false] at ho
      subst ho; rfl) (by simp [noRefs, noRef, atK_nr]) (nrH_mem (rowT_nr seed M)) (by simp) (q1 hP 0).glo
    simp only [shH_cons, shH_nil, Option.map_some, bks_cl, bkCs, bkC, Nat.add_zero, List.length_cons, List.length_nil, List.take_succ_cons, List.take_zero, List.drop_succ_cons, List.drop_zero, List.map_cons, List.map_nil, List.append_nil, atK_bk, bks_flat _ _ (mapC_fl _ _)] at h
    exact h
theorem hp5_miss (L : Nat) {g : Nat} (n : g ≠ 44) (n2 : g ≠ 22) (xs : List C) (h : Hp) : hp5 L g xs h = hp3 g xs h := (extH_miss n xs h).trans (extH_miss n2 xs h)
theorem hp5_25 (L : Nat) (xs : List C) (h : Hp) : hp5 L 25 xs h = hp2 25 xs h := (hp5_miss L (by decide) (by decide) xs h).trans (hp3_25 xs h)
theorem hp5_22 (L : Nat) (xs : List C) (h : Hp) : hp5 L 22 xs h = hp4 22 xs h := extH_miss (by decide) xs h
end
end Go.Sx
