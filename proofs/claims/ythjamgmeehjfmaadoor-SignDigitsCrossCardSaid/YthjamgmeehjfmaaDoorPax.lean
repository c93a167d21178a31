/-
  Package sign: keys and signatures. And what follows.
-/
import Derived.Test.YthjamgmeehjfmaaDoorPaw
import Derived.Test.YthjamgmeehjfmaaDoorPas
import Derived.Test.YthjamgmeehjfmaaDoorPat
set_option linter.unusedSimpArgs false
set_option linter.unusedVariables false
namespace Go.Sx
open Go.RowKit Go.Proofs
theorem xor1_nat (x : Nat) : x ^^^ 1 = sib x := by
  unfold sib
  apply Nat.eq_of_testBit_eq
  intro j
  rw [Nat.testBit_xor]
  by_cases h : x % 2 = 1
  · rw [if_pos h]
    obtain ⟨q, rfl⟩ : ∃ q, x = 2 * q + 1 := ⟨x / 2, by omega⟩
    cases j with
    | zero => simp
    | succ j => simp [Nat.testBit_succ]; congr 1; omega
  · rw [if_neg h]
    obtain ⟨q, rfl⟩ : ∃ q, x = 2 * q := ⟨x / 2, by omega⟩
    cases j with
    | zero => simp
    | succ j => simp [Nat.testBit_succ]; congr 1; omega
theorem i_xor1 (P : Program) (t : TypeId) (x : Nat) (h : x < 4611686018427387904) : binPlan P .xor t (.val (nI x)) (.val (nI 1)) = some (vp (.val (nI (sib x)))) := by
  simp only [nI, bin_int]
  show some (vp (.val (.int .i64 (IntKind.wrap .i64 ((BitVec.ofInt 64 (x : Int) ^^^ BitVec.ofInt 64 ((1 : Nat) : Int)).toNat : Int))))) = _
  rw [BitVec.ofInt_natCast, BitVec.ofInt_natCast, BitVec.toNat_xor, BitVec.toNat_ofNat, BitVec.toNat_ofNat, Nat.mod_eq_of_lt (show x < 2 ^ 64 by omega)]
  have hs : sib x < 9223372036854775808 := by unfold sib; split <;> omega
  rw [show 1 % 2 ^ 64 = 1 from rfl, xor1_nat, wrap_i64 _ (by omega) (by omega)]
/-- The nodes that have been computed. -/
def auM (i : Nat) (M : List (Nat × Nat)) : Nat → List (Nat × Nat)
  | 0 => M
  | l + 1 => vis l (sib (i / 2 ^ l)) (auM i M l)
theorem auM_ok (i k : Nat) {M : List (Nat × Nat)} (h : OkM M) (hik : i < 2 ^ k) (hk : k ≤ 6) : ∀ l, l ≤ k → OkM (auM i M l)
  | 0, _ => h
  | l + 1, hl => by
    refine vis_ok ?_ (auM_ok i k h hik hk l (by omega))
    have hjl : i / 2 ^ l < 2 ^ (k - l) := by
      rw [Nat.div_lt_iff_lt_mul (pow_pos2 l), ← Nat.pow_add, show k - l + l = k by omega]; exact hik
    have hph := pow_half (h := k) (l := l) (by omega)
    have hsbl := sib_lt (j := i / 2 ^ l) (p := 2 ^ (k - (l + 1))) (by omega)
    have h1 : (sib (i / 2 ^ l) + 1) * 2 ^ l ≤ 2 ^ (k - l) * 2 ^ l := Nat.mul_le_mul_right _ (by omega)
    rw [← Nat.pow_add, show k - l + l = k by omega] at h1
    have h2 : 2 ^ k ≤ 2 ^ 6 := Nat.pow_le_pow_right (by decide) hk
    omega
theorem wint_gt0 (n : Int) : 0 < (wint n).length := by unfold wint; split <;> simp
theorem okRow3 (t : C) (n : Nat) (s : Nat × Nat) (l : List UInt8) (ht : notTup t = true) : ∀ o ∈ [some [t, .gv 2 n s], some (cl bC l)], okBox o = true := by
  intro o ho
  simp only [List.mem_cons, List.not_mem_nil, or_false] at ho
  rcases ho with rfl | rfl
  · cases t <;> first | rfl | cases ht
  · cases l <;> rfl
theorem okRow4 (t : C) (n : Nat) (s : Nat × Nat) (l : List UInt8) (ht : notTup t = true) : ∀ o ∈ [some [t, .gv 2 n s], some (cl bC l), none], okBox o = true := by
  intro o ho
  simp only [List.mem_cons, List.not_mem_nil, or_false] at ho
  rcases ho with rfl | rfl | rfl
  · cases t <;> first | rfl | cases ht
  · cases l <;> rfl
  · rfl
theorem okM1 (seed : List UInt8) (M : List (Nat × Nat)) : ∀ o ∈ [some (mapC (ents seed M))], okBox o = true := by intro o ho; simp only [List.mem_singleton] at ho; subst ho; rfl
theorem noOk : ∀ o ∈ ([] : Hp), okBox o = true := by intro o ho; cases ho
set_option maxRecDepth 100000 in
set_option maxHeartbeats 8000000 in
theorem fc12 {gl : Nat → C} {M : Nat} {pu : Nat → List C → Option C} {hp : Nat → List C → Hp → Option (C × Hp)} (hcx : CxOK (cxQ gl M pu hp))  (h21 : ∀ h : Int, pu 21 [.val (.int .i64 h)] = some (.val (.bool (decide (0 ≤ h ∧ h ≤ 6))))) (hn22 : ∀ xs, pu 22 xs = none) (hq22 : ∀ (pre : Hp) (seed : List UInt8), (∀ o ∈ pre, okBox o = true) → hp 22 [.val (str seed)] pre = some (.fn 44 [.kp [.mp pre.length], .kp [.val (str seed)], atK pre.length seed 8], pre ++ [some (mapC (ents seed []))])) (hq44 : ∀ (pre suf : Hp) (seed : List UInt8) (l k : Nat) (M : List (Nat × Nat)), (∀ o ∈ pre, okBox o = true) → (∀ o ∈ suf, okBox o = true) → seed.length ≤ 1000000 → OkM M → (k + 1) * 2 ^ l ≤ 1000000 ∧ l < 7 → hp 44 [.val (nI l), .val (nI k), .kp [.mp pre.length], .kp [.val (str seed)], atK pre.length seed 8] (pre ++ ([some (mapC (ents seed M))] ++ suf)) = some (.agg (cl bC (treeT seed l k)), pre ++ ([some (mapC (ents seed (vis l k M)))] ++ suf))) (hnr : ∀ (g : Nat) (xs : List C), noRefs 0 xs = false → pu g xs = none) (seed : List UInt8) (h : Int) (hs : seed.length ≤ 1000000) : FC Tryd.prog gl 12 [.val (str seed), .val (.int .i64 h)] [] (.tup [.agg (cl bC (pubT seed h).1), .val (nI (pubT seed h).2)]) [] := by
 replace hcx := hcx.reN (M := 19)
 refine FC.ofA (cx := cxQ gl 19 pu hp) (rs := [.cell 4 23, .tmp 5]) rfl Tryd.func12 rfl rfl rfl (by simp only [List.length_cons, List.length_nil]; decide) (by simp only [go_sem]) ?_
 simp only [ini, go_sem]
 have e21 := h21 h
 refine Tr.seqK fun K1 hK1 => ?_
 refine Tr.rg hcx [] _ [none] rfl rfl rfl ?_
 simp -implicitDefEqProofs (maxSteps := 2000000) (disch := first | omega | (simp only [go_sem, List.length_append, List.length_drop, List.length_take, treeT_len] <;> omega) | decide) only [go_sem, ↓reduceIte, Nat.reduceEqDiff, reduceCtorEq, Nat.reduceLT, Nat.reduceBEq, Nat.reduceAdd, Nat.reduceSub, Nat.reduceMul, Nat.reduceMod]
 refine hK1 _ ?_
 clear hK1 K1
 refine Tr.kp [0, 1, 4] ?_
 simp only [pk_cons, pk_nil, ↓A_cons, ↓reduceIte, Nat.reduceEqDiff]
 refine Tr.seqK fun K2 hK2 => ?_
 refine Tr.seqK fun K3 hK3 => ?_
 by_cases bA : seed.length = 32
 ·
  have bA0 := bA
  by_cases bB : 0 ≤ h ∧ h ≤ 6
  ·
   have bB0 := bB
   have b0 : Fit seed h := ⟨bA0, bB0⟩
   obtain ⟨k, rfl⟩ : ∃ k : Nat, h = (k : Int) := ⟨h.toNat, by have := b0.2.1; omega⟩
   replace e21 : pu 21 [.val (nI k)] = some (.val (.bool (decide (0 ≤ (k : Int) ∧ (k : Int) ≤ 6)))) := e21
   have hk6 : k ≤ 6 := by have := b0.2.2; omega
   have htl := fun l j => treeT_len seed l j
   have hp64 := pow_64 hk6 0
   rw [Nat.sub_zero] at hp64
   refine Tr.rg hcx [] [some 6, some 7, some 8, some 9, some 10, some 11, some 12, some 13] [] rfl rfl rfl ?_
   simp -implicitDefEqProofs (maxSteps := 2000000) (disch := first | omega | (simp only [go_sem, List.length_append, List.length_drop, List.length_take, treeT_len] <;> omega) | decide) only [go_sem, ↓reduceIte, Nat.reduceEqDiff, reduceCtorEq, Nat.reduceLT, Nat.reduceBEq, Nat.reduceAdd, Nat.reduceSub, Nat.reduceMul, Nat.reduceMod, bA, bB, e21]
   refine hK3 _ ?_
   clear hK3 K3
   refine Tr.kp [0, 1, 4, 13] ?_
   simp only [pk_cons, pk_nil, ↓A_cons, ↓reduceIte, Nat.reduceEqDiff]
   refine Tr.condG fun KT KF hT hF => ?_
   simp only [ev_tmp, ev_const, ↓A_cons, ↓reduceIte, Nat.reduceEqDiff, reduceCtorEq, condG_bool, GB_true, GB_false, decide_eq_true_eq]
   refine hF ?_
   clear hT hF KT KF
   refine Tr.skip ?_
   refine hK2 _ ?_
   clear hK2 K2
   refine Tr.kp [0, 1, 4] ?_
   simp only [pk_cons, pk_nil, ↓A_cons, ↓reduceIte, Nat.reduceEqDiff]
   refine Tr.seqK fun K4 hK4 => ?_
   have e22 : hp 22 [.val (str seed)] [some (cl bC (List.replicate 16 0))] = _ := hq22 [some (cl bC (List.replicate 16 0))] seed okZ
   simp only [List.cons_append, List.nil_append, List.length_cons, List.length_nil] at e22
   have en22 := hn22 [.val (str seed)]
   have en44 : ∀ l j q, pu 44 [.val (nI l), .val (nI j), .kp [.mp q], .kp [.val (str seed)], atK q seed 8] = none := fun l j q => hnr 44 _ (by simp [noRefs, noRef])
   have e44 := hq44 [some (cl bC (List.replicate 16 0))] [] seed k 0 [] okZ noOk hs okM_nil ⟨by omega, by omega⟩
   simp only [List.cons_append, List.nil_append, List.length_cons, List.length_nil] at e44
   refine Tr.rg hcx [] _ [] rfl rfl rfl ?_
   simp -implicitDefEqProofs (maxSteps := 2000000) (disch := first | omega | (simp only [go_sem, List.length_append, List.length_drop, List.length_take, treeT_len] <;> omega) | decide) only [go_sem, ↓reduceIte, Nat.reduceEqDiff, reduceCtorEq, Nat.reduceLT, Nat.reduceBEq, Nat.reduceAdd, Nat.reduceSub, Nat.reduceMul, Nat.reduceMod, bA, bB, e22, en22, e44, en44]
   refine hK4 _ ?_
   clear hK4 K4
   refine Tr.kp [4, 5] ?_
   simp only [pk_cons, pk_nil, ↓A_cons, ↓reduceIte, Nat.reduceEqDiff]
   refine Tr.ret ?_
   simp -implicitDefEqProofs (disch := first | omega | (simp only [go_sem, List.length_append, List.length_drop, List.length_take, treeT_len] <;> omega) | decide) only [go_sem, ↓reduceIte, Nat.reduceEqDiff, reduceCtorEq]
   all_goals (first | (rw [pub_T b0]) | (rw [pub_F (fun x => bA0 x.1)]) | (rw [pub_F (fun x => bB0 x.2)]))
  ·
   have bB0 := bB
   replace bB := eq_false bB
   refine Tr.rg hcx [] [some 6, some 7, some 8, some 9, some 10, some 11, some 12, some 13] [] rfl rfl rfl ?_
   simp -implicitDefEqProofs (maxSteps := 2000000) (disch := first | omega | (simp only [go_sem, List.length_append, List.length_drop, List.length_take, treeT_len] <;> omega) | decide) only [go_sem, ↓reduceIte, Nat.reduceEqDiff, reduceCtorEq, Nat.reduceLT, Nat.reduceBEq, Nat.reduceAdd, Nat.reduceSub, Nat.reduceMul, Nat.reduceMod, bA, bB, e21]
   refine hK3 _ ?_
   clear hK3 K3
   refine Tr.kp [0, 1, 4, 13] ?_
   simp only [pk_cons, pk_nil, ↓A_cons, ↓reduceIte, Nat.reduceEqDiff]
   refine Tr.condG fun KT KF hT hF => ?_
   simp only [ev_tmp, ev_const, ↓A_cons, ↓reduceIte, Nat.reduceEqDiff, reduceCtorEq, condG_bool, GB_true, GB_false, decide_eq_true_eq]
   refine hT ?_
   clear hT hF KT KF
   refine Tr.seqK fun K5 hK5 => ?_
   refine Tr.rg hcx [] _ [] rfl rfl rfl ?_
   simp -implicitDefEqProofs (maxSteps := 2000000) (disch := first | omega | (simp only [go_sem, List.length_append, List.length_drop, List.length_take, treeT_len] <;> omega) | decide) only [go_sem, ↓reduceIte, Nat.reduceEqDiff, reduceCtorEq, Nat.reduceLT, Nat.reduceBEq, Nat.reduceAdd, Nat.reduceSub, Nat.reduceMul, Nat.reduceMod, bA, bB]
   refine hK5 _ ?_
   clear hK5 K5
   refine Tr.kp [4, 5] ?_
   simp only [pk_cons, pk_nil, ↓A_cons, ↓reduceIte, Nat.reduceEqDiff]
   refine Tr.ret ?_
   simp -implicitDefEqProofs (disch := first | omega | (simp only [go_sem, List.length_append, List.length_drop, List.length_take, treeT_len] <;> omega) | decide) only [go_sem, ↓reduceIte, Nat.reduceEqDiff, reduceCtorEq]
   all_goals (first | (rw [pub_T b0]) | (rw [pub_F (fun x => bA0 x.1)]) | (rw [pub_F (fun x => bB0 x.2)]))
 ·
  have bA0 := bA
  replace bA := eq_false bA
  refine Tr.rg hcx [] [some 6, some 7, some 8, some 9, some 10, some 11, some 12, some 13] [] rfl rfl rfl ?_
  simp -implicitDefEqProofs (maxSteps := 2000000) (disch := first | omega | (simp only [go_sem, List.length_append, List.length_drop, List.length_take, treeT_len] <;> omega) | decide) only [go_sem, ↓reduceIte, Nat.reduceEqDiff, reduceCtorEq, Nat.reduceLT, Nat.reduceBEq, Nat.reduceAdd, Nat.reduceSub, Nat.reduceMul, Nat.reduceMod, bA, e21]
  refine hK3 _ ?_
  clear hK3 K3
  refine Tr.kp [0, 1, 4, 13] ?_
  simp only [pk_cons, pk_nil, ↓A_cons, ↓reduceIte, Nat.reduceEqDiff]
  refine Tr.condG fun KT KF hT hF => ?_
  simp only [ev_tmp, ev_const, ↓A_cons, ↓reduceIte, Nat.reduceEqDiff, reduceCtorEq, condG_bool, GB_true, GB_false, decide_eq_true_eq]
  refine hT ?_
  clear hT hF KT KF
  refine Tr.seqK fun K6 hK6 => ?_
  refine Tr.rg hcx [] _ [] rfl rfl rfl ?_
  simp -implicitDefEqProofs (maxSteps := 2000000) (disch := first | omega | (simp only [go_sem, List.length_append, List.length_drop, List.length_take, treeT_len] <;> omega) | decide) only [go_sem, ↓reduceIte, Nat.reduceEqDiff, reduceCtorEq, Nat.reduceLT, Nat.reduceBEq, Nat.reduceAdd, Nat.reduceSub, Nat.reduceMul, Nat.reduceMod, bA]
  refine hK6 _ ?_
  clear hK6 K6
  refine Tr.kp [4, 5] ?_
  simp only [pk_cons, pk_nil, ↓A_cons, ↓reduceIte, Nat.reduceEqDiff]
  refine Tr.ret ?_
  simp -implicitDefEqProofs (disch := first | omega | (simp only [go_sem, List.length_append, List.length_drop, List.length_take, treeT_len] <;> omega) | decide) only [go_sem, ↓reduceIte, Nat.reduceEqDiff, reduceCtorEq]
  all_goals (first | (rw [pub_T b0]) | (rw [pub_F (fun x => bA0 x.1)]) | (rw [pub_F (fun x => bB0 x.2)]))
set_option maxRecDepth 100000 in
set_option maxHeartbeats 8000000 in
theorem fc14 {gl : Nat → C} {M : Nat} {pu : Nat → List C → Option C} {hp : Nat → List C → Hp → Option (C × Hp)} (hcx : CxOK (cxQ gl M pu hp))  (h21 : ∀ h : Int, pu 21 [.val (.int .i64 h)] = some (.val (.bool (decide (0 ≤ h ∧ h ≤ 6))))) (hn22 : ∀ xs, pu 22 xs = none) (hq22 : ∀ (pre : Hp) (seed : List UInt8), (∀ o ∈ pre, okBox o = true) → hp 22 [.val (str seed)] pre = some (.fn 44 [.kp [.mp pre.length], .kp [.val (str seed)], atK pre.length seed 8], pre ++ [some (mapC (ents seed []))])) (hq44 : ∀ (pre suf : Hp) (seed : List UInt8) (l k : Nat) (M : List (Nat × Nat)), (∀ o ∈ pre, okBox o = true) → (∀ o ∈ suf, okBox o = true) → seed.length ≤ 1000000 → OkM M → (k + 1) * 2 ^ l ≤ 1000000 ∧ l < 7 → hp 44 [.val (nI l), .val (nI k), .kp [.mp pre.length], .kp [.val (str seed)], atK pre.length seed 8] (pre ++ ([some (mapC (ents seed M))] ++ suf)) = some (.agg (cl bC (treeT seed l k)), pre ++ ([some (mapC (ents seed (vis l k M)))] ++ suf))) (hnr : ∀ (g : Nat) (xs : List C), noRefs 0 xs = false → pu g xs = none) (h26 : ∀ n : Int, -9223372036854775808 ≤ n ∧ n ≤ 9223372036854775807 → pu 26 [.val (.int .i64 n)] = some (sl bC (.own 1) (wint n))) (h16 : ∀ (p : List UInt8) (i : Int) (m : List UInt8), p.length = 16 → (-9223372036854775808 ≤ i ∧ i ≤ 9223372036854775807) → m.length ≤ 1048576 → pu 16 [.agg (cl bC p), .val (.int .i64 i), .val (str m)] = some (.agg (cl bC (msgT p i m)))) (h10 : ∀ d : List UInt8, d.length = 16 → pu 10 [.agg (cl bC d)] = some (sl nC .no (digT d))) (h28 : ∀ (seed : List UInt8) (i c : Nat), seed.length ≤ 1000000 → i < 1000000 ∧ c < 1000000 → pu 28 [.val (str seed), .val (nI i), .val (nI c)] = some (.agg (cl bC (staT seed i c)))) (h27 : ∀ (i c f t : Nat) (v : List UInt8), v.length = 16 → i < 1000000 ∧ c < 1000000 ∧ f < 1000000 ∧ t < 1000000 → pu 27 [.val (nI i), .val (nI c), .val (nI f), .val (nI t), .agg (cl bC v)] = some (.agg (cl bC (advT i c f v (t - f))))) (hq25i : ∀ (pre : Hp) (p : List UInt8), (∀ o ∈ pre, okBox o = true) → 0 < p.length ∧ p.length ≤ 1000000000 → hp 25 [.bt pre.length 54 2, sl bC .no p] (pre ++ [some [.val (.pointer none), .val (.slice none 0 0)]]) = some (.tup [.val (nI p.length), .val .nilIface], pre ++ [some [.bt pre.length 54 2, .gv (pre.length + 1) p.length (1, 5)], some (cl bC p)])) (hq25u : ∀ (pre : Hp) (l p : List UInt8), (∀ o ∈ pre, okBox o = true) → 0 < p.length ∧ p.length ≤ 1000000000 ∧ l.length ≤ 1000000000 → hp 25 [.bt pre.length 54 2, .sv (pre.length + 2) 0 p.length] (pre ++ [some [.bt pre.length 54 2, .gv (pre.length + 1) l.length (1, 5)], some (cl bC l), some (cl bC p)]) = some (.tup [.val (nI p.length), .val .nilIface], pre ++ [some [.bt pre.length 54 2, .gv (pre.length + 3) (l ++ p).length (1, 5)], some deadC, some (cl bC p), some (cl bC (l ++ p))])) (hq25n : ∀ (b k m : Nat), ∃ r, hp 25 [.bt b 54 2, .sv k 0 m] [] = some r) (hq29 : ∀ (pre suf : Hp) (l : List UInt8), (∀ o ∈ pre, okBox o = true) → (∀ o ∈ suf, okBox o = true) → l ≠ [] ∧ l.length ≤ 1000000000 → hp 29 [.bt pre.length 54 2] (pre ++ ([some [.bt pre.length 54 2, .gv (pre.length + 1) l.length (1, 5)], some (cl bC l)] ++ suf)) = some (.val (str l), pre ++ ([some deadC, some deadC] ++ suf))) (seed : List UInt8) (h x : Int) (m : List UInt8) (hs : seed.length ≤ 1000000) (hx : -9223372036854775808 ≤ x ∧ x ≤ 9223372036854775807) (hm : m.length ≤ 1000000000) : FC Tryd.prog gl 14 [.val (str seed), .val (.int .i64 h), .val (.int .i64 x), .val (str m)] [] (.tup [.val (str (signT seed h x m).1), .val (nI (signT seed h x m).2)]) [] := by
 replace hcx := hcx.reN (M := 83)
 refine FC.ofA (cx := cxQ gl 83 pu hp) (rs := [.tmp 8, .tmp 9]) rfl Tryd.func14 rfl rfl rfl (by simp only [List.length_cons, List.length_nil]; decide) (by simp only [go_sem]) ?_
 simp only [ini, go_sem]
 have e21 := h21 h
 have hDl := True.intro
 have hi0 := True.intro
 have hi2 := True.intro
 refine Tr.seqK fun K1 hK1 => ?_
 refine Tr.rg hcx [] _ [] rfl rfl rfl ?_
 simp -implicitDefEqProofs (maxSteps := 2000000) (disch := first | omega | (simp only [go_sem, List.length_append, List.length_drop, List.length_take, treeT_len, advT_len, staT_len, sgR_len, auR_len, hDl] <;> omega) | decide) only [go_sem, ↓reduceIte, Nat.reduceEqDiff, reduceCtorEq, Nat.reduceLT, Nat.reduceBEq, Nat.reduceAdd, Nat.reduceSub, Nat.reduceMul, Nat.reduceMod]
 refine hK1 _ ?_
 clear hK1 K1
 refine Tr.kp [0, 1, 2, 3] ?_
 simp only [pk_cons, pk_nil, ↓A_cons, ↓reduceIte, Nat.reduceEqDiff]
 refine Tr.seqK fun K2 hK2 => ?_
 refine Tr.blk ?_
 refine Tr.seqK fun K3 hK3 => ?_
 by_cases bA : seed.length = 32
 ·
  have bA0 := bA
  by_cases bB : 0 ≤ h ∧ h ≤ 6
  ·
   have bB0 := bB
   have b0 : Fit seed h := ⟨bA0, bB0⟩
   obtain ⟨k, rfl⟩ : ∃ k : Nat, h = (k : Int) := ⟨h.toNat, by have := b0.2.1; omega⟩
   replace e21 : pu 21 [.val (nI k)] = some (.val (.bool (decide (0 ≤ (k : Int) ∧ (k : Int) ≤ 6)))) := e21
   have hk6 : k ≤ 6 := by have := b0.2.2; omega
   have htl := fun l j => treeT_len seed l j
   have hp64 := pow_64 hk6 0
   rw [Nat.sub_zero] at hp64
   refine Tr.rg hcx [1000025] [some 18, some 19, some 20, some 21, some 22, some 23, some 24, some 25, some 17] [] rfl rfl rfl ?_
   simp -implicitDefEqProofs (maxSteps := 2000000) (disch := first | omega | (simp only [go_sem, List.length_append, List.length_drop, List.length_take, treeT_len, advT_len, staT_len, sgR_len, auR_len, hDl] <;> omega) | decide) only [go_sem, ↓reduceIte, Nat.reduceEqDiff, reduceCtorEq, Nat.reduceLT, Nat.reduceBEq, Nat.reduceAdd, Nat.reduceSub, Nat.reduceMul, Nat.reduceMod, bA, bB, e21]
   refine hK3 _ ?_
   clear hK3 K3
   refine Tr.kp [0, 1, 2, 3, 17] ?_
   simp only [pk_cons, pk_nil, ↓A_cons, ↓reduceIte, Nat.reduceEqDiff]
   refine Tr.condG fun KT KF hT hF => ?_
   simp only [ev_tmp, ev_const, ↓A_cons, ↓reduceIte, Nat.reduceEqDiff, reduceCtorEq, condG_bool, GB_true, GB_false, decide_eq_true_eq]
   refine hF ?_
   clear hT hF KT KF
   refine Tr.seqK fun K4 hK4 => ?_
   by_cases b1 : x < ((0 : Nat) : Int)
   ·
    refine Tr.rg hcx [1000034] [some 27, some 28, some 29, some 30, some 31, some 32, some 33, some 34, some 26] [] rfl rfl rfl ?_
    simp -implicitDefEqProofs (maxSteps := 2000000) (disch := first | omega | (simp only [go_sem, List.length_append, List.length_drop, List.length_take, treeT_len, advT_len, staT_len, sgR_len, auR_len, hDl] <;> omega) | decide) only [go_sem, ↓reduceIte, Nat.reduceEqDiff, reduceCtorEq, Nat.reduceLT, Nat.reduceBEq, Nat.reduceAdd, Nat.reduceSub, Nat.reduceMul, Nat.reduceMod, bA, bB, b1, i_shl, Nat.one_mul, hi0, hi2]
    refine hK4 _ ?_
    clear hK4 K4
    refine Tr.kp [0, 1, 2, 3, 26] ?_
    simp only [pk_cons, pk_nil, ↓A_cons, ↓reduceIte, Nat.reduceEqDiff]
    refine Tr.condG fun KT KF hT hF => ?_
    simp only [ev_tmp, ev_const, ↓A_cons, ↓reduceIte, Nat.reduceEqDiff, reduceCtorEq, condG_bool, GB_true, GB_false, decide_eq_true_eq]
    refine hT ?_
    clear hT hF KT KF
    refine Tr.seqK fun K5 hK5 => ?_
    refine Tr.rg hcx [] _ [] rfl rfl rfl ?_
    simp -implicitDefEqProofs (maxSteps := 2000000) (disch := first | omega | (simp only [go_sem, List.length_append, List.length_drop, List.length_take, treeT_len, advT_len, staT_len, sgR_len, auR_len, hDl] <;> omega) | decide) only [go_sem, ↓reduceIte, Nat.reduceEqDiff, reduceCtorEq, Nat.reduceLT, Nat.reduceBEq, Nat.reduceAdd, Nat.reduceSub, Nat.reduceMul, Nat.reduceMod, bA, bB, b1]
    refine hK5 _ ?_
    clear hK5 K5
    refine Tr.kp [8, 9] ?_
    simp only [pk_cons, pk_nil, ↓A_cons, ↓reduceIte, Nat.reduceEqDiff]
    refine Tr.ret ?_
    simp -implicitDefEqProofs (disch := first | omega | (simp only [go_sem, List.length_append, List.length_drop, List.length_take, treeT_len, advT_len, staT_len, sgR_len, auR_len, hDl] <;> omega) | decide) only [go_sem, ↓reduceIte, Nat.reduceEqDiff, reduceCtorEq]
    all_goals (first | (rw [sign_1 (fun x => bA0 x.1)]; done) | (rw [sign_1 (fun x => bB0 x.2)]; done) | (rw [sign_20 b0 (by first | exact Or.inl b1 | exact Or.inr b2)]; done) | (rw [sign_4 b0 hik hc35]; done) | (rw [sign_0 b0 hik (by omega), sigT, ← hD]; done))
   ·
    by_cases b2 : ((2 ^ k : Nat) : Int) ≤ x
    ·
     skip
     refine Tr.rg hcx [1000034] [some 27, some 28, some 29, some 30, some 31, some 32, some 33, some 34, some 26] [] rfl rfl rfl ?_
     simp -implicitDefEqProofs (maxSteps := 2000000) (disch := first | omega | (simp only [go_sem, List.length_append, List.length_drop, List.length_take, treeT_len, advT_len, staT_len, sgR_len, auR_len, hDl] <;> omega) | decide) only [go_sem, ↓reduceIte, Nat.reduceEqDiff, reduceCtorEq, Nat.reduceLT, Nat.reduceBEq, Nat.reduceAdd, Nat.reduceSub, Nat.reduceMul, Nat.reduceMod, bA, bB, b1, b2, i_shl, Nat.one_mul, hi0, hi2]
     refine hK4 _ ?_
     clear hK4 K4
     refine Tr.kp [0, 1, 2, 3, 26] ?_
     simp only [pk_cons, pk_nil, ↓A_cons, ↓reduceIte, Nat.reduceEqDiff]
     refine Tr.condG fun KT KF hT hF => ?_
     simp only [ev_tmp, ev_const, ↓A_cons, ↓reduceIte, Nat.reduceEqDiff, reduceCtorEq, condG_bool, GB_true, GB_false, decide_eq_true_eq]
     refine hT ?_
     clear hT hF KT KF
     refine Tr.seqK fun K6 hK6 => ?_
     refine Tr.rg hcx [] _ [] rfl rfl rfl ?_
     simp -implicitDefEqProofs (maxSteps := 2000000) (disch := first | omega | (simp only [go_sem, List.length_append, List.length_drop, List.length_take, treeT_len, advT_len, staT_len, sgR_len, auR_len, hDl] <;> omega) | decide) only [go_sem, ↓reduceIte, Nat.reduceEqDiff, reduceCtorEq, Nat.reduceLT, Nat.reduceBEq, Nat.reduceAdd, Nat.reduceSub, Nat.reduceMul, Nat.reduceMod, bA, bB, b1, b2]
     refine hK6 _ ?_
     clear hK6 K6
     refine Tr.kp [8, 9] ?_
     simp only [pk_cons, pk_nil, ↓A_cons, ↓reduceIte, Nat.reduceEqDiff]
     refine Tr.ret ?_
     simp -implicitDefEqProofs (disch := first | omega | (simp only [go_sem, List.length_append, List.length_drop, List.length_take, treeT_len, advT_len, staT_len, sgR_len, auR_len, hDl] <;> omega) | decide) only [go_sem, ↓reduceIte, Nat.reduceEqDiff, reduceCtorEq]
     all_goals (first | (rw [sign_1 (fun x => bA0 x.1)]; done) | (rw [sign_1 (fun x => bB0 x.2)]; done) | (rw [sign_20 b0 (by first | exact Or.inl b1 | exact Or.inr b2)]; done) | (rw [sign_4 b0 hik hc35]; done) | (rw [sign_0 b0 hik (by omega), sigT, ← hD]; done))
    ·
     obtain ⟨i, rfl⟩ : ∃ i : Nat, x = (i : Int) := ⟨x.toNat, by omega⟩
     have hik : i < 2 ^ k := by omega
     have hi0 : (i < 0) = False := by simp
     have hi2 : (2 ^ k ≤ i) = False := eq_false (by omega)
     have hi64 : i < 64 := by omega
     refine Tr.rg hcx [1000034] [some 27, some 28, some 29, some 30, some 31, some 32, some 33, some 34, some 26] [] rfl rfl rfl ?_
     simp -implicitDefEqProofs (maxSteps := 2000000) (disch := first | omega | (simp only [go_sem, List.length_append, List.length_drop, List.length_take, treeT_len, advT_len, staT_len, sgR_len, auR_len, hDl] <;> omega) | decide) only [go_sem, ↓reduceIte, Nat.reduceEqDiff, reduceCtorEq, Nat.reduceLT, Nat.reduceBEq, Nat.reduceAdd, Nat.reduceSub, Nat.reduceMul, Nat.reduceMod, bA, bB, b1, b2, i_shl, Nat.one_mul, hi0, hi2]
     refine hK4 _ ?_
     clear hK4 K4
     refine Tr.kp [0, 1, 2, 3, 26] ?_
     simp only [pk_cons, pk_nil, ↓A_cons, ↓reduceIte, Nat.reduceEqDiff]
     refine Tr.condG fun KT KF hT hF => ?_
     simp only [ev_tmp, ev_const, ↓A_cons, ↓reduceIte, Nat.reduceEqDiff, reduceCtorEq, condG_bool, GB_true, GB_false, decide_eq_true_eq]
     refine hF ?_
     clear hT hF KT KF
     refine Tr.seqK fun K7 hK7 => ?_
     refine Tr.rg hcx [1000038] _ [] rfl rfl rfl ?_
     simp -implicitDefEqProofs (maxSteps := 2000000) (disch := first | omega | (simp only [go_sem, List.length_append, List.length_drop, List.length_take, treeT_len, advT_len, staT_len, sgR_len, auR_len, hDl] <;> omega) | decide) only [go_sem, ↓reduceIte, Nat.reduceEqDiff, reduceCtorEq, Nat.reduceLT, Nat.reduceBEq, Nat.reduceAdd, Nat.reduceSub, Nat.reduceMul, Nat.reduceMod, bA, bB, b1, b2]
     refine hK7 _ ?_
     clear hK7 K7
     refine Tr.kp [0, 1, 2, 3, 35] ?_
     simp only [pk_cons, pk_nil, ↓A_cons, ↓reduceIte, Nat.reduceEqDiff]
     refine Tr.condG fun KT KF hT hF => ?_
     simp only [ev_tmp, ev_const, ↓A_cons, ↓reduceIte, Nat.reduceEqDiff, reduceCtorEq, condG_bool, GB_true, GB_false, decide_eq_true_eq]
     refine GB.dec (fun hc35 => hT ?_) (fun hc35 => hF ?_)
     ·
      clear hT hF KT KF
      refine Tr.seqK fun K8 hK8 => ?_
      refine Tr.rg hcx [] _ [] rfl rfl rfl ?_
      simp -implicitDefEqProofs (maxSteps := 2000000) (disch := first | omega | (simp only [go_sem, List.length_append, List.length_drop, List.length_take, treeT_len, advT_len, staT_len, sgR_len, auR_len, hDl] <;> omega) | decide) only [go_sem, ↓reduceIte, Nat.reduceEqDiff, reduceCtorEq, Nat.reduceLT, Nat.reduceBEq, Nat.reduceAdd, Nat.reduceSub, Nat.reduceMul, Nat.reduceMod, bA, bB, b1, b2]
      refine hK8 _ ?_
      clear hK8 K8
      refine Tr.kp [8, 9] ?_
      simp only [pk_cons, pk_nil, ↓A_cons, ↓reduceIte, Nat.reduceEqDiff]
      refine Tr.ret ?_
      simp -implicitDefEqProofs (disch := first | omega | (simp only [go_sem, List.length_append, List.length_drop, List.length_take, treeT_len, advT_len, staT_len, sgR_len, auR_len, hDl] <;> omega) | decide) only [go_sem, ↓reduceIte, Nat.reduceEqDiff, reduceCtorEq]
      all_goals (first | (rw [sign_1 (fun x => bA0 x.1)]; done) | (rw [sign_1 (fun x => bB0 x.2)]; done) | (rw [sign_20 b0 (by first | exact Or.inl b1 | exact Or.inr b2)]; done) | (rw [sign_4 b0 hik hc35]; done) | (rw [sign_0 b0 hik (by omega), sigT, ← hD]; done))
     ·
      clear hT hF KT KF
      have hml : m.length ≤ 1048576 := by omega
      have e16 : pu 16 [.agg (cl bC (treeT seed k 0)), .val (nI i), .val (str m)] = some (.agg (cl bC (msgT (treeT seed k 0) (i : Int) m))) := h16 _ (i : Int) m (treeT_len _ _ _) (by omega) hml
      have hmsl := msgT_len (treeT seed k 0) (i : Int) m
      have e10 := h10 _ hmsl
      have e26 : pu 26 [.val (nI i)] = some (sl bC (.own 1) (wint (i : Int))) := h26 (i : Int) (by omega)
      obtain ⟨D, hD⟩ : ∃ D, D = (digT (msgT (treeT seed k 0) (i : Int) m)) := ⟨_, rfl⟩
      rw [← hD] at e10
      have hDl : D.length = 68 := by rw [hD]; exact digT_len _
      have hD4 : ∀ c, c < 68 → gt D c < 4 := fun c hc => by rw [hD]; exact digT_lt _ c hc
      have hsl := sgR_len seed i D
      have hsl68 := hsl 68
      have hal := auR_len seed i (sgR seed i D 68)
      have hwl0 : 0 < (wint (i : Int)).length := wint_gt0 _
      have hwl := wintn_len i (by omega)
      obtain ⟨M0, hM0⟩ : ∃ M0, M0 = vis k 0 [] := ⟨_, rfl⟩
      have hM0n : OkM M0 := by rw [hM0]; exact vis_ok (by omega) okM_nil
      have hmvM := fun (ρ : List Nat) (M : List (Nat × Nat)) => mvCs_flat ρ (mapC (ents seed M)) (mapC_fl seed M)
      have hmvA := atK_mv 0 0 [0, 1, 4] seed rfl 8
      have e22 : hp 22 [.val (str seed)] ([] : Hp) = _ := hq22 ([] : Hp) seed noOk
      simp only [List.cons_append, List.nil_append, List.length_cons, List.length_nil] at e22
      have en22 := hn22 [.val (str seed)]
      have en44 : ∀ l j q, pu 44 [.val (nI l), .val (nI j), .kp [.mp q], .kp [.val (str seed)], atK q seed 8] = none := fun l j q => hnr 44 _ (by simp [noRefs, noRef])
      have e25i := hq25i [some (mapC (ents seed []))] (wint (i : Int)) (okM1 seed []) ⟨hwl0, by omega⟩
      simp only [List.cons_append, List.nil_append, List.length_cons, List.length_nil] at e25i
      have en25i : pu 25 [.bt 1 54 2, sl bC .no (wint (i : Int))] = none := hnr 25 _ rfl
      have e44 := hq44 [] [some [.bt 1 54 2, .gv 2 (wint (i : Int)).length (1, 5)], some (cl bC (wint (i : Int)))] seed k 0 [] noOk (okRow3 _ _ _ _ rfl) hs okM_nil ⟨by omega, by omega⟩
      rw [← hM0] at e44
      simp only [List.cons_append, List.nil_append, List.length_cons, List.length_nil] at e44
      refine Tr.skip ?_
      refine hK2 _ ?_
      clear hK2 K2
      refine Tr.kp [0, 1, 2, 3] ?_
      simp only [pk_cons, pk_nil, ↓A_cons, ↓reduceIte, Nat.reduceEqDiff]
      refine Tr.seqK fun K9 hK9 => ?_
      refine Tr.rg hcx [1000040] _ [] rfl rfl rfl ?_
      simp -implicitDefEqProofs (maxSteps := 2000000) (disch := first | omega | (simp only [go_sem, List.length_append, List.length_drop, List.length_take, treeT_len, advT_len, staT_len, sgR_len, auR_len, hDl] <;> omega) | decide) only [go_sem, ↓reduceIte, Nat.reduceEqDiff, reduceCtorEq, Nat.reduceLT, Nat.reduceBEq, Nat.reduceAdd, Nat.reduceSub, Nat.reduceMul, Nat.reduceMod, bA, bB, b1, b2, e22, en22]
      refine hK9 _ ?_
      clear hK9 K9
      refine Tr.kp [0, 1, 2, 3, 10] ?_
      simp only [pk_cons, pk_nil, ↓A_cons, ↓reduceIte, Nat.reduceEqDiff]
      refine Tr.seqK fun K10 hK10 => ?_
      refine Tr.rgG hcx [11] [] _ [none] rfl rfl rfl ?_
      simp -implicitDefEqProofs (maxSteps := 2000000) (disch := first | omega | (simp only [go_sem, List.length_append, List.length_drop, List.length_take, treeT_len, advT_len, staT_len, sgR_len, auR_len, hDl] <;> omega) | decide) only [go_sem, ↓reduceIte, Nat.reduceEqDiff, reduceCtorEq, Nat.reduceLT, Nat.reduceBEq, Nat.reduceAdd, Nat.reduceSub, Nat.reduceMul, Nat.reduceMod, bA, bB, b1, b2]
      refine hK10 _ ?_
      clear hK10 K10
      refine Tr.kp [0, 1, 2, 3, 10, 11] ?_
      simp only [pk_cons, pk_nil, ↓A_cons, ↓reduceIte, Nat.reduceEqDiff]
      refine Tr.seqK fun K11 hK11 => ?_
      refine Tr.rg hcx [] _ [] rfl rfl rfl ?_
      simp -implicitDefEqProofs (maxSteps := 2000000) (disch := first | omega | (simp only [go_sem, List.length_append, List.length_drop, List.length_take, treeT_len, advT_len, staT_len, sgR_len, auR_len, hDl] <;> omega) | decide) only [go_sem, ↓reduceIte, Nat.reduceEqDiff, reduceCtorEq, Nat.reduceLT, Nat.reduceBEq, Nat.reduceAdd, Nat.reduceSub, Nat.reduceMul, Nat.reduceMod, bA, bB, b1, b2, e26, e25i, en25i]
      refine hK11 _ ?_
      clear hK11 K11
      refine Tr.kp [0, 1, 2, 3, 10, 11] ?_
      simp only [pk_cons, pk_nil, ↓A_cons, ↓reduceIte, Nat.reduceEqDiff]
      refine Tr.seqK fun K12 hK12 => ?_
      refine Tr.seqK fun K13 hK13 => ?_
      refine Tr.rg hcx [] _ [] rfl rfl rfl ?_
      simp -implicitDefEqProofs (maxSteps := 2000000) (disch := first | omega | (simp only [go_sem, List.length_append, List.length_drop, List.length_take, treeT_len, advT_len, staT_len, sgR_len, auR_len, hDl] <;> omega) | decide) only [go_sem, ↓reduceIte, Nat.reduceEqDiff, reduceCtorEq, Nat.reduceLT, Nat.reduceBEq, Nat.reduceAdd, Nat.reduceSub, Nat.reduceMul, Nat.reduceMod, bA, bB, b1, b2, e44, en44, e16, e10]
      refine hK13 _ ?_
      clear hK13 K13
      refine Tr.kp [0, 1, 2, 10, 11, 50, 51, 52] ?_
      simp only [pk_cons, pk_nil, ↓A_cons, ↓reduceIte, Nat.reduceEqDiff]
      refine Tr.blk ?_
      refine Tr.loopM hcx (α := Nat) (fun a => [(0, ?v0_46), (1, ?v1_46), (2, ?v2_46), (10, ?v10_46), (11, ?v11_46), (50, ?v50_46), (51, ?v51_46), (52, .val (nI a))]) (fun a => [some (mapC (ents seed M0)), some [.bt 1 54 2, .gv 2 (sgR seed i D a).length (1, 5)], some (cl bC (sgR seed i D a))]) (fun a => a ≤ 68) (fun a => 68 - a) (0) (Nat.zero_le _) ?le_46 ?hh_46 ?bd_46
      case hh_46 => exact rfl
      case le_46 => (simp only [Le_nil, Le_cons, ↓A_cons, ↓reduceIte, Nat.reduceEqDiff, reduceCtorEq, CLe_refl, CLe_top, CLe_full, CLe_nil, CLe_own, and_true, true_and]; all_goals (repeat' first | exact CLe.refl _ | exact True.intro | (refine CLe_sln ?_; first | with_reducible rfl | (simp only [List.take_zero]; done) | (rfl; done)) | exact CLe_nI (by omega) | exact CLe_int (by omega) | exact CLe_inI (by omega) | exact CLe_nIi (by omega) | with_reducible apply And.intro))
      case bd_46 =>
       rintro c hc
       refine Tr.seqK fun K14 hK14 => ?_
       refine Tr.rg hcx [] _ [] rfl rfl rfl ?_
       simp -implicitDefEqProofs (maxSteps := 2000000) (disch := first | omega | (simp only [go_sem, List.length_append, List.length_drop, List.length_take, treeT_len, advT_len, staT_len, sgR_len, auR_len, hDl] <;> omega) | decide) only [go_sem, ↓reduceIte, Nat.reduceEqDiff, reduceCtorEq, Nat.reduceLT, Nat.reduceBEq, Nat.reduceAdd, Nat.reduceSub, Nat.reduceMul, Nat.reduceMod, bA, bB, b1, b2]
       refine hK14 _ ?_
       clear hK14 K14
       refine Tr.kp [0, 1, 2, 10, 11, 50, 51, 52, 53] ?_
       simp only [pk_cons, pk_nil, ↓A_cons, ↓reduceIte, Nat.reduceEqDiff]
       refine Tr.seqK fun K15 hK15 => ?_
       refine Tr.condG fun KT KF hT hF => ?_
       simp only [ev_tmp, ev_const, ↓A_cons, ↓reduceIte, Nat.reduceEqDiff, reduceCtorEq, condG_bool, GB_true, GB_false, decide_eq_true_eq]
       refine GB.dec (fun hc53 => hT ?_) (fun hc53 => hF ?_)
       ·
        clear hT hF KT KF
        replace hc53 : c < 68 := hDl ▸ hc53
        have hd4 := hD4 c hc53
        have e28 := h28 seed i c hs ⟨by omega, by omega⟩
        have e27 : pu 27 [.val (nI i), .val (nI c), .val (nI 0), .val (nI (gt D c)), .agg (cl bC (staT seed i c))] = some (.agg (cl bC (advT i c 0 (staT seed i c) (gt D c)))) := h27 i c 0 (gt D c) _ (staT_len _ _ _) ⟨by omega, by omega, by omega, by omega⟩
        have hadl := advT_len i c 0 (staT_len seed i c) (gt D c)
        have hslc := hsl c
        have e25 : hp 25 [.bt 1 54 2, .sv 3 0 16] [some (mapC (ents seed M0)), some [.bt 1 54 2, .gv 2 (sgR seed i D c).length (1, 5)], some (cl bC (sgR seed i D c)), some (cl bC (advT i c 0 (staT seed i c) (gt D c)))] = some (.tup [.val (nI 16), .val .nilIface], [some (mapC (ents seed M0)), some [.bt 1 54 2, .gv 4 (sgR seed i D (c + 1)).length (1, 5)], some deadC, some (cl bC (advT i c 0 (staT seed i c) (gt D c))), some (cl bC (sgR seed i D (c + 1)))]) := by
          have h := hq25u [some (mapC (ents seed M0))] (sgR seed i D c) (advT i c 0 (staT seed i c) (gt D c)) (okM1 seed M0) ⟨by omega, by omega, by omega⟩
          rw [hadl] at h; exact h
        have en25 : pu 25 [.bt 1 54 2, .sv 3 0 16] = none := hnr 25 _ rfl
        obtain ⟨r3, en3⟩ := hq25n 1 3 16
        refine Tr.skip ?_
        refine hK15 _ ?_
        clear hK15 K15
        refine Tr.kp [0, 1, 2, 10, 11, 50, 51, 52] ?_
        simp only [pk_cons, pk_nil, ↓A_cons, ↓reduceIte, Nat.reduceEqDiff]
        refine Tr.seqK fun K16 hK16 => ?_
        refine Tr.blk ?_
        refine Tr.seqK fun K17 hK17 => ?_
        refine Tr.rg hcx [1000054, 1000056] _ [] rfl rfl rfl ?_
        simp -implicitDefEqProofs (maxSteps := 2000000) (disch := first | omega | (simp only [go_sem, List.length_append, List.length_drop, List.length_take, treeT_len, advT_len, staT_len, sgR_len, auR_len, hDl] <;> omega) | decide) only [go_sem, ↓reduceIte, Nat.reduceEqDiff, reduceCtorEq, Nat.reduceLT, Nat.reduceBEq, Nat.reduceAdd, Nat.reduceSub, Nat.reduceMul, Nat.reduceMod, bA, bB, b1, b2]
        refine hK17 _ ?_
        clear hK17 K17
        refine Tr.kp [0, 1, 2, 10, 11, 12, 13, 50, 51, 52] ?_
        simp only [pk_cons, pk_nil, ↓A_cons, ↓reduceIte, Nat.reduceEqDiff]
        refine Tr.seqK fun K18 hK18 => ?_
        refine Tr.rg hcx [] _ [none] rfl rfl rfl ?_
        simp -implicitDefEqProofs (maxSteps := 2000000) (disch := first | omega | (simp only [go_sem, List.length_append, List.length_drop, List.length_take, treeT_len, advT_len, staT_len, sgR_len, auR_len, hDl] <;> omega) | decide) only [go_sem, ↓reduceIte, Nat.reduceEqDiff, reduceCtorEq, Nat.reduceLT, Nat.reduceBEq, Nat.reduceAdd, Nat.reduceSub, Nat.reduceMul, Nat.reduceMod, bA, bB, b1, b2, e28, e27]
        refine hK18 _ ?_
        clear hK18 K18
        refine Tr.kp [0, 1, 2, 10, 11, 14, 50, 51, 52] ?_
        simp only [pk_cons, pk_nil, ↓A_cons, ↓reduceIte, Nat.reduceEqDiff]
        refine Tr.rg hcx [] _ [] rfl rfl rfl ?_
        simp -implicitDefEqProofs (maxSteps := 2000000) (disch := first | omega | (simp only [go_sem, List.length_append, List.length_drop, List.length_take, treeT_len, advT_len, staT_len, sgR_len, auR_len, hDl] <;> omega) | decide) only [go_sem, ↓reduceIte, Nat.reduceEqDiff, reduceCtorEq, Nat.reduceLT, Nat.reduceBEq, Nat.reduceAdd, Nat.reduceSub, Nat.reduceMul, Nat.reduceMod, bA, bB, b1, b2, e25, en25, en3]
        refine hK16 _ ?_
        clear hK16 K16
        refine Tr.kp [0, 1, 2, 10, 11, 50, 51, 52] ?_
        simp only [pk_cons, pk_nil, ↓A_cons, ↓reduceIte, Nat.reduceEqDiff]
        refine Tr.rg hcx [] _ [] rfl rfl rfl ?_
        simp -implicitDefEqProofs (maxSteps := 2000000) (disch := first | omega | (simp only [go_sem, List.length_append, List.length_drop, List.length_take, treeT_len, advT_len, staT_len, sgR_len, auR_len, hDl] <;> omega) | decide) only [go_sem, ↓reduceIte, Nat.reduceEqDiff, reduceCtorEq, Nat.reduceLT, Nat.reduceBEq, Nat.reduceAdd, Nat.reduceSub, Nat.reduceMul, Nat.reduceMod, bA, bB, b1, b2]
        first
        | ((refine ⟨[0, 1, 4], ⟨by decide, by decide, by decide⟩, c + 1, ⟨by omega, by first | omega | (simp only []; omega)⟩, ?_, by simp only [mvH_eq, mvHa_nil, mvHa_cons, hget_0, hget_S, Option.map_some, Option.map_none, mvCs_cl, mvCs_f, mvCs_nil, mvCs_cons, mvC_val, mvC_top, mvC_sl, mvC_gv, mvC_sv, mvC_bp, mvC_agg, mvC_kp, mvGv_some, mvGv_none, mvSv_some, mvSv_none, mvBp_some, mvBp_none, loc_nil, loc_cons, ↓reduceIte, Nat.reduceEqDiff, reduceCtorEq, Nat.reduceAdd, Nat.zero_add, Nat.one_ne_zero, Nat.zero_ne_one, mvC_fn, mvC_bt, mvBt_some, mvBt_none, mvC_mp, mvMp_some, mvMp_none, hmvM] <;> rfl⟩); (simp only [Le_nil, Le_cons, ↓A_cons, CLe_refl, CLe_top, CLe_full, CLe_nil, CLe_own, and_true, true_and, mvH_eq, mvHa_nil, mvHa_cons, hget_0, hget_S, Option.map_some, Option.map_none, mvCs_cl, mvCs_f, mvCs_nil, mvCs_cons, mvC_val, mvC_top, mvC_sl, mvC_gv, mvC_sv, mvC_bp, mvC_agg, mvC_kp, mvGv_some, mvGv_none, mvSv_some, mvSv_none, mvBp_some, mvBp_none, loc_nil, loc_cons, ↓reduceIte, Nat.reduceEqDiff, reduceCtorEq, Nat.reduceAdd, Nat.zero_add, Nat.one_ne_zero, Nat.zero_ne_one, mvC_fn, mvC_bt, mvBt_some, mvBt_none, mvC_mp, mvMp_some, mvMp_none]; all_goals (repeat' first | exact CLe.refl _ | exact True.intro | (with_reducible refine And.intro ?_ ?_))); (all_goals first | exact CLe.refl _ | (rw [hmvA]; exact CLe.refl _)); (done))
       ·
        clear hT hF KT KF
        obtain rfl : c = 68 := by omega
        refine Tr.exit ?_
        refine hK12 _ ?_
        clear hK15 K15 hK12 K12
        refine Tr.kp [1, 2, 10, 11] ?_
        simp only [pk_cons, pk_nil, ↓A_cons, ↓reduceIte, Nat.reduceEqDiff]
        refine Tr.seqK fun K19 hK19 => ?_
        refine Tr.seqK fun K20 hK20 => ?_
        refine Tr.rg hcx [] _ [] rfl rfl rfl ?_
        simp -implicitDefEqProofs (maxSteps := 2000000) (disch := first | omega | (simp only [go_sem, List.length_append, List.length_drop, List.length_take, treeT_len, advT_len, staT_len, sgR_len, auR_len, hDl] <;> omega) | decide) only [go_sem, ↓reduceIte, Nat.reduceEqDiff, reduceCtorEq, Nat.reduceLT, Nat.reduceBEq, Nat.reduceAdd, Nat.reduceSub, Nat.reduceMul, Nat.reduceMod, bA, bB, b1, b2]
        refine hK20 _ ?_
        clear hK20 K20
        refine Tr.kp [2, 10, 11, 68, 69] ?_
        simp only [pk_cons, pk_nil, ↓A_cons, ↓reduceIte, Nat.reduceEqDiff]
        refine Tr.blk ?_
        refine Tr.loopM hcx (α := Nat) (fun a => [(2, ?v2_65), (10, ?v10_65), (11, ?v11_65), (68, ?v68_65), (69, .val (nI a))]) (fun a => [some (mapC (ents seed (auM i M0 a))), some [.bt 1 54 2, .gv 2 (auR seed i (sgR seed i D 68) a).length (1, 5)], some (cl bC (auR seed i (sgR seed i D 68) a))]) (fun a => a ≤ k) (fun a => k - a) (0) (Nat.zero_le _) ?le_65 ?hh_65 ?bd_65
        case hh_65 => exact rfl
        case le_65 => (simp only [Le_nil, Le_cons, ↓A_cons, ↓reduceIte, Nat.reduceEqDiff, reduceCtorEq, CLe_refl, CLe_top, CLe_full, CLe_nil, CLe_own, and_true, true_and]; all_goals (repeat' first | exact CLe.refl _ | exact True.intro | (refine CLe_sln ?_; first | with_reducible rfl | (simp only [List.take_zero]; done) | (rfl; done)) | exact CLe_nI (by omega) | exact CLe_int (by omega) | exact CLe_inI (by omega) | exact CLe_nIi (by omega) | with_reducible apply And.intro))
        case bd_65 =>
         rintro l hl
         refine Tr.seqK fun K21 hK21 => ?_
         refine Tr.rg hcx [] _ [] rfl rfl rfl ?_
         simp -implicitDefEqProofs (maxSteps := 2000000) (disch := first | omega | (simp only [go_sem, List.length_append, List.length_drop, List.length_take, treeT_len, advT_len, staT_len, sgR_len, auR_len, hDl] <;> omega) | decide) only [go_sem, ↓reduceIte, Nat.reduceEqDiff, reduceCtorEq, Nat.reduceLT, Nat.reduceBEq, Nat.reduceAdd, Nat.reduceSub, Nat.reduceMul, Nat.reduceMod, bA, bB, b1, b2]
         refine hK21 _ ?_
         clear hK21 K21
         refine Tr.kp [2, 10, 11, 68, 69, 70] ?_
         simp only [pk_cons, pk_nil, ↓A_cons, ↓reduceIte, Nat.reduceEqDiff]
         refine Tr.seqK fun K22 hK22 => ?_
         refine Tr.condG fun KT KF hT hF => ?_
         simp only [ev_tmp, ev_const, ↓A_cons, ↓reduceIte, Nat.reduceEqDiff, reduceCtorEq, condG_bool, GB_true, GB_false, decide_eq_true_eq]
         refine GB.dec (fun hc70 => hT ?_) (fun hc70 => hF ?_)
         ·
          clear hT hF KT KF
          have hjl : i / 2 ^ l < 2 ^ (k - l) := by
            rw [Nat.div_lt_iff_lt_mul (pow_pos2 l), ← Nat.pow_add, show k - l + l = k by omega]; exact hik
          have hph := pow_half hc70
          have hall := hal l
          have hpkl := pow_64 hk6 l
          have hsbl := sib_lt (j := i / 2 ^ l) (p := 2 ^ (k - (l + 1))) (by omega)
          have hpl : (sib (i / 2 ^ l) + 1) * 2 ^ l ≤ 1000000 := by
            have h1 : (sib (i / 2 ^ l) + 1) * 2 ^ l ≤ 2 ^ (k - l) * 2 ^ l := Nat.mul_le_mul_right _ (by omega)
            rw [← Nat.pow_add, show k - l + l = k by omega] at h1
            omega
          have e44l := hq44 [] [some [.bt 1 54 2, .gv 2 (auR seed i (sgR seed i D 68) l).length (1, 5)], some (cl bC (auR seed i (sgR seed i D 68) l)), none] seed l (sib (i / 2 ^ l)) (auM i M0 l) noOk (okRow4 _ _ _ _ rfl) hs (auM_ok i k hM0n hik hk6 l hl) ⟨hpl, by omega⟩
          simp only [List.cons_append, List.nil_append, List.length_cons, List.length_nil] at e44l
          have hil64 : i / 2 ^ l < 64 := Nat.lt_of_le_of_lt (Nat.div_le_self _ _) hi64
          have htll := treeT_len seed l (sib (i / 2 ^ l))
          have e25 : hp 25 [.bt 1 54 2, .sv 3 0 16] [some (mapC (ents seed (vis l (sib (i / 2 ^ l)) (auM i M0 l)))), some [.bt 1 54 2, .gv 2 (auR seed i (sgR seed i D 68) l).length (1, 5)], some (cl bC (auR seed i (sgR seed i D 68) l)), some (cl bC (treeT seed l (sib (i / 2 ^ l))))] = some (.tup [.val (nI 16), .val .nilIface], [some (mapC (ents seed (auM i M0 (l + 1)))), some [.bt 1 54 2, .gv 4 (auR seed i (sgR seed i D 68) (l + 1)).length (1, 5)], some deadC, some (cl bC (treeT seed l (sib (i / 2 ^ l)))), some (cl bC (auR seed i (sgR seed i D 68) (l + 1)))]) := by
            have h := hq25u [some (mapC (ents seed (vis l (sib (i / 2 ^ l)) (auM i M0 l))))] (auR seed i (sgR seed i D 68) l) (treeT seed l (sib (i / 2 ^ l))) (okM1 seed _) ⟨by omega, by omega, by omega⟩
            rw [htll] at h; exact h
          have en25 : pu 25 [.bt 1 54 2, .sv 3 0 16] = none := hnr 25 _ rfl
          obtain ⟨r3, en3⟩ := hq25n 1 3 16
          refine Tr.skip ?_
          refine hK22 _ ?_
          clear hK22 K22
          refine Tr.kp [2, 10, 11, 68, 69] ?_
          simp only [pk_cons, pk_nil, ↓A_cons, ↓reduceIte, Nat.reduceEqDiff]
          refine Tr.seqK fun K23 hK23 => ?_
          refine Tr.blk ?_
          refine Tr.seqK fun K24 hK24 => ?_
          refine Tr.rg hcx [1000071] _ [] rfl rfl rfl ?_
          simp -implicitDefEqProofs (maxSteps := 2000000) (disch := first | omega | (simp only [go_sem, List.length_append, List.length_drop, List.length_take, treeT_len, advT_len, staT_len, sgR_len, auR_len, hDl] <;> omega) | decide) only [go_sem, ↓reduceIte, Nat.reduceEqDiff, reduceCtorEq, Nat.reduceLT, Nat.reduceBEq, Nat.reduceAdd, Nat.reduceSub, Nat.reduceMul, Nat.reduceMod, bA, bB, b1, b2]
          refine hK24 _ ?_
          clear hK24 K24
          refine Tr.kp [2, 10, 11, 15, 68, 69] ?_
          simp only [pk_cons, pk_nil, ↓A_cons, ↓reduceIte, Nat.reduceEqDiff]
          refine Tr.seqK fun K25 hK25 => ?_
          refine Tr.rg hcx [] _ [none] rfl rfl rfl ?_
          simp -implicitDefEqProofs (maxSteps := 2000000) (disch := first | omega | (simp only [go_sem, List.length_append, List.length_drop, List.length_take, treeT_len, advT_len, staT_len, sgR_len, auR_len, hDl] <;> omega) | decide) only [go_sem, ↓reduceIte, Nat.reduceEqDiff, reduceCtorEq, Nat.reduceLT, Nat.reduceBEq, Nat.reduceAdd, Nat.reduceSub, Nat.reduceMul, Nat.reduceMod, bA, bB, b1, b2, i_shr, i_xor1, e44l, en44]
          refine hK25 _ ?_
          clear hK25 K25
          refine Tr.kp [2, 10, 11, 16, 68, 69] ?_
          simp only [pk_cons, pk_nil, ↓A_cons, ↓reduceIte, Nat.reduceEqDiff]
          refine Tr.rg hcx [] _ [] rfl rfl rfl ?_
          simp -implicitDefEqProofs (maxSteps := 2000000) (disch := first | omega | (simp only [go_sem, List.length_append, List.length_drop, List.length_take, treeT_len, advT_len, staT_len, sgR_len, auR_len, hDl] <;> omega) | decide) only [go_sem, ↓reduceIte, Nat.reduceEqDiff, reduceCtorEq, Nat.reduceLT, Nat.reduceBEq, Nat.reduceAdd, Nat.reduceSub, Nat.reduceMul, Nat.reduceMod, bA, bB, b1, b2, e25, en25, en3]
          refine hK23 _ ?_
          clear hK23 K23
          refine Tr.kp [2, 10, 11, 68, 69] ?_
          simp only [pk_cons, pk_nil, ↓A_cons, ↓reduceIte, Nat.reduceEqDiff]
          refine Tr.rg hcx [] _ [] rfl rfl rfl ?_
          simp -implicitDefEqProofs (maxSteps := 2000000) (disch := first | omega | (simp only [go_sem, List.length_append, List.length_drop, List.length_take, treeT_len, advT_len, staT_len, sgR_len, auR_len, hDl] <;> omega) | decide) only [go_sem, ↓reduceIte, Nat.reduceEqDiff, reduceCtorEq, Nat.reduceLT, Nat.reduceBEq, Nat.reduceAdd, Nat.reduceSub, Nat.reduceMul, Nat.reduceMod, bA, bB, b1, b2]
          first
          | ((refine ⟨[0, 1, 4], ⟨by decide, by decide, by decide⟩, l + 1, ⟨by omega, by first | omega | (simp only []; omega)⟩, ?_, by simp only [mvH_eq, mvHa_nil, mvHa_cons, hget_0, hget_S, Option.map_some, Option.map_none, mvCs_cl, mvCs_f, mvCs_nil, mvCs_cons, mvC_val, mvC_top, mvC_sl, mvC_gv, mvC_sv, mvC_bp, mvC_agg, mvC_kp, mvGv_some, mvGv_none, mvSv_some, mvSv_none, mvBp_some, mvBp_none, loc_nil, loc_cons, ↓reduceIte, Nat.reduceEqDiff, reduceCtorEq, Nat.reduceAdd, Nat.zero_add, Nat.one_ne_zero, Nat.zero_ne_one, mvC_fn, mvC_bt, mvBt_some, mvBt_none, mvC_mp, mvMp_some, mvMp_none, hmvM] <;> rfl⟩); (simp only [Le_nil, Le_cons, ↓A_cons, CLe_refl, CLe_top, CLe_full, CLe_nil, CLe_own, and_true, true_and, mvH_eq, mvHa_nil, mvHa_cons, hget_0, hget_S, Option.map_some, Option.map_none, mvCs_cl, mvCs_f, mvCs_nil, mvCs_cons, mvC_val, mvC_top, mvC_sl, mvC_gv, mvC_sv, mvC_bp, mvC_agg, mvC_kp, mvGv_some, mvGv_none, mvSv_some, mvSv_none, mvBp_some, mvBp_none, loc_nil, loc_cons, ↓reduceIte, Nat.reduceEqDiff, reduceCtorEq, Nat.reduceAdd, Nat.zero_add, Nat.one_ne_zero, Nat.zero_ne_one, mvC_fn, mvC_bt, mvBt_some, mvBt_none, mvC_mp, mvMp_some, mvMp_none]; all_goals (repeat' first | exact CLe.refl _ | exact True.intro | (with_reducible refine And.intro ?_ ?_))); (all_goals first | exact CLe.refl _ | (rw [hmvA]; exact CLe.refl _)); (done))
         ·
          clear hT hF KT KF
          obtain rfl : l = k := by omega
          have hall := hal l
          have en29 : pu 29 [.bt 1 54 2] = none := hnr 29 _ rfl
          have e29 := hq29 [some (mapC (ents seed (auM i M0 l)))] [] (auR seed i (sgR seed i D 68) l) (okM1 seed _) noOk ⟨(by intro e; rw [e] at hall; simp at hall; omega), by omega⟩
          simp only [List.cons_append, List.nil_append, List.length_cons, List.length_nil] at e29
          refine Tr.exit ?_
          refine hK19 _ ?_
          clear hK22 K22 hK19 K19
          refine Tr.kp [11] ?_
          simp only [pk_cons, pk_nil, ↓A_cons, ↓reduceIte, Nat.reduceEqDiff]
          refine Tr.seqK fun K26 hK26 => ?_
          refine Tr.rg hcx [1000082] _ [] rfl rfl rfl ?_
          simp -implicitDefEqProofs (maxSteps := 2000000) (disch := first | omega | (simp only [go_sem, List.length_append, List.length_drop, List.length_take, treeT_len, advT_len, staT_len, sgR_len, auR_len, hDl] <;> omega) | decide) only [go_sem, ↓reduceIte, Nat.reduceEqDiff, reduceCtorEq, Nat.reduceLT, Nat.reduceBEq, Nat.reduceAdd, Nat.reduceSub, Nat.reduceMul, Nat.reduceMod, bA, bB, b1, b2, e29, en29]
          refine hK26 _ ?_
          clear hK26 K26
          refine Tr.kp [8, 9] ?_
          simp only [pk_cons, pk_nil, ↓A_cons, ↓reduceIte, Nat.reduceEqDiff]
          refine Tr.ret ?_
          simp -implicitDefEqProofs (disch := first | omega | (simp only [go_sem, List.length_append, List.length_drop, List.length_take, treeT_len, advT_len, staT_len, sgR_len, auR_len, hDl] <;> omega) | decide) only [go_sem, ↓reduceIte, Nat.reduceEqDiff, reduceCtorEq]
          all_goals (first | (rw [sign_1 (fun x => bA0 x.1)]; done) | (rw [sign_1 (fun x => bB0 x.2)]; done) | (rw [sign_20 b0 (by first | exact Or.inl b1 | exact Or.inr b2)]; done) | (rw [sign_4 b0 hik hc35]; done) | (rw [sign_0 b0 hik (by omega), sigT, ← hD]; done))
  ·
   have bB0 := bB
   replace bB := eq_false bB
   refine Tr.rg hcx [1000025] [some 18, some 19, some 20, some 21, some 22, some 23, some 24, some 25, some 17] [] rfl rfl rfl ?_
   simp -implicitDefEqProofs (maxSteps := 2000000) (disch := first | omega | (simp only [go_sem, List.length_append, List.length_drop, List.length_take, treeT_len, advT_len, staT_len, sgR_len, auR_len, hDl] <;> omega) | decide) only [go_sem, ↓reduceIte, Nat.reduceEqDiff, reduceCtorEq, Nat.reduceLT, Nat.reduceBEq, Nat.reduceAdd, Nat.reduceSub, Nat.reduceMul, Nat.reduceMod, bA, bB, e21]
   refine hK3 _ ?_
   clear hK3 K3
   refine Tr.kp [0, 1, 2, 3, 17] ?_
   simp only [pk_cons, pk_nil, ↓A_cons, ↓reduceIte, Nat.reduceEqDiff]
   refine Tr.condG fun KT KF hT hF => ?_
   simp only [ev_tmp, ev_const, ↓A_cons, ↓reduceIte, Nat.reduceEqDiff, reduceCtorEq, condG_bool, GB_true, GB_false, decide_eq_true_eq]
   refine hT ?_
   clear hT hF KT KF
   refine Tr.seqK fun K27 hK27 => ?_
   refine Tr.rg hcx [] _ [] rfl rfl rfl ?_
   simp -implicitDefEqProofs (maxSteps := 2000000) (disch := first | omega | (simp only [go_sem, List.length_append, List.length_drop, List.length_take, treeT_len, advT_len, staT_len, sgR_len, auR_len, hDl] <;> omega) | decide) only [go_sem, ↓reduceIte, Nat.reduceEqDiff, reduceCtorEq, Nat.reduceLT, Nat.reduceBEq, Nat.reduceAdd, Nat.reduceSub, Nat.reduceMul, Nat.reduceMod, bA, bB]
   refine hK27 _ ?_
   clear hK27 K27
   refine Tr.kp [8, 9] ?_
   simp only [pk_cons, pk_nil, ↓A_cons, ↓reduceIte, Nat.reduceEqDiff]
   refine Tr.ret ?_
   simp -implicitDefEqProofs (disch := first | omega | (simp only [go_sem, List.length_append, List.length_drop, List.length_take, treeT_len, advT_len, staT_len, sgR_len, auR_len, hDl] <;> omega) | decide) only [go_sem, ↓reduceIte, Nat.reduceEqDiff, reduceCtorEq]
   all_goals (first | (rw [sign_1 (fun x => bA0 x.1)]; done) | (rw [sign_1 (fun x => bB0 x.2)]; done) | (rw [sign_20 b0 (by first | exact Or.inl b1 | exact Or.inr b2)]; done) | (rw [sign_4 b0 hik hc35]; done) | (rw [sign_0 b0 hik (by omega), sigT, ← hD]; done))
 ·
  have bA0 := bA
  replace bA := eq_false bA
  refine Tr.rg hcx [1000025] [some 18, some 19, some 20, some 21, some 22, some 23, some 24, some 25, some 17] [] rfl rfl rfl ?_
  simp -implicitDefEqProofs (maxSteps := 2000000) (disch := first | omega | (simp only [go_sem, List.length_append, List.length_drop, List.length_take, treeT_len, advT_len, staT_len, sgR_len, auR_len, hDl] <;> omega) | decide) only [go_sem, ↓reduceIte, Nat.reduceEqDiff, reduceCtorEq, Nat.reduceLT, Nat.reduceBEq, Nat.reduceAdd, Nat.reduceSub, Nat.reduceMul, Nat.reduceMod, bA, e21]
  refine hK3 _ ?_
  clear hK3 K3
  refine Tr.kp [0, 1, 2, 3, 17] ?_
  simp only [pk_cons, pk_nil, ↓A_cons, ↓reduceIte, Nat.reduceEqDiff]
  refine Tr.condG fun KT KF hT hF => ?_
  simp only [ev_tmp, ev_const, ↓A_cons, ↓reduceIte, Nat.reduceEqDiff, reduceCtorEq, condG_bool, GB_true, GB_false, decide_eq_true_eq]
  refine hT ?_
  clear hT hF KT KF
  refine Tr.seqK fun K28 hK28 => ?_
  refine Tr.rg hcx [] _ [] rfl rfl rfl ?_
  simp -implicitDefEqProofs (maxSteps := 2000000) (disch := first | omega | (simp only [go_sem, List.length_append, List.length_drop, List.length_take, treeT_len, advT_len, staT_len, sgR_len, auR_len, hDl] <;> omega) | decide) only [go_sem, ↓reduceIte, Nat.reduceEqDiff, reduceCtorEq, Nat.reduceLT, Nat.reduceBEq, Nat.reduceAdd, Nat.reduceSub, Nat.reduceMul, Nat.reduceMod, bA]
  refine hK28 _ ?_
  clear hK28 K28
  refine Tr.kp [8, 9] ?_
  simp only [pk_cons, pk_nil, ↓A_cons, ↓reduceIte, Nat.reduceEqDiff]
  refine Tr.ret ?_
  simp -implicitDefEqProofs (disch := first | omega | (simp only [go_sem, List.length_append, List.length_drop, List.length_take, treeT_len, advT_len, staT_len, sgR_len, auR_len, hDl] <;> omega) | decide) only [go_sem, ↓reduceIte, Nat.reduceEqDiff, reduceCtorEq]
  all_goals (first | (rw [sign_1 (fun x => bA0 x.1)]; done) | (rw [sign_1 (fun x => bB0 x.2)]; done) | (rw [sign_20 b0 (by first | exact Or.inl b1 | exact Or.inr b2)]; done) | (rw [sign_4 b0 hik hc35]; done) | (rw [sign_0 b0 hik (by omega), sigT, ← hD]; done))
end Go.Sx
namespace Go.Sx
open Go.RowKit Go.Proofs
theorem digz_len : (digT (List.replicate 16 0)).length = 68 := digT_len _
theorem digz_0 : gt (digT (List.replicate 16 0)) 0 = 0 := by decide +kernel
theorem digz_64 : gt (digT (List.replicate 16 0)) 64 = 3 := by decide +kernel
theorem digz_67 : gt (digT (List.replicate 16 0)) 67 = 0 := by decide +kernel
set_option maxRecDepth 100000 in
set_option maxHeartbeats 8000000 in
theorem fc9 {gl : Nat → C} {M : Nat} {pu : Nat → List C → Option C}  (hcx : CxOK (cxP gl M pu))  (h20 : ∀ c : UInt8, pu 20 [.val (w8 c)] = some (.val (str (List.replicate 32 c)))) (h12 : ∀ (seed : List UInt8) (h : Int), seed.length ≤ 1000000 → (-9223372036854775808 ≤ h ∧ h ≤ 9223372036854775807) → (h ≤ 2 ∨ 6 < h) → pu 12 [.val (str seed), .val (.int .i64 h)] = some (.tup [.agg (cl bC (pubT seed h).1), .val (nI (pubT seed h).2)])) (h14 : ∀ (seed : List UInt8) (h x : Int) (m : List UInt8), seed.length ≤ 1000000 → (-9223372036854775808 ≤ h ∧ h ≤ 9223372036854775807) → (-9223372036854775808 ≤ x ∧ x ≤ 9223372036854775807) → m.length ≤ 1000000000 → (h ≤ 2 ∨ 6 < h) → pu 14 [.val (str seed), .val (.int .i64 h), .val (.int .i64 x), .val (str m)] = some (.tup [.val (str (signT seed h x m).1), .val (nI (signT seed h x m).2)])) (h18 : ∀ (p : List UInt8) (h : Int) (m sg : List UInt8), p.length = 16 → (-9223372036854775808 ≤ h ∧ h ≤ 9223372036854775807) → m.length ≤ 1000000000 → sg.length ≤ 900000 → pu 18 [.agg (cl bC p), .val (.int .i64 h), .val (str m), .val (str sg)] = some (.tup [.val (.int .i64 (verT p h m sg).1), .val (nI (verT p h m sg).2)])) (h16 : ∀ (p : List UInt8) (i : Int) (m : List UInt8), p.length = 16 → (-9223372036854775808 ≤ i ∧ i ≤ 9223372036854775807) → m.length ≤ 1048576 → pu 16 [.agg (cl bC p), .val (.int .i64 i), .val (str m)] = some (.agg (cl bC (msgT p i m)))) (h10 : ∀ d : List UInt8, d.length = 16 → pu 10 [.agg (cl bC d)] = some (sl nC .no (digT d)))  : FC Tryd.prog gl 9 [] [] (.val (.bool true)) [] := by
 replace hcx := hcx.reN (M := 105)
 refine FC.ofA (cx := cxP gl 105 pu) (rs := [.tmp 0]) rfl Tryd.func9 rfl rfl rfl (by simp only [List.length_cons, List.length_nil]; decide) (by simp only [go_sem]) ?_
 simp only [ini, go_sem]
 have e20 : pu 20 [.val (w8 (UInt8.ofNat 5))] = some (.val (str seed5)) := h20 5
 have hfit : Fit seed5 ((1 : Nat) : Int) := ⟨by decide, by decide, by decide⟩
 have hsl : seed5.length = 32 := by decide
 have e12 : pu 12 [.val (str seed5), .val (nI 1)] = some (.tup [.agg (cl bC pub5), .val (nI 0)]) := (h12 seed5 ((1 : Nat) : Int) (by omega) (by omega) (by omega)).trans (by rw [pub_T hfit, root5])
 have e14 : pu 14 [.val (str seed5), .val (nI 1), .val (nI 1), .val (str [109])] = some (.tup [.val (str (sigT seed5 1 1 [109])), .val (nI 0)]) := (h14 seed5 ((1 : Nat) : Int) ((1 : Nat) : Int) [109] (by first | omega | decide) (by first | omega | decide) (by first | omega | decide) (by first | omega | decide) (by first | omega | decide)).trans (by rw [sign_0 hfit (by decide) (by decide)])
 have e14b : pu 14 [.val (str seed5), .val (nI 1), .val (nI 2), .val (str [109])] = some (.tup [.val (str []), .val (nI 20)]) := (h14 seed5 ((1 : Nat) : Int) ((2 : Nat) : Int) [109] (by first | omega | decide) (by first | omega | decide) (by first | omega | decide) (by first | omega | decide) (by first | omega | decide)).trans (by rw [sign_20 hfit (by right; decide)])
 have hpl : pub5.length = 16 := by decide
 have hbl := bodT_len seed5 1 1 [109]
 have hwl := wintn_len 1 (by omega)
 have hsgl : (sigT seed5 1 1 [109]).length = (wint ((1 : Nat) : Int)).length + (68 + 1) * 16 := by rw [sigT_eq, List.length_append, hbl]
 have e18 : pu 18 [.agg (cl bC pub5), .val (nI 1), .val (str [109]), .val (str (sigT seed5 1 1 [109]))] = some (.tup [.val (nI 1), .val (nI 0)]) := (h18 pub5 ((1 : Nat) : Int) [109] (sigT seed5 1 1 [109]) hpl (by omega) (by decide) (by omega)).trans (by rw [← root5, ver_sign (by omega) (by decide) (by decide)]; rfl)
 have e18w : pu 18 [.agg (cl bC pub5), .val (nI 1), .val (str [110]), .val (str (sigT seed5 1 1 [109]))] = some (.tup [.val (nI 0), .val (nI 19)]) := (h18 pub5 ((1 : Nat) : Int) [110] (sigT seed5 1 1 [109]) hpl (by omega) (by decide) (by omega)).trans (by rw [show ((1 : Nat) : Int) = 1 from rfl, ver5w]; rfl)
 have hs1 : (List.drop 1 seed5).length = 31 := by decide
 have e12s : pu 12 [.val (str (List.drop 1 seed5)), .val (nI 0)] = some (.tup [.agg (cl bC (List.replicate 16 0)), .val (nI 1)]) := (h12 (List.drop 1 seed5) ((0 : Nat) : Int) (by omega) (by omega) (by omega)).trans (by rw [pub_F (fun x => by have := x.1; omega)])
 have hts : List.take (32 - 1) (List.drop 1 seed5) = List.drop 1 seed5 := List.take_of_length_le (by omega)
 have hts2 : List.take (seed5.length - 1) (List.drop 1 seed5) = List.drop 1 seed5 := List.take_of_length_le (by omega)
 have hts3 : List.take 31 (List.drop 1 seed5) = List.drop 1 seed5 := List.take_of_length_le (by omega)
 have e10 := h10 (List.replicate 16 0) rfl
 have e16 : pu 16 [.agg (cl bC pub5), .val (nI 1), .val (str [109])] = some (.agg (cl bC (msgT pub5 1 [109]))) := h16 pub5 1 [109] hpl (by omega) (by decide)
 have e16z : pu 16 [.agg (cl bC pub5), .val (nI 0), .val (str [109])] = some (.agg (cl bC (msgT pub5 0 [109]))) := h16 pub5 0 [109] hpl (by omega) (by decide)
 have hne := msg5_ne
 have hm1 := msgT_len pub5 1 [109]
 have hm0 := msgT_len pub5 0 [109]
 have hz1 := digz_len
 have hz2 := digz_0
 have hz3 := digz_64
 have hz4 := digz_67
 generalize hDZ : digT (List.replicate 16 0) = DZ at *
 generalize sigT seed5 1 1 [109] = S at *
 generalize msgT pub5 1 [109] = A1 at *
 generalize msgT pub5 0 [109] = A0 at *
 generalize pub5 = P at *
 generalize seed5 = seed at *
 replace hne := eq_false hne
 refine Tr.seqK fun K1 hK1 => ?_
 refine Tr.rg hcx [] _ [] rfl rfl rfl ?_
 simp -implicitDefEqProofs (maxSteps := 2000000) (disch := first | omega | (simp only [go_sem, List.length_append, List.length_drop, List.length_take, hpl, hz1] <;> omega) | decide) only [go_sem, ↓reduceIte, Nat.reduceEqDiff, reduceCtorEq, Nat.reduceLT, Nat.reduceBEq, Nat.reduceAdd, Nat.reduceSub, Nat.reduceMul, Nat.reduceMod]
 refine hK1 _ ?_
 clear hK1 K1
 refine Tr.kp [] ?_
 simp only [pk_cons, pk_nil, ↓A_cons, ↓reduceIte, Nat.reduceEqDiff]
 refine Tr.seqK fun K2 hK2 => ?_
 refine Tr.rg hcx [1000015] _ [] rfl rfl rfl ?_
 simp -implicitDefEqProofs (maxSteps := 2000000) (disch := first | omega | (simp only [go_sem, List.length_append, List.length_drop, List.length_take, hpl, hz1] <;> omega) | decide) only [go_sem, ↓reduceIte, Nat.reduceEqDiff, reduceCtorEq, Nat.reduceLT, Nat.reduceBEq, Nat.reduceAdd, Nat.reduceSub, Nat.reduceMul, Nat.reduceMod, e20]
 refine hK2 _ ?_
 clear hK2 K2
 refine Tr.kp [1] ?_
 simp only [pk_cons, pk_nil, ↓A_cons, ↓reduceIte, Nat.reduceEqDiff]
 refine Tr.seqK fun K3 hK3 => ?_
 refine Tr.rg hcx [1000020] _ [none] rfl rfl rfl ?_
 simp -implicitDefEqProofs (maxSteps := 2000000) (disch := first | omega | (simp only [go_sem, List.length_append, List.length_drop, List.length_take, hpl, hz1] <;> omega) | decide) only [go_sem, ↓reduceIte, Nat.reduceEqDiff, reduceCtorEq, Nat.reduceLT, Nat.reduceBEq, Nat.reduceAdd, Nat.reduceSub, Nat.reduceMul, Nat.reduceMod, e12]
 refine hK3 _ ?_
 clear hK3 K3
 refine Tr.kp [1, 2, 3] ?_
 simp only [pk_cons, pk_nil, ↓A_cons, ↓reduceIte, Nat.reduceEqDiff]
 refine Tr.seqK fun K4 hK4 => ?_
 refine Tr.rg hcx [1000024, 1000025] _ [] rfl rfl rfl ?_
 simp -implicitDefEqProofs (maxSteps := 2000000) (disch := first | omega | (simp only [go_sem, List.length_append, List.length_drop, List.length_take, hpl, hz1] <;> omega) | decide) only [go_sem, ↓reduceIte, Nat.reduceEqDiff, reduceCtorEq, Nat.reduceLT, Nat.reduceBEq, Nat.reduceAdd, Nat.reduceSub, Nat.reduceMul, Nat.reduceMod, e14]
 refine hK4 _ ?_
 clear hK4 K4
 refine Tr.kp [1, 2, 3, 4, 5] ?_
 simp only [pk_cons, pk_nil, ↓A_cons, ↓reduceIte, Nat.reduceEqDiff]
 refine Tr.seqK fun K5 hK5 => ?_
 refine Tr.rg hcx [1000030, 1000031] _ [] rfl rfl rfl ?_
 simp -implicitDefEqProofs (maxSteps := 2000000) (disch := first | omega | (simp only [go_sem, List.length_append, List.length_drop, List.length_take, hpl, hz1] <;> omega) | decide) only [go_sem, ↓reduceIte, Nat.reduceEqDiff, reduceCtorEq, Nat.reduceLT, Nat.reduceBEq, Nat.reduceAdd, Nat.reduceSub, Nat.reduceMul, Nat.reduceMod, e18]
 refine hK5 _ ?_
 clear hK5 K5
 refine Tr.kp [1, 2, 3, 4, 5, 6, 7] ?_
 simp only [pk_cons, pk_nil, ↓A_cons, ↓reduceIte, Nat.reduceEqDiff]
 refine Tr.seqK fun K6 hK6 => ?_
 refine Tr.rg hcx [1000036, 1000037] _ [] rfl rfl rfl ?_
 simp -implicitDefEqProofs (maxSteps := 2000000) (disch := first | omega | (simp only [go_sem, List.length_append, List.length_drop, List.length_take, hpl, hz1] <;> omega) | decide) only [go_sem, ↓reduceIte, Nat.reduceEqDiff, reduceCtorEq, Nat.reduceLT, Nat.reduceBEq, Nat.reduceAdd, Nat.reduceSub, Nat.reduceMul, Nat.reduceMod, e18w]
 refine hK6 _ ?_
 clear hK6 K6
 refine Tr.kp [1, 2, 3, 5, 6, 7, 9] ?_
 simp only [pk_cons, pk_nil, ↓A_cons, ↓reduceIte, Nat.reduceEqDiff]
 refine Tr.seqK fun K7 hK7 => ?_
 refine Tr.rg hcx [1000041, 1000042] _ [] rfl rfl rfl ?_
 simp -implicitDefEqProofs (maxSteps := 2000000) (disch := first | omega | (simp only [go_sem, List.length_append, List.length_drop, List.length_take, hpl, hz1] <;> omega) | decide) only [go_sem, ↓reduceIte, Nat.reduceEqDiff, reduceCtorEq, Nat.reduceLT, Nat.reduceBEq, Nat.reduceAdd, Nat.reduceSub, Nat.reduceMul, Nat.reduceMod, e14b]
 refine hK7 _ ?_
 clear hK7 K7
 refine Tr.kp [1, 2, 3, 5, 6, 7, 9, 11] ?_
 simp only [pk_cons, pk_nil, ↓A_cons, ↓reduceIte, Nat.reduceEqDiff]
 refine Tr.seqK fun K8 hK8 => ?_
 refine Tr.rg hcx [1000048] _ [none] rfl rfl rfl ?_
 simp -implicitDefEqProofs (maxSteps := 2000000) (disch := first | omega | (simp only [go_sem, List.length_append, List.length_drop, List.length_take, hpl, hz1] <;> omega) | decide) only [go_sem, ↓reduceIte, Nat.reduceEqDiff, reduceCtorEq, Nat.reduceLT, Nat.reduceBEq, Nat.reduceAdd, Nat.reduceSub, Nat.reduceMul, Nat.reduceMod, hsl, hts, hts2, hts3, e12s]
 refine hK8 _ ?_
 clear hK8 K8
 refine Tr.kp [2, 3, 5, 6, 7, 9, 11, 13] ?_
 simp only [pk_cons, pk_nil, ↓A_cons, ↓reduceIte, Nat.reduceEqDiff]
 refine Tr.seqK fun K9 hK9 => ?_
 refine Tr.rg hcx [1000050] _ [] rfl rfl rfl ?_
 simp -implicitDefEqProofs (maxSteps := 2000000) (disch := first | omega | (simp only [go_sem, List.length_append, List.length_drop, List.length_take, hpl, hz1] <;> omega) | decide) only [go_sem, ↓reduceIte, Nat.reduceEqDiff, reduceCtorEq, Nat.reduceLT, Nat.reduceBEq, Nat.reduceAdd, Nat.reduceSub, Nat.reduceMul, Nat.reduceMod, e10]
 refine hK9 _ ?_
 clear hK9 K9
 refine Tr.kp [2, 3, 5, 6, 7, 9, 11, 13, 14] ?_
 simp only [pk_cons, pk_nil, ↓A_cons, ↓reduceIte, Nat.reduceEqDiff]
 refine Tr.seqK fun K10 hK10 => ?_
 refine Tr.seqK fun K11 hK11 => ?_
 refine Tr.rg hcx [] [some 51, some 52, some 53, some 54, some 55, some 56, some 57, some 58, some 59, some 60, some 61, some 62, some 63, some 64, some 65] [] rfl rfl rfl ?_
 simp -implicitDefEqProofs (maxSteps := 2000000) (disch := first | omega | (simp only [go_sem, List.length_append, List.length_drop, List.length_take, hpl, hz1] <;> omega) | decide) only [go_sem, ↓reduceIte, Nat.reduceEqDiff, reduceCtorEq, Nat.reduceLT, Nat.reduceBEq, Nat.reduceAdd, Nat.reduceSub, Nat.reduceMul, Nat.reduceMod, hz1]
 refine hK11 _ ?_
 clear hK11 K11
 refine Tr.kp [2, 6, 9, 11, 13, 14, 65] ?_
 simp only [pk_cons, pk_nil, ↓A_cons, ↓reduceIte, Nat.reduceEqDiff]
 refine Tr.condG fun KT KF hT hF => ?_
 simp only [ev_tmp, ev_const, ↓A_cons, ↓reduceIte, Nat.reduceEqDiff, reduceCtorEq, condG_bool, GB_true, GB_false, decide_eq_true_eq]
 refine hF ?_
 clear hT hF KT KF
 refine Tr.skip ?_
 refine hK10 _ ?_
 clear hK10 K10
 refine Tr.kp [2, 6, 9, 11, 13, 14] ?_
 simp only [pk_cons, pk_nil, ↓A_cons, ↓reduceIte, Nat.reduceEqDiff]
 refine Tr.seqK fun K12 hK12 => ?_
 refine Tr.rgD hcx hMO [1000104] [some 66, some 67, some 68, some 69, some 70, some 71, some 72, some 73, some 74, some 75, some 76, some 77, some 78, some 79, some 80, some 81, some 82, some 83, some 84, some 85, some 86, some 87, some 88, some 89, some 90, some 91, some 92, some 93, some 94, some 95, some 96, some 97, some 98, some 99, some 100, some 101, some 102, some 103, some 104, some 0] [] rfl rfl rfl rfl ?_
 simp -implicitDefEqProofs (maxSteps := 2000000) (disch := first | omega | (simp only [go_sem, List.length_append, List.length_drop, List.length_take, hpl, hz1] <;> omega) | decide) only [go_sem, ↓reduceIte, Nat.reduceEqDiff, reduceCtorEq, Nat.reduceLT, Nat.reduceBEq, Nat.reduceAdd, Nat.reduceSub, Nat.reduceMul, Nat.reduceMod, e16, e16z, eq23, hne, hz2, hz3, hz4]
 with_reducible refine And.intro ?_ ?_
 · exact rfl
 refine hK12 _ ?_
 clear hK12 K12
 refine Tr.kp [0] ?_
 simp only [pk_cons, pk_nil, ↓A_cons, ↓reduceIte, Nat.reduceEqDiff]
 refine Tr.ret ?_
 simp -implicitDefEqProofs (disch := first | omega | (simp only [go_sem, List.length_append, List.length_drop, List.length_take, hpl, hz1] <;> omega) | decide) only [go_sem, ↓reduceIte, Nat.reduceEqDiff, reduceCtorEq]
 all_goals (rfl)
end Go.Sx
