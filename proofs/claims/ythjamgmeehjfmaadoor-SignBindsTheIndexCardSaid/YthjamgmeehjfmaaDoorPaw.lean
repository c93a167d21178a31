/-
  Package sign: the law of the index. And what follows.
-/
import Derived.Test.YthjamgmeehjfmaaDoorPas
import Derived.Test.YthjamgmeehjfmaaDoorPav
import Derived.Test.YthjamgmeehjfmaaDoorPao
set_option linter.unusedSimpArgs false
set_option linter.unusedVariables false
namespace Go.Sx
open Go.RowKit Go.Proofs
set_option maxRecDepth 100000
set_option maxHeartbeats 8000000
theorem bind8 {pu : Nat → List C → Option C} (h20 : ∀ c : UInt8, pu 20 [.val (w8 c)] = some (.val (str (List.replicate 32 c)))) (h12 : ∀ (seed : List UInt8) (h : Int), seed.length ≤ 1000000 → (-9223372036854775808 ≤ h ∧ h ≤ 9223372036854775807) → (h ≤ 2 ∨ 6 < h) → pu 12 [.val (str seed), .val (.int .i64 h)] = some (.tup [.agg (cl bC (pubT seed h).1), .val (nI (pubT seed h).2)])) (h14 : ∀ (seed : List UInt8) (h x : Int) (m : List UInt8), seed.length ≤ 1000000 → (-9223372036854775808 ≤ h ∧ h ≤ 9223372036854775807) → (-9223372036854775808 ≤ x ∧ x ≤ 9223372036854775807) → m.length ≤ 1000000000 → (h ≤ 2 ∨ 6 < h) → pu 14 [.val (str seed), .val (.int .i64 h), .val (.int .i64 x), .val (str m)] = some (.tup [.val (str (signT seed h x m).1), .val (nI (signT seed h x m).2)])) (h18 : ∀ (p : List UInt8) (h : Int) (m sg : List UInt8), p.length = 16 → (-9223372036854775808 ≤ h ∧ h ≤ 9223372036854775807) → m.length ≤ 1000000000 → sg.length ≤ 900000 → pu 18 [.agg (cl bC p), .val (.int .i64 h), .val (str m), .val (str sg)] = some (.tup [.val (.int .i64 (verT p h m sg).1), .val (nI (verT p h m sg).2)])) (h19 : ∀ (p : List UInt8) (h : Int) (m sg : List UInt8), p.length = 16 → (-9223372036854775808 ≤ h ∧ h ≤ 9223372036854775807) → m.length ≤ 1000000000 → sg.length ≤ 900000 → pu 19 [.agg (cl bC p), .val (.int .i64 h), .val (str m), .val (str sg)] = some (.tup [.val (.int .i64 (verT p h m sg).1), .val (nI (verT p h m sg).2)])) (c : UInt8) (m : List UInt8) (k i j : Nat) (hk2 : k ≤ 2) (hik : i < 2 ^ k) (hjk : j < 2 ^ k) (hp4 : 2 ^ k ≤ 4) (hm : m.length ≤ 9223372036854775807) (b1 : ¬ 200 < m.length) :
    ∃ (seed P S T : List UInt8) (V1 : Int) (V2 : Nat), pu 20 [.val (w8 c)] = some (.val (str seed)) ∧ pu 12 [.val (str seed), .val (nI k)] = some (.tup [.agg (cl bC P), .val (nI 0)]) ∧ pu 14 [.val (str seed), .val (nI k), .val (nI i), .val (str m)] = some (.tup [.val (str S), .val (nI 0)]) ∧
      pu 14 [.val (str seed), .val (nI k), .val (nI j), .val (str m)] = some (.tup [.val (str T), .val (nI 0)]) ∧ P.length = 16 ∧
      pu 18 [.agg (cl bC P), .val (nI k), .val (str m), .val (str (T.take (T.length - (68 + k) * 16) ++ S.drop (S.length - (68 + k) * 16)))] = some (.tup [.val (.int .i64 V1), .val (nI V2)]) ∧
      pu 19 [.agg (cl bC P), .val (nI k), .val (str m), .val (str (T.take (T.length - (68 + k) * 16) ++ S.drop (S.length - (68 + k) * 16)))] = some (.tup [.val (.int .i64 V1), .val (nI V2)]) ∧
      (68 + k) * 16 ≤ S.length ∧ (68 + k) * 16 ≤ T.length ∧ S.length ≤ 2000 ∧ T.length ≤ 2000 ∧ (i = j → V2 = 0) := by
  have hik' := hik
  have hml : ¬ 1048576 < m.length := by omega
  have hfit : Fit (List.replicate 32 c) (k : Int) := ⟨List.length_replicate, by omega, by omega⟩
  have hsl : (List.replicate 32 c).length = 32 := List.length_replicate
  have e20 := h20 c
  have e12 : pu 12 [.val (str (List.replicate 32 c)), .val (nI k)] = some (.tup [.agg (cl bC (treeT (List.replicate 32 c) k 0)), .val (nI 0)]) := (h12 (List.replicate 32 c) (k : Int) (by omega) (by omega) (by omega)).trans (by rw [pub_T hfit])
  have e14a : pu 14 [.val (str (List.replicate 32 c)), .val (nI k), .val (nI i), .val (str m)] = some (.tup [.val (str (sigT (List.replicate 32 c) k i m)), .val (nI 0)]) := (h14 (List.replicate 32 c) (k : Int) (i : Int) m (by omega) (by omega) (by omega) (by omega) (by omega)).trans (by rw [sign_0 hfit hik hml])
  have hbla := bodT_len (List.replicate 32 c) k i m
  have hwla := wintn_len i (by omega)
  have hsga : (sigT (List.replicate 32 c) k i m).length = (wint (i : Int)).length + (68 + k) * 16 := by rw [sigT_eq, List.length_append, hbla]
  have e14b : pu 14 [.val (str (List.replicate 32 c)), .val (nI k), .val (nI j), .val (str m)] = some (.tup [.val (str (sigT (List.replicate 32 c) k j m)), .val (nI 0)]) := (h14 (List.replicate 32 c) (k : Int) (j : Int) m (by omega) (by omega) (by omega) (by omega) (by omega)).trans (by rw [sign_0 hfit hjk hml])
  have hblb := bodT_len (List.replicate 32 c) k j m
  have hwlb := wintn_len j (by omega)
  have hsgb : (sigT (List.replicate 32 c) k j m).length = (wint (j : Int)).length + (68 + k) * 16 := by rw [sigT_eq, List.length_append, hblb]
  have hpl := treeT_len (List.replicate 32 c) k 0
  have hij : i = j → (verT (treeT (List.replicate 32 c) k 0) (k : Int) m ((sigT (List.replicate 32 c) k j m).take ((sigT (List.replicate 32 c) k j m).length - ((68 + k) * 16)) ++ (sigT (List.replicate 32 c) k i m).drop ((sigT (List.replicate 32 c) k i m).length - ((68 + k) * 16)))).2 = 0 := fun e => by
    subst e
    rw [List.take_append_drop, ver_sign (by omega) hik hml]
  have hmx : ((sigT (List.replicate 32 c) k j m).take ((sigT (List.replicate 32 c) k j m).length - ((68 + k) * 16)) ++ (sigT (List.replicate 32 c) k i m).drop ((sigT (List.replicate 32 c) k i m).length - ((68 + k) * 16))).length ≤ 900000 := by rw [List.length_append, List.length_take, List.length_drop]; omega
  have e18 : pu 18 [.agg (cl bC (treeT (List.replicate 32 c) k 0)), .val (nI k), .val (str m), .val (str ((sigT (List.replicate 32 c) k j m).take ((sigT (List.replicate 32 c) k j m).length - ((68 + k) * 16)) ++ (sigT (List.replicate 32 c) k i m).drop ((sigT (List.replicate 32 c) k i m).length - ((68 + k) * 16))))] = _ := h18 (treeT (List.replicate 32 c) k 0) (k : Int) m ((sigT (List.replicate 32 c) k j m).take ((sigT (List.replicate 32 c) k j m).length - ((68 + k) * 16)) ++ (sigT (List.replicate 32 c) k i m).drop ((sigT (List.replicate 32 c) k i m).length - ((68 + k) * 16))) hpl (by omega) (by omega) hmx
  have e19 : pu 19 [.agg (cl bC (treeT (List.replicate 32 c) k 0)), .val (nI k), .val (str m), .val (str ((sigT (List.replicate 32 c) k j m).take ((sigT (List.replicate 32 c) k j m).length - ((68 + k) * 16)) ++ (sigT (List.replicate 32 c) k i m).drop ((sigT (List.replicate 32 c) k i m).length - ((68 + k) * 16))))] = _ := h19 (treeT (List.replicate 32 c) k 0) (k : Int) m ((sigT (List.replicate 32 c) k j m).take ((sigT (List.replicate 32 c) k j m).length - ((68 + k) * 16)) ++ (sigT (List.replicate 32 c) k i m).drop ((sigT (List.replicate 32 c) k i m).length - ((68 + k) * 16))) hpl (by omega) (by omega) hmx
  have hl1 : ((sigT (List.replicate 32 c) k i m).length < 1088) = False := eq_false (by omega)
  have hl2 : ((sigT (List.replicate 32 c) k i m).length < ((68 + k) * 16)) = False := eq_false (by omega)
  have hl3 : ((sigT (List.replicate 32 c) k j m).length < ((68 + k) * 16)) = False := eq_false (by omega)
  exact ⟨(List.replicate 32 c), (treeT (List.replicate 32 c) k 0), (sigT (List.replicate 32 c) k i m), (sigT (List.replicate 32 c) k j m), _, _, e20, e12, e14a, e14b, hpl, e18, e19, by omega, by omega, by omega, by omega, hij⟩
theorem X_fc8 {p : Prop} (e : p := by intro KZ hZ; simp -implicitDefEqProofs (disch := first | omega | (simp only [go_sem, lA, lD, lT, hpl] <;> omega) | decide) only [go_sem, ↓reduceIte, Nat.reduceEqDiff, reduceCtorEq, Nat.reduceLT, Nat.reduceBEq, Nat.reduceAdd, Nat.one_mul, b1, z0, hy]; exact hZ) : p := e
theorem Y_fc8 {p : Prop} (e : p := by intro KZ hZ; simp -implicitDefEqProofs (disch := first | omega | (simp only [go_sem, lA, lD, lT, hpl] <;> omega) | decide) only [go_sem, ↓reduceIte, Nat.reduceEqDiff, reduceCtorEq, Nat.reduceLT, Nat.reduceBEq, Nat.reduceAdd, Nat.one_mul, b1, z0, hy]; refine And.intro ?_ hZ; exact rfl) : p := e
theorem F_fc8 {p : Prop} (e : p := by simp -implicitDefEqProofs (disch := first | omega | (simp only [go_sem, lA, lD, lT, hpl] <;> omega) | decide) only [go_sem, ↓reduceIte, Nat.reduceEqDiff, reduceCtorEq]; all_goals (rfl)) : p := e
theorem fc8 {gl : Nat → C} {M : Nat} {pu : Nat → List C → Option C}  (hcx : CxOK (cxP gl M pu))  (h9 : pu 9 [] = some (.val (.bool true))) (h20 : ∀ c : UInt8, pu 20 [.val (w8 c)] = some (.val (str (List.replicate 32 c)))) (h12 : ∀ (seed : List UInt8) (h : Int), seed.length ≤ 1000000 → (-9223372036854775808 ≤ h ∧ h ≤ 9223372036854775807) → (h ≤ 2 ∨ 6 < h) → pu 12 [.val (str seed), .val (.int .i64 h)] = some (.tup [.agg (cl bC (pubT seed h).1), .val (nI (pubT seed h).2)])) (h14 : ∀ (seed : List UInt8) (h x : Int) (m : List UInt8), seed.length ≤ 1000000 → (-9223372036854775808 ≤ h ∧ h ≤ 9223372036854775807) → (-9223372036854775808 ≤ x ∧ x ≤ 9223372036854775807) → m.length ≤ 1000000000 → (h ≤ 2 ∨ 6 < h) → pu 14 [.val (str seed), .val (.int .i64 h), .val (.int .i64 x), .val (str m)] = some (.tup [.val (str (signT seed h x m).1), .val (nI (signT seed h x m).2)])) (h18 : ∀ (p : List UInt8) (h : Int) (m sg : List UInt8), p.length = 16 → (-9223372036854775808 ≤ h ∧ h ≤ 9223372036854775807) → m.length ≤ 1000000000 → sg.length ≤ 900000 → pu 18 [.agg (cl bC p), .val (.int .i64 h), .val (str m), .val (str sg)] = some (.tup [.val (.int .i64 (verT p h m sg).1), .val (nI (verT p h m sg).2)])) (h19 : ∀ (p : List UInt8) (h : Int) (m sg : List UInt8), p.length = 16 → (-9223372036854775808 ≤ h ∧ h ≤ 9223372036854775807) → m.length ≤ 1000000000 → sg.length ≤ 900000 → pu 19 [.agg (cl bC p), .val (.int .i64 h), .val (str m), .val (str sg)] = some (.tup [.val (.int .i64 (verT p h m sg).1), .val (nI (verT p h m sg).2)])) (c ht ix iy : UInt8) (m : List UInt8) (hm : m.length ≤ 9223372036854775807) : FC Tryd.prog gl 8 [.val (w8 c), .val (w8 ht), .val (w8 ix), .val (w8 iy), .val (str m)] [] (.val (.bool true)) [] := by
 replace hcx := hcx.reN (M := 139)
 refine FC.ofA (cx := cxP gl 139 pu) (rs := [.tmp 10]) rfl Tryd.func8 rfl rfl rfl (by simp only [List.length_cons, List.length_nil]; decide) (by simp only [go_sem]) ?_
 simp only [ini, go_sem]
 have b1 := True.intro
 have z0 := True.intro
 have hy := True.intro
 have hpl := True.intro
 have ht8 := ht.toNat_lt
 have ix8 := ix.toNat_lt
 have iy8 := iy.toNat_lt
 refine Tr.w hcx [] _ [] rfl rfl rfl ?_ X_fc8
 have hy := @h9
 refine Tr.w hcx [1000027] _ [] rfl rfl rfl ?_ X_fc8
 refine Tr.seqK fun K1 hK1 => ?_
 by_cases b1 : 200 < m.length
 ·
  have hy := True.intro
  refine Tr.w hcx [] _ [] rfl rfl rfl ?_ X_fc8
  refine Tr.cT rfl ?_
  refine Tr.w hcx [1000031] _ [] rfl rfl rfl ?_ X_fc8
  exact Tr.ret F_fc8
 have hy := True.intro
 refine Tr.w hcx [] _ [] rfl rfl rfl ?_ X_fc8
 refine Tr.cF rfl ?_
 refine Tr.skip ?_
 refine hK1 _ ?_
 refine Tr.w hcx [1000034] _ [] rfl rfl rfl ?_ X_fc8
 obtain ⟨k, hk⟩ : ∃ k, k = ht.toNat % 3 := ⟨_, rfl⟩
 rw [← hk]
 have hk2 : k ≤ 2 := by omega
 clear hk
 have hp0 := pow_pos2 k
 have hp4 : 2 ^ k ≤ 4 := Nat.pow_le_pow_right (n := 2) (by decide) hk2
 have hy := @i_shl
 refine Tr.w hcx [1000039] _ [] rfl rfl rfl ?_ X_fc8
 refine Tr.k [0, 3, 4, 11, 12, 13] ?_
 obtain ⟨i, hi⟩ : ∃ i, i = ix.toNat % 2 ^ k := ⟨_, rfl⟩
 rw [← hi]
 have hik : i < 2 ^ k := by rw [hi]; exact Nat.mod_lt _ hp0
 clear hi
 have hy := @i_shl
 refine Tr.w hcx [1000044] _ [] rfl rfl rfl ?_ X_fc8
 obtain ⟨j, hj⟩ : ∃ j, j = iy.toNat % 2 ^ k := ⟨_, rfl⟩
 rw [← hj]
 have hjk : j < 2 ^ k := by rw [hj]; exact Nat.mod_lt _ hp0
 clear hj
 obtain ⟨seed, P, S, T, V1, V2, e20, e12, e14a, e14b, hpl, e18, e19, hSl, hTl, hS2, hT2, hij⟩ := bind8 h20 h12 h14 h18 h19 c m k i j hk2 hik hjk hp4 hm b1
 have hl1 : (S.length < 1088) = False := eq_false (by omega)
 have hl2 : (S.length < (68 + k) * 16) = False := eq_false (by omega)
 have hl3 : (T.length < (68 + k) * 16) = False := eq_false (by omega)
 have hy := And.intro @e20 @e12
 refine Tr.w hcx [1000051] _ [none] rfl rfl rfl ?_ X_fc8
 refine Tr.k [0, 4, 11, 12, 13, 14, 15] ?_
 have hy := And.intro @e20 @e14a
 refine Tr.w hcx [1000059, 1000060] _ [] rfl rfl rfl ?_ X_fc8
 refine Tr.k [0, 4, 11, 12, 13, 14, 15, 17] ?_
 have hy := And.intro @e20 @e14b
 refine Tr.w hcx [1000068, 1000069] _ [] rfl rfl rfl ?_ X_fc8
 refine Tr.seqK fun K2 hK2 => ?_
 have hy := @hl1
 refine Tr.w hcx [] [some 70, some 71, some 72, some 73, some 74, some 75, some 76] [] rfl rfl rfl ?_ X_fc8
 refine Tr.cF rfl ?_
 refine Tr.skip ?_
 refine hK2 _ ?_
 refine Tr.k [4, 11, 12, 13, 14, 15, 17, 19] ?_
 have hy := True.intro
 refine Tr.w hcx [1000079] _ [] rfl rfl rfl ?_ X_fc8
 refine Tr.seqK fun K3 hK3 => ?_
 have hy := And.intro @hl2 @hl3
 refine Tr.w hcx [] [some 80, some 81, some 82, some 83, some 84, some 85, some 86, some 87, some 88, some 89] [] rfl rfl rfl ?_ X_fc8
 refine Tr.cF rfl ?_
 refine Tr.skip ?_
 refine hK3 _ ?_
 refine Tr.k [4, 11, 12, 13, 14, 15, 17, 19, 21] ?_
 have hy := True.intro
 refine Tr.wD hcx hMO [1000102] _ [] rfl rfl rfl rfl ?_ Y_fc8
 refine Tr.k [4, 11, 12, 13, 14, 15, 22] ?_
 have hy := @e18
 refine Tr.w hcx [1000109, 1000110] _ [] rfl rfl rfl ?_ X_fc8
 refine Tr.k [4, 11, 12, 13, 14, 15, 22, 23, 24] ?_
 have hy := @e19
 refine Tr.w hcx [1000117, 1000118] _ [] rfl rfl rfl ?_ X_fc8
 refine Tr.k [11, 13, 14, 23, 24, 25, 26] ?_
 by_cases z0 : i = j
 ·
  have hv := hij z0
  have hy := @hv
  refine Tr.w hcx [1000138] [some 119, some 120, some 121, some 122, some 123, some 124, some 125, some 126, some 127, some 128, some 129, some 130, some 131, some 132, some 133, some 134, some 135, some 136, some 137, some 138, some 10] [] rfl rfl rfl ?_ X_fc8
  refine Tr.k [10] ?_
  exact Tr.ret F_fc8
 have hv := True.intro
 have hy := @hv
 refine Tr.w hcx [1000138] [some 119, some 120, some 121, some 122, some 123, some 124, some 125, some 126, some 127, some 128, some 129, some 130, some 131, some 132, some 133, some 134, some 135, some 136, some 137, some 138, some 10] [] rfl rfl rfl ?_ X_fc8
 refine Tr.k [10] ?_
 exact Tr.ret F_fc8
end Go.Sx
namespace Go.Sx
open Go.RowKit Go.Proofs
theorem hnr_ext {pu : Nat → List C → Option C} (hnr : ∀ f xs, noRefs 0 xs = false → pu f xs = none) {α : Type} {enc : α → List C} {out : α → C} {f : Nat} (he : ∀ a, noRefs 0 (enc a) = true) : ∀ g xs, noRefs 0 xs = false → Sx.ext pu f (tabOf enc out) g xs = none := fun g xs hr => by
  by_cases hgf : g = f
  · subst hgf
    rw [ext_hit]
    cases hq : tabOf enc out xs with
    | none => rfl
    | some c =>
      obtain ⟨a, rfl, _⟩ := tabOf_some hq
      rw [he a] at hr; cases hr
  · rw [ext_miss hgf]; exact hnr g xs hr
theorem noRef_fnQ (k f : Nat) (xs : List C) : noRef k (.fn f xs) = noRefs k xs := rfl
theorem fc26 {gl : Nat → C} {M : Nat} {pu : Nat → List C → Option C} (hcx : CxOK (cxP gl M pu)) (n : Int) (hn : -9223372036854775808 ≤ n ∧ n ≤ 9223372036854775807) : FC Tryd.prog gl 26 [.val (.int .i64 n)] [] (sl bC (.own 1) (wint n)) [] := by
  by_cases h : 0 ≤ n
  · obtain ⟨m, rfl⟩ : ∃ m : Nat, n = (m : Int) := ⟨n.toNat, by omega⟩
    rw [wint_pos]; exact fc26p hcx m (by omega)
  · obtain ⟨m, rfl⟩ : ∃ m : Nat, n = -1 - (m : Int) := ⟨(-1 - n).toNat, by omega⟩
    rw [wint_neg _ (le_len 8 m (by omega))]; exact fc26n hcx m (by omega)
theorem fc30 {gl : Nat → C} {M : Nat} {pu : Nat → List C → Option C} (hcx : CxOK (cxP gl M pu)) (n : Int) (hn : -9223372036854775808 ≤ n ∧ n ≤ 9223372036854775807) : FC Tryd.prog gl 30 [.val (.int .i64 n)] [] (sl bC (.own 1) (wint n)) [] := by
  by_cases h : 0 ≤ n
  · obtain ⟨m, rfl⟩ : ∃ m : Nat, n = (m : Int) := ⟨n.toNat, by omega⟩
    rw [wint_pos]; exact fc30p hcx m (by omega)
  · obtain ⟨m, rfl⟩ : ∃ m : Nat, n = -1 - (m : Int) := ⟨(-1 - n).toNat, by omega⟩
    rw [wint_neg _ (le_len 8 m (by omega))]; exact fc30n hcx m (by omega)
section
variable {gl : Nat → C} {M : Nat} {pu : Nat → List C → Option C}
theorem fc38a (hcx : CxOK (cxQ gl M pu hp3)) (h34 : ∀ (tag : Int) (parts : List (List UInt8)), (inp tag parts).length < 1099511627776 → pu 34 [.val (.int .i64 tag), sl sC .no parts] = some (.agg (cl bC ((sha (inp tag parts)).take 16)))) (hnr : ∀ (g : Nat) (xs : List C), noRefs 0 xs = false → pu g xs = none) (h45 : ∀ (c i : Nat) (seed : List UInt8), i < 1000000 ∧ c < 68 → seed.length ≤ 1000000 → pu 45 [.val (nI c), .kp [.val (nI i)], .kp [.val (str seed)]] = some (.agg (cl bC (topT seed i c))))
    (seed : List UInt8) (k : Nat) (hs : seed.length ≤ 1000000) (hk : k < 1000000) : FC Tryd.prog gl 38 [.fn 45 [.kp [.val (nI k)], .kp [.val (str seed)]]] [] (.agg (cl bC (leafT seed k))) [] :=
  fc38 hcx (fun pre p h1 h2 => (hp3_25 _ _).trans (hq25f pre p h1 h2)) (fun pre l p h1 h2 => (hp3_25 _ _).trans (hq25u pre l p h1 h2)) (fun b k m => (hq25n b k m).elim fun r h => ⟨r, (hp3_25 _ _).trans h⟩) hq29 h34 hnr
    45 [.kp [.val (nI k)], .kp [.val (str seed)]] (topT seed k) (fun c hc => h45 c k seed ⟨hk, hc⟩ hs) (fun c _ => topT_len seed k c) rfl
theorem fc38b (hcx : CxOK (cxQ gl M pu hp3)) (h34 : ∀ (tag : Int) (parts : List (List UInt8)), (inp tag parts).length < 1099511627776 → pu 34 [.val (.int .i64 tag), sl sC .no parts] = some (.agg (cl bC ((sha (inp tag parts)).take 16)))) (hnr : ∀ (g : Nat) (xs : List C), noRefs 0 xs = false → pu g xs = none) (h39 : ∀ (c i : Nat) (D : List Nat) (r : List UInt8), i < 1000000 ∧ c < 68 → D.length = 68 → gt D c < 4 → 16 * c + 16 ≤ r.length ∧ r.length ≤ 1000000 → pu 39 [.val (nI c), .kp [.val (nI i)], .kp [sl nC .no D], .kp [.fn 37 [.kp [sl bC .no r]]]] = some (.agg (cl bC (endV i D r c))))
    (i : Nat) (D : List Nat) (r : List UInt8) (hi : i < 1000000) (hD : D.length = 68) (hD4 : ∀ c, c < 68 → gt D c < 4) (hr : 1088 ≤ r.length ∧ r.length ≤ 1000000) : FC Tryd.prog gl 38 [.fn 39 [.kp [.val (nI i)], .kp [sl nC .no D], .kp [.fn 37 [.kp [sl bC .no r]]]]] [] (.agg (cl bC (leafV (endV i D r)))) [] :=
  fc38 hcx (fun pre p h1 h2 => (hp3_25 _ _).trans (hq25f pre p h1 h2)) (fun pre l p h1 h2 => (hp3_25 _ _).trans (hq25u pre l p h1 h2)) (fun b k m => (hq25n b k m).elim fun r h => ⟨r, (hp3_25 _ _).trans h⟩) hq29 h34 hnr
    39 [.kp [.val (nI i)], .kp [sl nC .no D], .kp [.fn 37 [.kp [sl bC .no r]]]] (endV i D r) (fun c hc => h39 c i D r ⟨hi, hc⟩ hD (hD4 c hc) ⟨by omega, hr.2⟩) (fun c hc => endV_len (by omega)) (by simp only [noRefs_cons, noRefs_nil, noRef_kp, noRef_val, noRef_sl, noRef_fnQ, Bool.and_self])
end
inductive Z38 where
  | a (seed : List UInt8) (k : Nat)
  | b (i : Nat) (D : List Nat) (r : List UInt8)
def Z38.Ok : Z38 → Prop
  | .a seed k => seed.length ≤ 1000000 ∧ k < 1000000
  | .b i D r => i < 1000000 ∧ D.length = 68 ∧ (∀ c, c < 68 → gt D c < 4) ∧ 1088 ≤ r.length ∧ r.length ≤ 1000000
def encZ : Z38 → List C
  | .a seed k => [.fn 45 [.kp [.val (nI k)], .kp [.val (str seed)]]]
  | .b i D r => [.fn 39 [.kp [.val (nI i)], .kp [sl nC .no D], .kp [.fn 37 [.kp [sl bC .no r]]]]]
def outZ : Z38 → C
  | .a seed k => .agg (cl bC (leafT seed k))
  | .b i D r => .agg (cl bC (leafV (endV i D r)))
theorem encZ_nr (z : Z38) : noRefs 0 (encZ z) = true := by
  cases z with
  | a seed k => rfl
  | b i D r => simp only [encZ, noRefs_cons, noRefs_nil, noRef_kp, noRef_val, noRef_sl, noRef_fn, Bool.and_self]
theorem encZ_inj {x y : Z38} (h : encZ x = encZ y) : outZ x = outZ y := by
  cases x with
  | a seed k =>
    cases y with
    | a seed' k' =>
      simp only [encZ, List.cons.injEq, C.fn.injEq, C.kp.injEq, C.val.injEq, nI_inj, str_inj, and_true, true_and] at h
      rw [h.1, h.2]
    | b i D r => exfalso; simp [encZ] at h
  | b i D r =>
    cases y with
    | a seed' k' => exfalso; simp [encZ] at h
    | b i' D' r' =>
      simp only [encZ, List.cons.injEq, C.fn.injEq, C.kp.injEq, C.val.injEq, nI_inj, sl_inj, and_true, true_and] at h
      rw [h.1, h.2.1, h.2.2]
theorem fc38z {gl : Nat → C} {M : Nat} {pu : Nat → List C → Option C} (hcx : CxOK (cxQ gl M pu hp3)) (h34 : ∀ (tag : Int) (parts : List (List UInt8)), (inp tag parts).length < 1099511627776 → pu 34 [.val (.int .i64 tag), sl sC .no parts] = some (.agg (cl bC ((sha (inp tag parts)).take 16)))) (hnr : ∀ (g : Nat) (xs : List C), noRefs 0 xs = false → pu g xs = none) (h45 : ∀ (c i : Nat) (seed : List UInt8), i < 1000000 ∧ c < 68 → seed.length ≤ 1000000 → pu 45 [.val (nI c), .kp [.val (nI i)], .kp [.val (str seed)]] = some (.agg (cl bC (topT seed i c))))
    (h39 : ∀ (c i : Nat) (D : List Nat) (r : List UInt8), i < 1000000 ∧ c < 68 → D.length = 68 → gt D c < 4 → 16 * c + 16 ≤ r.length ∧ r.length ≤ 1000000 → pu 39 [.val (nI c), .kp [.val (nI i)], .kp [sl nC .no D], .kp [.fn 37 [.kp [sl bC .no r]]]] = some (.agg (cl bC (endV i D r c))))
    (z : Z38) (hz : Z38.Ok z) : FC Tryd.prog gl 38 (encZ z) [] (outZ z) [] := by
  cases z with
  | a seed k => exact fc38a hcx h34 hnr h45 seed k hz.1 hz.2
  | b i D r => exact fc38b hcx h34 hnr h39 i D r hz.1 hz.2.1 hz.2.2.1 hz.2.2.2
section
theorem hQ22 (pre : Hp) (seed : List UInt8) (h1 : ∀ o ∈ pre, okBox o = true) : hp5 7 22 [.val (str seed)] pre = some (.fn 44 [.kp [.mp pre.length], .kp [.val (str seed)], atK pre.length seed 8], pre ++ [some (mapC (ents seed []))]) := (hp5_22 7 _ _).trans (hq22 pre seed h1)
theorem hQ44 (pre suf : Hp) (seed : List UInt8) (l k : Nat) (M : List (Nat × Nat)) (h1 : ∀ o ∈ pre, okBox o = true) (h2 : ∀ o ∈ suf, okBox o = true) (h3 : seed.length ≤ 1000000) (h4 : OkM M) (h5 : (k + 1) * 2 ^ l ≤ 1000000 ∧ l < 7) :
    hp5 7 44 [.val (nI l), .val (nI k), .kp [.mp pre.length], .kp [.val (str seed)], atK pre.length seed 8] (pre ++ ([some (mapC (ents seed M))] ++ suf)) = some (.agg (cl bC (treeT seed l k)), pre ++ ([some (mapC (ents seed (vis l k M)))] ++ suf)) :=
  hq44 7 pre suf seed l k 8 M h1 h2 h3 h4 h5.1 h5.2 (by omega) h5.2
theorem hQ25i (pre : Hp) (p : List UInt8) (h1 : ∀ o ∈ pre, okBox o = true) (h2 : 0 < p.length ∧ p.length ≤ 1000000000) : hp5 7 25 [.bt pre.length 54 2, sl bC .no p] (pre ++ [some [.val (.pointer none), .val (.slice none 0 0)]]) = some (.tup [.val (nI p.length), .val .nilIface], pre ++ [some [.bt pre.length 54 2, .gv (pre.length + 1) p.length (1, 5)], some (cl bC p)]) := (hp5_25 7 _ _).trans (hq25i pre p h1 h2)
theorem hQ25u (pre : Hp) (l p : List UInt8) (h1 : ∀ o ∈ pre, okBox o = true) (h2 : 0 < p.length ∧ p.length ≤ 1000000000 ∧ l.length ≤ 1000000000) : hp5 7 25 [.bt pre.length 54 2, .sv (pre.length + 2) 0 p.length] (pre ++ [some [.bt pre.length 54 2, .gv (pre.length + 1) l.length (1, 5)], some (cl bC l), some (cl bC p)]) = some (.tup [.val (nI p.length), .val .nilIface], pre ++ [some [.bt pre.length 54 2, .gv (pre.length + 3) (l ++ p).length (1, 5)], some deadC, some (cl bC p), some (cl bC (l ++ p))]) := (hp5_25 7 _ _).trans (hq25u pre l p h1 h2)
theorem hQ25n (b k m : Nat) : ∃ r, hp5 7 25 [.bt b 54 2, .sv k 0 m] [] = some r := (hq25n b k m).elim fun r h => ⟨r, (hp5_25 7 _ _).trans h⟩
theorem hQ29 (pre suf : Hp) (l : List UInt8) (h1 : ∀ o ∈ pre, okBox o = true) (h2 : ∀ o ∈ suf, okBox o = true) (h3 : l ≠ [] ∧ l.length ≤ 1000000000) : hp5 7 29 [.bt pre.length 54 2] (pre ++ ([some [.bt pre.length 54 2, .gv (pre.length + 1) l.length (1, 5)], some (cl bC l)] ++ suf)) = some (.val (str l), pre ++ ([some deadC, some deadC] ++ suf)) :=
  (hp5_miss 7 (by decide) (by decide) _ _).trans (hq29 pre suf l h1 h2 h3)
end
end Go.Sx
