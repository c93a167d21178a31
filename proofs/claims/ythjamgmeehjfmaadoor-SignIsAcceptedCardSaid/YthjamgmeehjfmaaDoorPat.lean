/-
  Package sign: Verify. And what follows.
-/
import Derived.Test.YthjamgmeehjfmaaDoorPas
import Derived.Test.YthjamgmeehjfmaaDoorPaa
set_option linter.unusedSimpArgs false
set_option linter.unusedVariables false
namespace Go.Sx
open Go.RowKit Go.Proofs
set_option maxRecDepth 100000 in
set_option maxHeartbeats 8000000 in
theorem fc18 {gl : Nat → C} {M : Nat} {pu : Nat → List C → Option C}  (hcx : CxOK (cxD gl M pu)) (h21 : ∀ h : Int, pu 21 [.val (.int .i64 h)] = some (.val (.bool (decide (0 ≤ h ∧ h ≤ 6))))) (h36 : ∀ b : List UInt8, b.length < 9223372036854775807 → pu 36 [sl bC .no b] = some (.tup [.val (.int .i64 (getI b).1), .val (nI (getI b).2.1), .val (nI (getI b).2.2)])) (h16 : ∀ (p : List UInt8) (i : Int) (m : List UInt8), p.length = 16 → (-9223372036854775808 ≤ i ∧ i ≤ 9223372036854775807) → m.length ≤ 1048576 → pu 16 [.agg (cl bC p), .val (.int .i64 i), .val (str m)] = some (.agg (cl bC (msgT p i m)))) (h10 : ∀ d : List UInt8, d.length = 16 → pu 10 [.agg (cl bC d)] = some (sl nC .no (digT d))) (h37 : ∀ (k : Nat) (r : List UInt8), 16 * k + 16 ≤ r.length ∧ r.length ≤ 1000000 → pu 37 [.val (nI k), .kp [sl bC .no r]] = some (.agg (cl bC (at16 r k)))) (h38 : ∀ (i : Nat) (D : List Nat) (r : List UInt8), i < 1000000 → D.length = 68 → (∀ c, c < 68 → gt D c < 4) → 1088 ≤ r.length ∧ r.length ≤ 1000000 → pu 38 [.fn 39 [.kp [.val (nI i)], .kp [sl nC .no D], .kp [.fn 37 [.kp [sl bC .no r]]]]] = some (.agg (cl bC (leafV (endV i D r))))) (h40 : ∀ a b : List UInt8, a.length = 16 → b.length = 16 → pu 40 [.agg (cl bC a), .agg (cl bC b)] = some (.agg (cl bC (nodT a b)))) (hno : ∀ (g : Nat) (xs : List C), refy xs = true → pu g xs = none) (hnr : ∀ (g : Nat) (xs : List C), noRefs 0 xs = false → pu g xs = none) (p : List UInt8) (h : Int) (m sg : List UInt8) (hp : p.length = 16) (hh : -9223372036854775808 ≤ h ∧ h ≤ 9223372036854775807) (hm : m.length ≤ 1000000000) (hsg : sg.length ≤ 900000) : FC Tryd.prog gl 18 [.agg (cl bC p), .val (.int .i64 h), .val (str m), .val (str sg)] [] (.tup [.val (.int .i64 (verT p h m sg).1), .val (nI (verT p h m sg).2)]) [] := by
 replace hcx := hcx.reN (M := 90)
 refine FC.ofA (cx := cxD gl 90 pu) (rs := [.tmp 8, .tmp 9]) rfl Tryd.func18 rfl rfl rfl (by simp only [List.length_cons, List.length_nil]; decide) (by simp only [go_sem]) ?_
 simp only [ini, go_sem]
 have e36 := h36 sg (by omega)
 have hbd := getI_bd sg
 obtain ⟨x, n, e, hg⟩ : ∃ x n e, getI sg = (x, n, e) := ⟨_, _, _, rfl⟩
 rw [hg] at e36 hbd
 simp only [] at e36 hbd
 have hk0 := True.intro
 have hk7 := True.intro
 have hi0 := True.intro
 have hi2 := True.intro
 have hDl := True.intro
 have e21 := h21 h
 have en38 : pu 38 [.fn 39 [.bp 1 0, .bp 4 0, .bp 3 0]] = none := hnr 38 _ rfl
 refine Tr.seqK fun K1 hK1 => ?_
 refine Tr.rg hcx [] _ [none] rfl rfl rfl ?_
 simp -implicitDefEqProofs (maxSteps := 2000000) (disch := first | omega | (simp only [go_sem, List.length_append, List.length_drop, List.length_take, hp, hDl, ofT_len, nodT_len] <;> omega) | decide) only [go_sem, ↓reduceIte, Nat.reduceEqDiff, reduceCtorEq, Nat.reduceLT, Nat.reduceBEq, Nat.reduceAdd, Nat.reduceSub, Nat.reduceMul, Nat.reduceMod]
 refine hK1 _ ?_
 clear hK1 K1
 refine Tr.kp [1, 2, 3, 4] ?_
 simp only [pk_cons, pk_nil, ↓A_cons, ↓reduceIte, Nat.reduceEqDiff]
 refine Tr.seqK fun K2 hK2 => ?_
 refine Tr.blk ?_
 refine Tr.seqK fun K3 hK3 => ?_
 by_cases b1 : 0 ≤ h ∧ h ≤ 6
 ·
  obtain ⟨k, rfl⟩ : ∃ k : Nat, h = (k : Int) := ⟨h.toNat, by omega⟩
  have hk6 : k ≤ 6 := by omega
  have hk0 : (k < 0) = False := by simp
  have hk7 : (6 < k) = False := eq_false (by omega)
  have hp64 := pow_64 hk6 0
  rw [Nat.sub_zero] at hp64
  replace e21 : pu 21 [.val (nI k)] = some (.val (.bool (decide (0 ≤ (k : Int) ∧ (k : Int) ≤ 6)))) := e21
  refine Tr.rg hcx [1000021] _ [] rfl rfl rfl ?_
  simp -implicitDefEqProofs (maxSteps := 2000000) (disch := first | omega | (simp only [go_sem, List.length_append, List.length_drop, List.length_take, hp, hDl, ofT_len, nodT_len] <;> omega) | decide) only [go_sem, ↓reduceIte, Nat.reduceEqDiff, reduceCtorEq, Nat.reduceLT, Nat.reduceBEq, Nat.reduceAdd, Nat.reduceSub, Nat.reduceMul, Nat.reduceMod, b1, e21, b1]
  refine hK3 _ ?_
  clear hK3 K3
  refine Tr.kp [1, 2, 3, 4, 18] ?_
  simp only [pk_cons, pk_nil, ↓A_cons, ↓reduceIte, Nat.reduceEqDiff]
  refine Tr.condG fun KT KF hT hF => ?_
  simp only [ev_tmp, ev_const, ↓A_cons, ↓reduceIte, Nat.reduceEqDiff, reduceCtorEq, condG_bool, GB_true, GB_false, decide_eq_true_eq]
  refine hF ?_
  clear hT hF KT KF
  refine Tr.seqK fun K4 hK4 => ?_
  refine Tr.rg hcx [1000025] _ [] rfl rfl rfl ?_
  simp -implicitDefEqProofs (maxSteps := 2000000) (disch := first | omega | (simp only [go_sem, List.length_append, List.length_drop, List.length_take, hp, hDl, ofT_len, nodT_len] <;> omega) | decide) only [go_sem, ↓reduceIte, Nat.reduceEqDiff, reduceCtorEq, Nat.reduceLT, Nat.reduceBEq, Nat.reduceAdd, Nat.reduceSub, Nat.reduceMul, Nat.reduceMod, b1]
  refine hK4 _ ?_
  clear hK4 K4
  refine Tr.kp [1, 2, 3, 4, 22] ?_
  simp only [pk_cons, pk_nil, ↓A_cons, ↓reduceIte, Nat.reduceEqDiff]
  refine Tr.condG fun KT KF hT hF => ?_
  simp only [ev_tmp, ev_const, ↓A_cons, ↓reduceIte, Nat.reduceEqDiff, reduceCtorEq, condG_bool, GB_true, GB_false, decide_eq_true_eq]
  refine GB.dec (fun hc22 => hT ?_) (fun hc22 => hF ?_)
  ·
   clear hT hF KT KF
   refine Tr.seqK fun K5 hK5 => ?_
   refine Tr.rg hcx [] _ [] rfl rfl rfl ?_
   simp -implicitDefEqProofs (maxSteps := 2000000) (disch := first | omega | (simp only [go_sem, List.length_append, List.length_drop, List.length_take, hp, hDl, ofT_len, nodT_len] <;> omega) | decide) only [go_sem, ↓reduceIte, Nat.reduceEqDiff, reduceCtorEq, Nat.reduceLT, Nat.reduceBEq, Nat.reduceAdd, Nat.reduceSub, Nat.reduceMul, Nat.reduceMod, b1]
   refine hK5 _ ?_
   clear hK5 K5
   refine Tr.kp [8, 9] ?_
   simp only [pk_cons, pk_nil, ↓A_cons, ↓reduceIte, Nat.reduceEqDiff]
   refine Tr.ret ?_
   simp -implicitDefEqProofs (disch := first | omega | (simp only [go_sem, List.length_append, List.length_drop, List.length_take, hp, hDl, ofT_len, nodT_len] <;> omega) | decide) only [go_sem, ↓reduceIte, Nat.reduceEqDiff, reduceCtorEq]
   all_goals (first | (rw [ver_1 b1]; rfl) | (rw [ver_4 hk6 (by omega)]; rfl) | (rw [ver_e hk6 (by omega) hg b3]; rfl) | (rw [ver_2 hk6 (by omega) hg (by first | exact Or.inl b4 | exact Or.inr (Or.inl b5) | exact Or.inr (Or.inr b6))]; rfl) | (rw [ver_z hk6 (by omega) hg hik b6o, rootV, ← hD, if_pos z0]; rfl) | (rw [ver_z hk6 (by omega) hg hik b6o, rootV, ← hD, if_neg z0]; rfl))
  ·
   clear hT hF KT KF
   refine Tr.skip ?_
   refine hK2 _ ?_
   clear hK2 K2
   refine Tr.kp [1, 2, 3, 4] ?_
   simp only [pk_cons, pk_nil, ↓A_cons, ↓reduceIte, Nat.reduceEqDiff]
   refine Tr.seqK fun K6 hK6 => ?_
   refine Tr.rg hcx [1000031, 1000032] _ [none] rfl rfl rfl ?_
   simp -implicitDefEqProofs (maxSteps := 2000000) (disch := first | omega | (simp only [go_sem, List.length_append, List.length_drop, List.length_take, hp, hDl, ofT_len, nodT_len] <;> omega) | decide) only [go_sem, ↓reduceIte, Nat.reduceEqDiff, reduceCtorEq, Nat.reduceLT, Nat.reduceBEq, Nat.reduceAdd, Nat.reduceSub, Nat.reduceMul, Nat.reduceMod, b1, e36]
   refine hK6 _ ?_
   clear hK6 K6
   refine Tr.kp [1, 2, 3, 4, 10, 11, 12] ?_
   simp only [pk_cons, pk_nil, ↓A_cons, ↓reduceIte, Nat.reduceEqDiff]
   refine Tr.seqK fun K7 hK7 => ?_
   refine Tr.seqK fun K8 hK8 => ?_
   by_cases b3 : e = 0
   ·
    subst b3
    have b3 := True.intro
    refine Tr.rg hcx [] _ [] rfl rfl rfl ?_
    simp -implicitDefEqProofs (maxSteps := 2000000) (disch := first | omega | (simp only [go_sem, List.length_append, List.length_drop, List.length_take, hp, hDl, ofT_len, nodT_len] <;> omega) | decide) only [go_sem, ↓reduceIte, Nat.reduceEqDiff, reduceCtorEq, Nat.reduceLT, Nat.reduceBEq, Nat.reduceAdd, Nat.reduceSub, Nat.reduceMul, Nat.reduceMod, b1, b3]
    refine hK8 _ ?_
    clear hK8 K8
    refine Tr.kp [1, 2, 3, 4, 10, 11, 12, 34] ?_
    simp only [pk_cons, pk_nil, ↓A_cons, ↓reduceIte, Nat.reduceEqDiff]
    refine Tr.condG fun KT KF hT hF => ?_
    simp only [ev_tmp, ev_const, ↓A_cons, ↓reduceIte, Nat.reduceEqDiff, reduceCtorEq, condG_bool, GB_true, GB_false, decide_eq_true_eq]
    refine hF ?_
    clear hT hF KT KF
    refine Tr.skip ?_
    refine hK7 _ ?_
    clear hK7 K7
    refine Tr.kp [1, 2, 3, 4, 10, 11] ?_
    simp only [pk_cons, pk_nil, ↓A_cons, ↓reduceIte, Nat.reduceEqDiff]
    refine Tr.seqK fun K9 hK9 => ?_
    have hnl : (sg.drop n).length = sg.length - n := List.length_drop ..
    have hnn := hbd.1
    refine Tr.rg hcx [] _ [none] rfl rfl rfl ?_
    simp -implicitDefEqProofs (maxSteps := 2000000) (disch := first | omega | (simp only [go_sem, List.length_append, List.length_drop, List.length_take, hp, hDl, ofT_len, nodT_len] <;> omega) | decide) only [go_sem, ↓reduceIte, Nat.reduceEqDiff, reduceCtorEq, Nat.reduceLT, Nat.reduceBEq, Nat.reduceAdd, Nat.reduceSub, Nat.reduceMul, Nat.reduceMod, b1, b3]
    refine hK9 _ ?_
    clear hK9 K9
    refine Tr.kp [1, 2, 4, 10, 13] ?_
    simp only [pk_cons, pk_nil, ↓A_cons, ↓reduceIte, Nat.reduceEqDiff]
    refine Tr.seqK fun K10 hK10 => ?_
    refine Tr.seqK fun K11 hK11 => ?_
    by_cases b4 : x < ((0 : Nat) : Int)
    ·
     refine Tr.rgD hcx hMOD [] [some 40, some 41, some 42, some 43, some 44, some 45, some 46, some 47, some 48, some 49, some 50, some 51, some 52, some 53, some 54, some 55] [] rfl rfl rfl rfl ?_
     simp -implicitDefEqProofs (maxSteps := 2000000) (disch := first | omega | (simp only [go_sem, List.length_append, List.length_drop, List.length_take, hp, hDl, ofT_len, nodT_len] <;> omega) | decide) only [go_sem, ↓reduceIte, Nat.reduceEqDiff, reduceCtorEq, Nat.reduceLT, Nat.reduceBEq, Nat.reduceAdd, Nat.reduceSub, Nat.reduceMul, Nat.reduceMod, b1, b3, b4, i_shl, Nat.one_mul, hi0, hi2]
     with_reducible refine And.intro ?_ ?_
     · exact rfl
     refine hK11 _ ?_
     clear hK11 K11
     refine Tr.kp [1, 2, 4, 10, 13, 55] ?_
     simp only [pk_cons, pk_nil, ↓A_cons, ↓reduceIte, Nat.reduceEqDiff]
     refine Tr.condG fun KT KF hT hF => ?_
     simp only [ev_tmp, ev_const, ↓A_cons, ↓reduceIte, Nat.reduceEqDiff, reduceCtorEq, condG_bool, GB_true, GB_false, decide_eq_true_eq]
     refine hT ?_
     clear hT hF KT KF
     refine Tr.seqK fun K12 hK12 => ?_
     refine Tr.rg hcx [] _ [] rfl rfl rfl ?_
     simp -implicitDefEqProofs (maxSteps := 2000000) (disch := first | omega | (simp only [go_sem, List.length_append, List.length_drop, List.length_take, hp, hDl, ofT_len, nodT_len] <;> omega) | decide) only [go_sem, ↓reduceIte, Nat.reduceEqDiff, reduceCtorEq, Nat.reduceLT, Nat.reduceBEq, Nat.reduceAdd, Nat.reduceSub, Nat.reduceMul, Nat.reduceMod, b1, b3, b4]
     refine hK12 _ ?_
     clear hK12 K12
     refine Tr.kp [8, 9] ?_
     simp only [pk_cons, pk_nil, ↓A_cons, ↓reduceIte, Nat.reduceEqDiff]
     refine Tr.ret ?_
     simp -implicitDefEqProofs (disch := first | omega | (simp only [go_sem, List.length_append, List.length_drop, List.length_take, hp, hDl, ofT_len, nodT_len] <;> omega) | decide) only [go_sem, ↓reduceIte, Nat.reduceEqDiff, reduceCtorEq]
     all_goals (first | (rw [ver_1 b1]; rfl) | (rw [ver_4 hk6 (by omega)]; rfl) | (rw [ver_e hk6 (by omega) hg b3]; rfl) | (rw [ver_2 hk6 (by omega) hg (by first | exact Or.inl b4 | exact Or.inr (Or.inl b5) | exact Or.inr (Or.inr b6))]; rfl) | (rw [ver_z hk6 (by omega) hg hik b6o, rootV, ← hD, if_pos z0]; rfl) | (rw [ver_z hk6 (by omega) hg hik b6o, rootV, ← hD, if_neg z0]; rfl))
    ·
     by_cases b5 : ((2 ^ k : Nat) : Int) ≤ x
     ·
      skip
      refine Tr.rgD hcx hMOD [] [some 40, some 41, some 42, some 43, some 44, some 45, some 46, some 47, some 48, some 49, some 50, some 51, some 52, some 53, some 54, some 55] [] rfl rfl rfl rfl ?_
      simp -implicitDefEqProofs (maxSteps := 2000000) (disch := first | omega | (simp only [go_sem, List.length_append, List.length_drop, List.length_take, hp, hDl, ofT_len, nodT_len] <;> omega) | decide) only [go_sem, ↓reduceIte, Nat.reduceEqDiff, reduceCtorEq, Nat.reduceLT, Nat.reduceBEq, Nat.reduceAdd, Nat.reduceSub, Nat.reduceMul, Nat.reduceMod, b1, b3, b4, b5, i_shl, Nat.one_mul, hi0, hi2]
      with_reducible refine And.intro ?_ ?_
      · exact rfl
      refine hK11 _ ?_
      clear hK11 K11
      refine Tr.kp [1, 2, 4, 10, 13, 55] ?_
      simp only [pk_cons, pk_nil, ↓A_cons, ↓reduceIte, Nat.reduceEqDiff]
      refine Tr.condG fun KT KF hT hF => ?_
      simp only [ev_tmp, ev_const, ↓A_cons, ↓reduceIte, Nat.reduceEqDiff, reduceCtorEq, condG_bool, GB_true, GB_false, decide_eq_true_eq]
      refine hT ?_
      clear hT hF KT KF
      refine Tr.seqK fun K13 hK13 => ?_
      refine Tr.rg hcx [] _ [] rfl rfl rfl ?_
      simp -implicitDefEqProofs (maxSteps := 2000000) (disch := first | omega | (simp only [go_sem, List.length_append, List.length_drop, List.length_take, hp, hDl, ofT_len, nodT_len] <;> omega) | decide) only [go_sem, ↓reduceIte, Nat.reduceEqDiff, reduceCtorEq, Nat.reduceLT, Nat.reduceBEq, Nat.reduceAdd, Nat.reduceSub, Nat.reduceMul, Nat.reduceMod, b1, b3, b4, b5]
      refine hK13 _ ?_
      clear hK13 K13
      refine Tr.kp [8, 9] ?_
      simp only [pk_cons, pk_nil, ↓A_cons, ↓reduceIte, Nat.reduceEqDiff]
      refine Tr.ret ?_
      simp -implicitDefEqProofs (disch := first | omega | (simp only [go_sem, List.length_append, List.length_drop, List.length_take, hp, hDl, ofT_len, nodT_len] <;> omega) | decide) only [go_sem, ↓reduceIte, Nat.reduceEqDiff, reduceCtorEq]
      all_goals (first | (rw [ver_1 b1]; rfl) | (rw [ver_4 hk6 (by omega)]; rfl) | (rw [ver_e hk6 (by omega) hg b3]; rfl) | (rw [ver_2 hk6 (by omega) hg (by first | exact Or.inl b4 | exact Or.inr (Or.inl b5) | exact Or.inr (Or.inr b6))]; rfl) | (rw [ver_z hk6 (by omega) hg hik b6o, rootV, ← hD, if_pos z0]; rfl) | (rw [ver_z hk6 (by omega) hg hik b6o, rootV, ← hD, if_neg z0]; rfl))
     ·
      obtain ⟨i, rfl⟩ : ∃ i : Nat, x = (i : Int) := ⟨x.toNat, by omega⟩
      have hik : i < 2 ^ k := by omega
      have hi0 : (i < 0) = False := by simp
      have hi2 : (2 ^ k ≤ i) = False := eq_false (by omega)
      have hi64 : i < 64 := by omega
      by_cases b6 : (sg.drop n).length = (68 + k) * 16
      ·
       have b6o := b6
       have hml : m.length ≤ 1048576 := by omega
       have e16 : pu 16 [.agg (cl bC p), .val (nI i), .val (str m)] = some (.agg (cl bC (msgT p (i : Int) m))) := h16 _ (i : Int) m hp (by omega) hml
       have hmsl := msgT_len p (i : Int) m
       have e10 := h10 _ hmsl
       obtain ⟨D, hD⟩ : ∃ D, D = digT (msgT p (i : Int) m) := ⟨_, rfl⟩
       rw [← hD] at e10
       have hDl : D.length = 68 := by rw [hD]; exact digT_len _
       have hD4 : ∀ c, c < 68 → gt D c < 4 := fun c hc => by rw [hD]; exact digT_lt _ c hc
       have hat : ∀ c, c < 68 + k → (at16 (sg.drop n) c).length = 16 := fun c hc => at16_len (by omega)
       have hev : ∀ c, c < 68 → (endV i D (sg.drop n) c).length = 16 := fun c hc => endV_len (by omega)
       have hcv : ∀ a, a ≤ 68 → (catV (endV i D (sg.drop n)) a).length = 16 * a := fun a ha => catV_len' a fun c hc => hev c (by omega)
       have hlv := leafV_len (endV i D (sg.drop n))
       have hup := fun l => upR_len i (sg.drop n) hlv l
       have hnk := hnl
       have e38 := h38 i D (sg.drop n) (by omega) hDl hD4 ⟨by omega, by omega⟩
       refine Tr.rgD hcx hMOD [] [some 40, some 41, some 42, some 43, some 44, some 45, some 46, some 47, some 48, some 49, some 50, some 51, some 52, some 53, some 54, some 55] [] rfl rfl rfl rfl ?_
       simp -implicitDefEqProofs (maxSteps := 2000000) (disch := first | omega | (simp only [go_sem, List.length_append, List.length_drop, List.length_take, hp, hDl, ofT_len, nodT_len] <;> omega) | decide) only [go_sem, ↓reduceIte, Nat.reduceEqDiff, reduceCtorEq, Nat.reduceLT, Nat.reduceBEq, Nat.reduceAdd, Nat.reduceSub, Nat.reduceMul, Nat.reduceMod, b1, b3, b4, b5, b6, i_shl, Nat.one_mul, hi0, hi2]
       with_reducible refine And.intro ?_ ?_
       · exact rfl
       refine hK11 _ ?_
       clear hK11 K11
       refine Tr.kp [1, 2, 4, 10, 13, 55] ?_
       simp only [pk_cons, pk_nil, ↓A_cons, ↓reduceIte, Nat.reduceEqDiff]
       refine Tr.condG fun KT KF hT hF => ?_
       simp only [ev_tmp, ev_const, ↓A_cons, ↓reduceIte, Nat.reduceEqDiff, reduceCtorEq, condG_bool, GB_true, GB_false, decide_eq_true_eq]
       refine hF ?_
       clear hT hF KT KF
       refine Tr.skip ?_
       refine hK10 _ ?_
       clear hK10 K10
       refine Tr.kp [1, 2, 4, 10, 13] ?_
       simp only [pk_cons, pk_nil, ↓A_cons, ↓reduceIte, Nat.reduceEqDiff]
       refine Tr.seqK fun K14 hK14 => ?_
       refine Tr.rg hcx [] _ [none] rfl rfl rfl ?_
       simp -implicitDefEqProofs (maxSteps := 2000000) (disch := first | omega | (simp only [go_sem, List.length_append, List.length_drop, List.length_take, hp, hDl, ofT_len, nodT_len] <;> omega) | decide) only [go_sem, ↓reduceIte, Nat.reduceEqDiff, reduceCtorEq, Nat.reduceLT, Nat.reduceBEq, Nat.reduceAdd, Nat.reduceSub, Nat.reduceMul, Nat.reduceMod, b1, b3, b4, b5, b6]
       refine hK14 _ ?_
       clear hK14 K14
       refine Tr.kp [1, 2, 4, 10, 14] ?_
       simp only [pk_cons, pk_nil, ↓A_cons, ↓reduceIte, Nat.reduceEqDiff]
       refine Tr.seqK fun K15 hK15 => ?_
       refine Tr.rg hcx [] _ [none] rfl rfl rfl ?_
       simp -implicitDefEqProofs (maxSteps := 2000000) (disch := first | omega | (simp only [go_sem, List.length_append, List.length_drop, List.length_take, hp, hDl, ofT_len, nodT_len] <;> omega) | decide) only [go_sem, ↓reduceIte, Nat.reduceEqDiff, reduceCtorEq, Nat.reduceLT, Nat.reduceBEq, Nat.reduceAdd, Nat.reduceSub, Nat.reduceMul, Nat.reduceMod, b1, b3, b4, b5, b6, e16, e10]
       refine hK15 _ ?_
       clear hK15 K15
       refine Tr.kp [1, 4, 10, 14, 15] ?_
       simp only [pk_cons, pk_nil, ↓A_cons, ↓reduceIte, Nat.reduceEqDiff]
       refine Tr.seqK fun K16 hK16 => ?_
       refine Tr.rg hcx [] _ [none] rfl rfl rfl ?_
       simp -implicitDefEqProofs (maxSteps := 2000000) (disch := first | omega | (simp only [go_sem, List.length_append, List.length_drop, List.length_take, hp, hDl, ofT_len, nodT_len] <;> omega) | decide) only [go_sem, ↓reduceIte, Nat.reduceEqDiff, reduceCtorEq, Nat.reduceLT, Nat.reduceBEq, Nat.reduceAdd, Nat.reduceSub, Nat.reduceMul, Nat.reduceMod, b1, b3, b4, b5, b6, List.map_cons, List.map_nil, List.drop_zero, hno, en38, e38]
       refine hK16 _ ?_
       clear hK16 K16
       refine Tr.kp [1, 4, 10, 14, 16] ?_
       simp only [pk_cons, pk_nil, ↓A_cons, ↓reduceIte, Nat.reduceEqDiff]
       refine Tr.seqK fun K17 hK17 => ?_
       refine Tr.seqK fun K18 hK18 => ?_
       refine Tr.rg hcx [] _ [] rfl rfl rfl ?_
       simp -implicitDefEqProofs (maxSteps := 2000000) (disch := first | omega | (simp only [go_sem, List.length_append, List.length_drop, List.length_take, hp, hDl, ofT_len, nodT_len] <;> omega) | decide) only [go_sem, ↓reduceIte, Nat.reduceEqDiff, reduceCtorEq, Nat.reduceLT, Nat.reduceBEq, Nat.reduceAdd, Nat.reduceSub, Nat.reduceMul, Nat.reduceMod, b1, b3, b4, b5, b6]
       refine hK18 _ ?_
       clear hK18 K18
       refine Tr.kp [4, 10, 14, 16, 64, 65] ?_
       simp only [pk_cons, pk_nil, ↓A_cons, ↓reduceIte, Nat.reduceEqDiff]
       refine Tr.blk ?_
       refine Tr.loopI (α := Nat) (fun a => [(4, ?v4_47), (10, ?v10_47), (14, ?v14_47), (16, ?v16_47), (64, ?v64_47), (65, .val (nI a))]) (fun a => [some (cl bC p), some [.val (nI i)], some [sl bC .no (sg.drop n)], some [.fn 37 [.bp 2 0]], some [sl nC .no D], some (cl bC (upR i (sg.drop n) (leafV (endV i D (sg.drop n))) a))]) (fun a => a ≤ k) (fun a => k - a) (0) (Nat.zero_le _) ?le_47 ?hh_47 ?bd_47
       case hh_47 => exact rfl
       case le_47 => (simp only [Le_nil, Le_cons, ↓A_cons, ↓reduceIte, Nat.reduceEqDiff, reduceCtorEq, CLe_refl, CLe_top, CLe_full, CLe_nil, CLe_own, and_true, true_and]; all_goals (repeat' first | exact CLe.refl _ | exact True.intro | (refine CLe_sln ?_; first | with_reducible rfl | (simp only [List.take_zero]; done) | (rfl; done)) | exact CLe_nI (by omega) | exact CLe_int (by omega) | exact CLe_inI (by omega) | exact CLe_nIi (by omega) | with_reducible apply And.intro))
       case bd_47 =>
        rintro l hl
        refine Tr.seqK fun K19 hK19 => ?_
        refine Tr.rg hcx [] _ [] rfl rfl rfl ?_
        simp -implicitDefEqProofs (maxSteps := 2000000) (disch := first | omega | (simp only [go_sem, List.length_append, List.length_drop, List.length_take, hp, hDl, ofT_len, nodT_len] <;> omega) | decide) only [go_sem, ↓reduceIte, Nat.reduceEqDiff, reduceCtorEq, Nat.reduceLT, Nat.reduceBEq, Nat.reduceAdd, Nat.reduceSub, Nat.reduceMul, Nat.reduceMod, b1, b3, b4, b5, b6]
        refine hK19 _ ?_
        clear hK19 K19
        refine Tr.kp [4, 10, 14, 16, 64, 65, 66] ?_
        simp only [pk_cons, pk_nil, ↓A_cons, ↓reduceIte, Nat.reduceEqDiff]
        refine Tr.seqK fun K20 hK20 => ?_
        refine Tr.condG fun KT KF hT hF => ?_
        simp only [ev_tmp, ev_const, ↓A_cons, ↓reduceIte, Nat.reduceEqDiff, reduceCtorEq, condG_bool, GB_true, GB_false, decide_eq_true_eq]
        refine GB.dec (fun hc66 => hT ?_) (fun hc66 => hF ?_)
        ·
         clear hT hF KT KF
         have hil : i / 2 ^ l ≤ i := Nat.div_le_self _ _
         have ha := hat (68 + l) (by omega)
         have hul := hup l
         have e37 := h37 (68 + l) (sg.drop n) ⟨by omega, by omega⟩
         have e43 := h40 _ _ ha hul
         have e43b := h40 _ _ hul ha
         refine Tr.skip ?_
         refine hK20 _ ?_
         clear hK20 K20
         refine Tr.kp [4, 10, 14, 16, 64, 65] ?_
         simp only [pk_cons, pk_nil, ↓A_cons, ↓reduceIte, Nat.reduceEqDiff]
         refine Tr.seqK fun K21 hK21 => ?_
         refine Tr.blk ?_
         refine Tr.seqK fun K22 hK22 => ?_
         refine Tr.rg hcx [1000067] _ [] rfl rfl rfl ?_
         simp -implicitDefEqProofs (maxSteps := 2000000) (disch := first | omega | (simp only [go_sem, List.length_append, List.length_drop, List.length_take, hp, hDl, ofT_len, nodT_len] <;> omega) | decide) only [go_sem, ↓reduceIte, Nat.reduceEqDiff, reduceCtorEq, Nat.reduceLT, Nat.reduceBEq, Nat.reduceAdd, Nat.reduceSub, Nat.reduceMul, Nat.reduceMod, b1, b3, b4, b5, b6]
         refine hK22 _ ?_
         clear hK22 K22
         refine Tr.kp [4, 10, 14, 16, 17, 64, 65] ?_
         simp only [pk_cons, pk_nil, ↓A_cons, ↓reduceIte, Nat.reduceEqDiff]
         refine Tr.seqK fun K23 hK23 => ?_
         by_cases y0 : i / 2 ^ l % 2 = 1
         ·
          refine Tr.rg hcx [] _ [] rfl rfl rfl ?_
          simp -implicitDefEqProofs (maxSteps := 2000000) (disch := first | omega | (simp only [go_sem, List.length_append, List.length_drop, List.length_take, hp, hDl, ofT_len, nodT_len] <;> omega) | decide) only [go_sem, ↓reduceIte, Nat.reduceEqDiff, reduceCtorEq, Nat.reduceLT, Nat.reduceBEq, Nat.reduceAdd, Nat.reduceSub, Nat.reduceMul, Nat.reduceMod, b1, b3, b4, b5, b6, y0, i_shr, i_and1]
          refine hK23 _ ?_
          clear hK23 K23
          refine Tr.kp [4, 10, 14, 16, 17, 64, 65, 72] ?_
          simp only [pk_cons, pk_nil, ↓A_cons, ↓reduceIte, Nat.reduceEqDiff]
          refine Tr.condG fun KT KF hT hF => ?_
          simp only [ev_tmp, ev_const, ↓A_cons, ↓reduceIte, Nat.reduceEqDiff, reduceCtorEq, condG_bool, GB_true, GB_false, decide_eq_true_eq]
          refine hT ?_
          clear hT hF KT KF
          refine Tr.rgD hcx hMOD [] _ [] rfl rfl rfl rfl ?_
          simp -implicitDefEqProofs (maxSteps := 2000000) (disch := first | omega | (simp only [go_sem, List.length_append, List.length_drop, List.length_take, hp, hDl, ofT_len, nodT_len] <;> omega) | decide) only [go_sem, ↓reduceIte, Nat.reduceEqDiff, reduceCtorEq, Nat.reduceLT, Nat.reduceBEq, Nat.reduceAdd, Nat.reduceSub, Nat.reduceMul, Nat.reduceMod, b1, b3, b4, b5, b6, y0, List.map_cons, List.map_nil, List.drop_zero, hno, e37, e43]
          with_reducible refine And.intro ?_ ?_
          · exact rfl
          refine hK21 _ ?_
          clear hK21 K21
          refine Tr.kp [4, 10, 14, 16, 64, 65] ?_
          simp only [pk_cons, pk_nil, ↓A_cons, ↓reduceIte, Nat.reduceEqDiff]
          refine Tr.rg hcx [] _ [] rfl rfl rfl ?_
          simp -implicitDefEqProofs (maxSteps := 2000000) (disch := first | omega | (simp only [go_sem, List.length_append, List.length_drop, List.length_take, hp, hDl, ofT_len, nodT_len] <;> omega) | decide) only [go_sem, ↓reduceIte, Nat.reduceEqDiff, reduceCtorEq, Nat.reduceLT, Nat.reduceBEq, Nat.reduceAdd, Nat.reduceSub, Nat.reduceMul, Nat.reduceMod, b1, b3, b4, b5, b6, y0]
          refine ⟨l + 1, ⟨by omega, by first | omega | (simp only []; omega)⟩, ?_, by dsimp only; first | rw [up_T y0] | rw [up_F y0]⟩
          (simp only [Le_nil, Le_cons, ↓A_cons, ↓reduceIte, Nat.reduceEqDiff, reduceCtorEq, CLe_refl, CLe_top, CLe_full, CLe_nil, CLe_own, and_true, true_and]; all_goals (repeat' first | exact CLe.refl _ | exact True.intro | (refine CLe_sln ?_; first | with_reducible rfl | (simp only [List.take_zero]; done) | (rfl; done)) | exact CLe_nI (by omega) | exact CLe_int (by omega) | exact CLe_inI (by omega) | exact CLe_nIi (by omega) | with_reducible apply And.intro))
         ·
          refine Tr.rg hcx [] _ [] rfl rfl rfl ?_
          simp -implicitDefEqProofs (maxSteps := 2000000) (disch := first | omega | (simp only [go_sem, List.length_append, List.length_drop, List.length_take, hp, hDl, ofT_len, nodT_len] <;> omega) | decide) only [go_sem, ↓reduceIte, Nat.reduceEqDiff, reduceCtorEq, Nat.reduceLT, Nat.reduceBEq, Nat.reduceAdd, Nat.reduceSub, Nat.reduceMul, Nat.reduceMod, b1, b3, b4, b5, b6, y0, i_shr, i_and1]
          refine hK23 _ ?_
          clear hK23 K23
          refine Tr.kp [4, 10, 14, 16, 17, 64, 65, 72] ?_
          simp only [pk_cons, pk_nil, ↓A_cons, ↓reduceIte, Nat.reduceEqDiff]
          refine Tr.condG fun KT KF hT hF => ?_
          simp only [ev_tmp, ev_const, ↓A_cons, ↓reduceIte, Nat.reduceEqDiff, reduceCtorEq, condG_bool, GB_true, GB_false, decide_eq_true_eq]
          refine hF ?_
          clear hT hF KT KF
          refine Tr.rgD hcx hMOD [] _ [] rfl rfl rfl rfl ?_
          simp -implicitDefEqProofs (maxSteps := 2000000) (disch := first | omega | (simp only [go_sem, List.length_append, List.length_drop, List.length_take, hp, hDl, ofT_len, nodT_len] <;> omega) | decide) only [go_sem, ↓reduceIte, Nat.reduceEqDiff, reduceCtorEq, Nat.reduceLT, Nat.reduceBEq, Nat.reduceAdd, Nat.reduceSub, Nat.reduceMul, Nat.reduceMod, b1, b3, b4, b5, b6, y0, List.map_cons, List.map_nil, List.drop_zero, hno, e37, e43b]
          with_reducible refine And.intro ?_ ?_
          · exact rfl
          refine hK21 _ ?_
          clear hK21 K21
          refine Tr.kp [4, 10, 14, 16, 64, 65] ?_
          simp only [pk_cons, pk_nil, ↓A_cons, ↓reduceIte, Nat.reduceEqDiff]
          refine Tr.rg hcx [] _ [] rfl rfl rfl ?_
          simp -implicitDefEqProofs (maxSteps := 2000000) (disch := first | omega | (simp only [go_sem, List.length_append, List.length_drop, List.length_take, hp, hDl, ofT_len, nodT_len] <;> omega) | decide) only [go_sem, ↓reduceIte, Nat.reduceEqDiff, reduceCtorEq, Nat.reduceLT, Nat.reduceBEq, Nat.reduceAdd, Nat.reduceSub, Nat.reduceMul, Nat.reduceMod, b1, b3, b4, b5, b6, y0]
          refine ⟨l + 1, ⟨by omega, by first | omega | (simp only []; omega)⟩, ?_, by dsimp only; first | rw [up_T y0] | rw [up_F y0]⟩
          (simp only [Le_nil, Le_cons, ↓A_cons, ↓reduceIte, Nat.reduceEqDiff, reduceCtorEq, CLe_refl, CLe_top, CLe_full, CLe_nil, CLe_own, and_true, true_and]; all_goals (repeat' first | exact CLe.refl _ | exact True.intro | (refine CLe_sln ?_; first | with_reducible rfl | (simp only [List.take_zero]; done) | (rfl; done)) | exact CLe_nI (by omega) | exact CLe_int (by omega) | exact CLe_inI (by omega) | exact CLe_nIi (by omega) | with_reducible apply And.intro))
        ·
         clear hT hF KT KF
         obtain rfl : l = k := by omega
         have hul := hup l
         refine Tr.exit ?_
         refine hK17 _ ?_
         clear hK20 K20 hK17 K17
         refine Tr.kp [4, 10, 16] ?_
         simp only [pk_cons, pk_nil, ↓A_cons, ↓reduceIte, Nat.reduceEqDiff]
         refine Tr.seqK fun K24 hK24 => ?_
         refine Tr.seqK fun K25 hK25 => ?_
         by_cases z0 : upR i (sg.drop n) (leafV (endV i D (sg.drop n))) l = p
         ·
          refine Tr.rg hcx [] _ [] rfl rfl rfl ?_
          simp -implicitDefEqProofs (maxSteps := 2000000) (disch := first | omega | (simp only [go_sem, List.length_append, List.length_drop, List.length_take, hp, hDl, ofT_len, nodT_len] <;> omega) | decide) only [go_sem, ↓reduceIte, Nat.reduceEqDiff, reduceCtorEq, Nat.reduceLT, Nat.reduceBEq, Nat.reduceAdd, Nat.reduceSub, Nat.reduceMul, Nat.reduceMod, b1, b3, b4, b5, b6, z0, eq23]
          refine hK25 _ ?_
          clear hK25 K25
          refine Tr.kp [10, 88] ?_
          simp only [pk_cons, pk_nil, ↓A_cons, ↓reduceIte, Nat.reduceEqDiff]
          refine Tr.condG fun KT KF hT hF => ?_
          simp only [ev_tmp, ev_const, ↓A_cons, ↓reduceIte, Nat.reduceEqDiff, reduceCtorEq, condG_bool, GB_true, GB_false, decide_eq_true_eq]
          refine hF ?_
          clear hT hF KT KF
          refine Tr.skip ?_
          refine hK24 _ ?_
          clear hK24 K24
          refine Tr.kp [10] ?_
          simp only [pk_cons, pk_nil, ↓A_cons, ↓reduceIte, Nat.reduceEqDiff]
          refine Tr.seqK fun K26 hK26 => ?_
          refine Tr.rg hcx [1000089] _ [] rfl rfl rfl ?_
          simp -implicitDefEqProofs (maxSteps := 2000000) (disch := first | omega | (simp only [go_sem, List.length_append, List.length_drop, List.length_take, hp, hDl, ofT_len, nodT_len] <;> omega) | decide) only [go_sem, ↓reduceIte, Nat.reduceEqDiff, reduceCtorEq, Nat.reduceLT, Nat.reduceBEq, Nat.reduceAdd, Nat.reduceSub, Nat.reduceMul, Nat.reduceMod, b1, b3, b4, b5, b6, z0]
          refine hK26 _ ?_
          clear hK26 K26
          refine Tr.kp [8, 9] ?_
          simp only [pk_cons, pk_nil, ↓A_cons, ↓reduceIte, Nat.reduceEqDiff]
          refine Tr.ret ?_
          simp -implicitDefEqProofs (disch := first | omega | (simp only [go_sem, List.length_append, List.length_drop, List.length_take, hp, hDl, ofT_len, nodT_len] <;> omega) | decide) only [go_sem, ↓reduceIte, Nat.reduceEqDiff, reduceCtorEq]
          all_goals (first | (rw [ver_1 b1]; rfl) | (rw [ver_4 hk6 (by omega)]; rfl) | (rw [ver_e hk6 (by omega) hg b3]; rfl) | (rw [ver_2 hk6 (by omega) hg (by first | exact Or.inl b4 | exact Or.inr (Or.inl b5) | exact Or.inr (Or.inr b6))]; rfl) | (rw [ver_z hk6 (by omega) hg hik b6o, rootV, ← hD, if_pos z0]; rfl) | (rw [ver_z hk6 (by omega) hg hik b6o, rootV, ← hD, if_neg z0]; rfl))
         ·
          refine Tr.rg hcx [] _ [] rfl rfl rfl ?_
          simp -implicitDefEqProofs (maxSteps := 2000000) (disch := first | omega | (simp only [go_sem, List.length_append, List.length_drop, List.length_take, hp, hDl, ofT_len, nodT_len] <;> omega) | decide) only [go_sem, ↓reduceIte, Nat.reduceEqDiff, reduceCtorEq, Nat.reduceLT, Nat.reduceBEq, Nat.reduceAdd, Nat.reduceSub, Nat.reduceMul, Nat.reduceMod, b1, b3, b4, b5, b6, z0, eq23]
          refine hK25 _ ?_
          clear hK25 K25
          refine Tr.kp [10, 88] ?_
          simp only [pk_cons, pk_nil, ↓A_cons, ↓reduceIte, Nat.reduceEqDiff]
          refine Tr.condG fun KT KF hT hF => ?_
          simp only [ev_tmp, ev_const, ↓A_cons, ↓reduceIte, Nat.reduceEqDiff, reduceCtorEq, condG_bool, GB_true, GB_false, decide_eq_true_eq]
          refine hT ?_
          clear hT hF KT KF
          refine Tr.seqK fun K27 hK27 => ?_
          refine Tr.rg hcx [] _ [] rfl rfl rfl ?_
          simp -implicitDefEqProofs (maxSteps := 2000000) (disch := first | omega | (simp only [go_sem, List.length_append, List.length_drop, List.length_take, hp, hDl, ofT_len, nodT_len] <;> omega) | decide) only [go_sem, ↓reduceIte, Nat.reduceEqDiff, reduceCtorEq, Nat.reduceLT, Nat.reduceBEq, Nat.reduceAdd, Nat.reduceSub, Nat.reduceMul, Nat.reduceMod, b1, b3, b4, b5, b6, z0]
          refine hK27 _ ?_
          clear hK27 K27
          refine Tr.kp [8, 9] ?_
          simp only [pk_cons, pk_nil, ↓A_cons, ↓reduceIte, Nat.reduceEqDiff]
          refine Tr.ret ?_
          simp -implicitDefEqProofs (disch := first | omega | (simp only [go_sem, List.length_append, List.length_drop, List.length_take, hp, hDl, ofT_len, nodT_len] <;> omega) | decide) only [go_sem, ↓reduceIte, Nat.reduceEqDiff, reduceCtorEq]
          all_goals (first | (rw [ver_1 b1]; rfl) | (rw [ver_4 hk6 (by omega)]; rfl) | (rw [ver_e hk6 (by omega) hg b3]; rfl) | (rw [ver_2 hk6 (by omega) hg (by first | exact Or.inl b4 | exact Or.inr (Or.inl b5) | exact Or.inr (Or.inr b6))]; rfl) | (rw [ver_z hk6 (by omega) hg hik b6o, rootV, ← hD, if_pos z0]; rfl) | (rw [ver_z hk6 (by omega) hg hik b6o, rootV, ← hD, if_neg z0]; rfl))
      ·
       skip
       refine Tr.rgD hcx hMOD [] [some 40, some 41, some 42, some 43, some 44, some 45, some 46, some 47, some 48, some 49, some 50, some 51, some 52, some 53, some 54, some 55] [] rfl rfl rfl rfl ?_
       simp -implicitDefEqProofs (maxSteps := 2000000) (disch := first | omega | (simp only [go_sem, List.length_append, List.length_drop, List.length_take, hp, hDl, ofT_len, nodT_len] <;> omega) | decide) only [go_sem, ↓reduceIte, Nat.reduceEqDiff, reduceCtorEq, Nat.reduceLT, Nat.reduceBEq, Nat.reduceAdd, Nat.reduceSub, Nat.reduceMul, Nat.reduceMod, b1, b3, b4, b5, b6, i_shl, Nat.one_mul, hi0, hi2]
       with_reducible refine And.intro ?_ ?_
       · exact rfl
       refine hK11 _ ?_
       clear hK11 K11
       refine Tr.kp [1, 2, 4, 10, 13, 55] ?_
       simp only [pk_cons, pk_nil, ↓A_cons, ↓reduceIte, Nat.reduceEqDiff]
       refine Tr.condG fun KT KF hT hF => ?_
       simp only [ev_tmp, ev_const, ↓A_cons, ↓reduceIte, Nat.reduceEqDiff, reduceCtorEq, condG_bool, GB_true, GB_false, decide_eq_true_eq]
       refine hT ?_
       clear hT hF KT KF
       refine Tr.seqK fun K28 hK28 => ?_
       refine Tr.rg hcx [] _ [] rfl rfl rfl ?_
       simp -implicitDefEqProofs (maxSteps := 2000000) (disch := first | omega | (simp only [go_sem, List.length_append, List.length_drop, List.length_take, hp, hDl, ofT_len, nodT_len] <;> omega) | decide) only [go_sem, ↓reduceIte, Nat.reduceEqDiff, reduceCtorEq, Nat.reduceLT, Nat.reduceBEq, Nat.reduceAdd, Nat.reduceSub, Nat.reduceMul, Nat.reduceMod, b1, b3, b4, b5, b6]
       refine hK28 _ ?_
       clear hK28 K28
       refine Tr.kp [8, 9] ?_
       simp only [pk_cons, pk_nil, ↓A_cons, ↓reduceIte, Nat.reduceEqDiff]
       refine Tr.ret ?_
       simp -implicitDefEqProofs (disch := first | omega | (simp only [go_sem, List.length_append, List.length_drop, List.length_take, hp, hDl, ofT_len, nodT_len] <;> omega) | decide) only [go_sem, ↓reduceIte, Nat.reduceEqDiff, reduceCtorEq]
       all_goals (first | (rw [ver_1 b1]; rfl) | (rw [ver_4 hk6 (by omega)]; rfl) | (rw [ver_e hk6 (by omega) hg b3]; rfl) | (rw [ver_2 hk6 (by omega) hg (by first | exact Or.inl b4 | exact Or.inr (Or.inl b5) | exact Or.inr (Or.inr b6))]; rfl) | (rw [ver_z hk6 (by omega) hg hik b6o, rootV, ← hD, if_pos z0]; rfl) | (rw [ver_z hk6 (by omega) hg hik b6o, rootV, ← hD, if_neg z0]; rfl))
   ·
    skip
    refine Tr.rg hcx [] _ [] rfl rfl rfl ?_
    simp -implicitDefEqProofs (maxSteps := 2000000) (disch := first | omega | (simp only [go_sem, List.length_append, List.length_drop, List.length_take, hp, hDl, ofT_len, nodT_len] <;> omega) | decide) only [go_sem, ↓reduceIte, Nat.reduceEqDiff, reduceCtorEq, Nat.reduceLT, Nat.reduceBEq, Nat.reduceAdd, Nat.reduceSub, Nat.reduceMul, Nat.reduceMod, b1, b3]
    refine hK8 _ ?_
    clear hK8 K8
    refine Tr.kp [1, 2, 3, 4, 10, 11, 12, 34] ?_
    simp only [pk_cons, pk_nil, ↓A_cons, ↓reduceIte, Nat.reduceEqDiff]
    refine Tr.condG fun KT KF hT hF => ?_
    simp only [ev_tmp, ev_const, ↓A_cons, ↓reduceIte, Nat.reduceEqDiff, reduceCtorEq, condG_bool, GB_true, GB_false, decide_eq_true_eq]
    refine hT ?_
    clear hT hF KT KF
    refine Tr.seqK fun K29 hK29 => ?_
    refine Tr.rg hcx [1000035] _ [] rfl rfl rfl ?_
    simp -implicitDefEqProofs (maxSteps := 2000000) (disch := first | omega | (simp only [go_sem, List.length_append, List.length_drop, List.length_take, hp, hDl, ofT_len, nodT_len] <;> omega) | decide) only [go_sem, ↓reduceIte, Nat.reduceEqDiff, reduceCtorEq, Nat.reduceLT, Nat.reduceBEq, Nat.reduceAdd, Nat.reduceSub, Nat.reduceMul, Nat.reduceMod, b1, b3]
    refine hK29 _ ?_
    clear hK29 K29
    refine Tr.kp [8, 9] ?_
    simp only [pk_cons, pk_nil, ↓A_cons, ↓reduceIte, Nat.reduceEqDiff]
    refine Tr.ret ?_
    simp -implicitDefEqProofs (disch := first | omega | (simp only [go_sem, List.length_append, List.length_drop, List.length_take, hp, hDl, ofT_len, nodT_len] <;> omega) | decide) only [go_sem, ↓reduceIte, Nat.reduceEqDiff, reduceCtorEq]
    all_goals (first | (rw [ver_1 b1]; rfl) | (rw [ver_4 hk6 (by omega)]; rfl) | (rw [ver_e hk6 (by omega) hg b3]; rfl) | (rw [ver_2 hk6 (by omega) hg (by first | exact Or.inl b4 | exact Or.inr (Or.inl b5) | exact Or.inr (Or.inr b6))]; rfl) | (rw [ver_z hk6 (by omega) hg hik b6o, rootV, ← hD, if_pos z0]; rfl) | (rw [ver_z hk6 (by omega) hg hik b6o, rootV, ← hD, if_neg z0]; rfl))
 ·
  skip
  refine Tr.rg hcx [1000021] _ [] rfl rfl rfl ?_
  simp -implicitDefEqProofs (maxSteps := 2000000) (disch := first | omega | (simp only [go_sem, List.length_append, List.length_drop, List.length_take, hp, hDl, ofT_len, nodT_len] <;> omega) | decide) only [go_sem, ↓reduceIte, Nat.reduceEqDiff, reduceCtorEq, Nat.reduceLT, Nat.reduceBEq, Nat.reduceAdd, Nat.reduceSub, Nat.reduceMul, Nat.reduceMod, b1, e21, b1]
  refine hK3 _ ?_
  clear hK3 K3
  refine Tr.kp [1, 2, 3, 4, 18] ?_
  simp only [pk_cons, pk_nil, ↓A_cons, ↓reduceIte, Nat.reduceEqDiff]
  refine Tr.condG fun KT KF hT hF => ?_
  simp only [ev_tmp, ev_const, ↓A_cons, ↓reduceIte, Nat.reduceEqDiff, reduceCtorEq, condG_bool, GB_true, GB_false, decide_eq_true_eq]
  refine hT ?_
  clear hT hF KT KF
  refine Tr.seqK fun K30 hK30 => ?_
  refine Tr.rg hcx [] _ [] rfl rfl rfl ?_
  simp -implicitDefEqProofs (maxSteps := 2000000) (disch := first | omega | (simp only [go_sem, List.length_append, List.length_drop, List.length_take, hp, hDl, ofT_len, nodT_len] <;> omega) | decide) only [go_sem, ↓reduceIte, Nat.reduceEqDiff, reduceCtorEq, Nat.reduceLT, Nat.reduceBEq, Nat.reduceAdd, Nat.reduceSub, Nat.reduceMul, Nat.reduceMod, b1]
  refine hK30 _ ?_
  clear hK30 K30
  refine Tr.kp [8, 9] ?_
  simp only [pk_cons, pk_nil, ↓A_cons, ↓reduceIte, Nat.reduceEqDiff]
  refine Tr.ret ?_
  simp -implicitDefEqProofs (disch := first | omega | (simp only [go_sem, List.length_append, List.length_drop, List.length_take, hp, hDl, ofT_len, nodT_len] <;> omega) | decide) only [go_sem, ↓reduceIte, Nat.reduceEqDiff, reduceCtorEq]
  all_goals (first | (rw [ver_1 b1]; rfl) | (rw [ver_4 hk6 (by omega)]; rfl) | (rw [ver_e hk6 (by omega) hg b3]; rfl) | (rw [ver_2 hk6 (by omega) hg (by first | exact Or.inl b4 | exact Or.inr (Or.inl b5) | exact Or.inr (Or.inr b6))]; rfl) | (rw [ver_z hk6 (by omega) hg hik b6o, rootV, ← hD, if_pos z0]; rfl) | (rw [ver_z hk6 (by omega) hg hik b6o, rootV, ← hD, if_neg z0]; rfl))
end Go.Sx
namespace Go.Sx
open Go.RowKit
theorem noR_bt (b t n : Nat) : (C.bt b t n).noR = .bt b t n := rfl
theorem share_bt (b t n : Nat) : (C.bt b t n).share = .bt b t n := rfl
theorem refBox_bt (b t n : Nat) (l : List C) : refBox (.bt b t n :: l) = refBox l := rfl
def mvBt (t n : Nat) : Option Nat → C
  | some j => .bt j t n
  | none => .top
theorem mvC_bt (ρ : List Nat) (b t n : Nat) : mvC ρ (.bt b t n) = mvBt t n (loc ρ 0 b) := by simp only [mvC]; cases loc ρ 0 b <;> rfl
theorem mvBt_some (t n j : Nat) : mvBt t n (some j) = .bt j t n := rfl
theorem mvBt_none (t n : Nat) : mvBt t n none = .top := rfl
def mvMp : Option Nat → C
  | some j => .mp j
  | none => .top
theorem mvC_mp (ρ : List Nat) (b : Nat) : mvC ρ (.mp b) = mvMp (loc ρ 0 b) := by simp only [mvC]; cases loc ρ 0 b <;> rfl
theorem mvMp_some (j : Nat) : mvMp (some j) = .mp j := rfl
theorem mvMp_none : mvMp none = .top := rfl
theorem fa_bt {P : Program} (a1 b1 : Nat) (z1 : List Value) (fs : Array Field) (b t n : Nat) (i : Nat) (fd : Field) (h : fs[i]? = some fd) : faP P (some ⟨.struct fs, a1, b1, z1⟩) (.bt b t n) i = faQ (td P fd.type) b fd.offset := by
  unfold faP faQ; simp only [h]; rfl
section
variable (cx : Cx) (apps : List Nat) (dsts : List (Option Nat)) (l : List Oper) (id' : Nat) (d : Option Nat) (e : List (Nat × C)) (h : Hp) (fs : List FP) (K : List FP → St → Prop)
def stXo (b off : Nat) (cells : List C) (o : Option C) : Prop := match o with
  | none => False
  | some x => run cx apps dsts l id' (mkE d x e) (h.set b (some (cells.set off x.noR))) ((3, b) :: fs) K
theorem stX_cells (b off : Nat) (cells : List C) : stX cx apps dsts l id' d e h fs K b off (some cells) = stXo cx apps dsts l id' d e h fs K b off cells (cells[off]?) := rfl
theorem stXo_some (b off : Nat) (cells : List C) (x : C) : stXo cx apps dsts l id' d e h fs K b off cells (some x) = run cx apps dsts l id' (mkE d x e) (h.set b (some (cells.set off x.noR))) ((3, b) :: fs) K := rfl
end
@[congr] theorem stXo_congr {cx : Cx} {apps : List Nat} {dsts : List (Option Nat)} {l : List Oper} {id' : Nat} {d : Option Nat} {e : List (Nat × C)} {h : Hp} {fs : List FP} {K : List FP → St → Prop} {b off : Nat} {cells : List C} {p p' : Option C} (hp : p = p') :
    stXo cx apps dsts l id' d e h fs K b off cells p = stXo cx apps dsts l id' d e h fs K b off cells p' := by rw [hp]
attribute [go_sem] stX_cells stXo_some
theorem live_bt (b t n : Nat) (r : List C) : liveC (some (.bt b t n :: r)) = some (.bt b t n :: r) := rfl
theorem noR_mp (b : Nat) : (C.mp b).noR = .mp b := rfl
attribute [go_sem] noR_mp
attribute [go_sem] live_bt noR_bt share_bt refBox_bt
end Go.Sx
namespace Go.Sx
open Go.RowKit
mutual
def bkC (r : Nat → Nat) : C → C
  | .sv b o n => .sv (r b) o n
  | .gv b n s => .gv (r b) n s
  | .bp b o => .bp (r b) o
  | .mp b => .mp (r b)
  | .bt b t n => .bt (r b) t n
  | .sl q n xs => .sl q n (bkCs r xs)
  | .kp xs => .kp (bkCs r xs)
  | .agg xs => .agg (bkCs r xs)
  | .tup xs => .tup (bkCs r xs)
  | .fn f xs => .fn f (bkCs r xs)
  | .top => .top
  | .val v => .val v
def bkCs (r : Nat → Nat) : List C → List C
  | [] => []
  | x :: xs => bkC r x :: bkCs r xs
end
theorem bkCs_map (r : Nat → Nat) : ∀ xs : List C, bkCs r xs = xs.map (bkC r)
  | [] => rfl
  | x :: xs => by simp [bkCs, bkCs_map r xs]
structure BkG (r : Nat → Nat) (A B : Gh) : Prop where
  K : ∀ b o u, A.K b o = some u → B.K b o = some u
  μ : ∀ i k, A.μ i = some k → B.μ (r i) = some k
  σ : ∀ i z, A.σ i = some z → B.σ (r i) = some z
mutual
theorem bkC_rep {r : Nat → Nat} {A B : Gh} (h : BkG r A B) : ∀ (c : C) (v : Value), Rep A c v → Rep B (bkC r c) v
  | .top, _, _ => by simp [bkC, Rep]
  | .val u, v, q => by simpa [bkC, Rep] using q
  | .sl q n xs, v, x => by
    simp only [bkC, Rep] at x ⊢
    obtain ⟨a, cap, h1, h2, h3, h4, h5⟩ := x
    refine ⟨a, cap, h1, h2, h3, h4, ?_⟩
    rcases h5 with h5 | ⟨blk, off, ha, hk⟩
    · left; rw [h5]; rfl
    · exact .inr ⟨blk, off, ha, bkC_repK h xs blk off hk⟩
  | .sv b off n, v, x => by
    simp only [bkC, Rep] at x ⊢
    obtain ⟨a, cap, h1, h2, h3, h4⟩ := x
    exact ⟨a, cap, h1, h2, h3, fun hz => by obtain ⟨blk, q1, q2⟩ := h4 hz; exact ⟨blk, h.μ _ _ q1, q2⟩⟩
  | .gv b m s, v, x => by
    simp only [bkC, Rep] at x ⊢
    obtain ⟨a, cap, h1, h2, h3, h4⟩ := x
    refine ⟨a, cap, h1, h2, h3, ?_⟩
    rcases h4 with h4 | ⟨blk, q1, q2, q3⟩
    · exact .inl h4
    · exact .inr ⟨blk, h.μ _ _ q1, q2, h.σ _ _ q3⟩
  | .bp b off, v, x => by
    simp only [bkC, Rep] at x ⊢
    obtain ⟨blk, h1, h2⟩ := x
    exact ⟨blk, h.μ _ _ h1, h2⟩
  | .mp b, v, x => by
    simp only [bkC, Rep] at x ⊢
    obtain ⟨blk, h1, h2⟩ := x
    exact ⟨blk, h.μ _ _ h1, h2⟩
  | .bt b t n, v, x => by
    simp only [bkC, Rep] at x ⊢
    obtain ⟨blk, h1, h2, h3⟩ := x
    exact ⟨blk, h.μ _ _ h1, h2, h.σ _ _ h3⟩
  | .kp xs, v, x => by
    simp only [bkC, Rep] at x ⊢
    obtain ⟨blk, off, h1, h2⟩ := x
    exact ⟨blk, off, h1, bkC_repK h xs blk off h2⟩
  | .agg xs, v, x => by
    simp only [bkC, Rep] at x ⊢
    obtain ⟨vs, h1, h2, h3⟩ := x
    exact ⟨vs, h1, bkC_repL h xs _ h2, h3⟩
  | .tup xs, v, x => by
    simp only [bkC, Rep] at x ⊢
    obtain ⟨vs, h1, h2⟩ := x
    exact ⟨vs, h1, bkC_repL h xs _ h2⟩
  | .fn f xs, v, x => by
    simp only [bkC, Rep] at x ⊢
    obtain ⟨vs, h1, h2⟩ := x
    exact ⟨vs, h1, bkC_repL h xs _ h2⟩
theorem bkC_repL {r : Nat → Nat} {A B : Gh} (h : BkG r A B) : ∀ (xs : List C) (vs : List Value), RepL A xs vs → RepL B (bkCs r xs) vs
  | [], vs, q => by simpa [bkCs, RepL] using q
  | x :: xs, vs, q => by
    simp only [bkCs, RepL] at q ⊢
    obtain ⟨v, vs', h1, h2, h3⟩ := q
    exact ⟨v, vs', h1, bkC_rep h x v h2, bkC_repL h xs vs' h3⟩
theorem bkC_repK {r : Nat → Nat} {A B : Gh} (h : BkG r A B) : ∀ (xs : List C) (blk off : Nat), RepK A blk off xs → RepK B blk off (bkCs r xs)
  | [], _, _, _ => by simp [bkCs, RepK]
  | x :: xs, blk, off, q => by
    simp only [bkCs, RepK] at q ⊢
    obtain ⟨⟨u, h1, h2, h3⟩, h4⟩ := q
    exact ⟨⟨u, h.K _ _ _ h1, h2, bkC_rep h x u h3⟩, bkC_repK h xs blk (off + 1) h4⟩
end
theorem bkC_mrep {r : Nat → Nat} {A B : Gh} (h : BkG r A B) : ∀ (l : List C) (es : List MapEntry), MRep A l es → MRep B (bkCs r l) es
  | [], _, q => by simpa [MRep, bkCs] using q
  | [_], _, q => by simp [MRep] at q
  | k :: v :: l, es, q => by
    simp only [MRep, bkCs] at q ⊢
    obtain ⟨e, es', h1, h2, h3, h4⟩ := q
    exact ⟨e, es', h1, bkC_rep h k _ h2, bkC_rep h v _ h3, bkC_mrep h l es' h4⟩
theorem bkC_own {r : Nat → Nat} {c : C} {s m : Nat} {xs : List C} (h : bkC r c = .sl (.own s) m xs) : ∃ ys, c = .sl (.own s) m ys := by
  cases c <;> simp only [bkC] at h <;> cases h
  exact ⟨_, rfl⟩
theorem bkC_isVal {r : Nat → Nat} {c : C} {u : Value} (h : bkC r c = .val u) : c = .val u := by
  cases c <;> simp only [bkC] at h <;> cases h
  rfl
theorem bkC_isTup {r : Nat → Nat} {c : C} {xs : List C} (h : bkC r c = .tup xs) : ∃ ys, c = .tup ys ∧ xs = bkCs r ys := by
  cases c <;> simp only [bkC] at h <;> cases h
  exact ⟨_, rfl, rfl⟩
theorem bk_live {r : Nat → Nat} {o : Option (List C)} {cells : List C} (h : liveC (o.map (bkCs r)) = some cells) : ∃ c0, liveC o = some c0 ∧ cells = bkCs r c0 := by
  have h1 := liveC_some h
  cases o with
  | none => cases h1
  | some c0 =>
    simp only [Option.map_some, Option.some.injEq] at h1
    refine ⟨c0, ?_, h1.symm⟩
    subst h1
    cases c0 with
    | nil => rfl
    | cons x l =>
      cases x with
      | tup xs => simp only [Option.map_some, bkCs, bkC] at h; cases h
      | _ => rfl
theorem bk_mpL {r : Nat → Nat} {o : Option (List C)} {l : List C} (h : mpL (o.map (bkCs r)) = some l) : ∃ l0, mpL o = some l0 ∧ l = bkCs r l0 := by
  cases o with
  | none => cases h
  | some c0 => exact mpL_map (Fs := bkCs r) (bkCs_map r) (fun _ _ => bkC_isVal) (fun _ _ => bkC_isTup) h
/-- Where a box of the small row stands in the large one. -/
def bkR (ρ : List Nat) (L : Nat) (i : Nat) : Nat := match ρ[i]? with
  | some b => b
  | none => L + (i - ρ.length)
/-- Where a box of the large row stands in the small one. -/
def bkS (ρ : List Nat) (L : Nat) (b : Nat) : Option Nat := if b < L then loc ρ 0 b else some (ρ.length + (b - L))
def bkH (ρ : List Nat) (H h' : Hp) : Hp :=
  ((List.range H.length).map fun b => match loc ρ 0 b with
    | some i => ((h'[i]?).getD none).map (bkCs (bkR ρ H.length))
    | none => (H[b]?).getD none) ++ (h'.drop ρ.length).map (Option.map (bkCs (bkR ρ H.length)))
section
variable {ρ : List Nat} {H h' : Hp}
theorem bkS_R (hn : ρ.Nodup) (hl : ∀ b ∈ ρ, b < H.length) (i : Nat) : bkS ρ H.length (bkR ρ H.length i) = some i := by
  unfold bkS bkR
  cases hi : ρ[i]? with
  | some b =>
    simp only []
    rw [if_pos (hl b (List.mem_of_getElem? hi)), loc_of hn hi, Nat.zero_add]
  | none =>
    simp only []
    have : ρ.length ≤ i := List.getElem?_eq_none_iff.1 hi
    rw [if_neg (by omega)]
    congr 1; omega
theorem bkR_S {b i : Nat} (h : bkS ρ H.length b = some i) : bkR ρ H.length i = b := by
  unfold bkS at h
  unfold bkR
  split at h
  · have := (loc_some h).2
    rw [Nat.sub_zero] at this
    rw [this]
  · cases h
    rw [List.getElem?_eq_none (by omega)]
    simp only []
    omega
theorem bkH_get (b : Nat) : (bkH ρ H h')[b]? = match bkS ρ H.length b with
    | some i => if b < H.length then some (((h'[i]?).getD none).map (bkCs (bkR ρ H.length))) else (h'[i]?).map (Option.map (bkCs (bkR ρ H.length)))
    | none => H[b]? := by
  unfold bkH bkS
  by_cases hb : b < H.length
  · rw [List.getElem?_append_left (by simpa using hb), List.getElem?_map, List.getElem?_range hb, if_pos hb]
    simp only [Option.map_some]
    cases hl : loc ρ 0 b with
    | some i => simp only [hb, if_true]
    | none => simp only []; rw [List.getElem?_eq_getElem hb]; rfl
  · rw [List.getElem?_append_right (by simp; omega), if_neg hb]
    simp only [List.length_map, List.length_range, List.getElem?_map, List.getElem?_drop, hb, if_false]
theorem bkH_at {b : Nat} {cells : List C} (h : (bkH ρ H h').at b = some cells) : (∃ i c0, bkS ρ H.length b = some i ∧ h'.at i = some c0 ∧ cells = bkCs (bkR ρ H.length) c0) ∨ (bkS ρ H.length b = none ∧ H.at b = some cells) := by
  unfold Hp.at at h
  rw [bkH_get] at h
  cases hs : bkS ρ H.length b with
  | none => rw [hs] at h; exact .inr ⟨rfl, h⟩
  | some i =>
    rw [hs] at h
    left
    have : ∃ o, h'[i]? = some o ∧ liveC (o.map (bkCs (bkR ρ H.length))) = some cells := by
      simp only [] at h
      split at h
      · cases hq : h'[i]? with
        | none => rw [hq] at h; cases h
        | some o => rw [hq] at h; exact ⟨o, rfl, h⟩
      · cases hq : h'[i]? with
        | none => rw [hq] at h; cases h
        | some o => rw [hq] at h; exact ⟨o, rfl, h⟩
    obtain ⟨o, h1, h2⟩ := this
    obtain ⟨c0, h3, h4⟩ := bk_live h2
    exact ⟨i, c0, rfl, by unfold Hp.at; rw [h1]; exact h3, h4⟩
theorem bkH_mp {b : Nat} {l : List C} (h : (bkH ρ H h').mp b = some l) : (∃ i l0, bkS ρ H.length b = some i ∧ h'.mp i = some l0 ∧ l = bkCs (bkR ρ H.length) l0) ∨ (bkS ρ H.length b = none ∧ H.mp b = some l) := by
  unfold Hp.mp at h
  rw [bkH_get] at h
  cases hs : bkS ρ H.length b with
  | none => rw [hs] at h; exact .inr ⟨rfl, h⟩
  | some i =>
    rw [hs] at h
    left
    have : ∃ o, h'[i]? = some o ∧ mpL (o.map (bkCs (bkR ρ H.length))) = some l := by
      simp only [] at h
      split at h
      · cases hq : h'[i]? with
        | none => rw [hq] at h; cases h
        | some o => rw [hq] at h; exact ⟨o, rfl, h⟩
      · cases hq : h'[i]? with
        | none => rw [hq] at h; cases h
        | some o => rw [hq] at h; exact ⟨o, rfl, h⟩
    obtain ⟨o, h1, h2⟩ := this
    obtain ⟨c0, h3, h4⟩ := bk_mpL h2
    exact ⟨i, c0, rfl, by unfold Hp.mp; rw [h1]; exact h3, h4⟩
theorem bkH_some {b i : Nat} {c0 : List C} (hs : bkS ρ H.length b = some i) (h : h'[i]? = some (some c0)) : (bkH ρ H h')[b]? = some (some (bkCs (bkR ρ H.length) c0)) := by
  rw [bkH_get, hs]
  simp only [h]
  split <;> rfl
end
open Classical in
noncomputable def bkG (ρ : List Nat) (L z : Nat) (G G2 : Gh) : Gh where
  K := G2.K
  μ := fun b => match bkS ρ L b with
    | some i => G2.μ i
    | none => G.μ b
  T := fun g => match G2.T g with
    | some p => some (if p.1 = 1 then (1, bkR ρ L p.2.1, p.2.2) else p)
    | none => if g < z ∧ (mvG ρ G).T g = none then G.T g else none
  σ := fun b => match bkS ρ L b with
    | some i => G2.σ i
    | none => G.σ b
theorem FC.frameH {P : Program} {gl : Nat → C} {f : Nat} {args : List C} {c : C} {H h' : Hp} (ρ : List Nat) (hn : ρ.Nodup) (hlive : ∀ b ∈ ρ, (H.at b).isSome = true ∨ (H.mp b).isSome = true)
    (hD : ∀ b, b < H.length → b ∉ ρ → (H.at b).isSome = true ∨ (H.mp b).isSome = true ∨ H[b]? = some none)
    (hf : FC P gl f (mvCs ρ args) (mvH ρ H) c h') (hg : ∀ g, noRef 0 (gl g) = true) :
    FC P gl f args H (bkC (bkR ρ H.length) c) (bkH ρ H h') := by
  obtain ⟨he, hf⟩ := hf
  refine ⟨he, fun G w vs W hTg hgl hr => ?_⟩
  have hl : ∀ b ∈ ρ, b < H.length := fun b hb => by
    rcases hlive b hb with h | h
    · obtain ⟨x, hx⟩ := Option.isSome_iff_exists.1 h; exact Hp.at_lt hx
    · obtain ⟨x, hx⟩ := Option.isSome_iff_exists.1 h; exact Hp.mp_lt hx
  have W1 : WorldOK (mvG ρ G) (mvH ρ H) w := W.mv hn
  have hT1 : ∀ g, G.T g = none → (mvG ρ G).T g = none := fun g h => by simp only [mvG, h]
  have hT1b : ∀ g b o, G.T g = some (1, b, o) → b ∉ ρ → (mvG ρ G).T g = none := fun g b o h hb => by
    simp only [mvG, h, if_true]
    cases hq : loc ρ 0 b with
    | none => rfl
    | some j => have := (loc_some hq).2; exact (hb (List.mem_of_getElem? this)).elim
  refine Calls.mono (hf (mvG ρ G) w vs W1 (fun g p x => by
    simp only [mvG] at x
    cases hq : G.T g with
    | none => rw [hq] at x; cases x
    | some q =>
      rw [hq] at x
      have := hTg g q hq
      simp only [this, if_true] at x
      cases hz : loc ρ 0 q.2.1 with
      | none => rw [hz] at x; cases x
      | some j => rw [hz] at x; cases x; rfl) (fun g => mvC_noRef (hg g) (hgl g)) (mvC_repL _ _ hr)) ?_
  rintro e w' ⟨v, G2, rfl, rv, ro, W2, F⟩
  have hμ1 : ∀ i blk, (mvG ρ G).μ i = some blk → ∃ b, ρ[i]? = some b ∧ G.μ b = some blk := fun i blk x => by
    simp only [mvG] at x
    cases hq : ρ[i]? with
    | none => rw [hq] at x; cases x
    | some q => rw [hq] at x; exact ⟨q, rfl, x⟩
  -- blocks of boxes outside
  have hout : ∀ b blk, bkS ρ H.length b = none → G.μ b = some blk → ((H.at b).isSome = true ∨ (H.mp b).isSome = true) ∧ ∀ i, (mvG ρ G).μ i ≠ some blk := fun b blk hs hm => by
    obtain ⟨⟨c1, hc1⟩, _⟩ := W.dom b blk hm
    have hbl := (List.getElem?_eq_some_iff.1 hc1).1
    have hbρ : b ∉ ρ := fun hb => by
      obtain ⟨i, hi⟩ := List.getElem?_of_mem hb
      have := bkS_R (H := H) hn hl i
      unfold bkR at this
      rw [hi] at this
      rw [hs] at this; cases this
    have hlv : (H.at b).isSome = true ∨ (H.mp b).isSome = true := by
      rcases hD b hbl hbρ with h | h | h
      · exact .inl h
      · exact .inr h
      · rw [hc1] at h; cases h
    refine ⟨hlv, fun i hi => ?_⟩
    obtain ⟨q, hq, hqm⟩ := hμ1 i blk hi
    have hqρ := List.mem_of_getElem? hq
    have hne : b ≠ q := fun e => hbρ (e ▸ hqρ)
    rcases hlv with h1 | h1 <;> rcases hlive q hqρ with h2 | h2 <;> obtain ⟨x1, y1⟩ := Option.isSome_iff_exists.1 h1 <;> obtain ⟨x2, y2⟩ := Option.isSome_iff_exists.1 h2
    · exact hne (W.inj b q _ _ blk y1 y2 hm hqm)
    · obtain ⟨k, es, clk, q1, q2, _⟩ := W.mpo q x2 y2
      rw [hqm] at q1; cases q1
      obtain ⟨cs, e, ⟨fr, r2, _⟩, _⟩ := W.bx y1 hm
      rw [q2] at r2; cases r2
    · obtain ⟨k, es, clk, q1, q2, _⟩ := W.mpo b x1 y1
      rw [hm] at q1; cases q1
      obtain ⟨cs, e, ⟨fr, r2, _⟩, _⟩ := W.bx y2 hqm
      rw [q2] at r2; cases r2
    · exact hne (W.mpi b q _ _ blk y1 y2 hm hqm)
  have hobl : ∀ b blk, bkS ρ H.length b = none → G.μ b = some blk → w'.heap[blk]? = w.heap[blk]? ∧ G2.T blk = none ∧ (∀ i, G2.μ i ≠ some blk) ∧ ∀ o, G2.K blk o = G.K blk o := fun b blk hs hm =>
    F.old blk (W.dom b blk hm).2 (hT1 _ (W.sep b blk hm).2) (hout b blk hs hm).2
  have hμlt : ∀ b blk, G.μ b = some blk → blk < w.heap.size := fun b blk x => (W.dom b blk x).2
  -- rows owned from outside
  have hrow : ∀ g b o, G.T g = some (1, b, o) → b ∉ ρ → w'.heap[g]? = w.heap[g]? ∧ G2.T g = none ∧ (∀ i, G2.μ i ≠ some g) ∧ ∀ o, G2.K g o = G.K g o := fun g b o hg hb =>
    F.old g (W.tlt g _ hg) (hT1b g b o hg hb) (fun i hi => by
      obtain ⟨q, _, hq⟩ := hμ1 i g hi
      have := (W.sep q g hq).2; rw [hg] at this; cases this)
  have gk : BkG (bkR ρ H.length) G2 (bkG ρ H.length w.heap.size G G2) := ⟨fun _ _ _ x => x, fun i k x => by simp only [bkG, bkS_R hn hl]; exact x, fun i z x => by simp only [bkG, bkS_R hn hl]; exact x⟩
  have le3 : G.Le (bkG ρ H.length w.heap.size G G2) := by
    refine ⟨fun b o u x => F.le.K b o u x, fun b k x => ?_, fun b z x => ?_⟩
    · simp only [bkG]
      cases hs : bkS ρ H.length b with
      | none => exact x
      | some i =>
        simp only []
        have hb := bkR_S hs
        refine F.le.μ i k ?_
        obtain ⟨⟨c1, hc1⟩, _⟩ := W.dom b k x
        have hbl := (List.getElem?_eq_some_iff.1 hc1).1
        simp only [bkS, hbl, if_true] at hs
        have := (loc_some hs).2
        rw [Nat.sub_zero] at this
        simp only [mvG, this]; exact x
    · simp only [bkG]
      cases hs : bkS ρ H.length b with
      | none => exact x
      | some i =>
        simp only []
        refine F.le.σ i z ?_
        obtain ⟨blk, _, _, _, q1, _⟩ := W.siz b z x
        obtain ⟨⟨c1, hc1⟩, _⟩ := W.dom b blk q1
        have hbl := (List.getElem?_eq_some_iff.1 hc1).1
        simp only [bkS, hbl, if_true] at hs
        have := (loc_some hs).2
        rw [Nat.sub_zero] at this
        simp only [mvG, this]; exact x
  have hSρ : ∀ b, bkS ρ H.length b = none → b ∉ ρ := fun b hs hb => by
    obtain ⟨i, hi⟩ := List.getElem?_of_mem hb
    have := bkS_R (H := H) hn hl i
    unfold bkR at this
    rw [hi] at this
    rw [hs] at this; cases this
  -- places
  have ownI : ∀ (p p' : Place) (u : Value) (s n : Nat), OwnRow G2 w' p u s n → p' = (if p.1 = 1 then (1, bkR ρ H.length p.2.1, p.2.2) else p) → OwnRow (bkG ρ H.length w.heap.size G G2) w' p' u s n := fun p p' u s n O hp => by
    rcases O with O | ⟨g, cap, cur, e, a1, a2, a3, a4, a5, a6⟩
    · exact .inl O
    · refine .inr ⟨g, cap, cur, e, a1, by simp only [bkG, a2]; rw [hp], a3, a4, a5, fun b hb => ?_⟩
      simp only [bkG] at hb
      cases hs : bkS ρ H.length b with
      | some i => rw [hs] at hb; exact a6 i hb
      | none =>
        rw [hs] at hb
        have := (hobl b g hs hb).2.1
        rw [a2] at this; cases this
  refine ⟨v, bkG ρ H.length w.heap.size G G2, rfl, bkC_rep gk c v rv, fun s n xs e => ?_, ⟨fun blk off u x => W2.known blk off u x, fun b cells hb => ?_, fun b blk hm => ?_, fun b b' c1 c2 blk hb hb' hm hm' => ?_, fun b blk hm => ?_, fun g p hp => ?_, fun b cells off s n xs blk u hb hc hm hv => ?_, fun b z hz => ?_, fun b l hb => ?_, fun b b' l l' blk hb hb' hm hm' => ?_⟩, F.os, F.tape, F.output, F.size, le3, fun g hg' ht hm => ?_⟩
  · obtain ⟨ys, hy⟩ := bkC_own e
    exact ownI _ _ v s n (ro s n ys hy) rfl
  · rcases bkH_at hb with ⟨i, c0, hs, h1, rfl⟩ | ⟨hs, h1⟩
    · rcases W2.box i c0 h1 with ⟨hE, hE2⟩ | ⟨blk, cs, e, q1, q2, q3, q4, q5⟩
      · exact .inl ⟨by rw [hE]; rfl, by simp only [bkG, hs]; exact hE2⟩
      · have hlen : (bkCs (bkR ρ H.length) c0).length = c0.length := by rw [bkCs_map]; simp
        exact .inr ⟨blk, cs, e, by simp only [bkG, hs]; exact q1, q2, by rw [hlen]; exact q3, by rw [hlen]; exact bkC_repL gk _ _ q4, q5⟩
    · rcases W.box b cells h1 with ⟨hE, hE2⟩ | ⟨blk, cs, e, q1, q2, q3, q4, q5⟩
      · exact .inl ⟨hE, by simp only [bkG, hs]; exact hE2⟩
      · exact .inr ⟨blk, cs, e, by simp only [bkG, hs]; exact q1, by rw [(hobl b blk hs q1).1]; exact q2, q3, q4.mono le3, q5⟩
  · simp only [bkG] at hm
    cases hs : bkS ρ H.length b with
    | some i =>
      rw [hs] at hm
      obtain ⟨⟨c1, hc1⟩, hlt⟩ := W2.dom i blk hm
      exact ⟨⟨_, bkH_some hs hc1⟩, hlt⟩
    | none =>
      rw [hs] at hm
      obtain ⟨⟨c1, hc1⟩, hlt⟩ := W.dom b blk hm
      exact ⟨⟨c1, by rw [bkH_get, hs]; exact hc1⟩, Nat.lt_of_lt_of_le hlt F.size⟩
  · simp only [bkG] at hm hm'
    rcases bkH_at hb with ⟨i, c0, hs, h1, _⟩ | ⟨hs, h1⟩ <;> rcases bkH_at hb' with ⟨i', c0', hs', h1', _⟩ | ⟨hs', h1'⟩
    · rw [hs] at hm
      rw [hs'] at hm'
      have := W2.inj i i' _ _ blk h1 h1' hm hm'
      subst this
      rw [← bkR_S hs, ← bkR_S hs']
    · rw [hs] at hm
      rw [hs'] at hm'
      exact ((hobl b' blk hs' hm').2.2.1 i hm).elim
    · rw [hs] at hm
      rw [hs'] at hm'
      exact ((hobl b blk hs hm).2.2.1 i' hm').elim
    · rw [hs] at hm
      rw [hs'] at hm'
      exact W.inj b b' _ _ blk h1 h1' hm hm'
  · simp only [bkG] at hm
    cases hs : bkS ρ H.length b with
    | some i =>
      rw [hs] at hm
      obtain ⟨s1, s2⟩ := W2.sep i blk hm
      refine ⟨s1, ?_⟩
      simp only [bkG, s2]
      split
      · rename_i hc
        cases hq : G.T blk with
        | none => rfl
        | some p =>
          have hp1 := hTg blk p hq
          obtain ⟨p1, pb, po⟩ := p
          simp only at hp1
          subst hp1
          have hpb : pb ∉ ρ := fun hb => by
            obtain ⟨j, hj⟩ := List.getElem?_of_mem hb
            have h1 := hc.2
            simp only [mvG, hq, if_true, loc_of (k := 0) hn hj] at h1
            cases h1
          exact ((hrow blk pb po hq hpb).2.2.1 i hm).elim
      · rfl
    | none =>
      rw [hs] at hm
      obtain ⟨s1, s2⟩ := W.sep b blk hm
      obtain ⟨o1, o2, o3, o4⟩ := hobl b blk hs hm
      refine ⟨fun o => (o4 o).trans (s1 o), ?_⟩
      simp only [bkG, o2, s2]
      split <;> rfl
  · simp only [bkG] at hp
    cases hq : G2.T g with
    | some p2 => exact W2.tlt g p2 hq
    | none =>
      rw [hq] at hp
      simp only [] at hp
      split at hp
      · exact Nat.lt_of_lt_of_le (W.tlt g p hp) F.size
      · cases hp
  · simp only [bkG] at hm
    rcases bkH_at hb with ⟨i, c0, hs, h1, rfl⟩ | ⟨hs, h1⟩
    · rw [hs] at hm
      rw [bkCs_map, List.getElem?_map] at hc
      cases hq : c0[off]? with
      | none => rw [hq] at hc; cases hc
      | some y =>
        rw [hq] at hc
        simp only [Option.map_some, Option.some.injEq] at hc
        obtain ⟨ys, rfl⟩ := bkC_own hc
        refine ownI _ _ u s n (W2.own i c0 off s n ys blk u h1 hq hm hv) ?_
        rw [if_pos rfl, bkR_S hs]
    · rw [hs] at hm
      have hcell : w'.cell? ⟨blk, off, none⟩ = w.cell? ⟨blk, off, none⟩ := by
        unfold World.cell?; rw [(hobl b blk hs hm).1]
      rcases W.own b cells off s n xs blk u h1 hc hm (by rw [← hcell]; exact hv) with O | ⟨g, cap, cur, e, a1, a2, a3, a4, a5, a6⟩
      · exact .inl O
      · have hbρ := hSρ b hs
        obtain ⟨o1, o2, o3, o4⟩ := hrow g b off a2 hbρ
        refine .inr ⟨g, cap, cur, e, a1, ?_, o1.trans a3, a4, fun o ho => (o4 o).trans (a5 o ho), fun b' hb' => ?_⟩
        · simp only [bkG, o2]
          rw [if_pos ⟨W.tlt g _ a2, hT1b g b off a2 hbρ⟩]; exact a2
        · simp only [bkG] at hb'
          cases hs' : bkS ρ H.length b' with
          | some i => rw [hs'] at hb'; exact o3 i hb'
          | none => rw [hs'] at hb'; exact a6 b' hb'
  · simp only [bkG] at hz ⊢
    cases hs : bkS ρ H.length b with
    | some i =>
      rw [hs] at hz
      exact W2.siz i z hz
    | none =>
      rw [hs] at hz
      obtain ⟨blk, cs, e, fr, q1, q2, q3⟩ := W.siz b z hz
      exact ⟨blk, cs, e, fr, q1, (hobl b blk hs q1).1.trans q2, q3⟩
  · rcases bkH_mp hb with ⟨i, l0, hs, h1, rfl⟩ | ⟨hs, h1⟩
    · obtain ⟨blk, es, clk, q1, q2, q3⟩ := W2.mpo i l0 h1
      exact ⟨blk, es, clk, by simp only [bkG, hs]; exact q1, q2, bkC_mrep gk _ _ q3⟩
    · obtain ⟨blk, es, clk, q1, q2, q3⟩ := W.mpo b l h1
      exact ⟨blk, es, clk, by simp only [bkG, hs]; exact q1, (hobl b blk hs q1).1.trans q2, q3.mono le3⟩
  · simp only [bkG] at hm hm'
    rcases bkH_mp hb with ⟨i, c0, hs, h1, _⟩ | ⟨hs, h1⟩ <;> rcases bkH_mp hb' with ⟨i', c0', hs', h1', _⟩ | ⟨hs', h1'⟩
    · rw [hs] at hm
      rw [hs'] at hm'
      have := W2.mpi i i' _ _ blk h1 h1' hm hm'
      subst this
      rw [← bkR_S hs, ← bkR_S hs']
    · rw [hs] at hm
      rw [hs'] at hm'
      exact ((hobl b' blk hs' hm').2.2.1 i hm).elim
    · rw [hs] at hm
      rw [hs'] at hm'
      exact ((hobl b blk hs hm).2.2.1 i' hm').elim
    · rw [hs] at hm
      rw [hs'] at hm'
      exact W.mpi b b' _ _ blk h1 h1' hm hm'
  · obtain ⟨o1, o2, o3, o4⟩ := F.old g hg' (hT1 g ht) (fun i hi => by obtain ⟨q, _, hq⟩ := hμ1 i g hi; exact hm q hq)
    refine ⟨o1, ?_, fun b hb => ?_, o4⟩
    · simp only [bkG, o2, ht]; split <;> rfl
    · simp only [bkG] at hb
      cases hs : bkS ρ H.length b with
      | some i => rw [hs] at hb; exact o3 i hb
      | none => rw [hs] at hb; exact hm b hb
end Go.Sx
namespace Go.Sx
open Go.RowKit Go.Proofs
/-- The first cell of a builder: nil as long as nothing is written. -/
def bld0 (f : Bool) : C := if f then .val (.pointer none) else .bt 0 54 2
theorem fc47 {gl : Nat → C} (he : Entered Tryd.prog 47) (f : Bool) (x : C) (hx : x.noOwn) (rest : Hp) : FC Tryd.prog gl 47 [.bt 0 54 2] (some [bld0 f, x] :: rest) (.tup []) (some [.bt 0 54 2, x] :: rest) := by
  refine ⟨he, fun G w vs W hT hgl hr => ?_⟩
  obtain ⟨v, hv, blk, hm, hp, hs⟩ : ∃ v, vs = #[v] ∧ ∃ blk, G.μ 0 = some blk ∧ v = .pointer (some ⟨blk, 0, none⟩) ∧ G.σ 0 = some (2, 54) := by
    simp only [RepL] at hr
    obtain ⟨v, vs', h1, h2, rfl⟩ := hr
    simp only [Rep] at h2
    obtain ⟨blk, q1, q2, q3⟩ := h2
    exact ⟨v, by apply Array.ext'; simpa using h1, blk, q1, q2, q3⟩
  subst hv hp
  have hlv : liveC (some [bld0 f, x]) = some [bld0 f, x] := by cases f <;> rfl
  have hat : Hp.at (some [bld0 f, x] :: rest) 0 = some [bld0 f, x] := hlv
  obtain ⟨blk', cs0, e0, fr0, r1, r2, r3, r4⟩ := W.siz 0 _ hs
  rw [hm] at r1; cases r1
  simp only at r3 r4
  subst r4
  obtain ⟨cs, e, ⟨fr, q2, hfr⟩, q0, q3, q4⟩ := W.bx hat hm
  rw [r2] at q2; obtain ⟨rfl, rfl⟩ : cs0 = cs ∧ fr0 = fr := by cases q2; exact ⟨rfl, rfl⟩
  obtain ⟨u0, u1, hcs, hu0, hu1⟩ : ∃ u0 u1, cs0 = #[u0, u1] ∧ Rep G (bld0 f) u0 ∧ Rep G x u1 := by
    have hl : cs0.toList.length = 2 := by simpa using r3
    simp only [List.length_cons, List.length_nil] at q3
    rw [List.take_of_length_le (by omega)] at q3
    simp only [RepL] at q3
    obtain ⟨u0, l1, h1, h2, u1, l2, h3, h4, h5⟩ := q3
    subst h5 h3
    exact ⟨u0, u1, by apply Array.ext'; simpa using h1, h2, h4⟩
  subst hcs
  have hc0 : w.cell? ⟨blk, 0, none⟩ = some u0 := by simp [World.cell?, r2]
  cases f with
  | false =>
    simp only [bld0, Bool.false_eq_true, if_false, Rep] at hu0
    obtain ⟨blk', z1, rfl, z3⟩ := hu0
    rw [hm] at z1; cases z1
    refine (Tryd.ccUsed blk w hc0).mono ?_
    rintro e w' ⟨h1, h2⟩
    rw [h2]
    exact ⟨_, G, h1, by simp [Rep, RepL], (fun s n xs e => by cases e), W, Frm.refl G w⟩
  | true =>
    simp only [bld0, if_true] at hu0
    rw [rep_val] at hu0
    subst hu0
    have hfz : w.frozen? ⟨blk, 0, none⟩ = false := by
      simp only [World.frozen?, r2]
      obtain ⟨lo, hi⟩ := fr0
      simp only at hfr ⊢
      simp only [Bool.and_eq_false_iff, decide_eq_false_iff_not]
      rcases hfr with h | h
      · right; omega
      · left; simp at h; omega
    refine (Tryd.ccFresh blk w hc0 (by simp [World.shape?, r2]) hfz).mono ?_
    rintro e w' ⟨rfl, rfl⟩
    have hset : w.setCell ⟨blk, 0, none⟩ (.pointer (some ⟨blk, 0, none⟩)) = w.setRow blk #[.pointer (some ⟨blk, 0, none⟩), u1] := by
      have := setCell_eq_setRow w blk 0 #[.pointer none, u1] _ _ (.pointer (some ⟨blk, 0, none⟩)) r2
      rw [this]; rfl
    rw [hset]
    have W2 := W.setBox (G' := G) 0 blk hm hat [.bt 0 54 2, x] #[.pointer (some ⟨blk, 0, none⟩), u1] rfl rfl (fun cs e fr h => by rw [r2] at h; cases h; rfl) (by simp)
      (by simp only [List.length_cons, List.length_nil, RepL, Rep]; exact ⟨_, _, rfl, ⟨blk, hm, rfl, hs⟩, u1, [], rfl, hu1, rfl⟩)
      (by intro v hv; simp only [List.mem_cons, List.not_mem_nil, or_false] at hv; rcases hv with rfl | rfl; · rfl
          · exact q4 _ (by simp)) (fun _ => Iff.rfl) (fun _ _ _ _ h => h) (fun off s n xs v h1 h2 => by
        match off with
        | 0 => simp at h1
        | 1 => simp at h1; subst h1; exact hx.elim
        | k + 2 => simp at h1)
    exact ⟨_, G, rfl, by simp [Rep, RepL], (fun s n xs e => by cases e), W2, frm_setRow hm _ rfl rfl (fun _ => Iff.rfl)⟩
end Go.Sx
