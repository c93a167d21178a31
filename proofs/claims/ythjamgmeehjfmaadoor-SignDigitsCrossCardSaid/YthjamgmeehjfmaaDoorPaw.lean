/-
  Package sign: the nodes of the tree.
-/
import Derived.Test.YthjamgmeehjfmaaDoorPav
set_option linter.unusedSimpArgs false
set_option linter.unusedVariables false
namespace Go.Sx
open Go.RowKit Go.Proofs
theorem okS (c1 c2 c3 : List UInt8) : ∀ o ∈ [some (cl bC c1), some (cl bC c2), some (cl bC c3)], okBox o = true := by
  have e : ∀ l : List UInt8, okBox (some (cl bC l)) = true := fun l => by cases l <;> rfl
  intro o ho
  simp only [List.mem_cons, List.not_mem_nil, or_false] at ho
  rcases ho with rfl | rfl | rfl
  · exact e _
  · exact e _
  · exact e _
set_option maxRecDepth 100000 in
set_option maxHeartbeats 8000000 in
theorem fc44z {gl : Nat → C} {M0 : Nat} {pu : Nat → List C → Option C} {hp : Nat → List C → Hp → Option (C × Hp)} (hcx : CxOK (cxQ gl M0 pu hp)) (seed : List UInt8) (d k : Nat) (M : List (Nat × Nat)) (nd : OkM M) (hk : k < 1000000) (hs : seed.length ≤ 1000000)  (hnr : ∀ (g : Nat) (xs : List C), noRefs 0 xs = false → pu g xs = none) (h38 : ∀ (seed : List UInt8) (k : Nat), seed.length ≤ 1000000 → k < 1000000 → pu 38 [.fn 45 [.kp [.val (nI k)], .kp [.val (str seed)]]] = some (.agg (cl bC (leafT seed k)))) : FC Tryd.prog gl 44 [.val (nI 0), .val (nI k), .kp [.mp 0], .kp [.val (str seed)], atK 0 seed d] [some (mapC (ents seed (M)))] (.agg (cl bC (treeT seed 0 k))) [some (mapC (ents seed (vis 0 k M)))] := by
 replace hcx := hcx.reN (M := 45)
 refine FC.ofT (cx := cxQ gl 45 pu hp) (rs := [.cell 7 23]) rfl Tryd.func44 rfl rfl rfl (by simp only [List.length_cons, List.length_nil]; decide) (by simp only [go_sem]) (rowT_nr seed _) ?_
 simp only [ini, go_sem]
 have htl := True.intro
 refine Tr.seqK fun K1 hK1 => ?_
 refine Tr.rg hcx [] _ [none, none] rfl rfl rfl ?_
 simp -implicitDefEqProofs (maxSteps := 2000000) (disch := first | omega | (simp only [go_sem, List.length_append, List.length_drop, List.length_take, htl, treeT_len, leafT_len, nodT_len] <;> omega) | decide) only [go_sem, ↓reduceIte, Nat.reduceEqDiff, reduceCtorEq, Nat.reduceLT, Nat.reduceBEq, Nat.reduceAdd, Nat.reduceSub, Nat.reduceMul, Nat.reduceMod]
 refine hK1 _ ?_
 clear hK1 K1
 refine Tr.kp [0, 2, 3, 4, 6, 7] ?_
 simp only [pk_cons, pk_nil, ↓A_cons, ↓reduceIte, Nat.reduceEqDiff]
 refine Tr.seqK fun K2 hK2 => ?_
 refine Tr.seqK fun K3 hK3 => ?_
 by_cases m : (0, k) ∈ M
 ·
  have m0 := m
  replace m := eq_true m
  have hbd : BdK (0, k) := bd_lk (by omega)
  refine Tr.kfix hcx (by decide) ?_
  have el := look_T (cx := (⟨Tryd.prog, 45, gl, pu, hp, fun _ => false, kmS⟩ : Cx)) rfl rfl (seed := seed) (x := (0, k)) (M := M) (h := [some (mapC (ents seed (M))), some (cl bC (List.replicate 16 0)), none]) (b := 0) rfl m0 nd
  have hv : vis 0 k M = M := if_pos m0
  have htl := treeT_len seed 0 k
  refine Tr.rg hcx [1000018] _ [none] rfl rfl rfl ?_
  simp -implicitDefEqProofs (maxSteps := 2000000) (disch := first | omega | (simp only [go_sem, List.length_append, List.length_drop, List.length_take, htl, treeT_len, leafT_len, nodT_len] <;> omega) | decide) only [go_sem, ↓reduceIte, Nat.reduceEqDiff, reduceCtorEq, Nat.reduceLT, Nat.reduceBEq, Nat.reduceAdd, Nat.reduceSub, Nat.reduceMul, Nat.reduceMod, m, el]
  refine hK3 _ ?_
  clear hK3 K3
  refine Tr.kp [0, 2, 3, 4, 6, 7, 8, 9] ?_
  simp only [pk_cons, pk_nil, ↓A_cons, ↓reduceIte, Nat.reduceEqDiff]
  refine Tr.seqK fun K4 hK4 => ?_
  refine Tr.rg hcx [] _ [] rfl rfl rfl ?_
  simp -implicitDefEqProofs (maxSteps := 2000000) (disch := first | omega | (simp only [go_sem, List.length_append, List.length_drop, List.length_take, htl, treeT_len, leafT_len, nodT_len] <;> omega) | decide) only [go_sem, ↓reduceIte, Nat.reduceEqDiff, reduceCtorEq, Nat.reduceLT, Nat.reduceBEq, Nat.reduceAdd, Nat.reduceSub, Nat.reduceMul, Nat.reduceMod, m]
  refine hK4 _ ?_
  clear hK4 K4
  refine Tr.kp [0, 2, 3, 4, 6, 7, 8, 19] ?_
  simp only [pk_cons, pk_nil, ↓A_cons, ↓reduceIte, Nat.reduceEqDiff]
  refine Tr.condG fun KT KF hT hF => ?_
  simp only [ev_tmp, ev_const, ↓A_cons, ↓reduceIte, Nat.reduceEqDiff, reduceCtorEq, condG_bool, GB_true, GB_false, decide_eq_true_eq]
  refine hT ?_
  clear hT hF KT KF
  refine Tr.seqK fun K5 hK5 => ?_
  refine Tr.rg hcx [] _ [] rfl rfl rfl ?_
  simp -implicitDefEqProofs (maxSteps := 2000000) (disch := first | omega | (simp only [go_sem, List.length_append, List.length_drop, List.length_take, htl, treeT_len, leafT_len, nodT_len] <;> omega) | decide) only [go_sem, ↓reduceIte, Nat.reduceEqDiff, reduceCtorEq, Nat.reduceLT, Nat.reduceBEq, Nat.reduceAdd, Nat.reduceSub, Nat.reduceMul, Nat.reduceMod, m]
  refine hK5 _ ?_
  clear hK5 K5
  refine Tr.kp [7] ?_
  simp only [pk_cons, pk_nil, ↓A_cons, ↓reduceIte, Nat.reduceEqDiff]
  refine Tr.ret ?_
  simp -implicitDefEqProofs (disch := first | omega | (simp only [go_sem, List.length_append, List.length_drop, List.length_take, htl, treeT_len, leafT_len, nodT_len] <;> omega) | decide) only [go_sem, ↓reduceIte, Nat.reduceEqDiff, reduceCtorEq]
  all_goals (first | (rw [hv]; done) | (refine ⟨rfl, ?_⟩; rw [hv]; done))
 ·
  have m0 := m
  replace m := eq_false m
  have hbd : BdK (0, k) := bd_lk (by omega)
  refine Tr.kfix hcx (by decide) ?_
  have el := look_F (cx := (⟨Tryd.prog, 45, gl, pu, hp, fun _ => false, kmS⟩ : Cx)) rfl rfl (seed := seed) (x := (0, k)) (M := M) (h := [some (mapC (ents seed (M))), some (cl bC (List.replicate 16 0)), none]) (b := 0) rfl m0 nd hbd
  have htl := treeT_len seed 0 k
  have hv : vis 0 k M = M ++ [(0, k)] := if_neg m0
  have hvl : (leafT seed k).length = 16 := treeT_len seed 0 k
  refine Tr.rg hcx [1000018] _ [none] rfl rfl rfl ?_
  simp -implicitDefEqProofs (maxSteps := 2000000) (disch := first | omega | (simp only [go_sem, List.length_append, List.length_drop, List.length_take, htl, treeT_len, leafT_len, nodT_len] <;> omega) | decide) only [go_sem, ↓reduceIte, Nat.reduceEqDiff, reduceCtorEq, Nat.reduceLT, Nat.reduceBEq, Nat.reduceAdd, Nat.reduceSub, Nat.reduceMul, Nat.reduceMod, m, el]
  refine hK3 _ ?_
  clear hK3 K3
  refine Tr.kp [0, 2, 3, 4, 6, 7, 8, 9] ?_
  simp only [pk_cons, pk_nil, ↓A_cons, ↓reduceIte, Nat.reduceEqDiff]
  refine Tr.seqK fun K6 hK6 => ?_
  refine Tr.rg hcx [] _ [] rfl rfl rfl ?_
  simp -implicitDefEqProofs (maxSteps := 2000000) (disch := first | omega | (simp only [go_sem, List.length_append, List.length_drop, List.length_take, htl, treeT_len, leafT_len, nodT_len] <;> omega) | decide) only [go_sem, ↓reduceIte, Nat.reduceEqDiff, reduceCtorEq, Nat.reduceLT, Nat.reduceBEq, Nat.reduceAdd, Nat.reduceSub, Nat.reduceMul, Nat.reduceMod, m]
  refine hK6 _ ?_
  clear hK6 K6
  refine Tr.kp [0, 2, 3, 4, 6, 7, 8, 19] ?_
  simp only [pk_cons, pk_nil, ↓A_cons, ↓reduceIte, Nat.reduceEqDiff]
  refine Tr.condG fun KT KF hT hF => ?_
  simp only [ev_tmp, ev_const, ↓A_cons, ↓reduceIte, Nat.reduceEqDiff, reduceCtorEq, condG_bool, GB_true, GB_false, decide_eq_true_eq]
  refine hF ?_
  clear hT hF KT KF
  refine Tr.skip ?_
  refine hK2 _ ?_
  clear hK2 K2
  refine Tr.kp [0, 2, 3, 4, 6, 7] ?_
  simp only [pk_cons, pk_nil, ↓A_cons, ↓reduceIte, Nat.reduceEqDiff]
  refine Tr.seqK fun K7 hK7 => ?_
  refine Tr.rg hcx [] _ [none] rfl rfl rfl ?_
  simp -implicitDefEqProofs (maxSteps := 2000000) (disch := first | omega | (simp only [go_sem, List.length_append, List.length_drop, List.length_take, htl, treeT_len, leafT_len, nodT_len] <;> omega) | decide) only [go_sem, ↓reduceIte, Nat.reduceEqDiff, reduceCtorEq, Nat.reduceLT, Nat.reduceBEq, Nat.reduceAdd, Nat.reduceSub, Nat.reduceMul, Nat.reduceMod, m]
  refine hK7 _ ?_
  clear hK7 K7
  refine Tr.kp [0, 2, 3, 4, 6, 7, 10] ?_
  simp only [pk_cons, pk_nil, ↓A_cons, ↓reduceIte, Nat.reduceEqDiff]
  refine Tr.seqK fun K8 hK8 => ?_
  refine Tr.seqK fun K9 hK9 => ?_
  refine Tr.rg hcx [] _ [] rfl rfl rfl ?_
  simp -implicitDefEqProofs (maxSteps := 2000000) (disch := first | omega | (simp only [go_sem, List.length_append, List.length_drop, List.length_take, htl, treeT_len, leafT_len, nodT_len] <;> omega) | decide) only [go_sem, ↓reduceIte, Nat.reduceEqDiff, reduceCtorEq, Nat.reduceLT, Nat.reduceBEq, Nat.reduceAdd, Nat.reduceSub, Nat.reduceMul, Nat.reduceMod, m]
  refine hK9 _ ?_
  clear hK9 K9
  refine Tr.kp [0, 2, 3, 4, 6, 7, 10, 22] ?_
  simp only [pk_cons, pk_nil, ↓A_cons, ↓reduceIte, Nat.reduceEqDiff]
  refine Tr.condG fun KT KF hT hF => ?_
  simp only [ev_tmp, ev_const, ↓A_cons, ↓reduceIte, Nat.reduceEqDiff, reduceCtorEq, condG_bool, GB_true, GB_false, decide_eq_true_eq]
  refine hT ?_
  clear hT hF KT KF
  have e38 := h38 seed k hs hk
  refine Tr.rg hcx [] _ [] rfl rfl rfl ?_
  simp -implicitDefEqProofs (maxSteps := 2000000) (disch := first | omega | (simp only [go_sem, List.length_append, List.length_drop, List.length_take, htl, treeT_len, leafT_len, nodT_len] <;> omega) | decide) only [go_sem, ↓reduceIte, Nat.reduceEqDiff, reduceCtorEq, Nat.reduceLT, Nat.reduceBEq, Nat.reduceAdd, Nat.reduceSub, Nat.reduceMul, Nat.reduceMod, m, e38]
  refine hK8 _ ?_
  clear hK8 K8
  refine Tr.kp [0, 2, 6, 7, 10] ?_
  simp only [pk_cons, pk_nil, ↓A_cons, ↓reduceIte, Nat.reduceEqDiff]
  refine Tr.seqK fun K10 hK10 => ?_
  have hnd2 := nd
  have hn2 : (0, k) ∉ M := m0
  have ep : mputF (⟨Tryd.prog, 45, gl, pu, hp, fun _ => false, kmS⟩ : Cx) 73 0 (keyT (0, k)) (.agg (cl bC (leafT seed k))) [some (mapC (ents seed (M))), some (cl bC (List.replicate 16 0)), some (cl bC (List.replicate 16 0)), some (cl bC (leafT seed k))] = some (.val undef, [some (mapC (ents seed (M ++ [(0, k)]))), some (cl bC (List.replicate 16 0)), some (cl bC (List.replicate 16 0)), some (cl bC (leafT seed k))]) := put_F (cx := (⟨Tryd.prog, 45, gl, pu, hp, fun _ => false, kmS⟩ : Cx)) rfl rfl (seed := seed) (x := (0, k)) (M := M) (h := [some (mapC (ents seed (M))), some (cl bC (List.replicate 16 0)), some (cl bC (List.replicate 16 0)), some (cl bC (leafT seed k))]) (b := 0) rfl hn2 hnd2 hbd
  refine Tr.rg hcx [] _ [] rfl rfl rfl ?_
  simp -implicitDefEqProofs (maxSteps := 2000000) (disch := first | omega | (simp only [go_sem, List.length_append, List.length_drop, List.length_take, htl, treeT_len, leafT_len, nodT_len] <;> omega) | decide) only [go_sem, ↓reduceIte, Nat.reduceEqDiff, reduceCtorEq, Nat.reduceLT, Nat.reduceBEq, Nat.reduceAdd, Nat.reduceSub, Nat.reduceMul, Nat.reduceMod, m, ep]
  refine hK10 _ ?_
  clear hK10 K10
  refine Tr.kp [7, 10] ?_
  simp only [pk_cons, pk_nil, ↓A_cons, ↓reduceIte, Nat.reduceEqDiff]
  refine Tr.seqK fun K11 hK11 => ?_
  refine Tr.rg hcx [] _ [] rfl rfl rfl ?_
  simp -implicitDefEqProofs (maxSteps := 2000000) (disch := first | omega | (simp only [go_sem, List.length_append, List.length_drop, List.length_take, htl, treeT_len, leafT_len, nodT_len] <;> omega) | decide) only [go_sem, ↓reduceIte, Nat.reduceEqDiff, reduceCtorEq, Nat.reduceLT, Nat.reduceBEq, Nat.reduceAdd, Nat.reduceSub, Nat.reduceMul, Nat.reduceMod, m]
  refine hK11 _ ?_
  clear hK11 K11
  refine Tr.kp [7] ?_
  simp only [pk_cons, pk_nil, ↓A_cons, ↓reduceIte, Nat.reduceEqDiff]
  refine Tr.ret ?_
  simp -implicitDefEqProofs (disch := first | omega | (simp only [go_sem, List.length_append, List.length_drop, List.length_take, htl, treeT_len, leafT_len, nodT_len] <;> omega) | decide) only [go_sem, ↓reduceIte, Nat.reduceEqDiff, reduceCtorEq]
  all_goals (first | (rw [hv]; done) | (refine ⟨rfl, ?_⟩; rw [hv]; done))
set_option maxRecDepth 100000 in
set_option maxHeartbeats 8000000 in
theorem fc44s {gl : Nat → C} {M0 : Nat} {pu : Nat → List C → Option C} {hp : Nat → List C → Hp → Option (C × Hp)} (hcx : CxOK (cxQ gl M0 pu hp)) (seed : List UInt8) (l : Nat) (d k : Nat) (M : List (Nat × Nat)) (nd : OkM M) (hk : (k + 1) * 2 ^ (l + 1) ≤ 1000000 ∧ l < 20) (hs : seed.length ≤ 1000000)  (hnr : ∀ (g : Nat) (xs : List C), noRefs 0 xs = false → pu g xs = none) (hq44 : ∀ (M : List (Nat × Nat)) (k : Nat) (suf : Hp), OkM M → (k + 1) * 2 ^ l ≤ 1000000 → (∀ o ∈ suf, okBox o = true) → hp 44 [.val (nI l), .val (nI k), .kp [.mp 0], .kp [.val (str seed)], atK 0 seed d] ([some (mapC (ents seed (M)))] ++ suf) = some (.agg (cl bC (treeT seed l k)), [some (mapC (ents seed (vis l k M)))] ++ suf)) (h40 : ∀ a b : List UInt8, a.length = 16 → b.length = 16 → pu 40 [.agg (cl bC a), .agg (cl bC b)] = some (.agg (cl bC (nodT a b)))) : FC Tryd.prog gl 44 [.val (nI (l + 1)), .val (nI k), .kp [.mp 0], .kp [.val (str seed)], atK 0 seed (d + 1)] [some (mapC (ents seed (M)))] (.agg (cl bC (treeT seed (l + 1) k))) [some (mapC (ents seed (vis (l + 1) k M)))] := by
 replace hcx := hcx.reN (M := 45)
 refine FC.ofT (cx := cxQ gl 45 pu hp) (rs := [.cell 7 23]) rfl Tryd.func44 rfl rfl rfl (by simp only [List.length_cons, List.length_nil]; decide) (by simp only [go_sem]) (rowT_nr seed _) ?_
 simp only [ini, go_sem]
 have htl := True.intro
 refine Tr.seqK fun K1 hK1 => ?_
 refine Tr.rg hcx [] _ [none, none] rfl rfl rfl ?_
 simp -implicitDefEqProofs (maxSteps := 2000000) (disch := first | omega | (simp only [go_sem, List.length_append, List.length_drop, List.length_take, htl, treeT_len, leafT_len, nodT_len] <;> omega) | decide) only [go_sem, ↓reduceIte, Nat.reduceEqDiff, reduceCtorEq, Nat.reduceLT, Nat.reduceBEq, Nat.reduceAdd, Nat.reduceSub, Nat.reduceMul, Nat.reduceMod]
 refine hK1 _ ?_
 clear hK1 K1
 refine Tr.kp [0, 2, 3, 4, 6, 7] ?_
 simp only [pk_cons, pk_nil, ↓A_cons, ↓reduceIte, Nat.reduceEqDiff]
 refine Tr.seqK fun K2 hK2 => ?_
 refine Tr.seqK fun K3 hK3 => ?_
 by_cases m : (l + 1, k) ∈ M
 ·
  have m0 := m
  replace m := eq_true m
  have hbd : BdK (l + 1, k) := bd_lk hk.1
  refine Tr.kfix hcx (by decide) ?_
  have el := look_T (cx := (⟨Tryd.prog, 45, gl, pu, hp, fun _ => false, kmS⟩ : Cx)) rfl rfl (seed := seed) (x := (l + 1, k)) (M := M) (h := [some (mapC (ents seed (M))), some (cl bC (List.replicate 16 0)), none]) (b := 0) rfl m0 nd
  have hv : vis (l + 1) k M = M := if_pos m0
  have htl := treeT_len seed (l + 1) k
  refine Tr.rg hcx [1000018] _ [none] rfl rfl rfl ?_
  simp -implicitDefEqProofs (maxSteps := 2000000) (disch := first | omega | (simp only [go_sem, List.length_append, List.length_drop, List.length_take, htl, treeT_len, leafT_len, nodT_len] <;> omega) | decide) only [go_sem, ↓reduceIte, Nat.reduceEqDiff, reduceCtorEq, Nat.reduceLT, Nat.reduceBEq, Nat.reduceAdd, Nat.reduceSub, Nat.reduceMul, Nat.reduceMod, m, el]
  refine hK3 _ ?_
  clear hK3 K3
  refine Tr.kp [0, 2, 3, 4, 6, 7, 8, 9] ?_
  simp only [pk_cons, pk_nil, ↓A_cons, ↓reduceIte, Nat.reduceEqDiff]
  refine Tr.seqK fun K4 hK4 => ?_
  refine Tr.rg hcx [] _ [] rfl rfl rfl ?_
  simp -implicitDefEqProofs (maxSteps := 2000000) (disch := first | omega | (simp only [go_sem, List.length_append, List.length_drop, List.length_take, htl, treeT_len, leafT_len, nodT_len] <;> omega) | decide) only [go_sem, ↓reduceIte, Nat.reduceEqDiff, reduceCtorEq, Nat.reduceLT, Nat.reduceBEq, Nat.reduceAdd, Nat.reduceSub, Nat.reduceMul, Nat.reduceMod, m]
  refine hK4 _ ?_
  clear hK4 K4
  refine Tr.kp [0, 2, 3, 4, 6, 7, 8, 19] ?_
  simp only [pk_cons, pk_nil, ↓A_cons, ↓reduceIte, Nat.reduceEqDiff]
  refine Tr.condG fun KT KF hT hF => ?_
  simp only [ev_tmp, ev_const, ↓A_cons, ↓reduceIte, Nat.reduceEqDiff, reduceCtorEq, condG_bool, GB_true, GB_false, decide_eq_true_eq]
  refine hT ?_
  clear hT hF KT KF
  refine Tr.seqK fun K5 hK5 => ?_
  refine Tr.rg hcx [] _ [] rfl rfl rfl ?_
  simp -implicitDefEqProofs (maxSteps := 2000000) (disch := first | omega | (simp only [go_sem, List.length_append, List.length_drop, List.length_take, htl, treeT_len, leafT_len, nodT_len] <;> omega) | decide) only [go_sem, ↓reduceIte, Nat.reduceEqDiff, reduceCtorEq, Nat.reduceLT, Nat.reduceBEq, Nat.reduceAdd, Nat.reduceSub, Nat.reduceMul, Nat.reduceMod, m]
  refine hK5 _ ?_
  clear hK5 K5
  refine Tr.kp [7] ?_
  simp only [pk_cons, pk_nil, ↓A_cons, ↓reduceIte, Nat.reduceEqDiff]
  refine Tr.ret ?_
  simp -implicitDefEqProofs (disch := first | omega | (simp only [go_sem, List.length_append, List.length_drop, List.length_take, htl, treeT_len, leafT_len, nodT_len] <;> omega) | decide) only [go_sem, ↓reduceIte, Nat.reduceEqDiff, reduceCtorEq]
  all_goals (first | (rw [hv]; done) | (refine ⟨rfl, ?_⟩; rw [hv]; done))
 ·
  have m0 := m
  replace m := eq_false m
  have hbd : BdK (l + 1, k) := bd_lk hk.1
  refine Tr.kfix hcx (by decide) ?_
  have el := look_F (cx := (⟨Tryd.prog, 45, gl, pu, hp, fun _ => false, kmS⟩ : Cx)) rfl rfl (seed := seed) (x := (l + 1, k)) (M := M) (h := [some (mapC (ents seed (M))), some (cl bC (List.replicate 16 0)), none]) (b := 0) rfl m0 nd hbd
  have htl := treeT_len seed (l + 1) k
  have hv : vis (l + 1) k M = vis l (2 * k + 1) (vis l (2 * k) M) ++ [(l + 1, k)] := if_neg m0
  have hvl : ((nodT (treeT seed l (2 * k)) (treeT seed l (2 * k + 1)))).length = 16 := treeT_len seed (l + 1) k
  refine Tr.rg hcx [1000018] _ [none] rfl rfl rfl ?_
  simp -implicitDefEqProofs (maxSteps := 2000000) (disch := first | omega | (simp only [go_sem, List.length_append, List.length_drop, List.length_take, htl, treeT_len, leafT_len, nodT_len] <;> omega) | decide) only [go_sem, ↓reduceIte, Nat.reduceEqDiff, reduceCtorEq, Nat.reduceLT, Nat.reduceBEq, Nat.reduceAdd, Nat.reduceSub, Nat.reduceMul, Nat.reduceMod, m, el]
  refine hK3 _ ?_
  clear hK3 K3
  refine Tr.kp [0, 2, 3, 4, 6, 7, 8, 9] ?_
  simp only [pk_cons, pk_nil, ↓A_cons, ↓reduceIte, Nat.reduceEqDiff]
  refine Tr.seqK fun K6 hK6 => ?_
  refine Tr.rg hcx [] _ [] rfl rfl rfl ?_
  simp -implicitDefEqProofs (maxSteps := 2000000) (disch := first | omega | (simp only [go_sem, List.length_append, List.length_drop, List.length_take, htl, treeT_len, leafT_len, nodT_len] <;> omega) | decide) only [go_sem, ↓reduceIte, Nat.reduceEqDiff, reduceCtorEq, Nat.reduceLT, Nat.reduceBEq, Nat.reduceAdd, Nat.reduceSub, Nat.reduceMul, Nat.reduceMod, m]
  refine hK6 _ ?_
  clear hK6 K6
  refine Tr.kp [0, 2, 3, 4, 6, 7, 8, 19] ?_
  simp only [pk_cons, pk_nil, ↓A_cons, ↓reduceIte, Nat.reduceEqDiff]
  refine Tr.condG fun KT KF hT hF => ?_
  simp only [ev_tmp, ev_const, ↓A_cons, ↓reduceIte, Nat.reduceEqDiff, reduceCtorEq, condG_bool, GB_true, GB_false, decide_eq_true_eq]
  refine hF ?_
  clear hT hF KT KF
  refine Tr.skip ?_
  refine hK2 _ ?_
  clear hK2 K2
  refine Tr.kp [0, 2, 3, 4, 6, 7] ?_
  simp only [pk_cons, pk_nil, ↓A_cons, ↓reduceIte, Nat.reduceEqDiff]
  refine Tr.seqK fun K7 hK7 => ?_
  refine Tr.rg hcx [] _ [none] rfl rfl rfl ?_
  simp -implicitDefEqProofs (maxSteps := 2000000) (disch := first | omega | (simp only [go_sem, List.length_append, List.length_drop, List.length_take, htl, treeT_len, leafT_len, nodT_len] <;> omega) | decide) only [go_sem, ↓reduceIte, Nat.reduceEqDiff, reduceCtorEq, Nat.reduceLT, Nat.reduceBEq, Nat.reduceAdd, Nat.reduceSub, Nat.reduceMul, Nat.reduceMod, m]
  refine hK7 _ ?_
  clear hK7 K7
  refine Tr.kp [0, 2, 3, 4, 6, 7, 10] ?_
  simp only [pk_cons, pk_nil, ↓A_cons, ↓reduceIte, Nat.reduceEqDiff]
  refine Tr.seqK fun K8 hK8 => ?_
  refine Tr.seqK fun K9 hK9 => ?_
  refine Tr.rg hcx [] _ [] rfl rfl rfl ?_
  simp -implicitDefEqProofs (maxSteps := 2000000) (disch := first | omega | (simp only [go_sem, List.length_append, List.length_drop, List.length_take, htl, treeT_len, leafT_len, nodT_len] <;> omega) | decide) only [go_sem, ↓reduceIte, Nat.reduceEqDiff, reduceCtorEq, Nat.reduceLT, Nat.reduceBEq, Nat.reduceAdd, Nat.reduceSub, Nat.reduceMul, Nat.reduceMod, m, Nat.add_one_ne_zero, Nat.succ_ne_zero]
  refine hK9 _ ?_
  clear hK9 K9
  refine Tr.kp [0, 2, 3, 4, 6, 7, 10, 22] ?_
  simp only [pk_cons, pk_nil, ↓A_cons, ↓reduceIte, Nat.reduceEqDiff]
  refine Tr.condG fun KT KF hT hF => ?_
  simp only [ev_tmp, ev_const, ↓A_cons, ↓reduceIte, Nat.reduceEqDiff, reduceCtorEq, condG_bool, GB_true, GB_false, decide_eq_true_eq]
  refine hF ?_
  clear hT hF KT KF
  have hp1 : (2 * k + 1) * 2 ^ l ≤ 1000000 := Nat.le_trans (Nat.mul_le_mul_right (2 ^ l) (Nat.le_succ (2 * k + 1))) (pow_halfT hk.1)
  have hp2 : (2 * k + 1 + 1) * 2 ^ l ≤ 1000000 := pow_halfT hk.1
  have hk64 : k < 1000000 := by have := hk.1; have h1 : 1 ≤ 2 ^ (l + 1) := Nat.one_le_two_pow; have h2 : (k + 1) * 1 ≤ (k + 1) * 2 ^ (l + 1) := Nat.mul_le_mul_left _ h1; omega
  have hl20 := hk.2
  have e44a := hq44 M (2 * k) [some (cl bC (List.replicate 16 0)), some (cl bC (List.replicate 16 0)), some (cl bC (List.replicate 16 0))] nd hp1 (okS _ _ _)
  have e44b := hq44 (vis l (2 * k) M) (2 * k + 1) [some (cl bC (List.replicate 16 0)), some (cl bC (List.replicate 16 0)), some (cl bC (List.replicate 16 0))] (vis_ok hp1 nd) hp2 (okS _ _ _)
  simp only [List.cons_append, List.nil_append] at e44a e44b
  have en44 : ∀ j, pu 44 [.val (nI l), .val (nI j), .kp [.mp 0], .kp [.val (str seed)], atK 0 seed d] = none := fun j => hnr 44 _ rfl
  have e40 := h40 _ _ (treeT_len seed l (2 * k)) (treeT_len seed l (2 * k + 1))
  refine Tr.rgD hcx hMOQ [] _ [] rfl rfl rfl rfl ?_
  simp -implicitDefEqProofs (maxSteps := 2000000) (disch := first | omega | (simp only [go_sem, List.length_append, List.length_drop, List.length_take, htl, treeT_len, leafT_len, nodT_len] <;> omega) | decide) only [go_sem, ↓reduceIte, Nat.reduceEqDiff, reduceCtorEq, Nat.reduceLT, Nat.reduceBEq, Nat.reduceAdd, Nat.reduceSub, Nat.reduceMul, Nat.reduceMod, m, atK_S, e44a, e44b, en44, e40, Nat.add_sub_cancel]
  with_reducible refine And.intro ?_ ?_
  · exact rfl
  refine hK8 _ ?_
  clear hK8 K8
  refine Tr.kp [0, 2, 6, 7, 10] ?_
  simp only [pk_cons, pk_nil, ↓A_cons, ↓reduceIte, Nat.reduceEqDiff]
  refine Tr.seqK fun K10 hK10 => ?_
  have hnd2 : OkM (vis l (2 * k + 1) (vis l (2 * k) M)) := vis_ok (pow_halfT hk.1) (vis_ok (Nat.le_trans (Nat.mul_le_mul_right (2 ^ l) (Nat.le_succ (2 * k + 1))) (pow_halfT hk.1)) nd)
  have hn2 : (l + 1, k) ∉ vis l (2 * k + 1) (vis l (2 * k) M) := vis_new l k M m0
  have ep : mputF (⟨Tryd.prog, 45, gl, pu, hp, fun _ => false, kmS⟩ : Cx) 73 0 (keyT (l + 1, k)) (.agg (cl bC ((nodT (treeT seed l (2 * k)) (treeT seed l (2 * k + 1)))))) [some (mapC (ents seed (vis l (2 * k + 1) (vis l (2 * k) M)))), some (cl bC (List.replicate 16 0)), some (cl bC (List.replicate 16 0)), some (cl bC ((nodT (treeT seed l (2 * k)) (treeT seed l (2 * k + 1)))))] = some (.val undef, [some (mapC (ents seed (vis l (2 * k + 1) (vis l (2 * k) M) ++ [(l + 1, k)]))), some (cl bC (List.replicate 16 0)), some (cl bC (List.replicate 16 0)), some (cl bC ((nodT (treeT seed l (2 * k)) (treeT seed l (2 * k + 1)))))]) := put_F (cx := (⟨Tryd.prog, 45, gl, pu, hp, fun _ => false, kmS⟩ : Cx)) rfl rfl (seed := seed) (x := (l + 1, k)) (M := vis l (2 * k + 1) (vis l (2 * k) M)) (h := [some (mapC (ents seed (vis l (2 * k + 1) (vis l (2 * k) M)))), some (cl bC (List.replicate 16 0)), some (cl bC (List.replicate 16 0)), some (cl bC ((nodT (treeT seed l (2 * k)) (treeT seed l (2 * k + 1)))))]) (b := 0) rfl hn2 hnd2 hbd
  refine Tr.rg hcx [] _ [] rfl rfl rfl ?_
  simp -implicitDefEqProofs (maxSteps := 2000000) (disch := first | omega | (simp only [go_sem, List.length_append, List.length_drop, List.length_take, htl, treeT_len, leafT_len, nodT_len] <;> omega) | decide) only [go_sem, ↓reduceIte, Nat.reduceEqDiff, reduceCtorEq, Nat.reduceLT, Nat.reduceBEq, Nat.reduceAdd, Nat.reduceSub, Nat.reduceMul, Nat.reduceMod, m, ep]
  refine hK10 _ ?_
  clear hK10 K10
  refine Tr.kp [7, 10] ?_
  simp only [pk_cons, pk_nil, ↓A_cons, ↓reduceIte, Nat.reduceEqDiff]
  refine Tr.seqK fun K11 hK11 => ?_
  refine Tr.rg hcx [] _ [] rfl rfl rfl ?_
  simp -implicitDefEqProofs (maxSteps := 2000000) (disch := first | omega | (simp only [go_sem, List.length_append, List.length_drop, List.length_take, htl, treeT_len, leafT_len, nodT_len] <;> omega) | decide) only [go_sem, ↓reduceIte, Nat.reduceEqDiff, reduceCtorEq, Nat.reduceLT, Nat.reduceBEq, Nat.reduceAdd, Nat.reduceSub, Nat.reduceMul, Nat.reduceMod, m]
  refine hK11 _ ?_
  clear hK11 K11
  refine Tr.kp [7] ?_
  simp only [pk_cons, pk_nil, ↓A_cons, ↓reduceIte, Nat.reduceEqDiff]
  refine Tr.ret ?_
  simp -implicitDefEqProofs (disch := first | omega | (simp only [go_sem, List.length_append, List.length_drop, List.length_take, htl, treeT_len, leafT_len, nodT_len] <;> omega) | decide) only [go_sem, ↓reduceIte, Nat.reduceEqDiff, reduceCtorEq]
  all_goals (first | (rw [hv]; done) | (refine ⟨rfl, ?_⟩; rw [hv]; done))
end Go.Sx
