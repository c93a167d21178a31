/-
  Package breaks: the documented examples, the law of Fill. And what follows.
-/
import Derived.Test.YtljjjkmiegeocaaPau
set_option linter.unusedSimpArgs false
set_option linter.unusedVariables false
namespace Go.Sx
open Go.RowKit Go.Proofs
theorem FC.le {P : Program} {gl : Nat → C} {f : Nat} {args args' : List C} {c : C} {h h' : Hp} (hf : FC P gl f args h c h') (ha : ∀ G vs, RepL G args' vs → RepL G args vs) : FC P gl f args' h c h' :=
  ⟨hf.1, fun G w vs hw ht hg hr => hf.2 G w vs hw ht hg (ha G _ hr)⟩
theorem repL_cons {G : Gh} {x y : C} {xs ys : List C} (h : CLe x y) (ht : ∀ vs, RepL G xs vs → RepL G ys vs) : ∀ vs, RepL G (x :: xs) vs → RepL G (y :: ys) vs := fun vs hr => by
  obtain ⟨v1, l1, e, h1, h2⟩ := hr
  exact ⟨v1, l1, e, h.1 G v1 h1, ht _ h2⟩
theorem CLe_agg {xs ys : List C} (h : ∀ G vs, RepL G xs vs → RepL G ys vs) : CLe (.agg xs) (.agg ys) := by
  refine ⟨fun G v hv => ?_, fun s n xs e => by cases e⟩
  simp only [Rep] at hv ⊢
  obtain ⟨vs, e, hr, ho⟩ := hv
  exact ⟨vs, e, h G _ hr, ho⟩
theorem fc15f {gl : Nat → C} {M : Nat} {pu : Nat → List C → Option C} (hcx : CxOK (cxP gl M pu)) (h17 : ∀ x y : List Int, x.length < 9223372036854775807 → pu 17 [sl iC .no x, sl iC .no y] = some (.val (.bool (decide (x = y))))) (x1 x2 x3 y2 y3 : List Int) (hx1 : x1.length < 9223372036854775807) (hx2 : x2.length < 9223372036854775807) (hx3 : x3.length < 9223372036854775807) :
    FC Try.prog gl 15 [.agg [sl iC .no x1, sl iC .no x2, sl iC .no x3], .agg [.val (.slice none 0 0), sl iC .full y2, sl iC .full y3]] [] (.val (.bool (decide ((x1, x2, x3) = ([], y2, y3))))) [] :=
  FC.le (fc15 hcx h17 x1 x2 x3 [] y2 y3 hx1 hx2 hx3) fun G => repL_cons (CLe.refl _) (repL_cons (CLe_agg fun G => repL_cons (CLe_sln rfl) (repL_cons (CLe.full _ _ _) (repL_cons (CLe.full _ _ _) fun _ h => h))) fun _ h => h)
def lvL : List Int := [3, 2, 2, 5]
theorem lvL_LI : LI lvL := LI_of (by decide) (by decide)
theorem bsA_lvL (u : TypeDesc) (y : Nat) : bsA (some ⟨u, 1, y, [nI 0]⟩) 4 [(0, .val (nI 3)), (1, .val (nI 2)), (2, .val (nI 2)), (3, .val (nI 5))] = some (vp (sl iC .full lvL)) := by
  rw [bsA_one u y 4 (nI 0) _ rfl (by decide)]; rfl
def lvA : List Int := [2, 3, 4]
theorem lvA_LI : LI lvA := LI_of (by decide) (by decide)
theorem bsA_lvA (u : TypeDesc) (y : Nat) : bsA (some ⟨u, 1, y, [nI 0]⟩) 3 [(0, .val (nI 2)), (1, .val (nI 3)), (2, .val (nI 4))] = some (vp (sl iC .full lvA)) := by
  rw [bsA_one u y 3 (nI 0) _ rfl (by decide)]; rfl
def lvB : List Int := [1, 4]
theorem lvB_LI : LI lvB := LI_of (by decide) (by decide)
theorem bsA_lvB (u : TypeDesc) (y : Nat) : bsA (some ⟨u, 1, y, [nI 0]⟩) 2 [(0, .val (nI 1)), (1, .val (nI 4))] = some (vp (sl iC .full lvB)) := by
  rw [bsA_one u y 2 (nI 0) _ rfl (by decide)]; rfl
def lvC : List Int := [1, 3]
theorem lvC_LI : LI lvC := LI_of (by decide) (by decide)
theorem bsA_lvC (u : TypeDesc) (y : Nat) : bsA (some ⟨u, 1, y, [nI 0]⟩) 2 [(0, .val (nI 1)), (1, .val (nI 3))] = some (vp (sl iC .full lvC)) := by
  rw [bsA_one u y 2 (nI 0) _ rfl (by decide)]; rfl
def lvD : List Int := [7]
theorem lvD_LI : LI lvD := LI_of (by decide) (by decide)
def lvE : List Int := [1, 3, 4]
theorem lvE_LI : LI lvE := LI_of (by decide) (by decide)
theorem bsA_lvE (u : TypeDesc) (y : Nat) : bsA (some ⟨u, 1, y, [nI 0]⟩) 3 [(0, .val (nI 1)), (1, .val (nI 3)), (2, .val (nI 4))] = some (vp (sl iC .full lvE)) := by
  rw [bsA_one u y 3 (nI 0) _ rfl (by decide)]; rfl
def lvF : List Int := [3, 2, 2, 1, 0]
theorem lvF_LI : LI lvF := LI_of (by decide) (by decide)
theorem bsA_lvF (u : TypeDesc) (y : Nat) : bsA (some ⟨u, 1, y, [nI 0]⟩) 5 [(0, .val (nI 3)), (1, .val (nI 2)), (2, .val (nI 2)), (3, .val (nI 1)), (4, .val (nI 0))] = some (vp (sl iC .full lvF)) := by
  rw [bsA_one u y 5 (nI 0) _ rfl (by decide)]; rfl
def lvG : List Int := [10, 1, 16, 0, 0]
theorem lvG_LI : LI lvG := LI_of (by decide) (by decide)
theorem bsA_lvG (u : TypeDesc) (y : Nat) : bsA (some ⟨u, 1, y, [nI 0]⟩) 5 [(0, .val (nI 10)), (1, .val (nI 1)), (2, .val (nI 16)), (3, .val (nI 0)), (4, .val (nI 0))] = some (vp (sl iC .full lvG)) := by
  rw [bsA_one u y 5 (nI 0) _ rfl (by decide)]; rfl
def lv0 : List Int := [0]
attribute [local go_sem high] bsA_lvL bsA_lvA bsA_lvB bsA_lvC bsA_lvE bsA_lvF bsA_lvG
theorem ex_f1 : fillT lvL 1 6 = (lvE, lvF, lvG, 0) := by kernel_rfl
theorem ex_f2 : fillT lvD 1 6 = ([], [], [], 21) := by kernel_rfl
theorem ex_f3 : fillT [] 1 6 = ([], lv0, lv0, 0) := by kernel_rfl
theorem ex_g1 : greT lvL 1 6 = (lvA, 0) := by kernel_rfl
theorem ex_c1 : costT lvL 1 6 lvA = (3, 16, 0) := by kernel_rfl
theorem ex_c2 : (costT lvL 1 6 lvB).2.2 = 21 := by kernel_rfl
theorem ex_c3 : (costT lvL 1 6 lvC).2.2 = 5 := by kernel_rfl
theorem ex_k1 : chkT lvL 1 6 lvE lvF lvG = 0 := by kernel_rfl
set_option maxRecDepth 100000 in
set_option maxHeartbeats 8000000 in
theorem fc18 {gl : Nat → C} {M : Nat} {pu : Nat → List C → Option C}  (hcx : CxOK (cxP gl M pu)) (h11 : ∀ (l : List Int) (b w : Int), LI l → (-9223372036854775808 ≤ b ∧ b ≤ 9223372036854775807) → (-9223372036854775808 ≤ w ∧ w ≤ 9223372036854775807) → pu 11 [sl iC .no l, .val (.int .i64 b), .val (.int .i64 w)] = some (.tup [.agg [sl iC .no (fillT l b w).1, sl iC .no (fillT l b w).2.1, sl iC .no (fillT l b w).2.2.1], .val (nI (fillT l b w).2.2.2)])) (h13 : ∀ (l : List Int) (b w : Int), LI l → (-9223372036854775808 ≤ b ∧ b ≤ 9223372036854775807) → (-9223372036854775808 ≤ w ∧ w ≤ 9223372036854775807) → pu 13 [sl iC .no l, .val (.int .i64 b), .val (.int .i64 w)] = some (.tup [sl iC .no (greT l b w).1, .val (nI (greT l b w).2)])) (h21 : ∀ (l : List Int) (b w : Int) (e : List Int), LI l → (-9223372036854775808 ≤ b ∧ b ≤ 9223372036854775807) → (-9223372036854775808 ≤ w ∧ w ≤ 9223372036854775807) → LI e → pu 21 [sl iC .no l, .val (.int .i64 b), .val (.int .i64 w), sl iC .no e] = some (.tup [.val (nI (costT l b w e).1), .val (.int .i64 (costT l b w e).2.1), .val (nI (costT l b w e).2.2)])) (h23 : ∀ (l : List Int) (b w : Int) (E L K : List Int), LI l → (-9223372036854775808 ≤ b ∧ b ≤ 9223372036854775807) → (-9223372036854775808 ≤ w ∧ w ≤ 9223372036854775807) → LI E → LI L → LI K → pu 23 [sl iC .no l, .val (.int .i64 b), .val (.int .i64 w), .agg [sl iC .no E, sl iC .no L, sl iC .no K]] = some (.val (nI (chkT l b w E L K)))) (h16 : ∀ (x1 x2 x3 : List Int), pu 16 [.agg [sl iC .no x1, sl iC .no x2, sl iC .no x3]] = some (.agg [sl iC .no x1, sl iC .no x2, sl iC .no x3])) (h15 : ∀ (x1 x2 x3 y1 y2 y3 : List Int), x1.length < 9223372036854775807 → x2.length < 9223372036854775807 → x3.length < 9223372036854775807 → pu 15 [.agg [sl iC .no x1, sl iC .no x2, sl iC .no x3], .agg [sl iC .no y1, sl iC .no y2, sl iC .no y3]] = some (.val (.bool (decide ((x1, x2, x3) = (y1, y2, y3)))))) (h15f : ∀ (x1 x2 x3 y2 y3 : List Int), x1.length < 9223372036854775807 → x2.length < 9223372036854775807 → x3.length < 9223372036854775807 → pu 15 [.agg [sl iC .no x1, sl iC .no x2, sl iC .no x3], .agg [.val (.slice none 0 0), sl iC .full y2, sl iC .full y3]] = some (.val (.bool (decide ((x1, x2, x3) = ([], y2, y3)))))) (h17 : ∀ x y : List Int, x.length < 9223372036854775807 → pu 17 [sl iC .no x, sl iC .no y] = some (.val (.bool (decide (x = y)))))  : FC Try.prog gl 18 [] [] (.val (.bool true)) [] := by
 replace hcx := hcx.reN (M := 126)
 refine FC.ofA (cx := cxP gl 126 pu) (rs := [.tmp 0]) rfl Try.func18 rfl rfl rfl (by simp only [List.length_cons, List.length_nil]; decide) (by simp only [go_sem]) ?_
 simp only [ini, go_sem]
 have e11a : pu 11 [sl iC .no lvL, .val (nI 1), .val (nI 6)] = some (.tup [.agg [sl iC .no lvE, sl iC .no lvF, sl iC .no lvG], .val (nI 0)]) := (h11 lvL 1 6 lvL_LI ⟨by decide, by decide⟩ ⟨by decide, by decide⟩).trans (by first | (rw [ex_f1]; done) | (rw [ex_f1]; rfl))
 have e11b : pu 11 [sl iC .no [((7 : Nat) : Int)], .val (nI 1), .val (nI 6)] = some (.tup [.agg [sl iC .no [], sl iC .no [], sl iC .no []], .val (nI 21)]) := (h11 lvD 1 6 lvD_LI ⟨by decide, by decide⟩ ⟨by decide, by decide⟩).trans (by first | (rw [ex_f2]; done) | (rw [ex_f2]; rfl))
 have e11c : pu 11 [.sl .no 0 [], .val (nI 1), .val (nI 6)] = some (.tup [.agg [sl iC .no [], sl iC .no [((0 : Nat) : Int)], sl iC .no [((0 : Nat) : Int)]], .val (nI 0)]) := (h11 [] 1 6 (LI_of (by decide) (by decide)) ⟨by decide, by decide⟩ ⟨by decide, by decide⟩).trans (by first | (rw [ex_f3]; done) | (rw [ex_f3]; rfl))
 have e13 : pu 13 [sl iC .no lvL, .val (nI 1), .val (nI 6)] = some (.tup [sl iC .no lvA, .val (nI 0)]) := (h13 lvL 1 6 lvL_LI ⟨by decide, by decide⟩ ⟨by decide, by decide⟩).trans (by rw [ex_g1])
 have e21a : pu 21 [sl iC .no lvL, .val (nI 1), .val (nI 6), sl iC .no lvA] = some (.tup [.val (nI 3), .val (nI 16), .val (nI 0)]) := (h21 lvL 1 6 lvA lvL_LI ⟨by decide, by decide⟩ ⟨by decide, by decide⟩ lvA_LI).trans (by rw [ex_c1]; rfl)
 have e21b : pu 21 [sl iC .no lvL, .val (nI 1), .val (nI 6), sl iC .no lvB] = some (.tup [.val (nI (costT lvL 1 6 lvB).1), .val (.int .i64 (costT lvL 1 6 lvB).2.1), .val (nI 21)]) := (h21 lvL 1 6 lvB lvL_LI ⟨by decide, by decide⟩ ⟨by decide, by decide⟩ lvB_LI).trans (by simp only [ex_c2]; first | done | rfl)
 have e21c : pu 21 [sl iC .no lvL, .val (nI 1), .val (nI 6), sl iC .no lvC] = some (.tup [.val (nI (costT lvL 1 6 lvC).1), .val (.int .i64 (costT lvL 1 6 lvC).2.1), .val (nI 5)]) := (h21 lvL 1 6 lvC lvL_LI ⟨by decide, by decide⟩ ⟨by decide, by decide⟩ lvC_LI).trans (by simp only [ex_c3]; first | done | rfl)
 have e23 : pu 23 [sl iC .no lvL, .val (nI 1), .val (nI 6), .agg [sl iC .no lvE, sl iC .no lvF, sl iC .no lvG]] = some (.val (nI 0)) := (h23 lvL 1 6 lvE lvF lvG lvL_LI ⟨by decide, by decide⟩ ⟨by decide, by decide⟩ lvE_LI lvF_LI lvG_LI).trans (by rw [ex_k1])
 have e15a : pu 15 [.agg [sl iC .no lvE, sl iC .no lvF, sl iC .no lvG], .agg [sl iC .no lvE, sl iC .no lvF, sl iC .no lvG]] = some (.val (.bool true)) := (h15 lvE lvF lvG lvE lvF lvG (by decide) (by decide) (by decide)).trans (by rw [decide_eq_true rfl])
 have e15b : pu 15 [.agg [sl iC .no [], sl iC .no [((0 : Nat) : Int)], sl iC .no [((0 : Nat) : Int)]], .agg [.val (.slice none 0 0), sl iC .full [((0 : Nat) : Int)], sl iC .full [((0 : Nat) : Int)]]] = some (.val (.bool true)) := (h15f [] [((0 : Nat) : Int)] [((0 : Nat) : Int)] [((0 : Nat) : Int)] [((0 : Nat) : Int)] (by decide) (by decide) (by decide)).trans (by rw [decide_eq_true rfl])
 have e17 : pu 17 [sl iC .no lvA, sl iC .no lvA] = some (.val (.bool true)) := (h17 lvA lvA (by decide)).trans (by rw [decide_eq_true rfl])
 refine Tr.seqK fun K1 hK1 => ?_
 refine Tr.rg hcx [] _ [] rfl rfl rfl ?_
 simp -implicitDefEqProofs (maxSteps := 2000000) (disch := first | omega | (simp only [go_sem, List.length_append, List.length_drop, List.length_take] <;> omega) | decide) only [go_sem, ↓reduceIte, Nat.reduceEqDiff, reduceCtorEq, Nat.reduceLT, Nat.reduceBEq, Nat.reduceAdd, Nat.reduceSub, Nat.reduceMul, Nat.reduceMod, e11a, e11b, e11c, e13, e21a, e21b, e21c, e23, e15a, e15b, e17, h16]
 refine hK1 _ ?_
 clear hK1 K1
 refine Tr.kp [] ?_
 simp only [pk_cons, pk_nil, ↓A_cons, ↓reduceIte, Nat.reduceEqDiff]
 refine Tr.seqK fun K2 hK2 => ?_
 refine Tr.rg hcx [1000021] _ [] rfl rfl rfl ?_
 simp -implicitDefEqProofs (maxSteps := 2000000) (disch := first | omega | (simp only [go_sem, List.length_append, List.length_drop, List.length_take] <;> omega) | decide) only [go_sem, ↓reduceIte, Nat.reduceEqDiff, reduceCtorEq, Nat.reduceLT, Nat.reduceBEq, Nat.reduceAdd, Nat.reduceSub, Nat.reduceMul, Nat.reduceMod, e11a, e11b, e11c, e13, e21a, e21b, e21c, e23, e15a, e15b, e17, h16]
 refine hK2 _ ?_
 clear hK2 K2
 refine Tr.kp [1] ?_
 simp only [pk_cons, pk_nil, ↓A_cons, ↓reduceIte, Nat.reduceEqDiff]
 refine Tr.seqK fun K3 hK3 => ?_
 refine Tr.rg hcx [1000026] _ [none] rfl rfl rfl ?_
 simp -implicitDefEqProofs (maxSteps := 2000000) (disch := first | omega | (simp only [go_sem, List.length_append, List.length_drop, List.length_take] <;> omega) | decide) only [go_sem, ↓reduceIte, Nat.reduceEqDiff, reduceCtorEq, Nat.reduceLT, Nat.reduceBEq, Nat.reduceAdd, Nat.reduceSub, Nat.reduceMul, Nat.reduceMod, e11a, e11b, e11c, e13, e21a, e21b, e21c, e23, e15a, e15b, e17, h16]
 refine hK3 _ ?_
 clear hK3 K3
 refine Tr.kp [1, 2, 3] ?_
 simp only [pk_cons, pk_nil, ↓A_cons, ↓reduceIte, Nat.reduceEqDiff]
 refine Tr.seqK fun K4 hK4 => ?_
 refine Tr.rg hcx [1000030, 1000031] _ [] rfl rfl rfl ?_
 simp -implicitDefEqProofs (maxSteps := 2000000) (disch := first | omega | (simp only [go_sem, List.length_append, List.length_drop, List.length_take] <;> omega) | decide) only [go_sem, ↓reduceIte, Nat.reduceEqDiff, reduceCtorEq, Nat.reduceLT, Nat.reduceBEq, Nat.reduceAdd, Nat.reduceSub, Nat.reduceMul, Nat.reduceMod, e11a, e11b, e11c, e13, e21a, e21b, e21c, e23, e15a, e15b, e17, h16]
 refine hK4 _ ?_
 clear hK4 K4
 refine Tr.kp [1, 2, 3, 4, 5] ?_
 simp only [pk_cons, pk_nil, ↓A_cons, ↓reduceIte, Nat.reduceEqDiff]
 refine Tr.seqK fun K5 hK5 => ?_
 refine Tr.rg hcx [1000036, 1000037, 1000038] _ [] rfl rfl rfl ?_
 simp -implicitDefEqProofs (maxSteps := 2000000) (disch := first | omega | (simp only [go_sem, List.length_append, List.length_drop, List.length_take] <;> omega) | decide) only [go_sem, ↓reduceIte, Nat.reduceEqDiff, reduceCtorEq, Nat.reduceLT, Nat.reduceBEq, Nat.reduceAdd, Nat.reduceSub, Nat.reduceMul, Nat.reduceMod, e11a, e11b, e11c, e13, e21a, e21b, e21c, e23, e15a, e15b, e17, h16]
 refine hK5 _ ?_
 clear hK5 K5
 refine Tr.kp [1, 2, 3, 4, 5, 6, 7, 8] ?_
 simp only [pk_cons, pk_nil, ↓A_cons, ↓reduceIte, Nat.reduceEqDiff]
 refine Tr.seqK fun K6 hK6 => ?_
 refine Tr.rg hcx [1000043, 1000044, 1000045] _ [] rfl rfl rfl ?_
 simp -implicitDefEqProofs (maxSteps := 2000000) (disch := first | omega | (simp only [go_sem, List.length_append, List.length_drop, List.length_take] <;> omega) | decide) only [go_sem, ↓reduceIte, Nat.reduceEqDiff, reduceCtorEq, Nat.reduceLT, Nat.reduceBEq, Nat.reduceAdd, Nat.reduceSub, Nat.reduceMul, Nat.reduceMod, e11a, e11b, e11c, e13, e21a, e21b, e21c, e23, e15a, e15b, e17, h16]
 refine hK6 _ ?_
 clear hK6 K6
 refine Tr.kp [1, 2, 3, 4, 5, 6, 7, 8, 11] ?_
 simp only [pk_cons, pk_nil, ↓A_cons, ↓reduceIte, Nat.reduceEqDiff]
 refine Tr.seqK fun K7 hK7 => ?_
 refine Tr.rg hcx [1000050, 1000051, 1000052] _ [] rfl rfl rfl ?_
 simp -implicitDefEqProofs (maxSteps := 2000000) (disch := first | omega | (simp only [go_sem, List.length_append, List.length_drop, List.length_take] <;> omega) | decide) only [go_sem, ↓reduceIte, Nat.reduceEqDiff, reduceCtorEq, Nat.reduceLT, Nat.reduceBEq, Nat.reduceAdd, Nat.reduceSub, Nat.reduceMul, Nat.reduceMod, e11a, e11b, e11c, e13, e21a, e21b, e21c, e23, e15a, e15b, e17, h16]
 refine hK7 _ ?_
 clear hK7 K7
 refine Tr.kp [1, 2, 3, 4, 5, 6, 7, 8, 11, 14] ?_
 simp only [pk_cons, pk_nil, ↓A_cons, ↓reduceIte, Nat.reduceEqDiff]
 refine Tr.seqK fun K8 hK8 => ?_
 refine Tr.rg hcx [1000057] _ [none] rfl rfl rfl ?_
 simp -implicitDefEqProofs (maxSteps := 2000000) (disch := first | omega | (simp only [go_sem, List.length_append, List.length_drop, List.length_take] <;> omega) | decide) only [go_sem, ↓reduceIte, Nat.reduceEqDiff, reduceCtorEq, Nat.reduceLT, Nat.reduceBEq, Nat.reduceAdd, Nat.reduceSub, Nat.reduceMul, Nat.reduceMod, e11a, e11b, e11c, e13, e21a, e21b, e21c, e23, e15a, e15b, e17, h16]
 refine hK8 _ ?_
 clear hK8 K8
 refine Tr.kp [1, 2, 3, 4, 5, 6, 7, 8, 11, 14, 16] ?_
 simp only [pk_cons, pk_nil, ↓A_cons, ↓reduceIte, Nat.reduceEqDiff]
 refine Tr.seqK fun K9 hK9 => ?_
 refine Tr.rg hcx [1000061] _ [none] rfl rfl rfl ?_
 simp -implicitDefEqProofs (maxSteps := 2000000) (disch := first | omega | (simp only [go_sem, List.length_append, List.length_drop, List.length_take] <;> omega) | decide) only [go_sem, ↓reduceIte, Nat.reduceEqDiff, reduceCtorEq, Nat.reduceLT, Nat.reduceBEq, Nat.reduceAdd, Nat.reduceSub, Nat.reduceMul, Nat.reduceMod, e11a, e11b, e11c, e13, e21a, e21b, e21c, e23, e15a, e15b, e17, h16]
 refine hK9 _ ?_
 clear hK9 K9
 refine Tr.kp [1, 2, 3, 4, 5, 6, 7, 8, 11, 14, 16, 17, 18] ?_
 simp only [pk_cons, pk_nil, ↓A_cons, ↓reduceIte, Nat.reduceEqDiff]
 refine Tr.seqK fun K10 hK10 => ?_
 refine Tr.rg hcx [] _ [none] rfl rfl rfl ?_
 simp -implicitDefEqProofs (maxSteps := 2000000) (disch := first | omega | (simp only [go_sem, List.length_append, List.length_drop, List.length_take] <;> omega) | decide) only [go_sem, ↓reduceIte, Nat.reduceEqDiff, reduceCtorEq, Nat.reduceLT, Nat.reduceBEq, Nat.reduceAdd, Nat.reduceSub, Nat.reduceMul, Nat.reduceMod, e11a, e11b, e11c, e13, e21a, e21b, e21c, e23, e15a, e15b, e17, h16]
 refine hK10 _ ?_
 clear hK10 K10
 refine Tr.kp [1, 2, 3, 4, 5, 6, 7, 8, 11, 14, 16, 17, 18, 19] ?_
 simp only [pk_cons, pk_nil, ↓A_cons, ↓reduceIte, Nat.reduceEqDiff]
 refine Tr.seqK fun K11 hK11 => ?_
 refine Tr.rg hcx [1000091] [some 66, some 67, some 68, some 69, some 70, some 71, some 72, some 73, some 74, some 75, some 76, some 77, some 78, some 79, some 80, some 81, some 82, some 83, some 84, some 85, some 86, some 87, some 88, some 89, some 90, some 91, some 20] [] rfl rfl rfl ?_
 simp -implicitDefEqProofs (maxSteps := 2000000) (disch := first | omega | (simp only [go_sem, List.length_append, List.length_drop, List.length_take] <;> omega) | decide) only [go_sem, ↓reduceIte, Nat.reduceEqDiff, reduceCtorEq, Nat.reduceLT, Nat.reduceBEq, Nat.reduceAdd, Nat.reduceSub, Nat.reduceMul, Nat.reduceMod, e11a, e11b, e11c, e13, e21a, e21b, e21c, e23, e15a, e15b, e17, h16]
 refine hK11 _ ?_
 clear hK11 K11
 refine Tr.kp [1, 2, 4, 6, 7, 17, 19, 20] ?_
 simp only [pk_cons, pk_nil, ↓A_cons, ↓reduceIte, Nat.reduceEqDiff]
 refine Tr.seqK fun K12 hK12 => ?_
 refine Tr.bxc 3 0 (sl iC .no lvE) [sl iC .full lvE, sl iC .full lvF, sl iC .full lvG] rfl rfl (CLe.full _ _ _) rfl ?_
 refine Tr.bxc 3 1 (sl iC .no lvF) [sl iC .no lvE, sl iC .full lvF, sl iC .full lvG] rfl rfl (CLe.full _ _ _) rfl ?_
 refine Tr.bxc 3 2 (sl iC .no lvG) [sl iC .no lvE, sl iC .no lvF, sl iC .full lvG] rfl rfl (CLe.full _ _ _) rfl ?_
 simp only [List.set_cons_succ, List.set_cons_zero]
 refine Tr.rgD hcx hMO [1000125] [some 92, some 93, some 94, some 95, some 96, some 97, some 98, some 99, some 100, some 101, some 102, some 103, some 104, some 105, some 106, some 107, some 108, some 109, some 110, some 111, some 112, some 113, some 114, some 115, some 116, some 117, some 118, some 119, some 120, some 121, some 122, some 123, some 124, some 125, some 0] [] rfl rfl rfl rfl ?_
 simp -implicitDefEqProofs (maxSteps := 2000000) (disch := first | omega | (simp only [go_sem, List.length_append, List.length_drop, List.length_take] <;> omega) | decide) only [go_sem, ↓reduceIte, Nat.reduceEqDiff, reduceCtorEq, Nat.reduceLT, Nat.reduceBEq, Nat.reduceAdd, Nat.reduceSub, Nat.reduceMul, Nat.reduceMod, e11a, e11b, e11c, e13, e21a, e21b, e21c, e23, e15a, e15b, e17, h16]
 with_reducible refine And.intro ?_ ?_
 · exact rfl
 refine hK12 _ ?_
 clear hK12 K12
 refine Tr.kp [0] ?_
 simp only [pk_cons, pk_nil, ↓A_cons, ↓reduceIte, Nat.reduceEqDiff]
 refine Tr.ret ?_
 simp -implicitDefEqProofs (disch := first | omega | (simp only [go_sem, List.length_append, List.length_drop, List.length_take] <;> omega) | decide) only [go_sem, ↓reduceIte, Nat.reduceEqDiff, reduceCtorEq]
 all_goals (rfl)
end Go.Sx
namespace Go.Sx
/-- A list of at most so many numbers of sixty-four bits. -/
def LN (l : List Int) (n : Nat) : Prop := l.length ≤ n ∧ ∀ x ∈ l, -9223372036854775808 ≤ x ∧ x ≤ 9223372036854775807
theorem LN.li {l : List Int} {n : Nat} (h : LN l n) (hn : n ≤ 9223372036854775807) : LI l := LI_of (by have := h.1; omega) h.2
theorem LN.nil (n : Nat) : LN [] n := ⟨Nat.zero_le _, fun x h => by simp at h⟩
theorem LN_gt {l : List Int} {n : Nat} (h : l.length ≤ n) (hb : ∀ i, i < l.length → -9223372036854775808 ≤ gt l i ∧ gt l i ≤ 9223372036854775807) : LN l n := ⟨h, fun x hx => by
  obtain ⟨i, hi, e⟩ := List.getElem_of_mem hx
  have := hb i hi
  rw [show gt l i = x from by rw [← e]; simp [gt, List.getD, List.getElem?_eq_getElem hi]] at this
  exact this⟩
theorem chn_ok {l : List Int} {b w : Int} (h : ∀ k, k < l.length → k < nxt l b w k ∧ nxt l b w k ≤ l.length) : ∀ (f k : Nat), (chn l b w f k).length ≤ f ∧ ∀ x ∈ chn l b w f k, 0 ≤ x ∧ x ≤ (l.length : Int)
  | 0, k => ⟨Nat.le_refl _, fun x hx => by simp [chn] at hx⟩
  | f + 1, k => by
    have ih := chn_ok h f (nxt l b w k)
    simp only [chn]
    split
    · rename_i hk
      have := h k hk
      refine ⟨by simp only [List.length_cons]; omega, fun x hx => ?_⟩
      rcases List.mem_cons.1 hx with rfl | hx
      · omega
      · exact ih.2 x hx
    · exact ⟨by simp, fun x hx => by simp at hx⟩
theorem fill_ok (l : List Int) (b w : Int) : LN (fillT l b w).1 257 ∧ LN (fillT l b w).2.1 257 ∧ LN (fillT l b w).2.2.1 257 := by
  by_cases hE : errE l b w = 0
  · have hF := errE_0.1 hE
    have h1 := hF.1
    by_cases hw : wideW l w = true
    · rw [fill_w hE hw]; exact ⟨LN.nil _, LN.nil _, LN.nil _⟩
    · replace hw : wideW l w = false := by simpa using hw
      have hA := wideW_n hw
      rw [fill_0 hE hA]
      have hn := fun k (hk : k < l.length) => nxt_in (b := b) (w := w) hk ⟨fit_pos hk (hA k hk), fit_le l b w k⟩
      have hc := chn_ok hn (l.length - 0) 0
      have hd := dp_len l b w l.length
      have hb := dp_bc hF l.length (Nat.le_refl _) (fun q h1 h2 => hA q h2)
      show LN (endF l b w) 257 ∧ LN (dp l b w l.length).1 257 ∧ LN (dp l b w l.length).2 257
      refine ⟨⟨by unfold endF; omega, fun x hx => by have := hc.2 x hx; omega⟩, LN_gt (by omega) fun i hi => ?_, LN_gt (by omega) fun i hi => ?_⟩ <;>
      · have := hb i (by omega)
        omega
  · rw [fill_e hE]; exact ⟨LN.nil _, LN.nil _, LN.nil _⟩
end Go.Sx
namespace Go.Sx
open Go.RowKit Go.Proofs
end Go.Sx
namespace Go.Sx
open Go.RowKit Go.Proofs
def res37 (l : List Int) (b w : Int) : C := if errE l b w = 0 then .tup [.agg [sl iC .no (sumsL l b l.length), .val (.int .i64 b), .val (.int .i64 w)], .val (nI 0)] else .tup [.agg [.val (.slice none 0 0), .val (nI 0), .val (nI 0)], .val (nI (errE l b w))]
theorem fc37c {gl : Nat → C} {M : Nat} {pu : Nat → List C → Option C} (hcx : CxOK (cxP gl M pu)) (h53 : ∀ n : Int, -9223372036854775808 ≤ n ∧ n ≤ 9223372036854775807 → pu 53 [.val (.int .i64 n)] = some (.val (.bool (proI n)))) (l : List Int) (b w : Int) (hl : LI l) (hb : -9223372036854775808 ≤ b ∧ b ≤ 9223372036854775807) (hw : -9223372036854775808 ≤ w ∧ w ≤ 9223372036854775807) :
    FC Try.prog gl 37 [sl iC .no l, .val (.int .i64 b), .val (.int .i64 w)] [] (res37 l b w) [] := by
  unfold res37
  by_cases hE : errE l b w = 0
  · rw [if_pos hE]; exact fc37 hcx h53 l b w hl hb hw (errE_0.1 hE)
  · rw [if_neg hE]; exact fc37e hcx h53 l b w hl hb hw hE
def yF (z : Bool) (y1 y2 y3 : List Int) : C := if z = true then .agg [.val (.slice none 0 0), sl iC .full y2, sl iC .full y3] else .agg [sl iC .no y1, sl iC .no y2, sl iC .no y3]
theorem noRef_yF (n : Nat) (z : Bool) (y1 y2 y3 : List Int) : noRef n (yF z y1 y2 y3) = true := by
  unfold yF; split <;> simp only [noRef_agg, noRefs_cons, noRefs_nil, noRef_sl, noRef_val, Bool.true_and, Bool.and_true]
theorem yF_inj {z z' : Bool} {y1 y2 y3 y1' y2' y3' : List Int} (h : yF z y1 y2 y3 = yF z' y1' y2' y3') (h1 : z = true → y1 = []) (h2 : z' = true → y1' = []) : y1 = y1' ∧ y2 = y2' ∧ y3 = y3' := by
  unfold yF at h
  cases z <;> cases z' <;> simp only [if_true, if_false, reduceCtorEq, Bool.false_eq_true, C.agg.injEq, List.cons.injEq, and_true] at h
  · exact ⟨sl_inj.1 h.1, sl_inj.1 h.2.1, sl_inj.1 h.2.2⟩
  · exact absurd h.1 (by simp [sl])
  · exact absurd h.1 (by simp [sl])
  · exact ⟨(h1 rfl).trans (h2 rfl).symm, sl_inj.1 h.2.1, sl_inj.1 h.2.2⟩
theorem fc15z {gl : Nat → C} {M : Nat} {pu : Nat → List C → Option C} (hcx : CxOK (cxP gl M pu)) (h17 : ∀ x y : List Int, x.length < 9223372036854775807 → pu 17 [sl iC .no x, sl iC .no y] = some (.val (.bool (decide (x = y))))) (z : Bool) (x1 x2 x3 y1 y2 y3 : List Int) (hz : z = true → y1 = []) (hx1 : x1.length < 9223372036854775807) (hx2 : x2.length < 9223372036854775807) (hx3 : x3.length < 9223372036854775807) :
    FC Try.prog gl 15 [.agg [sl iC .no x1, sl iC .no x2, sl iC .no x3], yF z y1 y2 y3] [] (.val (.bool (decide ((x1, x2, x3) = (y1, y2, y3))))) [] := by
  unfold yF
  cases z with
  | true => rw [if_pos rfl, hz rfl]; exact fc15f hcx h17 x1 x2 x3 y2 y3 hx1 hx2 hx3
  | false => rw [if_neg (by simp)]; exact fc15 hcx h17 x1 x2 x3 y1 y2 y3 hx1 hx2 hx3
end Go.Sx
