/-
  Package breaks: the small functions. And what follows.
-/
import Derived.Test.YtljjjkmiegeocaaPaj
set_option linter.unusedSimpArgs false
set_option linter.unusedVariables false
namespace Go.Sx
open Go.RowKit Go.Proofs
set_option maxRecDepth 100000 in
set_option maxHeartbeats 8000000 in
theorem fc53 {gl : Nat → C} {M : Nat} {pu : Nat → List C → Option C}  (hcx : CxOK (cxP gl M pu)) (n : Int) (hn : -9223372036854775808 ≤ n ∧ n ≤ 9223372036854775807) : FC Try.prog gl 53 [.val (.int .i64 n)] [] (.val (.bool (proI n))) [] := by
 replace hcx := hcx.reN (M := 9)
 refine FC.ofA (cx := cxP gl 9 pu) (rs := [.tmp 2]) rfl Try.func53 rfl rfl rfl (by simp only [List.length_cons, List.length_nil]; decide) (by simp only [go_sem]) ?_
 simp only [ini, go_sem]
 refine Tr.seqK fun K1 hK1 => ?_
 refine Tr.rg hcx [] _ [] rfl rfl rfl ?_
 simp -implicitDefEqProofs (maxSteps := 2000000) (disch := first | omega | (simp only [go_sem, List.length_append, List.length_drop, List.length_take] <;> omega) | decide) only [go_sem, ↓reduceIte, Nat.reduceEqDiff, reduceCtorEq, Nat.reduceLT, Nat.reduceBEq, Nat.reduceAdd, Nat.reduceSub, Nat.reduceMul, Nat.reduceMod]
 refine hK1 _ ?_
 clear hK1 K1
 refine Tr.kp [0] ?_
 simp only [pk_cons, pk_nil, ↓A_cons, ↓reduceIte, Nat.reduceEqDiff]
 refine Tr.seqK fun K2 hK2 => ?_
 by_cases b1 : ((0 : Nat) : Int) ≤ n
 ·
  by_cases b2 : n ≤ ((4096 : Nat) : Int)
  ·
   refine Tr.rg hcx [1000008] [some 3, some 4, some 5, some 6, some 7, some 8, some 2] [] rfl rfl rfl ?_
   simp -implicitDefEqProofs (maxSteps := 2000000) (disch := first | omega | (simp only [go_sem, List.length_append, List.length_drop, List.length_take] <;> omega) | decide) only [go_sem, ↓reduceIte, Nat.reduceEqDiff, reduceCtorEq, Nat.reduceLT, Nat.reduceBEq, Nat.reduceAdd, Nat.reduceSub, Nat.reduceMul, Nat.reduceMod, b1, b2]
   refine hK2 _ ?_
   clear hK2 K2
   refine Tr.kp [2] ?_
   simp only [pk_cons, pk_nil, ↓A_cons, ↓reduceIte, Nat.reduceEqDiff]
   refine Tr.ret ?_
   simp -implicitDefEqProofs (disch := first | omega | (simp only [go_sem, List.length_append, List.length_drop, List.length_take] <;> omega) | decide) only [go_sem, ↓reduceIte, Nat.reduceEqDiff, reduceCtorEq]
   all_goals (exact congrArg (fun z => some (C.val (.bool z))) (by have b1' := b1; unfold proI; first | (rw [decide_eq_true (by omega), decide_eq_true (by omega)]; rfl) | (rw [decide_eq_false (by omega)]; rfl) | (rw [decide_eq_true (by omega), decide_eq_false (by omega)]; rfl)))
  ·
   refine Tr.rg hcx [1000008] [some 3, some 4, some 5, some 6, some 7, some 8, some 2] [] rfl rfl rfl ?_
   simp -implicitDefEqProofs (maxSteps := 2000000) (disch := first | omega | (simp only [go_sem, List.length_append, List.length_drop, List.length_take] <;> omega) | decide) only [go_sem, ↓reduceIte, Nat.reduceEqDiff, reduceCtorEq, Nat.reduceLT, Nat.reduceBEq, Nat.reduceAdd, Nat.reduceSub, Nat.reduceMul, Nat.reduceMod, b1, b2]
   refine hK2 _ ?_
   clear hK2 K2
   refine Tr.kp [2] ?_
   simp only [pk_cons, pk_nil, ↓A_cons, ↓reduceIte, Nat.reduceEqDiff]
   refine Tr.ret ?_
   simp -implicitDefEqProofs (disch := first | omega | (simp only [go_sem, List.length_append, List.length_drop, List.length_take] <;> omega) | decide) only [go_sem, ↓reduceIte, Nat.reduceEqDiff, reduceCtorEq]
   all_goals (exact congrArg (fun z => some (C.val (.bool z))) (by have b1' := b1; unfold proI; first | (rw [decide_eq_true (by omega), decide_eq_true (by omega)]; rfl) | (rw [decide_eq_false (by omega)]; rfl) | (rw [decide_eq_true (by omega), decide_eq_false (by omega)]; rfl)))
 ·
  refine Tr.rg hcx [1000008] [some 3, some 4, some 5, some 6, some 7, some 8, some 2] [] rfl rfl rfl ?_
  simp -implicitDefEqProofs (maxSteps := 2000000) (disch := first | omega | (simp only [go_sem, List.length_append, List.length_drop, List.length_take] <;> omega) | decide) only [go_sem, ↓reduceIte, Nat.reduceEqDiff, reduceCtorEq, Nat.reduceLT, Nat.reduceBEq, Nat.reduceAdd, Nat.reduceSub, Nat.reduceMul, Nat.reduceMod, b1]
  refine hK2 _ ?_
  clear hK2 K2
  refine Tr.kp [2] ?_
  simp only [pk_cons, pk_nil, ↓A_cons, ↓reduceIte, Nat.reduceEqDiff]
  refine Tr.ret ?_
  simp -implicitDefEqProofs (disch := first | omega | (simp only [go_sem, List.length_append, List.length_drop, List.length_take] <;> omega) | decide) only [go_sem, ↓reduceIte, Nat.reduceEqDiff, reduceCtorEq]
  all_goals (exact congrArg (fun z => some (C.val (.bool z))) (by have b1' := b1; unfold proI; first | (rw [decide_eq_true (by omega), decide_eq_true (by omega)]; rfl) | (rw [decide_eq_false (by omega)]; rfl) | (rw [decide_eq_true (by omega), decide_eq_false (by omega)]; rfl)))
set_option maxRecDepth 100000 in
set_option maxHeartbeats 8000000 in
theorem fc38 {gl : Nat → C} {M : Nat} {pu : Nat → List C → Option C}  (hcx : CxOK (cxP gl M pu)) (S : List Int) (b w : Int) (hc : Col S b w) : FC Try.prog gl 38 [.agg [sl iC .no S, .val (.int .i64 b), .val (.int .i64 w)]] [] (.val (nI (S.length - 1))) [] := by
 replace hcx := hcx.reN (M := 7)
 refine FC.ofA (cx := cxP gl 7 pu) (rs := [.tmp 2]) rfl Try.func38 rfl rfl rfl (by simp only [List.length_cons, List.length_nil]; decide) (by simp only [go_sem]) ?_
 simp only [ini, go_sem]
 have hc1 := hc.1
 refine Tr.seqK fun K1 hK1 => ?_
 refine Tr.rg hcx [] _ [none] rfl rfl rfl ?_
 simp -implicitDefEqProofs (maxSteps := 2000000) (disch := first | omega | (simp only [go_sem, List.length_append, List.length_drop, List.length_take] <;> omega) | decide) only [go_sem, ↓reduceIte, Nat.reduceEqDiff, reduceCtorEq, Nat.reduceLT, Nat.reduceBEq, Nat.reduceAdd, Nat.reduceSub, Nat.reduceMul, Nat.reduceMod]
 refine hK1 _ ?_
 clear hK1 K1
 refine Tr.kp [1] ?_
 simp only [pk_cons, pk_nil, ↓A_cons, ↓reduceIte, Nat.reduceEqDiff]
 refine Tr.seqK fun K2 hK2 => ?_
 refine Tr.rg hcx [1000006] _ [] rfl rfl rfl ?_
 simp -implicitDefEqProofs (maxSteps := 2000000) (disch := first | omega | (simp only [go_sem, List.length_append, List.length_drop, List.length_take] <;> omega) | decide) only [go_sem, ↓reduceIte, Nat.reduceEqDiff, reduceCtorEq, Nat.reduceLT, Nat.reduceBEq, Nat.reduceAdd, Nat.reduceSub, Nat.reduceMul, Nat.reduceMod]
 refine hK2 _ ?_
 clear hK2 K2
 refine Tr.kp [2] ?_
 simp only [pk_cons, pk_nil, ↓A_cons, ↓reduceIte, Nat.reduceEqDiff]
 refine Tr.ret ?_
 simp -implicitDefEqProofs (disch := first | omega | (simp only [go_sem, List.length_append, List.length_drop, List.length_take] <;> omega) | decide) only [go_sem, ↓reduceIte, Nat.reduceEqDiff, reduceCtorEq]
 all_goals (rfl)
set_option maxRecDepth 100000 in
set_option maxHeartbeats 8000000 in
theorem fc39 {gl : Nat → C} {M : Nat} {pu : Nat → List C → Option C}  (hcx : CxOK (cxP gl M pu)) (S : List Int) (b w i j : Int) (hc : Col S b w) (hij : 0 ≤ i ∧ i < S.length ∧ 0 ≤ j ∧ j < S.length) : FC Try.prog gl 39 [.agg [sl iC .no S, .val (.int .i64 b), .val (.int .i64 w)], .val (.int .i64 i), .val (.int .i64 j)] [] (.val (.int .i64 (freS S b w i j))) [] := by
 replace hcx := hcx.reN (M := 24)
 refine FC.ofA (cx := cxP gl 24 pu) (rs := [.tmp 6]) rfl Try.func39 rfl rfl rfl (by simp only [List.length_cons, List.length_nil]; decide) (by simp only [go_sem]) ?_
 simp only [ini, go_sem]
 have hc1 := hc.1
 have hc2 := hc.2.1
 have hc3 := hc.2.2.1
 have hi := hc.2.2.2 i.toNat (by omega)
 have hj := hc.2.2.2 j.toNat (by omega)
 refine Tr.seqK fun K1 hK1 => ?_
 refine Tr.rg hcx [] _ [none] rfl rfl rfl ?_
 simp -implicitDefEqProofs (maxSteps := 2000000) (disch := first | omega | (simp only [go_sem, List.length_append, List.length_drop, List.length_take] <;> omega) | decide) only [go_sem, ↓reduceIte, Nat.reduceEqDiff, reduceCtorEq, Nat.reduceLT, Nat.reduceBEq, Nat.reduceAdd, Nat.reduceSub, Nat.reduceMul, Nat.reduceMod]
 refine hK1 _ ?_
 clear hK1 K1
 refine Tr.kp [1, 2, 3] ?_
 simp only [pk_cons, pk_nil, ↓A_cons, ↓reduceIte, Nat.reduceEqDiff]
 refine Tr.seqK fun K2 hK2 => ?_
 refine Tr.rgD hcx hMO [1000023] _ [] rfl rfl rfl rfl ?_
 simp -implicitDefEqProofs (maxSteps := 2000000) (disch := first | omega | (simp only [go_sem, List.length_append, List.length_drop, List.length_take] <;> omega) | decide) only [go_sem, ↓reduceIte, Nat.reduceEqDiff, reduceCtorEq, Nat.reduceLT, Nat.reduceBEq, Nat.reduceAdd, Nat.reduceSub, Nat.reduceMul, Nat.reduceMod]
 with_reducible refine And.intro ?_ ?_
 · exact rfl
 refine hK2 _ ?_
 clear hK2 K2
 refine Tr.kp [6] ?_
 simp only [pk_cons, pk_nil, ↓A_cons, ↓reduceIte, Nat.reduceEqDiff]
 refine Tr.ret ?_
 simp -implicitDefEqProofs (disch := first | omega | (simp only [go_sem, List.length_append, List.length_drop, List.length_take] <;> omega) | decide) only [go_sem, ↓reduceIte, Nat.reduceEqDiff, reduceCtorEq]
 all_goals (rfl)
set_option maxRecDepth 100000 in
set_option maxHeartbeats 8000000 in
theorem fc40 {gl : Nat → C} {M : Nat} {pu : Nat → List C → Option C}  (hcx : CxOK (cxP gl M pu)) (h38 : ∀ (S : List Int) (b w : Int), Col S b w → pu 38 [.agg [sl iC .no S, .val (.int .i64 b), .val (.int .i64 w)]] = some (.val (nI (S.length - 1)))) (h39 : ∀ (S : List Int) (b w i j : Int), Col S b w → 0 ≤ i ∧ i < S.length ∧ 0 ≤ j ∧ j < S.length → pu 39 [.agg [sl iC .no S, .val (.int .i64 b), .val (.int .i64 w)], .val (.int .i64 i), .val (.int .i64 j)] = some (.val (.int .i64 (freS S b w i j)))) (S : List Int) (b w i j : Int) (hc : Col S b w) (hij : 0 ≤ i ∧ i < S.length ∧ 0 ≤ j ∧ j < S.length) : FC Try.prog gl 40 [.agg [sl iC .no S, .val (.int .i64 b), .val (.int .i64 w)], .val (.int .i64 i), .val (.int .i64 j)] [] (.val (.int .i64 (priS S b w i j))) [] := by
 replace hcx := hcx.reN (M := 19)
 refine FC.ofA (cx := cxP gl 19 pu) (rs := [.tmp 6]) rfl Try.func40 rfl rfl rfl (by simp only [List.length_cons, List.length_nil]; decide) (by simp only [go_sem]) ?_
 simp only [ini, go_sem]
 have hc1 := hc.1
 have h38' := h38 S b w hc
 have h39' := h39 S b w i j hc hij
 have hfb := freS_b hc (i := i) (j := j) (by omega) (by omega)
 have hsq := sq_b hfb
 refine Tr.seqK fun K1 hK1 => ?_
 refine Tr.rg hcx [] _ [none] rfl rfl rfl ?_
 simp -implicitDefEqProofs (maxSteps := 2000000) (disch := first | omega | (simp only [go_sem, List.length_append, List.length_drop, List.length_take] <;> omega) | decide) only [go_sem, ↓reduceIte, Nat.reduceEqDiff, reduceCtorEq, Nat.reduceLT, Nat.reduceBEq, Nat.reduceAdd, Nat.reduceSub, Nat.reduceMul, Nat.reduceMod, h38', h39']
 refine hK1 _ ?_
 clear hK1 K1
 refine Tr.kp [1, 2, 3] ?_
 simp only [pk_cons, pk_nil, ↓A_cons, ↓reduceIte, Nat.reduceEqDiff]
 refine Tr.seqK fun K2 hK2 => ?_
 refine Tr.seqK fun K3 hK3 => ?_
 refine Tr.rg hcx [] _ [] rfl rfl rfl ?_
 simp -implicitDefEqProofs (maxSteps := 2000000) (disch := first | omega | (simp only [go_sem, List.length_append, List.length_drop, List.length_take] <;> omega) | decide) only [go_sem, ↓reduceIte, Nat.reduceEqDiff, reduceCtorEq, Nat.reduceLT, Nat.reduceBEq, Nat.reduceAdd, Nat.reduceSub, Nat.reduceMul, Nat.reduceMod, h38', h39']
 refine hK3 _ ?_
 clear hK3 K3
 refine Tr.kp [1, 2, 3, 11] ?_
 simp only [pk_cons, pk_nil, ↓A_cons, ↓reduceIte, Nat.reduceEqDiff]
 refine Tr.condG fun KT KF hT hF => ?_
 simp only [ev_tmp, ev_const, ↓A_cons, ↓reduceIte, Nat.reduceEqDiff, reduceCtorEq, condG_bool, GB_true, GB_false, decide_eq_true_eq]
 refine GB.dec (fun hc11 => hT ?_) (fun hc11 => hF ?_)
 ·
  clear hT hF KT KF
  refine Tr.seqK fun K4 hK4 => ?_
  refine Tr.rg hcx [] _ [] rfl rfl rfl ?_
  simp -implicitDefEqProofs (maxSteps := 2000000) (disch := first | omega | (simp only [go_sem, List.length_append, List.length_drop, List.length_take] <;> omega) | decide) only [go_sem, ↓reduceIte, Nat.reduceEqDiff, reduceCtorEq, Nat.reduceLT, Nat.reduceBEq, Nat.reduceAdd, Nat.reduceSub, Nat.reduceMul, Nat.reduceMod, h38', h39']
  refine hK4 _ ?_
  clear hK4 K4
  refine Tr.kp [6] ?_
  simp only [pk_cons, pk_nil, ↓A_cons, ↓reduceIte, Nat.reduceEqDiff]
  refine Tr.ret ?_
  simp -implicitDefEqProofs (disch := first | omega | (simp only [go_sem, List.length_append, List.length_drop, List.length_take] <;> omega) | decide) only [go_sem, ↓reduceIte, Nat.reduceEqDiff, reduceCtorEq]
  all_goals (exact congrArg (fun z => some (C.val (.int .i64 z))) (by unfold priS; first | (rw [if_pos hc11]; rfl) | rw [if_neg hc11]))
 ·
  clear hT hF KT KF
  refine Tr.skip ?_
  refine hK2 _ ?_
  clear hK2 K2
  refine Tr.kp [1, 2, 3] ?_
  simp only [pk_cons, pk_nil, ↓A_cons, ↓reduceIte, Nat.reduceEqDiff]
  refine Tr.seqK fun K5 hK5 => ?_
  refine Tr.rg hcx [1000015] _ [] rfl rfl rfl ?_
  simp -implicitDefEqProofs (maxSteps := 2000000) (disch := first | omega | (simp only [go_sem, List.length_append, List.length_drop, List.length_take] <;> omega) | decide) only [go_sem, ↓reduceIte, Nat.reduceEqDiff, reduceCtorEq, Nat.reduceLT, Nat.reduceBEq, Nat.reduceAdd, Nat.reduceSub, Nat.reduceMul, Nat.reduceMod, h38', h39']
  refine hK5 _ ?_
  clear hK5 K5
  refine Tr.kp [7] ?_
  simp only [pk_cons, pk_nil, ↓A_cons, ↓reduceIte, Nat.reduceEqDiff]
  refine Tr.seqK fun K6 hK6 => ?_
  refine Tr.rg hcx [1000018] _ [] rfl rfl rfl ?_
  simp -implicitDefEqProofs (maxSteps := 2000000) (disch := first | omega | (simp only [go_sem, List.length_append, List.length_drop, List.length_take] <;> omega) | decide) only [go_sem, ↓reduceIte, Nat.reduceEqDiff, reduceCtorEq, Nat.reduceLT, Nat.reduceBEq, Nat.reduceAdd, Nat.reduceSub, Nat.reduceMul, Nat.reduceMod, h38', h39']
  refine hK6 _ ?_
  clear hK6 K6
  refine Tr.kp [6] ?_
  simp only [pk_cons, pk_nil, ↓A_cons, ↓reduceIte, Nat.reduceEqDiff]
  refine Tr.ret ?_
  simp -implicitDefEqProofs (disch := first | omega | (simp only [go_sem, List.length_append, List.length_drop, List.length_take] <;> omega) | decide) only [go_sem, ↓reduceIte, Nat.reduceEqDiff, reduceCtorEq]
  all_goals (exact congrArg (fun z => some (C.val (.int .i64 z))) (by unfold priS; first | (rw [if_pos hc11]; rfl) | rw [if_neg hc11]))
end Go.Sx
namespace Go.Sx
open Go.RowKit Go.Proofs
set_option maxRecDepth 100000 in
set_option maxHeartbeats 8000000 in
theorem fc37 {gl : Nat → C} {M : Nat} {pu : Nat → List C → Option C}  (hcx : CxOK (cxP gl M pu)) (h53 : ∀ n : Int, -9223372036854775808 ≤ n ∧ n ≤ 9223372036854775807 → pu 53 [.val (.int .i64 n)] = some (.val (.bool (proI n)))) (l : List Int) (b w : Int) (hl : LI l) (hb : -9223372036854775808 ≤ b ∧ b ≤ 9223372036854775807) (hw : -9223372036854775808 ≤ w ∧ w ≤ 9223372036854775807) (hF : Fine l b w) : FC Try.prog gl 37 [sl iC .no l, .val (.int .i64 b), .val (.int .i64 w)] [] (.tup [.agg [sl iC .no (sumsL l b l.length), .val (.int .i64 b), .val (.int .i64 w)], .val (nI 0)]) [] := by
 replace hcx := hcx.reN (M := 55)
 refine FC.ofA (cx := cxP gl 55 pu) (rs := [.cell 6 67, .tmp 7]) rfl Try.func37 rfl rfl rfl (by simp only [List.length_cons, List.length_nil]; decide) (by simp only [go_sem]) ?_
 simp only [ini, go_sem]
 have hl1 := hl.1
 have hF1 := hF.1
 have hF2 := hF.2.1
 have hF3 := hF.2.2.1
 have b1 := proI_iff.2 hF2
 have b2 := proI_iff.2 hF3
 have hF0 : (256 < l.length) = False := eq_false (by omega)
 refine Tr.seqK fun K1 hK1 => ?_
 refine Tr.rg hcx [] _ [none] rfl rfl rfl ?_
 simp -implicitDefEqProofs (maxSteps := 2000000) (disch := first | omega | (simp only [go_sem, List.length_append, List.length_drop, List.length_take, sumsL_len] <;> omega) | decide) only [go_sem, ↓reduceIte, Nat.reduceEqDiff, reduceCtorEq, Nat.reduceLT, Nat.reduceBEq, Nat.reduceAdd, Nat.reduceSub, Nat.reduceMul, Nat.reduceMod, h53, Bool.not_true, Bool.not_false]
 refine hK1 _ ?_
 clear hK1 K1
 refine Tr.kp [0, 1, 2, 6] ?_
 simp only [pk_cons, pk_nil, ↓A_cons, ↓reduceIte, Nat.reduceEqDiff]
 refine Tr.seqK fun K2 hK2 => ?_
 refine Tr.seqK fun K3 hK3 => ?_
 refine Tr.rg hcx [] _ [] rfl rfl rfl ?_
 simp -implicitDefEqProofs (maxSteps := 2000000) (disch := first | omega | (simp only [go_sem, List.length_append, List.length_drop, List.length_take, sumsL_len] <;> omega) | decide) only [go_sem, ↓reduceIte, Nat.reduceEqDiff, reduceCtorEq, Nat.reduceLT, Nat.reduceBEq, Nat.reduceAdd, Nat.reduceSub, Nat.reduceMul, Nat.reduceMod, h53, Bool.not_true, Bool.not_false, hF0]
 refine hK3 _ ?_
 clear hK3 K3
 refine Tr.kp [0, 1, 2, 6, 13] ?_
 simp only [pk_cons, pk_nil, ↓A_cons, ↓reduceIte, Nat.reduceEqDiff]
 refine Tr.condG fun KT KF hT hF => ?_
 simp only [ev_tmp, ev_const, ↓A_cons, ↓reduceIte, Nat.reduceEqDiff, reduceCtorEq, condG_bool, GB_true, GB_false, decide_eq_true_eq]
 refine hF ?_
 clear hT hF KT KF
 refine Tr.skip ?_
 refine hK2 _ ?_
 clear hK2 K2
 refine Tr.kp [0, 1, 2, 6] ?_
 simp only [pk_cons, pk_nil, ↓A_cons, ↓reduceIte, Nat.reduceEqDiff]
 refine Tr.seqK fun K4 hK4 => ?_
 refine Tr.rg hcx [] _ [none] rfl rfl rfl ?_
 simp -implicitDefEqProofs (maxSteps := 2000000) (disch := first | omega | (simp only [go_sem, List.length_append, List.length_drop, List.length_take, sumsL_len] <;> omega) | decide) only [go_sem, ↓reduceIte, Nat.reduceEqDiff, reduceCtorEq, Nat.reduceLT, Nat.reduceBEq, Nat.reduceAdd, Nat.reduceSub, Nat.reduceMul, Nat.reduceMod, h53, Bool.not_true, Bool.not_false]
 refine hK4 _ ?_
 clear hK4 K4
 refine Tr.kp [0, 1, 2, 6, 8] ?_
 simp only [pk_cons, pk_nil, ↓A_cons, ↓reduceIte, Nat.reduceEqDiff]
 refine Tr.seqK fun K5 hK5 => ?_
 refine Tr.seqK fun K6 hK6 => ?_
 refine Tr.bxr iC 1 0 (.own 1) [((0 : Nat) : Int)] [sl iC .full [((0 : Nat) : Int)], .val (.int .i64 b), .val (.int .i64 w)] (by simp only [go_sem]) rfl ?_
 simp only [List.set_cons_succ, List.set_cons_zero]
 refine Tr.rg hcx [] [some 19, some 20, some 21, some 22, some 23, some 24, some 25, some 26] [] rfl rfl rfl ?_
 simp -implicitDefEqProofs (maxSteps := 2000000) (disch := first | omega | (simp only [go_sem, List.length_append, List.length_drop, List.length_take, sumsL_len] <;> omega) | decide) only [go_sem, ↓reduceIte, Nat.reduceEqDiff, reduceCtorEq, Nat.reduceLT, Nat.reduceBEq, Nat.reduceAdd, Nat.reduceSub, Nat.reduceMul, Nat.reduceMod, h53, Bool.not_true, Bool.not_false, b1, b2]
 refine hK6 _ ?_
 clear hK6 K6
 refine Tr.kp [0, 1, 6, 8, 26] ?_
 simp only [pk_cons, pk_nil, ↓A_cons, ↓reduceIte, Nat.reduceEqDiff]
 refine Tr.condG fun KT KF hT hF => ?_
 simp only [ev_tmp, ev_const, ↓A_cons, ↓reduceIte, Nat.reduceEqDiff, reduceCtorEq, condG_bool, GB_true, GB_false, decide_eq_true_eq]
 refine hF ?_
 clear hT hF KT KF
 refine Tr.skip ?_
 refine hK5 _ ?_
 clear hK5 K5
 refine Tr.kp [0, 1, 6, 8] ?_
 simp only [pk_cons, pk_nil, ↓A_cons, ↓reduceIte, Nat.reduceEqDiff]
 refine Tr.seqK fun K7 hK7 => ?_
 refine Tr.seqK fun K8 hK8 => ?_
 refine Tr.rg hcx [] _ [] rfl rfl rfl ?_
 simp -implicitDefEqProofs (maxSteps := 2000000) (disch := first | omega | (simp only [go_sem, List.length_append, List.length_drop, List.length_take, sumsL_len] <;> omega) | decide) only [go_sem, ↓reduceIte, Nat.reduceEqDiff, reduceCtorEq, Nat.reduceLT, Nat.reduceBEq, Nat.reduceAdd, Nat.reduceSub, Nat.reduceMul, Nat.reduceMod, h53, Bool.not_true, Bool.not_false]
 refine hK8 _ ?_
 clear hK8 K8
 refine Tr.kp [1, 6, 8, 28, 29, 30] ?_
 simp only [pk_cons, pk_nil, ↓A_cons, ↓reduceIte, Nat.reduceEqDiff]
 refine Tr.blk ?_
 refine Tr.loopI (α := Nat) (fun a => [(1, ?v1_24), (6, ?v6_24), (8, ?v8_24), (28, ?v28_24), (29, ?v29_24), (30, .val (nI a))]) (fun a => [some [.val (.slice none 0 0), .val (nI 0), .val (nI 0)], some [sl iC (.own 1) (sumsL l b a), .val (.int .i64 b), .val (.int .i64 w)]]) (fun a => a ≤ l.length ∧ ∀ j, j < a → proI (gt l j) = true) (fun a => l.length - a) (0) ⟨Nat.zero_le _, fun j hj => absurd hj (Nat.not_lt_zero j)⟩ ?le_24 ?hh_24 ?bd_24
 case hh_24 => exact rfl
 case le_24 => (simp only [Le_nil, Le_cons, ↓A_cons, ↓reduceIte, Nat.reduceEqDiff, reduceCtorEq, CLe_refl, CLe_top, CLe_full, CLe_nil, CLe_own, and_true, true_and]; all_goals (repeat' first | exact CLe.refl _ | exact True.intro | (refine CLe_sln ?_; first | with_reducible rfl | (simp only [List.take_zero]; done) | (rfl; done)) | exact CLe_nI (by omega) | exact CLe_int (by omega) | exact CLe_inI (by omega) | exact CLe_nIi (by omega) | with_reducible apply And.intro))
 case bd_24 =>
  rintro i ⟨hi, hA⟩
  refine Tr.seqK fun K9 hK9 => ?_
  refine Tr.rg hcx [] _ [] rfl rfl rfl ?_
  simp -implicitDefEqProofs (maxSteps := 2000000) (disch := first | omega | (simp only [go_sem, List.length_append, List.length_drop, List.length_take, sumsL_len] <;> omega) | decide) only [go_sem, ↓reduceIte, Nat.reduceEqDiff, reduceCtorEq, Nat.reduceLT, Nat.reduceBEq, Nat.reduceAdd, Nat.reduceSub, Nat.reduceMul, Nat.reduceMod, h53, Bool.not_true, Bool.not_false]
  refine hK9 _ ?_
  clear hK9 K9
  refine Tr.kp [1, 6, 8, 28, 29, 30, 31] ?_
  simp only [pk_cons, pk_nil, ↓A_cons, ↓reduceIte, Nat.reduceEqDiff]
  refine Tr.seqK fun K10 hK10 => ?_
  refine Tr.condG fun KT KF hT hF => ?_
  simp only [ev_tmp, ev_const, ↓A_cons, ↓reduceIte, Nat.reduceEqDiff, reduceCtorEq, condG_bool, GB_true, GB_false, decide_eq_true_eq]
  refine GB.dec (fun hc31 => hT ?_) (fun hc31 => hF ?_)
  ·
   clear hT hF KT KF
   have hb0 := hl.2 i hc31
   have hbb := proI_iff.1 b1
   have hsp := sumI_p (l := l) hbb i (fun j hj => proI_iff.1 (hA j hj))
   have hsg := sumsL_gt l b i i (Nat.le_refl _)
   have b3 := proI_iff.2 (hF.2.2.2 i hc31)
   have hgg := hF.2.2.2 i hc31
   refine Tr.skip ?_
   refine hK10 _ ?_
   clear hK10 K10
   refine Tr.kp [1, 6, 8, 28, 29, 30] ?_
   simp only [pk_cons, pk_nil, ↓A_cons, ↓reduceIte, Nat.reduceEqDiff]
   refine Tr.seqK fun K11 hK11 => ?_
   refine Tr.blk ?_
   refine Tr.seqK fun K12 hK12 => ?_
   refine Tr.rg hcx [1000032, 1000034] _ [] rfl rfl rfl ?_
   simp -implicitDefEqProofs (maxSteps := 2000000) (disch := first | omega | (simp only [go_sem, List.length_append, List.length_drop, List.length_take, sumsL_len] <;> omega) | decide) only [go_sem, ↓reduceIte, Nat.reduceEqDiff, reduceCtorEq, Nat.reduceLT, Nat.reduceBEq, Nat.reduceAdd, Nat.reduceSub, Nat.reduceMul, Nat.reduceMod, h53, Bool.not_true, Bool.not_false]
   refine hK12 _ ?_
   clear hK12 K12
   refine Tr.kp [1, 6, 8, 9, 10, 28, 29, 30] ?_
   simp only [pk_cons, pk_nil, ↓A_cons, ↓reduceIte, Nat.reduceEqDiff]
   refine Tr.seqK fun K13 hK13 => ?_
   refine Tr.seqK fun K14 hK14 => ?_
   refine Tr.rg hcx [] _ [] rfl rfl rfl ?_
   simp -implicitDefEqProofs (maxSteps := 2000000) (disch := first | omega | (simp only [go_sem, List.length_append, List.length_drop, List.length_take, sumsL_len] <;> omega) | decide) only [go_sem, ↓reduceIte, Nat.reduceEqDiff, reduceCtorEq, Nat.reduceLT, Nat.reduceBEq, Nat.reduceAdd, Nat.reduceSub, Nat.reduceMul, Nat.reduceMod, h53, Bool.not_true, Bool.not_false, b3]
   refine hK14 _ ?_
   clear hK14 K14
   refine Tr.kp [1, 6, 8, 9, 10, 28, 29, 30, 37] ?_
   simp only [pk_cons, pk_nil, ↓A_cons, ↓reduceIte, Nat.reduceEqDiff]
   refine Tr.condG fun KT KF hT hF => ?_
   simp only [ev_tmp, ev_const, ↓A_cons, ↓reduceIte, Nat.reduceEqDiff, reduceCtorEq, condG_bool, GB_true, GB_false, decide_eq_true_eq]
   refine hF ?_
   clear hT hF KT KF
   refine Tr.skip ?_
   refine hK13 _ ?_
   clear hK13 K13
   refine Tr.kp [1, 6, 8, 9, 10, 28, 29, 30] ?_
   simp only [pk_cons, pk_nil, ↓A_cons, ↓reduceIte, Nat.reduceEqDiff]
   refine Tr.rgD hcx hMO [40] _ [] rfl rfl rfl rfl ?_
   simp -implicitDefEqProofs (maxSteps := 2000000) (disch := first | omega | (simp only [go_sem, List.length_append, List.length_drop, List.length_take, sumsL_len] <;> omega) | decide) only [go_sem, ↓reduceIte, Nat.reduceEqDiff, reduceCtorEq, Nat.reduceLT, Nat.reduceBEq, Nat.reduceAdd, Nat.reduceSub, Nat.reduceMul, Nat.reduceMod, h53, Bool.not_true, Bool.not_false, hsg]
   with_reducible refine And.intro ?_ ?_
   · exact rfl
   refine hK11 _ ?_
   clear hK11 K11
   refine Tr.kp [1, 6, 8, 28, 29, 30] ?_
   simp only [pk_cons, pk_nil, ↓A_cons, ↓reduceIte, Nat.reduceEqDiff]
   refine Tr.rg hcx [] _ [] rfl rfl rfl ?_
   simp -implicitDefEqProofs (maxSteps := 2000000) (disch := first | omega | (simp only [go_sem, List.length_append, List.length_drop, List.length_take, sumsL_len] <;> omega) | decide) only [go_sem, ↓reduceIte, Nat.reduceEqDiff, reduceCtorEq, Nat.reduceLT, Nat.reduceBEq, Nat.reduceAdd, Nat.reduceSub, Nat.reduceMul, Nat.reduceMod, h53, Bool.not_true, Bool.not_false]
   refine ⟨i + 1, ⟨⟨by omega, fun j hj => (Nat.lt_or_eq_of_le (Nat.le_of_lt_succ hj)).elim (hA j) (fun e => e ▸ b3)⟩, by first | omega | (simp only []; omega)⟩, ?_, by dsimp only; rw [sumsL_S]; rfl⟩
   (simp only [Le_nil, Le_cons, ↓A_cons, ↓reduceIte, Nat.reduceEqDiff, reduceCtorEq, CLe_refl, CLe_top, CLe_full, CLe_nil, CLe_own, and_true, true_and]; all_goals (repeat' first | exact CLe.refl _ | exact True.intro | (refine CLe_sln ?_; first | with_reducible rfl | (simp only [List.take_zero]; done) | (rfl; done)) | exact CLe_nI (by omega) | exact CLe_int (by omega) | exact CLe_inI (by omega) | exact CLe_nIi (by omega) | with_reducible apply And.intro))
  ·
   clear hT hF KT KF
   obtain rfl : i = l.length := by omega
   refine Tr.exit ?_
   refine hK7 _ ?_
   clear hK10 K10 hK7 K7
   refine Tr.kp [6, 8] ?_
   simp only [pk_cons, pk_nil, ↓A_cons, ↓reduceIte, Nat.reduceEqDiff]
   refine Tr.seqK fun K15 hK15 => ?_
   refine Tr.rg hcx [] _ [] rfl rfl rfl ?_
   simp -implicitDefEqProofs (maxSteps := 2000000) (disch := first | omega | (simp only [go_sem, List.length_append, List.length_drop, List.length_take, sumsL_len] <;> omega) | decide) only [go_sem, ↓reduceIte, Nat.reduceEqDiff, reduceCtorEq, Nat.reduceLT, Nat.reduceBEq, Nat.reduceAdd, Nat.reduceSub, Nat.reduceMul, Nat.reduceMod, h53, Bool.not_true, Bool.not_false]
   refine hK15 _ ?_
   clear hK15 K15
   refine Tr.kp [6, 7] ?_
   simp only [pk_cons, pk_nil, ↓A_cons, ↓reduceIte, Nat.reduceEqDiff]
   refine Tr.ret ?_
   simp -implicitDefEqProofs (disch := first | omega | (simp only [go_sem, List.length_append, List.length_drop, List.length_take, sumsL_len] <;> omega) | decide) only [go_sem, ↓reduceIte, Nat.reduceEqDiff, reduceCtorEq]
   all_goals (rfl)
set_option maxRecDepth 100000 in
set_option maxHeartbeats 8000000 in
theorem fc37e {gl : Nat → C} {M : Nat} {pu : Nat → List C → Option C}  (hcx : CxOK (cxP gl M pu)) (h53 : ∀ n : Int, -9223372036854775808 ≤ n ∧ n ≤ 9223372036854775807 → pu 53 [.val (.int .i64 n)] = some (.val (.bool (proI n)))) (l : List Int) (b w : Int) (hl : LI l) (hb : -9223372036854775808 ≤ b ∧ b ≤ 9223372036854775807) (hw : -9223372036854775808 ≤ w ∧ w ≤ 9223372036854775807) (hE : errE l b w ≠ 0) : FC Try.prog gl 37 [sl iC .no l, .val (.int .i64 b), .val (.int .i64 w)] [] (.tup [.agg [.val (.slice none 0 0), .val (nI 0), .val (nI 0)], .val (nI (errE l b w))]) [] := by
 replace hcx := hcx.reN (M := 55)
 refine FC.ofA (cx := cxP gl 55 pu) (rs := [.cell 6 67, .tmp 7]) rfl Try.func37 rfl rfl rfl (by simp only [List.length_cons, List.length_nil]; decide) (by simp only [go_sem]) ?_
 simp only [ini, go_sem]
 have hl1 := hl.1
 refine Tr.seqK fun K1 hK1 => ?_
 refine Tr.rg hcx [] _ [none] rfl rfl rfl ?_
 simp -implicitDefEqProofs (maxSteps := 2000000) (disch := first | omega | (simp only [go_sem, List.length_append, List.length_drop, List.length_take, sumsL_len] <;> omega) | decide) only [go_sem, ↓reduceIte, Nat.reduceEqDiff, reduceCtorEq, Nat.reduceLT, Nat.reduceBEq, Nat.reduceAdd, Nat.reduceSub, Nat.reduceMul, Nat.reduceMod, h53, Bool.not_true, Bool.not_false]
 refine hK1 _ ?_
 clear hK1 K1
 refine Tr.kp [0, 1, 2, 6] ?_
 simp only [pk_cons, pk_nil, ↓A_cons, ↓reduceIte, Nat.reduceEqDiff]
 refine Tr.seqK fun K2 hK2 => ?_
 refine Tr.seqK fun K3 hK3 => ?_
 refine Tr.rg hcx [] _ [] rfl rfl rfl ?_
 simp -implicitDefEqProofs (maxSteps := 2000000) (disch := first | omega | (simp only [go_sem, List.length_append, List.length_drop, List.length_take, sumsL_len] <;> omega) | decide) only [go_sem, ↓reduceIte, Nat.reduceEqDiff, reduceCtorEq, Nat.reduceLT, Nat.reduceBEq, Nat.reduceAdd, Nat.reduceSub, Nat.reduceMul, Nat.reduceMod, h53, Bool.not_true, Bool.not_false]
 refine hK3 _ ?_
 clear hK3 K3
 refine Tr.kp [0, 1, 2, 6, 13] ?_
 simp only [pk_cons, pk_nil, ↓A_cons, ↓reduceIte, Nat.reduceEqDiff]
 refine Tr.condG fun KT KF hT hF => ?_
 simp only [ev_tmp, ev_const, ↓A_cons, ↓reduceIte, Nat.reduceEqDiff, reduceCtorEq, condG_bool, GB_true, GB_false, decide_eq_true_eq]
 refine GB.dec (fun hc13 => hT ?_) (fun hc13 => hF ?_)
 ·
  clear hT hF KT KF
  refine Tr.seqK fun K4 hK4 => ?_
  refine Tr.rg hcx [] _ [] rfl rfl rfl ?_
  simp -implicitDefEqProofs (maxSteps := 2000000) (disch := first | omega | (simp only [go_sem, List.length_append, List.length_drop, List.length_take, sumsL_len] <;> omega) | decide) only [go_sem, ↓reduceIte, Nat.reduceEqDiff, reduceCtorEq, Nat.reduceLT, Nat.reduceBEq, Nat.reduceAdd, Nat.reduceSub, Nat.reduceMul, Nat.reduceMod, h53, Bool.not_true, Bool.not_false]
  refine hK4 _ ?_
  clear hK4 K4
  refine Tr.kp [6, 7] ?_
  simp only [pk_cons, pk_nil, ↓A_cons, ↓reduceIte, Nat.reduceEqDiff]
  refine Tr.ret ?_
  simp -implicitDefEqProofs (disch := first | omega | (simp only [go_sem, List.length_append, List.length_drop, List.length_take, sumsL_len] <;> omega) | decide) only [go_sem, ↓reduceIte, Nat.reduceEqDiff, reduceCtorEq]
  all_goals (first | exact congrArg (fun z => some (C.tup [.agg [.val (.slice none 0 0), .val (nI 0), .val (nI 0)], .val (nI z)])) (err_4 hc13).symm | (refine congrArg (fun z => some (C.tup [.agg [.val (.slice none 0 0), .val (nI 0), .val (nI 0)], .val (nI z)])) (err_1 hc13 ?_).symm; first | (refine err_b ?_; simp [b1]; done) | (refine err_w ?_; simp [b2]; done) | (refine err_l hc31 ?_; simp [b3]; done)) | exact absurd (errE_0.2 ⟨by omega, proI_iff.1 b1, proI_iff.1 b2, fun j hj => proI_iff.1 (hA j hj)⟩) hE)
 ·
  clear hT hF KT KF
  refine Tr.skip ?_
  refine hK2 _ ?_
  clear hK2 K2
  refine Tr.kp [0, 1, 2, 6] ?_
  simp only [pk_cons, pk_nil, ↓A_cons, ↓reduceIte, Nat.reduceEqDiff]
  refine Tr.seqK fun K5 hK5 => ?_
  refine Tr.rg hcx [] _ [none] rfl rfl rfl ?_
  simp -implicitDefEqProofs (maxSteps := 2000000) (disch := first | omega | (simp only [go_sem, List.length_append, List.length_drop, List.length_take, sumsL_len] <;> omega) | decide) only [go_sem, ↓reduceIte, Nat.reduceEqDiff, reduceCtorEq, Nat.reduceLT, Nat.reduceBEq, Nat.reduceAdd, Nat.reduceSub, Nat.reduceMul, Nat.reduceMod, h53, Bool.not_true, Bool.not_false]
  refine hK5 _ ?_
  clear hK5 K5
  refine Tr.kp [0, 1, 2, 6, 8] ?_
  simp only [pk_cons, pk_nil, ↓A_cons, ↓reduceIte, Nat.reduceEqDiff]
  refine Tr.seqK fun K6 hK6 => ?_
  refine Tr.seqK fun K7 hK7 => ?_
  by_cases b1 : proI b = true
  ·
   skip
   by_cases b2 : proI w = true
   ·
    skip
    refine Tr.bxr iC 1 0 (.own 1) [((0 : Nat) : Int)] [sl iC .full [((0 : Nat) : Int)], .val (.int .i64 b), .val (.int .i64 w)] (by simp only [go_sem]) rfl ?_
    simp only [List.set_cons_succ, List.set_cons_zero]
    refine Tr.rg hcx [] [some 19, some 20, some 21, some 22, some 23, some 24, some 25, some 26] [] rfl rfl rfl ?_
    simp -implicitDefEqProofs (maxSteps := 2000000) (disch := first | omega | (simp only [go_sem, List.length_append, List.length_drop, List.length_take, sumsL_len] <;> omega) | decide) only [go_sem, ↓reduceIte, Nat.reduceEqDiff, reduceCtorEq, Nat.reduceLT, Nat.reduceBEq, Nat.reduceAdd, Nat.reduceSub, Nat.reduceMul, Nat.reduceMod, h53, Bool.not_true, Bool.not_false, b1, b2]
    refine hK7 _ ?_
    clear hK7 K7
    refine Tr.kp [0, 1, 6, 8, 26] ?_
    simp only [pk_cons, pk_nil, ↓A_cons, ↓reduceIte, Nat.reduceEqDiff]
    refine Tr.condG fun KT KF hT hF => ?_
    simp only [ev_tmp, ev_const, ↓A_cons, ↓reduceIte, Nat.reduceEqDiff, reduceCtorEq, condG_bool, GB_true, GB_false, decide_eq_true_eq]
    refine hF ?_
    clear hT hF KT KF
    refine Tr.skip ?_
    refine hK6 _ ?_
    clear hK6 K6
    refine Tr.kp [0, 1, 6, 8] ?_
    simp only [pk_cons, pk_nil, ↓A_cons, ↓reduceIte, Nat.reduceEqDiff]
    refine Tr.seqK fun K8 hK8 => ?_
    refine Tr.seqK fun K9 hK9 => ?_
    refine Tr.rg hcx [] _ [] rfl rfl rfl ?_
    simp -implicitDefEqProofs (maxSteps := 2000000) (disch := first | omega | (simp only [go_sem, List.length_append, List.length_drop, List.length_take, sumsL_len] <;> omega) | decide) only [go_sem, ↓reduceIte, Nat.reduceEqDiff, reduceCtorEq, Nat.reduceLT, Nat.reduceBEq, Nat.reduceAdd, Nat.reduceSub, Nat.reduceMul, Nat.reduceMod, h53, Bool.not_true, Bool.not_false, b1, b2]
    refine hK9 _ ?_
    clear hK9 K9
    refine Tr.kp [1, 6, 8, 28, 29, 30] ?_
    simp only [pk_cons, pk_nil, ↓A_cons, ↓reduceIte, Nat.reduceEqDiff]
    refine Tr.blk ?_
    refine Tr.loopI (α := Nat) (fun a => [(1, ?v1_72), (6, ?v6_72), (8, ?v8_72), (28, ?v28_72), (29, ?v29_72), (30, .val (nI a))]) (fun a => [some [.val (.slice none 0 0), .val (nI 0), .val (nI 0)], some [sl iC (.own 1) (sumsL l b a), .val (.int .i64 b), .val (.int .i64 w)]]) (fun a => a ≤ l.length ∧ ∀ j, j < a → proI (gt l j) = true) (fun a => l.length - a) (0) ⟨Nat.zero_le _, fun j hj => absurd hj (Nat.not_lt_zero j)⟩ ?le_72 ?hh_72 ?bd_72
    case hh_72 => exact rfl
    case le_72 => (simp only [Le_nil, Le_cons, ↓A_cons, ↓reduceIte, Nat.reduceEqDiff, reduceCtorEq, CLe_refl, CLe_top, CLe_full, CLe_nil, CLe_own, and_true, true_and]; all_goals (repeat' first | exact CLe.refl _ | exact True.intro | (refine CLe_sln ?_; first | with_reducible rfl | (simp only [List.take_zero]; done) | (rfl; done)) | exact CLe_nI (by omega) | exact CLe_int (by omega) | exact CLe_inI (by omega) | exact CLe_nIi (by omega) | with_reducible apply And.intro))
    case bd_72 =>
     rintro i ⟨hi, hA⟩
     refine Tr.seqK fun K10 hK10 => ?_
     refine Tr.rg hcx [] _ [] rfl rfl rfl ?_
     simp -implicitDefEqProofs (maxSteps := 2000000) (disch := first | omega | (simp only [go_sem, List.length_append, List.length_drop, List.length_take, sumsL_len] <;> omega) | decide) only [go_sem, ↓reduceIte, Nat.reduceEqDiff, reduceCtorEq, Nat.reduceLT, Nat.reduceBEq, Nat.reduceAdd, Nat.reduceSub, Nat.reduceMul, Nat.reduceMod, h53, Bool.not_true, Bool.not_false, b1, b2]
     refine hK10 _ ?_
     clear hK10 K10
     refine Tr.kp [1, 6, 8, 28, 29, 30, 31] ?_
     simp only [pk_cons, pk_nil, ↓A_cons, ↓reduceIte, Nat.reduceEqDiff]
     refine Tr.seqK fun K11 hK11 => ?_
     refine Tr.condG fun KT KF hT hF => ?_
     simp only [ev_tmp, ev_const, ↓A_cons, ↓reduceIte, Nat.reduceEqDiff, reduceCtorEq, condG_bool, GB_true, GB_false, decide_eq_true_eq]
     refine GB.dec (fun hc31 => hT ?_) (fun hc31 => hF ?_)
     ·
      clear hT hF KT KF
      have hb0 := hl.2 i hc31
      have hbb := proI_iff.1 b1
      have hsp := sumI_p (l := l) hbb i (fun j hj => proI_iff.1 (hA j hj))
      have hsg := sumsL_gt l b i i (Nat.le_refl _)
      refine Tr.skip ?_
      refine hK11 _ ?_
      clear hK11 K11
      refine Tr.kp [1, 6, 8, 28, 29, 30] ?_
      simp only [pk_cons, pk_nil, ↓A_cons, ↓reduceIte, Nat.reduceEqDiff]
      refine Tr.seqK fun K12 hK12 => ?_
      refine Tr.blk ?_
      refine Tr.seqK fun K13 hK13 => ?_
      refine Tr.rg hcx [1000032, 1000034] _ [] rfl rfl rfl ?_
      simp -implicitDefEqProofs (maxSteps := 2000000) (disch := first | omega | (simp only [go_sem, List.length_append, List.length_drop, List.length_take, sumsL_len] <;> omega) | decide) only [go_sem, ↓reduceIte, Nat.reduceEqDiff, reduceCtorEq, Nat.reduceLT, Nat.reduceBEq, Nat.reduceAdd, Nat.reduceSub, Nat.reduceMul, Nat.reduceMod, h53, Bool.not_true, Bool.not_false, b1, b2]
      refine hK13 _ ?_
      clear hK13 K13
      refine Tr.kp [1, 6, 8, 9, 10, 28, 29, 30] ?_
      simp only [pk_cons, pk_nil, ↓A_cons, ↓reduceIte, Nat.reduceEqDiff]
      refine Tr.seqK fun K14 hK14 => ?_
      refine Tr.seqK fun K15 hK15 => ?_
      by_cases b3 : proI (gt l i) = true
      ·
       have hgg := proI_iff.1 b3
       refine Tr.rg hcx [] _ [] rfl rfl rfl ?_
       simp -implicitDefEqProofs (maxSteps := 2000000) (disch := first | omega | (simp only [go_sem, List.length_append, List.length_drop, List.length_take, sumsL_len] <;> omega) | decide) only [go_sem, ↓reduceIte, Nat.reduceEqDiff, reduceCtorEq, Nat.reduceLT, Nat.reduceBEq, Nat.reduceAdd, Nat.reduceSub, Nat.reduceMul, Nat.reduceMod, h53, Bool.not_true, Bool.not_false, b1, b2, b3]
       refine hK15 _ ?_
       clear hK15 K15
       refine Tr.kp [1, 6, 8, 9, 10, 28, 29, 30, 37] ?_
       simp only [pk_cons, pk_nil, ↓A_cons, ↓reduceIte, Nat.reduceEqDiff]
       refine Tr.condG fun KT KF hT hF => ?_
       simp only [ev_tmp, ev_const, ↓A_cons, ↓reduceIte, Nat.reduceEqDiff, reduceCtorEq, condG_bool, GB_true, GB_false, decide_eq_true_eq]
       refine hF ?_
       clear hT hF KT KF
       refine Tr.skip ?_
       refine hK14 _ ?_
       clear hK14 K14
       refine Tr.kp [1, 6, 8, 9, 10, 28, 29, 30] ?_
       simp only [pk_cons, pk_nil, ↓A_cons, ↓reduceIte, Nat.reduceEqDiff]
       refine Tr.rgD hcx hMO [40] _ [] rfl rfl rfl rfl ?_
       simp -implicitDefEqProofs (maxSteps := 2000000) (disch := first | omega | (simp only [go_sem, List.length_append, List.length_drop, List.length_take, sumsL_len] <;> omega) | decide) only [go_sem, ↓reduceIte, Nat.reduceEqDiff, reduceCtorEq, Nat.reduceLT, Nat.reduceBEq, Nat.reduceAdd, Nat.reduceSub, Nat.reduceMul, Nat.reduceMod, h53, Bool.not_true, Bool.not_false, b1, b2, b3, hsg]
       with_reducible refine And.intro ?_ ?_
       · exact rfl
       refine hK12 _ ?_
       clear hK12 K12
       refine Tr.kp [1, 6, 8, 28, 29, 30] ?_
       simp only [pk_cons, pk_nil, ↓A_cons, ↓reduceIte, Nat.reduceEqDiff]
       refine Tr.rg hcx [] _ [] rfl rfl rfl ?_
       simp -implicitDefEqProofs (maxSteps := 2000000) (disch := first | omega | (simp only [go_sem, List.length_append, List.length_drop, List.length_take, sumsL_len] <;> omega) | decide) only [go_sem, ↓reduceIte, Nat.reduceEqDiff, reduceCtorEq, Nat.reduceLT, Nat.reduceBEq, Nat.reduceAdd, Nat.reduceSub, Nat.reduceMul, Nat.reduceMod, h53, Bool.not_true, Bool.not_false, b1, b2, b3]
       refine ⟨i + 1, ⟨⟨by omega, fun j hj => (Nat.lt_or_eq_of_le (Nat.le_of_lt_succ hj)).elim (hA j) (fun e => e ▸ b3)⟩, by first | omega | (simp only []; omega)⟩, ?_, by dsimp only; rw [sumsL_S]; rfl⟩
       (simp only [Le_nil, Le_cons, ↓A_cons, ↓reduceIte, Nat.reduceEqDiff, reduceCtorEq, CLe_refl, CLe_top, CLe_full, CLe_nil, CLe_own, and_true, true_and]; all_goals (repeat' first | exact CLe.refl _ | exact True.intro | (refine CLe_sln ?_; first | with_reducible rfl | (simp only [List.take_zero]; done) | (rfl; done)) | exact CLe_nI (by omega) | exact CLe_int (by omega) | exact CLe_inI (by omega) | exact CLe_nIi (by omega) | with_reducible apply And.intro))
      ·
       replace b3 : proI (gt l i) = false := by simpa using b3
       refine Tr.rg hcx [] _ [] rfl rfl rfl ?_
       simp -implicitDefEqProofs (maxSteps := 2000000) (disch := first | omega | (simp only [go_sem, List.length_append, List.length_drop, List.length_take, sumsL_len] <;> omega) | decide) only [go_sem, ↓reduceIte, Nat.reduceEqDiff, reduceCtorEq, Nat.reduceLT, Nat.reduceBEq, Nat.reduceAdd, Nat.reduceSub, Nat.reduceMul, Nat.reduceMod, h53, Bool.not_true, Bool.not_false, b1, b2, b3]
       refine hK15 _ ?_
       clear hK15 K15
       refine Tr.kp [1, 6, 8, 9, 10, 28, 29, 30, 37] ?_
       simp only [pk_cons, pk_nil, ↓A_cons, ↓reduceIte, Nat.reduceEqDiff]
       refine Tr.condG fun KT KF hT hF => ?_
       simp only [ev_tmp, ev_const, ↓A_cons, ↓reduceIte, Nat.reduceEqDiff, reduceCtorEq, condG_bool, GB_true, GB_false, decide_eq_true_eq]
       refine hT ?_
       clear hT hF KT KF
       refine Tr.seqK fun K16 hK16 => ?_
       refine Tr.rg hcx [] _ [] rfl rfl rfl ?_
       simp -implicitDefEqProofs (maxSteps := 2000000) (disch := first | omega | (simp only [go_sem, List.length_append, List.length_drop, List.length_take, sumsL_len] <;> omega) | decide) only [go_sem, ↓reduceIte, Nat.reduceEqDiff, reduceCtorEq, Nat.reduceLT, Nat.reduceBEq, Nat.reduceAdd, Nat.reduceSub, Nat.reduceMul, Nat.reduceMod, h53, Bool.not_true, Bool.not_false, b1, b2, b3]
       refine hK16 _ ?_
       clear hK16 K16
       refine Tr.kp [6, 7] ?_
       simp only [pk_cons, pk_nil, ↓A_cons, ↓reduceIte, Nat.reduceEqDiff]
       refine Tr.ret ?_
       simp -implicitDefEqProofs (disch := first | omega | (simp only [go_sem, List.length_append, List.length_drop, List.length_take, sumsL_len] <;> omega) | decide) only [go_sem, ↓reduceIte, Nat.reduceEqDiff, reduceCtorEq]
       all_goals (first | exact congrArg (fun z => some (C.tup [.agg [.val (.slice none 0 0), .val (nI 0), .val (nI 0)], .val (nI z)])) (err_4 hc13).symm | (refine congrArg (fun z => some (C.tup [.agg [.val (.slice none 0 0), .val (nI 0), .val (nI 0)], .val (nI z)])) (err_1 hc13 ?_).symm; first | (refine err_b ?_; simp [b1]; done) | (refine err_w ?_; simp [b2]; done) | (refine err_l hc31 ?_; simp [b3]; done)) | exact absurd (errE_0.2 ⟨by omega, proI_iff.1 b1, proI_iff.1 b2, fun j hj => proI_iff.1 (hA j hj)⟩) hE)
     ·
      clear hT hF KT KF
      obtain rfl : i = l.length := by omega
      refine Tr.exit ?_
      refine hK8 _ ?_
      clear hK11 K11 hK8 K8
      refine Tr.kp [6, 8] ?_
      simp only [pk_cons, pk_nil, ↓A_cons, ↓reduceIte, Nat.reduceEqDiff]
      refine Tr.seqK fun K17 hK17 => ?_
      refine Tr.rg hcx [] _ [] rfl rfl rfl ?_
      simp -implicitDefEqProofs (maxSteps := 2000000) (disch := first | omega | (simp only [go_sem, List.length_append, List.length_drop, List.length_take, sumsL_len] <;> omega) | decide) only [go_sem, ↓reduceIte, Nat.reduceEqDiff, reduceCtorEq, Nat.reduceLT, Nat.reduceBEq, Nat.reduceAdd, Nat.reduceSub, Nat.reduceMul, Nat.reduceMod, h53, Bool.not_true, Bool.not_false, b1, b2]
      refine hK17 _ ?_
      clear hK17 K17
      refine Tr.kp [6, 7] ?_
      simp only [pk_cons, pk_nil, ↓A_cons, ↓reduceIte, Nat.reduceEqDiff]
      refine Tr.ret ?_
      simp -implicitDefEqProofs (disch := first | omega | (simp only [go_sem, List.length_append, List.length_drop, List.length_take, sumsL_len] <;> omega) | decide) only [go_sem, ↓reduceIte, Nat.reduceEqDiff, reduceCtorEq]
      all_goals (first | exact congrArg (fun z => some (C.tup [.agg [.val (.slice none 0 0), .val (nI 0), .val (nI 0)], .val (nI z)])) (err_4 hc13).symm | (refine congrArg (fun z => some (C.tup [.agg [.val (.slice none 0 0), .val (nI 0), .val (nI 0)], .val (nI z)])) (err_1 hc13 ?_).symm; first | (refine err_b ?_; simp [b1]; done) | (refine err_w ?_; simp [b2]; done) | (refine err_l hc31 ?_; simp [b3]; done)) | exact absurd (errE_0.2 ⟨by omega, proI_iff.1 b1, proI_iff.1 b2, fun j hj => proI_iff.1 (hA j hj)⟩) hE)
   ·
    replace b2 : proI w = false := by simpa using b2
    refine Tr.bxr iC 1 0 (.own 1) [((0 : Nat) : Int)] [sl iC .full [((0 : Nat) : Int)], .val (.int .i64 b), .val (.int .i64 w)] (by simp only [go_sem]) rfl ?_
    simp only [List.set_cons_succ, List.set_cons_zero]
    refine Tr.rg hcx [] [some 19, some 20, some 21, some 22, some 23, some 24, some 25, some 26] [] rfl rfl rfl ?_
    simp -implicitDefEqProofs (maxSteps := 2000000) (disch := first | omega | (simp only [go_sem, List.length_append, List.length_drop, List.length_take, sumsL_len] <;> omega) | decide) only [go_sem, ↓reduceIte, Nat.reduceEqDiff, reduceCtorEq, Nat.reduceLT, Nat.reduceBEq, Nat.reduceAdd, Nat.reduceSub, Nat.reduceMul, Nat.reduceMod, h53, Bool.not_true, Bool.not_false, b1, b2]
    refine hK7 _ ?_
    clear hK7 K7
    refine Tr.kp [0, 1, 6, 8, 26] ?_
    simp only [pk_cons, pk_nil, ↓A_cons, ↓reduceIte, Nat.reduceEqDiff]
    refine Tr.condG fun KT KF hT hF => ?_
    simp only [ev_tmp, ev_const, ↓A_cons, ↓reduceIte, Nat.reduceEqDiff, reduceCtorEq, condG_bool, GB_true, GB_false, decide_eq_true_eq]
    refine hT ?_
    clear hT hF KT KF
    refine Tr.seqK fun K18 hK18 => ?_
    refine Tr.rg hcx [] _ [] rfl rfl rfl ?_
    simp -implicitDefEqProofs (maxSteps := 2000000) (disch := first | omega | (simp only [go_sem, List.length_append, List.length_drop, List.length_take, sumsL_len] <;> omega) | decide) only [go_sem, ↓reduceIte, Nat.reduceEqDiff, reduceCtorEq, Nat.reduceLT, Nat.reduceBEq, Nat.reduceAdd, Nat.reduceSub, Nat.reduceMul, Nat.reduceMod, h53, Bool.not_true, Bool.not_false, b1, b2]
    refine hK18 _ ?_
    clear hK18 K18
    refine Tr.kp [6, 7] ?_
    simp only [pk_cons, pk_nil, ↓A_cons, ↓reduceIte, Nat.reduceEqDiff]
    refine Tr.ret ?_
    simp -implicitDefEqProofs (disch := first | omega | (simp only [go_sem, List.length_append, List.length_drop, List.length_take, sumsL_len] <;> omega) | decide) only [go_sem, ↓reduceIte, Nat.reduceEqDiff, reduceCtorEq]
    all_goals (first | exact congrArg (fun z => some (C.tup [.agg [.val (.slice none 0 0), .val (nI 0), .val (nI 0)], .val (nI z)])) (err_4 hc13).symm | (refine congrArg (fun z => some (C.tup [.agg [.val (.slice none 0 0), .val (nI 0), .val (nI 0)], .val (nI z)])) (err_1 hc13 ?_).symm; first | (refine err_b ?_; simp [b1]; done) | (refine err_w ?_; simp [b2]; done) | (refine err_l hc31 ?_; simp [b3]; done)) | exact absurd (errE_0.2 ⟨by omega, proI_iff.1 b1, proI_iff.1 b2, fun j hj => proI_iff.1 (hA j hj)⟩) hE)
  ·
   replace b1 : proI b = false := by simpa using b1
   refine Tr.bxr iC 1 0 (.own 1) [((0 : Nat) : Int)] [sl iC .full [((0 : Nat) : Int)], .val (.int .i64 b), .val (.int .i64 w)] (by simp only [go_sem]) rfl ?_
   simp only [List.set_cons_succ, List.set_cons_zero]
   refine Tr.rg hcx [] [some 19, some 20, some 21, some 22, some 23, some 24, some 25, some 26] [] rfl rfl rfl ?_
   simp -implicitDefEqProofs (maxSteps := 2000000) (disch := first | omega | (simp only [go_sem, List.length_append, List.length_drop, List.length_take, sumsL_len] <;> omega) | decide) only [go_sem, ↓reduceIte, Nat.reduceEqDiff, reduceCtorEq, Nat.reduceLT, Nat.reduceBEq, Nat.reduceAdd, Nat.reduceSub, Nat.reduceMul, Nat.reduceMod, h53, Bool.not_true, Bool.not_false, b1]
   refine hK7 _ ?_
   clear hK7 K7
   refine Tr.kp [0, 1, 6, 8, 26] ?_
   simp only [pk_cons, pk_nil, ↓A_cons, ↓reduceIte, Nat.reduceEqDiff]
   refine Tr.condG fun KT KF hT hF => ?_
   simp only [ev_tmp, ev_const, ↓A_cons, ↓reduceIte, Nat.reduceEqDiff, reduceCtorEq, condG_bool, GB_true, GB_false, decide_eq_true_eq]
   refine hT ?_
   clear hT hF KT KF
   refine Tr.seqK fun K19 hK19 => ?_
   refine Tr.rg hcx [] _ [] rfl rfl rfl ?_
   simp -implicitDefEqProofs (maxSteps := 2000000) (disch := first | omega | (simp only [go_sem, List.length_append, List.length_drop, List.length_take, sumsL_len] <;> omega) | decide) only [go_sem, ↓reduceIte, Nat.reduceEqDiff, reduceCtorEq, Nat.reduceLT, Nat.reduceBEq, Nat.reduceAdd, Nat.reduceSub, Nat.reduceMul, Nat.reduceMod, h53, Bool.not_true, Bool.not_false, b1]
   refine hK19 _ ?_
   clear hK19 K19
   refine Tr.kp [6, 7] ?_
   simp only [pk_cons, pk_nil, ↓A_cons, ↓reduceIte, Nat.reduceEqDiff]
   refine Tr.ret ?_
   simp -implicitDefEqProofs (disch := first | omega | (simp only [go_sem, List.length_append, List.length_drop, List.length_take, sumsL_len] <;> omega) | decide) only [go_sem, ↓reduceIte, Nat.reduceEqDiff, reduceCtorEq]
   all_goals (first | exact congrArg (fun z => some (C.tup [.agg [.val (.slice none 0 0), .val (nI 0), .val (nI 0)], .val (nI z)])) (err_4 hc13).symm | (refine congrArg (fun z => some (C.tup [.agg [.val (.slice none 0 0), .val (nI 0), .val (nI 0)], .val (nI z)])) (err_1 hc13 ?_).symm; first | (refine err_b ?_; simp [b1]; done) | (refine err_w ?_; simp [b2]; done) | (refine err_l hc31 ?_; simp [b3]; done)) | exact absurd (errE_0.2 ⟨by omega, proI_iff.1 b1, proI_iff.1 b2, fun j hj => proI_iff.1 (hA j hj)⟩) hE)
end Go.Sx
namespace Go.Sx
def prevE (e : List Int) (i : Nat) : Int := if i = 0 then 0 else gt e (i - 1)
theorem prevE_S (e : List Int) (i : Nat) : prevE e (i + 1) = gt e i := by unfold prevE; rw [if_neg (by omega)]; rfl
def incB (e : List Int) : Bool := (List.range e.length).all fun i => decide (prevE e i < gt e i)
theorem incB_iff {e : List Int} : incB e = true ↔ ∀ i, i < e.length → prevE e i < gt e i := by simp [incB]
def wideB (l : List Int) (b w : Int) (e : List Int) : Bool := (List.range e.length).any fun k => decide (freR l b w (prevE e k) (gt e k) < 0)
theorem wideB_iff {l : List Int} {b w : Int} {e : List Int} : wideB l b w e = true ↔ ∃ i, i < e.length ∧ freR l b w (prevE e i) (gt e i) < 0 := by simp [wideB]
def sumC (l : List Int) (b w : Int) (e : List Int) : Nat → Int
  | 0 => 0
  | k + 1 => sumC l b w e k + priR l b w (prevE e k) (gt e k)
def costT (l : List Int) (b w : Int) (e : List Int) : Nat × Int × Nat :=
  if errE l b w ≠ 0 then (0, 0, errE l b w) else if incB e = true ∧ prevE e e.length = (l.length : Int) then (if wideB l b w e = true then (0, 0, 21) else (e.length, sumC l b w e e.length, 0)) else (0, 0, 5)
theorem costT_e {l : List Int} {b w : Int} {e : List Int} (h : ¬ errE l b w = 0) : costT l b w e = (0, 0, errE l b w) := if_pos h
theorem costT_5a {l : List Int} {b w : Int} {e : List Int} (h : errE l b w = 0) {i : Nat} (hi : i < e.length) (hx : gt e i ≤ prevE e i) : costT l b w e = (0, 0, 5) := by
  unfold costT
  rw [if_neg (by simp [h]), if_neg]
  rintro ⟨h1, _⟩
  have := incB_iff.1 h1 i hi
  omega
theorem costT_5b {l : List Int} {b w : Int} {e : List Int} (h : errE l b w = 0) (hx : ¬ prevE e e.length = (l.length : Int)) : costT l b w e = (0, 0, 5) := by
  unfold costT
  rw [if_neg (by simp [h]), if_neg]
  rintro ⟨_, h1⟩
  exact hx h1
theorem costT_21 {l : List Int} {b w : Int} {e : List Int} (h : errE l b w = 0) (h1 : ∀ i, i < e.length → prevE e i < gt e i) (h2 : prevE e e.length = (l.length : Int)) {i : Nat} (hi : i < e.length) (hx : freR l b w (prevE e i) (gt e i) < 0) : costT l b w e = (0, 0, 21) := by
  unfold costT
  rw [if_neg (by simp [h]), if_pos ⟨incB_iff.2 h1, h2⟩, if_pos (wideB_iff.2 ⟨i, hi, hx⟩)]
theorem costT_0 {l : List Int} {b w : Int} {e : List Int} (h : errE l b w = 0) (h1 : ∀ i, i < e.length → prevE e i < gt e i) (h2 : prevE e e.length = (l.length : Int)) (hx : ∀ i, i < e.length → 0 ≤ freR l b w (prevE e i) (gt e i)) : costT l b w e = (e.length, sumC l b w e e.length, 0) := by
  unfold costT
  rw [if_neg (by simp [h]), if_pos ⟨incB_iff.2 h1, h2⟩, if_neg]
  intro hw
  obtain ⟨i, hi, hh⟩ := wideB_iff.1 hw
  have := hx i hi
  omega
theorem inc_ge {e : List Int} : ∀ n, n ≤ e.length → (∀ i, i < n → prevE e i < gt e i) → (n : Int) ≤ prevE e n
  | 0, _, _ => Int.le_refl _
  | n + 1, hn, h => by
    have ih := inc_ge n (by omega) (fun i hi => h i (by omega))
    have := h n (by omega)
    rw [prevE_S]; omega
theorem inc_le {e : List Int} (h : ∀ i, i < e.length → prevE e i < gt e i) (i : Nat) (hi : i < e.length) : ∀ k, i < k → k ≤ e.length → gt e i ≤ prevE e k
  | k + 1, h1, h2 => by
    rcases Nat.lt_or_eq_of_le (Nat.le_of_lt_succ h1) with h3 | h3
    · have ih := inc_le h i hi k h3 (by omega)
      have := h k (by omega)
      rw [prevE_S]; omega
    · subst h3; rw [prevE_S]; exact Int.le_refl _
/-- Where the ends of a division lie. -/
theorem ends_in {l : List Int} {e : List Int} (h : ∀ i, i < e.length → prevE e i < gt e i) (h2 : prevE e e.length = (l.length : Int)) (i : Nat) (hi : i < e.length) : 0 ≤ prevE e i ∧ prevE e i < gt e i ∧ gt e i ≤ (l.length : Int) ∧ e.length ≤ l.length := by
  have h3 := inc_ge i (by omega) (fun j hj => h j (by omega))
  have h4 := h i hi
  have h5 := inc_le h i hi e.length hi (Nat.le_refl _)
  have h6 := inc_ge e.length (Nat.le_refl _) h
  omega
theorem priR_b {l : List Int} {b w i j : Int} (h : Fine l b w) (hi : 0 ≤ i) (hj : j ≤ l.length) : 0 ≤ priR l b w i j ∧ priR l b w i j ≤ 100000000000000 := by
  unfold priR
  split
  · omega
  · have := freR_b h hi hj
    exact sq_b ⟨this.1, Int.le_trans this.2 (by decide)⟩
theorem sumC_b {l : List Int} {b w : Int} {e : List Int} (hF : Fine l b w) (h : ∀ i, i < e.length → prevE e i < gt e i) (h2 : prevE e e.length = (l.length : Int)) : ∀ k, k ≤ e.length → 0 ≤ sumC l b w e k ∧ sumC l b w e k ≤ 100000000000000 * k
  | 0, _ => ⟨Int.le_refl _, Int.le_refl _⟩
  | k + 1, hk => by
    have ih := sumC_b hF h h2 k (by omega)
    obtain ⟨q1, q2, q3, q4⟩ := ends_in h h2 k (by omega)
    have := priR_b hF q1 q3
    unfold sumC; omega
end Go.Sx
