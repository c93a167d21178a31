/-
  Package token: parts. And what follows.
-/
import Derived.Test.YtmeplkkhnpcldaaPap
set_option linter.unusedSimpArgs false
set_option linter.unusedVariables false
namespace Go.Sx
open Go.RowKit Go.Proofs
theorem int_nI' (n : Nat) : Value.int .i64 (n : Int) = nI n := rfl
theorem part_bad {s : List UInt8} {f t : Int} (h : f < 0 ∨ t ≤ f ∨ ((toks s).length : Int) < t) : part s f t = [] := if_pos h
theorem part_ok {s : List UInt8} {f t : Nat} (h : ¬ (t ≤ f)) (h2 : ¬ ((toks s).length < t)) : part s f t = (s.drop (gt (toks s) f).a).take ((gt (toks s) (t - 1)).e - (gt (toks s) f).a) := by
  unfold part; rw [if_neg (by omega)]; rfl
set_option maxRecDepth 100000 in
set_option maxHeartbeats 8000000 in
theorem fc21 {gl : Nat → C} {M : Nat} {pu : Nat → List C → Option C}  (hcx : CxOK (cxP gl M pu)) (h15 : ∀ s : List UInt8, s.length ≤ 1000000 → pu 15 [.val (str s)] = some (sl tC .no (toks s))) (s : List UInt8) (f t : Int) (hs : s.length ≤ 1000000) (hf : -9223372036854775808 ≤ f ∧ f ≤ 9223372036854775807) (ht : -9223372036854775808 ≤ t ∧ t ≤ 9223372036854775807) : FC Try.prog gl 21 [.val (str s), .val (.int .i64 f), .val (.int .i64 t)] [] (.val (str (part s f t))) [] := by
 replace hcx := hcx.reN (M := 36)
 refine FC.ofA (cx := cxP gl 36 pu) (rs := [.tmp 6]) rfl Try.func21 rfl rfl rfl (by simp only [List.length_cons, List.length_nil]; decide) (by simp only [go_sem]) ?_
 simp only [ini, go_sem]
 have hT := toks_len s
 refine Tr.seqK fun K1 hK1 => ?_
 refine Tr.rg hcx [] _ [] rfl rfl rfl ?_
 simp -implicitDefEqProofs (maxSteps := 2000000) (disch := first | omega | (simp only [go_sem, List.length_append, List.length_drop, List.length_take] <;> omega) | decide) only [go_sem, ↓reduceIte, Nat.reduceEqDiff, reduceCtorEq, Nat.reduceLT, Nat.reduceBEq, Nat.reduceAdd, Nat.reduceSub, Nat.reduceMul, Nat.reduceMod, h15]
 refine hK1 _ ?_
 clear hK1 K1
 refine Tr.kp [0, 1, 2] ?_
 simp only [pk_cons, pk_nil, ↓A_cons, ↓reduceIte, Nat.reduceEqDiff]
 refine Tr.seqK fun K2 hK2 => ?_
 refine Tr.rg hcx [1000009] _ [] rfl rfl rfl ?_
 simp -implicitDefEqProofs (maxSteps := 2000000) (disch := first | omega | (simp only [go_sem, List.length_append, List.length_drop, List.length_take] <;> omega) | decide) only [go_sem, ↓reduceIte, Nat.reduceEqDiff, reduceCtorEq, Nat.reduceLT, Nat.reduceBEq, Nat.reduceAdd, Nat.reduceSub, Nat.reduceMul, Nat.reduceMod, h15]
 refine hK2 _ ?_
 clear hK2 K2
 refine Tr.kp [0, 1, 2, 7] ?_
 simp only [pk_cons, pk_nil, ↓A_cons, ↓reduceIte, Nat.reduceEqDiff]
 refine Tr.seqK fun K3 hK3 => ?_
 refine Tr.seqK fun K4 hK4 => ?_
 by_cases b1 : f < ((0 : Nat) : Int)
 ·
  refine Tr.rg hcx [] [some 10, some 11, some 12, some 13, some 14, some 15, some 16, some 17, some 18, some 19, some 20, some 21, some 22] [] rfl rfl rfl ?_
  simp -implicitDefEqProofs (maxSteps := 2000000) (disch := first | omega | (simp only [go_sem, List.length_append, List.length_drop, List.length_take] <;> omega) | decide) only [go_sem, ↓reduceIte, Nat.reduceEqDiff, reduceCtorEq, Nat.reduceLT, Nat.reduceBEq, Nat.reduceAdd, Nat.reduceSub, Nat.reduceMul, Nat.reduceMod, h15, b1]
  refine hK4 _ ?_
  clear hK4 K4
  refine Tr.kp [0, 1, 2, 7, 22] ?_
  simp only [pk_cons, pk_nil, ↓A_cons, ↓reduceIte, Nat.reduceEqDiff]
  refine Tr.condG fun KT KF hT hF => ?_
  simp only [ev_tmp, ev_const, ↓A_cons, ↓reduceIte, Nat.reduceEqDiff, reduceCtorEq, condG_bool, GB_true, GB_false, decide_eq_true_eq]
  refine hT ?_
  clear hT hF KT KF
  refine Tr.seqK fun K5 hK5 => ?_
  refine Tr.rg hcx [] _ [] rfl rfl rfl ?_
  simp -implicitDefEqProofs (maxSteps := 2000000) (disch := first | omega | (simp only [go_sem, List.length_append, List.length_drop, List.length_take] <;> omega) | decide) only [go_sem, ↓reduceIte, Nat.reduceEqDiff, reduceCtorEq, Nat.reduceLT, Nat.reduceBEq, Nat.reduceAdd, Nat.reduceSub, Nat.reduceMul, Nat.reduceMod, h15, b1]
  refine hK5 _ ?_
  clear hK5 K5
  refine Tr.kp [6] ?_
  simp only [pk_cons, pk_nil, ↓A_cons, ↓reduceIte, Nat.reduceEqDiff]
  refine Tr.ret ?_
  simp -implicitDefEqProofs (disch := first | omega | (simp only [go_sem, List.length_append, List.length_drop, List.length_take] <;> omega) | decide) only [go_sem, ↓reduceIte, Nat.reduceEqDiff, reduceCtorEq]
  all_goals (first | (rw [part_bad (s := s) (f := f) (t := t) (by omega)]) | (rw [part_ok (s := s) (f := f') (t := t') (by omega) (by omega)]))
 ·
  by_cases b2 : t ≤ f
  ·
   refine Tr.rg hcx [] [some 10, some 11, some 12, some 13, some 14, some 15, some 16, some 17, some 18, some 19, some 20, some 21, some 22] [] rfl rfl rfl ?_
   simp -implicitDefEqProofs (maxSteps := 2000000) (disch := first | omega | (simp only [go_sem, List.length_append, List.length_drop, List.length_take] <;> omega) | decide) only [go_sem, ↓reduceIte, Nat.reduceEqDiff, reduceCtorEq, Nat.reduceLT, Nat.reduceBEq, Nat.reduceAdd, Nat.reduceSub, Nat.reduceMul, Nat.reduceMod, h15, b1, b2]
   refine hK4 _ ?_
   clear hK4 K4
   refine Tr.kp [0, 1, 2, 7, 22] ?_
   simp only [pk_cons, pk_nil, ↓A_cons, ↓reduceIte, Nat.reduceEqDiff]
   refine Tr.condG fun KT KF hT hF => ?_
   simp only [ev_tmp, ev_const, ↓A_cons, ↓reduceIte, Nat.reduceEqDiff, reduceCtorEq, condG_bool, GB_true, GB_false, decide_eq_true_eq]
   refine hT ?_
   clear hT hF KT KF
   refine Tr.seqK fun K6 hK6 => ?_
   refine Tr.rg hcx [] _ [] rfl rfl rfl ?_
   simp -implicitDefEqProofs (maxSteps := 2000000) (disch := first | omega | (simp only [go_sem, List.length_append, List.length_drop, List.length_take] <;> omega) | decide) only [go_sem, ↓reduceIte, Nat.reduceEqDiff, reduceCtorEq, Nat.reduceLT, Nat.reduceBEq, Nat.reduceAdd, Nat.reduceSub, Nat.reduceMul, Nat.reduceMod, h15, b1, b2]
   refine hK6 _ ?_
   clear hK6 K6
   refine Tr.kp [6] ?_
   simp only [pk_cons, pk_nil, ↓A_cons, ↓reduceIte, Nat.reduceEqDiff]
   refine Tr.ret ?_
   simp -implicitDefEqProofs (disch := first | omega | (simp only [go_sem, List.length_append, List.length_drop, List.length_take] <;> omega) | decide) only [go_sem, ↓reduceIte, Nat.reduceEqDiff, reduceCtorEq]
   all_goals (first | (rw [part_bad (s := s) (f := f) (t := t) (by omega)]) | (rw [part_ok (s := s) (f := f') (t := t') (by omega) (by omega)]))
  ·
   by_cases b3 : (((toks s).length : Nat) : Int) < t
   ·
    refine Tr.rg hcx [] [some 10, some 11, some 12, some 13, some 14, some 15, some 16, some 17, some 18, some 19, some 20, some 21, some 22] [] rfl rfl rfl ?_
    simp -implicitDefEqProofs (maxSteps := 2000000) (disch := first | omega | (simp only [go_sem, List.length_append, List.length_drop, List.length_take] <;> omega) | decide) only [go_sem, ↓reduceIte, Nat.reduceEqDiff, reduceCtorEq, Nat.reduceLT, Nat.reduceBEq, Nat.reduceAdd, Nat.reduceSub, Nat.reduceMul, Nat.reduceMod, h15, b1, b2, b3]
    refine hK4 _ ?_
    clear hK4 K4
    refine Tr.kp [0, 1, 2, 7, 22] ?_
    simp only [pk_cons, pk_nil, ↓A_cons, ↓reduceIte, Nat.reduceEqDiff]
    refine Tr.condG fun KT KF hT hF => ?_
    simp only [ev_tmp, ev_const, ↓A_cons, ↓reduceIte, Nat.reduceEqDiff, reduceCtorEq, condG_bool, GB_true, GB_false, decide_eq_true_eq]
    refine hT ?_
    clear hT hF KT KF
    refine Tr.seqK fun K7 hK7 => ?_
    refine Tr.rg hcx [] _ [] rfl rfl rfl ?_
    simp -implicitDefEqProofs (maxSteps := 2000000) (disch := first | omega | (simp only [go_sem, List.length_append, List.length_drop, List.length_take] <;> omega) | decide) only [go_sem, ↓reduceIte, Nat.reduceEqDiff, reduceCtorEq, Nat.reduceLT, Nat.reduceBEq, Nat.reduceAdd, Nat.reduceSub, Nat.reduceMul, Nat.reduceMod, h15, b1, b2, b3]
    refine hK7 _ ?_
    clear hK7 K7
    refine Tr.kp [6] ?_
    simp only [pk_cons, pk_nil, ↓A_cons, ↓reduceIte, Nat.reduceEqDiff]
    refine Tr.ret ?_
    simp -implicitDefEqProofs (disch := first | omega | (simp only [go_sem, List.length_append, List.length_drop, List.length_take] <;> omega) | decide) only [go_sem, ↓reduceIte, Nat.reduceEqDiff, reduceCtorEq]
    all_goals (first | (rw [part_bad (s := s) (f := f) (t := t) (by omega)]) | (rw [part_ok (s := s) (f := f') (t := t') (by omega) (by omega)]))
   ·
    refine Tr.rg hcx [] [some 10, some 11, some 12, some 13, some 14, some 15, some 16, some 17, some 18, some 19, some 20, some 21, some 22] [] rfl rfl rfl ?_
    simp -implicitDefEqProofs (maxSteps := 2000000) (disch := first | omega | (simp only [go_sem, List.length_append, List.length_drop, List.length_take] <;> omega) | decide) only [go_sem, ↓reduceIte, Nat.reduceEqDiff, reduceCtorEq, Nat.reduceLT, Nat.reduceBEq, Nat.reduceAdd, Nat.reduceSub, Nat.reduceMul, Nat.reduceMod, h15, b1, b2, b3]
    refine hK4 _ ?_
    clear hK4 K4
    refine Tr.kp [0, 1, 2, 7, 22] ?_
    simp only [pk_cons, pk_nil, ↓A_cons, ↓reduceIte, Nat.reduceEqDiff]
    refine Tr.condG fun KT KF hT hF => ?_
    simp only [ev_tmp, ev_const, ↓A_cons, ↓reduceIte, Nat.reduceEqDiff, reduceCtorEq, condG_bool, GB_true, GB_false, decide_eq_true_eq]
    refine hF ?_
    clear hT hF KT KF
    refine Tr.skip ?_
    refine hK3 _ ?_
    clear hK3 K3
    refine Tr.kp [0, 1, 2, 7] ?_
    simp only [pk_cons, pk_nil, ↓A_cons, ↓reduceIte, Nat.reduceEqDiff]
    refine Tr.seqK fun K8 hK8 => ?_
    obtain ⟨f', rfl⟩ : ∃ f' : Nat, f = (f' : Int) := ⟨f.toNat, by omega⟩
    obtain ⟨t', rfl⟩ : ∃ t' : Nat, t = (t' : Int) := ⟨t.toNat, by omega⟩
    have hb2 := toks_get s f' (by omega)
    have hb3 := toks_get s (t' - 1) (by omega)
    have hb4 := toks_le s f' (t' - 1) (by omega) (by omega)
    refine Tr.rgD hcx hMO [1000035] _ [] rfl rfl rfl rfl ?_
    simp -implicitDefEqProofs (maxSteps := 2000000) (disch := first | omega | (simp only [go_sem, List.length_append, List.length_drop, List.length_take] <;> omega) | decide) only [go_sem, ↓reduceIte, Nat.reduceEqDiff, reduceCtorEq, Nat.reduceLT, Nat.reduceBEq, Nat.reduceAdd, Nat.reduceSub, Nat.reduceMul, Nat.reduceMod, h15, b1, b2, b3, int_nI']
    with_reducible refine And.intro ?_ ?_
    · exact rfl
    refine hK8 _ ?_
    clear hK8 K8
    refine Tr.kp [6] ?_
    simp only [pk_cons, pk_nil, ↓A_cons, ↓reduceIte, Nat.reduceEqDiff]
    refine Tr.ret ?_
    simp -implicitDefEqProofs (disch := first | omega | (simp only [go_sem, List.length_append, List.length_drop, List.length_take] <;> omega) | decide) only [go_sem, ↓reduceIte, Nat.reduceEqDiff, reduceCtorEq]
    all_goals (first | (rw [part_bad (s := s) (f := f) (t := t) (by omega)]) | (rw [part_ok (s := s) (f := f') (t := t') (by omega) (by omega)]))
set_option maxRecDepth 100000 in
set_option maxHeartbeats 8000000 in
theorem fc20 {gl : Nat → C} {M : Nat} {pu : Nat → List C → Option C}  (hcx : CxOK (cxP gl M pu)) (h18 : ∀ s : List UInt8, s.length ≤ 1000000 → pu 18 [.val (str s)] = some (sl tC (.own 3) (toks s))) (s : List UInt8) (f t : Int) (hs : s.length ≤ 1000000) (hf : -9223372036854775808 ≤ f ∧ f ≤ 9223372036854775807) (ht : -9223372036854775808 ≤ t ∧ t ≤ 9223372036854775807) : FC Try.prog gl 20 [.val (str s), .val (.int .i64 f), .val (.int .i64 t)] [] (.val (str (part s f t))) [] := by
 replace hcx := hcx.reN (M := 36)
 refine FC.ofA (cx := cxP gl 36 pu) (rs := [.tmp 6]) rfl Try.func20 rfl rfl rfl (by simp only [List.length_cons, List.length_nil]; decide) (by simp only [go_sem]) ?_
 simp only [ini, go_sem]
 have hT := toks_len s
 refine Tr.seqK fun K1 hK1 => ?_
 refine Tr.rg hcx [] _ [] rfl rfl rfl ?_
 simp -implicitDefEqProofs (maxSteps := 2000000) (disch := first | omega | (simp only [go_sem, List.length_append, List.length_drop, List.length_take] <;> omega) | decide) only [go_sem, ↓reduceIte, Nat.reduceEqDiff, reduceCtorEq, Nat.reduceLT, Nat.reduceBEq, Nat.reduceAdd, Nat.reduceSub, Nat.reduceMul, Nat.reduceMod, h18]
 refine hK1 _ ?_
 clear hK1 K1
 refine Tr.kp [0, 1, 2] ?_
 simp only [pk_cons, pk_nil, ↓A_cons, ↓reduceIte, Nat.reduceEqDiff]
 refine Tr.seqK fun K2 hK2 => ?_
 refine Tr.rg hcx [1000009] _ [] rfl rfl rfl ?_
 simp -implicitDefEqProofs (maxSteps := 2000000) (disch := first | omega | (simp only [go_sem, List.length_append, List.length_drop, List.length_take] <;> omega) | decide) only [go_sem, ↓reduceIte, Nat.reduceEqDiff, reduceCtorEq, Nat.reduceLT, Nat.reduceBEq, Nat.reduceAdd, Nat.reduceSub, Nat.reduceMul, Nat.reduceMod, h18]
 refine hK2 _ ?_
 clear hK2 K2
 refine Tr.kp [0, 1, 2, 7] ?_
 simp only [pk_cons, pk_nil, ↓A_cons, ↓reduceIte, Nat.reduceEqDiff]
 refine Tr.seqK fun K3 hK3 => ?_
 refine Tr.seqK fun K4 hK4 => ?_
 by_cases b1 : f < ((0 : Nat) : Int)
 ·
  refine Tr.rg hcx [] [some 10, some 11, some 12, some 13, some 14, some 15, some 16, some 17, some 18, some 19, some 20, some 21, some 22] [] rfl rfl rfl ?_
  simp -implicitDefEqProofs (maxSteps := 2000000) (disch := first | omega | (simp only [go_sem, List.length_append, List.length_drop, List.length_take] <;> omega) | decide) only [go_sem, ↓reduceIte, Nat.reduceEqDiff, reduceCtorEq, Nat.reduceLT, Nat.reduceBEq, Nat.reduceAdd, Nat.reduceSub, Nat.reduceMul, Nat.reduceMod, h18, b1]
  refine hK4 _ ?_
  clear hK4 K4
  refine Tr.kp [0, 1, 2, 7, 22] ?_
  simp only [pk_cons, pk_nil, ↓A_cons, ↓reduceIte, Nat.reduceEqDiff]
  refine Tr.condG fun KT KF hT hF => ?_
  simp only [ev_tmp, ev_const, ↓A_cons, ↓reduceIte, Nat.reduceEqDiff, reduceCtorEq, condG_bool, GB_true, GB_false, decide_eq_true_eq]
  refine hT ?_
  clear hT hF KT KF
  refine Tr.seqK fun K5 hK5 => ?_
  refine Tr.rg hcx [] _ [] rfl rfl rfl ?_
  simp -implicitDefEqProofs (maxSteps := 2000000) (disch := first | omega | (simp only [go_sem, List.length_append, List.length_drop, List.length_take] <;> omega) | decide) only [go_sem, ↓reduceIte, Nat.reduceEqDiff, reduceCtorEq, Nat.reduceLT, Nat.reduceBEq, Nat.reduceAdd, Nat.reduceSub, Nat.reduceMul, Nat.reduceMod, h18, b1]
  refine hK5 _ ?_
  clear hK5 K5
  refine Tr.kp [6] ?_
  simp only [pk_cons, pk_nil, ↓A_cons, ↓reduceIte, Nat.reduceEqDiff]
  refine Tr.ret ?_
  simp -implicitDefEqProofs (disch := first | omega | (simp only [go_sem, List.length_append, List.length_drop, List.length_take] <;> omega) | decide) only [go_sem, ↓reduceIte, Nat.reduceEqDiff, reduceCtorEq]
  all_goals (first | (rw [part_bad (s := s) (f := f) (t := t) (by omega)]) | (rw [part_ok (s := s) (f := f') (t := t') (by omega) (by omega)]))
 ·
  by_cases b2 : t ≤ f
  ·
   refine Tr.rg hcx [] [some 10, some 11, some 12, some 13, some 14, some 15, some 16, some 17, some 18, some 19, some 20, some 21, some 22] [] rfl rfl rfl ?_
   simp -implicitDefEqProofs (maxSteps := 2000000) (disch := first | omega | (simp only [go_sem, List.length_append, List.length_drop, List.length_take] <;> omega) | decide) only [go_sem, ↓reduceIte, Nat.reduceEqDiff, reduceCtorEq, Nat.reduceLT, Nat.reduceBEq, Nat.reduceAdd, Nat.reduceSub, Nat.reduceMul, Nat.reduceMod, h18, b1, b2]
   refine hK4 _ ?_
   clear hK4 K4
   refine Tr.kp [0, 1, 2, 7, 22] ?_
   simp only [pk_cons, pk_nil, ↓A_cons, ↓reduceIte, Nat.reduceEqDiff]
   refine Tr.condG fun KT KF hT hF => ?_
   simp only [ev_tmp, ev_const, ↓A_cons, ↓reduceIte, Nat.reduceEqDiff, reduceCtorEq, condG_bool, GB_true, GB_false, decide_eq_true_eq]
   refine hT ?_
   clear hT hF KT KF
   refine Tr.seqK fun K6 hK6 => ?_
   refine Tr.rg hcx [] _ [] rfl rfl rfl ?_
   simp -implicitDefEqProofs (maxSteps := 2000000) (disch := first | omega | (simp only [go_sem, List.length_append, List.length_drop, List.length_take] <;> omega) | decide) only [go_sem, ↓reduceIte, Nat.reduceEqDiff, reduceCtorEq, Nat.reduceLT, Nat.reduceBEq, Nat.reduceAdd, Nat.reduceSub, Nat.reduceMul, Nat.reduceMod, h18, b1, b2]
   refine hK6 _ ?_
   clear hK6 K6
   refine Tr.kp [6] ?_
   simp only [pk_cons, pk_nil, ↓A_cons, ↓reduceIte, Nat.reduceEqDiff]
   refine Tr.ret ?_
   simp -implicitDefEqProofs (disch := first | omega | (simp only [go_sem, List.length_append, List.length_drop, List.length_take] <;> omega) | decide) only [go_sem, ↓reduceIte, Nat.reduceEqDiff, reduceCtorEq]
   all_goals (first | (rw [part_bad (s := s) (f := f) (t := t) (by omega)]) | (rw [part_ok (s := s) (f := f') (t := t') (by omega) (by omega)]))
  ·
   by_cases b3 : (((toks s).length : Nat) : Int) < t
   ·
    refine Tr.rg hcx [] [some 10, some 11, some 12, some 13, some 14, some 15, some 16, some 17, some 18, some 19, some 20, some 21, some 22] [] rfl rfl rfl ?_
    simp -implicitDefEqProofs (maxSteps := 2000000) (disch := first | omega | (simp only [go_sem, List.length_append, List.length_drop, List.length_take] <;> omega) | decide) only [go_sem, ↓reduceIte, Nat.reduceEqDiff, reduceCtorEq, Nat.reduceLT, Nat.reduceBEq, Nat.reduceAdd, Nat.reduceSub, Nat.reduceMul, Nat.reduceMod, h18, b1, b2, b3]
    refine hK4 _ ?_
    clear hK4 K4
    refine Tr.kp [0, 1, 2, 7, 22] ?_
    simp only [pk_cons, pk_nil, ↓A_cons, ↓reduceIte, Nat.reduceEqDiff]
    refine Tr.condG fun KT KF hT hF => ?_
    simp only [ev_tmp, ev_const, ↓A_cons, ↓reduceIte, Nat.reduceEqDiff, reduceCtorEq, condG_bool, GB_true, GB_false, decide_eq_true_eq]
    refine hT ?_
    clear hT hF KT KF
    refine Tr.seqK fun K7 hK7 => ?_
    refine Tr.rg hcx [] _ [] rfl rfl rfl ?_
    simp -implicitDefEqProofs (maxSteps := 2000000) (disch := first | omega | (simp only [go_sem, List.length_append, List.length_drop, List.length_take] <;> omega) | decide) only [go_sem, ↓reduceIte, Nat.reduceEqDiff, reduceCtorEq, Nat.reduceLT, Nat.reduceBEq, Nat.reduceAdd, Nat.reduceSub, Nat.reduceMul, Nat.reduceMod, h18, b1, b2, b3]
    refine hK7 _ ?_
    clear hK7 K7
    refine Tr.kp [6] ?_
    simp only [pk_cons, pk_nil, ↓A_cons, ↓reduceIte, Nat.reduceEqDiff]
    refine Tr.ret ?_
    simp -implicitDefEqProofs (disch := first | omega | (simp only [go_sem, List.length_append, List.length_drop, List.length_take] <;> omega) | decide) only [go_sem, ↓reduceIte, Nat.reduceEqDiff, reduceCtorEq]
    all_goals (first | (rw [part_bad (s := s) (f := f) (t := t) (by omega)]) | (rw [part_ok (s := s) (f := f') (t := t') (by omega) (by omega)]))
   ·
    refine Tr.rg hcx [] [some 10, some 11, some 12, some 13, some 14, some 15, some 16, some 17, some 18, some 19, some 20, some 21, some 22] [] rfl rfl rfl ?_
    simp -implicitDefEqProofs (maxSteps := 2000000) (disch := first | omega | (simp only [go_sem, List.length_append, List.length_drop, List.length_take] <;> omega) | decide) only [go_sem, ↓reduceIte, Nat.reduceEqDiff, reduceCtorEq, Nat.reduceLT, Nat.reduceBEq, Nat.reduceAdd, Nat.reduceSub, Nat.reduceMul, Nat.reduceMod, h18, b1, b2, b3]
    refine hK4 _ ?_
    clear hK4 K4
    refine Tr.kp [0, 1, 2, 7, 22] ?_
    simp only [pk_cons, pk_nil, ↓A_cons, ↓reduceIte, Nat.reduceEqDiff]
    refine Tr.condG fun KT KF hT hF => ?_
    simp only [ev_tmp, ev_const, ↓A_cons, ↓reduceIte, Nat.reduceEqDiff, reduceCtorEq, condG_bool, GB_true, GB_false, decide_eq_true_eq]
    refine hF ?_
    clear hT hF KT KF
    refine Tr.skip ?_
    refine hK3 _ ?_
    clear hK3 K3
    refine Tr.kp [0, 1, 2, 7] ?_
    simp only [pk_cons, pk_nil, ↓A_cons, ↓reduceIte, Nat.reduceEqDiff]
    refine Tr.seqK fun K8 hK8 => ?_
    obtain ⟨f', rfl⟩ : ∃ f' : Nat, f = (f' : Int) := ⟨f.toNat, by omega⟩
    obtain ⟨t', rfl⟩ : ∃ t' : Nat, t = (t' : Int) := ⟨t.toNat, by omega⟩
    have hb2 := toks_get s f' (by omega)
    have hb3 := toks_get s (t' - 1) (by omega)
    have hb4 := toks_le s f' (t' - 1) (by omega) (by omega)
    refine Tr.rgD hcx hMO [1000035] _ [] rfl rfl rfl rfl ?_
    simp -implicitDefEqProofs (maxSteps := 2000000) (disch := first | omega | (simp only [go_sem, List.length_append, List.length_drop, List.length_take] <;> omega) | decide) only [go_sem, ↓reduceIte, Nat.reduceEqDiff, reduceCtorEq, Nat.reduceLT, Nat.reduceBEq, Nat.reduceAdd, Nat.reduceSub, Nat.reduceMul, Nat.reduceMod, h18, b1, b2, b3, int_nI']
    with_reducible refine And.intro ?_ ?_
    · exact rfl
    refine hK8 _ ?_
    clear hK8 K8
    refine Tr.kp [6] ?_
    simp only [pk_cons, pk_nil, ↓A_cons, ↓reduceIte, Nat.reduceEqDiff]
    refine Tr.ret ?_
    simp -implicitDefEqProofs (disch := first | omega | (simp only [go_sem, List.length_append, List.length_drop, List.length_take] <;> omega) | decide) only [go_sem, ↓reduceIte, Nat.reduceEqDiff, reduceCtorEq]
    all_goals (first | (rw [part_bad (s := s) (f := f) (t := t) (by omega)]) | (rw [part_ok (s := s) (f := f') (t := t') (by omega) (by omega)]))
end Go.Sx
namespace Go.Sx
open Go.RowKit Go.Proofs
def lastT (l : List Tok) (i : Nat) : Bool := decide (l.length ≤ i + 1) || decide ((gt l i).e < (gt l (i + 1)).a)
def firstT (l : List Tok) (i : Nat) : Bool := decide (i ≤ 0) || decide ((gt l (i - 1)).e < (gt l i).a)
def stopR (s : List UInt8) (l : List Tok) (i : Nat) : Bool := isStop (gt s (gt l i).a) && lastT l i
theorem stopR_I {s : List UInt8} {l : List Tok} {i : Nat} (h : ¬ i + 1 = l.length) (h2 : i < l.length) : stopR s l i = stopI s l i := by
  unfold stopR stopI lastT; rw [decide_eq_false (by omega : ¬ l.length ≤ i + 1), Bool.false_or]
theorem senR_T {s : List UInt8} {l : List Tok} {i : Nat} (h : i + 1 = l.length ∨ stopI s l i = true) : senR s l (i + 1) = (i + 1, (senR s l i).2 ++ [((senR s l i).1, i + 1)]) := if_pos h
theorem senR_F {s : List UInt8} {l : List Tok} {i : Nat} (h : ¬ (i + 1 = l.length ∨ stopI s l i = true)) : senR s l (i + 1) = senR s l i := if_neg h
theorem senR_le (s : List UInt8) (l : List Tok) : ∀ i, (senR s l i).1 ≤ i ∧ (senR s l i).2.length ≤ i
  | 0 => ⟨Nat.le_refl _, Nat.le_refl _⟩
  | i + 1 => by
    have := senR_le s l i
    by_cases h : i + 1 = l.length ∨ stopI s l i = true
    · rw [senR_T h]; simp; omega
    · rw [senR_F h]; omega
theorem bsA_pair (u : TypeDesc) (y : Nat) (z : List Value) (p : Nat × Nat) (hz : z.length = 2) (h1 : z.all (·.oneCell') = true) : bsA (some ⟨u, 2, y, z⟩) 1 [(0, .agg (pC p))] = some (vp (sl pC .full [p])) := by
  unfold bsA
  simp only [hz, h1]
  rw [if_pos ⟨by decide, by decide, trivial, trivial⟩]
  have hr : (repZero z 1).length = 2 := by simp [repZero, hz]
  unfold lay
  have hc : C.cells? (.agg (pC p)) = some (pC p) := rfl
  simp only [hc]
  rw [if_pos ⟨rfl, by omega⟩]
  unfold lay
  simp only [Option.map_some, splice, Nat.zero_mul, List.take_zero, List.nil_append, Nat.zero_add]
  rw [List.drop_of_length_le (by rw [hr]; exact Nat.le_refl _), List.append_nil]
  rfl
theorem n63a : (UInt8.ofNat 63 = UInt8.ofNat 46) = False := by decide
theorem n33a : (UInt8.ofNat 33 = UInt8.ofNat 46) = False := by decide
theorem n33b : (UInt8.ofNat 33 = UInt8.ofNat 63) = False := by decide
theorem lay1_pair (a b : Nat) : lay1 (cl nC (List.replicate 2 0)) [(0, .val (nI a)), (1, .val (nI b))] = some (vp (.agg (pC (a, b)))) := rfl
attribute [go_sem high] lay1_pair bsA_pair
set_option maxRecDepth 100000 in
set_option maxHeartbeats 8000000 in
theorem fc59 {gl : Nat → C} {M : Nat} {pu : Nat → List C → Option C}  (hcx : CxOK (cxP gl M pu)) (l : List Tok) (i : Nat) (hi : i < l.length ∧ l.length ≤ 1000000) : FC Try.prog gl 59 [sl tC .no l, .val (nI i)] [] (.val (.bool (lastT l i))) [] := by
 replace hcx := hcx.reN (M := 24)
 refine FC.ofA (cx := cxP gl 24 pu) (rs := [.tmp 4]) rfl Try.func59 rfl rfl rfl (by simp only [List.length_cons, List.length_nil]; decide) (by simp only [go_sem]) ?_
 simp only [ini, go_sem]
 refine Tr.seqK fun K1 hK1 => ?_
 refine Tr.rg hcx [] _ [] rfl rfl rfl ?_
 simp -implicitDefEqProofs (maxSteps := 2000000) (disch := first | omega | (simp only [go_sem, List.length_append, List.length_drop, List.length_take] <;> omega) | decide) only [go_sem, ↓reduceIte, Nat.reduceEqDiff, reduceCtorEq, Nat.reduceLT, Nat.reduceBEq, Nat.reduceAdd, Nat.reduceSub, Nat.reduceMul, Nat.reduceMod]
 refine hK1 _ ?_
 clear hK1 K1
 refine Tr.kp [0, 1] ?_
 simp only [pk_cons, pk_nil, ↓A_cons, ↓reduceIte, Nat.reduceEqDiff]
 refine Tr.seqK fun K2 hK2 => ?_
 by_cases b1 : l.length ≤ i + 1
 ·
  refine Tr.rgD hcx hMO [1000023] [some 5, some 6, some 7, some 8, some 9, some 10, some 11, some 12, some 13, some 14, some 15, some 16, some 17, some 18, some 19, some 20, some 21, some 22, some 23, some 4] [] rfl rfl rfl rfl ?_
  simp -implicitDefEqProofs (maxSteps := 2000000) (disch := first | omega | (simp only [go_sem, List.length_append, List.length_drop, List.length_take] <;> omega) | decide) only [go_sem, ↓reduceIte, Nat.reduceEqDiff, reduceCtorEq, Nat.reduceLT, Nat.reduceBEq, Nat.reduceAdd, Nat.reduceSub, Nat.reduceMul, Nat.reduceMod, b1]
  with_reducible refine And.intro ?_ ?_
  · exact rfl
  refine hK2 _ ?_
  clear hK2 K2
  refine Tr.kp [4] ?_
  simp only [pk_cons, pk_nil, ↓A_cons, ↓reduceIte, Nat.reduceEqDiff]
  refine Tr.ret ?_
  simp -implicitDefEqProofs (disch := first | omega | (simp only [go_sem, List.length_append, List.length_drop, List.length_take] <;> omega) | decide) only [go_sem, ↓reduceIte, Nat.reduceEqDiff, reduceCtorEq]
  all_goals (exact congrArg (fun z => some (C.val (.bool z))) (by unfold lastT; simp [b1]))
 ·
  refine Tr.rgD hcx hMO [1000023] [some 5, some 6, some 7, some 8, some 9, some 10, some 11, some 12, some 13, some 14, some 15, some 16, some 17, some 18, some 19, some 20, some 21, some 22, some 23, some 4] [] rfl rfl rfl rfl ?_
  simp -implicitDefEqProofs (maxSteps := 2000000) (disch := first | omega | (simp only [go_sem, List.length_append, List.length_drop, List.length_take] <;> omega) | decide) only [go_sem, ↓reduceIte, Nat.reduceEqDiff, reduceCtorEq, Nat.reduceLT, Nat.reduceBEq, Nat.reduceAdd, Nat.reduceSub, Nat.reduceMul, Nat.reduceMod, b1]
  with_reducible refine And.intro ?_ ?_
  · exact rfl
  refine hK2 _ ?_
  clear hK2 K2
  refine Tr.kp [4] ?_
  simp only [pk_cons, pk_nil, ↓A_cons, ↓reduceIte, Nat.reduceEqDiff]
  refine Tr.ret ?_
  simp -implicitDefEqProofs (disch := first | omega | (simp only [go_sem, List.length_append, List.length_drop, List.length_take] <;> omega) | decide) only [go_sem, ↓reduceIte, Nat.reduceEqDiff, reduceCtorEq]
  all_goals (exact congrArg (fun z => some (C.val (.bool z))) (by unfold lastT; simp [b1]))
set_option maxRecDepth 100000 in
set_option maxHeartbeats 8000000 in
theorem fc53 {gl : Nat → C} {M : Nat} {pu : Nat → List C → Option C}  (hcx : CxOK (cxP gl M pu)) (l : List Tok) (i : Nat) (hi : i < l.length ∧ l.length ≤ 1000000) : FC Try.prog gl 53 [sl tC .no l, .val (nI i)] [] (.val (.bool (firstT l i))) [] := by
 replace hcx := hcx.reN (M := 21)
 refine FC.ofA (cx := cxP gl 21 pu) (rs := [.tmp 4]) rfl Try.func53 rfl rfl rfl (by simp only [List.length_cons, List.length_nil]; decide) (by simp only [go_sem]) ?_
 simp only [ini, go_sem]
 refine Tr.seqK fun K1 hK1 => ?_
 refine Tr.rg hcx [] _ [] rfl rfl rfl ?_
 simp -implicitDefEqProofs (maxSteps := 2000000) (disch := first | omega | (simp only [go_sem, List.length_append, List.length_drop, List.length_take] <;> omega) | decide) only [go_sem, ↓reduceIte, Nat.reduceEqDiff, reduceCtorEq, Nat.reduceLT, Nat.reduceBEq, Nat.reduceAdd, Nat.reduceSub, Nat.reduceMul, Nat.reduceMod]
 refine hK1 _ ?_
 clear hK1 K1
 refine Tr.kp [0, 1] ?_
 simp only [pk_cons, pk_nil, ↓A_cons, ↓reduceIte, Nat.reduceEqDiff]
 refine Tr.seqK fun K2 hK2 => ?_
 by_cases b1 : i ≤ 0
 ·
  refine Tr.rgD hcx hMO [1000020] [some 5, some 6, some 7, some 8, some 9, some 10, some 11, some 12, some 13, some 14, some 15, some 16, some 17, some 18, some 19, some 20, some 4] [] rfl rfl rfl rfl ?_
  simp -implicitDefEqProofs (maxSteps := 2000000) (disch := first | omega | (simp only [go_sem, List.length_append, List.length_drop, List.length_take] <;> omega) | decide) only [go_sem, ↓reduceIte, Nat.reduceEqDiff, reduceCtorEq, Nat.reduceLT, Nat.reduceBEq, Nat.reduceAdd, Nat.reduceSub, Nat.reduceMul, Nat.reduceMod, b1]
  with_reducible refine And.intro ?_ ?_
  · exact rfl
  refine hK2 _ ?_
  clear hK2 K2
  refine Tr.kp [4] ?_
  simp only [pk_cons, pk_nil, ↓A_cons, ↓reduceIte, Nat.reduceEqDiff]
  refine Tr.ret ?_
  simp -implicitDefEqProofs (disch := first | omega | (simp only [go_sem, List.length_append, List.length_drop, List.length_take] <;> omega) | decide) only [go_sem, ↓reduceIte, Nat.reduceEqDiff, reduceCtorEq]
  all_goals (exact congrArg (fun z => some (C.val (.bool z))) (by unfold firstT; simp [b1]))
 ·
  refine Tr.rgD hcx hMO [1000020] [some 5, some 6, some 7, some 8, some 9, some 10, some 11, some 12, some 13, some 14, some 15, some 16, some 17, some 18, some 19, some 20, some 4] [] rfl rfl rfl rfl ?_
  simp -implicitDefEqProofs (maxSteps := 2000000) (disch := first | omega | (simp only [go_sem, List.length_append, List.length_drop, List.length_take] <;> omega) | decide) only [go_sem, ↓reduceIte, Nat.reduceEqDiff, reduceCtorEq, Nat.reduceLT, Nat.reduceBEq, Nat.reduceAdd, Nat.reduceSub, Nat.reduceMul, Nat.reduceMod, b1]
  with_reducible refine And.intro ?_ ?_
  · exact rfl
  refine hK2 _ ?_
  clear hK2 K2
  refine Tr.kp [4] ?_
  simp only [pk_cons, pk_nil, ↓A_cons, ↓reduceIte, Nat.reduceEqDiff]
  refine Tr.ret ?_
  simp -implicitDefEqProofs (disch := first | omega | (simp only [go_sem, List.length_append, List.length_drop, List.length_take] <;> omega) | decide) only [go_sem, ↓reduceIte, Nat.reduceEqDiff, reduceCtorEq]
  all_goals (exact congrArg (fun z => some (C.val (.bool z))) (by unfold firstT; simp [b1]))
set_option maxRecDepth 100000 in
set_option maxHeartbeats 8000000 in
theorem fc52 {gl : Nat → C} {M : Nat} {pu : Nat → List C → Option C}  (hcx : CxOK (cxP gl M pu)) (h59 : ∀ (l : List Tok) (i : Nat), i < l.length ∧ l.length ≤ 1000000 → pu 59 [sl tC .no l, .val (nI i)] = some (.val (.bool (lastT l i)))) (s : List UInt8) (l : List Tok) (i : Nat) (hi : i < l.length ∧ l.length ≤ 1000000 ∧ (gt l i).a < s.length ∧ s.length ≤ 1000000) : FC Try.prog gl 52 [.val (str s), sl tC .no l, .val (nI i)] [] (.val (.bool (stopR s l i))) [] := by
 replace hcx := hcx.reN (M := 30)
 refine FC.ofA (cx := cxP gl 30 pu) (rs := [.tmp 6]) rfl Try.func52 rfl rfl rfl (by simp only [List.length_cons, List.length_nil]; decide) (by simp only [go_sem]) ?_
 simp only [ini, go_sem]
 refine Tr.seqK fun K1 hK1 => ?_
 refine Tr.rg hcx [] _ [] rfl rfl rfl ?_
 simp -implicitDefEqProofs (maxSteps := 2000000) (disch := first | omega | (simp only [go_sem, List.length_append, List.length_drop, List.length_take] <;> omega) | decide) only [go_sem, ↓reduceIte, Nat.reduceEqDiff, reduceCtorEq, Nat.reduceLT, Nat.reduceBEq, Nat.reduceAdd, Nat.reduceSub, Nat.reduceMul, Nat.reduceMod, h59, n63a, n33a, n33b, decide_false, decide_true, not_false_eq_true]
 refine hK1 _ ?_
 clear hK1 K1
 refine Tr.kp [0, 1, 2] ?_
 simp only [pk_cons, pk_nil, ↓A_cons, ↓reduceIte, Nat.reduceEqDiff]
 refine Tr.seqK fun K2 hK2 => ?_
 refine Tr.rg hcx [1000014] _ [] rfl rfl rfl ?_
 simp -implicitDefEqProofs (maxSteps := 2000000) (disch := first | omega | (simp only [go_sem, List.length_append, List.length_drop, List.length_take] <;> omega) | decide) only [go_sem, ↓reduceIte, Nat.reduceEqDiff, reduceCtorEq, Nat.reduceLT, Nat.reduceBEq, Nat.reduceAdd, Nat.reduceSub, Nat.reduceMul, Nat.reduceMod, h59, n63a, n33a, n33b, decide_false, decide_true, not_false_eq_true]
 refine hK2 _ ?_
 clear hK2 K2
 refine Tr.kp [1, 2, 7] ?_
 simp only [pk_cons, pk_nil, ↓A_cons, ↓reduceIte, Nat.reduceEqDiff]
 refine Tr.seqK fun K3 hK3 => ?_
 by_cases b1 : gt s (gt l i).a = UInt8.ofNat 46
 ·
  refine Tr.rg hcx [1000029] [some 15, some 16, some 17, some 18, some 19, some 20, some 21, some 22, some 23, some 24, some 25, some 26, some 27, some 28, some 29, some 6] [] rfl rfl rfl ?_
  simp -implicitDefEqProofs (maxSteps := 2000000) (disch := first | omega | (simp only [go_sem, List.length_append, List.length_drop, List.length_take] <;> omega) | decide) only [go_sem, ↓reduceIte, Nat.reduceEqDiff, reduceCtorEq, Nat.reduceLT, Nat.reduceBEq, Nat.reduceAdd, Nat.reduceSub, Nat.reduceMul, Nat.reduceMod, h59, n63a, n33a, n33b, decide_false, decide_true, not_false_eq_true, b1]
  refine hK3 _ ?_
  clear hK3 K3
  refine Tr.kp [6] ?_
  simp only [pk_cons, pk_nil, ↓A_cons, ↓reduceIte, Nat.reduceEqDiff]
  refine Tr.ret ?_
  simp -implicitDefEqProofs (disch := first | omega | (simp only [go_sem, List.length_append, List.length_drop, List.length_take] <;> omega) | decide) only [go_sem, ↓reduceIte, Nat.reduceEqDiff, reduceCtorEq]
  all_goals (exact congrArg (fun z => some (C.val (.bool z))) (by unfold stopR isStop; simp_all))
 ·
  by_cases b2 : gt s (gt l i).a = UInt8.ofNat 63
  ·
   refine Tr.rg hcx [1000029] [some 15, some 16, some 17, some 18, some 19, some 20, some 21, some 22, some 23, some 24, some 25, some 26, some 27, some 28, some 29, some 6] [] rfl rfl rfl ?_
   simp -implicitDefEqProofs (maxSteps := 2000000) (disch := first | omega | (simp only [go_sem, List.length_append, List.length_drop, List.length_take] <;> omega) | decide) only [go_sem, ↓reduceIte, Nat.reduceEqDiff, reduceCtorEq, Nat.reduceLT, Nat.reduceBEq, Nat.reduceAdd, Nat.reduceSub, Nat.reduceMul, Nat.reduceMod, h59, n63a, n33a, n33b, decide_false, decide_true, not_false_eq_true, b1, b2]
   refine hK3 _ ?_
   clear hK3 K3
   refine Tr.kp [6] ?_
   simp only [pk_cons, pk_nil, ↓A_cons, ↓reduceIte, Nat.reduceEqDiff]
   refine Tr.ret ?_
   simp -implicitDefEqProofs (disch := first | omega | (simp only [go_sem, List.length_append, List.length_drop, List.length_take] <;> omega) | decide) only [go_sem, ↓reduceIte, Nat.reduceEqDiff, reduceCtorEq]
   all_goals (exact congrArg (fun z => some (C.val (.bool z))) (by unfold stopR isStop; simp_all))
  ·
   by_cases b3 : gt s (gt l i).a = UInt8.ofNat 33
   ·
    refine Tr.rg hcx [1000029] [some 15, some 16, some 17, some 18, some 19, some 20, some 21, some 22, some 23, some 24, some 25, some 26, some 27, some 28, some 29, some 6] [] rfl rfl rfl ?_
    simp -implicitDefEqProofs (maxSteps := 2000000) (disch := first | omega | (simp only [go_sem, List.length_append, List.length_drop, List.length_take] <;> omega) | decide) only [go_sem, ↓reduceIte, Nat.reduceEqDiff, reduceCtorEq, Nat.reduceLT, Nat.reduceBEq, Nat.reduceAdd, Nat.reduceSub, Nat.reduceMul, Nat.reduceMod, h59, n63a, n33a, n33b, decide_false, decide_true, not_false_eq_true, b1, b2, b3]
    refine hK3 _ ?_
    clear hK3 K3
    refine Tr.kp [6] ?_
    simp only [pk_cons, pk_nil, ↓A_cons, ↓reduceIte, Nat.reduceEqDiff]
    refine Tr.ret ?_
    simp -implicitDefEqProofs (disch := first | omega | (simp only [go_sem, List.length_append, List.length_drop, List.length_take] <;> omega) | decide) only [go_sem, ↓reduceIte, Nat.reduceEqDiff, reduceCtorEq]
    all_goals (exact congrArg (fun z => some (C.val (.bool z))) (by unfold stopR isStop; simp_all))
   ·
    refine Tr.rg hcx [1000029] [some 15, some 16, some 17, some 18, some 19, some 20, some 21, some 22, some 23, some 24, some 25, some 26, some 27, some 28, some 29, some 6] [] rfl rfl rfl ?_
    simp -implicitDefEqProofs (maxSteps := 2000000) (disch := first | omega | (simp only [go_sem, List.length_append, List.length_drop, List.length_take] <;> omega) | decide) only [go_sem, ↓reduceIte, Nat.reduceEqDiff, reduceCtorEq, Nat.reduceLT, Nat.reduceBEq, Nat.reduceAdd, Nat.reduceSub, Nat.reduceMul, Nat.reduceMod, h59, n63a, n33a, n33b, decide_false, decide_true, not_false_eq_true, b1, b2, b3]
    refine hK3 _ ?_
    clear hK3 K3
    refine Tr.kp [6] ?_
    simp only [pk_cons, pk_nil, ↓A_cons, ↓reduceIte, Nat.reduceEqDiff]
    refine Tr.ret ?_
    simp -implicitDefEqProofs (disch := first | omega | (simp only [go_sem, List.length_append, List.length_drop, List.length_take] <;> omega) | decide) only [go_sem, ↓reduceIte, Nat.reduceEqDiff, reduceCtorEq]
    all_goals (exact congrArg (fun z => some (C.val (.bool z))) (by unfold stopR isStop; simp_all))
set_option maxRecDepth 100000 in
set_option maxHeartbeats 8000000 in
theorem fc29 {gl : Nat → C} {M : Nat} {pu : Nat → List C → Option C}  (hcx : CxOK (cxP gl M pu)) (h15 : ∀ s : List UInt8, s.length ≤ 1000000 → pu 15 [.val (str s)] = some (sl tC .no (toks s))) (h52 : ∀ (s : List UInt8) (l : List Tok) (i : Nat), i < l.length ∧ l.length ≤ 1000000 ∧ (gt l i).a < s.length ∧ s.length ≤ 1000000 → pu 52 [.val (str s), sl tC .no l, .val (nI i)] = some (.val (.bool (stopR s l i)))) (s : List UInt8) (hs : s.length ≤ 1000000) : FC Try.prog gl 29 [.val (str s)] [] (sl pC (.own 2) (sents s)) [] := by
 replace hcx := hcx.reN (M := 36)
 refine FC.ofA (cx := cxP gl 36 pu) (rs := [.tmp 2]) rfl Try.func29 rfl rfl rfl (by simp only [List.length_cons, List.length_nil]; decide) (by simp only [go_sem]) ?_
 simp only [ini, go_sem]
 have hT := toks_len s
 have hb1 := True.intro
 refine Tr.seqK fun K1 hK1 => ?_
 refine Tr.rg hcx [] _ [] rfl rfl rfl ?_
 simp -implicitDefEqProofs (maxSteps := 2000000) (disch := first | omega | (simp only [go_sem, List.length_append, List.length_drop, List.length_take, hb1] <;> omega) | decide) only [go_sem, ↓reduceIte, Nat.reduceEqDiff, reduceCtorEq, Nat.reduceLT, Nat.reduceBEq, Nat.reduceAdd, Nat.reduceSub, Nat.reduceMul, Nat.reduceMod, h15, h52]
 refine hK1 _ ?_
 clear hK1 K1
 refine Tr.kp [0] ?_
 simp only [pk_cons, pk_nil, ↓A_cons, ↓reduceIte, Nat.reduceEqDiff]
 refine Tr.seqK fun K2 hK2 => ?_
 refine Tr.rg hcx [1000008] _ [] rfl rfl rfl ?_
 simp -implicitDefEqProofs (maxSteps := 2000000) (disch := first | omega | (simp only [go_sem, List.length_append, List.length_drop, List.length_take, hb1] <;> omega) | decide) only [go_sem, ↓reduceIte, Nat.reduceEqDiff, reduceCtorEq, Nat.reduceLT, Nat.reduceBEq, Nat.reduceAdd, Nat.reduceSub, Nat.reduceMul, Nat.reduceMod, h15, h52]
 refine hK2 _ ?_
 clear hK2 K2
 refine Tr.kp [0, 3] ?_
 simp only [pk_cons, pk_nil, ↓A_cons, ↓reduceIte, Nat.reduceEqDiff]
 refine Tr.seqK fun K3 hK3 => ?_
 refine Tr.rg hcx [] _ [] rfl rfl rfl ?_
 simp -implicitDefEqProofs (maxSteps := 2000000) (disch := first | omega | (simp only [go_sem, List.length_append, List.length_drop, List.length_take, hb1] <;> omega) | decide) only [go_sem, ↓reduceIte, Nat.reduceEqDiff, reduceCtorEq, Nat.reduceLT, Nat.reduceBEq, Nat.reduceAdd, Nat.reduceSub, Nat.reduceMul, Nat.reduceMod, h15, h52]
 refine hK3 _ ?_
 clear hK3 K3
 refine Tr.kp [0, 3, 4] ?_
 simp only [pk_cons, pk_nil, ↓A_cons, ↓reduceIte, Nat.reduceEqDiff]
 refine Tr.seqK fun K4 hK4 => ?_
 refine Tr.rg hcx [] _ [] rfl rfl rfl ?_
 simp -implicitDefEqProofs (maxSteps := 2000000) (disch := first | omega | (simp only [go_sem, List.length_append, List.length_drop, List.length_take, hb1] <;> omega) | decide) only [go_sem, ↓reduceIte, Nat.reduceEqDiff, reduceCtorEq, Nat.reduceLT, Nat.reduceBEq, Nat.reduceAdd, Nat.reduceSub, Nat.reduceMul, Nat.reduceMod, h15, h52]
 refine hK4 _ ?_
 clear hK4 K4
 refine Tr.kp [0, 3, 4, 5] ?_
 simp only [pk_cons, pk_nil, ↓A_cons, ↓reduceIte, Nat.reduceEqDiff]
 refine Tr.seqK fun K5 hK5 => ?_
 refine Tr.seqK fun K6 hK6 => ?_
 refine Tr.rg hcx [] _ [] rfl rfl rfl ?_
 simp -implicitDefEqProofs (maxSteps := 2000000) (disch := first | omega | (simp only [go_sem, List.length_append, List.length_drop, List.length_take, hb1] <;> omega) | decide) only [go_sem, ↓reduceIte, Nat.reduceEqDiff, reduceCtorEq, Nat.reduceLT, Nat.reduceBEq, Nat.reduceAdd, Nat.reduceSub, Nat.reduceMul, Nat.reduceMod, h15, h52]
 refine hK6 _ ?_
 clear hK6 K6
 refine Tr.kp [0, 3, 4, 5, 6] ?_
 simp only [pk_cons, pk_nil, ↓A_cons, ↓reduceIte, Nat.reduceEqDiff]
 refine Tr.blk ?_
 refine Tr.loopI (α := Nat) (fun a => [(0, ?v0_29), (3, ?v3_29), (4, sl pC (.own 2) (senR s (toks s) a).2), (5, .val (nI (senR s (toks s) a).1)), (6, .val (nI a))]) (fun a => ?h_29) (fun a => a ≤ (toks s).length) (fun a => (toks s).length - a) (0) ?_ ?le_29 ?hh_29 ?bd_29
 case hh_29 => exact rfl
 case le_29 => (simp only [Le_nil, Le_cons, ↓A_cons, ↓reduceIte, Nat.reduceEqDiff, reduceCtorEq, CLe_refl, CLe_top, CLe_full, CLe_nil, CLe_own, and_true, true_and]; all_goals (repeat' first | exact CLe.refl _ | exact True.intro | (refine CLe_sln ?_; first | with_reducible rfl | (simp only [List.take_zero]; done) | (rfl; done)) | exact CLe_nI (by omega) | exact CLe_int (by omega) | exact CLe_inI (by omega) | exact CLe_nIi (by omega) | with_reducible apply And.intro))
 · omega
 case bd_29 =>
  rintro i hi
  have hb1 := senR_le s (toks s) i
  refine Tr.seqK fun K7 hK7 => ?_
  refine Tr.seqK fun K8 hK8 => ?_
  refine Tr.rg hcx [] _ [] rfl rfl rfl ?_
  simp -implicitDefEqProofs (maxSteps := 2000000) (disch := first | omega | (simp only [go_sem, List.length_append, List.length_drop, List.length_take, hb1] <;> omega) | decide) only [go_sem, ↓reduceIte, Nat.reduceEqDiff, reduceCtorEq, Nat.reduceLT, Nat.reduceBEq, Nat.reduceAdd, Nat.reduceSub, Nat.reduceMul, Nat.reduceMod, h15, h52]
  refine hK8 _ ?_
  clear hK8 K8
  refine Tr.kp [0, 3, 4, 5, 6, 12] ?_
  simp only [pk_cons, pk_nil, ↓A_cons, ↓reduceIte, Nat.reduceEqDiff]
  refine Tr.condG fun KT KF hT hF => ?_
  simp only [ev_tmp, ev_const, ↓A_cons, ↓reduceIte, Nat.reduceEqDiff, reduceCtorEq, condG_bool, GB_true, GB_false, decide_eq_true_eq]
  refine GB.dec (fun hc12 => hT ?_) (fun hc12 => hF ?_)
  ·
   clear hT hF KT KF
   have hb2 := toks_get s i hc12
   refine Tr.skip ?_
   refine hK7 _ ?_
   clear hK7 K7
   refine Tr.kp [0, 3, 4, 5, 6] ?_
   simp only [pk_cons, pk_nil, ↓A_cons, ↓reduceIte, Nat.reduceEqDiff]
   refine Tr.seqK fun K9 hK9 => ?_
   refine Tr.blk ?_
   refine Tr.seqK fun K10 hK10 => ?_
   by_cases b1 : i + 1 = (toks s).length
   ·
    refine Tr.rg hcx [] [some 15, some 16, some 17, some 18, some 19, some 20, some 21, some 22, some 23, some 24, some 25] [] rfl rfl rfl ?_
    simp -implicitDefEqProofs (maxSteps := 2000000) (disch := first | omega | (simp only [go_sem, List.length_append, List.length_drop, List.length_take, hb1] <;> omega) | decide) only [go_sem, ↓reduceIte, Nat.reduceEqDiff, reduceCtorEq, Nat.reduceLT, Nat.reduceBEq, Nat.reduceAdd, Nat.reduceSub, Nat.reduceMul, Nat.reduceMod, h15, h52, b1]
    refine hK10 _ ?_
    clear hK10 K10
    refine Tr.kp [0, 3, 4, 5, 6, 25] ?_
    simp only [pk_cons, pk_nil, ↓A_cons, ↓reduceIte, Nat.reduceEqDiff]
    refine Tr.condG fun KT KF hT hF => ?_
    simp only [ev_tmp, ev_const, ↓A_cons, ↓reduceIte, Nat.reduceEqDiff, reduceCtorEq, condG_bool, GB_true, GB_false, decide_eq_true_eq]
    refine hT ?_
    clear hT hF KT KF
    refine Tr.seqK fun K11 hK11 => ?_
    refine Tr.rg hcx [26, 1000032] _ [] rfl rfl rfl ?_
    simp -implicitDefEqProofs (maxSteps := 2000000) (disch := first | omega | (simp only [go_sem, List.length_append, List.length_drop, List.length_take, hb1] <;> omega) | decide) only [go_sem, ↓reduceIte, Nat.reduceEqDiff, reduceCtorEq, Nat.reduceLT, Nat.reduceBEq, Nat.reduceAdd, Nat.reduceSub, Nat.reduceMul, Nat.reduceMod, h15, h52, b1]
    refine hK11 _ ?_
    clear hK11 K11
    refine Tr.kp [0, 3, 4, 6] ?_
    simp only [pk_cons, pk_nil, ↓A_cons, ↓reduceIte, Nat.reduceEqDiff]
    refine Tr.rg hcx [1000034] _ [] rfl rfl rfl ?_
    simp -implicitDefEqProofs (maxSteps := 2000000) (disch := first | omega | (simp only [go_sem, List.length_append, List.length_drop, List.length_take, hb1] <;> omega) | decide) only [go_sem, ↓reduceIte, Nat.reduceEqDiff, reduceCtorEq, Nat.reduceLT, Nat.reduceBEq, Nat.reduceAdd, Nat.reduceSub, Nat.reduceMul, Nat.reduceMod, h15, h52, b1]
    refine hK9 _ ?_
    clear hK9 K9
    refine Tr.kp [0, 3, 4, 5, 6] ?_
    simp only [pk_cons, pk_nil, ↓A_cons, ↓reduceIte, Nat.reduceEqDiff]
    refine Tr.rg hcx [1000014] _ [] rfl rfl rfl ?_
    simp -implicitDefEqProofs (maxSteps := 2000000) (disch := first | omega | (simp only [go_sem, List.length_append, List.length_drop, List.length_take, hb1] <;> omega) | decide) only [go_sem, ↓reduceIte, Nat.reduceEqDiff, reduceCtorEq, Nat.reduceLT, Nat.reduceBEq, Nat.reduceAdd, Nat.reduceSub, Nat.reduceMul, Nat.reduceMod, h15, h52, b1]
    refine ⟨i + 1, ⟨by omega, by first | omega | (simp only []; omega)⟩, ?_, rfl⟩
    (simp only [Le_nil, Le_cons, ↓A_cons, ↓reduceIte, Nat.reduceEqDiff, reduceCtorEq, CLe_refl, CLe_top, CLe_full, CLe_nil, CLe_own, and_true, true_and]; all_goals (repeat' first | exact CLe.refl _ | exact True.intro | (refine CLe_sln ?_; first | with_reducible rfl | (simp only [List.take_zero]; done) | (rfl; done)) | exact CLe_nI (by omega) | exact CLe_int (by omega) | exact CLe_inI (by omega) | exact CLe_nIi (by omega) | with_reducible apply And.intro))
    all_goals first | (rw [senR_T (.inl b1), ← b1]; exact CLe.refl _) | (rw [senR_T (.inr ((stopR_I b1 hc12).symm.trans hc25))]; exact CLe.refl _) | (rw [senR_F (fun h => h.elim b1 (fun h => hc25 ((stopR_I b1 hc12).trans h)))]; exact CLe.refl _)
   ·
    refine Tr.rg hcx [] [some 15, some 16, some 17, some 18, some 19, some 20, some 21, some 22, some 23, some 24, some 25] [] rfl rfl rfl ?_
    simp -implicitDefEqProofs (maxSteps := 2000000) (disch := first | omega | (simp only [go_sem, List.length_append, List.length_drop, List.length_take, hb1] <;> omega) | decide) only [go_sem, ↓reduceIte, Nat.reduceEqDiff, reduceCtorEq, Nat.reduceLT, Nat.reduceBEq, Nat.reduceAdd, Nat.reduceSub, Nat.reduceMul, Nat.reduceMod, h15, h52, b1]
    refine hK10 _ ?_
    clear hK10 K10
    refine Tr.kp [0, 3, 4, 5, 6, 25] ?_
    simp only [pk_cons, pk_nil, ↓A_cons, ↓reduceIte, Nat.reduceEqDiff]
    refine Tr.condG fun KT KF hT hF => ?_
    simp only [ev_tmp, ev_const, ↓A_cons, ↓reduceIte, Nat.reduceEqDiff, reduceCtorEq, condG_bool, GB_true, GB_false, decide_eq_true_eq]
    refine GB.mk (fun hc25 => hT ?_) (fun hc25 => hF ?_)
    ·
     clear hT hF KT KF
     refine Tr.seqK fun K12 hK12 => ?_
     refine Tr.rg hcx [26, 1000032] _ [] rfl rfl rfl ?_
     simp -implicitDefEqProofs (maxSteps := 2000000) (disch := first | omega | (simp only [go_sem, List.length_append, List.length_drop, List.length_take, hb1] <;> omega) | decide) only [go_sem, ↓reduceIte, Nat.reduceEqDiff, reduceCtorEq, Nat.reduceLT, Nat.reduceBEq, Nat.reduceAdd, Nat.reduceSub, Nat.reduceMul, Nat.reduceMod, h15, h52, b1]
     refine hK12 _ ?_
     clear hK12 K12
     refine Tr.kp [0, 3, 4, 6] ?_
     simp only [pk_cons, pk_nil, ↓A_cons, ↓reduceIte, Nat.reduceEqDiff]
     refine Tr.rg hcx [1000034] _ [] rfl rfl rfl ?_
     simp -implicitDefEqProofs (maxSteps := 2000000) (disch := first | omega | (simp only [go_sem, List.length_append, List.length_drop, List.length_take, hb1] <;> omega) | decide) only [go_sem, ↓reduceIte, Nat.reduceEqDiff, reduceCtorEq, Nat.reduceLT, Nat.reduceBEq, Nat.reduceAdd, Nat.reduceSub, Nat.reduceMul, Nat.reduceMod, h15, h52, b1]
     refine hK9 _ ?_
     clear hK9 K9
     refine Tr.kp [0, 3, 4, 5, 6] ?_
     simp only [pk_cons, pk_nil, ↓A_cons, ↓reduceIte, Nat.reduceEqDiff]
     refine Tr.rg hcx [1000014] _ [] rfl rfl rfl ?_
     simp -implicitDefEqProofs (maxSteps := 2000000) (disch := first | omega | (simp only [go_sem, List.length_append, List.length_drop, List.length_take, hb1] <;> omega) | decide) only [go_sem, ↓reduceIte, Nat.reduceEqDiff, reduceCtorEq, Nat.reduceLT, Nat.reduceBEq, Nat.reduceAdd, Nat.reduceSub, Nat.reduceMul, Nat.reduceMod, h15, h52, b1]
     refine ⟨i + 1, ⟨by omega, by first | omega | (simp only []; omega)⟩, ?_, rfl⟩
     (simp only [Le_nil, Le_cons, ↓A_cons, ↓reduceIte, Nat.reduceEqDiff, reduceCtorEq, CLe_refl, CLe_top, CLe_full, CLe_nil, CLe_own, and_true, true_and]; all_goals (repeat' first | exact CLe.refl _ | exact True.intro | (refine CLe_sln ?_; first | with_reducible rfl | (simp only [List.take_zero]; done) | (rfl; done)) | exact CLe_nI (by omega) | exact CLe_int (by omega) | exact CLe_inI (by omega) | exact CLe_nIi (by omega) | with_reducible apply And.intro))
     all_goals first | (rw [senR_T (.inl b1), ← b1]; exact CLe.refl _) | (rw [senR_T (.inr ((stopR_I b1 hc12).symm.trans hc25))]; exact CLe.refl _) | (rw [senR_F (fun h => h.elim b1 (fun h => hc25 ((stopR_I b1 hc12).trans h)))]; exact CLe.refl _)
    ·
     clear hT hF KT KF
     have hc25 : ¬ stopR s (toks s) i = true := by rw [hc25]; simp
     refine Tr.skip ?_
     refine hK9 _ ?_
     clear hK9 K9
     refine Tr.kp [0, 3, 4, 5, 6] ?_
     simp only [pk_cons, pk_nil, ↓A_cons, ↓reduceIte, Nat.reduceEqDiff]
     refine Tr.rg hcx [1000014] _ [] rfl rfl rfl ?_
     simp -implicitDefEqProofs (maxSteps := 2000000) (disch := first | omega | (simp only [go_sem, List.length_append, List.length_drop, List.length_take, hb1] <;> omega) | decide) only [go_sem, ↓reduceIte, Nat.reduceEqDiff, reduceCtorEq, Nat.reduceLT, Nat.reduceBEq, Nat.reduceAdd, Nat.reduceSub, Nat.reduceMul, Nat.reduceMod, h15, h52, b1]
     refine ⟨i + 1, ⟨by omega, by first | omega | (simp only []; omega)⟩, ?_, rfl⟩
     (simp only [Le_nil, Le_cons, ↓A_cons, ↓reduceIte, Nat.reduceEqDiff, reduceCtorEq, CLe_refl, CLe_top, CLe_full, CLe_nil, CLe_own, and_true, true_and]; all_goals (repeat' first | exact CLe.refl _ | exact True.intro | (refine CLe_sln ?_; first | with_reducible rfl | (simp only [List.take_zero]; done) | (rfl; done)) | exact CLe_nI (by omega) | exact CLe_int (by omega) | exact CLe_inI (by omega) | exact CLe_nIi (by omega) | with_reducible apply And.intro))
     all_goals first | (rw [senR_T (.inl b1), ← b1]; exact CLe.refl _) | (rw [senR_T (.inr ((stopR_I b1 hc12).symm.trans hc25))]; exact CLe.refl _) | (rw [senR_F (fun h => h.elim b1 (fun h => hc25 ((stopR_I b1 hc12).trans h)))]; exact CLe.refl _)
  ·
   clear hT hF KT KF
   obtain rfl : i = (toks s).length := by omega
   refine Tr.exit ?_
   refine hK5 _ ?_
   clear hK7 K7 hK5 K5
   refine Tr.kp [4] ?_
   simp only [pk_cons, pk_nil, ↓A_cons, ↓reduceIte, Nat.reduceEqDiff]
   refine Tr.seqK fun K13 hK13 => ?_
   refine Tr.rg hcx [1000035] _ [] rfl rfl rfl ?_
   simp -implicitDefEqProofs (maxSteps := 2000000) (disch := first | omega | (simp only [go_sem, List.length_append, List.length_drop, List.length_take, hb1] <;> omega) | decide) only [go_sem, ↓reduceIte, Nat.reduceEqDiff, reduceCtorEq, Nat.reduceLT, Nat.reduceBEq, Nat.reduceAdd, Nat.reduceSub, Nat.reduceMul, Nat.reduceMod, h15, h52]
   refine hK13 _ ?_
   clear hK13 K13
   refine Tr.kp [2] ?_
   simp only [pk_cons, pk_nil, ↓A_cons, ↓reduceIte, Nat.reduceEqDiff]
   refine Tr.ret ?_
   simp -implicitDefEqProofs (disch := first | omega | (simp only [go_sem, List.length_append, List.length_drop, List.length_take, hb1] <;> omega) | decide) only [go_sem, ↓reduceIte, Nat.reduceEqDiff, reduceCtorEq]
   all_goals (rfl)
end Go.Sx
namespace Go.Sx
open Go.RowKit Go.Proofs
set_option maxRecDepth 100000 in
set_option maxHeartbeats 8000000 in
theorem fc43 {gl : Nat → C} {M : Nat} {pu : Nat → List C → Option C}  (hcx : CxOK (cxP gl M pu)) (s : List UInt8) (i : Nat) (hs : i < s.length ∧ s.length ≤ 1000000) : FC Try.prog gl 43 [.val (nI i), .kp [.val (str s)]] [] (.val (.bool (badAt s i))) [] := by
 replace hcx := hcx.reN (M := 38)
 refine FC.ofA (cx := cxP gl 38 pu) (rs := [.tmp 3]) rfl Try.func43 rfl rfl rfl (by simp only [List.length_cons, List.length_nil]; decide) (by simp only [go_sem]) ?_
 simp only [ini, go_sem]
 refine Tr.seqK fun K1 hK1 => ?_
 refine Tr.rg hcx [] _ [] rfl rfl rfl ?_
 simp -implicitDefEqProofs (maxSteps := 2000000) (disch := first | omega | (simp only [go_sem, List.length_append, List.length_drop, List.length_take] <;> omega) | decide) only [go_sem, ↓reduceIte, Nat.reduceEqDiff, reduceCtorEq, Nat.reduceLT, Nat.reduceBEq, Nat.reduceAdd, Nat.reduceSub, Nat.reduceMul, Nat.reduceMod]
 refine hK1 _ ?_
 clear hK1 K1
 refine Tr.kp [0, 1] ?_
 simp only [pk_cons, pk_nil, ↓A_cons, ↓reduceIte, Nat.reduceEqDiff]
 refine Tr.seqK fun K2 hK2 => ?_
 by_cases b1 : gt s i < UInt8.ofNat 32
 ·
  refine Tr.rg hcx [1000037] [some 4, some 5, some 6, some 7, some 8, some 9, some 10, some 11, some 12, some 13, some 14, some 15, some 16, some 17, some 18, some 19, some 20, some 21, some 22, some 23, some 24, some 25, some 26, some 27, some 28, some 29, some 30, some 31, some 32, some 33, some 34, some 35, some 36, some 37, some 3] [] rfl rfl rfl ?_
  simp -implicitDefEqProofs (maxSteps := 2000000) (disch := first | omega | (simp only [go_sem, List.length_append, List.length_drop, List.length_take] <;> omega) | decide) only [go_sem, ↓reduceIte, Nat.reduceEqDiff, reduceCtorEq, Nat.reduceLT, Nat.reduceBEq, Nat.reduceAdd, Nat.reduceSub, Nat.reduceMul, Nat.reduceMod, b1]
  refine hK2 _ ?_
  clear hK2 K2
  refine Tr.kp [3] ?_
  simp only [pk_cons, pk_nil, ↓A_cons, ↓reduceIte, Nat.reduceEqDiff]
  refine Tr.ret ?_
  simp -implicitDefEqProofs (disch := first | omega | (simp only [go_sem, List.length_append, List.length_drop, List.length_take] <;> omega) | decide) only [go_sem, ↓reduceIte, Nat.reduceEqDiff, reduceCtorEq]
  all_goals (exact congrArg (fun z => some (C.val (.bool z))) (by unfold badAt; simp_all <;> omega))
 ·
  by_cases b2 : UInt8.ofNat 126 < gt s i
  ·
   refine Tr.rg hcx [1000037] [some 4, some 5, some 6, some 7, some 8, some 9, some 10, some 11, some 12, some 13, some 14, some 15, some 16, some 17, some 18, some 19, some 20, some 21, some 22, some 23, some 24, some 25, some 26, some 27, some 28, some 29, some 30, some 31, some 32, some 33, some 34, some 35, some 36, some 37, some 3] [] rfl rfl rfl ?_
   simp -implicitDefEqProofs (maxSteps := 2000000) (disch := first | omega | (simp only [go_sem, List.length_append, List.length_drop, List.length_take] <;> omega) | decide) only [go_sem, ↓reduceIte, Nat.reduceEqDiff, reduceCtorEq, Nat.reduceLT, Nat.reduceBEq, Nat.reduceAdd, Nat.reduceSub, Nat.reduceMul, Nat.reduceMod, b1, b2]
   refine hK2 _ ?_
   clear hK2 K2
   refine Tr.kp [3] ?_
   simp only [pk_cons, pk_nil, ↓A_cons, ↓reduceIte, Nat.reduceEqDiff]
   refine Tr.ret ?_
   simp -implicitDefEqProofs (disch := first | omega | (simp only [go_sem, List.length_append, List.length_drop, List.length_take] <;> omega) | decide) only [go_sem, ↓reduceIte, Nat.reduceEqDiff, reduceCtorEq]
   all_goals (exact congrArg (fun z => some (C.val (.bool z))) (by unfold badAt; simp_all <;> omega))
  ·
   by_cases b3 : gt s i = UInt8.ofNat 32
   ·
    have b3o := b3
    replace b3 := eq_true b3
    by_cases b4 : i = 0
    ·
     have b4o := b4
     replace b4 := eq_true b4
     refine Tr.rg hcx [1000037] [some 4, some 5, some 6, some 7, some 8, some 9, some 10, some 11, some 12, some 13, some 14, some 15, some 16, some 17, some 18, some 19, some 20, some 21, some 22, some 23, some 24, some 25, some 26, some 27, some 28, some 29, some 30, some 31, some 32, some 33, some 34, some 35, some 36, some 37, some 3] [] rfl rfl rfl ?_
     simp -implicitDefEqProofs (maxSteps := 2000000) (disch := first | omega | (simp only [go_sem, List.length_append, List.length_drop, List.length_take] <;> omega) | decide) only [go_sem, ↓reduceIte, Nat.reduceEqDiff, reduceCtorEq, Nat.reduceLT, Nat.reduceBEq, Nat.reduceAdd, Nat.reduceSub, Nat.reduceMul, Nat.reduceMod, b1, b2, b3, b4]
     refine hK2 _ ?_
     clear hK2 K2
     refine Tr.kp [3] ?_
     simp only [pk_cons, pk_nil, ↓A_cons, ↓reduceIte, Nat.reduceEqDiff]
     refine Tr.ret ?_
     simp -implicitDefEqProofs (disch := first | omega | (simp only [go_sem, List.length_append, List.length_drop, List.length_take] <;> omega) | decide) only [go_sem, ↓reduceIte, Nat.reduceEqDiff, reduceCtorEq]
     all_goals (exact congrArg (fun z => some (C.val (.bool z))) (by unfold badAt; simp_all <;> omega))
    ·
     have b4o := b4
     replace b4 := eq_false b4
     by_cases b5 : i = s.length - 1
     ·
      have b5o := b5
      replace b5 := eq_true b5
      refine Tr.rg hcx [1000037] [some 4, some 5, some 6, some 7, some 8, some 9, some 10, some 11, some 12, some 13, some 14, some 15, some 16, some 17, some 18, some 19, some 20, some 21, some 22, some 23, some 24, some 25, some 26, some 27, some 28, some 29, some 30, some 31, some 32, some 33, some 34, some 35, some 36, some 37, some 3] [] rfl rfl rfl ?_
      simp -implicitDefEqProofs (maxSteps := 2000000) (disch := first | omega | (simp only [go_sem, List.length_append, List.length_drop, List.length_take] <;> omega) | decide) only [go_sem, ↓reduceIte, Nat.reduceEqDiff, reduceCtorEq, Nat.reduceLT, Nat.reduceBEq, Nat.reduceAdd, Nat.reduceSub, Nat.reduceMul, Nat.reduceMod, b1, b2, b3, b4, b5]
      refine hK2 _ ?_
      clear hK2 K2
      refine Tr.kp [3] ?_
      simp only [pk_cons, pk_nil, ↓A_cons, ↓reduceIte, Nat.reduceEqDiff]
      refine Tr.ret ?_
      simp -implicitDefEqProofs (disch := first | omega | (simp only [go_sem, List.length_append, List.length_drop, List.length_take] <;> omega) | decide) only [go_sem, ↓reduceIte, Nat.reduceEqDiff, reduceCtorEq]
      all_goals (exact congrArg (fun z => some (C.val (.bool z))) (by unfold badAt; simp_all <;> omega))
     ·
      have b5o := b5
      replace b5 := eq_false b5
      refine Tr.rg hcx [1000037] [some 4, some 5, some 6, some 7, some 8, some 9, some 10, some 11, some 12, some 13, some 14, some 15, some 16, some 17, some 18, some 19, some 20, some 21, some 22, some 23, some 24, some 25, some 26, some 27, some 28, some 29, some 30, some 31, some 32, some 33, some 34, some 35, some 36, some 37, some 3] [] rfl rfl rfl ?_
      simp -implicitDefEqProofs (maxSteps := 2000000) (disch := first | omega | (simp only [go_sem, List.length_append, List.length_drop, List.length_take] <;> omega) | decide) only [go_sem, ↓reduceIte, Nat.reduceEqDiff, reduceCtorEq, Nat.reduceLT, Nat.reduceBEq, Nat.reduceAdd, Nat.reduceSub, Nat.reduceMul, Nat.reduceMod, b1, b2, b3, b4, b5]
      refine hK2 _ ?_
      clear hK2 K2
      refine Tr.kp [3] ?_
      simp only [pk_cons, pk_nil, ↓A_cons, ↓reduceIte, Nat.reduceEqDiff]
      refine Tr.ret ?_
      simp -implicitDefEqProofs (disch := first | omega | (simp only [go_sem, List.length_append, List.length_drop, List.length_take] <;> omega) | decide) only [go_sem, ↓reduceIte, Nat.reduceEqDiff, reduceCtorEq]
      all_goals (exact congrArg (fun z => some (C.val (.bool z))) (by unfold badAt; simp_all <;> omega))
   ·
    have b3o := b3
    replace b3 := eq_false b3
    refine Tr.rg hcx [1000037] [some 4, some 5, some 6, some 7, some 8, some 9, some 10, some 11, some 12, some 13, some 14, some 15, some 16, some 17, some 18, some 19, some 20, some 21, some 22, some 23, some 24, some 25, some 26, some 27, some 28, some 29, some 30, some 31, some 32, some 33, some 34, some 35, some 36, some 37, some 3] [] rfl rfl rfl ?_
    simp -implicitDefEqProofs (maxSteps := 2000000) (disch := first | omega | (simp only [go_sem, List.length_append, List.length_drop, List.length_take] <;> omega) | decide) only [go_sem, ↓reduceIte, Nat.reduceEqDiff, reduceCtorEq, Nat.reduceLT, Nat.reduceBEq, Nat.reduceAdd, Nat.reduceSub, Nat.reduceMul, Nat.reduceMod, b1, b2, b3]
    refine hK2 _ ?_
    clear hK2 K2
    refine Tr.kp [3] ?_
    simp only [pk_cons, pk_nil, ↓A_cons, ↓reduceIte, Nat.reduceEqDiff]
    refine Tr.ret ?_
    simp -implicitDefEqProofs (disch := first | omega | (simp only [go_sem, List.length_append, List.length_drop, List.length_take] <;> omega) | decide) only [go_sem, ↓reduceIte, Nat.reduceEqDiff, reduceCtorEq]
    all_goals (exact congrArg (fun z => some (C.val (.bool z))) (by unfold badAt; simp_all <;> omega))
end Go.Sx
