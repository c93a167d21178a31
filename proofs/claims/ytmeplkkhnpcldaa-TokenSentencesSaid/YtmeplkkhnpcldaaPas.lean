/-
  Package token: the reference's Cut. And what follows.
-/
import Derived.Test.YtmeplkkhnpcldaaPar
import Derived.Test.YtmeplkkhnpcldaaPaa
import Derived.Test.YtmeplkkhnpcldaaPak
set_option linter.unusedSimpArgs false
set_option linter.unusedVariables false
namespace Go.Sx
open Go.RowKit Go.Proofs
set_option maxRecDepth 100000 in
set_option maxHeartbeats 8000000 in
theorem fc36 {gl : Nat → C} {M : Nat} {pu : Nat → List C → Option C}  (hcx : CxOK (cxP gl M pu)) (h13 : ∀ s : List UInt8, s.length ≤ 1000000 → pu 13 [.val (str s)] = some (.val (nI (validE s)))) (h15 : ∀ s : List UInt8, s.length ≤ 1000000 → pu 15 [.val (str s)] = some (sl tC .no (toks s))) (h53 : ∀ (l : List Tok) (i : Nat), i < l.length ∧ l.length ≤ 1000000 → pu 53 [sl tC .no l, .val (nI i)] = some (.val (.bool (firstT l i)))) (s : List UInt8) (k : Int) (hs : s.length ≤ 1000000) (hk : -9223372036854775808 ≤ k ∧ k ≤ 9223372036854775807) : FC Try.prog gl 36 [.val (str s), .val (.int .i64 k)] [] (.tup [.val (str (cutT s k).1), .val (str (cutT s k).2.1), .val (nI (cutT s k).2.2)]) [] := by
 replace hcx := hcx.reN (M := 45)
 refine FC.ofA (cx := cxP gl 45 pu) (rs := [.tmp 4, .tmp 5, .tmp 6]) rfl Try.func36 rfl rfl rfl (by simp only [List.length_cons, List.length_nil]; decide) (by simp only [go_sem]) ?_
 simp only [ini, go_sem]
 have hT := toks_len s
 refine Tr.seqK fun K1 hK1 => ?_
 refine Tr.rg hcx [] _ [] rfl rfl rfl ?_
 simp -implicitDefEqProofs (maxSteps := 2000000) (disch := first | omega | (simp only [go_sem, List.length_append, List.length_drop, List.length_take] <;> omega) | decide) only [go_sem, ↓reduceIte, Nat.reduceEqDiff, reduceCtorEq, Nat.reduceLT, Nat.reduceBEq, Nat.reduceAdd, Nat.reduceSub, Nat.reduceMul, Nat.reduceMod, h13, h15, h53]
 refine hK1 _ ?_
 clear hK1 K1
 refine Tr.kp [0, 1] ?_
 simp only [pk_cons, pk_nil, ↓A_cons, ↓reduceIte, Nat.reduceEqDiff]
 refine Tr.seqK fun K2 hK2 => ?_
 refine Tr.rg hcx [1000010] _ [] rfl rfl rfl ?_
 simp -implicitDefEqProofs (maxSteps := 2000000) (disch := first | omega | (simp only [go_sem, List.length_append, List.length_drop, List.length_take] <;> omega) | decide) only [go_sem, ↓reduceIte, Nat.reduceEqDiff, reduceCtorEq, Nat.reduceLT, Nat.reduceBEq, Nat.reduceAdd, Nat.reduceSub, Nat.reduceMul, Nat.reduceMod, h13, h15, h53]
 refine hK2 _ ?_
 clear hK2 K2
 refine Tr.kp [0, 1, 7] ?_
 simp only [pk_cons, pk_nil, ↓A_cons, ↓reduceIte, Nat.reduceEqDiff]
 refine Tr.seqK fun K3 hK3 => ?_
 refine Tr.seqK fun K4 hK4 => ?_
 refine Tr.rg hcx [] _ [] rfl rfl rfl ?_
 simp -implicitDefEqProofs (maxSteps := 2000000) (disch := first | omega | (simp only [go_sem, List.length_append, List.length_drop, List.length_take] <;> omega) | decide) only [go_sem, ↓reduceIte, Nat.reduceEqDiff, reduceCtorEq, Nat.reduceLT, Nat.reduceBEq, Nat.reduceAdd, Nat.reduceSub, Nat.reduceMul, Nat.reduceMod, h13, h15, h53]
 refine hK4 _ ?_
 clear hK4 K4
 refine Tr.kp [0, 1, 7, 12] ?_
 simp only [pk_cons, pk_nil, ↓A_cons, ↓reduceIte, Nat.reduceEqDiff]
 refine Tr.condG fun KT KF hT hF => ?_
 simp only [ev_tmp, ev_const, ↓A_cons, ↓reduceIte, Nat.reduceEqDiff, reduceCtorEq, condG_bool, GB_true, GB_false, decide_eq_true_eq]
 refine GB.dec (fun hc12 => hT ?_) (fun hc12 => hF ?_)
 ·
  clear hT hF KT KF
  refine Tr.seqK fun K5 hK5 => ?_
  refine Tr.rg hcx [1000013] _ [] rfl rfl rfl ?_
  simp -implicitDefEqProofs (maxSteps := 2000000) (disch := first | omega | (simp only [go_sem, List.length_append, List.length_drop, List.length_take] <;> omega) | decide) only [go_sem, ↓reduceIte, Nat.reduceEqDiff, reduceCtorEq, Nat.reduceLT, Nat.reduceBEq, Nat.reduceAdd, Nat.reduceSub, Nat.reduceMul, Nat.reduceMod, h13, h15, h53]
  refine hK5 _ ?_
  clear hK5 K5
  refine Tr.kp [4, 5, 6] ?_
  simp only [pk_cons, pk_nil, ↓A_cons, ↓reduceIte, Nat.reduceEqDiff]
  refine Tr.ret ?_
  simp -implicitDefEqProofs (disch := first | omega | (simp only [go_sem, List.length_append, List.length_drop, List.length_take] <;> omega) | decide) only [go_sem, ↓reduceIte, Nat.reduceEqDiff, reduceCtorEq]
  all_goals (first | rw [cut_v hc12] | (rw [cut_b hc12 (.inl b1)]) | (rw [cut_b hc12 (.inr (.inl b2))]) | (rw [cut_b (k := (k' : Int)) hc12 (.inr (.inr hc37))]) | (rw [cut_ok (k := k') hc12 (by omega) (by omega) hc37]))
 ·
  clear hT hF KT KF
  refine Tr.skip ?_
  refine hK3 _ ?_
  clear hK3 K3
  refine Tr.kp [0, 1] ?_
  simp only [pk_cons, pk_nil, ↓A_cons, ↓reduceIte, Nat.reduceEqDiff]
  refine Tr.seqK fun K6 hK6 => ?_
  refine Tr.rg hcx [1000015] _ [] rfl rfl rfl ?_
  simp -implicitDefEqProofs (maxSteps := 2000000) (disch := first | omega | (simp only [go_sem, List.length_append, List.length_drop, List.length_take] <;> omega) | decide) only [go_sem, ↓reduceIte, Nat.reduceEqDiff, reduceCtorEq, Nat.reduceLT, Nat.reduceBEq, Nat.reduceAdd, Nat.reduceSub, Nat.reduceMul, Nat.reduceMod, h13, h15, h53]
  refine hK6 _ ?_
  clear hK6 K6
  refine Tr.kp [0, 1, 8] ?_
  simp only [pk_cons, pk_nil, ↓A_cons, ↓reduceIte, Nat.reduceEqDiff]
  refine Tr.seqK fun K7 hK7 => ?_
  refine Tr.seqK fun K8 hK8 => ?_
  by_cases b1 : k < ((1 : Nat) : Int)
  ·
   refine Tr.rg hcx [] [some 16, some 17, some 18, some 19, some 20, some 21, some 22, some 23, some 24, some 25, some 26, some 27, some 28, some 29] [] rfl rfl rfl ?_
   simp -implicitDefEqProofs (maxSteps := 2000000) (disch := first | omega | (simp only [go_sem, List.length_append, List.length_drop, List.length_take] <;> omega) | decide) only [go_sem, ↓reduceIte, Nat.reduceEqDiff, reduceCtorEq, Nat.reduceLT, Nat.reduceBEq, Nat.reduceAdd, Nat.reduceSub, Nat.reduceMul, Nat.reduceMod, h13, h15, h53, b1, int_nI']
   refine hK8 _ ?_
   clear hK8 K8
   refine Tr.kp [0, 1, 8, 29] ?_
   simp only [pk_cons, pk_nil, ↓A_cons, ↓reduceIte, Nat.reduceEqDiff]
   refine Tr.condG fun KT KF hT hF => ?_
   simp only [ev_tmp, ev_const, ↓A_cons, ↓reduceIte, Nat.reduceEqDiff, reduceCtorEq, condG_bool, GB_true, GB_false, decide_eq_true_eq]
   refine hT ?_
   clear hT hF KT KF
   refine Tr.seqK fun K9 hK9 => ?_
   refine Tr.rg hcx [] _ [] rfl rfl rfl ?_
   simp -implicitDefEqProofs (maxSteps := 2000000) (disch := first | omega | (simp only [go_sem, List.length_append, List.length_drop, List.length_take] <;> omega) | decide) only [go_sem, ↓reduceIte, Nat.reduceEqDiff, reduceCtorEq, Nat.reduceLT, Nat.reduceBEq, Nat.reduceAdd, Nat.reduceSub, Nat.reduceMul, Nat.reduceMod, h13, h15, h53, b1]
   refine hK9 _ ?_
   clear hK9 K9
   refine Tr.kp [4, 5, 6] ?_
   simp only [pk_cons, pk_nil, ↓A_cons, ↓reduceIte, Nat.reduceEqDiff]
   refine Tr.ret ?_
   simp -implicitDefEqProofs (disch := first | omega | (simp only [go_sem, List.length_append, List.length_drop, List.length_take] <;> omega) | decide) only [go_sem, ↓reduceIte, Nat.reduceEqDiff, reduceCtorEq]
   all_goals (first | rw [cut_v hc12] | (rw [cut_b hc12 (.inl b1)]) | (rw [cut_b hc12 (.inr (.inl b2))]) | (rw [cut_b (k := (k' : Int)) hc12 (.inr (.inr hc37))]) | (rw [cut_ok (k := k') hc12 (by omega) (by omega) hc37]))
  ·
   by_cases b2 : (((toks s).length : Nat) : Int) ≤ k
   ·
    refine Tr.rg hcx [] [some 16, some 17, some 18, some 19, some 20, some 21, some 22, some 23, some 24, some 25, some 26, some 27, some 28, some 29] [] rfl rfl rfl ?_
    simp -implicitDefEqProofs (maxSteps := 2000000) (disch := first | omega | (simp only [go_sem, List.length_append, List.length_drop, List.length_take] <;> omega) | decide) only [go_sem, ↓reduceIte, Nat.reduceEqDiff, reduceCtorEq, Nat.reduceLT, Nat.reduceBEq, Nat.reduceAdd, Nat.reduceSub, Nat.reduceMul, Nat.reduceMod, h13, h15, h53, b1, b2, int_nI']
    refine hK8 _ ?_
    clear hK8 K8
    refine Tr.kp [0, 1, 8, 29] ?_
    simp only [pk_cons, pk_nil, ↓A_cons, ↓reduceIte, Nat.reduceEqDiff]
    refine Tr.condG fun KT KF hT hF => ?_
    simp only [ev_tmp, ev_const, ↓A_cons, ↓reduceIte, Nat.reduceEqDiff, reduceCtorEq, condG_bool, GB_true, GB_false, decide_eq_true_eq]
    refine hT ?_
    clear hT hF KT KF
    refine Tr.seqK fun K10 hK10 => ?_
    refine Tr.rg hcx [] _ [] rfl rfl rfl ?_
    simp -implicitDefEqProofs (maxSteps := 2000000) (disch := first | omega | (simp only [go_sem, List.length_append, List.length_drop, List.length_take] <;> omega) | decide) only [go_sem, ↓reduceIte, Nat.reduceEqDiff, reduceCtorEq, Nat.reduceLT, Nat.reduceBEq, Nat.reduceAdd, Nat.reduceSub, Nat.reduceMul, Nat.reduceMod, h13, h15, h53, b1, b2]
    refine hK10 _ ?_
    clear hK10 K10
    refine Tr.kp [4, 5, 6] ?_
    simp only [pk_cons, pk_nil, ↓A_cons, ↓reduceIte, Nat.reduceEqDiff]
    refine Tr.ret ?_
    simp -implicitDefEqProofs (disch := first | omega | (simp only [go_sem, List.length_append, List.length_drop, List.length_take] <;> omega) | decide) only [go_sem, ↓reduceIte, Nat.reduceEqDiff, reduceCtorEq]
    all_goals (first | rw [cut_v hc12] | (rw [cut_b hc12 (.inl b1)]) | (rw [cut_b hc12 (.inr (.inl b2))]) | (rw [cut_b (k := (k' : Int)) hc12 (.inr (.inr hc37))]) | (rw [cut_ok (k := k') hc12 (by omega) (by omega) hc37]))
   ·
    obtain ⟨k', rfl⟩ : ∃ k' : Nat, k = (k' : Int) := ⟨k.toNat, by omega⟩
    replace b1 : ¬ k' < 1 := by omega
    replace b2 : ¬ (toks s).length ≤ k' := by omega
    have hb2 := toks_get s k' (by omega)
    have hb3 := toks_get s (k' - 1) (by omega)
    have hb4 := (toks_lie s).lt (k' - 1) k' (by omega) (by omega)
    refine Tr.rg hcx [] [some 16, some 17, some 18, some 19, some 20, some 21, some 22, some 23, some 24, some 25, some 26, some 27, some 28, some 29] [] rfl rfl rfl ?_
    simp -implicitDefEqProofs (maxSteps := 2000000) (disch := first | omega | (simp only [go_sem, List.length_append, List.length_drop, List.length_take] <;> omega) | decide) only [go_sem, ↓reduceIte, Nat.reduceEqDiff, reduceCtorEq, Nat.reduceLT, Nat.reduceBEq, Nat.reduceAdd, Nat.reduceSub, Nat.reduceMul, Nat.reduceMod, h13, h15, h53, b1, b2, int_nI']
    refine hK8 _ ?_
    clear hK8 K8
    refine Tr.kp [0, 1, 8, 29] ?_
    simp only [pk_cons, pk_nil, ↓A_cons, ↓reduceIte, Nat.reduceEqDiff]
    refine Tr.condG fun KT KF hT hF => ?_
    simp only [ev_tmp, ev_const, ↓A_cons, ↓reduceIte, Nat.reduceEqDiff, reduceCtorEq, condG_bool, GB_true, GB_false, decide_eq_true_eq]
    refine GB.mk (fun hc29 => hT ?_) (fun hc29 => hF ?_)
    ·
     clear hT hF KT KF
     have hc37 :  (gt (toks s) k').a = (gt (toks s) (k' - 1)).e := by
       rw [first_eq (by omega) (by omega)] at hc29
       simpa using hc29
     refine Tr.seqK fun K11 hK11 => ?_
     refine Tr.rg hcx [] _ [] rfl rfl rfl ?_
     simp -implicitDefEqProofs (maxSteps := 2000000) (disch := first | omega | (simp only [go_sem, List.length_append, List.length_drop, List.length_take] <;> omega) | decide) only [go_sem, ↓reduceIte, Nat.reduceEqDiff, reduceCtorEq, Nat.reduceLT, Nat.reduceBEq, Nat.reduceAdd, Nat.reduceSub, Nat.reduceMul, Nat.reduceMod, h13, h15, h53, b1, b2]
     refine hK11 _ ?_
     clear hK11 K11
     refine Tr.kp [4, 5, 6] ?_
     simp only [pk_cons, pk_nil, ↓A_cons, ↓reduceIte, Nat.reduceEqDiff]
     refine Tr.ret ?_
     simp -implicitDefEqProofs (disch := first | omega | (simp only [go_sem, List.length_append, List.length_drop, List.length_take] <;> omega) | decide) only [go_sem, ↓reduceIte, Nat.reduceEqDiff, reduceCtorEq]
     all_goals (first | rw [cut_v hc12] | (rw [cut_b hc12 (.inl b1)]) | (rw [cut_b hc12 (.inr (.inl b2))]) | (rw [cut_b (k := (k' : Int)) hc12 (.inr (.inr hc37))]) | (rw [cut_ok (k := k') hc12 (by omega) (by omega) hc37]))
    ·
     clear hT hF KT KF
     have hc37 : ¬ (gt (toks s) k').a = (gt (toks s) (k' - 1)).e := by
       rw [first_eq (by omega) (by omega)] at hc29
       simpa using hc29
     refine Tr.skip ?_
     refine hK7 _ ?_
     clear hK7 K7
     refine Tr.kp [0, 1, 8] ?_
     simp only [pk_cons, pk_nil, ↓A_cons, ↓reduceIte, Nat.reduceEqDiff]
     refine Tr.seqK fun K12 hK12 => ?_
     refine Tr.rgD hcx hMO [1000037, 1000044] _ [] rfl rfl rfl rfl ?_
     simp -implicitDefEqProofs (maxSteps := 2000000) (disch := first | omega | (simp only [go_sem, List.length_append, List.length_drop, List.length_take] <;> omega) | decide) only [go_sem, ↓reduceIte, Nat.reduceEqDiff, reduceCtorEq, Nat.reduceLT, Nat.reduceBEq, Nat.reduceAdd, Nat.reduceSub, Nat.reduceMul, Nat.reduceMod, h13, h15, h53, b1, b2, int_nI']
     with_reducible refine And.intro ?_ ?_
     · exact rfl
     refine hK12 _ ?_
     clear hK12 K12
     refine Tr.kp [4, 5, 6] ?_
     simp only [pk_cons, pk_nil, ↓A_cons, ↓reduceIte, Nat.reduceEqDiff]
     refine Tr.ret ?_
     simp -implicitDefEqProofs (disch := first | omega | (simp only [go_sem, List.length_append, List.length_drop, List.length_take] <;> omega) | decide) only [go_sem, ↓reduceIte, Nat.reduceEqDiff, reduceCtorEq]
     all_goals (first | rw [cut_v hc12] | (rw [cut_b hc12 (.inl b1)]) | (rw [cut_b hc12 (.inr (.inl b2))]) | (rw [cut_b (k := (k' : Int)) hc12 (.inr (.inr hc37))]) | (rw [cut_ok (k := k') hc12 (by omega) (by omega) hc37]))
end Go.Sx
namespace Go.Sx
open Go.RowKit Go.Proofs
theorem fc51 {gl : Nat → C} (l : List UInt8) (c : UInt8) : FC Try.prog gl 51 [.val (str l), .val (w8 c)] [] (.val (.int .i64 (Lib.indexByte l c))) [] := by
  refine FC.ofBelow (vals := [str l, w8 c]) ⟨_, Try.func51, rfl, rfl⟩ fun w => ?_
  refine (Try.strings_IndexByte ⟨l.toArray⟩ c.toNat w).mono ?_
  rintro e w' ⟨rfl, rfl⟩
  refine ⟨?_, Below.refl _ _⟩
  simp
theorem fc22 {gl : Nat → C} (s : List UInt8) (hs : s.length ≤ 1000000) : FC Try.prog gl 22 [.val (str s)] [] (.val (str (s.map low))) [] := by
  refine FC.ofBelow (vals := [str s]) ⟨_, Try.func22, rfl, rfl⟩ fun w => ?_
  exact Try.foldWalk _ _ (by omega)
end Go.Sx
namespace Go.Sx
open Go.RowKit Go.Proofs
theorem ix_stop (c : UInt8) : decide (((0 : Nat) : Int) ≤ Lib.indexByte [46, 63, 33] c) = isStop c := by
  have := all8 (fun c => decide (((0 : Nat) : Int) ≤ Lib.indexByte [46, 63, 33] c) == isStop c) (by decide +kernel) c
  simpa using this
set_option maxRecDepth 100000 in
set_option maxHeartbeats 8000000 in
theorem fc50 {gl : Nat → C} {M : Nat} {pu : Nat → List C → Option C}  (hcx : CxOK (cxP gl M pu)) (h51 : ∀ (l : List UInt8) (c : UInt8), pu 51 [.val (str l), .val (w8 c)] = some (.val (.int .i64 (Lib.indexByte l c)))) (s : List UInt8) (l : List Tok) (i : Nat) (hi : i + 1 < l.length ∧ l.length ≤ 1000000 ∧ (gt l i).a < s.length ∧ s.length ≤ 1000000) : FC Try.prog gl 50 [.val (nI i), .kp [.val (str s)], .kp [sl tC .no l]] [] (.val (.bool (stopI s l i))) [] := by
 replace hcx := hcx.reN (M := 28)
 refine FC.ofA (cx := cxP gl 28 pu) (rs := [.tmp 4]) rfl Try.func50 rfl rfl rfl (by simp only [List.length_cons, List.length_nil]; decide) (by simp only [go_sem]) ?_
 simp only [ini, go_sem]
 refine Tr.seqK fun K1 hK1 => ?_
 refine Tr.rg hcx [] _ [] rfl rfl rfl ?_
 simp -implicitDefEqProofs (maxSteps := 2000000) (disch := first | omega | (simp only [go_sem, List.length_append, List.length_drop, List.length_take] <;> omega) | decide) only [go_sem, ↓reduceIte, Nat.reduceEqDiff, reduceCtorEq, Nat.reduceLT, Nat.reduceBEq, Nat.reduceAdd, Nat.reduceSub, Nat.reduceMul, Nat.reduceMod, h51, ix_stop]
 refine hK1 _ ?_
 clear hK1 K1
 refine Tr.kp [0, 1, 2] ?_
 simp only [pk_cons, pk_nil, ↓A_cons, ↓reduceIte, Nat.reduceEqDiff]
 refine Tr.seqK fun K2 hK2 => ?_
 by_cases b1 : isStop (gt s (gt l i).a) = true
 ·
  refine Tr.rgD hcx hMO [1000027] [some 5, some 6, some 7, some 8, some 9, some 10, some 11, some 12, some 13, some 14, some 15, some 16, some 17, some 18, some 19, some 20, some 21, some 22, some 23, some 24, some 25, some 26, some 27, some 4] [] rfl rfl rfl rfl ?_
  simp -implicitDefEqProofs (maxSteps := 2000000) (disch := first | omega | (simp only [go_sem, List.length_append, List.length_drop, List.length_take] <;> omega) | decide) only [go_sem, ↓reduceIte, Nat.reduceEqDiff, reduceCtorEq, Nat.reduceLT, Nat.reduceBEq, Nat.reduceAdd, Nat.reduceSub, Nat.reduceMul, Nat.reduceMod, h51, ix_stop, b1]
  with_reducible refine And.intro ?_ ?_
  · exact rfl
  refine hK2 _ ?_
  clear hK2 K2
  refine Tr.kp [4] ?_
  simp only [pk_cons, pk_nil, ↓A_cons, ↓reduceIte, Nat.reduceEqDiff]
  refine Tr.ret ?_
  simp -implicitDefEqProofs (disch := first | omega | (simp only [go_sem, List.length_append, List.length_drop, List.length_take] <;> omega) | decide) only [go_sem, ↓reduceIte, Nat.reduceEqDiff, reduceCtorEq]
  all_goals (exact congrArg (fun z => some (C.val (.bool z))) (by unfold stopI; simp [b1]))
 ·
  refine Tr.rgD hcx hMO [1000027] [some 5, some 6, some 7, some 8, some 9, some 10, some 11, some 12, some 13, some 14, some 15, some 16, some 17, some 18, some 19, some 20, some 21, some 22, some 23, some 24, some 25, some 26, some 27, some 4] [] rfl rfl rfl rfl ?_
  simp -implicitDefEqProofs (maxSteps := 2000000) (disch := first | omega | (simp only [go_sem, List.length_append, List.length_drop, List.length_take] <;> omega) | decide) only [go_sem, ↓reduceIte, Nat.reduceEqDiff, reduceCtorEq, Nat.reduceLT, Nat.reduceBEq, Nat.reduceAdd, Nat.reduceSub, Nat.reduceMul, Nat.reduceMod, h51, ix_stop, b1]
  with_reducible refine And.intro ?_ ?_
  · exact rfl
  refine hK2 _ ?_
  clear hK2 K2
  refine Tr.kp [4] ?_
  simp only [pk_cons, pk_nil, ↓A_cons, ↓reduceIte, Nat.reduceEqDiff]
  refine Tr.ret ?_
  simp -implicitDefEqProofs (disch := first | omega | (simp only [go_sem, List.length_append, List.length_drop, List.length_take] <;> omega) | decide) only [go_sem, ↓reduceIte, Nat.reduceEqDiff, reduceCtorEq]
  all_goals (exact congrArg (fun z => some (C.val (.bool z))) (by unfold stopI; simp [b1]))
end Go.Sx
namespace Go.Sx
open Go.RowKit Go.Proofs
noncomputable def cxF (gl : Nat → C) (M : Nat) (pu : Nat → List C → Option C) : Cx := ⟨Try.prog, M, gl, pu, Sx.frzHp pu, fun _ => false⟩
theorem CxOK.toF {gl : Nat → C} {M N : Nat} {pu : Nat → List C → Option C} (h : CxOK (cxP gl M pu)) : CxOK (cxF gl N pu) := CxOK.frzHp h
end Go.Sx
namespace Go.Sx
open Go.RowKit Go.Proofs
set_option maxRecDepth 100000 in
set_option maxHeartbeats 8000000 in
theorem fc28 {gl : Nat → C} {M : Nat} {pu : Nat → List C → Option C}  (hcx : CxOK (cxF gl M pu)) (h18 : ∀ s : List UInt8, s.length ≤ 1000000 → pu 18 [.val (str s)] = some (sl tC (.own 3) (toks s))) (h50 : ∀ (s : List UInt8) (l : List Tok) (i : Nat), i + 1 < l.length ∧ l.length ≤ 1000000 ∧ (gt l i).a < s.length ∧ s.length ≤ 1000000 → pu 50 [.val (nI i), .kp [.val (str s)], .kp [sl tC .no l]] = some (.val (.bool (stopI s l i)))) (hno : ∀ (g : Nat) (xs : List C), refy xs = true → pu g xs = none) (s : List UInt8) (hs : s.length ≤ 1000000) : FC Try.prog gl 28 [.val (str s)] [] (sl pC (.own 2) (sents s)) [] := by
 replace hcx := hcx.reN (M := 37)
 refine FC.ofA (cx := cxF gl 37 pu) (rs := [.tmp 2]) rfl Try.func28 rfl rfl rfl (by simp only [List.length_cons, List.length_nil]; decide) (by simp only [go_sem]) ?_
 simp only [ini, go_sem]
 have hT := toks_len s
 have hb1 := True.intro
 refine Tr.seqK fun K1 hK1 => ?_
 refine Tr.rg hcx [] _ [none] rfl rfl rfl ?_
 simp -implicitDefEqProofs (maxSteps := 2000000) (disch := first | omega | (simp only [go_sem, List.length_append, List.length_drop, List.length_take, hb1] <;> omega) | decide) only [go_sem, ↓reduceIte, Nat.reduceEqDiff, reduceCtorEq, Nat.reduceLT, Nat.reduceBEq, Nat.reduceAdd, Nat.reduceSub, Nat.reduceMul, Nat.reduceMod, h18, h50, hno]
 refine hK1 _ ?_
 clear hK1 K1
 refine Tr.kp [1] ?_
 simp only [pk_cons, pk_nil, ↓A_cons, ↓reduceIte, Nat.reduceEqDiff]
 refine Tr.seqK fun K2 hK2 => ?_
 refine Tr.rg hcx [] _ [none] rfl rfl rfl ?_
 simp -implicitDefEqProofs (maxSteps := 2000000) (disch := first | omega | (simp only [go_sem, List.length_append, List.length_drop, List.length_take, hb1] <;> omega) | decide) only [go_sem, ↓reduceIte, Nat.reduceEqDiff, reduceCtorEq, Nat.reduceLT, Nat.reduceBEq, Nat.reduceAdd, Nat.reduceSub, Nat.reduceMul, Nat.reduceMod, h18, h50, hno]
 refine hK2 _ ?_
 clear hK2 K2
 refine Tr.kp [1, 3] ?_
 simp only [pk_cons, pk_nil, ↓A_cons, ↓reduceIte, Nat.reduceEqDiff]
 refine Tr.seqK fun K3 hK3 => ?_
 refine Tr.rg hcx [1000010] _ [] rfl rfl rfl ?_
 simp -implicitDefEqProofs (maxSteps := 2000000) (disch := first | omega | (simp only [go_sem, List.length_append, List.length_drop, List.length_take, hb1] <;> omega) | decide) only [go_sem, ↓reduceIte, Nat.reduceEqDiff, reduceCtorEq, Nat.reduceLT, Nat.reduceBEq, Nat.reduceAdd, Nat.reduceSub, Nat.reduceMul, Nat.reduceMod, h18, h50, hno]
 refine hK3 _ ?_
 clear hK3 K3
 refine Tr.kp [3, 4] ?_
 simp only [pk_cons, pk_nil, ↓A_cons, ↓reduceIte, Nat.reduceEqDiff]
 refine Tr.seqK fun K4 hK4 => ?_
 refine Tr.rg hcx [] _ [] rfl rfl rfl ?_
 simp -implicitDefEqProofs (maxSteps := 2000000) (disch := first | omega | (simp only [go_sem, List.length_append, List.length_drop, List.length_take, hb1] <;> omega) | decide) only [go_sem, ↓reduceIte, Nat.reduceEqDiff, reduceCtorEq, Nat.reduceLT, Nat.reduceBEq, Nat.reduceAdd, Nat.reduceSub, Nat.reduceMul, Nat.reduceMod, h18, h50, hno]
 refine hK4 _ ?_
 clear hK4 K4
 refine Tr.kp [3, 4, 5] ?_
 simp only [pk_cons, pk_nil, ↓A_cons, ↓reduceIte, Nat.reduceEqDiff]
 refine Tr.seqK fun K5 hK5 => ?_
 refine Tr.rg hcx [] _ [] rfl rfl rfl ?_
 simp -implicitDefEqProofs (maxSteps := 2000000) (disch := first | omega | (simp only [go_sem, List.length_append, List.length_drop, List.length_take, hb1] <;> omega) | decide) only [go_sem, ↓reduceIte, Nat.reduceEqDiff, reduceCtorEq, Nat.reduceLT, Nat.reduceBEq, Nat.reduceAdd, Nat.reduceSub, Nat.reduceMul, Nat.reduceMod, h18, h50, hno]
 refine hK5 _ ?_
 clear hK5 K5
 refine Tr.kp [3, 4, 5, 6] ?_
 simp only [pk_cons, pk_nil, ↓A_cons, ↓reduceIte, Nat.reduceEqDiff]
 refine Tr.seqK fun K6 hK6 => ?_
 refine Tr.seqK fun K7 hK7 => ?_
 refine Tr.rg hcx [] _ [] rfl rfl rfl ?_
 simp -implicitDefEqProofs (maxSteps := 2000000) (disch := first | omega | (simp only [go_sem, List.length_append, List.length_drop, List.length_take, hb1] <;> omega) | decide) only [go_sem, ↓reduceIte, Nat.reduceEqDiff, reduceCtorEq, Nat.reduceLT, Nat.reduceBEq, Nat.reduceAdd, Nat.reduceSub, Nat.reduceMul, Nat.reduceMod, h18, h50, hno]
 refine hK7 _ ?_
 clear hK7 K7
 refine Tr.kp [3, 4, 5, 6, 12, 13] ?_
 simp only [pk_cons, pk_nil, ↓A_cons, ↓reduceIte, Nat.reduceEqDiff]
 refine Tr.blk ?_
 refine Tr.loopI (α := Nat) (fun a => [(3, ?v3_14), (4, ?v4_14), (5, sl pC (.own 2) (senR s (toks s) a).2), (6, .val (nI (senR s (toks s) a).1)), (12, ?v12_14), (13, .val (nI a))]) (fun a => [some [.val (str s)], some [sl tC (.own 3) (toks s)]]) (fun a => a ≤ (toks s).length) (fun a => (toks s).length - a) (0) ?_ ?le_14 ?hh_14 ?bd_14
 case hh_14 => exact rfl
 case le_14 => (simp only [Le_nil, Le_cons, ↓A_cons, ↓reduceIte, Nat.reduceEqDiff, reduceCtorEq, CLe_refl, CLe_top, CLe_full, CLe_nil, CLe_own, and_true, true_and]; all_goals (repeat' first | exact CLe.refl _ | exact True.intro | (refine CLe_sln ?_; first | with_reducible rfl | (simp only [List.take_zero]; done) | (rfl; done)) | exact CLe_nI (by omega) | exact CLe_int (by omega) | exact CLe_inI (by omega) | exact CLe_nIi (by omega) | with_reducible apply And.intro))
 · omega
 case bd_14 =>
  rintro i hi
  have hb1 := senR_le s (toks s) i
  refine Tr.seqK fun K8 hK8 => ?_
  refine Tr.rg hcx [] _ [] rfl rfl rfl ?_
  simp -implicitDefEqProofs (maxSteps := 2000000) (disch := first | omega | (simp only [go_sem, List.length_append, List.length_drop, List.length_take, hb1] <;> omega) | decide) only [go_sem, ↓reduceIte, Nat.reduceEqDiff, reduceCtorEq, Nat.reduceLT, Nat.reduceBEq, Nat.reduceAdd, Nat.reduceSub, Nat.reduceMul, Nat.reduceMod, h18, h50, hno]
  refine hK8 _ ?_
  clear hK8 K8
  refine Tr.kp [3, 4, 5, 6, 12, 13, 14] ?_
  simp only [pk_cons, pk_nil, ↓A_cons, ↓reduceIte, Nat.reduceEqDiff]
  refine Tr.seqK fun K9 hK9 => ?_
  refine Tr.condG fun KT KF hT hF => ?_
  simp only [ev_tmp, ev_const, ↓A_cons, ↓reduceIte, Nat.reduceEqDiff, reduceCtorEq, condG_bool, GB_true, GB_false, decide_eq_true_eq]
  refine GB.dec (fun hc14 => hT ?_) (fun hc14 => hF ?_)
  ·
   clear hT hF KT KF
   have hb2 := toks_get s i hc14
   refine Tr.skip ?_
   refine hK9 _ ?_
   clear hK9 K9
   refine Tr.kp [3, 4, 5, 6, 12, 13] ?_
   simp only [pk_cons, pk_nil, ↓A_cons, ↓reduceIte, Nat.reduceEqDiff]
   refine Tr.seqK fun K10 hK10 => ?_
   refine Tr.blk ?_
   refine Tr.seqK fun K11 hK11 => ?_
   refine Tr.rg hcx [1000015] _ [] rfl rfl rfl ?_
   simp -implicitDefEqProofs (maxSteps := 2000000) (disch := first | omega | (simp only [go_sem, List.length_append, List.length_drop, List.length_take, hb1] <;> omega) | decide) only [go_sem, ↓reduceIte, Nat.reduceEqDiff, reduceCtorEq, Nat.reduceLT, Nat.reduceBEq, Nat.reduceAdd, Nat.reduceSub, Nat.reduceMul, Nat.reduceMod, h18, h50, hno]
   refine hK11 _ ?_
   clear hK11 K11
   refine Tr.kp [3, 4, 5, 6, 7, 12, 13] ?_
   simp only [pk_cons, pk_nil, ↓A_cons, ↓reduceIte, Nat.reduceEqDiff]
   refine Tr.seqK fun K12 hK12 => ?_
   by_cases b1 : i = (toks s).length - 1
   ·
    have b1o := b1
    replace b1 := eq_true b1
    refine Tr.rg hcx [] [some 16, some 17, some 18, some 19, some 20, some 21, some 22, some 23, some 24, some 25] [] rfl rfl rfl ?_
    simp -implicitDefEqProofs (maxSteps := 2000000) (disch := first | omega | (simp only [go_sem, List.length_append, List.length_drop, List.length_take, hb1] <;> omega) | decide) only [go_sem, ↓reduceIte, Nat.reduceEqDiff, reduceCtorEq, Nat.reduceLT, Nat.reduceBEq, Nat.reduceAdd, Nat.reduceSub, Nat.reduceMul, Nat.reduceMod, h18, h50, hno, b1]
    refine hK12 _ ?_
    clear hK12 K12
    refine Tr.kp [3, 4, 5, 6, 7, 12, 13, 25] ?_
    simp only [pk_cons, pk_nil, ↓A_cons, ↓reduceIte, Nat.reduceEqDiff]
    refine Tr.condG fun KT KF hT hF => ?_
    simp only [ev_tmp, ev_const, ↓A_cons, ↓reduceIte, Nat.reduceEqDiff, reduceCtorEq, condG_bool, GB_true, GB_false, decide_eq_true_eq]
    refine hT ?_
    clear hT hF KT KF
    refine Tr.seqK fun K13 hK13 => ?_
    refine Tr.rg hcx [26, 1000032] _ [] rfl rfl rfl ?_
    simp -implicitDefEqProofs (maxSteps := 2000000) (disch := first | omega | (simp only [go_sem, List.length_append, List.length_drop, List.length_take, hb1] <;> omega) | decide) only [go_sem, ↓reduceIte, Nat.reduceEqDiff, reduceCtorEq, Nat.reduceLT, Nat.reduceBEq, Nat.reduceAdd, Nat.reduceSub, Nat.reduceMul, Nat.reduceMod, h18, h50, hno, b1]
    refine hK13 _ ?_
    clear hK13 K13
    refine Tr.kp [3, 4, 5, 7, 12, 13] ?_
    simp only [pk_cons, pk_nil, ↓A_cons, ↓reduceIte, Nat.reduceEqDiff]
    refine Tr.rg hcx [1000034] _ [] rfl rfl rfl ?_
    simp -implicitDefEqProofs (maxSteps := 2000000) (disch := first | omega | (simp only [go_sem, List.length_append, List.length_drop, List.length_take, hb1] <;> omega) | decide) only [go_sem, ↓reduceIte, Nat.reduceEqDiff, reduceCtorEq, Nat.reduceLT, Nat.reduceBEq, Nat.reduceAdd, Nat.reduceSub, Nat.reduceMul, Nat.reduceMod, h18, h50, hno, b1]
    refine hK10 _ ?_
    clear hK10 K10
    refine Tr.kp [3, 4, 5, 6, 12, 13] ?_
    simp only [pk_cons, pk_nil, ↓A_cons, ↓reduceIte, Nat.reduceEqDiff]
    refine Tr.rg hcx [] _ [] rfl rfl rfl ?_
    simp -implicitDefEqProofs (maxSteps := 2000000) (disch := first | omega | (simp only [go_sem, List.length_append, List.length_drop, List.length_take, hb1] <;> omega) | decide) only [go_sem, ↓reduceIte, Nat.reduceEqDiff, reduceCtorEq, Nat.reduceLT, Nat.reduceBEq, Nat.reduceAdd, Nat.reduceSub, Nat.reduceMul, Nat.reduceMod, h18, h50, hno, b1]
    refine ⟨i + 1, ⟨by omega, by first | omega | (simp only []; omega)⟩, ?_, rfl⟩
    (simp only [Le_nil, Le_cons, ↓A_cons, ↓reduceIte, Nat.reduceEqDiff, reduceCtorEq, CLe_refl, CLe_top, CLe_full, CLe_nil, CLe_own, and_true, true_and]; all_goals (repeat' first | exact CLe.refl _ | exact True.intro | (refine CLe_sln ?_; first | with_reducible rfl | (simp only [List.take_zero]; done) | (rfl; done)) | exact CLe_nI (by omega) | exact CLe_int (by omega) | exact CLe_inI (by omega) | exact CLe_nIi (by omega) | with_reducible apply And.intro))
    all_goals first | (rw [senR_T (.inl (by omega))]; exact CLe.refl _) | (rw [senR_T (.inr hc25)]; exact CLe.refl _) | (rw [senR_F (fun h => h.elim (by omega) (fun h => by rw [hc25] at h; cases h))]; exact CLe.refl _)
   ·
    have b1o := b1
    refine Tr.rg hcx [] [some 16, some 17, some 18, some 19, some 20, some 21, some 22, some 23, some 24, some 25] [] rfl rfl rfl ?_
    simp -implicitDefEqProofs (maxSteps := 2000000) (disch := first | omega | (simp only [go_sem, List.length_append, List.length_drop, List.length_take, hb1] <;> omega) | decide) only [go_sem, ↓reduceIte, Nat.reduceEqDiff, reduceCtorEq, Nat.reduceLT, Nat.reduceBEq, Nat.reduceAdd, Nat.reduceSub, Nat.reduceMul, Nat.reduceMod, h18, h50, hno, b1]
    refine hK12 _ ?_
    clear hK12 K12
    refine Tr.kp [3, 4, 5, 6, 7, 12, 13, 25] ?_
    simp only [pk_cons, pk_nil, ↓A_cons, ↓reduceIte, Nat.reduceEqDiff]
    refine Tr.condG fun KT KF hT hF => ?_
    simp only [ev_tmp, ev_const, ↓A_cons, ↓reduceIte, Nat.reduceEqDiff, reduceCtorEq, condG_bool, GB_true, GB_false, decide_eq_true_eq]
    refine GB.mk (fun hc25 => hT ?_) (fun hc25 => hF ?_)
    ·
     clear hT hF KT KF
     refine Tr.seqK fun K14 hK14 => ?_
     refine Tr.rg hcx [26, 1000032] _ [] rfl rfl rfl ?_
     simp -implicitDefEqProofs (maxSteps := 2000000) (disch := first | omega | (simp only [go_sem, List.length_append, List.length_drop, List.length_take, hb1] <;> omega) | decide) only [go_sem, ↓reduceIte, Nat.reduceEqDiff, reduceCtorEq, Nat.reduceLT, Nat.reduceBEq, Nat.reduceAdd, Nat.reduceSub, Nat.reduceMul, Nat.reduceMod, h18, h50, hno, b1]
     refine hK14 _ ?_
     clear hK14 K14
     refine Tr.kp [3, 4, 5, 7, 12, 13] ?_
     simp only [pk_cons, pk_nil, ↓A_cons, ↓reduceIte, Nat.reduceEqDiff]
     refine Tr.rg hcx [1000034] _ [] rfl rfl rfl ?_
     simp -implicitDefEqProofs (maxSteps := 2000000) (disch := first | omega | (simp only [go_sem, List.length_append, List.length_drop, List.length_take, hb1] <;> omega) | decide) only [go_sem, ↓reduceIte, Nat.reduceEqDiff, reduceCtorEq, Nat.reduceLT, Nat.reduceBEq, Nat.reduceAdd, Nat.reduceSub, Nat.reduceMul, Nat.reduceMod, h18, h50, hno, b1]
     refine hK10 _ ?_
     clear hK10 K10
     refine Tr.kp [3, 4, 5, 6, 12, 13] ?_
     simp only [pk_cons, pk_nil, ↓A_cons, ↓reduceIte, Nat.reduceEqDiff]
     refine Tr.rg hcx [] _ [] rfl rfl rfl ?_
     simp -implicitDefEqProofs (maxSteps := 2000000) (disch := first | omega | (simp only [go_sem, List.length_append, List.length_drop, List.length_take, hb1] <;> omega) | decide) only [go_sem, ↓reduceIte, Nat.reduceEqDiff, reduceCtorEq, Nat.reduceLT, Nat.reduceBEq, Nat.reduceAdd, Nat.reduceSub, Nat.reduceMul, Nat.reduceMod, h18, h50, hno, b1]
     refine ⟨i + 1, ⟨by omega, by first | omega | (simp only []; omega)⟩, ?_, rfl⟩
     (simp only [Le_nil, Le_cons, ↓A_cons, ↓reduceIte, Nat.reduceEqDiff, reduceCtorEq, CLe_refl, CLe_top, CLe_full, CLe_nil, CLe_own, and_true, true_and]; all_goals (repeat' first | exact CLe.refl _ | exact True.intro | (refine CLe_sln ?_; first | with_reducible rfl | (simp only [List.take_zero]; done) | (rfl; done)) | exact CLe_nI (by omega) | exact CLe_int (by omega) | exact CLe_inI (by omega) | exact CLe_nIi (by omega) | with_reducible apply And.intro))
     all_goals first | (rw [senR_T (.inl (by omega))]; exact CLe.refl _) | (rw [senR_T (.inr hc25)]; exact CLe.refl _) | (rw [senR_F (fun h => h.elim (by omega) (fun h => by rw [hc25] at h; cases h))]; exact CLe.refl _)
    ·
     clear hT hF KT KF
     refine Tr.skip ?_
     refine hK10 _ ?_
     clear hK10 K10
     refine Tr.kp [3, 4, 5, 6, 12, 13] ?_
     simp only [pk_cons, pk_nil, ↓A_cons, ↓reduceIte, Nat.reduceEqDiff]
     refine Tr.rg hcx [] _ [] rfl rfl rfl ?_
     simp -implicitDefEqProofs (maxSteps := 2000000) (disch := first | omega | (simp only [go_sem, List.length_append, List.length_drop, List.length_take, hb1] <;> omega) | decide) only [go_sem, ↓reduceIte, Nat.reduceEqDiff, reduceCtorEq, Nat.reduceLT, Nat.reduceBEq, Nat.reduceAdd, Nat.reduceSub, Nat.reduceMul, Nat.reduceMod, h18, h50, hno, b1]
     refine ⟨i + 1, ⟨by omega, by first | omega | (simp only []; omega)⟩, ?_, rfl⟩
     (simp only [Le_nil, Le_cons, ↓A_cons, ↓reduceIte, Nat.reduceEqDiff, reduceCtorEq, CLe_refl, CLe_top, CLe_full, CLe_nil, CLe_own, and_true, true_and]; all_goals (repeat' first | exact CLe.refl _ | exact True.intro | (refine CLe_sln ?_; first | with_reducible rfl | (simp only [List.take_zero]; done) | (rfl; done)) | exact CLe_nI (by omega) | exact CLe_int (by omega) | exact CLe_inI (by omega) | exact CLe_nIi (by omega) | with_reducible apply And.intro))
     all_goals first | (rw [senR_T (.inl (by omega))]; exact CLe.refl _) | (rw [senR_T (.inr hc25)]; exact CLe.refl _) | (rw [senR_F (fun h => h.elim (by omega) (fun h => by rw [hc25] at h; cases h))]; exact CLe.refl _)
  ·
   clear hT hF KT KF
   obtain rfl : i = (toks s).length := by omega
   refine Tr.exit ?_
   refine hK6 _ ?_
   clear hK9 K9 hK6 K6
   refine Tr.kp [5] ?_
   simp only [pk_cons, pk_nil, ↓A_cons, ↓reduceIte, Nat.reduceEqDiff]
   refine Tr.seqK fun K15 hK15 => ?_
   refine Tr.rg hcx [1000036] _ [] rfl rfl rfl ?_
   simp -implicitDefEqProofs (maxSteps := 2000000) (disch := first | omega | (simp only [go_sem, List.length_append, List.length_drop, List.length_take, hb1] <;> omega) | decide) only [go_sem, ↓reduceIte, Nat.reduceEqDiff, reduceCtorEq, Nat.reduceLT, Nat.reduceBEq, Nat.reduceAdd, Nat.reduceSub, Nat.reduceMul, Nat.reduceMod, h18, h50, hno]
   refine hK15 _ ?_
   clear hK15 K15
   refine Tr.kp [2] ?_
   simp only [pk_cons, pk_nil, ↓A_cons, ↓reduceIte, Nat.reduceEqDiff]
   refine Tr.ret ?_
   simp -implicitDefEqProofs (disch := first | omega | (simp only [go_sem, List.length_append, List.length_drop, List.length_take, hb1] <;> omega) | decide) only [go_sem, ↓reduceIte, Nat.reduceEqDiff, reduceCtorEq]
   all_goals (rfl)
end Go.Sx
namespace Go.Sx
def aroundI (n : Int) (m : Nat) : Nat := ((if n < 0 then -(n + 1) else n).tmod (m : Int)).toNat
theorem around_int (n : Int) (m : Nat) : (((aroundI n m : Nat) : Int)) = (if n < 0 then -(n + 1) else n).tmod (m : Int) := by
  unfold aroundI
  refine Int.toNat_of_nonneg (Int.tmod_nonneg _ ?_)
  split <;> omega
theorem around_lt (n : Int) {m : Nat} (h : 0 < m) : aroundI n m < m := by
  have h1 := around_int n m
  have h2 := Int.tmod_lt_of_pos (if n < 0 then -(n + 1) else n) (b := (m : Int)) (by omega)
  omega
def atI (l : List Int) (i m : Nat) : Nat := if l.length ≤ i then 0 else aroundI (gt l i) m
theorem atI_lt (l : List Int) (i : Nat) {m : Nat} (h : 0 < m) : atI l i m < m := by
  unfold atI; split
  · exact h
  · exact around_lt _ h
def capC (c : UInt8) : UInt8 := if 97 ≤ c ∧ c ≤ 122 then c - 97 + 65 else c
def capT : List UInt8 → List UInt8
  | [] => []
  | c :: r => capC c :: r
def dresT (w : List UInt8) (n : Nat) : List UInt8 :=
  if n = 6 then capT w else if n = 7 then w ++ [44] else if n = 8 then w ++ [46] else if n = 9 then capT w ++ [46] else if n = 10 then [40] ++ w ++ [41] else if n = 11 then w ++ [63] else w
def wlist : List (List UInt8) := [[97, 110, 110, 97], [114, 111, 109, 101], [107, 105, 110, 103], [116, 104, 101], [111, 102], [111, 100, 101], [108, 121, 114, 101], [120], [49, 50]]
def mlist : List (List UInt8) := [[32, 64], [32, 40, 64, 41], [32, 115, 101, 101, 32, 64, 46], [32, 64, 44, 32, 64]]
def clist : List (List UInt8) := [[32], [31], [127], [233], [64], [46], [55], [122]]
def uniT (n : Nat) : List UInt8 := dresT (gt wlist (n % 9)) (n / 9)
def textR (l : List Int) (k : Nat) : Nat → List UInt8
  | 0 => []
  | i + 1 => (if 0 < i then textR l k i ++ [32] else textR l k i) ++ uniT (atI l (k + 1 + i) 108)
def textT (l : List Int) (k : Nat) : List UInt8 := textR l k (1 + atI l k 9)
def markR (l : List Int) (k : Nat) : Nat → List UInt8
  | 0 => textT l k
  | i + 1 => markR l k i ++ gt mlist (atI l (k + 11 + i) 4)
def markT (l : List Int) (k : Nat) : List UInt8 := markR l k (atI l (k + 10) 3)
def wch : List UInt8 := [32, 32, 97, 90, 107, 48, 57, 64, 46, 44, 63, 33, 45, 32, 0, 31, 127, 195, 169, 126, 98, 98]
def wildR (l : List Int) : Nat → List UInt8
  | 0 => []
  | i + 1 => wildR l i ++ [gt wch (aroundI (gt l i) 22)]
def wildT (l : List Int) : List UInt8 := wildR l (min l.length 40)
def repF (n : Nat) : Nat → List UInt8 → List UInt8
  | 0, o => o
  | f + 1, o => if o.length < n then repF n f (o ++ o) else o
def repT (s : List UInt8) (n : Nat) : List UInt8 := (repF n n s).take n
theorem repF_eq (n : Nat) : ∀ (f g : Nat) (o : List UInt8), n - o.length ≤ f → n - o.length ≤ g → 0 < o.length → repF n f o = repF n g o
  | 0, 0, o, _, _, _ => rfl
  | 0, g + 1, o, h1, _, _ => by
    have e : ¬ o.length < n := by omega
    simp only [repF, if_neg e]
  | f + 1, 0, o, _, h1, _ => by
    have e : ¬ o.length < n := by omega
    simp only [repF, if_neg e]
  | f + 1, g + 1, o, h1, h2, h3 => by
    by_cases e : o.length < n
    · simp only [repF, if_pos e]
      exact repF_eq n f g (o ++ o) (by rw [List.length_append]; omega) (by rw [List.length_append]; omega) (by rw [List.length_append]; omega)
    · simp only [repF, if_neg e]
theorem repF_go {n : Nat} {o : List UInt8} (h : o.length < n) (h0 : 0 < o.length) : repF n n o = repF n n (o ++ o) := by
  have e : repF n (n + 1) o = repF n n (o ++ o) := by simp only [repF, if_pos h]
  rw [← e]; exact repF_eq n n (n + 1) o (by omega) (by omega) h0
theorem repF_stop {n : Nat} {o : List UInt8} (h : ¬ o.length < n) : repF n n o = o := by
  cases n with
  | zero => rfl
  | succ n => simp only [repF, if_neg h]
def spoT (s : List UInt8) (how by' : Int) : List UInt8 :=
  let k := aroundI by' (s.length + 1)
  let c := gt clist (aroundI by' 8)
  let h := aroundI how 8
  if h = 0 then s.take k ++ c ++ s.drop k else if h = 1 then s.take k ++ s.drop (min (k + 1) s.length) else if h = 2 then [32] ++ s else if h = 3 then s ++ [32]
  else if h = 4 then repT [108, 121, 114, 101] (4092 + aroundI by' 9) else if h = 5 then repT [46] (252 + aroundI by' 9) else if h = 6 then [] else s ++ c
def textsT (l : List Int) (how by' : Int) (raw : List UInt8) (most : Int) : List (List UInt8) :=
  [textT l 3, markT l 0, spoT (markT l 0) how by', spoT (spoT (markT l 0) how by') by' how, wildT l] ++ (if (raw.length : Int) ≤ most then [raw] else [])
/-! Lengths. -/
theorem gt_all {α : Type} [Inhabited α] (l : List α) (p : α → Bool) (h : l.all p = true) (i : Nat) (hi : i < l.length) : p (gt l i) = true := by
  have e : gt l i = l[i] := by simp [gt, List.getD, List.getElem?_eq_getElem hi]
  rw [e]; exact List.all_eq_true.1 h _ (List.getElem_mem hi)
/-- What may stand in a valid text: no blank at the ends, none behind another. -/
def okT (p : Bool) : List UInt8 → Bool
  | [] => !p
  | c :: r => if c = 32 then !p && okT true r else decide (32 ≤ c) && decide (c ≤ 126) && okT false r
theorem okT_unit : (List.range 108).all (fun n => okT true (uniT n) && decide ((uniT n).length ≤ 7) && decide (0 < (uniT n).length)) = true := by decide +kernel
theorem okT_app : ∀ (x : List UInt8) (p : Bool) (y : List UInt8), okT p x = true → okT true y = true → okT p (x ++ 32 :: y) = true
  | [], p, y, hx, hy => by
    simp only [okT, Bool.not_eq_true'] at hx; subst hx
    simp only [List.nil_append, okT, if_pos, Bool.not_false, Bool.true_and, hy]
  | c :: r, p, y, hx, hy => by
    simp only [okT, List.cons_append] at hx ⊢
    by_cases hc : c = 32
    · rw [if_pos hc] at hx ⊢
      simp only [Bool.and_eq_true] at hx ⊢
      exact ⟨hx.1, okT_app r true y hx.2 hy⟩
    · rw [if_neg hc] at hx ⊢
      simp only [Bool.and_eq_true] at hx ⊢
      exact ⟨hx.1, okT_app r false y hx.2 hy⟩
theorem unit_ok (n : Nat) (h : n < 108) : okT true (uniT n) = true ∧ (uniT n).length ≤ 7 ∧ 0 < (uniT n).length := by
  have := List.all_eq_true.1 okT_unit n (List.mem_range.2 h)
  simp only [Bool.and_eq_true, decide_eq_true_eq] at this
  exact ⟨this.1.1, this.1.2, this.2⟩
theorem textR_ok (l : List Int) (k : Nat) : ∀ i, 0 < i → okT true (textR l k i) = true ∧ (textR l k i).length ≤ 8 * i ∧ 0 < (textR l k i).length
  | 0, h => absurd h (Nat.lt_irrefl 0)
  | 1, _ => by
    have := unit_ok (atI l (k + 1 + 0) 108) (atI_lt _ _ (by decide))
    have e : textR l k 1 = uniT (atI l (k + 1 + 0) 108) := by simp [textR]
    rw [e]; exact ⟨this.1, by omega, this.2.2⟩
  | i + 2, _ => by
    obtain ⟨h1, h2, h3⟩ := textR_ok l k (i + 1) (by omega)
    have u := unit_ok (atI l (k + 1 + (i + 1)) 108) (atI_lt _ _ (by decide))
    have e : textR l k (i + 2) = textR l k (i + 1) ++ 32 :: uniT (atI l (k + 1 + (i + 1)) 108) := by
      rw [textR, if_pos (by omega)]; simp
    rw [e]
    exact ⟨okT_app _ _ _ h1 u.1, by simp; omega, by simp; omega⟩
theorem textR_len (l : List Int) (k i : Nat) : (textR l k i).length ≤ 8 * i := by
  cases i with
  | zero => simp [textR]
  | succ i => exact (textR_ok l k (i + 1) (by omega)).2.1
theorem textT_ok (l : List Int) (k : Nat) : okT true (textT l k) = true ∧ (textT l k).length ≤ 72 ∧ 0 < (textT l k).length := by
  have h := atI_lt l k (m := 9) (by decide)
  have := textR_ok l k (1 + atI l k 9) (by omega)
  unfold textT
  exact ⟨this.1, by omega, this.2.2⟩
theorem mlist_ok : mlist.all (fun m => match m with | [] => false | c :: r => decide (c = 32) && okT true r && decide (r.length ≤ 7)) = true := by decide +kernel
theorem markR_ok (l : List Int) (k : Nat) : ∀ i, okT true (markR l k i) = true ∧ (markR l k i).length ≤ 72 + 8 * i ∧ 0 < (markR l k i).length
  | 0 => by have := textT_ok l k; simp only [markR]; exact ⟨this.1, by omega, this.2.2⟩
  | i + 1 => by
    obtain ⟨h1, h2, h3⟩ := markR_ok l k i
    have := gt_all mlist _ mlist_ok (atI l (k + 11 + i) 4) (atI_lt _ _ (by decide))
    rw [markR]
    cases hm : gt mlist (atI l (k + 11 + i) 4) with
    | nil => rw [hm] at this; cases this
    | cons c r =>
      rw [hm] at this
      simp only [Bool.and_eq_true, decide_eq_true_eq] at this
      obtain ⟨⟨rfl, q1⟩, q2⟩ := this
      exact ⟨okT_app _ _ _ h1 q1, by simp; omega, by simp; omega⟩
theorem markT_ok (l : List Int) (k : Nat) : okT true (markT l k) = true ∧ (markT l k).length ≤ 96 ∧ 0 < (markT l k).length := by
  have h := atI_lt l (k + 10) (m := 3) (by decide)
  have := markR_ok l k (atI l (k + 10) 3)
  unfold markT
  exact ⟨this.1, by omega, this.2.2⟩
theorem wildR_len (l : List Int) : ∀ i, (wildR l i).length = i
  | 0 => rfl
  | i + 1 => by simp [wildR, wildR_len l i]
theorem wildT_len (l : List Int) : (wildT l).length ≤ 40 := by rw [wildT, wildR_len]; omega
theorem repT_len (s : List UInt8) (n : Nat) : (repT s n).length ≤ n := by simp [repT]; omega
theorem clist_len (i : Nat) (h : i < 8) : (gt clist i).length = 1 := by
  have := gt_all clist (fun c => decide (c.length = 1)) (by decide) i h
  simpa using this
theorem spoT_len (s : List UInt8) (how by' : Int) : (spoT s how by').length ≤ s.length + 4200 := by
  have h1 := around_lt by' (m := 9) (by decide)
  have h2 := clist_len (aroundI by' 8) (around_lt by' (by decide))
  have h3 := repT_len [108, 121, 114, 101] (4092 + aroundI by' 9)
  have h4 := repT_len [46] (252 + aroundI by' 9)
  unfold spoT
  simp only []
  repeat' split
  all_goals (try simp only [List.length_append, List.length_take, List.length_drop, List.length_cons, List.length_nil, h2])
  all_goals omega
end Go.Sx
