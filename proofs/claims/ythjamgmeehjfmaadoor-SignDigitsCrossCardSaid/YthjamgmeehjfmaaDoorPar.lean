/-
  Package sign: starts, digests. And what follows.
-/
import Derived.Test.YthjamgmeehjfmaaDoorPaq
set_option linter.unusedSimpArgs false
set_option linter.unusedVariables false
namespace Go.Sx
open Go.RowKit Go.Proofs
theorem fillT_S (c d : UInt8) {t : Nat} (h : t < 32) : (List.replicate t c ++ List.replicate (32 - t) d).set t c = List.replicate (t + 1) c ++ List.replicate (32 - (t + 1)) d := by
  have e : 32 - t = (32 - (t + 1)) + 1 := by omega
  rw [e, List.replicate_succ, set_mid _ _ _ _ _ (List.length_replicate), ← rep_snoc, List.append_assoc]; rfl
set_option maxRecDepth 100000 in
theorem mks52 : mksP Tryd.prog (some ⟨.slice 5, 1, 24, [.slice none 0 0]⟩) (.val (nI 32)) (.val (nI 32)) = some (.new (cl bC (List.replicate 32 0)) fun id => .sv id 0 32) := by
  unfold mksP
  have e : (C.val (nI 32)).int? = some (.i64, 32) := rfl
  simp only [e, td5]
  refine (if_pos ?_).trans ?_
  · refine ⟨by decide, ?_, by decide, by decide, ?_, ?_⟩ <;> first | trivial | rfl
  · rfl
set_option maxRecDepth 100000 in
set_option maxHeartbeats 8000000 in
theorem fc28 {gl : Nat → C} {M : Nat} {pu : Nat → List C → Option C}  (hcx : CxOK (cxP gl M pu)) (h48 : ∀ l : List Nat, l.length ≤ 3 → (∀ x ∈ l, x < 9223372036854775808) → pu 48 [sl nC .no l] = some (.val (str (wN l)))) (h49 : ∀ key t : List UInt8, key.length < 1099511627776 → t.length < 1099511627776 → pu 49 [.val (str key), .val (str t)] = some (.val (str (hmac key t)))) (seed : List UInt8) (i c : Nat) (hs : seed.length ≤ 1000000) (hb : i < 1000000 ∧ c < 1000000) : FC Tryd.prog gl 28 [.val (str seed), .val (nI i), .val (nI c)] [] (.agg (cl bC (staT seed i c))) [] := by
 replace hcx := hcx.reN (M := 18)
 refine FC.ofA (cx := cxP gl 18 pu) (rs := [.cell 6 23]) rfl Tryd.func28 rfl rfl rfl (by simp only [List.length_cons, List.length_nil]; decide) (by simp only [go_sem]) ?_
 simp only [ini, go_sem]
 have hw := wN_len [i, c] (fun x hx => by simp at hx; omega) (by simp)
 have hl := hmac_len seed (chn5 ++ wN [i, c])
 have hsl := staT_len seed i c
 have hcl : (chn5 ++ wN [i, c]).length = 5 + (wN [i, c]).length := by rw [List.length_append]; rfl
 have e : pu 48 [sl nC .no [i, c]] = some (.val (str (wN [i, c]))) := h48 [i, c] (by simp) (fun x hx => by simp at hx; omega)
 have em : pu 49 [.val (str seed), .val (str (99 :: 104 :: 97 :: 105 :: 110 :: wN [i, c]))] = some (.val (str (hmac seed (chn5 ++ wN [i, c])))) := h49 seed (chn5 ++ wN [i, c]) (by omega) (by omega)
 have es : (hmac seed (chn5 ++ wN [i, c])).take 16 = staT seed i c := rfl
 refine Tr.seqK fun K1 hK1 => ?_
 refine Tr.rg hcx [] _ [none] rfl rfl rfl ?_
 simp -implicitDefEqProofs (maxSteps := 2000000) (disch := first | omega | (simp only [go_sem, List.length_append, List.length_drop, List.length_take, hl, hsl, hcl] <;> omega) | decide) only [go_sem, ↓reduceIte, Nat.reduceEqDiff, reduceCtorEq, Nat.reduceLT, Nat.reduceBEq, Nat.reduceAdd, Nat.reduceSub, Nat.reduceMul, Nat.reduceMod, lay2n, e, em, es]
 refine hK1 _ ?_
 clear hK1 K1
 refine Tr.kp [0, 1, 2, 6] ?_
 simp only [pk_cons, pk_nil, ↓A_cons, ↓reduceIte, Nat.reduceEqDiff]
 refine Tr.seqK fun K2 hK2 => ?_
 refine Tr.rg hcx [] _ [] rfl rfl rfl ?_
 simp -implicitDefEqProofs (maxSteps := 2000000) (disch := first | omega | (simp only [go_sem, List.length_append, List.length_drop, List.length_take, hl, hsl, hcl] <;> omega) | decide) only [go_sem, ↓reduceIte, Nat.reduceEqDiff, reduceCtorEq, Nat.reduceLT, Nat.reduceBEq, Nat.reduceAdd, Nat.reduceSub, Nat.reduceMul, Nat.reduceMod, lay2n, e, em, es]
 refine hK2 _ ?_
 clear hK2 K2
 refine Tr.kp [6] ?_
 simp only [pk_cons, pk_nil, ↓A_cons, ↓reduceIte, Nat.reduceEqDiff]
 refine Tr.ret ?_
 simp -implicitDefEqProofs (disch := first | omega | (simp only [go_sem, List.length_append, List.length_drop, List.length_take, hl, hsl, hcl] <;> omega) | decide) only [go_sem, ↓reduceIte, Nat.reduceEqDiff, reduceCtorEq]
 all_goals (rfl)
set_option maxRecDepth 100000 in
set_option maxHeartbeats 8000000 in
theorem fc16 {gl : Nat → C} {M : Nat} {pu : Nat → List C → Option C}  (hcx : CxOK (cxP gl M pu)) (h26 : ∀ n : Int, -9223372036854775808 ≤ n ∧ n ≤ 9223372036854775807 → pu 26 [.val (.int .i64 n)] = some (sl bC (.own 1) (wint n))) (h34 : ∀ (tag : Int) (parts : List (List UInt8)), (inp tag parts).length < 1099511627776 → pu 34 [.val (.int .i64 tag), sl sC .no parts] = some (.agg (cl bC (ofT tag parts)))) (p : List UInt8) (i : Int) (m : List UInt8) (hp : p.length = 16) (hi : -9223372036854775808 ≤ i ∧ i ≤ 9223372036854775807) (hm : m.length ≤ 1048576) : FC Tryd.prog gl 16 [.agg (cl bC p), .val (.int .i64 i), .val (str m)] [] (.agg (cl bC (msgT p i m))) [] := by
 replace hcx := hcx.reN (M := 15)
 refine FC.ofA (cx := cxP gl 15 pu) (rs := [.cell 6 23]) rfl Tryd.func16 rfl rfl rfl (by simp only [List.length_cons, List.length_nil]; decide) (by simp only [go_sem]) ?_
 simp only [ini, go_sem]
 have hw := wint_len i hi
 have hml := msgT_len p i m
 have tp := t16 hp
 have e := h26 i hi
 have eo : pu 34 [.val (nI 5), sl sC .no [p, wint i, m]] = some (.agg (cl bC (msgT p i m))) := h34 5 [p, wint i, m] (inp_len3 _ _ _ _ (by omega) (by omega) (by omega))
 refine Tr.seqK fun K1 hK1 => ?_
 refine Tr.rg hcx [] _ [none, none] rfl rfl rfl ?_
 simp -implicitDefEqProofs (maxSteps := 2000000) (disch := first | omega | (simp only [go_sem, List.length_append, List.length_drop, List.length_take, hml, hp] <;> omega) | decide) only [go_sem, ↓reduceIte, Nat.reduceEqDiff, reduceCtorEq, Nat.reduceLT, Nat.reduceBEq, Nat.reduceAdd, Nat.reduceSub, Nat.reduceMul, Nat.reduceMod, rep3s, tp, e, eo]
 refine hK1 _ ?_
 clear hK1 K1
 refine Tr.kp [1, 2, 3, 6] ?_
 simp only [pk_cons, pk_nil, ↓A_cons, ↓reduceIte, Nat.reduceEqDiff]
 refine Tr.seqK fun K2 hK2 => ?_
 refine Tr.rgD hcx hMO [] _ [] rfl rfl rfl rfl ?_
 simp -implicitDefEqProofs (maxSteps := 2000000) (disch := first | omega | (simp only [go_sem, List.length_append, List.length_drop, List.length_take, hml, hp] <;> omega) | decide) only [go_sem, ↓reduceIte, Nat.reduceEqDiff, reduceCtorEq, Nat.reduceLT, Nat.reduceBEq, Nat.reduceAdd, Nat.reduceSub, Nat.reduceMul, Nat.reduceMod, rep3s, tp, e, eo]
 with_reducible refine And.intro ?_ ?_
 · exact rfl
 refine hK2 _ ?_
 clear hK2 K2
 refine Tr.kp [6] ?_
 simp only [pk_cons, pk_nil, ↓A_cons, ↓reduceIte, Nat.reduceEqDiff]
 refine Tr.ret ?_
 simp -implicitDefEqProofs (disch := first | omega | (simp only [go_sem, List.length_append, List.length_drop, List.length_take, hml, hp] <;> omega) | decide) only [go_sem, ↓reduceIte, Nat.reduceEqDiff, reduceCtorEq]
 all_goals (rfl)
set_option maxRecDepth 100000 in
set_option maxHeartbeats 8000000 in
theorem fc21 {gl : Nat → C} {M : Nat} {pu : Nat → List C → Option C}  (hcx : CxOK (cxP gl M pu)) (h : Int) : FC Tryd.prog gl 21 [.val (.int .i64 h)] [] (.val (.bool (decide (0 ≤ h ∧ h ≤ 6)))) [] := by
 replace hcx := hcx.reN (M := 9)
 refine FC.ofA (cx := cxP gl 9 pu) (rs := [.tmp 2]) rfl Tryd.func21 rfl rfl rfl (by simp only [List.length_cons, List.length_nil]; decide) (by simp only [go_sem]) ?_
 simp only [ini, go_sem]
 refine Tr.seqK fun K1 hK1 => ?_
 refine Tr.rg hcx [] _ [] rfl rfl rfl ?_
 simp -implicitDefEqProofs (maxSteps := 2000000) (disch := first | omega | (simp only [go_sem, List.length_append, List.length_drop, List.length_take] <;> omega) | decide) only [go_sem, ↓reduceIte, Nat.reduceEqDiff, reduceCtorEq, Nat.reduceLT, Nat.reduceBEq, Nat.reduceAdd, Nat.reduceSub, Nat.reduceMul, Nat.reduceMod]
 refine hK1 _ ?_
 clear hK1 K1
 refine Tr.kp [0] ?_
 simp only [pk_cons, pk_nil, ↓A_cons, ↓reduceIte, Nat.reduceEqDiff]
 refine Tr.seqK fun K2 hK2 => ?_
 by_cases b1 : ((0 : Nat) : Int) ≤ h
 ·
  refine Tr.rg hcx [1000008] [some 3, some 4, some 5, some 6, some 7, some 8, some 2] [] rfl rfl rfl ?_
  simp -implicitDefEqProofs (maxSteps := 2000000) (disch := first | omega | (simp only [go_sem, List.length_append, List.length_drop, List.length_take] <;> omega) | decide) only [go_sem, ↓reduceIte, Nat.reduceEqDiff, reduceCtorEq, Nat.reduceLT, Nat.reduceBEq, Nat.reduceAdd, Nat.reduceSub, Nat.reduceMul, Nat.reduceMod, b1]
  refine hK2 _ ?_
  clear hK2 K2
  refine Tr.kp [2] ?_
  simp only [pk_cons, pk_nil, ↓A_cons, ↓reduceIte, Nat.reduceEqDiff]
  refine Tr.ret ?_
  simp -implicitDefEqProofs (disch := first | omega | (simp only [go_sem, List.length_append, List.length_drop, List.length_take] <;> omega) | decide) only [go_sem, ↓reduceIte, Nat.reduceEqDiff, reduceCtorEq]
  all_goals (exact congrArg (fun z => some (C.val (.bool z))) (by first | (rw [decide_eq_decide]; omega) | exact (decide_eq_false (by omega)).symm))
 ·
  refine Tr.rg hcx [1000008] [some 3, some 4, some 5, some 6, some 7, some 8, some 2] [] rfl rfl rfl ?_
  simp -implicitDefEqProofs (maxSteps := 2000000) (disch := first | omega | (simp only [go_sem, List.length_append, List.length_drop, List.length_take] <;> omega) | decide) only [go_sem, ↓reduceIte, Nat.reduceEqDiff, reduceCtorEq, Nat.reduceLT, Nat.reduceBEq, Nat.reduceAdd, Nat.reduceSub, Nat.reduceMul, Nat.reduceMod, b1]
  refine hK2 _ ?_
  clear hK2 K2
  refine Tr.kp [2] ?_
  simp only [pk_cons, pk_nil, ↓A_cons, ↓reduceIte, Nat.reduceEqDiff]
  refine Tr.ret ?_
  simp -implicitDefEqProofs (disch := first | omega | (simp only [go_sem, List.length_append, List.length_drop, List.length_take] <;> omega) | decide) only [go_sem, ↓reduceIte, Nat.reduceEqDiff, reduceCtorEq]
  all_goals (exact congrArg (fun z => some (C.val (.bool z))) (by first | (rw [decide_eq_decide]; omega) | exact (decide_eq_false (by omega)).symm))
set_option maxRecDepth 100000 in
set_option maxHeartbeats 8000000 in
theorem fc20 {gl : Nat → C} {M : Nat} {pu : Nat → List C → Option C}  (hcx : CxOK (cxP gl M pu)) (c : UInt8) : FC Tryd.prog gl 20 [.val (w8 c)] [] (.val (str (List.replicate 32 c))) [] := by
 replace hcx := hcx.reN (M := 16)
 refine FC.ofA (cx := cxP gl 16 pu) (rs := [.tmp 2]) rfl Tryd.func20 rfl rfl rfl (by simp only [List.length_cons, List.length_nil]; decide) (by simp only [go_sem]) ?_
 simp only [ini, go_sem]
 refine Tr.seqK fun K1 hK1 => ?_
 refine Tr.rg hcx [] _ [] rfl rfl rfl ?_
 simp -implicitDefEqProofs (maxSteps := 2000000) (disch := first | omega | (simp only [go_sem, List.length_append, List.length_drop, List.length_take] <;> omega) | decide) only [go_sem, ↓reduceIte, Nat.reduceEqDiff, reduceCtorEq, Nat.reduceLT, Nat.reduceBEq, Nat.reduceAdd, Nat.reduceSub, Nat.reduceMul, Nat.reduceMod, mks52]
 refine hK1 _ ?_
 clear hK1 K1
 refine Tr.kp [0] ?_
 simp only [pk_cons, pk_nil, ↓A_cons, ↓reduceIte, Nat.reduceEqDiff]
 refine Tr.seqK fun K2 hK2 => ?_
 refine Tr.rg hcx [1000005] _ [none] rfl rfl rfl ?_
 simp -implicitDefEqProofs (maxSteps := 2000000) (disch := first | omega | (simp only [go_sem, List.length_append, List.length_drop, List.length_take] <;> omega) | decide) only [go_sem, ↓reduceIte, Nat.reduceEqDiff, reduceCtorEq, Nat.reduceLT, Nat.reduceBEq, Nat.reduceAdd, Nat.reduceSub, Nat.reduceMul, Nat.reduceMod, mks52]
 refine hK2 _ ?_
 clear hK2 K2
 refine Tr.kp [0, 3] ?_
 simp only [pk_cons, pk_nil, ↓A_cons, ↓reduceIte, Nat.reduceEqDiff]
 refine Tr.seqK fun K3 hK3 => ?_
 refine Tr.seqK fun K4 hK4 => ?_
 refine Tr.rg hcx [] _ [] rfl rfl rfl ?_
 simp -implicitDefEqProofs (maxSteps := 2000000) (disch := first | omega | (simp only [go_sem, List.length_append, List.length_drop, List.length_take] <;> omega) | decide) only [go_sem, ↓reduceIte, Nat.reduceEqDiff, reduceCtorEq, Nat.reduceLT, Nat.reduceBEq, Nat.reduceAdd, Nat.reduceSub, Nat.reduceMul, Nat.reduceMod, mks52]
 refine hK4 _ ?_
 clear hK4 K4
 refine Tr.kp [0, 3, 4] ?_
 simp only [pk_cons, pk_nil, ↓A_cons, ↓reduceIte, Nat.reduceEqDiff]
 refine Tr.blk ?_
 refine Tr.loopI (α := Nat) (fun a => [(0, ?v0_60), (3, ?v3_60), (4, .val (nI a))]) (fun a => [some (cl bC (List.replicate a c ++ List.replicate (32 - a) 0))]) (fun a => a ≤ 32) (fun a => 32 - a) (0) (Nat.zero_le _) ?le_60 ?hh_60 ?bd_60
 case hh_60 => exact rfl
 case le_60 => (simp only [Le_nil, Le_cons, ↓A_cons, ↓reduceIte, Nat.reduceEqDiff, reduceCtorEq, CLe_refl, CLe_top, CLe_full, CLe_nil, CLe_own, and_true, true_and]; all_goals (repeat' first | exact CLe.refl _ | exact True.intro | (refine CLe_sln ?_; first | with_reducible rfl | (simp only [List.take_zero]; done) | (rfl; done)) | exact CLe_nI (by omega) | exact CLe_int (by omega) | exact CLe_inI (by omega) | exact CLe_nIi (by omega) | with_reducible apply And.intro))
 case bd_60 =>
  rintro j hj
  refine Tr.seqK fun K5 hK5 => ?_
  refine Tr.seqK fun K6 hK6 => ?_
  refine Tr.rg hcx [] _ [] rfl rfl rfl ?_
  simp -implicitDefEqProofs (maxSteps := 2000000) (disch := first | omega | (simp only [go_sem, List.length_append, List.length_drop, List.length_take] <;> omega) | decide) only [go_sem, ↓reduceIte, Nat.reduceEqDiff, reduceCtorEq, Nat.reduceLT, Nat.reduceBEq, Nat.reduceAdd, Nat.reduceSub, Nat.reduceMul, Nat.reduceMod, mks52]
  refine hK6 _ ?_
  clear hK6 K6
  refine Tr.kp [0, 3, 4, 7] ?_
  simp only [pk_cons, pk_nil, ↓A_cons, ↓reduceIte, Nat.reduceEqDiff]
  refine Tr.condG fun KT KF hT hF => ?_
  simp only [ev_tmp, ev_const, ↓A_cons, ↓reduceIte, Nat.reduceEqDiff, reduceCtorEq, condG_bool, GB_true, GB_false, decide_eq_true_eq]
  refine GB.dec (fun hc7 => hT ?_) (fun hc7 => hF ?_)
  ·
   clear hT hF KT KF
   refine Tr.skip ?_
   refine hK5 _ ?_
   clear hK5 K5
   refine Tr.kp [0, 3, 4] ?_
   simp only [pk_cons, pk_nil, ↓A_cons, ↓reduceIte, Nat.reduceEqDiff]
   refine Tr.seqK fun K7 hK7 => ?_
   refine Tr.blk ?_
   refine Tr.rg hcx [] _ [] rfl rfl rfl ?_
   simp -implicitDefEqProofs (maxSteps := 2000000) (disch := first | omega | (simp only [go_sem, List.length_append, List.length_drop, List.length_take] <;> omega) | decide) only [go_sem, ↓reduceIte, Nat.reduceEqDiff, reduceCtorEq, Nat.reduceLT, Nat.reduceBEq, Nat.reduceAdd, Nat.reduceSub, Nat.reduceMul, Nat.reduceMod, mks52]
   refine hK7 _ ?_
   clear hK7 K7
   refine Tr.kp [0, 3, 4] ?_
   simp only [pk_cons, pk_nil, ↓A_cons, ↓reduceIte, Nat.reduceEqDiff]
   refine Tr.rg hcx [1000009] _ [] rfl rfl rfl ?_
   simp -implicitDefEqProofs (maxSteps := 2000000) (disch := first | omega | (simp only [go_sem, List.length_append, List.length_drop, List.length_take] <;> omega) | decide) only [go_sem, ↓reduceIte, Nat.reduceEqDiff, reduceCtorEq, Nat.reduceLT, Nat.reduceBEq, Nat.reduceAdd, Nat.reduceSub, Nat.reduceMul, Nat.reduceMod, mks52]
   refine ⟨j + 1, ⟨by omega, by first | omega | (simp only []; omega)⟩, ?_, by rw [fillT_S c 0 hc7]⟩
   (simp only [Le_nil, Le_cons, ↓A_cons, ↓reduceIte, Nat.reduceEqDiff, reduceCtorEq, CLe_refl, CLe_top, CLe_full, CLe_nil, CLe_own, and_true, true_and]; all_goals (repeat' first | exact CLe.refl _ | exact True.intro | (refine CLe_sln ?_; first | with_reducible rfl | (simp only [List.take_zero]; done) | (rfl; done)) | exact CLe_nI (by omega) | exact CLe_int (by omega) | exact CLe_inI (by omega) | exact CLe_nIi (by omega) | with_reducible apply And.intro))
  ·
   clear hT hF KT KF
   obtain rfl : j = 32 := by omega
   refine Tr.exit ?_
   refine hK3 _ ?_
   clear hK5 K5 hK3 K3
   refine Tr.kp [3] ?_
   simp only [pk_cons, pk_nil, ↓A_cons, ↓reduceIte, Nat.reduceEqDiff]
   refine Tr.seqK fun K8 hK8 => ?_
   refine Tr.rg hcx [1000015] _ [] rfl rfl rfl ?_
   simp -implicitDefEqProofs (maxSteps := 2000000) (disch := first | omega | (simp only [go_sem, List.length_append, List.length_drop, List.length_take] <;> omega) | decide) only [go_sem, ↓reduceIte, Nat.reduceEqDiff, reduceCtorEq, Nat.reduceLT, Nat.reduceBEq, Nat.reduceAdd, Nat.reduceSub, Nat.reduceMul, Nat.reduceMod, mks52]
   refine hK8 _ ?_
   clear hK8 K8
   refine Tr.kp [2] ?_
   simp only [pk_cons, pk_nil, ↓A_cons, ↓reduceIte, Nat.reduceEqDiff]
   refine Tr.ret ?_
   simp -implicitDefEqProofs (disch := first | omega | (simp only [go_sem, List.length_append, List.length_drop, List.length_take] <;> omega) | decide) only [go_sem, ↓reduceIte, Nat.reduceEqDiff, reduceCtorEq]
   all_goals (rfl)
end Go.Sx
namespace Go.Sx
open Go.RowKit Go.Proofs
def dg (d : List UInt8) (i : Nat) : Nat := (gt d (i / 4)).toNat / 4 ^ (3 - i % 4) % 4
theorem dg_lt (d : List UInt8) (i : Nat) : dg d i < 4 := Nat.mod_lt _ (by decide)
def dgs (d : List UInt8) (n : Nat) : List Nat := (List.range n).map (dg d)
theorem dgs_len (d : List UInt8) (n : Nat) : (dgs d n).length = n := by simp [dgs]
theorem dgs_S (d : List UInt8) (n : Nat) : dgs d (n + 1) = dgs d n ++ [dg d n] := by unfold dgs; rw [List.range_succ, List.map_append]; rfl
def dsum (d : List UInt8) : Nat → Nat
  | 0 => 0
  | n + 1 => dsum d n + (3 - dg d n)
theorem dsum_le (d : List UInt8) : ∀ n, dsum d n ≤ 3 * n
  | 0 => Nat.le_refl _
  | n + 1 => by have := dsum_le d n; unfold dsum; omega
def tl (s : Nat) : Nat → List Nat
  | 0 => []
  | k + 1 => (s / 4 ^ k % 4) :: tl s k
theorem tl_len (s : Nat) : ∀ k, (tl s k).length = k
  | 0 => rfl
  | k + 1 => by simp [tl, tl_len s k]
def digT (d : List UInt8) : List Nat := dgs d 64 ++ tl (dsum d 64) 4
theorem digT_len (d : List UInt8) : (digT d).length = 68 := by unfold digT; rw [List.length_append, dgs_len, tl_len]
theorem b_shr (P : Program) (t : TypeId) (x : UInt8) (n : Nat) (hn : n ≤ 8) : binPlan P .shr t (.val (w8 x)) (.val (nI n)) = some (vp (.val (w8 (UInt8.ofNat (x.toNat / 2 ^ n))))) := by
  rw [w8, nI, bin_int]
  have e : sbin .shr (.int .u8 (x.toNat : Int)) (.int .i64 (n : Int)) = some (.int .u8 ((x.toNat : Int).fdiv (2 ^ (min n 8)))) := by
    show (if (n : Int) < 0 then none else _) = _
    rw [if_neg (by omega)]
    rfl
  have hx : x.toNat < 256 := x.toNat_lt
  have hy : x.toNat / 2 ^ n ≤ x.toNat := Nat.div_le_self _ _
  have hz : (UInt8.ofNat (x.toNat / 2 ^ n)).toNat = x.toNat / 2 ^ n := by
    rw [UInt8.toNat_ofNat']; exact Nat.mod_eq_of_lt (by omega)
  rw [e, w8, hz]
  show some (vp (.val _)) = _
  congr 4
  rw [Nat.min_eq_left hn, Int.fdiv_eq_ediv_of_nonneg _ (Int.le_of_lt (Int.pow_pos (by decide)))]
  have ep : (2 : Int) ^ n = ((2 ^ n : Nat) : Int) := by rw [Int.natCast_pow]; rfl
  rw [ep, ← Int.natCast_ediv]
theorem dgE (d : List UInt8) (i : Nat) : (UInt8.ofNat ((gt d (i / 4)).toNat / 2 ^ (6 - 2 * (i % 4)))).toNat % 4 = dg d i := by
  have hx : (gt d (i / 4)).toNat < 256 := (gt d (i / 4)).toNat_lt
  have hy : (gt d (i / 4)).toNat / 2 ^ (6 - 2 * (i % 4)) ≤ (gt d (i / 4)).toNat := Nat.div_le_self _ _
  rw [UInt8.toNat_ofNat', Nat.mod_eq_of_lt (show _ < 2 ^ 8 by omega)]
  unfold dg
  have : (2 : Nat) ^ (6 - 2 * (i % 4)) = 4 ^ (3 - i % 4) := by
    have : i % 4 < 4 := Nat.mod_lt _ (by decide)
    rcases (show i % 4 = 0 ∨ i % 4 = 1 ∨ i % 4 = 2 ∨ i % 4 = 3 by omega) with h | h | h | h <;> rw [h] <;> rfl
  rw [this]
theorem set_dg (d : List UInt8) {i : Nat} (h : i < 64) : (dgs d i ++ List.replicate (68 - i) 0).set i (dg d i) = dgs d (i + 1) ++ List.replicate (68 - (i + 1)) 0 := by
  rw [set_rep _ _ _ 68 i (dgs_len d i) (by omega), dgs_S, List.append_assoc, show 68 - 1 - i = 68 - (i + 1) by omega]; rfl
theorem gt_dg (d : List UInt8) (i n : Nat) : gt (dgs d (i + 1) ++ List.replicate n 0) i = dg d i := by
  rw [dgs_S, List.append_assoc, List.singleton_append, gt_mid _ _ _ _ (dgs_len d i)]
theorem set_tl (x : List Nat) (s : Nat) {k : Nat} (h : k < 4) (hx : x.length = 64) : (x ++ (List.replicate (4 - k) 0 ++ tl s k)).set (67 - k) (s / 4 ^ k % 4) = x ++ (List.replicate (4 - (k + 1)) 0 ++ tl s (k + 1)) := by
  have e : 4 - k = (3 - k) + 1 := by omega
  rw [List.set_append_right _ _ (by omega), hx, e, List.replicate_succ', List.append_assoc, List.singleton_append, set_mid _ _ _ _ _ (by simp; omega), show 4 - (k + 1) = 3 - k by omega, tl]
theorem fzC_svN (ok : Nat → Bool) (b : Nat) (ys : List C) (o n : Nat) : fzC ok b ys (.sv b o n) = if o + n ≤ ys.length then .sl .no n ((ys.drop o).take n) else .top := by simp only [fzC, ↓reduceIte]
theorem Tr.digF {cx : Cx} (hcx : CxOK cx) {c : Code} {L : List Nat} {m : Nat} {x0 : Option (List C)} {Q : Ex → St → Prop} (hm : m = L.length) (h0 : 0 < m)
    (H : ∀ r, Tr cx 0 c ⟨A [(2, sl nC .no L)], r⟩ Q) : Tr cx 0 c ⟨A [(2, .sv 1 0 m)], [x0, some (cl nC L)]⟩ Q := by
  have hl : liveC (some (cl nC L)) = some (cl nC L) := live_cl nC L
  refine Tr.fzA hcx 1 (cl nC L) hl (Nat.zero_le _) (fun j hj => absurd hj (Nat.not_lt_zero j)) ?_
  have e : fzC (okF [x0, some (cl nC L)] 1) 1 (fzY [x0, some (cl nC L)] 1 (cl nC L)) (.sv 1 0 m) = sl nC .no L := by
    have hc : (cl nC L).length = L.length := by rw [cl_len (f := nC), Nat.mul_one]
    rw [fzC_svN, fzY_cl, if_pos (by omega), List.drop_zero, List.take_of_length_le (by omega), hm]; rfl
  simp only [mapE_cons, mapE_nil, e]
  exact H _
set_option maxRecDepth 100000 in
set_option maxHeartbeats 8000000 in
theorem fc10 {gl : Nat → C} {M : Nat} {pu : Nat → List C → Option C}  (hcx : CxOK (cxP gl M pu)) (d : List UInt8) (hd : d.length = 16) : FC Tryd.prog gl 10 [.agg (cl bC d)] [] (sl nC .no (digT d)) [] := by
 replace hcx := hcx.reN (M := 41)
 refine FC.ofA (cx := cxP gl 41 pu) (rs := [.tmp 2]) rfl Tryd.func10 rfl rfl rfl (by simp only [List.length_cons, List.length_nil]; decide) (by simp only [go_sem]) ?_
 simp only [ini, go_sem]
 have hdl := dgs_len d
 have hdg := dg_lt d 0
 have hss := dsum_le d
 refine Tr.seqK fun K1 hK1 => ?_
 refine Tr.rg hcx [] _ [none] rfl rfl rfl ?_
 simp -implicitDefEqProofs (maxSteps := 2000000) (disch := first | omega | (simp only [go_sem, List.length_append, List.length_drop, List.length_take, dgs_len, hd, hdg, tl_len] <;> omega) | decide) only [go_sem, ↓reduceIte, Nat.reduceEqDiff, reduceCtorEq, Nat.reduceLT, Nat.reduceBEq, Nat.reduceAdd, Nat.reduceSub, Nat.reduceMul, Nat.reduceMod, dgs_len]
 refine hK1 _ ?_
 clear hK1 K1
 refine Tr.kp [1] ?_
 simp only [pk_cons, pk_nil, ↓A_cons, ↓reduceIte, Nat.reduceEqDiff]
 refine Tr.seqK fun K2 hK2 => ?_
 refine Tr.rg hcx [] _ [none] rfl rfl rfl ?_
 simp -implicitDefEqProofs (maxSteps := 2000000) (disch := first | omega | (simp only [go_sem, List.length_append, List.length_drop, List.length_take, dgs_len, hd, hdg, tl_len] <;> omega) | decide) only [go_sem, ↓reduceIte, Nat.reduceEqDiff, reduceCtorEq, Nat.reduceLT, Nat.reduceBEq, Nat.reduceAdd, Nat.reduceSub, Nat.reduceMul, Nat.reduceMod, dgs_len]
 refine hK2 _ ?_
 clear hK2 K2
 refine Tr.kp [1, 3] ?_
 simp only [pk_cons, pk_nil, ↓A_cons, ↓reduceIte, Nat.reduceEqDiff]
 refine Tr.seqK fun K3 hK3 => ?_
 refine Tr.rg hcx [] _ [] rfl rfl rfl ?_
 simp -implicitDefEqProofs (maxSteps := 2000000) (disch := first | omega | (simp only [go_sem, List.length_append, List.length_drop, List.length_take, dgs_len, hd, hdg, tl_len] <;> omega) | decide) only [go_sem, ↓reduceIte, Nat.reduceEqDiff, reduceCtorEq, Nat.reduceLT, Nat.reduceBEq, Nat.reduceAdd, Nat.reduceSub, Nat.reduceMul, Nat.reduceMod, dgs_len]
 refine hK3 _ ?_
 clear hK3 K3
 refine Tr.kp [1, 3, 4] ?_
 simp only [pk_cons, pk_nil, ↓A_cons, ↓reduceIte, Nat.reduceEqDiff]
 refine Tr.seqK fun K4 hK4 => ?_
 refine Tr.seqK fun K5 hK5 => ?_
 refine Tr.rg hcx [] _ [] rfl rfl rfl ?_
 simp -implicitDefEqProofs (maxSteps := 2000000) (disch := first | omega | (simp only [go_sem, List.length_append, List.length_drop, List.length_take, dgs_len, hd, hdg, tl_len] <;> omega) | decide) only [go_sem, ↓reduceIte, Nat.reduceEqDiff, reduceCtorEq, Nat.reduceLT, Nat.reduceBEq, Nat.reduceAdd, Nat.reduceSub, Nat.reduceMul, Nat.reduceMod, dgs_len]
 refine hK5 _ ?_
 clear hK5 K5
 refine Tr.kp [1, 3, 4, 7] ?_
 simp only [pk_cons, pk_nil, ↓A_cons, ↓reduceIte, Nat.reduceEqDiff]
 refine Tr.blk ?_
 refine Tr.loopI (α := Nat) (fun a => [(1, ?v1_10), (3, ?v3_10), (4, .val (nI (dsum d a))), (7, .val (nI a))]) (fun a => [some (cl bC d), some (cl nC (dgs d a ++ List.replicate (68 - a) 0))]) (fun a => a ≤ 64) (fun a => 64 - a) (0) (Nat.zero_le _) ?le_10 ?hh_10 ?bd_10
 case hh_10 => exact rfl
 case le_10 => (simp only [Le_nil, Le_cons, ↓A_cons, ↓reduceIte, Nat.reduceEqDiff, reduceCtorEq, CLe_refl, CLe_top, CLe_full, CLe_nil, CLe_own, and_true, true_and]; all_goals (repeat' first | exact CLe.refl _ | exact True.intro | (refine CLe_sln ?_; first | with_reducible rfl | (simp only [List.take_zero]; done) | (rfl; done)) | exact CLe_nI (by omega) | exact CLe_int (by omega) | exact CLe_inI (by omega) | exact CLe_nIi (by omega) | with_reducible apply And.intro))
 case bd_10 =>
  rintro i hi
  have hdg := dg_lt d i
  have hsi := hss i
  refine Tr.seqK fun K6 hK6 => ?_
  refine Tr.rg hcx [] _ [] rfl rfl rfl ?_
  simp -implicitDefEqProofs (maxSteps := 2000000) (disch := first | omega | (simp only [go_sem, List.length_append, List.length_drop, List.length_take, dgs_len, hd, hdg, tl_len] <;> omega) | decide) only [go_sem, ↓reduceIte, Nat.reduceEqDiff, reduceCtorEq, Nat.reduceLT, Nat.reduceBEq, Nat.reduceAdd, Nat.reduceSub, Nat.reduceMul, Nat.reduceMod, dgs_len]
  refine hK6 _ ?_
  clear hK6 K6
  refine Tr.kp [1, 3, 4, 7, 8] ?_
  simp only [pk_cons, pk_nil, ↓A_cons, ↓reduceIte, Nat.reduceEqDiff]
  refine Tr.seqK fun K7 hK7 => ?_
  refine Tr.condG fun KT KF hT hF => ?_
  simp only [ev_tmp, ev_const, ↓A_cons, ↓reduceIte, Nat.reduceEqDiff, reduceCtorEq, condG_bool, GB_true, GB_false, decide_eq_true_eq]
  refine GB.dec (fun hc8 => hT ?_) (fun hc8 => hF ?_)
  ·
   clear hT hF KT KF
   refine Tr.skip ?_
   refine hK7 _ ?_
   clear hK7 K7
   refine Tr.kp [1, 3, 4, 7] ?_
   simp only [pk_cons, pk_nil, ↓A_cons, ↓reduceIte, Nat.reduceEqDiff]
   refine Tr.seqK fun K8 hK8 => ?_
   refine Tr.blk ?_
   refine Tr.seqK fun K9 hK9 => ?_
   refine Tr.rg hcx [1000009] _ [] rfl rfl rfl ?_
   simp -implicitDefEqProofs (maxSteps := 2000000) (disch := first | omega | (simp only [go_sem, List.length_append, List.length_drop, List.length_take, dgs_len, hd, hdg, tl_len] <;> omega) | decide) only [go_sem, ↓reduceIte, Nat.reduceEqDiff, reduceCtorEq, Nat.reduceLT, Nat.reduceBEq, Nat.reduceAdd, Nat.reduceSub, Nat.reduceMul, Nat.reduceMod, dgs_len]
   refine hK9 _ ?_
   clear hK9 K9
   refine Tr.kp [1, 3, 4, 5, 7] ?_
   simp only [pk_cons, pk_nil, ↓A_cons, ↓reduceIte, Nat.reduceEqDiff]
   refine Tr.seqK fun K10 hK10 => ?_
   refine Tr.rg hcx [] _ [] rfl rfl rfl ?_
   simp -implicitDefEqProofs (maxSteps := 2000000) (disch := first | omega | (simp only [go_sem, List.length_append, List.length_drop, List.length_take, dgs_len, hd, hdg, tl_len] <;> omega) | decide) only [go_sem, ↓reduceIte, Nat.reduceEqDiff, reduceCtorEq, Nat.reduceLT, Nat.reduceBEq, Nat.reduceAdd, Nat.reduceSub, Nat.reduceMul, Nat.reduceMod, dgs_len, b_shr, dgE]
   refine hK10 _ ?_
   clear hK10 K10
   refine Tr.kp [1, 3, 4, 5, 7] ?_
   simp only [pk_cons, pk_nil, ↓A_cons, ↓reduceIte, Nat.reduceEqDiff]
   rw [set_dg d (by omega)]
   refine Tr.rg hcx [1000028] _ [] rfl rfl rfl ?_
   simp -implicitDefEqProofs (maxSteps := 2000000) (disch := first | omega | (simp only [go_sem, List.length_append, List.length_drop, List.length_take, dgs_len, hd, hdg, tl_len] <;> omega) | decide) only [go_sem, ↓reduceIte, Nat.reduceEqDiff, reduceCtorEq, Nat.reduceLT, Nat.reduceBEq, Nat.reduceAdd, Nat.reduceSub, Nat.reduceMul, Nat.reduceMod, dgs_len, gt_dg]
   refine hK8 _ ?_
   clear hK8 K8
   refine Tr.kp [1, 3, 4, 7] ?_
   simp only [pk_cons, pk_nil, ↓A_cons, ↓reduceIte, Nat.reduceEqDiff]
   refine Tr.rg hcx [] _ [] rfl rfl rfl ?_
   simp -implicitDefEqProofs (maxSteps := 2000000) (disch := first | omega | (simp only [go_sem, List.length_append, List.length_drop, List.length_take, dgs_len, hd, hdg, tl_len] <;> omega) | decide) only [go_sem, ↓reduceIte, Nat.reduceEqDiff, reduceCtorEq, Nat.reduceLT, Nat.reduceBEq, Nat.reduceAdd, Nat.reduceSub, Nat.reduceMul, Nat.reduceMod, dgs_len]
   refine ⟨i + 1, ⟨by omega, by first | omega | (simp only []; omega)⟩, ?_, rfl⟩
   (simp only [Le_nil, Le_cons, ↓A_cons, ↓reduceIte, Nat.reduceEqDiff, reduceCtorEq, CLe_refl, CLe_top, CLe_full, CLe_nil, CLe_own, and_true, true_and]; all_goals (repeat' first | exact CLe.refl _ | exact True.intro | (refine CLe_sln ?_; first | with_reducible rfl | (simp only [List.take_zero]; done) | (rfl; done)) | exact CLe_nI (by omega) | exact CLe_int (by omega) | exact CLe_inI (by omega) | exact CLe_nIi (by omega) | with_reducible apply And.intro))
  ·
   clear hT hF KT KF
   obtain rfl : i = 64 := by omega
   have hs64 := dsum_le d 64
   refine Tr.exit ?_
   refine hK4 _ ?_
   clear hK7 K7 hK4 K4
   refine Tr.kp [3, 4] ?_
   simp only [pk_cons, pk_nil, ↓A_cons, ↓reduceIte, Nat.reduceEqDiff]
   refine Tr.seqK fun K11 hK11 => ?_
   refine Tr.seqK fun K12 hK12 => ?_
   refine Tr.rg hcx [] _ [] rfl rfl rfl ?_
   simp -implicitDefEqProofs (maxSteps := 2000000) (disch := first | omega | (simp only [go_sem, List.length_append, List.length_drop, List.length_take, dgs_len, hd, hdg, tl_len] <;> omega) | decide) only [go_sem, ↓reduceIte, Nat.reduceEqDiff, reduceCtorEq, Nat.reduceLT, Nat.reduceBEq, Nat.reduceAdd, Nat.reduceSub, Nat.reduceMul, Nat.reduceMod, dgs_len]
   refine hK12 _ ?_
   clear hK12 K12
   refine Tr.kp [3, 4, 6] ?_
   simp only [pk_cons, pk_nil, ↓A_cons, ↓reduceIte, Nat.reduceEqDiff]
   refine Tr.blk ?_
   refine Tr.loopI (α := Nat) (fun a => [(3, ?v3_29), (4, .val (nI (dsum d 64 / 4 ^ a))), (6, .val (nI (67 - a)))]) (fun a => [some (cl bC d), some (cl nC (dgs d 64 ++ (List.replicate (4 - a) 0 ++ tl (dsum d 64) a)))]) (fun a => a ≤ 4) (fun a => 4 - a) (0) (Nat.zero_le _) ?le_29 ?hh_29 ?bd_29
   case hh_29 => exact by first | rfl | simp [tl]
   case le_29 => (simp only [Le_nil, Le_cons, ↓A_cons, ↓reduceIte, Nat.reduceEqDiff, reduceCtorEq, CLe_refl, CLe_top, CLe_full, CLe_nil, CLe_own, and_true, true_and]; all_goals (repeat' first | exact CLe.refl _ | exact True.intro | (refine CLe_sln ?_; first | with_reducible rfl | (simp only [List.take_zero]; done) | (rfl; done)) | exact CLe_nI (by omega) | exact CLe_int (by omega) | exact CLe_inI (by omega) | exact CLe_nIi (by omega) | with_reducible apply And.intro))
   case bd_29 =>
    rintro k hk
    have hdv : dsum d 64 / 4 ^ k ≤ dsum d 64 := Nat.div_le_self _ _
    have htl := tl_len (dsum d 64) k
    refine Tr.seqK fun K13 hK13 => ?_
    refine Tr.seqK fun K14 hK14 => ?_
    refine Tr.rg hcx [] _ [] rfl rfl rfl ?_
    simp -implicitDefEqProofs (maxSteps := 2000000) (disch := first | omega | (simp only [go_sem, List.length_append, List.length_drop, List.length_take, dgs_len, hd, hdg, tl_len] <;> omega) | decide) only [go_sem, ↓reduceIte, Nat.reduceEqDiff, reduceCtorEq, Nat.reduceLT, Nat.reduceBEq, Nat.reduceAdd, Nat.reduceSub, Nat.reduceMul, Nat.reduceMod, dgs_len]
    refine hK14 _ ?_
    clear hK14 K14
    refine Tr.kp [3, 4, 6, 31] ?_
    simp only [pk_cons, pk_nil, ↓A_cons, ↓reduceIte, Nat.reduceEqDiff]
    refine Tr.condG fun KT KF hT hF => ?_
    simp only [ev_tmp, ev_const, ↓A_cons, ↓reduceIte, Nat.reduceEqDiff, reduceCtorEq, condG_bool, GB_true, GB_false, decide_eq_true_eq]
    refine GB.dec (fun hc31 => hT ?_) (fun hc31 => hF ?_)
    ·
     clear hT hF KT KF
     refine Tr.skip ?_
     refine hK13 _ ?_
     clear hK13 K13
     refine Tr.kp [3, 4, 6] ?_
     simp only [pk_cons, pk_nil, ↓A_cons, ↓reduceIte, Nat.reduceEqDiff]
     refine Tr.seqK fun K15 hK15 => ?_
     refine Tr.blk ?_
     refine Tr.seqK fun K16 hK16 => ?_
     refine Tr.rg hcx [] _ [] rfl rfl rfl ?_
     simp -implicitDefEqProofs (maxSteps := 2000000) (disch := first | omega | (simp only [go_sem, List.length_append, List.length_drop, List.length_take, dgs_len, hd, hdg, tl_len] <;> omega) | decide) only [go_sem, ↓reduceIte, Nat.reduceEqDiff, reduceCtorEq, Nat.reduceLT, Nat.reduceBEq, Nat.reduceAdd, Nat.reduceSub, Nat.reduceMul, Nat.reduceMod, dgs_len]
     refine hK16 _ ?_
     clear hK16 K16
     refine Tr.kp [3, 4, 6] ?_
     simp only [pk_cons, pk_nil, ↓A_cons, ↓reduceIte, Nat.reduceEqDiff]
     refine Tr.rg hcx [1000039] _ [] rfl rfl rfl ?_
     simp -implicitDefEqProofs (maxSteps := 2000000) (disch := first | omega | (simp only [go_sem, List.length_append, List.length_drop, List.length_take, dgs_len, hd, hdg, tl_len] <;> omega) | decide) only [go_sem, ↓reduceIte, Nat.reduceEqDiff, reduceCtorEq, Nat.reduceLT, Nat.reduceBEq, Nat.reduceAdd, Nat.reduceSub, Nat.reduceMul, Nat.reduceMod, dgs_len]
     refine hK15 _ ?_
     clear hK15 K15
     refine Tr.kp [3, 4, 6] ?_
     simp only [pk_cons, pk_nil, ↓A_cons, ↓reduceIte, Nat.reduceEqDiff]
     refine Tr.rg hcx [1000033] _ [] rfl rfl rfl ?_
     simp -implicitDefEqProofs (maxSteps := 2000000) (disch := first | omega | (simp only [go_sem, List.length_append, List.length_drop, List.length_take, dgs_len, hd, hdg, tl_len] <;> omega) | decide) only [go_sem, ↓reduceIte, Nat.reduceEqDiff, reduceCtorEq, Nat.reduceLT, Nat.reduceBEq, Nat.reduceAdd, Nat.reduceSub, Nat.reduceMul, Nat.reduceMod, dgs_len]
     refine ⟨k + 1, ⟨by omega, by first | omega | (simp only []; omega)⟩, ?_, by rw [set_tl _ _ (by omega) (dgs_len d 64)]⟩
     (simp only [Le_nil, Le_cons, ↓A_cons, ↓reduceIte, Nat.reduceEqDiff, reduceCtorEq, CLe_refl, CLe_top, CLe_full, CLe_nil, CLe_own, and_true, true_and]; all_goals (repeat' first | exact CLe.refl _ | exact True.intro | (refine CLe_sln ?_; first | with_reducible rfl | (simp only [List.take_zero]; done) | (rfl; done)) | exact CLe_nI (by omega) | exact CLe_int (by omega) | exact CLe_inI (by omega) | exact CLe_nIi (by omega) | with_reducible apply And.intro))
     all_goals first | exact CLe.refl _ | (rw [Nat.sub_sub]; exact CLe.refl _) | (rw [Nat.div_div_eq_div_mul, ← Nat.pow_succ]; exact CLe.refl _)
    ·
     clear hT hF KT KF
     obtain rfl : k = 4 := by omega
     refine Tr.exit ?_
     refine hK11 _ ?_
     clear hK13 K13 hK11 K11
     refine Tr.kp [3] ?_
     simp only [pk_cons, pk_nil, ↓A_cons, ↓reduceIte, Nat.reduceEqDiff]
     refine Tr.seqK fun K17 hK17 => ?_
     refine Tr.rg hcx [1000040] _ [] rfl rfl rfl ?_
     simp -implicitDefEqProofs (maxSteps := 2000000) (disch := first | omega | (simp only [go_sem, List.length_append, List.length_drop, List.length_take, dgs_len, hd, hdg, tl_len] <;> omega) | decide) only [go_sem, ↓reduceIte, Nat.reduceEqDiff, reduceCtorEq, Nat.reduceLT, Nat.reduceBEq, Nat.reduceAdd, Nat.reduceSub, Nat.reduceMul, Nat.reduceMod, dgs_len]
     refine hK17 _ ?_
     clear hK17 K17
     refine Tr.kp [2] ?_
     simp only [pk_cons, pk_nil, ↓A_cons, ↓reduceIte, Nat.reduceEqDiff]
     refine Tr.digF hcx (by simp [dgs_len, tl_len]) (by decide) fun _ => ?_
     refine Tr.ret ?_
     simp -implicitDefEqProofs (disch := first | omega | (simp only [go_sem, List.length_append, List.length_drop, List.length_take, dgs_len, hd, hdg, tl_len] <;> omega) | decide) only [go_sem, ↓reduceIte, Nat.reduceEqDiff, reduceCtorEq]
     all_goals (rfl)
end Go.Sx
namespace Go.Sx
open Go.RowKit Go.Proofs
theorem lay4n (a b c e : Nat) : lay1s 4 (cl nC (List.replicate 4 0)) [(0, C.val (nI a)), (1, C.val (nI b)), (2, C.val (nI c)), (3, C.val (nI e))] = some (vp (sl nC .full [a, b, c, e])) := rfl
theorem lay1n (a : Nat) : lay1s 1 (cl nC [0]) [(0, C.val (nI a))] = some (vp (sl nC .full [a])) := rfl
theorem dsum_S2 (d : List UInt8) (n : Nat) : dsum d n + 3 - dg d n = dsum d (n + 1) := by
  have := dg_lt d n; rw [dsum]; omega
def l4 (b : Nat) : List Nat := [b / 64, b / 16 % 4, b / 4 % 4, b % 4]
theorem l4_gt (d : List UInt8) {i k : Nat} (hk : k < 4) : gt (l4 (gt d i).toNat) k = dg d (4 * i + k) := by
  have hx : (gt d i).toNat < 256 := (gt d i).toNat_lt
  unfold dg
  rw [show (4 * i + k) / 4 = i by omega, show (4 * i + k) % 4 = k by omega]
  rcases (show k = 0 ∨ k = 1 ∨ k = 2 ∨ k = 3 by omega) with rfl | rfl | rfl | rfl
  · show (gt d i).toNat / 64 = (gt d i).toNat / 4 ^ 3 % 4
    rw [show (4 : Nat) ^ 3 = 64 from rfl]; omega
  · rfl
  · rfl
  · show (gt d i).toNat % 4 = (gt d i).toNat / 4 ^ 0 % 4
    rw [Nat.pow_zero, Nat.div_one]
theorem tl_4 {s : Nat} (h : s ≤ 192) : [s / 64, s / 16 % 4, s / 4 % 4, s % 4] = tl s 4 := by
  show _ = [s / 4 ^ 3 % 4, s / 4 ^ 2 % 4, s / 4 ^ 1 % 4, s / 4 ^ 0 % 4]
  rw [Nat.pow_zero, Nat.div_one, show (4 : Nat) ^ 3 = 64 from rfl, show s / 64 = s / 64 % 4 by omega]; simp
set_option maxRecDepth 100000 in
set_option maxHeartbeats 8000000 in
theorem fc11 {gl : Nat → C} {M : Nat} {pu : Nat → List C → Option C}  (hcx : CxOK (cxP gl M pu)) (d : List UInt8) (hd : d.length = 16) : FC Tryd.prog gl 11 [.agg (cl bC d)] [] (sl nC (.own 1) (digT d)) [] := by
 replace hcx := hcx.reN (M := 59)
 refine FC.ofA (cx := cxP gl 59 pu) (rs := [.tmp 2]) rfl Tryd.func11 rfl rfl rfl (by simp only [List.length_cons, List.length_nil]; decide) (by simp only [go_sem]) ?_
 simp only [ini, go_sem]
 have hdl := dgs_len d
 have hdg := dg_lt d 0
 have hss := dsum_le d
 have hLl := True.intro
 refine Tr.seqK fun K1 hK1 => ?_
 refine Tr.rg hcx [] _ [none] rfl rfl rfl ?_
 simp -implicitDefEqProofs (maxSteps := 2000000) (disch := first | omega | (simp only [go_sem, List.length_append, List.length_drop, List.length_take, dgs_len, hd, hdg, tl_len, hLl] <;> omega) | decide) only [go_sem, ↓reduceIte, Nat.reduceEqDiff, reduceCtorEq, Nat.reduceLT, Nat.reduceBEq, Nat.reduceAdd, Nat.reduceSub, Nat.reduceMul, Nat.reduceMod, dgs_len, lay4n, lay1n]
 refine hK1 _ ?_
 clear hK1 K1
 refine Tr.kp [1] ?_
 simp only [pk_cons, pk_nil, ↓A_cons, ↓reduceIte, Nat.reduceEqDiff]
 refine Tr.seqK fun K2 hK2 => ?_
 refine Tr.rg hcx [] _ [] rfl rfl rfl ?_
 simp -implicitDefEqProofs (maxSteps := 2000000) (disch := first | omega | (simp only [go_sem, List.length_append, List.length_drop, List.length_take, dgs_len, hd, hdg, tl_len, hLl] <;> omega) | decide) only [go_sem, ↓reduceIte, Nat.reduceEqDiff, reduceCtorEq, Nat.reduceLT, Nat.reduceBEq, Nat.reduceAdd, Nat.reduceSub, Nat.reduceMul, Nat.reduceMod, dgs_len, lay4n, lay1n]
 refine hK2 _ ?_
 clear hK2 K2
 refine Tr.kp [1, 3] ?_
 simp only [pk_cons, pk_nil, ↓A_cons, ↓reduceIte, Nat.reduceEqDiff]
 refine Tr.seqK fun K3 hK3 => ?_
 refine Tr.rg hcx [] _ [] rfl rfl rfl ?_
 simp -implicitDefEqProofs (maxSteps := 2000000) (disch := first | omega | (simp only [go_sem, List.length_append, List.length_drop, List.length_take, dgs_len, hd, hdg, tl_len, hLl] <;> omega) | decide) only [go_sem, ↓reduceIte, Nat.reduceEqDiff, reduceCtorEq, Nat.reduceLT, Nat.reduceBEq, Nat.reduceAdd, Nat.reduceSub, Nat.reduceMul, Nat.reduceMod, dgs_len, lay4n, lay1n]
 refine hK3 _ ?_
 clear hK3 K3
 refine Tr.kp [1, 3, 4] ?_
 simp only [pk_cons, pk_nil, ↓A_cons, ↓reduceIte, Nat.reduceEqDiff]
 refine Tr.seqK fun K4 hK4 => ?_
 refine Tr.seqK fun K5 hK5 => ?_
 refine Tr.rg hcx [] _ [] rfl rfl rfl ?_
 simp -implicitDefEqProofs (maxSteps := 2000000) (disch := first | omega | (simp only [go_sem, List.length_append, List.length_drop, List.length_take, dgs_len, hd, hdg, tl_len, hLl] <;> omega) | decide) only [go_sem, ↓reduceIte, Nat.reduceEqDiff, reduceCtorEq, Nat.reduceLT, Nat.reduceBEq, Nat.reduceAdd, Nat.reduceSub, Nat.reduceMul, Nat.reduceMod, dgs_len, lay4n, lay1n]
 refine hK5 _ ?_
 clear hK5 K5
 refine Tr.kp [1, 3, 4, 5] ?_
 simp only [pk_cons, pk_nil, ↓A_cons, ↓reduceIte, Nat.reduceEqDiff]
 refine Tr.blk ?_
 refine Tr.loopI (α := Nat) (fun a => [(1, ?v1_10), (3, sl nC (.own 1) (dgs d (4 * a))), (4, .val (nI (dsum d (4 * a)))), (5, .val (nI a))]) (fun a => [some (cl bC d)]) (fun a => a ≤ 16) (fun a => 16 - a) (0) (Nat.zero_le _) ?le_10 ?hh_10 ?bd_10
 case hh_10 => exact rfl
 case le_10 => (simp only [Le_nil, Le_cons, ↓A_cons, ↓reduceIte, Nat.reduceEqDiff, reduceCtorEq, CLe_refl, CLe_top, CLe_full, CLe_nil, CLe_own, and_true, true_and]; all_goals (repeat' first | exact CLe.refl _ | exact True.intro | (refine CLe_sln ?_; first | with_reducible rfl | (simp only [List.take_zero]; done) | (rfl; done)) | exact CLe_nI (by omega) | exact CLe_int (by omega) | exact CLe_inI (by omega) | exact CLe_nIi (by omega) | with_reducible apply And.intro)); all_goals first | exact CLe.refl _ | exact CLe_sln rfl
 case bd_10 =>
  rintro i hi
  have hsi := hss (4 * i)
  have hb8 := (gt d i).toNat_lt
  refine Tr.seqK fun K6 hK6 => ?_
  refine Tr.seqK fun K7 hK7 => ?_
  refine Tr.rg hcx [] _ [] rfl rfl rfl ?_
  simp -implicitDefEqProofs (maxSteps := 2000000) (disch := first | omega | (simp only [go_sem, List.length_append, List.length_drop, List.length_take, dgs_len, hd, hdg, tl_len, hLl] <;> omega) | decide) only [go_sem, ↓reduceIte, Nat.reduceEqDiff, reduceCtorEq, Nat.reduceLT, Nat.reduceBEq, Nat.reduceAdd, Nat.reduceSub, Nat.reduceMul, Nat.reduceMod, dgs_len, lay4n, lay1n]
  refine hK7 _ ?_
  clear hK7 K7
  refine Tr.kp [1, 3, 4, 5, 10] ?_
  simp only [pk_cons, pk_nil, ↓A_cons, ↓reduceIte, Nat.reduceEqDiff]
  refine Tr.condG fun KT KF hT hF => ?_
  simp only [ev_tmp, ev_const, ↓A_cons, ↓reduceIte, Nat.reduceEqDiff, reduceCtorEq, condG_bool, GB_true, GB_false, decide_eq_true_eq]
  refine GB.dec (fun hc10 => hT ?_) (fun hc10 => hF ?_)
  ·
   clear hT hF KT KF
   refine Tr.skip ?_
   refine hK6 _ ?_
   clear hK6 K6
   refine Tr.kp [1, 3, 4, 5] ?_
   simp only [pk_cons, pk_nil, ↓A_cons, ↓reduceIte, Nat.reduceEqDiff]
   refine Tr.seqK fun K8 hK8 => ?_
   refine Tr.blk ?_
   refine Tr.seqK fun K9 hK9 => ?_
   refine Tr.rg hcx [1000016] _ [] rfl rfl rfl ?_
   simp -implicitDefEqProofs (maxSteps := 2000000) (disch := first | omega | (simp only [go_sem, List.length_append, List.length_drop, List.length_take, dgs_len, hd, hdg, tl_len, hLl] <;> omega) | decide) only [go_sem, ↓reduceIte, Nat.reduceEqDiff, reduceCtorEq, Nat.reduceLT, Nat.reduceBEq, Nat.reduceAdd, Nat.reduceSub, Nat.reduceMul, Nat.reduceMod, dgs_len, lay4n, lay1n]
   refine hK9 _ ?_
   clear hK9 K9
   refine Tr.kp [1, 3, 4, 5, 6] ?_
   simp only [pk_cons, pk_nil, ↓A_cons, ↓reduceIte, Nat.reduceEqDiff]
   refine Tr.seqK fun K10 hK10 => ?_
   refine Tr.rg hcx [1000027] _ [] rfl rfl rfl ?_
   simp -implicitDefEqProofs (maxSteps := 2000000) (disch := first | omega | (simp only [go_sem, List.length_append, List.length_drop, List.length_take, dgs_len, hd, hdg, tl_len, hLl] <;> omega) | decide) only [go_sem, ↓reduceIte, Nat.reduceEqDiff, reduceCtorEq, Nat.reduceLT, Nat.reduceBEq, Nat.reduceAdd, Nat.reduceSub, Nat.reduceMul, Nat.reduceMod, dgs_len, lay4n, lay1n]
   refine hK10 _ ?_
   clear hK10 K10
   refine Tr.kp [1, 3, 4, 5, 7] ?_
   simp only [pk_cons, pk_nil, ↓A_cons, ↓reduceIte, Nat.reduceEqDiff]
   refine Tr.seqK fun K11 hK11 => ?_
   obtain ⟨L, hL⟩ : ∃ L, L = [(gt d i).toNat / 64, (gt d i).toNat / 16 % 4, (gt d i).toNat / 4 % 4, (gt d i).toNat % 4] := ⟨_, rfl⟩
   rw [← hL]
   have hLl : L.length = 4 := by rw [hL]; rfl
   have hLg : ∀ k, k < 4 → gt L k = dg d (4 * i + k) := fun k hk => by rw [hL]; exact l4_gt d hk
   clear hL
   refine Tr.rg hcx [] _ [] rfl rfl rfl ?_
   simp -implicitDefEqProofs (maxSteps := 2000000) (disch := first | omega | (simp only [go_sem, List.length_append, List.length_drop, List.length_take, dgs_len, hd, hdg, tl_len, hLl] <;> omega) | decide) only [go_sem, ↓reduceIte, Nat.reduceEqDiff, reduceCtorEq, Nat.reduceLT, Nat.reduceBEq, Nat.reduceAdd, Nat.reduceSub, Nat.reduceMul, Nat.reduceMod, dgs_len, lay4n, lay1n]
   refine hK11 _ ?_
   clear hK11 K11
   refine Tr.kp [1, 3, 4, 5, 7, 8] ?_
   simp only [pk_cons, pk_nil, ↓A_cons, ↓reduceIte, Nat.reduceEqDiff]
   refine Tr.blk ?_
   refine Tr.loopI (α := Nat) (fun a => [(1, ?v1_26), (3, sl nC (.own 1) (dgs d (4 * i + a))), (4, .val (nI (dsum d (4 * i + a)))), (5, ?v5_26), (7, ?v7_26), (8, .val (nI a))]) (fun a => [some (cl bC d)]) (fun a => a ≤ 4) (fun a => 4 - a) (0) (Nat.zero_le _) ?le_26 ?hh_26 ?bd_26
   case hh_26 => exact rfl
   case le_26 => (simp only [Le_nil, Le_cons, ↓A_cons, ↓reduceIte, Nat.reduceEqDiff, reduceCtorEq, CLe_refl, CLe_top, CLe_full, CLe_nil, CLe_own, and_true, true_and]; all_goals (repeat' first | exact CLe.refl _ | exact True.intro | (refine CLe_sln ?_; first | with_reducible rfl | (simp only [List.take_zero]; done) | (rfl; done)) | exact CLe_nI (by omega) | exact CLe_int (by omega) | exact CLe_inI (by omega) | exact CLe_nIi (by omega) | with_reducible apply And.intro))
   case bd_26 =>
    rintro k hk
    have hsk := hss (4 * i + k)
    have hdg := dg_lt d (4 * i + k)
    refine Tr.seqK fun K12 hK12 => ?_
    refine Tr.seqK fun K13 hK13 => ?_
    refine Tr.rg hcx [] _ [] rfl rfl rfl ?_
    simp -implicitDefEqProofs (maxSteps := 2000000) (disch := first | omega | (simp only [go_sem, List.length_append, List.length_drop, List.length_take, dgs_len, hd, hdg, tl_len, hLl] <;> omega) | decide) only [go_sem, ↓reduceIte, Nat.reduceEqDiff, reduceCtorEq, Nat.reduceLT, Nat.reduceBEq, Nat.reduceAdd, Nat.reduceSub, Nat.reduceMul, Nat.reduceMod, dgs_len, lay4n, lay1n]
    refine hK13 _ ?_
    clear hK13 K13
    refine Tr.kp [1, 3, 4, 5, 7, 8, 29] ?_
    simp only [pk_cons, pk_nil, ↓A_cons, ↓reduceIte, Nat.reduceEqDiff]
    refine Tr.condG fun KT KF hT hF => ?_
    simp only [ev_tmp, ev_const, ↓A_cons, ↓reduceIte, Nat.reduceEqDiff, reduceCtorEq, condG_bool, GB_true, GB_false, decide_eq_true_eq]
    refine GB.dec (fun hc29 => hT ?_) (fun hc29 => hF ?_)
    ·
     clear hT hF KT KF
     have hgt := hLg k hc29
     refine Tr.skip ?_
     refine hK12 _ ?_
     clear hK12 K12
     refine Tr.kp [1, 3, 4, 5, 7, 8] ?_
     simp only [pk_cons, pk_nil, ↓A_cons, ↓reduceIte, Nat.reduceEqDiff]
     refine Tr.seqK fun K14 hK14 => ?_
     refine Tr.blk ?_
     refine Tr.seqK fun K15 hK15 => ?_
     refine Tr.rg hcx [32, 1000038] _ [] rfl rfl rfl ?_
     simp -implicitDefEqProofs (maxSteps := 2000000) (disch := first | omega | (simp only [go_sem, List.length_append, List.length_drop, List.length_take, dgs_len, hd, hdg, tl_len, hLl] <;> omega) | decide) only [go_sem, ↓reduceIte, Nat.reduceEqDiff, reduceCtorEq, Nat.reduceLT, Nat.reduceBEq, Nat.reduceAdd, Nat.reduceSub, Nat.reduceMul, Nat.reduceMod, dgs_len, lay4n, lay1n, hgt]
     refine hK15 _ ?_
     clear hK15 K15
     refine Tr.kp [1, 3, 4, 5, 7, 8] ?_
     simp only [pk_cons, pk_nil, ↓A_cons, ↓reduceIte, Nat.reduceEqDiff]
     refine Tr.rg hcx [1000045] _ [] rfl rfl rfl ?_
     simp -implicitDefEqProofs (maxSteps := 2000000) (disch := first | omega | (simp only [go_sem, List.length_append, List.length_drop, List.length_take, dgs_len, hd, hdg, tl_len, hLl] <;> omega) | decide) only [go_sem, ↓reduceIte, Nat.reduceEqDiff, reduceCtorEq, Nat.reduceLT, Nat.reduceBEq, Nat.reduceAdd, Nat.reduceSub, Nat.reduceMul, Nat.reduceMod, dgs_len, lay4n, lay1n, hgt]
     refine hK14 _ ?_
     clear hK14 K14
     refine Tr.kp [1, 3, 4, 5, 7, 8] ?_
     simp only [pk_cons, pk_nil, ↓A_cons, ↓reduceIte, Nat.reduceEqDiff]
     refine Tr.rg hcx [1000031] _ [] rfl rfl rfl ?_
     simp -implicitDefEqProofs (maxSteps := 2000000) (disch := first | omega | (simp only [go_sem, List.length_append, List.length_drop, List.length_take, dgs_len, hd, hdg, tl_len, hLl] <;> omega) | decide) only [go_sem, ↓reduceIte, Nat.reduceEqDiff, reduceCtorEq, Nat.reduceLT, Nat.reduceBEq, Nat.reduceAdd, Nat.reduceSub, Nat.reduceMul, Nat.reduceMod, dgs_len, lay4n, lay1n]
     refine ⟨k + 1, ⟨by omega, by first | omega | (simp only []; omega)⟩, ?_, rfl⟩
     (simp only [Le_nil, Le_cons, ↓A_cons, ↓reduceIte, Nat.reduceEqDiff, reduceCtorEq, CLe_refl, CLe_top, CLe_full, CLe_nil, CLe_own, and_true, true_and]; all_goals (repeat' first | exact CLe.refl _ | exact True.intro | (refine CLe_sln ?_; first | with_reducible rfl | (simp only [List.take_zero]; done) | (rfl; done)) | exact CLe_nI (by omega) | exact CLe_int (by omega) | exact CLe_inI (by omega) | exact CLe_nIi (by omega) | with_reducible apply And.intro))
     all_goals first | exact CLe.refl _ | (rw [dsum_S2]; exact CLe.refl _) | (rw [← Nat.add_assoc, dgs_S]; exact CLe.refl _)
    ·
     clear hT hF KT KF
     obtain rfl : k = 4 := by omega
     refine Tr.exit ?_
     refine hK8 _ ?_
     clear hK12 K12 hK8 K8
     refine Tr.kp [1, 3, 4, 5] ?_
     simp only [pk_cons, pk_nil, ↓A_cons, ↓reduceIte, Nat.reduceEqDiff]
     refine Tr.rg hcx [1000012] _ [] rfl rfl rfl ?_
     simp -implicitDefEqProofs (maxSteps := 2000000) (disch := first | omega | (simp only [go_sem, List.length_append, List.length_drop, List.length_take, dgs_len, hd, hdg, tl_len, hLl] <;> omega) | decide) only [go_sem, ↓reduceIte, Nat.reduceEqDiff, reduceCtorEq, Nat.reduceLT, Nat.reduceBEq, Nat.reduceAdd, Nat.reduceSub, Nat.reduceMul, Nat.reduceMod, dgs_len, lay4n, lay1n]
     refine ⟨i + 1, ⟨by omega, by first | omega | (simp only []; omega)⟩, ?_, rfl⟩
     (simp only [Le_nil, Le_cons, ↓A_cons, ↓reduceIte, Nat.reduceEqDiff, reduceCtorEq, CLe_refl, CLe_top, CLe_full, CLe_nil, CLe_own, and_true, true_and]; all_goals (repeat' first | exact CLe.refl _ | exact True.intro | (refine CLe_sln ?_; first | with_reducible rfl | (simp only [List.take_zero]; done) | (rfl; done)) | exact CLe_nI (by omega) | exact CLe_int (by omega) | exact CLe_inI (by omega) | exact CLe_nIi (by omega) | with_reducible apply And.intro))
  ·
   clear hT hF KT KF
   obtain rfl : i = 16 := by omega
   have hs64 := dsum_le d 64
   have htl := tl_4 (s := dsum d 64) (by omega)
   refine Tr.exit ?_
   refine hK4 _ ?_
   clear hK6 K6 hK4 K4
   refine Tr.kp [3, 4] ?_
   simp only [pk_cons, pk_nil, ↓A_cons, ↓reduceIte, Nat.reduceEqDiff]
   refine Tr.seqK fun K16 hK16 => ?_
   refine Tr.rg hcx [46, 1000058] _ [] rfl rfl rfl ?_
   simp -implicitDefEqProofs (maxSteps := 2000000) (disch := first | omega | (simp only [go_sem, List.length_append, List.length_drop, List.length_take, dgs_len, hd, hdg, tl_len, hLl] <;> omega) | decide) only [go_sem, ↓reduceIte, Nat.reduceEqDiff, reduceCtorEq, Nat.reduceLT, Nat.reduceBEq, Nat.reduceAdd, Nat.reduceSub, Nat.reduceMul, Nat.reduceMod, dgs_len, lay4n, lay1n, htl]
   refine hK16 _ ?_
   clear hK16 K16
   refine Tr.kp [2] ?_
   simp only [pk_cons, pk_nil, ↓A_cons, ↓reduceIte, Nat.reduceEqDiff]
   refine Tr.ret ?_
   simp -implicitDefEqProofs (disch := first | omega | (simp only [go_sem, List.length_append, List.length_drop, List.length_take, dgs_len, hd, hdg, tl_len, hLl] <;> omega) | decide) only [go_sem, ↓reduceIte, Nat.reduceEqDiff, reduceCtorEq]
   all_goals (rfl)
end Go.Sx
namespace Go.Sx
open Go.RowKit Go.Proofs
def catV (f : Nat → List UInt8) : Nat → List UInt8
  | 0 => []
  | n + 1 => catV f n ++ f n
theorem catV_len {f : Nat → List UInt8} (h : ∀ c, (f c).length = 16) : ∀ n, (catV f n).length = 16 * n
  | 0 => rfl
  | n + 1 => by rw [catV, List.length_append, catV_len h n, h]; omega
theorem catV_congr {f g : Nat → List UInt8} : ∀ n, (∀ c, c < n → f c = g c) → catV f n = catV g n
  | 0, _ => rfl
  | n + 1, h => by rw [catV, catV, catV_congr n (fun c hc => h c (by omega)), h n (by omega)]
def leafV (f : Nat → List UInt8) : List UInt8 := ofT 3 [ofT 2 [catV f 68]]
theorem leafV_len (f : Nat → List UInt8) : (leafV f).length = 16 := ofT_len _ _
theorem leafV_congr {f g : Nat → List UInt8} (h : ∀ c, c < 68 → f c = g c) : leafV f = leafV g := by unfold leafV; rw [catV_congr 68 h]
/-- The end of a chain. -/
def topT (seed : List UInt8) (i c : Nat) : List UInt8 := advT i c 0 (staT seed i c) 3
theorem topT_len (seed : List UInt8) (i c : Nat) : (topT seed i c).length = 16 := advT_len _ _ _ (staT_len _ _ _) _
def leafT (seed : List UInt8) (i : Nat) : List UInt8 := leafV (topT seed i)
theorem leafT_len (seed : List UInt8) (i : Nat) : (leafT seed i).length = 16 := leafV_len _
/-- The node with a number at a level. -/
def treeT (seed : List UInt8) : Nat → Nat → List UInt8
  | 0, k => leafT seed k
  | l + 1, k => nodT (treeT seed l (2 * k)) (treeT seed l (2 * k + 1))
theorem treeT_len (seed : List UInt8) : ∀ l k, (treeT seed l k).length = 16
  | 0, k => leafT_len seed k
  | l + 1, k => nodT_len _ _
end Go.Sx
namespace Go.Sx
open Go.RowKit Go.Proofs
end Go.Sx
namespace Go.Sx
open Go.RowKit Go.Proofs
theorem i_shl (P : Program) (t : TypeId) (x n : Nat) (h : x * 2 ^ n < 9223372036854775808) (hn : n ≤ 64) : binPlan P .shl t (.val (nI x)) (.val (nI n)) = some (vp (.val (nI (x * 2 ^ n)))) := by
  rw [nI, nI, bin_int]
  have e : sbin .shl (.int .i64 (x : Int)) (.int .i64 (n : Int)) = some (.int .i64 (IntKind.wrap .i64 ((x : Int) * 2 ^ (min n 64)))) := by
    show (if (n : Int) < 0 then none else _) = _
    rw [if_neg (by omega)]
    rfl
  have ep : (x : Int) * 2 ^ n = ((x * 2 ^ n : Nat) : Int) := by rw [Int.natCast_mul, Int.natCast_pow]; rfl
  rw [e, Nat.min_eq_left hn, ep, wrap_i64 _ (by omega) (by omega)]; rfl
theorem pow_half {h l : Nat} (hl : l < h) : 2 ^ (h - l) = 2 * 2 ^ (h - (l + 1)) := by
  rw [show h - l = (h - (l + 1)) + 1 by omega, Nat.pow_succ, Nat.mul_comm]
theorem pow_64 {h : Nat} (hh : h ≤ 6) : ∀ l, 2 ^ (h - l) ≤ 64 := fun l => Nat.pow_le_pow_right (by decide) (show h - l ≤ 6 by omega)
theorem pow_pos2 (n : Nat) : 0 < 2 ^ n := Nat.pow_pos (by decide)
end Go.Sx
namespace Go.Sx
open Go.RowKit Go.Proofs
def Fit (seed : List UInt8) (h : Int) : Prop := seed.length = 32 ∧ 0 ≤ h ∧ h ≤ 6
instance (seed : List UInt8) (h : Int) : Decidable (Fit seed h) := inferInstanceAs (Decidable (seed.length = 32 ∧ 0 ≤ h ∧ h ≤ 6))
def pubT (seed : List UInt8) (h : Int) : List UInt8 × Nat := if Fit seed h then (treeT seed h.toNat 0, 0) else (List.replicate 16 0, 1)
theorem pub_T {seed : List UInt8} {k : Nat} (h : Fit seed (k : Int)) : pubT seed (k : Int) = (treeT seed k 0, 0) := if_pos h
theorem pub_F {seed : List UInt8} {h : Int} (hf : ¬ Fit seed h) : pubT seed h = (List.replicate 16 0, 1) := if_neg hf
def sgR (seed : List UInt8) (i : Nat) (D : List Nat) : Nat → List UInt8
  | 0 => wint (i : Int)
  | n + 1 => sgR seed i D n ++ advT i n 0 (staT seed i n) (gt D n)
theorem sgR_len (seed : List UInt8) (i : Nat) (D : List Nat) : ∀ n, (sgR seed i D n).length = (wint (i : Int)).length + 16 * n
  | 0 => rfl
  | n + 1 => by rw [sgR, List.length_append, sgR_len seed i D n, advT_len _ _ _ (staT_len _ _ _)]; omega
def sib (j : Nat) : Nat := if j % 2 = 1 then j - 1 else j + 1
theorem sib_lt {j p : Nat} (h : j < 2 * p) : sib j < 2 * p := by unfold sib; split <;> omega
def auR (seed : List UInt8) (i : Nat) (S : List UInt8) : Nat → List UInt8
  | 0 => S
  | l + 1 => auR seed i S l ++ treeT seed l (sib (i / 2 ^ l))
theorem auR_len (seed : List UInt8) (i : Nat) (S : List UInt8) : ∀ n, (auR seed i S n).length = S.length + 16 * n
  | 0 => rfl
  | n + 1 => by rw [auR, List.length_append, auR_len seed i S n, treeT_len]; omega
def sigT (seed : List UInt8) (h i : Nat) (m : List UInt8) : List UInt8 := auR seed i (sgR seed i (digT (msgT (treeT seed h 0) (i : Int) m)) 68) h
def signT (seed : List UInt8) (h x : Int) (m : List UInt8) : List UInt8 × Nat :=
  if ¬ Fit seed h then ([], 1) else if x < 0 ∨ ((2 ^ h.toNat : Nat) : Int) ≤ x then ([], 20) else if 1048576 < m.length then ([], 4) else (sigT seed h.toNat x.toNat m, 0)
theorem sign_1 {seed : List UInt8} {h x : Int} {m : List UInt8} (hf : ¬ Fit seed h) : signT seed h x m = ([], 1) := if_pos hf
theorem sign_20 {seed : List UInt8} {k : Nat} {x : Int} {m : List UInt8} (hf : Fit seed (k : Int)) (hx : x < 0 ∨ ((2 ^ k : Nat) : Int) ≤ x) : signT seed (k : Int) x m = ([], 20) := by
  unfold signT; rw [if_neg (fun h => h hf), Int.toNat_natCast, if_pos hx]
theorem sign_4 {seed : List UInt8} {k i : Nat} {m : List UInt8} (hf : Fit seed (k : Int)) (hx : i < 2 ^ k) (hm : 1048576 < m.length) : signT seed (k : Int) (i : Int) m = ([], 4) := by
  unfold signT; rw [if_neg (fun h => h hf), Int.toNat_natCast, if_neg (by omega), if_pos hm]
theorem sign_0 {seed : List UInt8} {k i : Nat} {m : List UInt8} (hf : Fit seed (k : Int)) (hx : i < 2 ^ k) (hm : ¬ 1048576 < m.length) : signT seed (k : Int) (i : Int) m = (sigT seed k i m, 0) := by
  unfold signT; rw [if_neg (fun h => h hf), Int.toNat_natCast, if_neg (by omega), if_neg hm]; rfl
theorem digT_lt (d : List UInt8) (c : Nat) (h : c < 68) : gt (digT d) c < 4 := by
  have hm : gt (digT d) c ∈ digT d := by
    have hl : c < (digT d).length := by rw [digT_len]; exact h
    have e : gt (digT d) c = (digT d)[c] := by simp [gt, List.getD, List.getElem?_eq_getElem hl]
    rw [e]; exact List.getElem_mem hl
  generalize gt (digT d) c = x at *
  unfold digT at hm
  rw [List.mem_append] at hm
  rcases hm with hm | hm
  · obtain ⟨i, _, rfl⟩ := List.mem_map.1 hm; exact dg_lt d i
  · simp only [tl, List.mem_cons, List.not_mem_nil, or_false] at hm
    rcases hm with rfl | rfl | rfl | rfl <;> exact Nat.mod_lt _ (by decide)
end Go.Sx
namespace Go.Sx
open Go.RowKit Go.Proofs
end Go.Sx
namespace Go.Sx
open Go.RowKit Go.Proofs
end Go.Sx
namespace Go.Sx
open Go.RowKit Go.Proofs
def at16 (r : List UInt8) (c : Nat) : List UInt8 := (r.drop (16 * c)).take 16
theorem at16_len {r : List UInt8} {c : Nat} (h : 16 * c + 16 ≤ r.length) : (at16 r c).length = 16 := by
  unfold at16; rw [List.length_take, List.length_drop]; omega
/-- The end of a chain that begins at a digit. -/
def endV (i : Nat) (D : List Nat) (r : List UInt8) (c : Nat) : List UInt8 := advT i c (gt D c) (at16 r c) (3 - gt D c)
theorem endV_len {i : Nat} {D : List Nat} {r : List UInt8} {c : Nat} (h : 16 * c + 16 ≤ r.length) : (endV i D r c).length = 16 := advT_len _ _ _ (at16_len h) _
theorem catV_len' {f : Nat → List UInt8} : ∀ n, (∀ c, c < n → (f c).length = 16) → (catV f n).length = 16 * n
  | 0, _ => rfl
  | n + 1, h => by rw [catV, List.length_append, catV_len' n (fun c hc => h c (by omega)), h n (by omega)]; omega
def upR (i : Nat) (r : List UInt8) (v : List UInt8) : Nat → List UInt8
  | 0 => v
  | l + 1 => if i / 2 ^ l % 2 = 1 then nodT (at16 r (68 + l)) (upR i r v l) else nodT (upR i r v l) (at16 r (68 + l))
theorem upR_len (i : Nat) (r : List UInt8) {v : List UInt8} (h : v.length = 16) : ∀ l, (upR i r v l).length = 16
  | 0 => h
  | l + 1 => by rw [upR]; split <;> exact nodT_len _ _
theorem up_T {i l : Nat} {r v : List UInt8} (h : i / 2 ^ l % 2 = 1) : upR i r v (l + 1) = nodT (at16 r (68 + l)) (upR i r v l) := if_pos h
theorem up_F {i l : Nat} {r v : List UInt8} (h : ¬ i / 2 ^ l % 2 = 1) : upR i r v (l + 1) = nodT (upR i r v l) (at16 r (68 + l)) := if_neg h
def rootV (p : List UInt8) (h i : Nat) (m r : List UInt8) : List UInt8 := upR i r (leafV (endV i (digT (msgT p (i : Int) m)) r)) h
def verT (p : List UInt8) (h : Int) (m sg : List UInt8) : Int × Nat :=
  if ¬ (0 ≤ h ∧ h ≤ 6) then (0, 1) else if 1048576 < m.length then (0, 4) else if (getI sg).2.2 ≠ 0 then (0, (getI sg).2.2) else
  if (getI sg).1 < 0 ∨ ((2 ^ h.toNat : Nat) : Int) ≤ (getI sg).1 ∨ ¬ (sg.drop (getI sg).2.1).length = (68 + h.toNat) * 16 then (0, 2) else
  if rootV p h.toNat (getI sg).1.toNat m (sg.drop (getI sg).2.1) = p then ((getI sg).1, 0) else (0, 19)
section
variable {p m sg : List UInt8} {x : Int} {k n e : Nat}
theorem ver_1 {h : Int} (hh : ¬ (0 ≤ h ∧ h ≤ 6)) : verT p h m sg = (0, 1) := if_pos hh
theorem ver_4 (hk : k ≤ 6) (hm : 1048576 < m.length) : verT p (k : Int) m sg = (0, 4) := by
  unfold verT; rw [if_neg (by omega), if_pos hm]
theorem ver_e (hk : k ≤ 6) (hm : ¬ 1048576 < m.length) (hg : getI sg = (x, n, e)) (he : ¬ e = 0) : verT p (k : Int) m sg = (0, e) := by
  unfold verT; rw [if_neg (by omega), if_neg hm, hg, if_pos he]
theorem ver_2 (hk : k ≤ 6) (hm : ¬ 1048576 < m.length) (hg : getI sg = (x, n, 0)) (hx : x < 0 ∨ ((2 ^ k : Nat) : Int) ≤ x ∨ ¬ (sg.drop n).length = (68 + k) * 16) : verT p (k : Int) m sg = (0, 2) := by
  unfold verT; rw [if_neg (by omega), if_neg hm, hg, if_neg (by simp), Int.toNat_natCast, if_pos hx]
theorem ver_z {i : Nat} (hk : k ≤ 6) (hm : ¬ 1048576 < m.length) (hg : getI sg = ((i : Int), n, 0)) (hx : i < 2 ^ k) (hl : (sg.drop n).length = (68 + k) * 16) : verT p (k : Int) m sg = if rootV p k i m (sg.drop n) = p then ((i : Int), 0) else (0, 19) := by
  unfold verT; rw [if_neg (by omega), if_neg hm, hg, if_neg (by simp), Int.toNat_natCast, if_neg (by simp only []; omega), Int.toNat_natCast]
end
end Go.Sx
namespace Go.Sx
open Go.RowKit Go.Proofs
end Go.Sx
namespace Go.Sx
open Go.RowKit Go.Proofs
theorem at16_eq (r : List UInt8) (k : Nat) : List.take ((k + 1) * 16 - k * 16) (List.drop (k * 16) r) = at16 r k := by
  unfold at16; rw [show (k + 1) * 16 - k * 16 = 16 by omega, Nat.mul_comm]
set_option maxRecDepth 100000 in
set_option maxHeartbeats 8000000 in
theorem fc37 {gl : Nat → C} {M : Nat} {pu : Nat → List C → Option C}  (hcx : CxOK (cxP gl M pu)) (k : Nat) (r : List UInt8) (hk : 16 * k + 16 ≤ r.length ∧ r.length ≤ 1000000) : FC Tryd.prog gl 37 [.val (nI k), .kp [sl bC .no r]] [] (.agg (cl bC (at16 r k))) [] := by
 replace hcx := hcx.reN (M := 13)
 refine FC.ofA (cx := cxP gl 13 pu) (rs := [.cell 3 23]) rfl Tryd.func37 rfl rfl rfl (by simp only [List.length_cons, List.length_nil]; decide) (by simp only [go_sem]) ?_
 simp only [ini, go_sem]
 have ha := at16_len hk.1
 refine Tr.seqK fun K1 hK1 => ?_
 refine Tr.rg hcx [] _ [none] rfl rfl rfl ?_
 simp -implicitDefEqProofs (maxSteps := 2000000) (disch := first | omega | (simp only [go_sem, List.length_append, List.length_drop, List.length_take, ha] <;> omega) | decide) only [go_sem, ↓reduceIte, Nat.reduceEqDiff, reduceCtorEq, Nat.reduceLT, Nat.reduceBEq, Nat.reduceAdd, Nat.reduceSub, Nat.reduceMul, Nat.reduceMod, at16_eq]
 refine hK1 _ ?_
 clear hK1 K1
 refine Tr.kp [0, 1, 3] ?_
 simp only [pk_cons, pk_nil, ↓A_cons, ↓reduceIte, Nat.reduceEqDiff]
 refine Tr.seqK fun K2 hK2 => ?_
 refine Tr.rg hcx [] _ [] rfl rfl rfl ?_
 simp -implicitDefEqProofs (maxSteps := 2000000) (disch := first | omega | (simp only [go_sem, List.length_append, List.length_drop, List.length_take, ha] <;> omega) | decide) only [go_sem, ↓reduceIte, Nat.reduceEqDiff, reduceCtorEq, Nat.reduceLT, Nat.reduceBEq, Nat.reduceAdd, Nat.reduceSub, Nat.reduceMul, Nat.reduceMod, at16_eq]
 refine hK2 _ ?_
 clear hK2 K2
 refine Tr.kp [3] ?_
 simp only [pk_cons, pk_nil, ↓A_cons, ↓reduceIte, Nat.reduceEqDiff]
 refine Tr.ret ?_
 simp -implicitDefEqProofs (disch := first | omega | (simp only [go_sem, List.length_append, List.length_drop, List.length_take, ha] <;> omega) | decide) only [go_sem, ↓reduceIte, Nat.reduceEqDiff, reduceCtorEq]
 all_goals (rfl)
set_option maxRecDepth 100000 in
set_option maxHeartbeats 8000000 in
theorem fc45 {gl : Nat → C} {M : Nat} {pu : Nat → List C → Option C}  (hcx : CxOK (cxP gl M pu)) (h28 : ∀ (seed : List UInt8) (i c : Nat), seed.length ≤ 1000000 → i < 1000000 ∧ c < 1000000 → pu 28 [.val (str seed), .val (nI i), .val (nI c)] = some (.agg (cl bC (staT seed i c)))) (h27 : ∀ (i c f t : Nat) (v : List UInt8), v.length = 16 → i < 1000000 ∧ c < 1000000 ∧ f < 1000000 ∧ t < 1000000 → pu 27 [.val (nI i), .val (nI c), .val (nI f), .val (nI t), .agg (cl bC v)] = some (.agg (cl bC (advT i c f v (t - f))))) (c i : Nat) (seed : List UInt8) (hb : i < 1000000 ∧ c < 68) (hs : seed.length ≤ 1000000) : FC Tryd.prog gl 45 [.val (nI c), .kp [.val (nI i)], .kp [.val (str seed)]] [] (.agg (cl bC (topT seed i c))) [] := by
 replace hcx := hcx.reN (M := 12)
 refine FC.ofA (cx := cxP gl 12 pu) (rs := [.cell 4 23]) rfl Tryd.func45 rfl rfl rfl (by simp only [List.length_cons, List.length_nil]; decide) (by simp only [go_sem]) ?_
 simp only [ini, go_sem]
 have e28 := h28 seed i c hs ⟨hb.1, by omega⟩
 have e27 : pu 27 [.val (nI i), .val (nI c), .val (nI 0), .val (nI 3), .agg (cl bC (staT seed i c))] = some (.agg (cl bC (topT seed i c))) := h27 i c 0 3 _ (staT_len seed i c) ⟨hb.1, by omega, by omega, by omega⟩
 have htl := topT_len seed i c
 refine Tr.seqK fun K1 hK1 => ?_
 refine Tr.rg hcx [] _ [none] rfl rfl rfl ?_
 simp -implicitDefEqProofs (maxSteps := 2000000) (disch := first | omega | (simp only [go_sem, List.length_append, List.length_drop, List.length_take, htl] <;> omega) | decide) only [go_sem, ↓reduceIte, Nat.reduceEqDiff, reduceCtorEq, Nat.reduceLT, Nat.reduceBEq, Nat.reduceAdd, Nat.reduceSub, Nat.reduceMul, Nat.reduceMod, e28, e27]
 refine hK1 _ ?_
 clear hK1 K1
 refine Tr.kp [0, 1, 2, 4] ?_
 simp only [pk_cons, pk_nil, ↓A_cons, ↓reduceIte, Nat.reduceEqDiff]
 refine Tr.seqK fun K2 hK2 => ?_
 refine Tr.rgD hcx hMO [] _ [] rfl rfl rfl rfl ?_
 simp -implicitDefEqProofs (maxSteps := 2000000) (disch := first | omega | (simp only [go_sem, List.length_append, List.length_drop, List.length_take, htl] <;> omega) | decide) only [go_sem, ↓reduceIte, Nat.reduceEqDiff, reduceCtorEq, Nat.reduceLT, Nat.reduceBEq, Nat.reduceAdd, Nat.reduceSub, Nat.reduceMul, Nat.reduceMod, e28, e27]
 with_reducible refine And.intro ?_ ?_
 · exact rfl
 refine hK2 _ ?_
 clear hK2 K2
 refine Tr.kp [4] ?_
 simp only [pk_cons, pk_nil, ↓A_cons, ↓reduceIte, Nat.reduceEqDiff]
 refine Tr.ret ?_
 simp -implicitDefEqProofs (disch := first | omega | (simp only [go_sem, List.length_append, List.length_drop, List.length_take, htl] <;> omega) | decide) only [go_sem, ↓reduceIte, Nat.reduceEqDiff, reduceCtorEq]
 all_goals (rfl)
end Go.Sx
