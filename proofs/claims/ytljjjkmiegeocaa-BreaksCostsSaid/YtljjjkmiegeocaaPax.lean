/-
  Package breaks: the laws of Cost and Check. And what follows.
-/
import Derived.Test.YtljjjkmiegeocaaPaw
import Derived.Test.YtljjjkmiegeocaaPav
set_option linter.unusedSimpArgs false
set_option linter.unusedVariables false
namespace Go.Sx
open Go.RowKit Go.Proofs
theorem LN_set {l : List Int} {n : Nat} (h : LN l n) (i : Nat) (x : Int) : LN (l.set i (wr x)) n := ⟨by rw [List.length_set]; exact h.1, fun y hy => by
  rcases List.mem_or_eq_of_mem_set hy with hy | rfl
  · exact h.2 y hy
  · exact wr_b x⟩
theorem benD_b (p : Int) : -3 ≤ benD p ∧ benD p ≤ 3 := by
  have := around_lt (p.tdiv 16) (m := 7) (by decide)
  unfold benD; omega
theorem LN_snoc {l : List Int} {n : Nat} (h : LN l n) (p : Int) : LN (l ++ [benD p]) (n + 1) := ⟨by rw [List.length_append, List.length_singleton]; have := h.1; omega, fun y hy => by
  rw [List.mem_append, List.mem_singleton] at hy
  rcases hy with hy | rfl
  · exact h.2 y hy
  · have := benD_b p; omega⟩
theorem LN.up {l : List Int} {n m : Nat} (h : LN l n) (hm : n ≤ m) : LN l m := ⟨Nat.le_trans h.1 hm, h.2⟩
theorem bent_ok {E L K : List Int} {n : Nat} (hE : LN E n) (hL : LN L n) (hK : LN K n) (h p : Int) : LN (bentT E L K h p).1 (n + 1) ∧ LN (bentT E L K h p).2.1 (n + 1) ∧ LN (bentT E L K h p).2.2 (n + 1) := by
  have up : ∀ {l : List Int}, LN l n → LN l (n + 1) := fun h => h.up (Nat.le_succ n)
  unfold bentT
  repeat' split
  all_goals refine ⟨?_, ?_, ?_⟩
  all_goals simp only []
  all_goals first
    | exact up ‹_›
    | exact up (LN_set ‹_› _ _)
    | exact LN_snoc ‹_› _
    | (split
       · exact up (LN_set ‹_› _ _)
       · exact up ‹_›)
    | skip
  · refine ⟨?_, fun y hy => ?_⟩
    · have := hE.1
      rw [List.length_append, List.length_take, List.length_drop]; omega
    · rw [List.mem_append] at hy
      rcases hy with hy | hy
      · exact hE.2 y (List.mem_of_mem_take hy)
      · exact hE.2 y (List.mem_of_mem_drop hy)
  · exact ⟨by have := hK.1; rw [List.length_drop]; omega, fun y hy => hK.2 y (List.mem_of_mem_drop hy)⟩
theorem fdA32 (a b c : C) (i : Nat) (x : C) (hx : [a, b, c][i]? = some x) (hi : i < 3) (hn : x.noR = x) : fieldPlan Try.prog 32 (.agg [a, b, c]) i = some (vp x) := by
  unfold fieldPlan
  simp only [td32]
  match i, hi with
  | 0, _ => cases hx; show (match td Try.prog 22 with | some de => _ | none => none) = _; rw [td22]; exact congrArg (fun z => some (vp z)) hn
  | 1, _ => cases hx; show (match td Try.prog 22 with | some de => _ | none => none) = _; rw [td22]; exact congrArg (fun z => some (vp z)) hn
  | 2, _ => cases hx; show (match td Try.prog 22 with | some de => _ | none => none) = _; rw [td22]; exact congrArg (fun z => some (vp z)) hn
theorem fd32_0 (a b c : List Int) : fieldPlan Try.prog 32 (.agg [sl iC .no a, sl iC .no b, sl iC .no c]) 0 = some (vp (sl iC .no a)) := fdA32 _ _ _ 0 _ rfl (by decide) rfl
attribute [go_sem] fd32_0
theorem ixa_r6 (P : Program) (a1 b1 : Nat) (z1 : List Value) (u : TypeDesc) (y : Nat) (z : List Value) (e : TypeId) (l : List C) (hl : l.length = 6) (k : Nat) (hk : k < 6) (he : td P e = some ⟨u, 1, y, z⟩) : ixaP P (some ⟨.slice e, a1, b1, z1⟩) (.sl .full 6 l) (.val (nI k)) = some (vp (.kp (l.drop k))) := by
  have h0 : ixaP P (some ⟨.slice e, a1, b1, z1⟩) (.sl .full 6 l) (.val (nI k)) = ixS (td P e) (idx? (.val (nI k)) 6) fun s k => if l.length = 6 * s ∧ l ≠ [] then some (vp (.kp (l.drop (k * s)))) else none := rfl
  rw [h0, he, idx_nI k 6 hk, ixS_some, if_pos ⟨by omega, by intro e; rw [e] at hl; cases hl⟩, Nat.mul_one]
theorem ixa_m6 (k : Nat) (hk : k < 6) (c0 c1 c2 c3 c4 c5 : C) : ixaP Try.prog (some ⟨.slice 22, 1, 24, [.slice none 0 0]⟩) (.sl .full 6 [c0, c1, c2, c3, c4, c5]) (.val (nI k)) = some (vp (.kp ([c0, c1, c2, c3, c4, c5].drop k))) := ixa_r6 _ _ _ _ _ _ _ _ _ rfl _ hk td22
theorem bsA_m6 (u : TypeDesc) (y : Nat) (a b c d e : List Int) : bsA (some ⟨u, 1, y, [.slice none 0 0]⟩) 6 [(0, sl iC .no a), (1, sl iC .no b), (2, sl iC .no c), (3, sl iC .no d), (4, .val (.slice none 0 0)), (5, sl iC .full e)] = some (vp (.sl .full 6 [sl iC .no a, sl iC .no b, sl iC .no c, sl iC .no d, .val (.slice none 0 0), sl iC .full e])) := by
  rw [bsA_one _ _ _ _ _ rfl (by decide)]; rfl
attribute [local go_sem high] bsA_m6 len_raw ixa_m6
set_option maxRecDepth 100000 in
set_option maxHeartbeats 8000000 in
theorem fc4 {gl : Nat → C} {M : Nat} {pu : Nat → List C → Option C}  (hcx : CxOK (cxP gl M pu)) (h9 : ∀ b w : Int, (-9223372036854775808 ≤ b ∧ b ≤ 9223372036854775807) → (-9223372036854775808 ≤ w ∧ w ≤ 9223372036854775807) → pu 9 [.val (.int .i64 b), .val (.int .i64 w)] = some (.tup [.val (.int .i64 (pageB b)), .val (.int .i64 (pageW w))])) (h10 : ∀ l : List Int, LI l → pu 10 [sl iC .no l] = some (sl iC (.own 1) (widI l))) (h12 : ∀ (l : List Int) (b w : Int), LI l → (-9223372036854775808 ≤ b ∧ b ≤ 9223372036854775807) → (-9223372036854775808 ≤ w ∧ w ≤ 9223372036854775807) → pu 12 [sl iC .no l, .val (.int .i64 b), .val (.int .i64 w)] = some (.tup [.agg [sl iC .no (fillT l b w).1, sl iC .no (fillT l b w).2.1, sl iC .no (fillT l b w).2.2.1], .val (nI (fillT l b w).2.2.2)])) (h19 : ∀ (n : Nat) (x : Int), n ≤ 1000000 → (-9223372036854775808 ≤ x ∧ x ≤ 9223372036854775807) → pu 19 [.val (nI n), .val (.int .i64 x)] = some (sl iC (.own 1) (endsI n x))) (h20 : ∀ (E L K : List Int) (h p : Int), LI E → LI L → LI K → E.length ≤ 1000000 → L.length ≤ 1000000 → K.length ≤ 1000000 → (-9223372036854775808 ≤ h ∧ h ≤ 9223372036854775807) → (-9223372036854775808 ≤ p ∧ p ≤ 9223372036854775807) → pu 20 [.agg [sl iC .no E, sl iC .no L, sl iC .no K], .val (.int .i64 h), .val (.int .i64 p)] = some (.agg [sl iC .no (bentT E L K h p).1, sl iC .no (bentT E L K h p).2.1, sl iC .no (bentT E L K h p).2.2])) (h21 : ∀ (l : List Int) (b w : Int) (e : List Int), LI l → (-9223372036854775808 ≤ b ∧ b ≤ 9223372036854775807) → (-9223372036854775808 ≤ w ∧ w ≤ 9223372036854775807) → LI e → pu 21 [sl iC .no l, .val (.int .i64 b), .val (.int .i64 w), sl iC .no e] = some (.tup [.val (nI (costT l b w e).1), .val (.int .i64 (costT l b w e).2.1), .val (nI (costT l b w e).2.2)])) (h22 : ∀ (l : List Int) (b w : Int) (e : List Int), LI l → (-9223372036854775808 ≤ b ∧ b ≤ 9223372036854775807) → (-9223372036854775808 ≤ w ∧ w ≤ 9223372036854775807) → LI e → pu 22 [sl iC .no l, .val (.int .i64 b), .val (.int .i64 w), sl iC .no e] = some (.tup [.val (nI (costT l b w e).1), .val (.int .i64 (costT l b w e).2.1), .val (nI (costT l b w e).2.2)])) (h18 : pu 18 [] = some (.val (.bool true))) (l : List Int) (n m bits : Int) (ends : List Int) (hl : LI l) (hn : -9223372036854775808 ≤ n ∧ n ≤ 9223372036854775807) (hm : -9223372036854775808 ≤ m ∧ m ≤ 9223372036854775807) (hbits : -9223372036854775808 ≤ bits ∧ bits ≤ 9223372036854775807) (hends : LI ends) : FC Try.prog gl 4 [sl iC .no l, .val (.int .i64 n), .val (.int .i64 m), .val (.int .i64 bits), sl iC .no ends] [] (.val (.bool true)) [] := by
 replace hcx := hcx.reN (M := 99)
 refine FC.ofA (cx := cxP gl 99 pu) (rs := [.tmp 10]) rfl Try.func4 rfl rfl rfl (by simp only [List.length_cons, List.length_nil]; decide) (by simp only [go_sem]) ?_
 simp only [ini, go_sem]
 have h9' := h9 n m hn hm
 have h10' := h10 l hl
 have hl1 := hl.1
 have hpb := pageB_b n
 have hpw := pageW_b m
 have hwl := wid_LI l
 have hwn := wid_len l
 generalize pageB n = B at *
 generalize pageW m = W at *
 have hB : -9223372036854775808 ≤ B ∧ B ≤ 9223372036854775807 := by omega
 have hW : -9223372036854775808 ≤ W ∧ W ≤ 9223372036854775807 := by omega
 have h12' := h12 (widI l) B W hwl hB hW
 have hfo := fill_ok (widI l) B W
 have hf1 := hfo.1.li (by decide)
 have hf2 := hfo.2.1.li (by decide)
 have hf3 := hfo.2.2.li (by decide)
 have hfl1 := hfo.1.1
 have hfl2 := hfo.2.1.1
 have hfl3 := hfo.2.2.1
 have he1 := ends_LI (widI l).length bits (by omega)
 have h19' := h19 (widI l).length bits (by omega) hbits
 have h20' := h20 (fillT (widI l) B W).1 (fillT (widI l) B W).2.1 (fillT (widI l) B W).2.2.1 bits n hf1 hf2 hf3 (by omega) (by omega) (by omega) hbits hn
 have hb1 := bent_ok hfo.1 hfo.2.1 hfo.2.2 bits n
 refine Tr.seqK fun K1 hK1 => ?_
 refine Tr.rg hcx [] _ [] rfl rfl rfl ?_
 simp -implicitDefEqProofs (maxSteps := 2000000) (disch := first | omega | (simp only [go_sem, List.length_append, List.length_drop, List.length_take] <;> omega) | decide) only [go_sem, ↓reduceIte, Nat.reduceEqDiff, reduceCtorEq, Nat.reduceLT, Nat.reduceBEq, Nat.reduceAdd, Nat.reduceSub, Nat.reduceMul, Nat.reduceMod, eq_self, decide_true, decide_false, not_true_eq_false, not_false_eq_true]
 refine hK1 _ ?_
 clear hK1 K1
 refine Tr.kp [0, 1, 2, 3, 4] ?_
 simp only [pk_cons, pk_nil, ↓A_cons, ↓reduceIte, Nat.reduceEqDiff]
 refine Tr.seqK fun K2 hK2 => ?_
 refine Tr.rg hcx [1000028, 1000029] _ [] rfl rfl rfl ?_
 simp -implicitDefEqProofs (maxSteps := 2000000) (disch := first | omega | (simp only [go_sem, List.length_append, List.length_drop, List.length_take] <;> omega) | decide) only [go_sem, ↓reduceIte, Nat.reduceEqDiff, reduceCtorEq, Nat.reduceLT, Nat.reduceBEq, Nat.reduceAdd, Nat.reduceSub, Nat.reduceMul, Nat.reduceMod, eq_self, decide_true, decide_false, not_true_eq_false, not_false_eq_true, h9']
 refine hK2 _ ?_
 clear hK2 K2
 refine Tr.kp [0, 1, 3, 4, 11, 12] ?_
 simp only [pk_cons, pk_nil, ↓A_cons, ↓reduceIte, Nat.reduceEqDiff]
 refine Tr.seqK fun K3 hK3 => ?_
 refine Tr.rg hcx [1000031] _ [] rfl rfl rfl ?_
 simp -implicitDefEqProofs (maxSteps := 2000000) (disch := first | omega | (simp only [go_sem, List.length_append, List.length_drop, List.length_take] <;> omega) | decide) only [go_sem, ↓reduceIte, Nat.reduceEqDiff, reduceCtorEq, Nat.reduceLT, Nat.reduceBEq, Nat.reduceAdd, Nat.reduceSub, Nat.reduceMul, Nat.reduceMod, eq_self, decide_true, decide_false, not_true_eq_false, not_false_eq_true, h10']
 refine hK3 _ ?_
 clear hK3 K3
 refine Tr.kp [1, 3, 4, 11, 12, 13] ?_
 simp only [pk_cons, pk_nil, ↓A_cons, ↓reduceIte, Nat.reduceEqDiff]
 refine Tr.seqK fun K4 hK4 => ?_
 refine Tr.rg hcx [1000038] _ [none] rfl rfl rfl ?_
 simp -implicitDefEqProofs (maxSteps := 2000000) (disch := first | omega | (simp only [go_sem, List.length_append, List.length_drop, List.length_take] <;> omega) | decide) only [go_sem, ↓reduceIte, Nat.reduceEqDiff, reduceCtorEq, Nat.reduceLT, Nat.reduceBEq, Nat.reduceAdd, Nat.reduceSub, Nat.reduceMul, Nat.reduceMod, eq_self, decide_true, decide_false, not_true_eq_false, not_false_eq_true, h12']
 refine hK4 _ ?_
 clear hK4 K4
 refine Tr.kp [1, 3, 4, 11, 12, 13, 14] ?_
 simp only [pk_cons, pk_nil, ↓A_cons, ↓reduceIte, Nat.reduceEqDiff]
 refine Tr.seqK fun K5 hK5 => ?_
 refine Tr.rgD hcx hMO [1000054] _ [] rfl rfl rfl rfl ?_
 simp -implicitDefEqProofs (maxSteps := 2000000) (disch := first | omega | (simp only [go_sem, List.length_append, List.length_drop, List.length_take] <;> omega) | decide) only [go_sem, ↓reduceIte, Nat.reduceEqDiff, reduceCtorEq, Nat.reduceLT, Nat.reduceBEq, Nat.reduceAdd, Nat.reduceSub, Nat.reduceMul, Nat.reduceMod, eq_self, decide_true, decide_false, not_true_eq_false, not_false_eq_true, h19', h20']
 with_reducible refine And.intro ?_ ?_
 · exact rfl
 refine hK5 _ ?_
 clear hK5 K5
 refine Tr.kp [11, 12, 13, 16] ?_
 simp only [pk_cons, pk_nil, ↓A_cons, ↓reduceIte, Nat.reduceEqDiff]
 refine Tr.seqK fun K6 hK6 => ?_
 refine Tr.seqK fun K7 hK7 => ?_
 refine Tr.rg hcx [] _ [] rfl rfl rfl ?_
 simp -implicitDefEqProofs (maxSteps := 2000000) (disch := first | omega | (simp only [go_sem, List.length_append, List.length_drop, List.length_take] <;> omega) | decide) only [go_sem, ↓reduceIte, Nat.reduceEqDiff, reduceCtorEq, Nat.reduceLT, Nat.reduceBEq, Nat.reduceAdd, Nat.reduceSub, Nat.reduceMul, Nat.reduceMod, eq_self, decide_true, decide_false, not_true_eq_false, not_false_eq_true]
 refine hK7 _ ?_
 clear hK7 K7
 refine Tr.kp [11, 12, 13, 16, 17] ?_
 simp only [pk_cons, pk_nil, ↓A_cons, ↓reduceIte, Nat.reduceEqDiff]
 refine Tr.blk ?_
 refine Tr.loopI (α := Nat) (fun a => [(11, ?v11_14), (12, ?v12_14), (13, ?v13_14), (16, ?v16_14), (17, .val (nI a))]) (fun a => ?h_14) (fun a => a ≤ 6) (fun a => 6 - a) (0) (by decide) ?le_14 ?hh_14 ?bd_14
 case hh_14 => exact rfl
 case le_14 => (simp only [Le_nil, Le_cons, ↓A_cons, ↓reduceIte, Nat.reduceEqDiff, reduceCtorEq, CLe_refl, CLe_top, CLe_full, CLe_nil, CLe_own, and_true, true_and]; all_goals (repeat' first | exact CLe.refl _ | exact True.intro | (refine CLe_sln ?_; first | with_reducible rfl | (simp only [List.take_zero]; done) | (rfl; done)) | exact CLe_nI (by omega) | exact CLe_int (by omega) | exact CLe_inI (by omega) | exact CLe_nIi (by omega) | with_reducible apply And.intro))
 case bd_14 =>
  rintro k hk
  obtain ⟨k0, hk0⟩ : ∃ k0, k0 = k := ⟨k, rfl⟩
  refine Tr.seqK fun K8 hK8 => ?_
  refine Tr.seqK fun K9 hK9 => ?_
  by_cases q0 : k = 0
  ·
   subst q0
   have q0 := True.intro
   have hX : LI (fillT (widI l) B W).1 := hf1
   have e21 := h21 (widI l) B W (fillT (widI l) B W).1 hwl hB hW hX
   have e22 := h22 (widI l) B W (fillT (widI l) B W).1 hwl hB hW hX
   refine Tr.rg hcx [] _ [] rfl rfl rfl ?_
   simp -implicitDefEqProofs (maxSteps := 2000000) (disch := first | omega | (simp only [go_sem, List.length_append, List.length_drop, List.length_take] <;> omega) | decide) only [go_sem, ↓reduceIte, Nat.reduceEqDiff, reduceCtorEq, Nat.reduceLT, Nat.reduceBEq, Nat.reduceAdd, Nat.reduceSub, Nat.reduceMul, Nat.reduceMod, eq_self, decide_true, decide_false, not_true_eq_false, not_false_eq_true, q0]
   refine hK9 _ ?_
   clear hK9 K9
   refine Tr.kp [11, 12, 13, 16, 17, 58] ?_
   simp only [pk_cons, pk_nil, ↓A_cons, ↓reduceIte, Nat.reduceEqDiff]
   refine Tr.condG fun KT KF hT hF => ?_
   simp only [ev_tmp, ev_const, ↓A_cons, ↓reduceIte, Nat.reduceEqDiff, reduceCtorEq, condG_bool, GB_true, GB_false, decide_eq_true_eq]
   refine hT ?_
   clear hT hF KT KF
   refine Tr.skip ?_
   refine hK8 _ ?_
   clear hK8 K8
   refine Tr.kp [11, 12, 13, 16, 17] ?_
   simp only [pk_cons, pk_nil, ↓A_cons, ↓reduceIte, Nat.reduceEqDiff]
   refine Tr.seqK fun K10 hK10 => ?_
   refine Tr.blk ?_
   refine Tr.seqK fun K11 hK11 => ?_
   refine Tr.rg hcx [1000070, 1000071, 1000072] _ [] rfl rfl rfl ?_
   simp -implicitDefEqProofs (maxSteps := 2000000) (disch := first | omega | (simp only [go_sem, List.length_append, List.length_drop, List.length_take] <;> omega) | decide) only [go_sem, ↓reduceIte, Nat.reduceEqDiff, reduceCtorEq, Nat.reduceLT, Nat.reduceBEq, Nat.reduceAdd, Nat.reduceSub, Nat.reduceMul, Nat.reduceMod, eq_self, decide_true, decide_false, not_true_eq_false, not_false_eq_true, q0, e21]
   refine hK11 _ ?_
   clear hK11 K11
   refine Tr.kp [11, 12, 13, 16, 17, 18, 19, 20] ?_
   simp only [pk_cons, pk_nil, ↓A_cons, ↓reduceIte, Nat.reduceEqDiff]
   refine Tr.seqK fun K12 hK12 => ?_
   refine Tr.rg hcx [1000082, 1000083, 1000084] _ [] rfl rfl rfl ?_
   simp -implicitDefEqProofs (maxSteps := 2000000) (disch := first | omega | (simp only [go_sem, List.length_append, List.length_drop, List.length_take] <;> omega) | decide) only [go_sem, ↓reduceIte, Nat.reduceEqDiff, reduceCtorEq, Nat.reduceLT, Nat.reduceBEq, Nat.reduceAdd, Nat.reduceSub, Nat.reduceMul, Nat.reduceMod, eq_self, decide_true, decide_false, not_true_eq_false, not_false_eq_true, q0, e22]
   refine hK12 _ ?_
   clear hK12 K12
   refine Tr.kp [11, 12, 13, 16, 17, 18, 19, 20, 21, 22, 23] ?_
   simp only [pk_cons, pk_nil, ↓A_cons, ↓reduceIte, Nat.reduceEqDiff]
   refine Tr.seqK fun K13 hK13 => ?_
   refine Tr.rg hcx [] [some 85, some 86, some 87, some 88, some 89, some 90, some 91, some 92, some 93, some 94, some 95, some 96, some 97] [] rfl rfl rfl ?_
   simp -implicitDefEqProofs (maxSteps := 2000000) (disch := first | omega | (simp only [go_sem, List.length_append, List.length_drop, List.length_take] <;> omega) | decide) only [go_sem, ↓reduceIte, Nat.reduceEqDiff, reduceCtorEq, Nat.reduceLT, Nat.reduceBEq, Nat.reduceAdd, Nat.reduceSub, Nat.reduceMul, Nat.reduceMod, eq_self, decide_true, decide_false, not_true_eq_false, not_false_eq_true, q0]
   refine hK13 _ ?_
   clear hK13 K13
   refine Tr.kp [11, 12, 13, 16, 17, 97] ?_
   simp only [pk_cons, pk_nil, ↓A_cons, ↓reduceIte, Nat.reduceEqDiff]
   refine Tr.condG fun KT KF hT hF => ?_
   simp only [ev_tmp, ev_const, ↓A_cons, ↓reduceIte, Nat.reduceEqDiff, reduceCtorEq, condG_bool, GB_true, GB_false, decide_eq_true_eq]
   refine hF ?_
   clear hT hF KT KF
   refine Tr.skip ?_
   refine hK10 _ ?_
   clear hK10 K10
   refine Tr.kp [11, 12, 13, 16, 17] ?_
   simp only [pk_cons, pk_nil, ↓A_cons, ↓reduceIte, Nat.reduceEqDiff]
   refine Tr.rg hcx [1000060] _ [] rfl rfl rfl ?_
   simp -implicitDefEqProofs (maxSteps := 2000000) (disch := first | omega | (simp only [go_sem, List.length_append, List.length_drop, List.length_take] <;> omega) | decide) only [go_sem, ↓reduceIte, Nat.reduceEqDiff, reduceCtorEq, Nat.reduceLT, Nat.reduceBEq, Nat.reduceAdd, Nat.reduceSub, Nat.reduceMul, Nat.reduceMod, eq_self, decide_true, decide_false, not_true_eq_false, not_false_eq_true, q0]
   refine ⟨k0 + 1, ⟨by omega, by first | omega | (simp only []; omega)⟩, ?_, rfl⟩
   (simp only [Le_nil, Le_cons, ↓A_cons, ↓reduceIte, Nat.reduceEqDiff, reduceCtorEq, CLe_refl, CLe_top, CLe_full, CLe_nil, CLe_own, and_true, true_and]; all_goals (repeat' first | exact CLe.refl _ | exact True.intro | (refine CLe_sln ?_; first | with_reducible rfl | (simp only [List.take_zero]; done) | (rfl; done)) | exact CLe_nI (by omega) | exact CLe_int (by omega) | exact CLe_inI (by omega) | exact CLe_nIi (by omega) | with_reducible apply And.intro))
   all_goals exact CLe_nI (by omega)
  ·
   have q0o := q0
   replace q0 := eq_false q0
   by_cases q1 : k = 1
   ·
    subst q1
    have q1 := True.intro
    have hX : LI (endsI (widI l).length bits) := he1
    have e21 := h21 (widI l) B W (endsI (widI l).length bits) hwl hB hW hX
    have e22 := h22 (widI l) B W (endsI (widI l).length bits) hwl hB hW hX
    refine Tr.rg hcx [] _ [] rfl rfl rfl ?_
    simp -implicitDefEqProofs (maxSteps := 2000000) (disch := first | omega | (simp only [go_sem, List.length_append, List.length_drop, List.length_take] <;> omega) | decide) only [go_sem, ↓reduceIte, Nat.reduceEqDiff, reduceCtorEq, Nat.reduceLT, Nat.reduceBEq, Nat.reduceAdd, Nat.reduceSub, Nat.reduceMul, Nat.reduceMod, eq_self, decide_true, decide_false, not_true_eq_false, not_false_eq_true, q0, q1]
    refine hK9 _ ?_
    clear hK9 K9
    refine Tr.kp [11, 12, 13, 16, 17, 58] ?_
    simp only [pk_cons, pk_nil, ↓A_cons, ↓reduceIte, Nat.reduceEqDiff]
    refine Tr.condG fun KT KF hT hF => ?_
    simp only [ev_tmp, ev_const, ↓A_cons, ↓reduceIte, Nat.reduceEqDiff, reduceCtorEq, condG_bool, GB_true, GB_false, decide_eq_true_eq]
    refine hT ?_
    clear hT hF KT KF
    refine Tr.skip ?_
    refine hK8 _ ?_
    clear hK8 K8
    refine Tr.kp [11, 12, 13, 16, 17] ?_
    simp only [pk_cons, pk_nil, ↓A_cons, ↓reduceIte, Nat.reduceEqDiff]
    refine Tr.seqK fun K14 hK14 => ?_
    refine Tr.blk ?_
    refine Tr.seqK fun K15 hK15 => ?_
    refine Tr.rg hcx [1000070, 1000071, 1000072] _ [] rfl rfl rfl ?_
    simp -implicitDefEqProofs (maxSteps := 2000000) (disch := first | omega | (simp only [go_sem, List.length_append, List.length_drop, List.length_take] <;> omega) | decide) only [go_sem, ↓reduceIte, Nat.reduceEqDiff, reduceCtorEq, Nat.reduceLT, Nat.reduceBEq, Nat.reduceAdd, Nat.reduceSub, Nat.reduceMul, Nat.reduceMod, eq_self, decide_true, decide_false, not_true_eq_false, not_false_eq_true, q0, q1, e21]
    refine hK15 _ ?_
    clear hK15 K15
    refine Tr.kp [11, 12, 13, 16, 17, 18, 19, 20] ?_
    simp only [pk_cons, pk_nil, ↓A_cons, ↓reduceIte, Nat.reduceEqDiff]
    refine Tr.seqK fun K16 hK16 => ?_
    refine Tr.rg hcx [1000082, 1000083, 1000084] _ [] rfl rfl rfl ?_
    simp -implicitDefEqProofs (maxSteps := 2000000) (disch := first | omega | (simp only [go_sem, List.length_append, List.length_drop, List.length_take] <;> omega) | decide) only [go_sem, ↓reduceIte, Nat.reduceEqDiff, reduceCtorEq, Nat.reduceLT, Nat.reduceBEq, Nat.reduceAdd, Nat.reduceSub, Nat.reduceMul, Nat.reduceMod, eq_self, decide_true, decide_false, not_true_eq_false, not_false_eq_true, q0, q1, e22]
    refine hK16 _ ?_
    clear hK16 K16
    refine Tr.kp [11, 12, 13, 16, 17, 18, 19, 20, 21, 22, 23] ?_
    simp only [pk_cons, pk_nil, ↓A_cons, ↓reduceIte, Nat.reduceEqDiff]
    refine Tr.seqK fun K17 hK17 => ?_
    refine Tr.rg hcx [] [some 85, some 86, some 87, some 88, some 89, some 90, some 91, some 92, some 93, some 94, some 95, some 96, some 97] [] rfl rfl rfl ?_
    simp -implicitDefEqProofs (maxSteps := 2000000) (disch := first | omega | (simp only [go_sem, List.length_append, List.length_drop, List.length_take] <;> omega) | decide) only [go_sem, ↓reduceIte, Nat.reduceEqDiff, reduceCtorEq, Nat.reduceLT, Nat.reduceBEq, Nat.reduceAdd, Nat.reduceSub, Nat.reduceMul, Nat.reduceMod, eq_self, decide_true, decide_false, not_true_eq_false, not_false_eq_true, q0, q1]
    refine hK17 _ ?_
    clear hK17 K17
    refine Tr.kp [11, 12, 13, 16, 17, 97] ?_
    simp only [pk_cons, pk_nil, ↓A_cons, ↓reduceIte, Nat.reduceEqDiff]
    refine Tr.condG fun KT KF hT hF => ?_
    simp only [ev_tmp, ev_const, ↓A_cons, ↓reduceIte, Nat.reduceEqDiff, reduceCtorEq, condG_bool, GB_true, GB_false, decide_eq_true_eq]
    refine hF ?_
    clear hT hF KT KF
    refine Tr.skip ?_
    refine hK14 _ ?_
    clear hK14 K14
    refine Tr.kp [11, 12, 13, 16, 17] ?_
    simp only [pk_cons, pk_nil, ↓A_cons, ↓reduceIte, Nat.reduceEqDiff]
    refine Tr.rg hcx [1000060] _ [] rfl rfl rfl ?_
    simp -implicitDefEqProofs (maxSteps := 2000000) (disch := first | omega | (simp only [go_sem, List.length_append, List.length_drop, List.length_take] <;> omega) | decide) only [go_sem, ↓reduceIte, Nat.reduceEqDiff, reduceCtorEq, Nat.reduceLT, Nat.reduceBEq, Nat.reduceAdd, Nat.reduceSub, Nat.reduceMul, Nat.reduceMod, eq_self, decide_true, decide_false, not_true_eq_false, not_false_eq_true, q0, q1]
    refine ⟨k0 + 1, ⟨by omega, by first | omega | (simp only []; omega)⟩, ?_, rfl⟩
    (simp only [Le_nil, Le_cons, ↓A_cons, ↓reduceIte, Nat.reduceEqDiff, reduceCtorEq, CLe_refl, CLe_top, CLe_full, CLe_nil, CLe_own, and_true, true_and]; all_goals (repeat' first | exact CLe.refl _ | exact True.intro | (refine CLe_sln ?_; first | with_reducible rfl | (simp only [List.take_zero]; done) | (rfl; done)) | exact CLe_nI (by omega) | exact CLe_int (by omega) | exact CLe_inI (by omega) | exact CLe_nIi (by omega) | with_reducible apply And.intro))
    all_goals exact CLe_nI (by omega)
   ·
    have q1o := q1
    replace q1 := eq_false q1
    by_cases q2 : k = 2
    ·
     subst q2
     have q2 := True.intro
     have hX : LI ends := hends
     have e21 := h21 (widI l) B W ends hwl hB hW hX
     have e22 := h22 (widI l) B W ends hwl hB hW hX
     refine Tr.rg hcx [] _ [] rfl rfl rfl ?_
     simp -implicitDefEqProofs (maxSteps := 2000000) (disch := first | omega | (simp only [go_sem, List.length_append, List.length_drop, List.length_take] <;> omega) | decide) only [go_sem, ↓reduceIte, Nat.reduceEqDiff, reduceCtorEq, Nat.reduceLT, Nat.reduceBEq, Nat.reduceAdd, Nat.reduceSub, Nat.reduceMul, Nat.reduceMod, eq_self, decide_true, decide_false, not_true_eq_false, not_false_eq_true, q0, q1, q2]
     refine hK9 _ ?_
     clear hK9 K9
     refine Tr.kp [11, 12, 13, 16, 17, 58] ?_
     simp only [pk_cons, pk_nil, ↓A_cons, ↓reduceIte, Nat.reduceEqDiff]
     refine Tr.condG fun KT KF hT hF => ?_
     simp only [ev_tmp, ev_const, ↓A_cons, ↓reduceIte, Nat.reduceEqDiff, reduceCtorEq, condG_bool, GB_true, GB_false, decide_eq_true_eq]
     refine hT ?_
     clear hT hF KT KF
     refine Tr.skip ?_
     refine hK8 _ ?_
     clear hK8 K8
     refine Tr.kp [11, 12, 13, 16, 17] ?_
     simp only [pk_cons, pk_nil, ↓A_cons, ↓reduceIte, Nat.reduceEqDiff]
     refine Tr.seqK fun K18 hK18 => ?_
     refine Tr.blk ?_
     refine Tr.seqK fun K19 hK19 => ?_
     refine Tr.rg hcx [1000070, 1000071, 1000072] _ [] rfl rfl rfl ?_
     simp -implicitDefEqProofs (maxSteps := 2000000) (disch := first | omega | (simp only [go_sem, List.length_append, List.length_drop, List.length_take] <;> omega) | decide) only [go_sem, ↓reduceIte, Nat.reduceEqDiff, reduceCtorEq, Nat.reduceLT, Nat.reduceBEq, Nat.reduceAdd, Nat.reduceSub, Nat.reduceMul, Nat.reduceMod, eq_self, decide_true, decide_false, not_true_eq_false, not_false_eq_true, q0, q1, q2, e21]
     refine hK19 _ ?_
     clear hK19 K19
     refine Tr.kp [11, 12, 13, 16, 17, 18, 19, 20] ?_
     simp only [pk_cons, pk_nil, ↓A_cons, ↓reduceIte, Nat.reduceEqDiff]
     refine Tr.seqK fun K20 hK20 => ?_
     refine Tr.rg hcx [1000082, 1000083, 1000084] _ [] rfl rfl rfl ?_
     simp -implicitDefEqProofs (maxSteps := 2000000) (disch := first | omega | (simp only [go_sem, List.length_append, List.length_drop, List.length_take] <;> omega) | decide) only [go_sem, ↓reduceIte, Nat.reduceEqDiff, reduceCtorEq, Nat.reduceLT, Nat.reduceBEq, Nat.reduceAdd, Nat.reduceSub, Nat.reduceMul, Nat.reduceMod, eq_self, decide_true, decide_false, not_true_eq_false, not_false_eq_true, q0, q1, q2, e22]
     refine hK20 _ ?_
     clear hK20 K20
     refine Tr.kp [11, 12, 13, 16, 17, 18, 19, 20, 21, 22, 23] ?_
     simp only [pk_cons, pk_nil, ↓A_cons, ↓reduceIte, Nat.reduceEqDiff]
     refine Tr.seqK fun K21 hK21 => ?_
     refine Tr.rg hcx [] [some 85, some 86, some 87, some 88, some 89, some 90, some 91, some 92, some 93, some 94, some 95, some 96, some 97] [] rfl rfl rfl ?_
     simp -implicitDefEqProofs (maxSteps := 2000000) (disch := first | omega | (simp only [go_sem, List.length_append, List.length_drop, List.length_take] <;> omega) | decide) only [go_sem, ↓reduceIte, Nat.reduceEqDiff, reduceCtorEq, Nat.reduceLT, Nat.reduceBEq, Nat.reduceAdd, Nat.reduceSub, Nat.reduceMul, Nat.reduceMod, eq_self, decide_true, decide_false, not_true_eq_false, not_false_eq_true, q0, q1, q2]
     refine hK21 _ ?_
     clear hK21 K21
     refine Tr.kp [11, 12, 13, 16, 17, 97] ?_
     simp only [pk_cons, pk_nil, ↓A_cons, ↓reduceIte, Nat.reduceEqDiff]
     refine Tr.condG fun KT KF hT hF => ?_
     simp only [ev_tmp, ev_const, ↓A_cons, ↓reduceIte, Nat.reduceEqDiff, reduceCtorEq, condG_bool, GB_true, GB_false, decide_eq_true_eq]
     refine hF ?_
     clear hT hF KT KF
     refine Tr.skip ?_
     refine hK18 _ ?_
     clear hK18 K18
     refine Tr.kp [11, 12, 13, 16, 17] ?_
     simp only [pk_cons, pk_nil, ↓A_cons, ↓reduceIte, Nat.reduceEqDiff]
     refine Tr.rg hcx [1000060] _ [] rfl rfl rfl ?_
     simp -implicitDefEqProofs (maxSteps := 2000000) (disch := first | omega | (simp only [go_sem, List.length_append, List.length_drop, List.length_take] <;> omega) | decide) only [go_sem, ↓reduceIte, Nat.reduceEqDiff, reduceCtorEq, Nat.reduceLT, Nat.reduceBEq, Nat.reduceAdd, Nat.reduceSub, Nat.reduceMul, Nat.reduceMod, eq_self, decide_true, decide_false, not_true_eq_false, not_false_eq_true, q0, q1, q2]
     refine ⟨k0 + 1, ⟨by omega, by first | omega | (simp only []; omega)⟩, ?_, rfl⟩
     (simp only [Le_nil, Le_cons, ↓A_cons, ↓reduceIte, Nat.reduceEqDiff, reduceCtorEq, CLe_refl, CLe_top, CLe_full, CLe_nil, CLe_own, and_true, true_and]; all_goals (repeat' first | exact CLe.refl _ | exact True.intro | (refine CLe_sln ?_; first | with_reducible rfl | (simp only [List.take_zero]; done) | (rfl; done)) | exact CLe_nI (by omega) | exact CLe_int (by omega) | exact CLe_inI (by omega) | exact CLe_nIi (by omega) | with_reducible apply And.intro))
     all_goals exact CLe_nI (by omega)
    ·
     have q2o := q2
     replace q2 := eq_false q2
     by_cases q3 : k = 3
     ·
      subst q3
      have q3 := True.intro
      have hX : LI (bentT (fillT (widI l) B W).1 (fillT (widI l) B W).2.1 (fillT (widI l) B W).2.2.1 bits n).1 := hb1.1.li (by decide)
      have e21 := h21 (widI l) B W (bentT (fillT (widI l) B W).1 (fillT (widI l) B W).2.1 (fillT (widI l) B W).2.2.1 bits n).1 hwl hB hW hX
      have e22 := h22 (widI l) B W (bentT (fillT (widI l) B W).1 (fillT (widI l) B W).2.1 (fillT (widI l) B W).2.2.1 bits n).1 hwl hB hW hX
      refine Tr.rg hcx [] _ [] rfl rfl rfl ?_
      simp -implicitDefEqProofs (maxSteps := 2000000) (disch := first | omega | (simp only [go_sem, List.length_append, List.length_drop, List.length_take] <;> omega) | decide) only [go_sem, ↓reduceIte, Nat.reduceEqDiff, reduceCtorEq, Nat.reduceLT, Nat.reduceBEq, Nat.reduceAdd, Nat.reduceSub, Nat.reduceMul, Nat.reduceMod, eq_self, decide_true, decide_false, not_true_eq_false, not_false_eq_true, q0, q1, q2, q3]
      refine hK9 _ ?_
      clear hK9 K9
      refine Tr.kp [11, 12, 13, 16, 17, 58] ?_
      simp only [pk_cons, pk_nil, ↓A_cons, ↓reduceIte, Nat.reduceEqDiff]
      refine Tr.condG fun KT KF hT hF => ?_
      simp only [ev_tmp, ev_const, ↓A_cons, ↓reduceIte, Nat.reduceEqDiff, reduceCtorEq, condG_bool, GB_true, GB_false, decide_eq_true_eq]
      refine hT ?_
      clear hT hF KT KF
      refine Tr.skip ?_
      refine hK8 _ ?_
      clear hK8 K8
      refine Tr.kp [11, 12, 13, 16, 17] ?_
      simp only [pk_cons, pk_nil, ↓A_cons, ↓reduceIte, Nat.reduceEqDiff]
      refine Tr.seqK fun K22 hK22 => ?_
      refine Tr.blk ?_
      refine Tr.seqK fun K23 hK23 => ?_
      refine Tr.rg hcx [1000070, 1000071, 1000072] _ [] rfl rfl rfl ?_
      simp -implicitDefEqProofs (maxSteps := 2000000) (disch := first | omega | (simp only [go_sem, List.length_append, List.length_drop, List.length_take] <;> omega) | decide) only [go_sem, ↓reduceIte, Nat.reduceEqDiff, reduceCtorEq, Nat.reduceLT, Nat.reduceBEq, Nat.reduceAdd, Nat.reduceSub, Nat.reduceMul, Nat.reduceMod, eq_self, decide_true, decide_false, not_true_eq_false, not_false_eq_true, q0, q1, q2, q3, e21]
      refine hK23 _ ?_
      clear hK23 K23
      refine Tr.kp [11, 12, 13, 16, 17, 18, 19, 20] ?_
      simp only [pk_cons, pk_nil, ↓A_cons, ↓reduceIte, Nat.reduceEqDiff]
      refine Tr.seqK fun K24 hK24 => ?_
      refine Tr.rg hcx [1000082, 1000083, 1000084] _ [] rfl rfl rfl ?_
      simp -implicitDefEqProofs (maxSteps := 2000000) (disch := first | omega | (simp only [go_sem, List.length_append, List.length_drop, List.length_take] <;> omega) | decide) only [go_sem, ↓reduceIte, Nat.reduceEqDiff, reduceCtorEq, Nat.reduceLT, Nat.reduceBEq, Nat.reduceAdd, Nat.reduceSub, Nat.reduceMul, Nat.reduceMod, eq_self, decide_true, decide_false, not_true_eq_false, not_false_eq_true, q0, q1, q2, q3, e22]
      refine hK24 _ ?_
      clear hK24 K24
      refine Tr.kp [11, 12, 13, 16, 17, 18, 19, 20, 21, 22, 23] ?_
      simp only [pk_cons, pk_nil, ↓A_cons, ↓reduceIte, Nat.reduceEqDiff]
      refine Tr.seqK fun K25 hK25 => ?_
      refine Tr.rg hcx [] [some 85, some 86, some 87, some 88, some 89, some 90, some 91, some 92, some 93, some 94, some 95, some 96, some 97] [] rfl rfl rfl ?_
      simp -implicitDefEqProofs (maxSteps := 2000000) (disch := first | omega | (simp only [go_sem, List.length_append, List.length_drop, List.length_take] <;> omega) | decide) only [go_sem, ↓reduceIte, Nat.reduceEqDiff, reduceCtorEq, Nat.reduceLT, Nat.reduceBEq, Nat.reduceAdd, Nat.reduceSub, Nat.reduceMul, Nat.reduceMod, eq_self, decide_true, decide_false, not_true_eq_false, not_false_eq_true, q0, q1, q2, q3]
      refine hK25 _ ?_
      clear hK25 K25
      refine Tr.kp [11, 12, 13, 16, 17, 97] ?_
      simp only [pk_cons, pk_nil, ↓A_cons, ↓reduceIte, Nat.reduceEqDiff]
      refine Tr.condG fun KT KF hT hF => ?_
      simp only [ev_tmp, ev_const, ↓A_cons, ↓reduceIte, Nat.reduceEqDiff, reduceCtorEq, condG_bool, GB_true, GB_false, decide_eq_true_eq]
      refine hF ?_
      clear hT hF KT KF
      refine Tr.skip ?_
      refine hK22 _ ?_
      clear hK22 K22
      refine Tr.kp [11, 12, 13, 16, 17] ?_
      simp only [pk_cons, pk_nil, ↓A_cons, ↓reduceIte, Nat.reduceEqDiff]
      refine Tr.rg hcx [1000060] _ [] rfl rfl rfl ?_
      simp -implicitDefEqProofs (maxSteps := 2000000) (disch := first | omega | (simp only [go_sem, List.length_append, List.length_drop, List.length_take] <;> omega) | decide) only [go_sem, ↓reduceIte, Nat.reduceEqDiff, reduceCtorEq, Nat.reduceLT, Nat.reduceBEq, Nat.reduceAdd, Nat.reduceSub, Nat.reduceMul, Nat.reduceMod, eq_self, decide_true, decide_false, not_true_eq_false, not_false_eq_true, q0, q1, q2, q3]
      refine ⟨k0 + 1, ⟨by omega, by first | omega | (simp only []; omega)⟩, ?_, rfl⟩
      (simp only [Le_nil, Le_cons, ↓A_cons, ↓reduceIte, Nat.reduceEqDiff, reduceCtorEq, CLe_refl, CLe_top, CLe_full, CLe_nil, CLe_own, and_true, true_and]; all_goals (repeat' first | exact CLe.refl _ | exact True.intro | (refine CLe_sln ?_; first | with_reducible rfl | (simp only [List.take_zero]; done) | (rfl; done)) | exact CLe_nI (by omega) | exact CLe_int (by omega) | exact CLe_inI (by omega) | exact CLe_nIi (by omega) | with_reducible apply And.intro))
      all_goals exact CLe_nI (by omega)
     ·
      have q3o := q3
      replace q3 := eq_false q3
      by_cases q4 : k = 4
      ·
       subst q4
       have q4 := True.intro
       have hX : LI [] := LI_of (by decide) (by decide)
       have e21 : pu 21 [sl iC .no (widI l), C.val (.int .i64 B), C.val (.int .i64 W), C.sl .no 0 []] = _ := h21 (widI l) B W [] hwl hB hW hX
       have e22 : pu 22 [sl iC .no (widI l), C.val (.int .i64 B), C.val (.int .i64 W), C.sl .no 0 []] = _ := h22 (widI l) B W [] hwl hB hW hX
       refine Tr.rg hcx [] _ [] rfl rfl rfl ?_
       simp -implicitDefEqProofs (maxSteps := 2000000) (disch := first | omega | (simp only [go_sem, List.length_append, List.length_drop, List.length_take] <;> omega) | decide) only [go_sem, ↓reduceIte, Nat.reduceEqDiff, reduceCtorEq, Nat.reduceLT, Nat.reduceBEq, Nat.reduceAdd, Nat.reduceSub, Nat.reduceMul, Nat.reduceMod, eq_self, decide_true, decide_false, not_true_eq_false, not_false_eq_true, q0, q1, q2, q3, q4]
       refine hK9 _ ?_
       clear hK9 K9
       refine Tr.kp [11, 12, 13, 16, 17, 58] ?_
       simp only [pk_cons, pk_nil, ↓A_cons, ↓reduceIte, Nat.reduceEqDiff]
       refine Tr.condG fun KT KF hT hF => ?_
       simp only [ev_tmp, ev_const, ↓A_cons, ↓reduceIte, Nat.reduceEqDiff, reduceCtorEq, condG_bool, GB_true, GB_false, decide_eq_true_eq]
       refine hT ?_
       clear hT hF KT KF
       refine Tr.skip ?_
       refine hK8 _ ?_
       clear hK8 K8
       refine Tr.kp [11, 12, 13, 16, 17] ?_
       simp only [pk_cons, pk_nil, ↓A_cons, ↓reduceIte, Nat.reduceEqDiff]
       refine Tr.seqK fun K26 hK26 => ?_
       refine Tr.blk ?_
       refine Tr.seqK fun K27 hK27 => ?_
       refine Tr.rg hcx [1000070, 1000071, 1000072] _ [] rfl rfl rfl ?_
       simp -implicitDefEqProofs (maxSteps := 2000000) (disch := first | omega | (simp only [go_sem, List.length_append, List.length_drop, List.length_take] <;> omega) | decide) only [go_sem, ↓reduceIte, Nat.reduceEqDiff, reduceCtorEq, Nat.reduceLT, Nat.reduceBEq, Nat.reduceAdd, Nat.reduceSub, Nat.reduceMul, Nat.reduceMod, eq_self, decide_true, decide_false, not_true_eq_false, not_false_eq_true, q0, q1, q2, q3, q4, e21]
       refine hK27 _ ?_
       clear hK27 K27
       refine Tr.kp [11, 12, 13, 16, 17, 18, 19, 20] ?_
       simp only [pk_cons, pk_nil, ↓A_cons, ↓reduceIte, Nat.reduceEqDiff]
       refine Tr.seqK fun K28 hK28 => ?_
       refine Tr.rg hcx [1000082, 1000083, 1000084] _ [] rfl rfl rfl ?_
       simp -implicitDefEqProofs (maxSteps := 2000000) (disch := first | omega | (simp only [go_sem, List.length_append, List.length_drop, List.length_take] <;> omega) | decide) only [go_sem, ↓reduceIte, Nat.reduceEqDiff, reduceCtorEq, Nat.reduceLT, Nat.reduceBEq, Nat.reduceAdd, Nat.reduceSub, Nat.reduceMul, Nat.reduceMod, eq_self, decide_true, decide_false, not_true_eq_false, not_false_eq_true, q0, q1, q2, q3, q4, e22]
       refine hK28 _ ?_
       clear hK28 K28
       refine Tr.kp [11, 12, 13, 16, 17, 18, 19, 20, 21, 22, 23] ?_
       simp only [pk_cons, pk_nil, ↓A_cons, ↓reduceIte, Nat.reduceEqDiff]
       refine Tr.seqK fun K29 hK29 => ?_
       refine Tr.rg hcx [] [some 85, some 86, some 87, some 88, some 89, some 90, some 91, some 92, some 93, some 94, some 95, some 96, some 97] [] rfl rfl rfl ?_
       simp -implicitDefEqProofs (maxSteps := 2000000) (disch := first | omega | (simp only [go_sem, List.length_append, List.length_drop, List.length_take] <;> omega) | decide) only [go_sem, ↓reduceIte, Nat.reduceEqDiff, reduceCtorEq, Nat.reduceLT, Nat.reduceBEq, Nat.reduceAdd, Nat.reduceSub, Nat.reduceMul, Nat.reduceMod, eq_self, decide_true, decide_false, not_true_eq_false, not_false_eq_true, q0, q1, q2, q3, q4]
       refine hK29 _ ?_
       clear hK29 K29
       refine Tr.kp [11, 12, 13, 16, 17, 97] ?_
       simp only [pk_cons, pk_nil, ↓A_cons, ↓reduceIte, Nat.reduceEqDiff]
       refine Tr.condG fun KT KF hT hF => ?_
       simp only [ev_tmp, ev_const, ↓A_cons, ↓reduceIte, Nat.reduceEqDiff, reduceCtorEq, condG_bool, GB_true, GB_false, decide_eq_true_eq]
       refine hF ?_
       clear hT hF KT KF
       refine Tr.skip ?_
       refine hK26 _ ?_
       clear hK26 K26
       refine Tr.kp [11, 12, 13, 16, 17] ?_
       simp only [pk_cons, pk_nil, ↓A_cons, ↓reduceIte, Nat.reduceEqDiff]
       refine Tr.rg hcx [1000060] _ [] rfl rfl rfl ?_
       simp -implicitDefEqProofs (maxSteps := 2000000) (disch := first | omega | (simp only [go_sem, List.length_append, List.length_drop, List.length_take] <;> omega) | decide) only [go_sem, ↓reduceIte, Nat.reduceEqDiff, reduceCtorEq, Nat.reduceLT, Nat.reduceBEq, Nat.reduceAdd, Nat.reduceSub, Nat.reduceMul, Nat.reduceMod, eq_self, decide_true, decide_false, not_true_eq_false, not_false_eq_true, q0, q1, q2, q3, q4]
       refine ⟨k0 + 1, ⟨by omega, by first | omega | (simp only []; omega)⟩, ?_, rfl⟩
       (simp only [Le_nil, Le_cons, ↓A_cons, ↓reduceIte, Nat.reduceEqDiff, reduceCtorEq, CLe_refl, CLe_top, CLe_full, CLe_nil, CLe_own, and_true, true_and]; all_goals (repeat' first | exact CLe.refl _ | exact True.intro | (refine CLe_sln ?_; first | with_reducible rfl | (simp only [List.take_zero]; done) | (rfl; done)) | exact CLe_nI (by omega) | exact CLe_int (by omega) | exact CLe_inI (by omega) | exact CLe_nIi (by omega) | with_reducible apply And.intro))
       all_goals exact CLe_nI (by omega)
      ·
       have q4o := q4
       replace q4 := eq_false q4
       by_cases q5 : k = 5
       ·
        subst q5
        have q5 := True.intro
        have hX : LI [((widI l).length : Int)] := LI_of (by simp) (fun x hx => by simp at hx; omega)
        have e21 := h21 (widI l) B W [((widI l).length : Int)] hwl hB hW hX
        have e22 := h22 (widI l) B W [((widI l).length : Int)] hwl hB hW hX
        refine Tr.rg hcx [] _ [] rfl rfl rfl ?_
        simp -implicitDefEqProofs (maxSteps := 2000000) (disch := first | omega | (simp only [go_sem, List.length_append, List.length_drop, List.length_take] <;> omega) | decide) only [go_sem, ↓reduceIte, Nat.reduceEqDiff, reduceCtorEq, Nat.reduceLT, Nat.reduceBEq, Nat.reduceAdd, Nat.reduceSub, Nat.reduceMul, Nat.reduceMod, eq_self, decide_true, decide_false, not_true_eq_false, not_false_eq_true, q0, q1, q2, q3, q4, q5]
        refine hK9 _ ?_
        clear hK9 K9
        refine Tr.kp [11, 12, 13, 16, 17, 58] ?_
        simp only [pk_cons, pk_nil, ↓A_cons, ↓reduceIte, Nat.reduceEqDiff]
        refine Tr.condG fun KT KF hT hF => ?_
        simp only [ev_tmp, ev_const, ↓A_cons, ↓reduceIte, Nat.reduceEqDiff, reduceCtorEq, condG_bool, GB_true, GB_false, decide_eq_true_eq]
        refine hT ?_
        clear hT hF KT KF
        refine Tr.skip ?_
        refine hK8 _ ?_
        clear hK8 K8
        refine Tr.kp [11, 12, 13, 16, 17] ?_
        simp only [pk_cons, pk_nil, ↓A_cons, ↓reduceIte, Nat.reduceEqDiff]
        refine Tr.seqK fun K30 hK30 => ?_
        refine Tr.blk ?_
        refine Tr.seqK fun K31 hK31 => ?_
        refine Tr.rg hcx [1000070, 1000071, 1000072] _ [] rfl rfl rfl ?_
        simp -implicitDefEqProofs (maxSteps := 2000000) (disch := first | omega | (simp only [go_sem, List.length_append, List.length_drop, List.length_take] <;> omega) | decide) only [go_sem, ↓reduceIte, Nat.reduceEqDiff, reduceCtorEq, Nat.reduceLT, Nat.reduceBEq, Nat.reduceAdd, Nat.reduceSub, Nat.reduceMul, Nat.reduceMod, eq_self, decide_true, decide_false, not_true_eq_false, not_false_eq_true, q0, q1, q2, q3, q4, q5, e21]
        refine hK31 _ ?_
        clear hK31 K31
        refine Tr.kp [11, 12, 13, 16, 17, 18, 19, 20] ?_
        simp only [pk_cons, pk_nil, ↓A_cons, ↓reduceIte, Nat.reduceEqDiff]
        refine Tr.seqK fun K32 hK32 => ?_
        refine Tr.rg hcx [1000082, 1000083, 1000084] _ [] rfl rfl rfl ?_
        simp -implicitDefEqProofs (maxSteps := 2000000) (disch := first | omega | (simp only [go_sem, List.length_append, List.length_drop, List.length_take] <;> omega) | decide) only [go_sem, ↓reduceIte, Nat.reduceEqDiff, reduceCtorEq, Nat.reduceLT, Nat.reduceBEq, Nat.reduceAdd, Nat.reduceSub, Nat.reduceMul, Nat.reduceMod, eq_self, decide_true, decide_false, not_true_eq_false, not_false_eq_true, q0, q1, q2, q3, q4, q5, e22]
        refine hK32 _ ?_
        clear hK32 K32
        refine Tr.kp [11, 12, 13, 16, 17, 18, 19, 20, 21, 22, 23] ?_
        simp only [pk_cons, pk_nil, ↓A_cons, ↓reduceIte, Nat.reduceEqDiff]
        refine Tr.seqK fun K33 hK33 => ?_
        refine Tr.rg hcx [] [some 85, some 86, some 87, some 88, some 89, some 90, some 91, some 92, some 93, some 94, some 95, some 96, some 97] [] rfl rfl rfl ?_
        simp -implicitDefEqProofs (maxSteps := 2000000) (disch := first | omega | (simp only [go_sem, List.length_append, List.length_drop, List.length_take] <;> omega) | decide) only [go_sem, ↓reduceIte, Nat.reduceEqDiff, reduceCtorEq, Nat.reduceLT, Nat.reduceBEq, Nat.reduceAdd, Nat.reduceSub, Nat.reduceMul, Nat.reduceMod, eq_self, decide_true, decide_false, not_true_eq_false, not_false_eq_true, q0, q1, q2, q3, q4, q5]
        refine hK33 _ ?_
        clear hK33 K33
        refine Tr.kp [11, 12, 13, 16, 17, 97] ?_
        simp only [pk_cons, pk_nil, ↓A_cons, ↓reduceIte, Nat.reduceEqDiff]
        refine Tr.condG fun KT KF hT hF => ?_
        simp only [ev_tmp, ev_const, ↓A_cons, ↓reduceIte, Nat.reduceEqDiff, reduceCtorEq, condG_bool, GB_true, GB_false, decide_eq_true_eq]
        refine hF ?_
        clear hT hF KT KF
        refine Tr.skip ?_
        refine hK30 _ ?_
        clear hK30 K30
        refine Tr.kp [11, 12, 13, 16, 17] ?_
        simp only [pk_cons, pk_nil, ↓A_cons, ↓reduceIte, Nat.reduceEqDiff]
        refine Tr.rg hcx [1000060] _ [] rfl rfl rfl ?_
        simp -implicitDefEqProofs (maxSteps := 2000000) (disch := first | omega | (simp only [go_sem, List.length_append, List.length_drop, List.length_take] <;> omega) | decide) only [go_sem, ↓reduceIte, Nat.reduceEqDiff, reduceCtorEq, Nat.reduceLT, Nat.reduceBEq, Nat.reduceAdd, Nat.reduceSub, Nat.reduceMul, Nat.reduceMod, eq_self, decide_true, decide_false, not_true_eq_false, not_false_eq_true, q0, q1, q2, q3, q4, q5]
        refine ⟨k0 + 1, ⟨by omega, by first | omega | (simp only []; omega)⟩, ?_, rfl⟩
        (simp only [Le_nil, Le_cons, ↓A_cons, ↓reduceIte, Nat.reduceEqDiff, reduceCtorEq, CLe_refl, CLe_top, CLe_full, CLe_nil, CLe_own, and_true, true_and]; all_goals (repeat' first | exact CLe.refl _ | exact True.intro | (refine CLe_sln ?_; first | with_reducible rfl | (simp only [List.take_zero]; done) | (rfl; done)) | exact CLe_nI (by omega) | exact CLe_int (by omega) | exact CLe_inI (by omega) | exact CLe_nIi (by omega) | with_reducible apply And.intro))
        all_goals exact CLe_nI (by omega)
       ·
        have q5o := q5
        replace q5 := eq_false q5
        refine Tr.rg hcx [] _ [] rfl rfl rfl ?_
        simp -implicitDefEqProofs (maxSteps := 2000000) (disch := first | omega | (simp only [go_sem, List.length_append, List.length_drop, List.length_take] <;> omega) | decide) only [go_sem, ↓reduceIte, Nat.reduceEqDiff, reduceCtorEq, Nat.reduceLT, Nat.reduceBEq, Nat.reduceAdd, Nat.reduceSub, Nat.reduceMul, Nat.reduceMod, eq_self, decide_true, decide_false, not_true_eq_false, not_false_eq_true, q0, q1, q2, q3, q4, q5]
        refine hK9 _ ?_
        clear hK9 K9
        refine Tr.kp [11, 12, 13, 16, 17, 58] ?_
        simp only [pk_cons, pk_nil, ↓A_cons, ↓reduceIte, Nat.reduceEqDiff]
        refine Tr.condG fun KT KF hT hF => ?_
        simp only [ev_tmp, ev_const, ↓A_cons, ↓reduceIte, Nat.reduceEqDiff, reduceCtorEq, condG_bool, GB_true, GB_false, decide_eq_true_eq]
        refine GB.neg ((decide_eq_false (by omega))) (hF ?_)
        clear hT hF KT KF
        refine Tr.exit ?_
        refine hK6 _ ?_
        clear hK8 K8 hK6 K6
        refine Tr.kp [] ?_
        simp only [pk_cons, pk_nil, ↓A_cons, ↓reduceIte, Nat.reduceEqDiff]
        refine Tr.seqK fun K34 hK34 => ?_
        refine Tr.rg hcx [1000098] _ [] rfl rfl rfl ?_
        simp -implicitDefEqProofs (maxSteps := 2000000) (disch := first | omega | (simp only [go_sem, List.length_append, List.length_drop, List.length_take] <;> omega) | decide) only [go_sem, ↓reduceIte, Nat.reduceEqDiff, reduceCtorEq, Nat.reduceLT, Nat.reduceBEq, Nat.reduceAdd, Nat.reduceSub, Nat.reduceMul, Nat.reduceMod, eq_self, decide_true, decide_false, not_true_eq_false, not_false_eq_true, q0, q1, q2, q3, q4, q5, h18]
        refine hK34 _ ?_
        clear hK34 K34
        refine Tr.kp [10] ?_
        simp only [pk_cons, pk_nil, ↓A_cons, ↓reduceIte, Nat.reduceEqDiff]
        refine Tr.ret ?_
        simp -implicitDefEqProofs (disch := first | omega | (simp only [go_sem, List.length_append, List.length_drop, List.length_take] <;> omega) | decide) only [go_sem, ↓reduceIte, Nat.reduceEqDiff, reduceCtorEq]
        all_goals (rfl)
end Go.Sx
namespace Go.Sx
open Go.RowKit Go.Proofs
abbrev Cr := List Int × List Int × List Int
def cC (t : Cr) : List C := [sl iC .no t.1, sl iC .no t.2.1, sl iC .no t.2.2]
instance : Cel cC 3 := ⟨fun _ => rfl, fun _ => rfl, by decide, fun _ _ => rfl⟩
end Go.Sx
