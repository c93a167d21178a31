/-
  Package token: the law of Cut. And what follows.
-/
import Derived.Test.YtmeplkkhnpcldaaPav
set_option linter.unusedSimpArgs false
set_option linter.unusedVariables false
namespace Go.Sx
open Go.RowKit Go.Proofs
theorem bsA_ints5 (u : TypeDesc) (y : Nat) (a b : Int) (c d e : Nat) : bsA (some ⟨u, 1, y, [nI 0]⟩) 5 [(0, .val (.int .i64 a)), (1, .val (.int .i64 b)), (2, .val (nI c)), (3, .val (nI d)), (4, .val (nI e))] = some (vp (sl iC .full [a, b, (c : Int), (d : Int), (e : Int)])) := by
  unfold bsA
  simp only []
  rw [if_pos ⟨by decide, by decide, rfl, rfl⟩]
  rfl
attribute [go_sem high] bsA_ints5
set_option maxRecDepth 100000 in
set_option maxHeartbeats 8000000 in
theorem fc6 {gl : Nat → C} {M : Nat} {pu : Nat → List C → Option C}  (hcx : CxOK (cxP gl M pu)) (h11 : ∀ (l : List Int) (how by' : Int) (raw : List UInt8) (most : Int), LI l → (-9223372036854775808 ≤ how ∧ how ≤ 9223372036854775807) → (-9223372036854775808 ≤ by' ∧ by' ≤ 9223372036854775807) → raw.length ≤ 9223372036854775807 → pu 11 [sl iC .no l, .val (.int .i64 how), .val (.int .i64 by'), .val (str raw), .val (.int .i64 most)] = some (sl sC .no (textsT l how by' raw most))) (h14 : pu 14 [] = some (.val (.bool true))) (h15 : ∀ s : List UInt8, s.length ≤ 1000000 → pu 15 [.val (str s)] = some (sl tC .no (toks s))) (h19 : ∀ (n : Int) (m : Nat), -9223372036854775808 ≤ n ∧ n ≤ 9223372036854775807 ∧ 0 < m ∧ m ≤ 9223372036854775807 → pu 19 [.val (.int .i64 n), .val (nI m)] = some (.val (nI (aroundI n m)))) (h33 : ∀ a b : List UInt8, a.length ≤ 1000000 → b.length ≤ 1000000 → pu 33 [.val (str a), .val (str b)] = some (.val (str (joinT a b)))) (h34 : ∀ a b : List UInt8, a.length ≤ 1000000 → b.length ≤ 1000000 → pu 34 [.val (str a), .val (str b)] = some (.val (str (joinT a b)))) (h35 : ∀ (s : List UInt8) (k : Int), s.length ≤ 1000000 → -9223372036854775808 ≤ k ∧ k ≤ 9223372036854775807 → pu 35 [.val (str s), .val (.int .i64 k)] = some (.tup [.val (str (cutT s k).1), .val (str (cutT s k).2.1), .val (nI (cutT s k).2.2)])) (h36 : ∀ (s : List UInt8) (k : Int), s.length ≤ 1000000 → -9223372036854775808 ≤ k ∧ k ≤ 9223372036854775807 → pu 36 [.val (str s), .val (.int .i64 k)] = some (.tup [.val (str (cutT s k).1), .val (str (cutT s k).2.1), .val (nI (cutT s k).2.2)])) (l : List Int) (how by' : Int) (raw : List UInt8) (hl : LI l) (hw : -9223372036854775808 ≤ how ∧ how ≤ 9223372036854775807) (hy : -9223372036854775808 ≤ by' ∧ by' ≤ 9223372036854775807) (hraw : raw.length ≤ 9223372036854775807) (k : Int) (hk : -9223372036854775808 ≤ k ∧ k ≤ 9223372036854775807) : FC Try.prog gl 6 [sl iC .no l, .val (.int .i64 how), .val (.int .i64 by'), .val (str raw), .val (.int .i64 k)] [] (.val (.bool true)) [] := by
 replace hcx := hcx.reN (M := 113)
 refine FC.ofA (cx := cxP gl 113 pu) (rs := [.tmp 10]) rfl Try.func6 rfl rfl rfl (by simp only [List.length_cons, List.length_nil]; decide) (by simp only [go_sem]) ?_
 simp only [ini, go_sem]
 obtain ⟨L, hL6, hL0, hL, e11⟩ : ∃ L : List (List UInt8), L.length ≤ 6 ∧ 0 < L.length ∧ (∀ i, i < L.length → (gt L i).length ≤ 10000) ∧ pu 11 [sl iC .no l, .val (.int .i64 how), .val (.int .i64 by'), .val (str raw), .val (nI 600)] = some (sl sC .no L) :=
   ⟨textsT l how by' raw 600, (texts_le l how by' raw 600 (by decide)).1, (texts_le l how by' raw 600 (by decide)).2.1, (texts_le l how by' raw 600 (by decide)).2.2, h11 l how by' raw 600 hl hw hy hraw⟩
 have hb1 := True.intro
 have hb6 := True.intro
 have hb0 := hL 0 hL0
 refine Tr.seqK fun K1 hK1 => ?_
 -- region 0 (law.go:92)
 refine Tr.rg hcx [] _ [] rfl rfl rfl ?_
 simp -implicitDefEqProofs (maxSteps := 2000000) (disch := first | omega | (simp only [go_sem, List.length_append, List.length_drop, List.length_take, hb1, hb6] <;> omega) | decide) only [go_sem, ↓reduceIte, Nat.reduceEqDiff, reduceCtorEq, Nat.reduceLT, Nat.reduceBEq, Nat.reduceAdd, Nat.reduceSub, Nat.reduceMul, Nat.reduceMod, Int.reduceMod, Int.reduceToNat, Int.reduceNeg, e11, h14, h15, h19, h33, h34, h35, h36, eq_self, decide_true, decide_false, not_true_eq_false, not_false_eq_true]
 refine hK1 _ ?_
 clear hK1 K1
 refine Tr.kp [0, 1, 2, 3, 4] ?_
 simp only [pk_cons, pk_nil, ↓A_cons, ↓reduceIte, Nat.reduceEqDiff, reduceCtorEq]
 refine Tr.seqK fun K2 hK2 => ?_
 -- region 1 (law.go:93)
 refine Tr.rg hcx [1000027] _ [] rfl rfl rfl ?_
 simp -implicitDefEqProofs (maxSteps := 2000000) (disch := first | omega | (simp only [go_sem, List.length_append, List.length_drop, List.length_take, hb1, hb6] <;> omega) | decide) only [go_sem, ↓reduceIte, Nat.reduceEqDiff, reduceCtorEq, Nat.reduceLT, Nat.reduceBEq, Nat.reduceAdd, Nat.reduceSub, Nat.reduceMul, Nat.reduceMod, Int.reduceMod, Int.reduceToNat, Int.reduceNeg, e11, h14, h15, h19, h33, h34, h35, h36, eq_self, decide_true, decide_false, not_true_eq_false, not_false_eq_true]
 refine hK2 _ ?_
 clear hK2 K2
 refine Tr.kp [4, 11] ?_
 simp only [pk_cons, pk_nil, ↓A_cons, ↓reduceIte, Nat.reduceEqDiff, reduceCtorEq]
 refine Tr.seqK fun K3 hK3 => ?_
 refine Tr.seqK fun K4 hK4 => ?_
 -- region 2 (law.go:94)
 refine Tr.rg hcx [] _ [] rfl rfl rfl ?_
 simp -implicitDefEqProofs (maxSteps := 2000000) (disch := first | omega | (simp only [go_sem, List.length_append, List.length_drop, List.length_take, hb1, hb6] <;> omega) | decide) only [go_sem, ↓reduceIte, Nat.reduceEqDiff, reduceCtorEq, Nat.reduceLT, Nat.reduceBEq, Nat.reduceAdd, Nat.reduceSub, Nat.reduceMul, Nat.reduceMod, Int.reduceMod, Int.reduceToNat, Int.reduceNeg, e11, h14, h15, h19, h33, h34, h35, h36, eq_self, decide_true, decide_false, not_true_eq_false, not_false_eq_true]
 refine hK4 _ ?_
 clear hK4 K4
 refine Tr.kp [4, 11, 12] ?_
 simp only [pk_cons, pk_nil, ↓A_cons, ↓reduceIte, Nat.reduceEqDiff, reduceCtorEq]
 refine Tr.blk ?_
 refine Tr.loopI (α := Nat) (fun a => [(4, ?v4_8), (11, ?v11_8), (12, .val (nI a))]) (fun a => ?h_8) (fun a => a ≤ L.length) (fun a => L.length - a) (0) ?_ ?le_8 ?hh_8 ?bd_8
 case hh_8 => exact rfl
 case le_8 => (simp only [Le_nil, Le_cons, ↓A_cons, ↓reduceIte, Nat.reduceEqDiff, reduceCtorEq, CLe_refl, CLe_top, CLe_full, CLe_nil, CLe_own, and_true, true_and]; all_goals (repeat' first | exact CLe.refl _ | exact True.intro | (refine CLe_sln ?_; first | with_reducible rfl | (simp only [List.take_zero]; done) | (rfl; done)) | exact CLe_nI (by omega) | exact CLe_int (by omega) | exact CLe_inI (by omega) | exact CLe_nIi (by omega) | with_reducible apply And.intro))
 · omega
 case bd_8 =>
  rintro i hi
  refine Tr.seqK fun K5 hK5 => ?_
  refine Tr.seqK fun K6 hK6 => ?_
  -- region 3 (law.go:94)
  refine Tr.rg hcx [] _ [] rfl rfl rfl ?_
  simp -implicitDefEqProofs (maxSteps := 2000000) (disch := first | omega | (simp only [go_sem, List.length_append, List.length_drop, List.length_take, hb1, hb6] <;> omega) | decide) only [go_sem, ↓reduceIte, Nat.reduceEqDiff, reduceCtorEq, Nat.reduceLT, Nat.reduceBEq, Nat.reduceAdd, Nat.reduceSub, Nat.reduceMul, Nat.reduceMod, Int.reduceMod, Int.reduceToNat, Int.reduceNeg, e11, h14, h15, h19, h33, h34, h35, h36, eq_self, decide_true, decide_false, not_true_eq_false, not_false_eq_true]
  refine hK6 _ ?_
  clear hK6 K6
  refine Tr.kp [4, 11, 12, 31] ?_
  simp only [pk_cons, pk_nil, ↓A_cons, ↓reduceIte, Nat.reduceEqDiff, reduceCtorEq]
  refine Tr.condG fun KT KF hT hF => ?_
  simp only [ev_tmp, ev_const, ↓A_cons, ↓reduceIte, Nat.reduceEqDiff, reduceCtorEq, condG_bool, GB_true, GB_false, decide_eq_true_eq]
  refine GB.dec (fun hc31 => hT ?_) (fun hc31 => hF ?_)
  ·
   clear hT hF KT KF
   have hb1 := hL i hc31
   have hb3 := toks_len (gt L i)
   have hb4 := around_lt k (m := (toks (gt L i)).length + 2) (by omega)
   refine Tr.skip ?_
   refine hK5 _ ?_
   clear hK5 K5
   refine Tr.kp [4, 11, 12] ?_
   simp only [pk_cons, pk_nil, ↓A_cons, ↓reduceIte, Nat.reduceEqDiff, reduceCtorEq]
   refine Tr.seqK fun K7 hK7 => ?_
   refine Tr.blk ?_
   refine Tr.seqK fun K8 hK8 => ?_
   -- region 5 (law.go:95)
   refine Tr.rg hcx [1000037] _ [] rfl rfl rfl ?_
   simp -implicitDefEqProofs (maxSteps := 2000000) (disch := first | omega | (simp only [go_sem, List.length_append, List.length_drop, List.length_take, hb1, hb6] <;> omega) | decide) only [go_sem, ↓reduceIte, Nat.reduceEqDiff, reduceCtorEq, Nat.reduceLT, Nat.reduceBEq, Nat.reduceAdd, Nat.reduceSub, Nat.reduceMul, Nat.reduceMod, Int.reduceMod, Int.reduceToNat, Int.reduceNeg, e11, h14, h15, h19, h33, h34, h35, h36, eq_self, decide_true, decide_false, not_true_eq_false, not_false_eq_true]
   refine hK8 _ ?_
   clear hK8 K8
   refine Tr.kp [4, 11, 12, 13] ?_
   simp only [pk_cons, pk_nil, ↓A_cons, ↓reduceIte, Nat.reduceEqDiff, reduceCtorEq]
   refine Tr.seqK fun K9 hK9 => ?_
   refine Tr.seqK fun K10 hK10 => ?_
   -- region 6 (law.go:96)
   refine Tr.rgD hcx hMO [] [some 38, some 39, some 40, some 41, some 42, some 43, some 44, some 45, some 46, some 47, some 48, some 49, some 50, some 51, some 52, some 53, some 54, some 55, some 56, some 57, some 58, some 59, some 60, some 61] [] rfl rfl rfl rfl ?_
   simp -implicitDefEqProofs (maxSteps := 2000000) (disch := first | omega | (simp only [go_sem, List.length_append, List.length_drop, List.length_take, hb1, hb6] <;> omega) | decide) only [go_sem, ↓reduceIte, Nat.reduceEqDiff, reduceCtorEq, Nat.reduceLT, Nat.reduceBEq, Nat.reduceAdd, Nat.reduceSub, Nat.reduceMul, Nat.reduceMod, Int.reduceMod, Int.reduceToNat, Int.reduceNeg, e11, h14, h15, h19, h33, h34, h35, h36, eq_self, decide_true, decide_false, not_true_eq_false, not_false_eq_true]
   with_reducible refine And.intro ?_ ?_
   · exact rfl
   refine hK10 _ ?_
   clear hK10 K10
   refine Tr.kp [4, 11, 12, 13, 61] ?_
   simp only [pk_cons, pk_nil, ↓A_cons, ↓reduceIte, Nat.reduceEqDiff, reduceCtorEq]
   refine Tr.condG fun KT KF hT hF => ?_
   simp only [ev_tmp, ev_const, ↓A_cons, ↓reduceIte, Nat.reduceEqDiff, reduceCtorEq, condG_bool, GB_true, GB_false, decide_eq_true_eq]
   refine hF ?_
   clear hT hF KT KF
   refine Tr.skip ?_
   refine hK9 _ ?_
   clear hK9 K9
   refine Tr.kp [4, 11, 12, 13] ?_
   simp only [pk_cons, pk_nil, ↓A_cons, ↓reduceIte, Nat.reduceEqDiff, reduceCtorEq]
   refine Tr.seqK fun K11 hK11 => ?_
   -- region 8 (law.go:99)
   refine Tr.rg hcx [1000064] _ [] rfl rfl rfl ?_
   simp -implicitDefEqProofs (maxSteps := 2000000) (disch := first | omega | (simp only [go_sem, List.length_append, List.length_drop, List.length_take, hb1, hb6] <;> omega) | decide) only [go_sem, ↓reduceIte, Nat.reduceEqDiff, reduceCtorEq, Nat.reduceLT, Nat.reduceBEq, Nat.reduceAdd, Nat.reduceSub, Nat.reduceMul, Nat.reduceMod, Int.reduceMod, Int.reduceToNat, Int.reduceNeg, e11, h14, h15, h19, h33, h34, h35, h36, eq_self, decide_true, decide_false, not_true_eq_false, not_false_eq_true]
   refine hK11 _ ?_
   clear hK11 K11
   refine Tr.kp [4, 11, 12, 13, 14] ?_
   simp only [pk_cons, pk_nil, ↓A_cons, ↓reduceIte, Nat.reduceEqDiff, reduceCtorEq]
   refine Tr.seqJ (α := (List Int)) (fun a => [(4, ?v4_29), (11, ?v11_29), (12, ?v12_29), (13, ?v13_29), (15, sl iC .no a)]) (fun a => []) (fun a => a.length = 5 ∧ ∀ j, j < a.length → (fun p : Int => -9223372036854775808 ≤ p ∧ p ≤ 9223372036854775807) (gt a j)) ?ja_29 ?jb_29
   case ja_29 =>
    -- region 9 (law.go:100)
    refine Tr.rg hcx [1000072] _ [] rfl rfl rfl ?_
    simp -implicitDefEqProofs (maxSteps := 2000000) (disch := first | omega | (simp only [go_sem, List.length_append, List.length_drop, List.length_take, hb1, hb6] <;> omega) | decide) only [go_sem, ↓reduceIte, Nat.reduceEqDiff, reduceCtorEq, Nat.reduceLT, Nat.reduceBEq, Nat.reduceAdd, Nat.reduceSub, Nat.reduceMul, Nat.reduceMod, Int.reduceMod, Int.reduceToNat, Int.reduceNeg, e11, h14, h15, h19, h33, h34, h35, h36, eq_self, decide_true, decide_false, not_true_eq_false, not_false_eq_true, n_subZ]
    refine ⟨[k, (aroundI k ((toks (gt L i)).length + 2) : Int) - 1, 0, 1, ((toks (gt L i)).length : Int)], ⟨rfl, forall5 (fun p : Int => -9223372036854775808 ≤ p ∧ p ≤ 9223372036854775807) _ _ _ _ _ ⟨hk, by omega, by omega, by omega, by omega⟩⟩, ?_, rfl⟩
    (simp only [Le_nil, Le_cons, ↓A_cons, ↓reduceIte, Nat.reduceEqDiff, reduceCtorEq, CLe_refl, CLe_top, CLe_full, CLe_nil, CLe_own, and_true, true_and]; all_goals (repeat' first | exact CLe.refl _ | exact True.intro | (refine CLe_sln ?_; first | with_reducible rfl | (simp only [List.take_zero]; done) | (rfl; done)) | exact CLe_nI (by omega) | exact CLe_int (by omega) | exact CLe_inI (by omega) | exact CLe_nIi (by omega) | with_reducible apply And.intro))
    all_goals exact CLe_fno _ _
   case jb_29 =>
    rintro PP ⟨hP5, hP⟩
    refine Tr.seqK fun K12 hK12 => ?_
    -- region 10 (law.go:101)
    refine Tr.rg hcx [] _ [] rfl rfl rfl ?_
    simp -implicitDefEqProofs (maxSteps := 2000000) (disch := first | omega | (simp only [go_sem, List.length_append, List.length_drop, List.length_take, hb1, hb6] <;> omega) | decide) only [go_sem, ↓reduceIte, Nat.reduceEqDiff, reduceCtorEq, Nat.reduceLT, Nat.reduceBEq, Nat.reduceAdd, Nat.reduceSub, Nat.reduceMul, Nat.reduceMod, Int.reduceMod, Int.reduceToNat, Int.reduceNeg, e11, h14, h15, h19, h33, h34, h35, h36, eq_self, decide_true, decide_false, not_true_eq_false, not_false_eq_true]
    refine hK12 _ ?_
    clear hK12 K12
    refine Tr.kp [4, 11, 12, 13, 15, 16] ?_
    simp only [pk_cons, pk_nil, ↓A_cons, ↓reduceIte, Nat.reduceEqDiff, reduceCtorEq]
    refine Tr.blk ?_
    refine Tr.loopI (α := Nat) (fun a => [(4, ?v4_34), (11, ?v11_34), (12, ?v12_34), (13, ?v13_34), (15, ?v15_34), (16, .val (nI a))]) (fun a => ?h_34) (fun a => a ≤ PP.length) (fun a => PP.length - a) (0) ?_ ?le_34 ?hh_34 ?bd_34
    case hh_34 => exact rfl
    case le_34 => (simp only [Le_nil, Le_cons, ↓A_cons, ↓reduceIte, Nat.reduceEqDiff, reduceCtorEq, CLe_refl, CLe_top, CLe_full, CLe_nil, CLe_own, and_true, true_and]; all_goals (repeat' first | exact CLe.refl _ | exact True.intro | (refine CLe_sln ?_; first | with_reducible rfl | (simp only [List.take_zero]; done) | (rfl; done)) | exact CLe_nI (by omega) | exact CLe_int (by omega) | exact CLe_inI (by omega) | exact CLe_nIi (by omega) | with_reducible apply And.intro))
    · omega
    case bd_34 =>
     rintro j hj
     refine Tr.seqK fun K13 hK13 => ?_
     refine Tr.seqK fun K14 hK14 => ?_
     -- region 11 (law.go:101)
     refine Tr.rg hcx [] _ [] rfl rfl rfl ?_
     simp -implicitDefEqProofs (maxSteps := 2000000) (disch := first | omega | (simp only [go_sem, List.length_append, List.length_drop, List.length_take, hb1, hb6] <;> omega) | decide) only [go_sem, ↓reduceIte, Nat.reduceEqDiff, reduceCtorEq, Nat.reduceLT, Nat.reduceBEq, Nat.reduceAdd, Nat.reduceSub, Nat.reduceMul, Nat.reduceMod, Int.reduceMod, Int.reduceToNat, Int.reduceNeg, e11, h14, h15, h19, h33, h34, h35, h36, eq_self, decide_true, decide_false, not_true_eq_false, not_false_eq_true]
     refine hK14 _ ?_
     clear hK14 K14
     refine Tr.kp [4, 11, 12, 13, 15, 16, 76] ?_
     simp only [pk_cons, pk_nil, ↓A_cons, ↓reduceIte, Nat.reduceEqDiff, reduceCtorEq]
     refine Tr.condG fun KT KF hT hF => ?_
     simp only [ev_tmp, ev_const, ↓A_cons, ↓reduceIte, Nat.reduceEqDiff, reduceCtorEq, condG_bool, GB_true, GB_false, decide_eq_true_eq]
     refine GB.dec (fun hc76 => hT ?_) (fun hc76 => hF ?_)
     ·
      clear hT hF KT KF
      have hb6 := hP j hc76
      simp only [] at hb6
      refine Tr.skip ?_
      refine hK13 _ ?_
      clear hK13 K13
      refine Tr.kp [4, 11, 12, 13, 15, 16] ?_
      simp only [pk_cons, pk_nil, ↓A_cons, ↓reduceIte, Nat.reduceEqDiff, reduceCtorEq]
      refine Tr.seqK fun K15 hK15 => ?_
      refine Tr.blk ?_
      refine Tr.seqK fun K16 hK16 => ?_
      -- region 13 (law.go:102)
      refine Tr.rg hcx [1000086, 1000087, 1000088] _ [] rfl rfl rfl ?_
      simp -implicitDefEqProofs (maxSteps := 2000000) (disch := first | omega | (simp only [go_sem, List.length_append, List.length_drop, List.length_take, hb1, hb6] <;> omega) | decide) only [go_sem, ↓reduceIte, Nat.reduceEqDiff, reduceCtorEq, Nat.reduceLT, Nat.reduceBEq, Nat.reduceAdd, Nat.reduceSub, Nat.reduceMul, Nat.reduceMod, Int.reduceMod, Int.reduceToNat, Int.reduceNeg, e11, h14, h15, h19, h33, h34, h35, h36, eq_self, decide_true, decide_false, not_true_eq_false, not_false_eq_true]
      refine hK16 _ ?_
      clear hK16 K16
      refine Tr.kp [4, 11, 12, 13, 15, 16, 17, 18, 19] ?_
      simp only [pk_cons, pk_nil, ↓A_cons, ↓reduceIte, Nat.reduceEqDiff, reduceCtorEq]
      refine Tr.seqK fun K17 hK17 => ?_
      -- region 14 (law.go:103)
      refine Tr.rg hcx [1000096, 1000097, 1000098] _ [] rfl rfl rfl ?_
      simp -implicitDefEqProofs (maxSteps := 2000000) (disch := first | omega | (simp only [go_sem, List.length_append, List.length_drop, List.length_take, hb1, hb6] <;> omega) | decide) only [go_sem, ↓reduceIte, Nat.reduceEqDiff, reduceCtorEq, Nat.reduceLT, Nat.reduceBEq, Nat.reduceAdd, Nat.reduceSub, Nat.reduceMul, Nat.reduceMod, Int.reduceMod, Int.reduceToNat, Int.reduceNeg, e11, h14, h15, h19, h33, h34, h35, h36, eq_self, decide_true, decide_false, not_true_eq_false, not_false_eq_true]
      refine hK17 _ ?_
      clear hK17 K17
      refine Tr.kp [4, 11, 12, 13, 15, 16, 17, 18, 19, 20, 21, 22] ?_
      simp only [pk_cons, pk_nil, ↓A_cons, ↓reduceIte, Nat.reduceEqDiff, reduceCtorEq]
      refine Tr.seqK fun K18 hK18 => ?_
      -- region 15 (law.go:104)
      refine Tr.rg hcx [] [some 99, some 100, some 101, some 102, some 103, some 104, some 105, some 106, some 107, some 108, some 109, some 110, some 111] [] rfl rfl rfl ?_
      simp -implicitDefEqProofs (maxSteps := 2000000) (disch := first | omega | (simp only [go_sem, List.length_append, List.length_drop, List.length_take, hb1, hb6] <;> omega) | decide) only [go_sem, ↓reduceIte, Nat.reduceEqDiff, reduceCtorEq, Nat.reduceLT, Nat.reduceBEq, Nat.reduceAdd, Nat.reduceSub, Nat.reduceMul, Nat.reduceMod, Int.reduceMod, Int.reduceToNat, Int.reduceNeg, e11, h14, h15, h19, h33, h34, h35, h36, eq_self, decide_true, decide_false, not_true_eq_false, not_false_eq_true]
      refine hK18 _ ?_
      clear hK18 K18
      refine Tr.kp [4, 11, 12, 13, 15, 16, 111] ?_
      simp only [pk_cons, pk_nil, ↓A_cons, ↓reduceIte, Nat.reduceEqDiff, reduceCtorEq]
      refine Tr.condG fun KT KF hT hF => ?_
      simp only [ev_tmp, ev_const, ↓A_cons, ↓reduceIte, Nat.reduceEqDiff, reduceCtorEq, condG_bool, GB_true, GB_false, decide_eq_true_eq]
      refine hF ?_
      clear hT hF KT KF
      refine Tr.skip ?_
      refine hK15 _ ?_
      clear hK15 K15
      refine Tr.kp [4, 11, 12, 13, 15, 16] ?_
      simp only [pk_cons, pk_nil, ↓A_cons, ↓reduceIte, Nat.reduceEqDiff, reduceCtorEq]
      -- region 12 (law.go:101)
      refine Tr.rg hcx [1000078] _ [] rfl rfl rfl ?_
      simp -implicitDefEqProofs (maxSteps := 2000000) (disch := first | omega | (simp only [go_sem, List.length_append, List.length_drop, List.length_take, hb1, hb6] <;> omega) | decide) only [go_sem, ↓reduceIte, Nat.reduceEqDiff, reduceCtorEq, Nat.reduceLT, Nat.reduceBEq, Nat.reduceAdd, Nat.reduceSub, Nat.reduceMul, Nat.reduceMod, Int.reduceMod, Int.reduceToNat, Int.reduceNeg, e11, h14, h15, h19, h33, h34, h35, h36, eq_self, decide_true, decide_false, not_true_eq_false, not_false_eq_true]
      refine ⟨j + 1, ⟨by omega, by first | omega | (simp only []; omega)⟩, ?_, rfl⟩
      (simp only [Le_nil, Le_cons, ↓A_cons, ↓reduceIte, Nat.reduceEqDiff, reduceCtorEq, CLe_refl, CLe_top, CLe_full, CLe_nil, CLe_own, and_true, true_and]; all_goals (repeat' first | exact CLe.refl _ | exact True.intro | (refine CLe_sln ?_; first | with_reducible rfl | (simp only [List.take_zero]; done) | (rfl; done)) | exact CLe_nI (by omega) | exact CLe_int (by omega) | exact CLe_inI (by omega) | exact CLe_nIi (by omega) | with_reducible apply And.intro))
     ·
      clear hT hF KT KF
      refine Tr.exit ?_
      refine hK7 _ ?_
      clear hK13 K13 hK7 K7
      refine Tr.kp [4, 11, 12] ?_
      simp only [pk_cons, pk_nil, ↓A_cons, ↓reduceIte, Nat.reduceEqDiff, reduceCtorEq]
      -- region 4 (law.go:94)
      refine Tr.rg hcx [1000033] _ [] rfl rfl rfl ?_
      simp -implicitDefEqProofs (maxSteps := 2000000) (disch := first | omega | (simp only [go_sem, List.length_append, List.length_drop, List.length_take, hb1, hb6] <;> omega) | decide) only [go_sem, ↓reduceIte, Nat.reduceEqDiff, reduceCtorEq, Nat.reduceLT, Nat.reduceBEq, Nat.reduceAdd, Nat.reduceSub, Nat.reduceMul, Nat.reduceMod, Int.reduceMod, Int.reduceToNat, Int.reduceNeg, e11, h14, h15, h19, h33, h34, h35, h36, eq_self, decide_true, decide_false, not_true_eq_false, not_false_eq_true]
      refine ⟨i + 1, ⟨by omega, by first | omega | (simp only []; omega)⟩, ?_, rfl⟩
      (simp only [Le_nil, Le_cons, ↓A_cons, ↓reduceIte, Nat.reduceEqDiff, reduceCtorEq, CLe_refl, CLe_top, CLe_full, CLe_nil, CLe_own, and_true, true_and]; all_goals (repeat' first | exact CLe.refl _ | exact True.intro | (refine CLe_sln ?_; first | with_reducible rfl | (simp only [List.take_zero]; done) | (rfl; done)) | exact CLe_nI (by omega) | exact CLe_int (by omega) | exact CLe_inI (by omega) | exact CLe_nIi (by omega) | with_reducible apply And.intro))
  ·
   clear hT hF KT KF
   refine Tr.exit ?_
   refine hK3 _ ?_
   clear hK5 K5 hK3 K3
   refine Tr.kp [] ?_
   simp only [pk_cons, pk_nil, ↓A_cons, ↓reduceIte, Nat.reduceEqDiff, reduceCtorEq]
   refine Tr.seqK fun K19 hK19 => ?_
   -- region 17 (law.go:109)
   refine Tr.rg hcx [1000112] _ [] rfl rfl rfl ?_
   simp -implicitDefEqProofs (maxSteps := 2000000) (disch := first | omega | (simp only [go_sem, List.length_append, List.length_drop, List.length_take, hb1, hb6] <;> omega) | decide) only [go_sem, ↓reduceIte, Nat.reduceEqDiff, reduceCtorEq, Nat.reduceLT, Nat.reduceBEq, Nat.reduceAdd, Nat.reduceSub, Nat.reduceMul, Nat.reduceMod, Int.reduceMod, Int.reduceToNat, Int.reduceNeg, e11, h14, h15, h19, h33, h34, h35, h36, eq_self, decide_true, decide_false, not_true_eq_false, not_false_eq_true]
   refine hK19 _ ?_
   clear hK19 K19
   refine Tr.kp [10] ?_
   simp only [pk_cons, pk_nil, ↓A_cons, ↓reduceIte, Nat.reduceEqDiff, reduceCtorEq]
   refine Tr.ret ?_
   simp -implicitDefEqProofs (disch := first | omega | (simp only [go_sem, List.length_append, List.length_drop, List.length_take, hb1, hb6] <;> omega) | decide) only [go_sem, ↓reduceIte, Nat.reduceEqDiff, reduceCtorEq]
   all_goals (rfl)
end Go.Sx
namespace Go.Sx
end Go.Sx
namespace Go.Sx
open Go.RowKit Go.Proofs
end Go.Sx
namespace Go.Sx
end Go.Sx
namespace Go.Sx
open Go.RowKit Go.Proofs
end Go.Sx
