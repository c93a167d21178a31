/-
  Package token: the law that tokens cover a text.
-/
import Derived.Test.YtmeplkkhnpcldaaPav
import Derived.Test.YtmeplkkhnpcldaaPaw
set_option linter.unusedSimpArgs false
set_option linter.unusedVariables false
namespace Go.Sx
open Go.RowKit Go.Proofs
set_option maxRecDepth 100000 in
set_option maxHeartbeats 8000000 in
theorem fc7 {gl : Nat → C} {M : Nat} {pu : Nat → List C → Option C}  (hcx : CxOK (cxP gl M pu)) (h11 : ∀ (l : List Int) (how by' : Int) (raw : List UInt8) (most : Int), LI l → (-9223372036854775808 ≤ how ∧ how ≤ 9223372036854775807) → (-9223372036854775808 ≤ by' ∧ by' ≤ 9223372036854775807) → raw.length ≤ 9223372036854775807 → pu 11 [sl iC .no l, .val (.int .i64 how), .val (.int .i64 by'), .val (str raw), .val (.int .i64 most)] = some (sl sC .no (textsT l how by' raw most))) (h12 : ∀ s : List UInt8, s.length ≤ 1000000 → pu 12 [.val (str s)] = some (.val (nI (validE s)))) (h14 : pu 14 [] = some (.val (.bool true))) (h18 : ∀ s : List UInt8, s.length ≤ 1000000 → pu 18 [.val (str s)] = some (sl tC (.own 3) (toks s))) (h20 : ∀ (s : List UInt8) (f t : Int), s.length ≤ 1000000 → -9223372036854775808 ≤ f ∧ f ≤ 9223372036854775807 → -9223372036854775808 ≤ t ∧ t ≤ 9223372036854775807 → pu 20 [.val (str s), .val (.int .i64 f), .val (.int .i64 t)] = some (.val (str (part s f t)))) (l : List Int) (how by' : Int) (raw : List UInt8) (hl : LI l) (hw : -9223372036854775808 ≤ how ∧ how ≤ 9223372036854775807) (hy : -9223372036854775808 ≤ by' ∧ by' ≤ 9223372036854775807) (hraw : raw.length ≤ 9223372036854775807) : FC Try.prog gl 7 [sl iC .no l, .val (.int .i64 how), .val (.int .i64 by'), .val (str raw)] [] (.val (.bool true)) [] := by
 replace hcx := hcx.reN (M := 201)
 refine FC.ofA (cx := cxP gl 201 pu) (rs := [.tmp 8]) rfl Try.func7 rfl rfl rfl (by simp only [List.length_cons, List.length_nil]; decide) (by simp only [go_sem]) ?_
 simp only [ini, go_sem]
 obtain ⟨L, hL6, hL0, hL, e11⟩ : ∃ L : List (List UInt8), L.length ≤ 6 ∧ 0 < L.length ∧ (∀ i, i < L.length → (gt L i).length ≤ 10000) ∧ pu 11 [sl iC .no l, .val (.int .i64 how), .val (.int .i64 by'), .val (str raw), .val (nI 600)] = some (sl sC .no L) :=
   ⟨textsT l how by' raw 600, (texts_le l how by' raw 600 (by decide)).1, (texts_le l how by' raw 600 (by decide)).2.1, (texts_le l how by' raw 600 (by decide)).2.2, h11 l how by' raw 600 hl hw hy hraw⟩
 have hb1 := True.intro
 have hb2 := True.intro
 have h20n : ∀ (s : List UInt8) (f t : Nat), s.length ≤ 1000000 → f ≤ 9223372036854775807 → t ≤ 9223372036854775807 → pu 20 [.val (str s), .val (nI f), .val (nI t)] = some (.val (str (part s f t))) := fun s f t h1 h2 h3 => h20 s f t h1 (by omega) (by omega)
 refine Tr.seqK fun K1 hK1 => ?_
 -- region 0 (law.go:113)
 refine Tr.rg hcx [] _ [] rfl rfl rfl ?_
 simp -implicitDefEqProofs (maxSteps := 2000000) (disch := first | omega | (simp only [go_sem, List.length_append, List.length_drop, List.length_take, hb1, hb2] <;> omega) | decide) only [go_sem, ↓reduceIte, Nat.reduceEqDiff, reduceCtorEq, Nat.reduceLT, Nat.reduceBEq, Nat.reduceAdd, Nat.reduceSub, Nat.reduceMul, Nat.reduceMod, Int.reduceMod, Int.reduceToNat, Int.reduceNeg, e11, h12, h14, h18, h20n, eq_self, decide_true, decide_false, not_true_eq_false, not_false_eq_true]
 refine hK1 _ ?_
 clear hK1 K1
 refine Tr.kp [0, 1, 2, 3] ?_
 simp only [pk_cons, pk_nil, ↓A_cons, ↓reduceIte, Nat.reduceEqDiff, reduceCtorEq]
 refine Tr.seqK fun K2 hK2 => ?_
 -- region 1 (law.go:114)
 refine Tr.rg hcx [1000021] _ [] rfl rfl rfl ?_
 simp -implicitDefEqProofs (maxSteps := 2000000) (disch := first | omega | (simp only [go_sem, List.length_append, List.length_drop, List.length_take, hb1, hb2] <;> omega) | decide) only [go_sem, ↓reduceIte, Nat.reduceEqDiff, reduceCtorEq, Nat.reduceLT, Nat.reduceBEq, Nat.reduceAdd, Nat.reduceSub, Nat.reduceMul, Nat.reduceMod, Int.reduceMod, Int.reduceToNat, Int.reduceNeg, e11, h12, h14, h18, h20n, eq_self, decide_true, decide_false, not_true_eq_false, not_false_eq_true]
 refine hK2 _ ?_
 clear hK2 K2
 refine Tr.kp [9] ?_
 simp only [pk_cons, pk_nil, ↓A_cons, ↓reduceIte, Nat.reduceEqDiff, reduceCtorEq]
 refine Tr.seqK fun K3 hK3 => ?_
 refine Tr.seqK fun K4 hK4 => ?_
 -- region 2 (law.go:115)
 refine Tr.rg hcx [] _ [] rfl rfl rfl ?_
 simp -implicitDefEqProofs (maxSteps := 2000000) (disch := first | omega | (simp only [go_sem, List.length_append, List.length_drop, List.length_take, hb1, hb2] <;> omega) | decide) only [go_sem, ↓reduceIte, Nat.reduceEqDiff, reduceCtorEq, Nat.reduceLT, Nat.reduceBEq, Nat.reduceAdd, Nat.reduceSub, Nat.reduceMul, Nat.reduceMod, Int.reduceMod, Int.reduceToNat, Int.reduceNeg, e11, h12, h14, h18, h20n, eq_self, decide_true, decide_false, not_true_eq_false, not_false_eq_true]
 refine hK4 _ ?_
 clear hK4 K4
 refine Tr.kp [9, 10] ?_
 simp only [pk_cons, pk_nil, ↓A_cons, ↓reduceIte, Nat.reduceEqDiff, reduceCtorEq]
 refine Tr.blk ?_
 refine Tr.loopI (α := Nat) (fun a => [(9, ?v9_8), (10, .val (nI a))]) (fun a => ?h_8) (fun a => a ≤ L.length) (fun a => L.length - a) (0) ?_ ?le_8 ?hh_8 ?bd_8
 case hh_8 => exact rfl
 case le_8 => (simp only [Le_nil, Le_cons, ↓A_cons, ↓reduceIte, Nat.reduceEqDiff, reduceCtorEq, CLe_refl, CLe_top, CLe_full, CLe_nil, CLe_own, and_true, true_and]; all_goals (repeat' first | exact CLe.refl _ | exact True.intro | (refine CLe_sln ?_; first | with_reducible rfl | (simp only [List.take_zero]; done) | (rfl; done)) | exact CLe_nI (by omega) | exact CLe_int (by omega) | exact CLe_inI (by omega) | exact CLe_nIi (by omega) | with_reducible apply And.intro))
 · omega
 case bd_8 =>
  rintro i hi
  refine Tr.seqK fun K5 hK5 => ?_
  refine Tr.seqK fun K6 hK6 => ?_
  -- region 3 (law.go:115)
  refine Tr.rg hcx [] _ [] rfl rfl rfl ?_
  simp -implicitDefEqProofs (maxSteps := 2000000) (disch := first | omega | (simp only [go_sem, List.length_append, List.length_drop, List.length_take, hb1, hb2] <;> omega) | decide) only [go_sem, ↓reduceIte, Nat.reduceEqDiff, reduceCtorEq, Nat.reduceLT, Nat.reduceBEq, Nat.reduceAdd, Nat.reduceSub, Nat.reduceMul, Nat.reduceMod, Int.reduceMod, Int.reduceToNat, Int.reduceNeg, e11, h12, h14, h18, h20n, eq_self, decide_true, decide_false, not_true_eq_false, not_false_eq_true]
  refine hK6 _ ?_
  clear hK6 K6
  refine Tr.kp [9, 10, 25] ?_
  simp only [pk_cons, pk_nil, ↓A_cons, ↓reduceIte, Nat.reduceEqDiff, reduceCtorEq]
  refine Tr.condG fun KT KF hT hF => ?_
  simp only [ev_tmp, ev_const, ↓A_cons, ↓reduceIte, Nat.reduceEqDiff, reduceCtorEq, condG_bool, GB_true, GB_false, decide_eq_true_eq]
  refine GB.dec (fun hc25 => hT ?_) (fun hc25 => hF ?_)
  ·
   clear hT hF KT KF
   have hb1 := hL i hc25
   have hb3 := toks_len (gt L i)
   refine Tr.skip ?_
   refine hK5 _ ?_
   clear hK5 K5
   refine Tr.kp [9, 10] ?_
   simp only [pk_cons, pk_nil, ↓A_cons, ↓reduceIte, Nat.reduceEqDiff, reduceCtorEq]
   refine Tr.seqK fun K7 hK7 => ?_
   refine Tr.blk ?_
   refine Tr.seqK fun K8 hK8 => ?_
   -- region 5 (law.go:116)
   refine Tr.rg hcx [1000031] _ [] rfl rfl rfl ?_
   simp -implicitDefEqProofs (maxSteps := 2000000) (disch := first | omega | (simp only [go_sem, List.length_append, List.length_drop, List.length_take, hb1, hb2] <;> omega) | decide) only [go_sem, ↓reduceIte, Nat.reduceEqDiff, reduceCtorEq, Nat.reduceLT, Nat.reduceBEq, Nat.reduceAdd, Nat.reduceSub, Nat.reduceMul, Nat.reduceMod, Int.reduceMod, Int.reduceToNat, Int.reduceNeg, e11, h12, h14, h18, h20n, eq_self, decide_true, decide_false, not_true_eq_false, not_false_eq_true]
   refine hK8 _ ?_
   clear hK8 K8
   refine Tr.kp [9, 10, 11] ?_
   simp only [pk_cons, pk_nil, ↓A_cons, ↓reduceIte, Nat.reduceEqDiff, reduceCtorEq]
   refine Tr.seqK fun K9 hK9 => ?_
   -- region 6 (law.go:117)
   refine Tr.rg hcx [1000033] _ [] rfl rfl rfl ?_
   simp -implicitDefEqProofs (maxSteps := 2000000) (disch := first | omega | (simp only [go_sem, List.length_append, List.length_drop, List.length_take, hb1, hb2] <;> omega) | decide) only [go_sem, ↓reduceIte, Nat.reduceEqDiff, reduceCtorEq, Nat.reduceLT, Nat.reduceBEq, Nat.reduceAdd, Nat.reduceSub, Nat.reduceMul, Nat.reduceMod, Int.reduceMod, Int.reduceToNat, Int.reduceNeg, e11, h12, h14, h18, h20n, eq_self, decide_true, decide_false, not_true_eq_false, not_false_eq_true]
   refine hK9 _ ?_
   clear hK9 K9
   refine Tr.kp [9, 10, 11, 12] ?_
   simp only [pk_cons, pk_nil, ↓A_cons, ↓reduceIte, Nat.reduceEqDiff, reduceCtorEq]
   refine Tr.seqK fun K10 hK10 => ?_
   -- region 7 (law.go:118)
   refine Tr.rg hcx [] _ [] rfl rfl rfl ?_
   simp -implicitDefEqProofs (maxSteps := 2000000) (disch := first | omega | (simp only [go_sem, List.length_append, List.length_drop, List.length_take, hb1, hb2] <;> omega) | decide) only [go_sem, ↓reduceIte, Nat.reduceEqDiff, reduceCtorEq, Nat.reduceLT, Nat.reduceBEq, Nat.reduceAdd, Nat.reduceSub, Nat.reduceMul, Nat.reduceMod, Int.reduceMod, Int.reduceToNat, Int.reduceNeg, e11, h12, h14, h18, h20n, eq_self, decide_true, decide_false, not_true_eq_false, not_false_eq_true]
   refine hK10 _ ?_
   clear hK10 K10
   refine Tr.kp [9, 10, 11, 12, 13] ?_
   simp only [pk_cons, pk_nil, ↓A_cons, ↓reduceIte, Nat.reduceEqDiff, reduceCtorEq]
   refine Tr.seqK fun K11 hK11 => ?_
   refine Tr.seqK fun K12 hK12 => ?_
   -- region 8 (law.go:119)
   refine Tr.rg hcx [] _ [] rfl rfl rfl ?_
   simp -implicitDefEqProofs (maxSteps := 2000000) (disch := first | omega | (simp only [go_sem, List.length_append, List.length_drop, List.length_take, hb1, hb2] <;> omega) | decide) only [go_sem, ↓reduceIte, Nat.reduceEqDiff, reduceCtorEq, Nat.reduceLT, Nat.reduceBEq, Nat.reduceAdd, Nat.reduceSub, Nat.reduceMul, Nat.reduceMod, Int.reduceMod, Int.reduceToNat, Int.reduceNeg, e11, h12, h14, h18, h20n, eq_self, decide_true, decide_false, not_true_eq_false, not_false_eq_true]
   refine hK12 _ ?_
   clear hK12 K12
   refine Tr.kp [9, 10, 11, 12, 13, 14] ?_
   simp only [pk_cons, pk_nil, ↓A_cons, ↓reduceIte, Nat.reduceEqDiff, reduceCtorEq]
   refine Tr.blk ?_
   refine Tr.loopI (α := Nat) (fun a => [(9, ?v9_27), (10, ?v10_27), (11, ?v11_27), (12, ?v12_27), (13, .val (nI (preE 0 (toks (gt L i)) a))), (14, .val (nI a))]) (fun a => ?h_27) (fun a => a ≤ (toks (gt L i)).length) (fun a => (toks (gt L i)).length - a) (0) ?_ ?le_27 ?hh_27 ?bd_27
   case hh_27 => exact rfl
   case le_27 => (simp only [Le_nil, Le_cons, ↓A_cons, ↓reduceIte, Nat.reduceEqDiff, reduceCtorEq, CLe_refl, CLe_top, CLe_full, CLe_nil, CLe_own, and_true, true_and]; all_goals (repeat' first | exact CLe.refl _ | exact True.intro | (refine CLe_sln ?_; first | with_reducible rfl | (simp only [List.take_zero]; done) | (rfl; done)) | exact CLe_nI (by omega) | exact CLe_int (by omega) | exact CLe_inI (by omega) | exact CLe_nIi (by omega) | with_reducible apply And.intro))
   · omega
   case bd_27 =>
    rintro k hk
    refine Tr.seqK fun K13 hK13 => ?_
    refine Tr.seqK fun K14 hK14 => ?_
    -- region 9 (law.go:119)
    refine Tr.rg hcx [] _ [] rfl rfl rfl ?_
    simp -implicitDefEqProofs (maxSteps := 2000000) (disch := first | omega | (simp only [go_sem, List.length_append, List.length_drop, List.length_take, hb1, hb2] <;> omega) | decide) only [go_sem, ↓reduceIte, Nat.reduceEqDiff, reduceCtorEq, Nat.reduceLT, Nat.reduceBEq, Nat.reduceAdd, Nat.reduceSub, Nat.reduceMul, Nat.reduceMod, Int.reduceMod, Int.reduceToNat, Int.reduceNeg, e11, h12, h14, h18, h20n, eq_self, decide_true, decide_false, not_true_eq_false, not_false_eq_true]
    refine hK14 _ ?_
    clear hK14 K14
    refine Tr.kp [9, 10, 11, 12, 13, 14, 37] ?_
    simp only [pk_cons, pk_nil, ↓A_cons, ↓reduceIte, Nat.reduceEqDiff, reduceCtorEq]
    refine Tr.condG fun KT KF hT hF => ?_
    simp only [ev_tmp, ev_const, ↓A_cons, ↓reduceIte, Nat.reduceEqDiff, reduceCtorEq, condG_bool, GB_true, GB_false, decide_eq_true_eq]
    refine GB.dec (fun hc37 => hT ?_) (fun hc37 => hF ?_)
    ·
     clear hT hF KT KF
     obtain ⟨⟨q1, q2, q3, q4⟩, q5, q6, q7, q8⟩ := toks_at (gt L i) k hc37
     have f1 : ((gt (toks (gt L i)) k).a < preE 0 (toks (gt L i)) k) = False := eq_false (by omega)
     have f2 : ((gt (toks (gt L i)) k).e ≤ (gt (toks (gt L i)) k).a) = False := eq_false (by omega)
     have f3 : ((gt L i).length < (gt (toks (gt L i)) k).e) = False := eq_false (by omega)
     have f4 : ((gt (toks (gt L i)) k).k < 0) = False := eq_false (by omega)
     have f5 : (4 ≤ (gt (toks (gt L i)) k).k) = False := eq_false (by omega)
     have f6 := part_one (gt L i) k hc37
     refine Tr.skip ?_
     refine hK13 _ ?_
     clear hK13 K13
     refine Tr.kp [9, 10, 11, 12, 13, 14] ?_
     simp only [pk_cons, pk_nil, ↓A_cons, ↓reduceIte, Nat.reduceEqDiff, reduceCtorEq]
     refine Tr.seqK fun K15 hK15 => ?_
     refine Tr.blk ?_
     refine Tr.seqK fun K16 hK16 => ?_
     refine Tr.seqK fun K17 hK17 => ?_
     -- region 11 (law.go:120)
     refine Tr.rgD hcx hMO [] [some 40, some 41, some 42, some 43, some 44, some 45, some 46, some 47, some 48, some 49, some 50, some 51, some 52, some 53, some 54, some 55, some 56, some 57, some 58, some 59, some 60, some 61, some 62, some 63, some 64, some 65, some 66, some 67, some 68, some 69, some 70, some 71, some 72, some 73, some 74, some 75, some 76, some 77, some 78, some 79, some 80, some 81, some 82, some 83, some 84, some 85] [] rfl rfl rfl rfl ?_
     simp -implicitDefEqProofs (maxSteps := 2000000) (disch := first | omega | (simp only [go_sem, List.length_append, List.length_drop, List.length_take, hb1, hb2] <;> omega) | decide) only [go_sem, ↓reduceIte, Nat.reduceEqDiff, reduceCtorEq, Nat.reduceLT, Nat.reduceBEq, Nat.reduceAdd, Nat.reduceSub, Nat.reduceMul, Nat.reduceMod, Int.reduceMod, Int.reduceToNat, Int.reduceNeg, e11, h12, h14, h18, h20n, eq_self, decide_true, decide_false, not_true_eq_false, not_false_eq_true, f1, f2, f3, f4, f5]
     with_reducible refine And.intro ?_ ?_
     · exact rfl
     refine hK17 _ ?_
     clear hK17 K17
     refine Tr.kp [9, 10, 11, 12, 13, 14, 85] ?_
     simp only [pk_cons, pk_nil, ↓A_cons, ↓reduceIte, Nat.reduceEqDiff, reduceCtorEq]
     refine Tr.condG fun KT KF hT hF => ?_
     simp only [ev_tmp, ev_const, ↓A_cons, ↓reduceIte, Nat.reduceEqDiff, reduceCtorEq, condG_bool, GB_true, GB_false, decide_eq_true_eq]
     refine hF ?_
     clear hT hF KT KF
     refine Tr.skip ?_
     refine hK16 _ ?_
     clear hK16 K16
     refine Tr.kp [9, 10, 11, 12, 13, 14] ?_
     simp only [pk_cons, pk_nil, ↓A_cons, ↓reduceIte, Nat.reduceEqDiff, reduceCtorEq]
     refine Tr.seqK fun K18 hK18 => ?_
     refine Tr.seqK fun K19 hK19 => ?_
     -- region 13 (law.go:123)
     refine Tr.rg hcx [1000086] _ [] rfl rfl rfl ?_
     simp -implicitDefEqProofs (maxSteps := 2000000) (disch := first | omega | (simp only [go_sem, List.length_append, List.length_drop, List.length_take, hb1, hb2] <;> omega) | decide) only [go_sem, ↓reduceIte, Nat.reduceEqDiff, reduceCtorEq, Nat.reduceLT, Nat.reduceBEq, Nat.reduceAdd, Nat.reduceSub, Nat.reduceMul, Nat.reduceMod, Int.reduceMod, Int.reduceToNat, Int.reduceNeg, e11, h12, h14, h18, h20n, eq_self, decide_true, decide_false, not_true_eq_false, not_false_eq_true]
     refine hK19 _ ?_
     clear hK19 K19
     refine Tr.kp [9, 10, 11, 12, 13, 14, 15] ?_
     simp only [pk_cons, pk_nil, ↓A_cons, ↓reduceIte, Nat.reduceEqDiff, reduceCtorEq]
     refine Tr.blk ?_
     refine Tr.loopI (α := Nat) (fun a => [(9, ?v9_48), (10, ?v10_48), (11, ?v11_48), (12, ?v12_48), (13, ?v13_48), (14, ?v14_48), (15, .val (nI a))]) (fun a => ?h_48) (fun a => preE 0 (toks (gt L i)) k ≤ a ∧ a ≤ (gt (toks (gt L i)) k).a) (fun a => (gt (toks (gt L i)) k).a - a) (preE 0 (toks (gt L i)) k) ?_ ?le_48 ?hh_48 ?bd_48
     case hh_48 => exact rfl
     case le_48 => (simp only [Le_nil, Le_cons, ↓A_cons, ↓reduceIte, Nat.reduceEqDiff, reduceCtorEq, CLe_refl, CLe_top, CLe_full, CLe_nil, CLe_own, and_true, true_and]; all_goals (repeat' first | exact CLe.refl _ | exact True.intro | (refine CLe_sln ?_; first | with_reducible rfl | (simp only [List.take_zero]; done) | (rfl; done)) | exact CLe_nI (by omega) | exact CLe_int (by omega) | exact CLe_inI (by omega) | exact CLe_nIi (by omega) | with_reducible apply And.intro))
     · omega
     case bd_48 =>
      rintro j hj
      refine Tr.seqK fun K20 hK20 => ?_
      refine Tr.seqK fun K21 hK21 => ?_
      -- region 14 (law.go:123)
      refine Tr.rg hcx [] _ [] rfl rfl rfl ?_
      simp -implicitDefEqProofs (maxSteps := 2000000) (disch := first | omega | (simp only [go_sem, List.length_append, List.length_drop, List.length_take, hb1, hb2] <;> omega) | decide) only [go_sem, ↓reduceIte, Nat.reduceEqDiff, reduceCtorEq, Nat.reduceLT, Nat.reduceBEq, Nat.reduceAdd, Nat.reduceSub, Nat.reduceMul, Nat.reduceMod, Int.reduceMod, Int.reduceToNat, Int.reduceNeg, e11, h12, h14, h18, h20n, eq_self, decide_true, decide_false, not_true_eq_false, not_false_eq_true]
      refine hK21 _ ?_
      clear hK21 K21
      refine Tr.kp [9, 10, 11, 12, 13, 14, 15, 93] ?_
      simp only [pk_cons, pk_nil, ↓A_cons, ↓reduceIte, Nat.reduceEqDiff, reduceCtorEq]
      refine Tr.condG fun KT KF hT hF => ?_
      simp only [ev_tmp, ev_const, ↓A_cons, ↓reduceIte, Nat.reduceEqDiff, reduceCtorEq, condG_bool, GB_true, GB_false, decide_eq_true_eq]
      refine GB.dec (fun hc93 => hT ?_) (fun hc93 => hF ?_)
      ·
       clear hT hF KT KF
       have f7 : (gt (gt L i) j = UInt8.ofNat 32) = True := eq_true (q5 j hj.1 hc93)
       refine Tr.skip ?_
       refine hK20 _ ?_
       clear hK20 K20
       refine Tr.kp [9, 10, 11, 12, 13, 14, 15] ?_
       simp only [pk_cons, pk_nil, ↓A_cons, ↓reduceIte, Nat.reduceEqDiff, reduceCtorEq]
       refine Tr.seqK fun K22 hK22 => ?_
       refine Tr.blk ?_
       refine Tr.seqK fun K23 hK23 => ?_
       -- region 16 (law.go:124)
       refine Tr.rg hcx [] _ [] rfl rfl rfl ?_
       simp -implicitDefEqProofs (maxSteps := 2000000) (disch := first | omega | (simp only [go_sem, List.length_append, List.length_drop, List.length_take, hb1, hb2] <;> omega) | decide) only [go_sem, ↓reduceIte, Nat.reduceEqDiff, reduceCtorEq, Nat.reduceLT, Nat.reduceBEq, Nat.reduceAdd, Nat.reduceSub, Nat.reduceMul, Nat.reduceMod, Int.reduceMod, Int.reduceToNat, Int.reduceNeg, e11, h12, h14, h18, h20n, eq_self, decide_true, decide_false, not_true_eq_false, not_false_eq_true, f7]
       refine hK23 _ ?_
       clear hK23 K23
       refine Tr.kp [9, 10, 11, 12, 13, 14, 15, 99] ?_
       simp only [pk_cons, pk_nil, ↓A_cons, ↓reduceIte, Nat.reduceEqDiff, reduceCtorEq]
       refine Tr.condG fun KT KF hT hF => ?_
       simp only [ev_tmp, ev_const, ↓A_cons, ↓reduceIte, Nat.reduceEqDiff, reduceCtorEq, condG_bool, GB_true, GB_false, decide_eq_true_eq]
       refine hF ?_
       clear hT hF KT KF
       refine Tr.skip ?_
       refine hK22 _ ?_
       clear hK22 K22
       refine Tr.kp [9, 10, 11, 12, 13, 14, 15] ?_
       simp only [pk_cons, pk_nil, ↓A_cons, ↓reduceIte, Nat.reduceEqDiff, reduceCtorEq]
       -- region 15 (law.go:123)
       refine Tr.rg hcx [1000095] _ [] rfl rfl rfl ?_
       simp -implicitDefEqProofs (maxSteps := 2000000) (disch := first | omega | (simp only [go_sem, List.length_append, List.length_drop, List.length_take, hb1, hb2] <;> omega) | decide) only [go_sem, ↓reduceIte, Nat.reduceEqDiff, reduceCtorEq, Nat.reduceLT, Nat.reduceBEq, Nat.reduceAdd, Nat.reduceSub, Nat.reduceMul, Nat.reduceMod, Int.reduceMod, Int.reduceToNat, Int.reduceNeg, e11, h12, h14, h18, h20n, eq_self, decide_true, decide_false, not_true_eq_false, not_false_eq_true]
       refine ⟨j + 1, ⟨by omega, by first | omega | (simp only []; omega)⟩, ?_, rfl⟩
       (simp only [Le_nil, Le_cons, ↓A_cons, ↓reduceIte, Nat.reduceEqDiff, reduceCtorEq, CLe_refl, CLe_top, CLe_full, CLe_nil, CLe_own, and_true, true_and]; all_goals (repeat' first | exact CLe.refl _ | exact True.intro | (refine CLe_sln ?_; first | with_reducible rfl | (simp only [List.take_zero]; done) | (rfl; done)) | exact CLe_nI (by omega) | exact CLe_int (by omega) | exact CLe_inI (by omega) | exact CLe_nIi (by omega) | with_reducible apply And.intro))
      ·
       clear hT hF KT KF
       refine Tr.exit ?_
       refine hK18 _ ?_
       clear hK20 K20 hK18 K18
       refine Tr.kp [9, 10, 11, 12, 13, 14] ?_
       simp only [pk_cons, pk_nil, ↓A_cons, ↓reduceIte, Nat.reduceEqDiff, reduceCtorEq]
       refine Tr.seqK fun K24 hK24 => ?_
       refine Tr.seqK fun K25 hK25 => ?_
       by_cases b1 : 0 < k
       ·
        skip
        by_cases b2 : (gt (toks (gt L i)) k).a = preE 0 (toks (gt L i)) k
        ·
         have b2o := b2
         replace b2 := eq_true b2
         by_cases b3 : (gt (toks (gt L i)) k).k = (gt (toks (gt L i)) (k - 1)).k
         ·
          have b4 : ((gt (toks (gt L i)) k).k ≤ 1) = False := eq_false (fun h => q8 b1 h b2o b3)
          replace b3 := eq_true b3
          by_cases b5 : (gt (toks (gt L i)) k).a + 1 < (gt (toks (gt L i)) k).e
          ·
           have b6 : (1 < (gt (toks (gt L i)) k).k) = False := eq_false (fun h => by have := q7 h; omega)
           -- region 18 (law.go:128)
           refine Tr.rgD hcx hMO [] [some 100, some 101, some 102, some 103, some 104, some 105, some 106, some 107, some 108, some 109, some 110, some 111, some 112, some 113, some 114, some 115, some 116, some 117, some 118, some 119, some 120, some 121, some 122, some 123, some 124, some 125, some 126, some 127, some 128, some 129, some 130, some 131, some 132, some 133, some 134, some 135, some 136, some 137, some 138, some 139, some 140, some 141, some 142, some 143, some 144, some 145, some 146, some 147, some 148, some 149, some 150, some 151, some 152, some 153, some 154] [] rfl rfl rfl rfl ?_
           simp -implicitDefEqProofs (maxSteps := 2000000) (disch := first | omega | (simp only [go_sem, List.length_append, List.length_drop, List.length_take, hb1, hb2] <;> omega) | decide) only [go_sem, ↓reduceIte, Nat.reduceEqDiff, reduceCtorEq, Nat.reduceLT, Nat.reduceBEq, Nat.reduceAdd, Nat.reduceSub, Nat.reduceMul, Nat.reduceMod, Int.reduceMod, Int.reduceToNat, Int.reduceNeg, e11, h12, h14, h18, h20n, eq_self, decide_true, decide_false, not_true_eq_false, not_false_eq_true, b1, b2, b3, b5, b4, b6]
           with_reducible refine And.intro ?_ ?_
           · exact rfl
           refine hK25 _ ?_
           clear hK25 K25
           refine Tr.kp [9, 10, 11, 12, 14, 154] ?_
           simp only [pk_cons, pk_nil, ↓A_cons, ↓reduceIte, Nat.reduceEqDiff, reduceCtorEq]
           refine Tr.condG fun KT KF hT hF => ?_
           simp only [ev_tmp, ev_const, ↓A_cons, ↓reduceIte, Nat.reduceEqDiff, reduceCtorEq, condG_bool, GB_true, GB_false, decide_eq_true_eq]
           refine hF ?_
           clear hT hF KT KF
           refine Tr.skip ?_
           refine hK24 _ ?_
           clear hK24 K24
           refine Tr.kp [9, 10, 11, 12, 14] ?_
           simp only [pk_cons, pk_nil, ↓A_cons, ↓reduceIte, Nat.reduceEqDiff, reduceCtorEq]
           refine Tr.seqK fun K26 hK26 => ?_
           refine Tr.seqK fun K27 hK27 => ?_
           -- region 20 (law.go:131)
           refine Tr.rgD hcx hMO [] _ [] rfl rfl rfl rfl ?_
           simp -implicitDefEqProofs (maxSteps := 2000000) (disch := first | omega | (simp only [go_sem, List.length_append, List.length_drop, List.length_take, hb1, hb2] <;> omega) | decide) only [go_sem, ↓reduceIte, Nat.reduceEqDiff, reduceCtorEq, Nat.reduceLT, Nat.reduceBEq, Nat.reduceAdd, Nat.reduceSub, Nat.reduceMul, Nat.reduceMod, Int.reduceMod, Int.reduceToNat, Int.reduceNeg, e11, h12, h14, h18, h20n, eq_self, decide_true, decide_false, not_true_eq_false, not_false_eq_true, b1, b2, b3, b5, f6]
           with_reducible refine And.intro ?_ ?_
           · exact rfl
           refine hK27 _ ?_
           clear hK27 K27
           refine Tr.kp [9, 10, 11, 12, 14, 172] ?_
           simp only [pk_cons, pk_nil, ↓A_cons, ↓reduceIte, Nat.reduceEqDiff, reduceCtorEq]
           refine Tr.condG fun KT KF hT hF => ?_
           simp only [ev_tmp, ev_const, ↓A_cons, ↓reduceIte, Nat.reduceEqDiff, reduceCtorEq, condG_bool, GB_true, GB_false, decide_eq_true_eq]
           refine hF ?_
           clear hT hF KT KF
           refine Tr.skip ?_
           refine hK26 _ ?_
           clear hK26 K26
           refine Tr.kp [9, 10, 11, 12, 14] ?_
           simp only [pk_cons, pk_nil, ↓A_cons, ↓reduceIte, Nat.reduceEqDiff, reduceCtorEq]
           -- region 22 (law.go:134)
           refine Tr.rg hcx [1000177] _ [] rfl rfl rfl ?_
           simp -implicitDefEqProofs (maxSteps := 2000000) (disch := first | omega | (simp only [go_sem, List.length_append, List.length_drop, List.length_take, hb1, hb2] <;> omega) | decide) only [go_sem, ↓reduceIte, Nat.reduceEqDiff, reduceCtorEq, Nat.reduceLT, Nat.reduceBEq, Nat.reduceAdd, Nat.reduceSub, Nat.reduceMul, Nat.reduceMod, Int.reduceMod, Int.reduceToNat, Int.reduceNeg, e11, h12, h14, h18, h20n, eq_self, decide_true, decide_false, not_true_eq_false, not_false_eq_true, b1, b2, b3, b5]
           refine hK15 _ ?_
           clear hK15 K15
           refine Tr.kp [9, 10, 11, 12, 13, 14] ?_
           simp only [pk_cons, pk_nil, ↓A_cons, ↓reduceIte, Nat.reduceEqDiff, reduceCtorEq]
           -- region 10 (law.go:119)
           refine Tr.rg hcx [1000039] _ [] rfl rfl rfl ?_
           simp -implicitDefEqProofs (maxSteps := 2000000) (disch := first | omega | (simp only [go_sem, List.length_append, List.length_drop, List.length_take, hb1, hb2] <;> omega) | decide) only [go_sem, ↓reduceIte, Nat.reduceEqDiff, reduceCtorEq, Nat.reduceLT, Nat.reduceBEq, Nat.reduceAdd, Nat.reduceSub, Nat.reduceMul, Nat.reduceMod, Int.reduceMod, Int.reduceToNat, Int.reduceNeg, e11, h12, h14, h18, h20n, eq_self, decide_true, decide_false, not_true_eq_false, not_false_eq_true, b1, b2, b3, b5]
           refine ⟨k + 1, ⟨by omega, by first | omega | (simp only []; omega)⟩, ?_, rfl⟩
           (simp only [Le_nil, Le_cons, ↓A_cons, ↓reduceIte, Nat.reduceEqDiff, reduceCtorEq, CLe_refl, CLe_top, CLe_full, CLe_nil, CLe_own, and_true, true_and]; all_goals (repeat' first | exact CLe.refl _ | exact True.intro | (refine CLe_sln ?_; first | with_reducible rfl | (simp only [List.take_zero]; done) | (rfl; done)) | exact CLe_nI (by omega) | exact CLe_int (by omega) | exact CLe_inI (by omega) | exact CLe_nIi (by omega) | with_reducible apply And.intro))
           all_goals (try (rw [preE_S]; exact CLe.refl _))
          ·
           have b6 := True.intro
           -- region 18 (law.go:128)
           refine Tr.rgD hcx hMO [] [some 100, some 101, some 102, some 103, some 104, some 105, some 106, some 107, some 108, some 109, some 110, some 111, some 112, some 113, some 114, some 115, some 116, some 117, some 118, some 119, some 120, some 121, some 122, some 123, some 124, some 125, some 126, some 127, some 128, some 129, some 130, some 131, some 132, some 133, some 134, some 135, some 136, some 137, some 138, some 139, some 140, some 141, some 142, some 143, some 144, some 145, some 146, some 147, some 148, some 149, some 150, some 151, some 152, some 153, some 154] [] rfl rfl rfl rfl ?_
           simp -implicitDefEqProofs (maxSteps := 2000000) (disch := first | omega | (simp only [go_sem, List.length_append, List.length_drop, List.length_take, hb1, hb2] <;> omega) | decide) only [go_sem, ↓reduceIte, Nat.reduceEqDiff, reduceCtorEq, Nat.reduceLT, Nat.reduceBEq, Nat.reduceAdd, Nat.reduceSub, Nat.reduceMul, Nat.reduceMod, Int.reduceMod, Int.reduceToNat, Int.reduceNeg, e11, h12, h14, h18, h20n, eq_self, decide_true, decide_false, not_true_eq_false, not_false_eq_true, b1, b2, b3, b5, b4, b6]
           with_reducible refine And.intro ?_ ?_
           · exact rfl
           refine hK25 _ ?_
           clear hK25 K25
           refine Tr.kp [9, 10, 11, 12, 14, 154] ?_
           simp only [pk_cons, pk_nil, ↓A_cons, ↓reduceIte, Nat.reduceEqDiff, reduceCtorEq]
           refine Tr.condG fun KT KF hT hF => ?_
           simp only [ev_tmp, ev_const, ↓A_cons, ↓reduceIte, Nat.reduceEqDiff, reduceCtorEq, condG_bool, GB_true, GB_false, decide_eq_true_eq]
           refine hF ?_
           clear hT hF KT KF
           refine Tr.skip ?_
           refine hK24 _ ?_
           clear hK24 K24
           refine Tr.kp [9, 10, 11, 12, 14] ?_
           simp only [pk_cons, pk_nil, ↓A_cons, ↓reduceIte, Nat.reduceEqDiff, reduceCtorEq]
           refine Tr.seqK fun K28 hK28 => ?_
           refine Tr.seqK fun K29 hK29 => ?_
           -- region 20 (law.go:131)
           refine Tr.rgD hcx hMO [] _ [] rfl rfl rfl rfl ?_
           simp -implicitDefEqProofs (maxSteps := 2000000) (disch := first | omega | (simp only [go_sem, List.length_append, List.length_drop, List.length_take, hb1, hb2] <;> omega) | decide) only [go_sem, ↓reduceIte, Nat.reduceEqDiff, reduceCtorEq, Nat.reduceLT, Nat.reduceBEq, Nat.reduceAdd, Nat.reduceSub, Nat.reduceMul, Nat.reduceMod, Int.reduceMod, Int.reduceToNat, Int.reduceNeg, e11, h12, h14, h18, h20n, eq_self, decide_true, decide_false, not_true_eq_false, not_false_eq_true, b1, b2, b3, b5, f6]
           with_reducible refine And.intro ?_ ?_
           · exact rfl
           refine hK29 _ ?_
           clear hK29 K29
           refine Tr.kp [9, 10, 11, 12, 14, 172] ?_
           simp only [pk_cons, pk_nil, ↓A_cons, ↓reduceIte, Nat.reduceEqDiff, reduceCtorEq]
           refine Tr.condG fun KT KF hT hF => ?_
           simp only [ev_tmp, ev_const, ↓A_cons, ↓reduceIte, Nat.reduceEqDiff, reduceCtorEq, condG_bool, GB_true, GB_false, decide_eq_true_eq]
           refine hF ?_
           clear hT hF KT KF
           refine Tr.skip ?_
           refine hK28 _ ?_
           clear hK28 K28
           refine Tr.kp [9, 10, 11, 12, 14] ?_
           simp only [pk_cons, pk_nil, ↓A_cons, ↓reduceIte, Nat.reduceEqDiff, reduceCtorEq]
           -- region 22 (law.go:134)
           refine Tr.rg hcx [1000177] _ [] rfl rfl rfl ?_
           simp -implicitDefEqProofs (maxSteps := 2000000) (disch := first | omega | (simp only [go_sem, List.length_append, List.length_drop, List.length_take, hb1, hb2] <;> omega) | decide) only [go_sem, ↓reduceIte, Nat.reduceEqDiff, reduceCtorEq, Nat.reduceLT, Nat.reduceBEq, Nat.reduceAdd, Nat.reduceSub, Nat.reduceMul, Nat.reduceMod, Int.reduceMod, Int.reduceToNat, Int.reduceNeg, e11, h12, h14, h18, h20n, eq_self, decide_true, decide_false, not_true_eq_false, not_false_eq_true, b1, b2, b3, b5]
           refine hK15 _ ?_
           clear hK15 K15
           refine Tr.kp [9, 10, 11, 12, 13, 14] ?_
           simp only [pk_cons, pk_nil, ↓A_cons, ↓reduceIte, Nat.reduceEqDiff, reduceCtorEq]
           -- region 10 (law.go:119)
           refine Tr.rg hcx [1000039] _ [] rfl rfl rfl ?_
           simp -implicitDefEqProofs (maxSteps := 2000000) (disch := first | omega | (simp only [go_sem, List.length_append, List.length_drop, List.length_take, hb1, hb2] <;> omega) | decide) only [go_sem, ↓reduceIte, Nat.reduceEqDiff, reduceCtorEq, Nat.reduceLT, Nat.reduceBEq, Nat.reduceAdd, Nat.reduceSub, Nat.reduceMul, Nat.reduceMod, Int.reduceMod, Int.reduceToNat, Int.reduceNeg, e11, h12, h14, h18, h20n, eq_self, decide_true, decide_false, not_true_eq_false, not_false_eq_true, b1, b2, b3, b5]
           refine ⟨k + 1, ⟨by omega, by first | omega | (simp only []; omega)⟩, ?_, rfl⟩
           (simp only [Le_nil, Le_cons, ↓A_cons, ↓reduceIte, Nat.reduceEqDiff, reduceCtorEq, CLe_refl, CLe_top, CLe_full, CLe_nil, CLe_own, and_true, true_and]; all_goals (repeat' first | exact CLe.refl _ | exact True.intro | (refine CLe_sln ?_; first | with_reducible rfl | (simp only [List.take_zero]; done) | (rfl; done)) | exact CLe_nI (by omega) | exact CLe_int (by omega) | exact CLe_inI (by omega) | exact CLe_nIi (by omega) | with_reducible apply And.intro))
           all_goals (try (rw [preE_S]; exact CLe.refl _))
         ·
          replace b3 := eq_false b3
          have b4 := True.intro
          by_cases b5 : (gt (toks (gt L i)) k).a + 1 < (gt (toks (gt L i)) k).e
          ·
           have b6 : (1 < (gt (toks (gt L i)) k).k) = False := eq_false (fun h => by have := q7 h; omega)
           -- region 18 (law.go:128)
           refine Tr.rgD hcx hMO [] [some 100, some 101, some 102, some 103, some 104, some 105, some 106, some 107, some 108, some 109, some 110, some 111, some 112, some 113, some 114, some 115, some 116, some 117, some 118, some 119, some 120, some 121, some 122, some 123, some 124, some 125, some 126, some 127, some 128, some 129, some 130, some 131, some 132, some 133, some 134, some 135, some 136, some 137, some 138, some 139, some 140, some 141, some 142, some 143, some 144, some 145, some 146, some 147, some 148, some 149, some 150, some 151, some 152, some 153, some 154] [] rfl rfl rfl rfl ?_
           simp -implicitDefEqProofs (maxSteps := 2000000) (disch := first | omega | (simp only [go_sem, List.length_append, List.length_drop, List.length_take, hb1, hb2] <;> omega) | decide) only [go_sem, ↓reduceIte, Nat.reduceEqDiff, reduceCtorEq, Nat.reduceLT, Nat.reduceBEq, Nat.reduceAdd, Nat.reduceSub, Nat.reduceMul, Nat.reduceMod, Int.reduceMod, Int.reduceToNat, Int.reduceNeg, e11, h12, h14, h18, h20n, eq_self, decide_true, decide_false, not_true_eq_false, not_false_eq_true, b1, b2, b3, b5, b4, b6]
           with_reducible refine And.intro ?_ ?_
           · exact rfl
           refine hK25 _ ?_
           clear hK25 K25
           refine Tr.kp [9, 10, 11, 12, 14, 154] ?_
           simp only [pk_cons, pk_nil, ↓A_cons, ↓reduceIte, Nat.reduceEqDiff, reduceCtorEq]
           refine Tr.condG fun KT KF hT hF => ?_
           simp only [ev_tmp, ev_const, ↓A_cons, ↓reduceIte, Nat.reduceEqDiff, reduceCtorEq, condG_bool, GB_true, GB_false, decide_eq_true_eq]
           refine hF ?_
           clear hT hF KT KF
           refine Tr.skip ?_
           refine hK24 _ ?_
           clear hK24 K24
           refine Tr.kp [9, 10, 11, 12, 14] ?_
           simp only [pk_cons, pk_nil, ↓A_cons, ↓reduceIte, Nat.reduceEqDiff, reduceCtorEq]
           refine Tr.seqK fun K30 hK30 => ?_
           refine Tr.seqK fun K31 hK31 => ?_
           -- region 20 (law.go:131)
           refine Tr.rgD hcx hMO [] _ [] rfl rfl rfl rfl ?_
           simp -implicitDefEqProofs (maxSteps := 2000000) (disch := first | omega | (simp only [go_sem, List.length_append, List.length_drop, List.length_take, hb1, hb2] <;> omega) | decide) only [go_sem, ↓reduceIte, Nat.reduceEqDiff, reduceCtorEq, Nat.reduceLT, Nat.reduceBEq, Nat.reduceAdd, Nat.reduceSub, Nat.reduceMul, Nat.reduceMod, Int.reduceMod, Int.reduceToNat, Int.reduceNeg, e11, h12, h14, h18, h20n, eq_self, decide_true, decide_false, not_true_eq_false, not_false_eq_true, b1, b2, b3, b5, f6]
           with_reducible refine And.intro ?_ ?_
           · exact rfl
           refine hK31 _ ?_
           clear hK31 K31
           refine Tr.kp [9, 10, 11, 12, 14, 172] ?_
           simp only [pk_cons, pk_nil, ↓A_cons, ↓reduceIte, Nat.reduceEqDiff, reduceCtorEq]
           refine Tr.condG fun KT KF hT hF => ?_
           simp only [ev_tmp, ev_const, ↓A_cons, ↓reduceIte, Nat.reduceEqDiff, reduceCtorEq, condG_bool, GB_true, GB_false, decide_eq_true_eq]
           refine hF ?_
           clear hT hF KT KF
           refine Tr.skip ?_
           refine hK30 _ ?_
           clear hK30 K30
           refine Tr.kp [9, 10, 11, 12, 14] ?_
           simp only [pk_cons, pk_nil, ↓A_cons, ↓reduceIte, Nat.reduceEqDiff, reduceCtorEq]
           -- region 22 (law.go:134)
           refine Tr.rg hcx [1000177] _ [] rfl rfl rfl ?_
           simp -implicitDefEqProofs (maxSteps := 2000000) (disch := first | omega | (simp only [go_sem, List.length_append, List.length_drop, List.length_take, hb1, hb2] <;> omega) | decide) only [go_sem, ↓reduceIte, Nat.reduceEqDiff, reduceCtorEq, Nat.reduceLT, Nat.reduceBEq, Nat.reduceAdd, Nat.reduceSub, Nat.reduceMul, Nat.reduceMod, Int.reduceMod, Int.reduceToNat, Int.reduceNeg, e11, h12, h14, h18, h20n, eq_self, decide_true, decide_false, not_true_eq_false, not_false_eq_true, b1, b2, b3, b5]
           refine hK15 _ ?_
           clear hK15 K15
           refine Tr.kp [9, 10, 11, 12, 13, 14] ?_
           simp only [pk_cons, pk_nil, ↓A_cons, ↓reduceIte, Nat.reduceEqDiff, reduceCtorEq]
           -- region 10 (law.go:119)
           refine Tr.rg hcx [1000039] _ [] rfl rfl rfl ?_
           simp -implicitDefEqProofs (maxSteps := 2000000) (disch := first | omega | (simp only [go_sem, List.length_append, List.length_drop, List.length_take, hb1, hb2] <;> omega) | decide) only [go_sem, ↓reduceIte, Nat.reduceEqDiff, reduceCtorEq, Nat.reduceLT, Nat.reduceBEq, Nat.reduceAdd, Nat.reduceSub, Nat.reduceMul, Nat.reduceMod, Int.reduceMod, Int.reduceToNat, Int.reduceNeg, e11, h12, h14, h18, h20n, eq_self, decide_true, decide_false, not_true_eq_false, not_false_eq_true, b1, b2, b3, b5]
           refine ⟨k + 1, ⟨by omega, by first | omega | (simp only []; omega)⟩, ?_, rfl⟩
           (simp only [Le_nil, Le_cons, ↓A_cons, ↓reduceIte, Nat.reduceEqDiff, reduceCtorEq, CLe_refl, CLe_top, CLe_full, CLe_nil, CLe_own, and_true, true_and]; all_goals (repeat' first | exact CLe.refl _ | exact True.intro | (refine CLe_sln ?_; first | with_reducible rfl | (simp only [List.take_zero]; done) | (rfl; done)) | exact CLe_nI (by omega) | exact CLe_int (by omega) | exact CLe_inI (by omega) | exact CLe_nIi (by omega) | with_reducible apply And.intro))
           all_goals (try (rw [preE_S]; exact CLe.refl _))
          ·
           have b6 := True.intro
           -- region 18 (law.go:128)
           refine Tr.rgD hcx hMO [] [some 100, some 101, some 102, some 103, some 104, some 105, some 106, some 107, some 108, some 109, some 110, some 111, some 112, some 113, some 114, some 115, some 116, some 117, some 118, some 119, some 120, some 121, some 122, some 123, some 124, some 125, some 126, some 127, some 128, some 129, some 130, some 131, some 132, some 133, some 134, some 135, some 136, some 137, some 138, some 139, some 140, some 141, some 142, some 143, some 144, some 145, some 146, some 147, some 148, some 149, some 150, some 151, some 152, some 153, some 154] [] rfl rfl rfl rfl ?_
           simp -implicitDefEqProofs (maxSteps := 2000000) (disch := first | omega | (simp only [go_sem, List.length_append, List.length_drop, List.length_take, hb1, hb2] <;> omega) | decide) only [go_sem, ↓reduceIte, Nat.reduceEqDiff, reduceCtorEq, Nat.reduceLT, Nat.reduceBEq, Nat.reduceAdd, Nat.reduceSub, Nat.reduceMul, Nat.reduceMod, Int.reduceMod, Int.reduceToNat, Int.reduceNeg, e11, h12, h14, h18, h20n, eq_self, decide_true, decide_false, not_true_eq_false, not_false_eq_true, b1, b2, b3, b5, b4, b6]
           with_reducible refine And.intro ?_ ?_
           · exact rfl
           refine hK25 _ ?_
           clear hK25 K25
           refine Tr.kp [9, 10, 11, 12, 14, 154] ?_
           simp only [pk_cons, pk_nil, ↓A_cons, ↓reduceIte, Nat.reduceEqDiff, reduceCtorEq]
           refine Tr.condG fun KT KF hT hF => ?_
           simp only [ev_tmp, ev_const, ↓A_cons, ↓reduceIte, Nat.reduceEqDiff, reduceCtorEq, condG_bool, GB_true, GB_false, decide_eq_true_eq]
           refine hF ?_
           clear hT hF KT KF
           refine Tr.skip ?_
           refine hK24 _ ?_
           clear hK24 K24
           refine Tr.kp [9, 10, 11, 12, 14] ?_
           simp only [pk_cons, pk_nil, ↓A_cons, ↓reduceIte, Nat.reduceEqDiff, reduceCtorEq]
           refine Tr.seqK fun K32 hK32 => ?_
           refine Tr.seqK fun K33 hK33 => ?_
           -- region 20 (law.go:131)
           refine Tr.rgD hcx hMO [] _ [] rfl rfl rfl rfl ?_
           simp -implicitDefEqProofs (maxSteps := 2000000) (disch := first | omega | (simp only [go_sem, List.length_append, List.length_drop, List.length_take, hb1, hb2] <;> omega) | decide) only [go_sem, ↓reduceIte, Nat.reduceEqDiff, reduceCtorEq, Nat.reduceLT, Nat.reduceBEq, Nat.reduceAdd, Nat.reduceSub, Nat.reduceMul, Nat.reduceMod, Int.reduceMod, Int.reduceToNat, Int.reduceNeg, e11, h12, h14, h18, h20n, eq_self, decide_true, decide_false, not_true_eq_false, not_false_eq_true, b1, b2, b3, b5, f6]
           with_reducible refine And.intro ?_ ?_
           · exact rfl
           refine hK33 _ ?_
           clear hK33 K33
           refine Tr.kp [9, 10, 11, 12, 14, 172] ?_
           simp only [pk_cons, pk_nil, ↓A_cons, ↓reduceIte, Nat.reduceEqDiff, reduceCtorEq]
           refine Tr.condG fun KT KF hT hF => ?_
           simp only [ev_tmp, ev_const, ↓A_cons, ↓reduceIte, Nat.reduceEqDiff, reduceCtorEq, condG_bool, GB_true, GB_false, decide_eq_true_eq]
           refine hF ?_
           clear hT hF KT KF
           refine Tr.skip ?_
           refine hK32 _ ?_
           clear hK32 K32
           refine Tr.kp [9, 10, 11, 12, 14] ?_
           simp only [pk_cons, pk_nil, ↓A_cons, ↓reduceIte, Nat.reduceEqDiff, reduceCtorEq]
           -- region 22 (law.go:134)
           refine Tr.rg hcx [1000177] _ [] rfl rfl rfl ?_
           simp -implicitDefEqProofs (maxSteps := 2000000) (disch := first | omega | (simp only [go_sem, List.length_append, List.length_drop, List.length_take, hb1, hb2] <;> omega) | decide) only [go_sem, ↓reduceIte, Nat.reduceEqDiff, reduceCtorEq, Nat.reduceLT, Nat.reduceBEq, Nat.reduceAdd, Nat.reduceSub, Nat.reduceMul, Nat.reduceMod, Int.reduceMod, Int.reduceToNat, Int.reduceNeg, e11, h12, h14, h18, h20n, eq_self, decide_true, decide_false, not_true_eq_false, not_false_eq_true, b1, b2, b3, b5]
           refine hK15 _ ?_
           clear hK15 K15
           refine Tr.kp [9, 10, 11, 12, 13, 14] ?_
           simp only [pk_cons, pk_nil, ↓A_cons, ↓reduceIte, Nat.reduceEqDiff, reduceCtorEq]
           -- region 10 (law.go:119)
           refine Tr.rg hcx [1000039] _ [] rfl rfl rfl ?_
           simp -implicitDefEqProofs (maxSteps := 2000000) (disch := first | omega | (simp only [go_sem, List.length_append, List.length_drop, List.length_take, hb1, hb2] <;> omega) | decide) only [go_sem, ↓reduceIte, Nat.reduceEqDiff, reduceCtorEq, Nat.reduceLT, Nat.reduceBEq, Nat.reduceAdd, Nat.reduceSub, Nat.reduceMul, Nat.reduceMod, Int.reduceMod, Int.reduceToNat, Int.reduceNeg, e11, h12, h14, h18, h20n, eq_self, decide_true, decide_false, not_true_eq_false, not_false_eq_true, b1, b2, b3, b5]
           refine ⟨k + 1, ⟨by omega, by first | omega | (simp only []; omega)⟩, ?_, rfl⟩
           (simp only [Le_nil, Le_cons, ↓A_cons, ↓reduceIte, Nat.reduceEqDiff, reduceCtorEq, CLe_refl, CLe_top, CLe_full, CLe_nil, CLe_own, and_true, true_and]; all_goals (repeat' first | exact CLe.refl _ | exact True.intro | (refine CLe_sln ?_; first | with_reducible rfl | (simp only [List.take_zero]; done) | (rfl; done)) | exact CLe_nI (by omega) | exact CLe_int (by omega) | exact CLe_inI (by omega) | exact CLe_nIi (by omega) | with_reducible apply And.intro))
           all_goals (try (rw [preE_S]; exact CLe.refl _))
        ·
         replace b2 := eq_false b2
         have b4 := True.intro
         by_cases b5 : (gt (toks (gt L i)) k).a + 1 < (gt (toks (gt L i)) k).e
         ·
          have b6 : (1 < (gt (toks (gt L i)) k).k) = False := eq_false (fun h => by have := q7 h; omega)
          -- region 18 (law.go:128)
          refine Tr.rgD hcx hMO [] [some 100, some 101, some 102, some 103, some 104, some 105, some 106, some 107, some 108, some 109, some 110, some 111, some 112, some 113, some 114, some 115, some 116, some 117, some 118, some 119, some 120, some 121, some 122, some 123, some 124, some 125, some 126, some 127, some 128, some 129, some 130, some 131, some 132, some 133, some 134, some 135, some 136, some 137, some 138, some 139, some 140, some 141, some 142, some 143, some 144, some 145, some 146, some 147, some 148, some 149, some 150, some 151, some 152, some 153, some 154] [] rfl rfl rfl rfl ?_
          simp -implicitDefEqProofs (maxSteps := 2000000) (disch := first | omega | (simp only [go_sem, List.length_append, List.length_drop, List.length_take, hb1, hb2] <;> omega) | decide) only [go_sem, ↓reduceIte, Nat.reduceEqDiff, reduceCtorEq, Nat.reduceLT, Nat.reduceBEq, Nat.reduceAdd, Nat.reduceSub, Nat.reduceMul, Nat.reduceMod, Int.reduceMod, Int.reduceToNat, Int.reduceNeg, e11, h12, h14, h18, h20n, eq_self, decide_true, decide_false, not_true_eq_false, not_false_eq_true, b1, b2, b5, b4, b6]
          with_reducible refine And.intro ?_ ?_
          · exact rfl
          refine hK25 _ ?_
          clear hK25 K25
          refine Tr.kp [9, 10, 11, 12, 14, 154] ?_
          simp only [pk_cons, pk_nil, ↓A_cons, ↓reduceIte, Nat.reduceEqDiff, reduceCtorEq]
          refine Tr.condG fun KT KF hT hF => ?_
          simp only [ev_tmp, ev_const, ↓A_cons, ↓reduceIte, Nat.reduceEqDiff, reduceCtorEq, condG_bool, GB_true, GB_false, decide_eq_true_eq]
          refine hF ?_
          clear hT hF KT KF
          refine Tr.skip ?_
          refine hK24 _ ?_
          clear hK24 K24
          refine Tr.kp [9, 10, 11, 12, 14] ?_
          simp only [pk_cons, pk_nil, ↓A_cons, ↓reduceIte, Nat.reduceEqDiff, reduceCtorEq]
          refine Tr.seqK fun K34 hK34 => ?_
          refine Tr.seqK fun K35 hK35 => ?_
          -- region 20 (law.go:131)
          refine Tr.rgD hcx hMO [] _ [] rfl rfl rfl rfl ?_
          simp -implicitDefEqProofs (maxSteps := 2000000) (disch := first | omega | (simp only [go_sem, List.length_append, List.length_drop, List.length_take, hb1, hb2] <;> omega) | decide) only [go_sem, ↓reduceIte, Nat.reduceEqDiff, reduceCtorEq, Nat.reduceLT, Nat.reduceBEq, Nat.reduceAdd, Nat.reduceSub, Nat.reduceMul, Nat.reduceMod, Int.reduceMod, Int.reduceToNat, Int.reduceNeg, e11, h12, h14, h18, h20n, eq_self, decide_true, decide_false, not_true_eq_false, not_false_eq_true, b1, b2, b5, f6]
          with_reducible refine And.intro ?_ ?_
          · exact rfl
          refine hK35 _ ?_
          clear hK35 K35
          refine Tr.kp [9, 10, 11, 12, 14, 172] ?_
          simp only [pk_cons, pk_nil, ↓A_cons, ↓reduceIte, Nat.reduceEqDiff, reduceCtorEq]
          refine Tr.condG fun KT KF hT hF => ?_
          simp only [ev_tmp, ev_const, ↓A_cons, ↓reduceIte, Nat.reduceEqDiff, reduceCtorEq, condG_bool, GB_true, GB_false, decide_eq_true_eq]
          refine hF ?_
          clear hT hF KT KF
          refine Tr.skip ?_
          refine hK34 _ ?_
          clear hK34 K34
          refine Tr.kp [9, 10, 11, 12, 14] ?_
          simp only [pk_cons, pk_nil, ↓A_cons, ↓reduceIte, Nat.reduceEqDiff, reduceCtorEq]
          -- region 22 (law.go:134)
          refine Tr.rg hcx [1000177] _ [] rfl rfl rfl ?_
          simp -implicitDefEqProofs (maxSteps := 2000000) (disch := first | omega | (simp only [go_sem, List.length_append, List.length_drop, List.length_take, hb1, hb2] <;> omega) | decide) only [go_sem, ↓reduceIte, Nat.reduceEqDiff, reduceCtorEq, Nat.reduceLT, Nat.reduceBEq, Nat.reduceAdd, Nat.reduceSub, Nat.reduceMul, Nat.reduceMod, Int.reduceMod, Int.reduceToNat, Int.reduceNeg, e11, h12, h14, h18, h20n, eq_self, decide_true, decide_false, not_true_eq_false, not_false_eq_true, b1, b2, b5]
          refine hK15 _ ?_
          clear hK15 K15
          refine Tr.kp [9, 10, 11, 12, 13, 14] ?_
          simp only [pk_cons, pk_nil, ↓A_cons, ↓reduceIte, Nat.reduceEqDiff, reduceCtorEq]
          -- region 10 (law.go:119)
          refine Tr.rg hcx [1000039] _ [] rfl rfl rfl ?_
          simp -implicitDefEqProofs (maxSteps := 2000000) (disch := first | omega | (simp only [go_sem, List.length_append, List.length_drop, List.length_take, hb1, hb2] <;> omega) | decide) only [go_sem, ↓reduceIte, Nat.reduceEqDiff, reduceCtorEq, Nat.reduceLT, Nat.reduceBEq, Nat.reduceAdd, Nat.reduceSub, Nat.reduceMul, Nat.reduceMod, Int.reduceMod, Int.reduceToNat, Int.reduceNeg, e11, h12, h14, h18, h20n, eq_self, decide_true, decide_false, not_true_eq_false, not_false_eq_true, b1, b2, b5]
          refine ⟨k + 1, ⟨by omega, by first | omega | (simp only []; omega)⟩, ?_, rfl⟩
          (simp only [Le_nil, Le_cons, ↓A_cons, ↓reduceIte, Nat.reduceEqDiff, reduceCtorEq, CLe_refl, CLe_top, CLe_full, CLe_nil, CLe_own, and_true, true_and]; all_goals (repeat' first | exact CLe.refl _ | exact True.intro | (refine CLe_sln ?_; first | with_reducible rfl | (simp only [List.take_zero]; done) | (rfl; done)) | exact CLe_nI (by omega) | exact CLe_int (by omega) | exact CLe_inI (by omega) | exact CLe_nIi (by omega) | with_reducible apply And.intro))
          all_goals (try (rw [preE_S]; exact CLe.refl _))
         ·
          have b6 := True.intro
          -- region 18 (law.go:128)
          refine Tr.rgD hcx hMO [] [some 100, some 101, some 102, some 103, some 104, some 105, some 106, some 107, some 108, some 109, some 110, some 111, some 112, some 113, some 114, some 115, some 116, some 117, some 118, some 119, some 120, some 121, some 122, some 123, some 124, some 125, some 126, some 127, some 128, some 129, some 130, some 131, some 132, some 133, some 134, some 135, some 136, some 137, some 138, some 139, some 140, some 141, some 142, some 143, some 144, some 145, some 146, some 147, some 148, some 149, some 150, some 151, some 152, some 153, some 154] [] rfl rfl rfl rfl ?_
          simp -implicitDefEqProofs (maxSteps := 2000000) (disch := first | omega | (simp only [go_sem, List.length_append, List.length_drop, List.length_take, hb1, hb2] <;> omega) | decide) only [go_sem, ↓reduceIte, Nat.reduceEqDiff, reduceCtorEq, Nat.reduceLT, Nat.reduceBEq, Nat.reduceAdd, Nat.reduceSub, Nat.reduceMul, Nat.reduceMod, Int.reduceMod, Int.reduceToNat, Int.reduceNeg, e11, h12, h14, h18, h20n, eq_self, decide_true, decide_false, not_true_eq_false, not_false_eq_true, b1, b2, b5, b4, b6]
          with_reducible refine And.intro ?_ ?_
          · exact rfl
          refine hK25 _ ?_
          clear hK25 K25
          refine Tr.kp [9, 10, 11, 12, 14, 154] ?_
          simp only [pk_cons, pk_nil, ↓A_cons, ↓reduceIte, Nat.reduceEqDiff, reduceCtorEq]
          refine Tr.condG fun KT KF hT hF => ?_
          simp only [ev_tmp, ev_const, ↓A_cons, ↓reduceIte, Nat.reduceEqDiff, reduceCtorEq, condG_bool, GB_true, GB_false, decide_eq_true_eq]
          refine hF ?_
          clear hT hF KT KF
          refine Tr.skip ?_
          refine hK24 _ ?_
          clear hK24 K24
          refine Tr.kp [9, 10, 11, 12, 14] ?_
          simp only [pk_cons, pk_nil, ↓A_cons, ↓reduceIte, Nat.reduceEqDiff, reduceCtorEq]
          refine Tr.seqK fun K36 hK36 => ?_
          refine Tr.seqK fun K37 hK37 => ?_
          -- region 20 (law.go:131)
          refine Tr.rgD hcx hMO [] _ [] rfl rfl rfl rfl ?_
          simp -implicitDefEqProofs (maxSteps := 2000000) (disch := first | omega | (simp only [go_sem, List.length_append, List.length_drop, List.length_take, hb1, hb2] <;> omega) | decide) only [go_sem, ↓reduceIte, Nat.reduceEqDiff, reduceCtorEq, Nat.reduceLT, Nat.reduceBEq, Nat.reduceAdd, Nat.reduceSub, Nat.reduceMul, Nat.reduceMod, Int.reduceMod, Int.reduceToNat, Int.reduceNeg, e11, h12, h14, h18, h20n, eq_self, decide_true, decide_false, not_true_eq_false, not_false_eq_true, b1, b2, b5, f6]
          with_reducible refine And.intro ?_ ?_
          · exact rfl
          refine hK37 _ ?_
          clear hK37 K37
          refine Tr.kp [9, 10, 11, 12, 14, 172] ?_
          simp only [pk_cons, pk_nil, ↓A_cons, ↓reduceIte, Nat.reduceEqDiff, reduceCtorEq]
          refine Tr.condG fun KT KF hT hF => ?_
          simp only [ev_tmp, ev_const, ↓A_cons, ↓reduceIte, Nat.reduceEqDiff, reduceCtorEq, condG_bool, GB_true, GB_false, decide_eq_true_eq]
          refine hF ?_
          clear hT hF KT KF
          refine Tr.skip ?_
          refine hK36 _ ?_
          clear hK36 K36
          refine Tr.kp [9, 10, 11, 12, 14] ?_
          simp only [pk_cons, pk_nil, ↓A_cons, ↓reduceIte, Nat.reduceEqDiff, reduceCtorEq]
          -- region 22 (law.go:134)
          refine Tr.rg hcx [1000177] _ [] rfl rfl rfl ?_
          simp -implicitDefEqProofs (maxSteps := 2000000) (disch := first | omega | (simp only [go_sem, List.length_append, List.length_drop, List.length_take, hb1, hb2] <;> omega) | decide) only [go_sem, ↓reduceIte, Nat.reduceEqDiff, reduceCtorEq, Nat.reduceLT, Nat.reduceBEq, Nat.reduceAdd, Nat.reduceSub, Nat.reduceMul, Nat.reduceMod, Int.reduceMod, Int.reduceToNat, Int.reduceNeg, e11, h12, h14, h18, h20n, eq_self, decide_true, decide_false, not_true_eq_false, not_false_eq_true, b1, b2, b5]
          refine hK15 _ ?_
          clear hK15 K15
          refine Tr.kp [9, 10, 11, 12, 13, 14] ?_
          simp only [pk_cons, pk_nil, ↓A_cons, ↓reduceIte, Nat.reduceEqDiff, reduceCtorEq]
          -- region 10 (law.go:119)
          refine Tr.rg hcx [1000039] _ [] rfl rfl rfl ?_
          simp -implicitDefEqProofs (maxSteps := 2000000) (disch := first | omega | (simp only [go_sem, List.length_append, List.length_drop, List.length_take, hb1, hb2] <;> omega) | decide) only [go_sem, ↓reduceIte, Nat.reduceEqDiff, reduceCtorEq, Nat.reduceLT, Nat.reduceBEq, Nat.reduceAdd, Nat.reduceSub, Nat.reduceMul, Nat.reduceMod, Int.reduceMod, Int.reduceToNat, Int.reduceNeg, e11, h12, h14, h18, h20n, eq_self, decide_true, decide_false, not_true_eq_false, not_false_eq_true, b1, b2, b5]
          refine ⟨k + 1, ⟨by omega, by first | omega | (simp only []; omega)⟩, ?_, rfl⟩
          (simp only [Le_nil, Le_cons, ↓A_cons, ↓reduceIte, Nat.reduceEqDiff, reduceCtorEq, CLe_refl, CLe_top, CLe_full, CLe_nil, CLe_own, and_true, true_and]; all_goals (repeat' first | exact CLe.refl _ | exact True.intro | (refine CLe_sln ?_; first | with_reducible rfl | (simp only [List.take_zero]; done) | (rfl; done)) | exact CLe_nI (by omega) | exact CLe_int (by omega) | exact CLe_inI (by omega) | exact CLe_nIi (by omega) | with_reducible apply And.intro))
          all_goals (try (rw [preE_S]; exact CLe.refl _))
       ·
        have b4 := True.intro
        by_cases b5 : (gt (toks (gt L i)) k).a + 1 < (gt (toks (gt L i)) k).e
        ·
         have b6 : (1 < (gt (toks (gt L i)) k).k) = False := eq_false (fun h => by have := q7 h; omega)
         -- region 18 (law.go:128)
         refine Tr.rgD hcx hMO [] [some 100, some 101, some 102, some 103, some 104, some 105, some 106, some 107, some 108, some 109, some 110, some 111, some 112, some 113, some 114, some 115, some 116, some 117, some 118, some 119, some 120, some 121, some 122, some 123, some 124, some 125, some 126, some 127, some 128, some 129, some 130, some 131, some 132, some 133, some 134, some 135, some 136, some 137, some 138, some 139, some 140, some 141, some 142, some 143, some 144, some 145, some 146, some 147, some 148, some 149, some 150, some 151, some 152, some 153, some 154] [] rfl rfl rfl rfl ?_
         simp -implicitDefEqProofs (maxSteps := 2000000) (disch := first | omega | (simp only [go_sem, List.length_append, List.length_drop, List.length_take, hb1, hb2] <;> omega) | decide) only [go_sem, ↓reduceIte, Nat.reduceEqDiff, reduceCtorEq, Nat.reduceLT, Nat.reduceBEq, Nat.reduceAdd, Nat.reduceSub, Nat.reduceMul, Nat.reduceMod, Int.reduceMod, Int.reduceToNat, Int.reduceNeg, e11, h12, h14, h18, h20n, eq_self, decide_true, decide_false, not_true_eq_false, not_false_eq_true, b1, b5, b4, b6]
         with_reducible refine And.intro ?_ ?_
         · exact rfl
         refine hK25 _ ?_
         clear hK25 K25
         refine Tr.kp [9, 10, 11, 12, 14, 154] ?_
         simp only [pk_cons, pk_nil, ↓A_cons, ↓reduceIte, Nat.reduceEqDiff, reduceCtorEq]
         refine Tr.condG fun KT KF hT hF => ?_
         simp only [ev_tmp, ev_const, ↓A_cons, ↓reduceIte, Nat.reduceEqDiff, reduceCtorEq, condG_bool, GB_true, GB_false, decide_eq_true_eq]
         refine hF ?_
         clear hT hF KT KF
         refine Tr.skip ?_
         refine hK24 _ ?_
         clear hK24 K24
         refine Tr.kp [9, 10, 11, 12, 14] ?_
         simp only [pk_cons, pk_nil, ↓A_cons, ↓reduceIte, Nat.reduceEqDiff, reduceCtorEq]
         refine Tr.seqK fun K38 hK38 => ?_
         refine Tr.seqK fun K39 hK39 => ?_
         -- region 20 (law.go:131)
         refine Tr.rgD hcx hMO [] _ [] rfl rfl rfl rfl ?_
         simp -implicitDefEqProofs (maxSteps := 2000000) (disch := first | omega | (simp only [go_sem, List.length_append, List.length_drop, List.length_take, hb1, hb2] <;> omega) | decide) only [go_sem, ↓reduceIte, Nat.reduceEqDiff, reduceCtorEq, Nat.reduceLT, Nat.reduceBEq, Nat.reduceAdd, Nat.reduceSub, Nat.reduceMul, Nat.reduceMod, Int.reduceMod, Int.reduceToNat, Int.reduceNeg, e11, h12, h14, h18, h20n, eq_self, decide_true, decide_false, not_true_eq_false, not_false_eq_true, b1, b5, f6]
         with_reducible refine And.intro ?_ ?_
         · exact rfl
         refine hK39 _ ?_
         clear hK39 K39
         refine Tr.kp [9, 10, 11, 12, 14, 172] ?_
         simp only [pk_cons, pk_nil, ↓A_cons, ↓reduceIte, Nat.reduceEqDiff, reduceCtorEq]
         refine Tr.condG fun KT KF hT hF => ?_
         simp only [ev_tmp, ev_const, ↓A_cons, ↓reduceIte, Nat.reduceEqDiff, reduceCtorEq, condG_bool, GB_true, GB_false, decide_eq_true_eq]
         refine hF ?_
         clear hT hF KT KF
         refine Tr.skip ?_
         refine hK38 _ ?_
         clear hK38 K38
         refine Tr.kp [9, 10, 11, 12, 14] ?_
         simp only [pk_cons, pk_nil, ↓A_cons, ↓reduceIte, Nat.reduceEqDiff, reduceCtorEq]
         -- region 22 (law.go:134)
         refine Tr.rg hcx [1000177] _ [] rfl rfl rfl ?_
         simp -implicitDefEqProofs (maxSteps := 2000000) (disch := first | omega | (simp only [go_sem, List.length_append, List.length_drop, List.length_take, hb1, hb2] <;> omega) | decide) only [go_sem, ↓reduceIte, Nat.reduceEqDiff, reduceCtorEq, Nat.reduceLT, Nat.reduceBEq, Nat.reduceAdd, Nat.reduceSub, Nat.reduceMul, Nat.reduceMod, Int.reduceMod, Int.reduceToNat, Int.reduceNeg, e11, h12, h14, h18, h20n, eq_self, decide_true, decide_false, not_true_eq_false, not_false_eq_true, b1, b5]
         refine hK15 _ ?_
         clear hK15 K15
         refine Tr.kp [9, 10, 11, 12, 13, 14] ?_
         simp only [pk_cons, pk_nil, ↓A_cons, ↓reduceIte, Nat.reduceEqDiff, reduceCtorEq]
         -- region 10 (law.go:119)
         refine Tr.rg hcx [1000039] _ [] rfl rfl rfl ?_
         simp -implicitDefEqProofs (maxSteps := 2000000) (disch := first | omega | (simp only [go_sem, List.length_append, List.length_drop, List.length_take, hb1, hb2] <;> omega) | decide) only [go_sem, ↓reduceIte, Nat.reduceEqDiff, reduceCtorEq, Nat.reduceLT, Nat.reduceBEq, Nat.reduceAdd, Nat.reduceSub, Nat.reduceMul, Nat.reduceMod, Int.reduceMod, Int.reduceToNat, Int.reduceNeg, e11, h12, h14, h18, h20n, eq_self, decide_true, decide_false, not_true_eq_false, not_false_eq_true, b1, b5]
         refine ⟨k + 1, ⟨by omega, by first | omega | (simp only []; omega)⟩, ?_, rfl⟩
         (simp only [Le_nil, Le_cons, ↓A_cons, ↓reduceIte, Nat.reduceEqDiff, reduceCtorEq, CLe_refl, CLe_top, CLe_full, CLe_nil, CLe_own, and_true, true_and]; all_goals (repeat' first | exact CLe.refl _ | exact True.intro | (refine CLe_sln ?_; first | with_reducible rfl | (simp only [List.take_zero]; done) | (rfl; done)) | exact CLe_nI (by omega) | exact CLe_int (by omega) | exact CLe_inI (by omega) | exact CLe_nIi (by omega) | with_reducible apply And.intro))
         all_goals (try (rw [preE_S]; exact CLe.refl _))
        ·
         have b6 := True.intro
         -- region 18 (law.go:128)
         refine Tr.rgD hcx hMO [] [some 100, some 101, some 102, some 103, some 104, some 105, some 106, some 107, some 108, some 109, some 110, some 111, some 112, some 113, some 114, some 115, some 116, some 117, some 118, some 119, some 120, some 121, some 122, some 123, some 124, some 125, some 126, some 127, some 128, some 129, some 130, some 131, some 132, some 133, some 134, some 135, some 136, some 137, some 138, some 139, some 140, some 141, some 142, some 143, some 144, some 145, some 146, some 147, some 148, some 149, some 150, some 151, some 152, some 153, some 154] [] rfl rfl rfl rfl ?_
         simp -implicitDefEqProofs (maxSteps := 2000000) (disch := first | omega | (simp only [go_sem, List.length_append, List.length_drop, List.length_take, hb1, hb2] <;> omega) | decide) only [go_sem, ↓reduceIte, Nat.reduceEqDiff, reduceCtorEq, Nat.reduceLT, Nat.reduceBEq, Nat.reduceAdd, Nat.reduceSub, Nat.reduceMul, Nat.reduceMod, Int.reduceMod, Int.reduceToNat, Int.reduceNeg, e11, h12, h14, h18, h20n, eq_self, decide_true, decide_false, not_true_eq_false, not_false_eq_true, b1, b5, b4, b6]
         with_reducible refine And.intro ?_ ?_
         · exact rfl
         refine hK25 _ ?_
         clear hK25 K25
         refine Tr.kp [9, 10, 11, 12, 14, 154] ?_
         simp only [pk_cons, pk_nil, ↓A_cons, ↓reduceIte, Nat.reduceEqDiff, reduceCtorEq]
         refine Tr.condG fun KT KF hT hF => ?_
         simp only [ev_tmp, ev_const, ↓A_cons, ↓reduceIte, Nat.reduceEqDiff, reduceCtorEq, condG_bool, GB_true, GB_false, decide_eq_true_eq]
         refine hF ?_
         clear hT hF KT KF
         refine Tr.skip ?_
         refine hK24 _ ?_
         clear hK24 K24
         refine Tr.kp [9, 10, 11, 12, 14] ?_
         simp only [pk_cons, pk_nil, ↓A_cons, ↓reduceIte, Nat.reduceEqDiff, reduceCtorEq]
         refine Tr.seqK fun K40 hK40 => ?_
         refine Tr.seqK fun K41 hK41 => ?_
         -- region 20 (law.go:131)
         refine Tr.rgD hcx hMO [] _ [] rfl rfl rfl rfl ?_
         simp -implicitDefEqProofs (maxSteps := 2000000) (disch := first | omega | (simp only [go_sem, List.length_append, List.length_drop, List.length_take, hb1, hb2] <;> omega) | decide) only [go_sem, ↓reduceIte, Nat.reduceEqDiff, reduceCtorEq, Nat.reduceLT, Nat.reduceBEq, Nat.reduceAdd, Nat.reduceSub, Nat.reduceMul, Nat.reduceMod, Int.reduceMod, Int.reduceToNat, Int.reduceNeg, e11, h12, h14, h18, h20n, eq_self, decide_true, decide_false, not_true_eq_false, not_false_eq_true, b1, b5, f6]
         with_reducible refine And.intro ?_ ?_
         · exact rfl
         refine hK41 _ ?_
         clear hK41 K41
         refine Tr.kp [9, 10, 11, 12, 14, 172] ?_
         simp only [pk_cons, pk_nil, ↓A_cons, ↓reduceIte, Nat.reduceEqDiff, reduceCtorEq]
         refine Tr.condG fun KT KF hT hF => ?_
         simp only [ev_tmp, ev_const, ↓A_cons, ↓reduceIte, Nat.reduceEqDiff, reduceCtorEq, condG_bool, GB_true, GB_false, decide_eq_true_eq]
         refine hF ?_
         clear hT hF KT KF
         refine Tr.skip ?_
         refine hK40 _ ?_
         clear hK40 K40
         refine Tr.kp [9, 10, 11, 12, 14] ?_
         simp only [pk_cons, pk_nil, ↓A_cons, ↓reduceIte, Nat.reduceEqDiff, reduceCtorEq]
         -- region 22 (law.go:134)
         refine Tr.rg hcx [1000177] _ [] rfl rfl rfl ?_
         simp -implicitDefEqProofs (maxSteps := 2000000) (disch := first | omega | (simp only [go_sem, List.length_append, List.length_drop, List.length_take, hb1, hb2] <;> omega) | decide) only [go_sem, ↓reduceIte, Nat.reduceEqDiff, reduceCtorEq, Nat.reduceLT, Nat.reduceBEq, Nat.reduceAdd, Nat.reduceSub, Nat.reduceMul, Nat.reduceMod, Int.reduceMod, Int.reduceToNat, Int.reduceNeg, e11, h12, h14, h18, h20n, eq_self, decide_true, decide_false, not_true_eq_false, not_false_eq_true, b1, b5]
         refine hK15 _ ?_
         clear hK15 K15
         refine Tr.kp [9, 10, 11, 12, 13, 14] ?_
         simp only [pk_cons, pk_nil, ↓A_cons, ↓reduceIte, Nat.reduceEqDiff, reduceCtorEq]
         -- region 10 (law.go:119)
         refine Tr.rg hcx [1000039] _ [] rfl rfl rfl ?_
         simp -implicitDefEqProofs (maxSteps := 2000000) (disch := first | omega | (simp only [go_sem, List.length_append, List.length_drop, List.length_take, hb1, hb2] <;> omega) | decide) only [go_sem, ↓reduceIte, Nat.reduceEqDiff, reduceCtorEq, Nat.reduceLT, Nat.reduceBEq, Nat.reduceAdd, Nat.reduceSub, Nat.reduceMul, Nat.reduceMod, Int.reduceMod, Int.reduceToNat, Int.reduceNeg, e11, h12, h14, h18, h20n, eq_self, decide_true, decide_false, not_true_eq_false, not_false_eq_true, b1, b5]
         refine ⟨k + 1, ⟨by omega, by first | omega | (simp only []; omega)⟩, ?_, rfl⟩
         (simp only [Le_nil, Le_cons, ↓A_cons, ↓reduceIte, Nat.reduceEqDiff, reduceCtorEq, CLe_refl, CLe_top, CLe_full, CLe_nil, CLe_own, and_true, true_and]; all_goals (repeat' first | exact CLe.refl _ | exact True.intro | (refine CLe_sln ?_; first | with_reducible rfl | (simp only [List.take_zero]; done) | (rfl; done)) | exact CLe_nI (by omega) | exact CLe_int (by omega) | exact CLe_inI (by omega) | exact CLe_nIi (by omega) | with_reducible apply And.intro))
         all_goals (try (rw [preE_S]; exact CLe.refl _))
    ·
     clear hT hF KT KF
     obtain rfl : k = (toks (gt L i)).length := by omega
     have hpre : preE 0 (toks (gt L i)) (toks (gt L i)).length ≤ (gt L i).length := by
       rcases Nat.eq_zero_or_pos (toks (gt L i)).length with h0 | h0
       · rw [h0]; exact Nat.zero_le _
       · unfold preE; rw [if_neg (by omega)]; exact (toks_at (gt L i) _ (by omega)).1.2.2.1
     refine Tr.exit ?_
     refine hK11 _ ?_
     clear hK13 K13 hK11 K11
     refine Tr.kp [9, 10, 11, 12, 13] ?_
     simp only [pk_cons, pk_nil, ↓A_cons, ↓reduceIte, Nat.reduceEqDiff, reduceCtorEq]
     refine Tr.seqK fun K42 hK42 => ?_
     refine Tr.seqK fun K43 hK43 => ?_
     -- region 23 (law.go:136)
     refine Tr.rg hcx [1000178] _ [] rfl rfl rfl ?_
     simp -implicitDefEqProofs (maxSteps := 2000000) (disch := first | omega | (simp only [go_sem, List.length_append, List.length_drop, List.length_take, hb1, hb2] <;> omega) | decide) only [go_sem, ↓reduceIte, Nat.reduceEqDiff, reduceCtorEq, Nat.reduceLT, Nat.reduceBEq, Nat.reduceAdd, Nat.reduceSub, Nat.reduceMul, Nat.reduceMod, Int.reduceMod, Int.reduceToNat, Int.reduceNeg, e11, h12, h14, h18, h20n, eq_self, decide_true, decide_false, not_true_eq_false, not_false_eq_true]
     refine hK43 _ ?_
     clear hK43 K43
     refine Tr.kp [9, 10, 11, 12, 16] ?_
     simp only [pk_cons, pk_nil, ↓A_cons, ↓reduceIte, Nat.reduceEqDiff, reduceCtorEq]
     refine Tr.blk ?_
     refine Tr.loopI (α := Nat) (fun a => [(9, ?v9_87), (10, ?v10_87), (11, ?v11_87), (12, ?v12_87), (16, .val (nI a))]) (fun a => ?h_87) (fun a => preE 0 (toks (gt L i)) (toks (gt L i)).length ≤ a ∧ a ≤ (gt L i).length) (fun a => (gt L i).length - a) (preE 0 (toks (gt L i)) (toks (gt L i)).length) ?_ ?le_87 ?hh_87 ?bd_87
     case hh_87 => exact rfl
     case le_87 => (simp only [Le_nil, Le_cons, ↓A_cons, ↓reduceIte, Nat.reduceEqDiff, reduceCtorEq, CLe_refl, CLe_top, CLe_full, CLe_nil, CLe_own, and_true, true_and]; all_goals (repeat' first | exact CLe.refl _ | exact True.intro | (refine CLe_sln ?_; first | with_reducible rfl | (simp only [List.take_zero]; done) | (rfl; done)) | exact CLe_nI (by omega) | exact CLe_int (by omega) | exact CLe_inI (by omega) | exact CLe_nIi (by omega) | with_reducible apply And.intro))
     · omega
     case bd_87 =>
      rintro j hj
      refine Tr.seqK fun K44 hK44 => ?_
      refine Tr.seqK fun K45 hK45 => ?_
      -- region 24 (law.go:136)
      refine Tr.rg hcx [] _ [] rfl rfl rfl ?_
      simp -implicitDefEqProofs (maxSteps := 2000000) (disch := first | omega | (simp only [go_sem, List.length_append, List.length_drop, List.length_take, hb1, hb2] <;> omega) | decide) only [go_sem, ↓reduceIte, Nat.reduceEqDiff, reduceCtorEq, Nat.reduceLT, Nat.reduceBEq, Nat.reduceAdd, Nat.reduceSub, Nat.reduceMul, Nat.reduceMod, Int.reduceMod, Int.reduceToNat, Int.reduceNeg, e11, h12, h14, h18, h20n, eq_self, decide_true, decide_false, not_true_eq_false, not_false_eq_true]
      refine hK45 _ ?_
      clear hK45 K45
      refine Tr.kp [9, 10, 11, 12, 16, 182] ?_
      simp only [pk_cons, pk_nil, ↓A_cons, ↓reduceIte, Nat.reduceEqDiff, reduceCtorEq]
      refine Tr.condG fun KT KF hT hF => ?_
      simp only [ev_tmp, ev_const, ↓A_cons, ↓reduceIte, Nat.reduceEqDiff, reduceCtorEq, condG_bool, GB_true, GB_false, decide_eq_true_eq]
      refine GB.dec (fun hc182 => hT ?_) (fun hc182 => hF ?_)
      ·
       clear hT hF KT KF
       have f8 : (gt (gt L i) j = UInt8.ofNat 32) = True := eq_true ((toks_cov (gt L i)).tail j hj.1 hc182)
       refine Tr.skip ?_
       refine hK44 _ ?_
       clear hK44 K44
       refine Tr.kp [9, 10, 11, 12, 16] ?_
       simp only [pk_cons, pk_nil, ↓A_cons, ↓reduceIte, Nat.reduceEqDiff, reduceCtorEq]
       refine Tr.seqK fun K46 hK46 => ?_
       refine Tr.blk ?_
       refine Tr.seqK fun K47 hK47 => ?_
       -- region 26 (law.go:137)
       refine Tr.rg hcx [] _ [] rfl rfl rfl ?_
       simp -implicitDefEqProofs (maxSteps := 2000000) (disch := first | omega | (simp only [go_sem, List.length_append, List.length_drop, List.length_take, hb1, hb2] <;> omega) | decide) only [go_sem, ↓reduceIte, Nat.reduceEqDiff, reduceCtorEq, Nat.reduceLT, Nat.reduceBEq, Nat.reduceAdd, Nat.reduceSub, Nat.reduceMul, Nat.reduceMod, Int.reduceMod, Int.reduceToNat, Int.reduceNeg, e11, h12, h14, h18, h20n, eq_self, decide_true, decide_false, not_true_eq_false, not_false_eq_true, f8]
       refine hK47 _ ?_
       clear hK47 K47
       refine Tr.kp [9, 10, 11, 12, 16, 188] ?_
       simp only [pk_cons, pk_nil, ↓A_cons, ↓reduceIte, Nat.reduceEqDiff, reduceCtorEq]
       refine Tr.condG fun KT KF hT hF => ?_
       simp only [ev_tmp, ev_const, ↓A_cons, ↓reduceIte, Nat.reduceEqDiff, reduceCtorEq, condG_bool, GB_true, GB_false, decide_eq_true_eq]
       refine hF ?_
       clear hT hF KT KF
       refine Tr.skip ?_
       refine hK46 _ ?_
       clear hK46 K46
       refine Tr.kp [9, 10, 11, 12, 16] ?_
       simp only [pk_cons, pk_nil, ↓A_cons, ↓reduceIte, Nat.reduceEqDiff, reduceCtorEq]
       -- region 25 (law.go:136)
       refine Tr.rg hcx [1000184] _ [] rfl rfl rfl ?_
       simp -implicitDefEqProofs (maxSteps := 2000000) (disch := first | omega | (simp only [go_sem, List.length_append, List.length_drop, List.length_take, hb1, hb2] <;> omega) | decide) only [go_sem, ↓reduceIte, Nat.reduceEqDiff, reduceCtorEq, Nat.reduceLT, Nat.reduceBEq, Nat.reduceAdd, Nat.reduceSub, Nat.reduceMul, Nat.reduceMod, Int.reduceMod, Int.reduceToNat, Int.reduceNeg, e11, h12, h14, h18, h20n, eq_self, decide_true, decide_false, not_true_eq_false, not_false_eq_true]
       refine ⟨j + 1, ⟨by omega, by first | omega | (simp only []; omega)⟩, ?_, rfl⟩
       (simp only [Le_nil, Le_cons, ↓A_cons, ↓reduceIte, Nat.reduceEqDiff, reduceCtorEq, CLe_refl, CLe_top, CLe_full, CLe_nil, CLe_own, and_true, true_and]; all_goals (repeat' first | exact CLe.refl _ | exact True.intro | (refine CLe_sln ?_; first | with_reducible rfl | (simp only [List.take_zero]; done) | (rfl; done)) | exact CLe_nI (by omega) | exact CLe_int (by omega) | exact CLe_inI (by omega) | exact CLe_nIi (by omega) | with_reducible apply And.intro))
      ·
       clear hT hF KT KF
       refine Tr.exit ?_
       refine hK42 _ ?_
       clear hK44 K44 hK42 K42
       refine Tr.kp [9, 10, 11, 12] ?_
       simp only [pk_cons, pk_nil, ↓A_cons, ↓reduceIte, Nat.reduceEqDiff, reduceCtorEq]
       refine Tr.seqK fun K48 hK48 => ?_
       by_cases b7 : validE (gt L i) = 0
       ·
        have b8 := part_all b7
        -- region 28 (law.go:141)
        refine Tr.rg hcx [] [some 189, some 190, some 191, some 192, some 193, some 194, some 195, some 196, some 197, some 198, some 199] [] rfl rfl rfl ?_
        simp -implicitDefEqProofs (maxSteps := 2000000) (disch := first | omega | (simp only [go_sem, List.length_append, List.length_drop, List.length_take, hb1, hb2] <;> omega) | decide) only [go_sem, ↓reduceIte, Nat.reduceEqDiff, reduceCtorEq, Nat.reduceLT, Nat.reduceBEq, Nat.reduceAdd, Nat.reduceSub, Nat.reduceMul, Nat.reduceMod, Int.reduceMod, Int.reduceToNat, Int.reduceNeg, e11, h12, h14, h18, h20n, eq_self, decide_true, decide_false, not_true_eq_false, not_false_eq_true, b7, b8]
        refine hK48 _ ?_
        clear hK48 K48
        refine Tr.kp [9, 10, 199] ?_
        simp only [pk_cons, pk_nil, ↓A_cons, ↓reduceIte, Nat.reduceEqDiff, reduceCtorEq]
        refine Tr.condG fun KT KF hT hF => ?_
        simp only [ev_tmp, ev_const, ↓A_cons, ↓reduceIte, Nat.reduceEqDiff, reduceCtorEq, condG_bool, GB_true, GB_false, decide_eq_true_eq]
        refine hF ?_
        clear hT hF KT KF
        refine Tr.skip ?_
        refine hK7 _ ?_
        clear hK7 K7
        refine Tr.kp [9, 10] ?_
        simp only [pk_cons, pk_nil, ↓A_cons, ↓reduceIte, Nat.reduceEqDiff, reduceCtorEq]
        -- region 4 (law.go:115)
        refine Tr.rg hcx [1000027] _ [] rfl rfl rfl ?_
        simp -implicitDefEqProofs (maxSteps := 2000000) (disch := first | omega | (simp only [go_sem, List.length_append, List.length_drop, List.length_take, hb1, hb2] <;> omega) | decide) only [go_sem, ↓reduceIte, Nat.reduceEqDiff, reduceCtorEq, Nat.reduceLT, Nat.reduceBEq, Nat.reduceAdd, Nat.reduceSub, Nat.reduceMul, Nat.reduceMod, Int.reduceMod, Int.reduceToNat, Int.reduceNeg, e11, h12, h14, h18, h20n, eq_self, decide_true, decide_false, not_true_eq_false, not_false_eq_true, b7]
        refine ⟨i + 1, ⟨by omega, by first | omega | (simp only []; omega)⟩, ?_, rfl⟩
        (simp only [Le_nil, Le_cons, ↓A_cons, ↓reduceIte, Nat.reduceEqDiff, reduceCtorEq, CLe_refl, CLe_top, CLe_full, CLe_nil, CLe_own, and_true, true_and]; all_goals (repeat' first | exact CLe.refl _ | exact True.intro | (refine CLe_sln ?_; first | with_reducible rfl | (simp only [List.take_zero]; done) | (rfl; done)) | exact CLe_nI (by omega) | exact CLe_int (by omega) | exact CLe_inI (by omega) | exact CLe_nIi (by omega) | with_reducible apply And.intro))
       ·
        have b8 := True.intro
        -- region 28 (law.go:141)
        refine Tr.rg hcx [] [some 189, some 190, some 191, some 192, some 193, some 194, some 195, some 196, some 197, some 198, some 199] [] rfl rfl rfl ?_
        simp -implicitDefEqProofs (maxSteps := 2000000) (disch := first | omega | (simp only [go_sem, List.length_append, List.length_drop, List.length_take, hb1, hb2] <;> omega) | decide) only [go_sem, ↓reduceIte, Nat.reduceEqDiff, reduceCtorEq, Nat.reduceLT, Nat.reduceBEq, Nat.reduceAdd, Nat.reduceSub, Nat.reduceMul, Nat.reduceMod, Int.reduceMod, Int.reduceToNat, Int.reduceNeg, e11, h12, h14, h18, h20n, eq_self, decide_true, decide_false, not_true_eq_false, not_false_eq_true, b7, b8]
        refine hK48 _ ?_
        clear hK48 K48
        refine Tr.kp [9, 10, 199] ?_
        simp only [pk_cons, pk_nil, ↓A_cons, ↓reduceIte, Nat.reduceEqDiff, reduceCtorEq]
        refine Tr.condG fun KT KF hT hF => ?_
        simp only [ev_tmp, ev_const, ↓A_cons, ↓reduceIte, Nat.reduceEqDiff, reduceCtorEq, condG_bool, GB_true, GB_false, decide_eq_true_eq]
        refine hF ?_
        clear hT hF KT KF
        refine Tr.skip ?_
        refine hK7 _ ?_
        clear hK7 K7
        refine Tr.kp [9, 10] ?_
        simp only [pk_cons, pk_nil, ↓A_cons, ↓reduceIte, Nat.reduceEqDiff, reduceCtorEq]
        -- region 4 (law.go:115)
        refine Tr.rg hcx [1000027] _ [] rfl rfl rfl ?_
        simp -implicitDefEqProofs (maxSteps := 2000000) (disch := first | omega | (simp only [go_sem, List.length_append, List.length_drop, List.length_take, hb1, hb2] <;> omega) | decide) only [go_sem, ↓reduceIte, Nat.reduceEqDiff, reduceCtorEq, Nat.reduceLT, Nat.reduceBEq, Nat.reduceAdd, Nat.reduceSub, Nat.reduceMul, Nat.reduceMod, Int.reduceMod, Int.reduceToNat, Int.reduceNeg, e11, h12, h14, h18, h20n, eq_self, decide_true, decide_false, not_true_eq_false, not_false_eq_true, b7]
        refine ⟨i + 1, ⟨by omega, by first | omega | (simp only []; omega)⟩, ?_, rfl⟩
        (simp only [Le_nil, Le_cons, ↓A_cons, ↓reduceIte, Nat.reduceEqDiff, reduceCtorEq, CLe_refl, CLe_top, CLe_full, CLe_nil, CLe_own, and_true, true_and]; all_goals (repeat' first | exact CLe.refl _ | exact True.intro | (refine CLe_sln ?_; first | with_reducible rfl | (simp only [List.take_zero]; done) | (rfl; done)) | exact CLe_nI (by omega) | exact CLe_int (by omega) | exact CLe_inI (by omega) | exact CLe_nIi (by omega) | with_reducible apply And.intro))
  ·
   clear hT hF KT KF
   refine Tr.exit ?_
   refine hK3 _ ?_
   clear hK5 K5 hK3 K3
   refine Tr.kp [] ?_
   simp only [pk_cons, pk_nil, ↓A_cons, ↓reduceIte, Nat.reduceEqDiff, reduceCtorEq]
   refine Tr.seqK fun K49 hK49 => ?_
   -- region 30 (law.go:145)
   refine Tr.rg hcx [1000200] _ [] rfl rfl rfl ?_
   simp -implicitDefEqProofs (maxSteps := 2000000) (disch := first | omega | (simp only [go_sem, List.length_append, List.length_drop, List.length_take, hb1, hb2] <;> omega) | decide) only [go_sem, ↓reduceIte, Nat.reduceEqDiff, reduceCtorEq, Nat.reduceLT, Nat.reduceBEq, Nat.reduceAdd, Nat.reduceSub, Nat.reduceMul, Nat.reduceMod, Int.reduceMod, Int.reduceToNat, Int.reduceNeg, e11, h12, h14, h18, h20n, eq_self, decide_true, decide_false, not_true_eq_false, not_false_eq_true]
   refine hK49 _ ?_
   clear hK49 K49
   refine Tr.kp [8] ?_
   simp only [pk_cons, pk_nil, ↓A_cons, ↓reduceIte, Nat.reduceEqDiff, reduceCtorEq]
   refine Tr.ret ?_
   simp -implicitDefEqProofs (disch := first | omega | (simp only [go_sem, List.length_append, List.length_drop, List.length_take, hb1, hb2] <;> omega) | decide) only [go_sem, ↓reduceIte, Nat.reduceEqDiff, reduceCtorEq]
   all_goals (rfl)
end Go.Sx
