/-
  Package token: the law of Split. And what follows.
-/
import Derived.Test.YtmeplkkhnpcldaaPav
set_option linter.unusedSimpArgs false
set_option linter.unusedVariables false
namespace Go.Sx
open Go.RowKit Go.Proofs
instance : Inhabited (Int × Int) := ⟨(0, 0)⟩
/-- Pairs of whole numbers. -/
def pI (p : Int × Int) : List C := [.val (.int .i64 p.1), .val (.int .i64 p.2)]
instance : Cel pI 2 := ⟨fun _ => rfl, fun _ => rfl, by decide, fun _ _ => rfl⟩
instance : Fla pI := ⟨fun _ => rfl⟩
theorem lay1_pII (a b : Int) : lay1 (cl nC (List.replicate 2 0)) [(0, .val (.int .i64 a)), (1, .val (.int .i64 b))] = some (vp (.agg (pI (a, b)))) := rfl
theorem lay1_pIN (a : Int) (b : Nat) : lay1 (cl nC (List.replicate 2 0)) [(0, .val (.int .i64 a)), (1, .val (nI b))] = some (vp (.agg (pI (a, b)))) := rfl
theorem n_subZ (P : Program) (t : TypeId) (x y : Nat) (h : x < 9223372036854775808 ∧ y < 9223372036854775808) : binPlan P .sub t (.val (nI x)) (.val (nI y)) = some (vp (.val (.int .i64 ((x : Int) - y)))) := i_sub P t x y (by omega)
theorem bsA_pairs5 (u : TypeDesc) (y : Nat) (p q r : Int × Int) (a b : Nat × Nat) : bsA (some ⟨u, 2, y, List.replicate 2 (nI 0)⟩) 5 [(0, .agg (pI p)), (1, .agg (pI q)), (2, .agg (pC a)), (3, .agg (pI r)), (4, .agg (pC b))] = some (vp (sl pI .full [p, q, ((a.1 : Int), (a.2 : Int)), r, ((b.1 : Int), (b.2 : Int))])) := by
  unfold bsA
  simp only []
  rw [if_pos ⟨by decide, by decide, rfl, rfl⟩]
  rfl
theorem rdc_pI (l : List (Int × Int)) (k : Nat) (h : k < l.length) : rdc ((cl pI l).drop (k * 2)) 0 = some (.val (.int .i64 (gt l k).1)) := by
  rw [rdc_drop]
  unfold rdc
  have e : gt l k = l[k] := by simp [gt, List.getD, List.getElem?_eq_getElem h]
  rw [show k * 2 + 0 = k * 2 + 0 from rfl, cl_getq (f := pI) l k 0 (by decide), List.getElem?_eq_getElem h, e]
  rfl
theorem rdc_pI1 (l : List (Int × Int)) (k : Nat) (h : k < l.length) : rdc (((cl pI l).drop (k * 2)).drop 1) 0 = some (.val (.int .i64 (gt l k).2)) := by
  rw [List.drop_drop, rdc_drop]
  unfold rdc
  have e : gt l k = l[k] := by simp [gt, List.getD, List.getElem?_eq_getElem h]
  rw [show k * 2 + 1 + 0 = k * 2 + 1 from rfl, cl_getq (f := pI) l k 1 (by decide), List.getElem?_eq_getElem h, e]
  rfl
theorem forall5 {α : Type} [Inhabited α] (p : α → Prop) (a b c d e : α) (h : p a ∧ p b ∧ p c ∧ p d ∧ p e) : ∀ i, i < [a, b, c, d, e].length → p (gt [a, b, c, d, e] i) := by
  obtain ⟨h1, h2, h3, h4, h5⟩ := h
  intro i hi
  match i, hi with
  | 0, _ => exact h1
  | 1, _ => exact h2
  | 2, _ => exact h3
  | 3, _ => exact h4
  | 4, _ => exact h5
attribute [go_sem high] lay1_pII lay1_pIN bsA_pairs5 rdc_pI rdc_pI1
set_option maxRecDepth 100000 in
set_option maxHeartbeats 8000000 in
theorem fc4 {gl : Nat → C} {M : Nat} {pu : Nat → List C → Option C}  (hcx : CxOK (cxP gl M pu)) (h11 : ∀ (l : List Int) (how by' : Int) (raw : List UInt8) (most : Int), LI l → (-9223372036854775808 ≤ how ∧ how ≤ 9223372036854775807) → (-9223372036854775808 ≤ by' ∧ by' ≤ 9223372036854775807) → raw.length ≤ 9223372036854775807 → pu 11 [sl iC .no l, .val (.int .i64 how), .val (.int .i64 by'), .val (str raw), .val (.int .i64 most)] = some (sl sC .no (textsT l how by' raw most))) (h14 : pu 14 [] = some (.val (.bool true))) (h15 : ∀ s : List UInt8, s.length ≤ 1000000 → pu 15 [.val (str s)] = some (sl tC .no (toks s))) (h16 : ∀ x y : List Tok, x.length < 9223372036854775807 → pu 16 [sl tC .no x, sl tC .no y] = some (.val (.bool (decide (x = y))))) (h17 : ∀ l : List Tok, l.length ≤ 1000000 → pu 17 [sl tC .no l] = some (sl tC (.own 3) l)) (h18 : ∀ s : List UInt8, s.length ≤ 1000000 → pu 18 [.val (str s)] = some (sl tC (.own 3) (toks s))) (h19 : ∀ (n : Int) (m : Nat), -9223372036854775808 ≤ n ∧ n ≤ 9223372036854775807 ∧ 0 < m ∧ m ≤ 9223372036854775807 → pu 19 [.val (.int .i64 n), .val (nI m)] = some (.val (nI (aroundI n m)))) (h20 : ∀ (s : List UInt8) (f t : Int), s.length ≤ 1000000 → -9223372036854775808 ≤ f ∧ f ≤ 9223372036854775807 → -9223372036854775808 ≤ t ∧ t ≤ 9223372036854775807 → pu 20 [.val (str s), .val (.int .i64 f), .val (.int .i64 t)] = some (.val (str (part s f t)))) (h21 : ∀ (s : List UInt8) (f t : Int), s.length ≤ 1000000 → -9223372036854775808 ≤ f ∧ f ≤ 9223372036854775807 → -9223372036854775808 ≤ t ∧ t ≤ 9223372036854775807 → pu 21 [.val (str s), .val (.int .i64 f), .val (.int .i64 t)] = some (.val (str (part s f t)))) (l : List Int) (how by' : Int) (raw : List UInt8) (hl : LI l) (hw : -9223372036854775808 ≤ how ∧ how ≤ 9223372036854775807) (hy : -9223372036854775808 ≤ by' ∧ by' ≤ 9223372036854775807) (hraw : raw.length ≤ 9223372036854775807) (f t : Int) (hf : -9223372036854775808 ≤ f ∧ f ≤ 9223372036854775807) (ht : -9223372036854775808 ≤ t ∧ t ≤ 9223372036854775807) : FC Try.prog gl 4 [sl iC .no l, .val (.int .i64 how), .val (.int .i64 by'), .val (str raw), .val (.int .i64 f), .val (.int .i64 t)] [] (.val (.bool true)) [] := by
 replace hcx := hcx.reN (M := 100)
 refine FC.ofA (cx := cxP gl 100 pu) (rs := [.tmp 12]) rfl Try.func4 rfl rfl rfl (by simp only [List.length_cons, List.length_nil]; decide) (by simp only [go_sem]) ?_
 simp only [ini, go_sem]
 obtain ⟨L, hL6, hL0, hL, e11⟩ : ∃ L : List (List UInt8), L.length ≤ 6 ∧ 0 < L.length ∧ (∀ i, i < L.length → (gt L i).length ≤ 10000) ∧ pu 11 [sl iC .no l, .val (.int .i64 how), .val (.int .i64 by'), .val (str raw), .val (nI 600)] = some (sl sC .no L) :=
   ⟨textsT l how by' raw 600, (texts_le l how by' raw 600 (by decide)).1, (texts_le l how by' raw 600 (by decide)).2.1, (texts_le l how by' raw 600 (by decide)).2.2, h11 l how by' raw 600 hl hw hy hraw⟩
 have hb1 := True.intro
 have hb6 := True.intro
 refine Tr.seqK fun K1 hK1 => ?_
 -- region 0 (law.go:60)
 refine Tr.rg hcx [] _ [] rfl rfl rfl ?_
 simp -implicitDefEqProofs (maxSteps := 2000000) (disch := first | omega | (simp only [go_sem, List.length_append, List.length_drop, List.length_take, hb1, hb6] <;> omega) | decide) only [go_sem, ↓reduceIte, Nat.reduceEqDiff, reduceCtorEq, Nat.reduceLT, Nat.reduceBEq, Nat.reduceAdd, Nat.reduceSub, Nat.reduceMul, Nat.reduceMod, Int.reduceMod, Int.reduceToNat, Int.reduceNeg, e11, h14, h15, h16, h17, h18, h19, h20, h21, List.drop_zero, eq_self, decide_true, decide_false, not_true_eq_false, not_false_eq_true]
 refine hK1 _ ?_
 clear hK1 K1
 refine Tr.kp [0, 1, 2, 3, 4, 5] ?_
 simp only [pk_cons, pk_nil, ↓A_cons, ↓reduceIte, Nat.reduceEqDiff, reduceCtorEq]
 refine Tr.seqK fun K2 hK2 => ?_
 -- region 1 (law.go:61)
 refine Tr.rg hcx [1000024] _ [] rfl rfl rfl ?_
 simp -implicitDefEqProofs (maxSteps := 2000000) (disch := first | omega | (simp only [go_sem, List.length_append, List.length_drop, List.length_take, hb1, hb6] <;> omega) | decide) only [go_sem, ↓reduceIte, Nat.reduceEqDiff, reduceCtorEq, Nat.reduceLT, Nat.reduceBEq, Nat.reduceAdd, Nat.reduceSub, Nat.reduceMul, Nat.reduceMod, Int.reduceMod, Int.reduceToNat, Int.reduceNeg, e11, h14, h15, h16, h17, h18, h19, h20, h21, List.drop_zero, eq_self, decide_true, decide_false, not_true_eq_false, not_false_eq_true]
 refine hK2 _ ?_
 clear hK2 K2
 refine Tr.kp [4, 5, 13] ?_
 simp only [pk_cons, pk_nil, ↓A_cons, ↓reduceIte, Nat.reduceEqDiff, reduceCtorEq]
 refine Tr.seqK fun K3 hK3 => ?_
 refine Tr.seqK fun K4 hK4 => ?_
 -- region 2 (law.go:62)
 refine Tr.rg hcx [] _ [] rfl rfl rfl ?_
 simp -implicitDefEqProofs (maxSteps := 2000000) (disch := first | omega | (simp only [go_sem, List.length_append, List.length_drop, List.length_take, hb1, hb6] <;> omega) | decide) only [go_sem, ↓reduceIte, Nat.reduceEqDiff, reduceCtorEq, Nat.reduceLT, Nat.reduceBEq, Nat.reduceAdd, Nat.reduceSub, Nat.reduceMul, Nat.reduceMod, Int.reduceMod, Int.reduceToNat, Int.reduceNeg, e11, h14, h15, h16, h17, h18, h19, h20, h21, List.drop_zero, eq_self, decide_true, decide_false, not_true_eq_false, not_false_eq_true]
 refine hK4 _ ?_
 clear hK4 K4
 refine Tr.kp [4, 5, 13, 14] ?_
 simp only [pk_cons, pk_nil, ↓A_cons, ↓reduceIte, Nat.reduceEqDiff, reduceCtorEq]
 refine Tr.blk ?_
 refine Tr.loopI (α := Nat) (fun a => [(4, ?v4_8), (5, ?v5_8), (13, ?v13_8), (14, .val (nI a))]) (fun a => ?h_8) (fun a => a ≤ L.length) (fun a => L.length - a) (0) ?_ ?le_8 ?hh_8 ?bd_8
 case hh_8 => exact rfl
 case le_8 => (simp only [Le_nil, Le_cons, ↓A_cons, ↓reduceIte, Nat.reduceEqDiff, reduceCtorEq, CLe_refl, CLe_top, CLe_full, CLe_nil, CLe_own, and_true, true_and]; all_goals (repeat' first | exact CLe.refl _ | exact True.intro | (refine CLe_sln ?_; first | with_reducible rfl | (simp only [List.take_zero]; done) | (rfl; done)) | exact CLe_nI (by omega) | exact CLe_int (by omega) | exact CLe_inI (by omega) | exact CLe_nIi (by omega) | with_reducible apply And.intro))
 · omega
 case bd_8 =>
  rintro i hi
  refine Tr.seqK fun K5 hK5 => ?_
  refine Tr.seqK fun K6 hK6 => ?_
  -- region 3 (law.go:62)
  refine Tr.rg hcx [] _ [] rfl rfl rfl ?_
  simp -implicitDefEqProofs (maxSteps := 2000000) (disch := first | omega | (simp only [go_sem, List.length_append, List.length_drop, List.length_take, hb1, hb6] <;> omega) | decide) only [go_sem, ↓reduceIte, Nat.reduceEqDiff, reduceCtorEq, Nat.reduceLT, Nat.reduceBEq, Nat.reduceAdd, Nat.reduceSub, Nat.reduceMul, Nat.reduceMod, Int.reduceMod, Int.reduceToNat, Int.reduceNeg, e11, h14, h15, h16, h17, h18, h19, h20, h21, List.drop_zero, eq_self, decide_true, decide_false, not_true_eq_false, not_false_eq_true]
  refine hK6 _ ?_
  clear hK6 K6
  refine Tr.kp [4, 5, 13, 14, 28] ?_
  simp only [pk_cons, pk_nil, ↓A_cons, ↓reduceIte, Nat.reduceEqDiff, reduceCtorEq]
  refine Tr.condG fun KT KF hT hF => ?_
  simp only [ev_tmp, ev_const, ↓A_cons, ↓reduceIte, Nat.reduceEqDiff, reduceCtorEq, condG_bool, GB_true, GB_false, decide_eq_true_eq]
  refine GB.dec (fun hc28 => hT ?_) (fun hc28 => hF ?_)
  ·
   clear hT hF KT KF
   have hb1 := hL i hc28
   have hb3 := toks_len (gt L i)
   have hb4 := around_lt f (m := (toks (gt L i)).length + 2) (by omega)
   have hb5 := around_lt t (m := (toks (gt L i)).length + 2) (by omega)
   refine Tr.skip ?_
   refine hK5 _ ?_
   clear hK5 K5
   refine Tr.kp [4, 5, 13, 14] ?_
   simp only [pk_cons, pk_nil, ↓A_cons, ↓reduceIte, Nat.reduceEqDiff, reduceCtorEq]
   refine Tr.seqK fun K7 hK7 => ?_
   refine Tr.blk ?_
   refine Tr.seqK fun K8 hK8 => ?_
   -- region 5 (law.go:63)
   refine Tr.rg hcx [1000034] _ [] rfl rfl rfl ?_
   simp -implicitDefEqProofs (maxSteps := 2000000) (disch := first | omega | (simp only [go_sem, List.length_append, List.length_drop, List.length_take, hb1, hb6] <;> omega) | decide) only [go_sem, ↓reduceIte, Nat.reduceEqDiff, reduceCtorEq, Nat.reduceLT, Nat.reduceBEq, Nat.reduceAdd, Nat.reduceSub, Nat.reduceMul, Nat.reduceMod, Int.reduceMod, Int.reduceToNat, Int.reduceNeg, e11, h14, h15, h16, h17, h18, h19, h20, h21, List.drop_zero, eq_self, decide_true, decide_false, not_true_eq_false, not_false_eq_true]
   refine hK8 _ ?_
   clear hK8 K8
   refine Tr.kp [4, 5, 13, 14, 15] ?_
   simp only [pk_cons, pk_nil, ↓A_cons, ↓reduceIte, Nat.reduceEqDiff, reduceCtorEq]
   refine Tr.seqK fun K9 hK9 => ?_
   -- region 6 (law.go:64)
   refine Tr.rg hcx [1000036] _ [] rfl rfl rfl ?_
   simp -implicitDefEqProofs (maxSteps := 2000000) (disch := first | omega | (simp only [go_sem, List.length_append, List.length_drop, List.length_take, hb1, hb6] <;> omega) | decide) only [go_sem, ↓reduceIte, Nat.reduceEqDiff, reduceCtorEq, Nat.reduceLT, Nat.reduceBEq, Nat.reduceAdd, Nat.reduceSub, Nat.reduceMul, Nat.reduceMod, Int.reduceMod, Int.reduceToNat, Int.reduceNeg, e11, h14, h15, h16, h17, h18, h19, h20, h21, List.drop_zero, eq_self, decide_true, decide_false, not_true_eq_false, not_false_eq_true]
   refine hK9 _ ?_
   clear hK9 K9
   refine Tr.kp [4, 5, 13, 14, 15, 16] ?_
   simp only [pk_cons, pk_nil, ↓A_cons, ↓reduceIte, Nat.reduceEqDiff, reduceCtorEq]
   refine Tr.seqK fun K10 hK10 => ?_
   refine Tr.seqK fun K11 hK11 => ?_
   -- region 7 (law.go:65)
   refine Tr.rg hcx [] _ [] rfl rfl rfl ?_
   simp -implicitDefEqProofs (maxSteps := 2000000) (disch := first | omega | (simp only [go_sem, List.length_append, List.length_drop, List.length_take, hb1, hb6] <;> omega) | decide) only [go_sem, ↓reduceIte, Nat.reduceEqDiff, reduceCtorEq, Nat.reduceLT, Nat.reduceBEq, Nat.reduceAdd, Nat.reduceSub, Nat.reduceMul, Nat.reduceMod, Int.reduceMod, Int.reduceToNat, Int.reduceNeg, e11, h14, h15, h16, h17, h18, h19, h20, h21, List.drop_zero, eq_self, decide_true, decide_false, not_true_eq_false, not_false_eq_true]
   refine hK11 _ ?_
   clear hK11 K11
   refine Tr.kp [4, 5, 13, 14, 15, 16, 42] ?_
   simp only [pk_cons, pk_nil, ↓A_cons, ↓reduceIte, Nat.reduceEqDiff, reduceCtorEq]
   refine Tr.condG fun KT KF hT hF => ?_
   simp only [ev_tmp, ev_const, ↓A_cons, ↓reduceIte, Nat.reduceEqDiff, reduceCtorEq, condG_bool, GB_true, GB_false, decide_eq_true_eq]
   refine hF ?_
   clear hT hF KT KF
   refine Tr.skip ?_
   refine hK10 _ ?_
   clear hK10 K10
   refine Tr.kp [4, 5, 13, 14, 15, 16] ?_
   simp only [pk_cons, pk_nil, ↓A_cons, ↓reduceIte, Nat.reduceEqDiff, reduceCtorEq]
   refine Tr.seqK fun K12 hK12 => ?_
   -- region 9 (law.go:68)
   refine Tr.rg hcx [1000044] _ [] rfl rfl rfl ?_
   simp -implicitDefEqProofs (maxSteps := 2000000) (disch := first | omega | (simp only [go_sem, List.length_append, List.length_drop, List.length_take, hb1, hb6] <;> omega) | decide) only [go_sem, ↓reduceIte, Nat.reduceEqDiff, reduceCtorEq, Nat.reduceLT, Nat.reduceBEq, Nat.reduceAdd, Nat.reduceSub, Nat.reduceMul, Nat.reduceMod, Int.reduceMod, Int.reduceToNat, Int.reduceNeg, e11, h14, h15, h16, h17, h18, h19, h20, h21, List.drop_zero, eq_self, decide_true, decide_false, not_true_eq_false, not_false_eq_true]
   refine hK12 _ ?_
   clear hK12 K12
   refine Tr.kp [4, 5, 13, 14, 15, 17] ?_
   simp only [pk_cons, pk_nil, ↓A_cons, ↓reduceIte, Nat.reduceEqDiff, reduceCtorEq]
   refine Tr.seqJ (α := (List (Int × Int))) (fun a => [(4, ?v4_31), (5, ?v5_31), (13, ?v13_31), (14, ?v14_31), (15, ?v15_31), (18, sl pI .no a)]) (fun a => []) (fun a => a.length = 5 ∧ ∀ k, k < a.length → (fun p : Int × Int => (-9223372036854775808 ≤ p.1 ∧ p.1 ≤ 9223372036854775807) ∧ (-9223372036854775808 ≤ p.2 ∧ p.2 ≤ 9223372036854775807)) (gt a k)) ?ja_31 ?jb_31
   case ja_31 =>
    -- region 10 (law.go:69)
    refine Tr.rg hcx [1000067] _ [] rfl rfl rfl ?_
    simp -implicitDefEqProofs (maxSteps := 2000000) (disch := first | omega | (simp only [go_sem, List.length_append, List.length_drop, List.length_take, hb1, hb6] <;> omega) | decide) only [go_sem, ↓reduceIte, Nat.reduceEqDiff, reduceCtorEq, Nat.reduceLT, Nat.reduceBEq, Nat.reduceAdd, Nat.reduceSub, Nat.reduceMul, Nat.reduceMod, Int.reduceMod, Int.reduceToNat, Int.reduceNeg, e11, h14, h15, h16, h17, h18, h19, h20, h21, List.drop_zero, eq_self, decide_true, decide_false, not_true_eq_false, not_false_eq_true, n_subZ]
    refine ⟨[(f, t), ((aroundI f ((toks (gt L i)).length + 2) : Int) - 1, (aroundI t ((toks (gt L i)).length + 2) : Int)), (0, ((toks (gt L i)).length : Int)), (((toks (gt L i)).length : Int) - 1, ((toks (gt L i)).length : Int)), (0, (((toks (gt L i)).length + 1 : Nat) : Int))], ⟨rfl, forall5 (fun p : Int × Int => (-9223372036854775808 ≤ p.1 ∧ p.1 ≤ 9223372036854775807) ∧ (-9223372036854775808 ≤ p.2 ∧ p.2 ≤ 9223372036854775807)) _ _ _ _ _ ⟨⟨hf, ht⟩, ⟨by simp only []; omega, by simp only []; omega⟩, ⟨by simp only []; omega, by simp only []; omega⟩, ⟨by simp only []; omega, by simp only []; omega⟩, ⟨by simp only []; omega, by simp only []; omega⟩⟩⟩, ?_, rfl⟩
    (simp only [Le_nil, Le_cons, ↓A_cons, ↓reduceIte, Nat.reduceEqDiff, reduceCtorEq, CLe_refl, CLe_top, CLe_full, CLe_nil, CLe_own, and_true, true_and]; all_goals (repeat' first | exact CLe.refl _ | exact True.intro | (refine CLe_sln ?_; first | with_reducible rfl | (simp only [List.take_zero]; done) | (rfl; done)) | exact CLe_nI (by omega) | exact CLe_int (by omega) | exact CLe_inI (by omega) | exact CLe_nIi (by omega) | with_reducible apply And.intro))
    all_goals exact CLe_fno _ _
   case jb_31 =>
    rintro PP ⟨hP5, hP⟩
    refine Tr.seqK fun K13 hK13 => ?_
    -- region 11 (law.go:70)
    refine Tr.rg hcx [] _ [] rfl rfl rfl ?_
    simp -implicitDefEqProofs (maxSteps := 2000000) (disch := first | omega | (simp only [go_sem, List.length_append, List.length_drop, List.length_take, hb1, hb6] <;> omega) | decide) only [go_sem, ↓reduceIte, Nat.reduceEqDiff, reduceCtorEq, Nat.reduceLT, Nat.reduceBEq, Nat.reduceAdd, Nat.reduceSub, Nat.reduceMul, Nat.reduceMod, Int.reduceMod, Int.reduceToNat, Int.reduceNeg, e11, h14, h15, h16, h17, h18, h19, h20, h21, List.drop_zero, eq_self, decide_true, decide_false, not_true_eq_false, not_false_eq_true]
    refine hK13 _ ?_
    clear hK13 K13
    refine Tr.kp [4, 5, 13, 14, 15, 18, 19] ?_
    simp only [pk_cons, pk_nil, ↓A_cons, ↓reduceIte, Nat.reduceEqDiff, reduceCtorEq]
    refine Tr.blk ?_
    refine Tr.loopI (α := Nat) (fun a => [(4, ?v4_36), (5, ?v5_36), (13, ?v13_36), (14, ?v14_36), (15, ?v15_36), (18, ?v18_36), (19, .val (nI a))]) (fun a => ?h_36) (fun a => a ≤ PP.length) (fun a => PP.length - a) (0) ?_ ?le_36 ?hh_36 ?bd_36
    case hh_36 => exact rfl
    case le_36 => (simp only [Le_nil, Le_cons, ↓A_cons, ↓reduceIte, Nat.reduceEqDiff, reduceCtorEq, CLe_refl, CLe_top, CLe_full, CLe_nil, CLe_own, and_true, true_and]; all_goals (repeat' first | exact CLe.refl _ | exact True.intro | (refine CLe_sln ?_; first | with_reducible rfl | (simp only [List.take_zero]; done) | (rfl; done)) | exact CLe_nI (by omega) | exact CLe_int (by omega) | exact CLe_inI (by omega) | exact CLe_nIi (by omega) | with_reducible apply And.intro))
    · omega
    case bd_36 =>
     rintro k hk
     refine Tr.seqK fun K14 hK14 => ?_
     refine Tr.seqK fun K15 hK15 => ?_
     -- region 12 (law.go:70)
     refine Tr.rg hcx [] _ [] rfl rfl rfl ?_
     simp -implicitDefEqProofs (maxSteps := 2000000) (disch := first | omega | (simp only [go_sem, List.length_append, List.length_drop, List.length_take, hb1, hb6] <;> omega) | decide) only [go_sem, ↓reduceIte, Nat.reduceEqDiff, reduceCtorEq, Nat.reduceLT, Nat.reduceBEq, Nat.reduceAdd, Nat.reduceSub, Nat.reduceMul, Nat.reduceMod, Int.reduceMod, Int.reduceToNat, Int.reduceNeg, e11, h14, h15, h16, h17, h18, h19, h20, h21, List.drop_zero, eq_self, decide_true, decide_false, not_true_eq_false, not_false_eq_true]
     refine hK15 _ ?_
     clear hK15 K15
     refine Tr.kp [4, 5, 13, 14, 15, 18, 19, 71] ?_
     simp only [pk_cons, pk_nil, ↓A_cons, ↓reduceIte, Nat.reduceEqDiff, reduceCtorEq]
     refine Tr.condG fun KT KF hT hF => ?_
     simp only [ev_tmp, ev_const, ↓A_cons, ↓reduceIte, Nat.reduceEqDiff, reduceCtorEq, condG_bool, GB_true, GB_false, decide_eq_true_eq]
     refine GB.dec (fun hc71 => hT ?_) (fun hc71 => hF ?_)
     ·
      clear hT hF KT KF
      have hb6 := hP k hc71
      simp only [] at hb6
      refine Tr.skip ?_
      refine hK14 _ ?_
      clear hK14 K14
      refine Tr.kp [4, 5, 13, 14, 15, 18, 19] ?_
      simp only [pk_cons, pk_nil, ↓A_cons, ↓reduceIte, Nat.reduceEqDiff, reduceCtorEq]
      refine Tr.seqK fun K16 hK16 => ?_
      refine Tr.blk ?_
      refine Tr.seqK fun K17 hK17 => ?_
      -- region 14 (law.go:71)
      refine Tr.rgD hcx hMO [] _ [] rfl rfl rfl rfl ?_
      simp -implicitDefEqProofs (maxSteps := 2000000) (disch := first | omega | (simp only [go_sem, List.length_append, List.length_drop, List.length_take, hb1, hb6] <;> omega) | decide) only [go_sem, ↓reduceIte, Nat.reduceEqDiff, reduceCtorEq, Nat.reduceLT, Nat.reduceBEq, Nat.reduceAdd, Nat.reduceSub, Nat.reduceMul, Nat.reduceMod, Int.reduceMod, Int.reduceToNat, Int.reduceNeg, e11, h14, h15, h16, h17, h18, h19, h20, h21, List.drop_zero, eq_self, decide_true, decide_false, not_true_eq_false, not_false_eq_true]
      with_reducible refine And.intro ?_ ?_
      · exact rfl
      refine hK17 _ ?_
      clear hK17 K17
      refine Tr.kp [4, 5, 13, 14, 15, 18, 19, 98] ?_
      simp only [pk_cons, pk_nil, ↓A_cons, ↓reduceIte, Nat.reduceEqDiff, reduceCtorEq]
      refine Tr.condG fun KT KF hT hF => ?_
      simp only [ev_tmp, ev_const, ↓A_cons, ↓reduceIte, Nat.reduceEqDiff, reduceCtorEq, condG_bool, GB_true, GB_false, decide_eq_true_eq]
      refine hF ?_
      clear hT hF KT KF
      refine Tr.skip ?_
      refine hK16 _ ?_
      clear hK16 K16
      refine Tr.kp [4, 5, 13, 14, 15, 18, 19] ?_
      simp only [pk_cons, pk_nil, ↓A_cons, ↓reduceIte, Nat.reduceEqDiff, reduceCtorEq]
      -- region 13 (law.go:70)
      refine Tr.rg hcx [1000073] _ [] rfl rfl rfl ?_
      simp -implicitDefEqProofs (maxSteps := 2000000) (disch := first | omega | (simp only [go_sem, List.length_append, List.length_drop, List.length_take, hb1, hb6] <;> omega) | decide) only [go_sem, ↓reduceIte, Nat.reduceEqDiff, reduceCtorEq, Nat.reduceLT, Nat.reduceBEq, Nat.reduceAdd, Nat.reduceSub, Nat.reduceMul, Nat.reduceMod, Int.reduceMod, Int.reduceToNat, Int.reduceNeg, e11, h14, h15, h16, h17, h18, h19, h20, h21, List.drop_zero, eq_self, decide_true, decide_false, not_true_eq_false, not_false_eq_true]
      refine ⟨k + 1, ⟨by omega, by first | omega | (simp only []; omega)⟩, ?_, rfl⟩
      (simp only [Le_nil, Le_cons, ↓A_cons, ↓reduceIte, Nat.reduceEqDiff, reduceCtorEq, CLe_refl, CLe_top, CLe_full, CLe_nil, CLe_own, and_true, true_and]; all_goals (repeat' first | exact CLe.refl _ | exact True.intro | (refine CLe_sln ?_; first | with_reducible rfl | (simp only [List.take_zero]; done) | (rfl; done)) | exact CLe_nI (by omega) | exact CLe_int (by omega) | exact CLe_inI (by omega) | exact CLe_nIi (by omega) | with_reducible apply And.intro))
     ·
      clear hT hF KT KF
      refine Tr.exit ?_
      refine hK7 _ ?_
      clear hK14 K14 hK7 K7
      refine Tr.kp [4, 5, 13, 14] ?_
      simp only [pk_cons, pk_nil, ↓A_cons, ↓reduceIte, Nat.reduceEqDiff, reduceCtorEq]
      -- region 4 (law.go:62)
      refine Tr.rg hcx [1000030] _ [] rfl rfl rfl ?_
      simp -implicitDefEqProofs (maxSteps := 2000000) (disch := first | omega | (simp only [go_sem, List.length_append, List.length_drop, List.length_take, hb1, hb6] <;> omega) | decide) only [go_sem, ↓reduceIte, Nat.reduceEqDiff, reduceCtorEq, Nat.reduceLT, Nat.reduceBEq, Nat.reduceAdd, Nat.reduceSub, Nat.reduceMul, Nat.reduceMod, Int.reduceMod, Int.reduceToNat, Int.reduceNeg, e11, h14, h15, h16, h17, h18, h19, h20, h21, List.drop_zero, eq_self, decide_true, decide_false, not_true_eq_false, not_false_eq_true]
      refine ⟨i + 1, ⟨by omega, by first | omega | (simp only []; omega)⟩, ?_, rfl⟩
      (simp only [Le_nil, Le_cons, ↓A_cons, ↓reduceIte, Nat.reduceEqDiff, reduceCtorEq, CLe_refl, CLe_top, CLe_full, CLe_nil, CLe_own, and_true, true_and]; all_goals (repeat' first | exact CLe.refl _ | exact True.intro | (refine CLe_sln ?_; first | with_reducible rfl | (simp only [List.take_zero]; done) | (rfl; done)) | exact CLe_nI (by omega) | exact CLe_int (by omega) | exact CLe_inI (by omega) | exact CLe_nIi (by omega) | with_reducible apply And.intro))
  ·
   clear hT hF KT KF
   refine Tr.exit ?_
   refine hK3 _ ?_
   clear hK5 K5 hK3 K3
   refine Tr.kp [] ?_
   simp only [pk_cons, pk_nil, ↓A_cons, ↓reduceIte, Nat.reduceEqDiff, reduceCtorEq]
   refine Tr.seqK fun K18 hK18 => ?_
   -- region 16 (law.go:76)
   refine Tr.rg hcx [1000099] _ [] rfl rfl rfl ?_
   simp -implicitDefEqProofs (maxSteps := 2000000) (disch := first | omega | (simp only [go_sem, List.length_append, List.length_drop, List.length_take, hb1, hb6] <;> omega) | decide) only [go_sem, ↓reduceIte, Nat.reduceEqDiff, reduceCtorEq, Nat.reduceLT, Nat.reduceBEq, Nat.reduceAdd, Nat.reduceSub, Nat.reduceMul, Nat.reduceMod, Int.reduceMod, Int.reduceToNat, Int.reduceNeg, e11, h14, h15, h16, h17, h18, h19, h20, h21, List.drop_zero, eq_self, decide_true, decide_false, not_true_eq_false, not_false_eq_true]
   refine hK18 _ ?_
   clear hK18 K18
   refine Tr.kp [12] ?_
   simp only [pk_cons, pk_nil, ↓A_cons, ↓reduceIte, Nat.reduceEqDiff, reduceCtorEq]
   refine Tr.ret ?_
   simp -implicitDefEqProofs (disch := first | omega | (simp only [go_sem, List.length_append, List.length_drop, List.length_take, hb1, hb6] <;> omega) | decide) only [go_sem, ↓reduceIte, Nat.reduceEqDiff, reduceCtorEq]
   all_goals (rfl)
end Go.Sx
namespace Go.Sx
open Go.RowKit Go.Proofs
end Go.Sx
namespace Go.Sx
end Go.Sx
namespace Go.Sx
open Go.RowKit Go.Proofs
end Go.Sx
namespace Go.Sx
end Go.Sx
namespace Go.Sx
open Go.RowKit Go.Proofs
end Go.Sx
