/-
  Package token: the laws' own functions. And what follows.
-/
import Derived.Test.YtmeplkkhnpcldaaPau
import Derived.Test.YtmeplkkhnpcldaaPas
set_option linter.unusedSimpArgs false
set_option linter.unusedVariables false
namespace Go.Sx
open Go.RowKit Go.Proofs
def stopL (s : List UInt8) (l : List Tok) (i : Nat) : Bool := (decide (i + 1 = l.length) || decide ((gt l i).e < (gt l (i + 1)).a)) && (decide (part s i (i + 1 : Nat) = [46]) || decide (part s i (i + 1 : Nat) = [63]) || decide (part s i (i + 1 : Nat) = [33]))
theorem CLe_fno {α : Type} (f : α → List C) (l : List α) : CLe (sl f .full l) (sl f .no l) := of_eq_true (CLe_full f .no l)
theorem CLe_ono {α : Type} (f : α → List C) (s : Nat) (l : List α) : CLe (sl f (.own s) l) (sl f .no l) := of_eq_true (CLe_own f s l)
theorem gt_appL {α : Type} [Inhabited α] {a b : List α} {i : Nat} (h : i < a.length) : gt (a ++ b) i = gt a i := by
  simp [gt, List.getD, List.getElem?_append, h]
theorem gt_appR {a b : List Nat} {n i : Nat} (h : ¬ i < a.length) (h2 : i < a.length + b.length) : gt (a ++ b.map (· + n)) i = gt b (i - a.length) + n := by
  have h3 : i - a.length < b.length := by omega
  simp [gt, List.getD, List.getElem?_append, h, List.getElem?_eq_getElem h3]
set_option maxRecDepth 100000 in
set_option maxHeartbeats 8000000 in
theorem fc11 {gl : Nat → C} {M : Nat} {pu : Nat → List C → Option C}  (hcx : CxOK (cxP gl M pu)) (h37 : ∀ (l : List Int) (k : Nat), LI l → k ≤ 900 → pu 37 [sl iC .no l, .val (nI k)] = some (.val (str (markT l k)))) (h40 : ∀ (s : List UInt8) (how by' : Int), s.length ≤ 100000 → -9223372036854775808 ≤ how ∧ how ≤ 9223372036854775807 → -9223372036854775808 ≤ by' ∧ by' ≤ 9223372036854775807 → pu 40 [.val (str s), .val (.int .i64 how), .val (.int .i64 by')] = some (.val (str (spoT s how by')))) (h41 : ∀ (l : List Int) (k : Nat), LI l → k ≤ 1000 → pu 41 [sl iC .no l, .val (nI k)] = some (.val (str (textT l k)))) (h42 : ∀ l : List Int, LI l → pu 42 [sl iC .no l] = some (.val (str (wildT l)))) (l : List Int) (how by' : Int) (raw : List UInt8) (most : Int) (hl : LI l) (hw : -9223372036854775808 ≤ how ∧ how ≤ 9223372036854775807) (hy : -9223372036854775808 ≤ by' ∧ by' ≤ 9223372036854775807) (hraw : raw.length ≤ 9223372036854775807) : FC Try.prog gl 11 [sl iC .no l, .val (.int .i64 how), .val (.int .i64 by'), .val (str raw), .val (.int .i64 most)] [] (sl sC .no (textsT l how by' raw most)) [] := by
 replace hcx := hcx.reN (M := 40)
 refine FC.ofA (cx := cxP gl 40 pu) (rs := [.tmp 10]) rfl Try.func11 rfl rfl rfl (by simp only [List.length_cons, List.length_nil]; decide) (by simp only [go_sem]) ?_
 simp only [ini, go_sem]
 have h37' := fun k => h37 l k hl
 have h41' := fun k => h41 l k hl
 have h42' := h42 l hl
 have hb1 := (markT_ok l 0).2
 have hb2 := spoT_len (markT l 0) how by'
 refine Tr.seqK fun K1 hK1 => ?_
 refine Tr.rg hcx [] _ [] rfl rfl rfl ?_
 simp -implicitDefEqProofs (maxSteps := 2000000) (disch := first | omega | (simp only [go_sem, List.length_append, List.length_drop, List.length_take] <;> omega) | decide) only [go_sem, ↓reduceIte, Nat.reduceEqDiff, reduceCtorEq, Nat.reduceLT, Nat.reduceBEq, Nat.reduceAdd, Nat.reduceSub, Nat.reduceMul, Nat.reduceMod, h37', h41', h42', h40]
 refine hK1 _ ?_
 clear hK1 K1
 refine Tr.kp [0, 1, 2, 3, 4] ?_
 simp only [pk_cons, pk_nil, ↓A_cons, ↓reduceIte, Nat.reduceEqDiff]
 refine Tr.seqK fun K2 hK2 => ?_
 refine Tr.rg hcx [1000015] _ [] rfl rfl rfl ?_
 simp -implicitDefEqProofs (maxSteps := 2000000) (disch := first | omega | (simp only [go_sem, List.length_append, List.length_drop, List.length_take] <;> omega) | decide) only [go_sem, ↓reduceIte, Nat.reduceEqDiff, reduceCtorEq, Nat.reduceLT, Nat.reduceBEq, Nat.reduceAdd, Nat.reduceSub, Nat.reduceMul, Nat.reduceMod, h37', h41', h42', h40]
 refine hK2 _ ?_
 clear hK2 K2
 refine Tr.kp [0, 1, 2, 3, 4, 11] ?_
 simp only [pk_cons, pk_nil, ↓A_cons, ↓reduceIte, Nat.reduceEqDiff]
 refine Tr.seqK fun K3 hK3 => ?_
 refine Tr.rg hcx [1000019] _ [] rfl rfl rfl ?_
 simp -implicitDefEqProofs (maxSteps := 2000000) (disch := first | omega | (simp only [go_sem, List.length_append, List.length_drop, List.length_take] <;> omega) | decide) only [go_sem, ↓reduceIte, Nat.reduceEqDiff, reduceCtorEq, Nat.reduceLT, Nat.reduceBEq, Nat.reduceAdd, Nat.reduceSub, Nat.reduceMul, Nat.reduceMod, h37', h41', h42', h40]
 refine hK3 _ ?_
 clear hK3 K3
 refine Tr.kp [0, 1, 2, 3, 4, 11, 12] ?_
 simp only [pk_cons, pk_nil, ↓A_cons, ↓reduceIte, Nat.reduceEqDiff]
 refine Tr.seqK fun K4 hK4 => ?_
 refine Tr.rg hcx [1000030] _ [] rfl rfl rfl ?_
 simp -implicitDefEqProofs (maxSteps := 2000000) (disch := first | omega | (simp only [go_sem, List.length_append, List.length_drop, List.length_take] <;> omega) | decide) only [go_sem, ↓reduceIte, Nat.reduceEqDiff, reduceCtorEq, Nat.reduceLT, Nat.reduceBEq, Nat.reduceAdd, Nat.reduceSub, Nat.reduceMul, Nat.reduceMod, h37', h41', h42', h40]
 refine hK4 _ ?_
 clear hK4 K4
 refine Tr.kp [3, 4, 13] ?_
 simp only [pk_cons, pk_nil, ↓A_cons, ↓reduceIte, Nat.reduceEqDiff]
 refine Tr.seqJ (α := Unit) (fun a => [(13, sl sC .no (textsT l how by' raw most))]) (fun a => []) (fun a => True) ?ja_8 ?jb_8
 case ja_8 =>
  refine Tr.seqK fun K5 hK5 => ?_
  refine Tr.rg hcx [] _ [] rfl rfl rfl ?_
  simp -implicitDefEqProofs (maxSteps := 2000000) (disch := first | omega | (simp only [go_sem, List.length_append, List.length_drop, List.length_take] <;> omega) | decide) only [go_sem, ↓reduceIte, Nat.reduceEqDiff, reduceCtorEq, Nat.reduceLT, Nat.reduceBEq, Nat.reduceAdd, Nat.reduceSub, Nat.reduceMul, Nat.reduceMod, h37', h41', h42', h40]
  refine hK5 _ ?_
  clear hK5 K5
  refine Tr.kp [3, 13, 34] ?_
  simp only [pk_cons, pk_nil, ↓A_cons, ↓reduceIte, Nat.reduceEqDiff]
  refine Tr.condG fun KT KF hT hF => ?_
  simp only [ev_tmp, ev_const, ↓A_cons, ↓reduceIte, Nat.reduceEqDiff, reduceCtorEq, condG_bool, GB_true, GB_false, decide_eq_true_eq]
  refine GB.dec (fun hc34 => hT ?_) (fun hc34 => hF ?_)
  ·
   clear hT hF KT KF
   refine Tr.rg hcx [35, 1000038] _ [] rfl rfl rfl ?_
   simp -implicitDefEqProofs (maxSteps := 2000000) (disch := first | omega | (simp only [go_sem, List.length_append, List.length_drop, List.length_take] <;> omega) | decide) only [go_sem, ↓reduceIte, Nat.reduceEqDiff, reduceCtorEq, Nat.reduceLT, Nat.reduceBEq, Nat.reduceAdd, Nat.reduceSub, Nat.reduceMul, Nat.reduceMod, h37', h41', h42', h40]
   refine ⟨(), trivial, ?_, rfl⟩
   (simp only [Le_nil, Le_cons, ↓A_cons, ↓reduceIte, Nat.reduceEqDiff, reduceCtorEq, CLe_refl, CLe_top, CLe_full, CLe_nil, CLe_own, and_true, true_and]; all_goals (repeat' first | exact CLe.refl _ | exact True.intro | (refine CLe_sln ?_; first | with_reducible rfl | (simp only [List.take_zero]; done) | (rfl; done)) | exact CLe_nI (by omega) | exact CLe_int (by omega) | exact CLe_inI (by omega) | exact CLe_nIi (by omega) | with_reducible apply And.intro))
   all_goals (unfold textsT; first | rw [if_pos (by omega)] | rw [if_neg (by omega)])
   all_goals first | exact CLe_ono _ _ _ | exact CLe_fno _ _
  ·
   clear hT hF KT KF
   refine Tr.skip ?_
   refine ⟨(), trivial, ?_, rfl⟩
   (simp only [Le_nil, Le_cons, ↓A_cons, ↓reduceIte, Nat.reduceEqDiff, reduceCtorEq, CLe_refl, CLe_top, CLe_full, CLe_nil, CLe_own, and_true, true_and]; all_goals (repeat' first | exact CLe.refl _ | exact True.intro | (refine CLe_sln ?_; first | with_reducible rfl | (simp only [List.take_zero]; done) | (rfl; done)) | exact CLe_nI (by omega) | exact CLe_int (by omega) | exact CLe_inI (by omega) | exact CLe_nIi (by omega) | with_reducible apply And.intro))
   all_goals (unfold textsT; first | rw [if_pos (by omega)] | rw [if_neg (by omega)])
   all_goals first | exact CLe_ono _ _ _ | exact CLe_fno _ _
 case jb_8 =>
  rintro a ha
  refine Tr.seqK fun K6 hK6 => ?_
  refine Tr.rg hcx [1000039] _ [] rfl rfl rfl ?_
  simp -implicitDefEqProofs (maxSteps := 2000000) (disch := first | omega | (simp only [go_sem, List.length_append, List.length_drop, List.length_take] <;> omega) | decide) only [go_sem, ↓reduceIte, Nat.reduceEqDiff, reduceCtorEq, Nat.reduceLT, Nat.reduceBEq, Nat.reduceAdd, Nat.reduceSub, Nat.reduceMul, Nat.reduceMod, h37', h41', h42', h40]
  refine hK6 _ ?_
  clear hK6 K6
  refine Tr.kp [10] ?_
  simp only [pk_cons, pk_nil, ↓A_cons, ↓reduceIte, Nat.reduceEqDiff]
  refine Tr.ret ?_
  simp -implicitDefEqProofs (disch := first | omega | (simp only [go_sem, List.length_append, List.length_drop, List.length_take] <;> omega) | decide) only [go_sem, ↓reduceIte, Nat.reduceEqDiff, reduceCtorEq]
  all_goals (rfl)
set_option maxRecDepth 100000 in
set_option maxHeartbeats 8000000 in
theorem fc38 {gl : Nat → C} {M : Nat} {pu : Nat → List C → Option C}  (hcx : CxOK (cxP gl M pu)) (l a b : List Nat) (n : Nat) (hl : l = a ++ b.map (· + n)) (hn : a.length + b.length ≤ 1000000 ∧ n ≤ 1000000) (hb : ∀ i, i < b.length → gt b i ≤ 1000000) : FC Try.prog gl 38 [sl nC .no l, sl nC .no a, sl nC .no b, .val (nI n)] [] (.val (.bool true)) [] := by
 replace hcx := hcx.reN (M := 61)
 refine FC.ofA (cx := cxP gl 61 pu) (rs := [.tmp 8]) rfl Try.func38 rfl rfl rfl (by simp only [List.length_cons, List.length_nil]; decide) (by simp only [go_sem]) ?_
 simp only [ini, go_sem]
 have hb0 : l.length = a.length + b.length := by rw [hl]; simp
 refine Tr.seqK fun K1 hK1 => ?_
 refine Tr.rg hcx [] _ [] rfl rfl rfl ?_
 simp -implicitDefEqProofs (maxSteps := 2000000) (disch := first | omega | (simp only [go_sem, List.length_append, List.length_drop, List.length_take, hb0] <;> omega) | decide) only [go_sem, ↓reduceIte, Nat.reduceEqDiff, reduceCtorEq, Nat.reduceLT, Nat.reduceBEq, Nat.reduceAdd, Nat.reduceSub, Nat.reduceMul, Nat.reduceMod, eq_self, decide_true, not_true_eq_false]
 refine hK1 _ ?_
 clear hK1 K1
 refine Tr.kp [0, 1, 2, 3] ?_
 simp only [pk_cons, pk_nil, ↓A_cons, ↓reduceIte, Nat.reduceEqDiff]
 refine Tr.seqK fun K2 hK2 => ?_
 refine Tr.seqK fun K3 hK3 => ?_
 refine Tr.rg hcx [] _ [] rfl rfl rfl ?_
 simp -implicitDefEqProofs (maxSteps := 2000000) (disch := first | omega | (simp only [go_sem, List.length_append, List.length_drop, List.length_take, hb0] <;> omega) | decide) only [go_sem, ↓reduceIte, Nat.reduceEqDiff, reduceCtorEq, Nat.reduceLT, Nat.reduceBEq, Nat.reduceAdd, Nat.reduceSub, Nat.reduceMul, Nat.reduceMod, eq_self, decide_true, not_true_eq_false, hb0]
 refine hK3 _ ?_
 clear hK3 K3
 refine Tr.kp [0, 1, 2, 3, 17] ?_
 simp only [pk_cons, pk_nil, ↓A_cons, ↓reduceIte, Nat.reduceEqDiff]
 refine Tr.condG fun KT KF hT hF => ?_
 simp only [ev_tmp, ev_const, ↓A_cons, ↓reduceIte, Nat.reduceEqDiff, reduceCtorEq, condG_bool, GB_true, GB_false, decide_eq_true_eq]
 refine hF ?_
 clear hT hF KT KF
 refine Tr.skip ?_
 refine hK2 _ ?_
 clear hK2 K2
 refine Tr.kp [0, 1, 2, 3] ?_
 simp only [pk_cons, pk_nil, ↓A_cons, ↓reduceIte, Nat.reduceEqDiff]
 refine Tr.seqK fun K4 hK4 => ?_
 refine Tr.seqK fun K5 hK5 => ?_
 refine Tr.rg hcx [] _ [] rfl rfl rfl ?_
 simp -implicitDefEqProofs (maxSteps := 2000000) (disch := first | omega | (simp only [go_sem, List.length_append, List.length_drop, List.length_take, hb0] <;> omega) | decide) only [go_sem, ↓reduceIte, Nat.reduceEqDiff, reduceCtorEq, Nat.reduceLT, Nat.reduceBEq, Nat.reduceAdd, Nat.reduceSub, Nat.reduceMul, Nat.reduceMod, eq_self, decide_true, not_true_eq_false]
 refine hK5 _ ?_
 clear hK5 K5
 refine Tr.kp [0, 1, 2, 3, 9] ?_
 simp only [pk_cons, pk_nil, ↓A_cons, ↓reduceIte, Nat.reduceEqDiff]
 refine Tr.blk ?_
 refine Tr.loopI (α := Nat) (fun a => [(0, ?v0_31), (1, ?v1_31), (2, ?v2_31), (3, ?v3_31), (9, .val (nI a))]) (fun a => ?h_31) (fun a => a ≤ l.length) (fun a => l.length - a) (0) ?_ ?le_31 ?hh_31 ?bd_31
 case hh_31 => exact rfl
 case le_31 => (simp only [Le_nil, Le_cons, ↓A_cons, ↓reduceIte, Nat.reduceEqDiff, reduceCtorEq, CLe_refl, CLe_top, CLe_full, CLe_nil, CLe_own, and_true, true_and]; all_goals (repeat' first | exact CLe.refl _ | exact True.intro | (refine CLe_sln ?_; first | with_reducible rfl | (simp only [List.take_zero]; done) | (rfl; done)) | exact CLe_nI (by omega) | exact CLe_int (by omega) | exact CLe_inI (by omega) | exact CLe_nIi (by omega) | with_reducible apply And.intro))
 · omega
 case bd_31 =>
  rintro i hi
  refine Tr.seqK fun K6 hK6 => ?_
  refine Tr.seqK fun K7 hK7 => ?_
  refine Tr.rg hcx [] _ [] rfl rfl rfl ?_
  simp -implicitDefEqProofs (maxSteps := 2000000) (disch := first | omega | (simp only [go_sem, List.length_append, List.length_drop, List.length_take, hb0] <;> omega) | decide) only [go_sem, ↓reduceIte, Nat.reduceEqDiff, reduceCtorEq, Nat.reduceLT, Nat.reduceBEq, Nat.reduceAdd, Nat.reduceSub, Nat.reduceMul, Nat.reduceMod, eq_self, decide_true, not_true_eq_false]
  refine hK7 _ ?_
  clear hK7 K7
  refine Tr.kp [0, 1, 2, 3, 9, 21] ?_
  simp only [pk_cons, pk_nil, ↓A_cons, ↓reduceIte, Nat.reduceEqDiff]
  refine Tr.condG fun KT KF hT hF => ?_
  simp only [ev_tmp, ev_const, ↓A_cons, ↓reduceIte, Nat.reduceEqDiff, reduceCtorEq, condG_bool, GB_true, GB_false, decide_eq_true_eq]
  refine GB.dec (fun hc21 => hT ?_) (fun hc21 => hF ?_)
  ·
   clear hT hF KT KF
   refine Tr.skip ?_
   refine hK6 _ ?_
   clear hK6 K6
   refine Tr.kp [0, 1, 2, 3, 9] ?_
   simp only [pk_cons, pk_nil, ↓A_cons, ↓reduceIte, Nat.reduceEqDiff]
   refine Tr.seqK fun K8 hK8 => ?_
   refine Tr.blk ?_
   refine Tr.seqK fun K9 hK9 => ?_
   by_cases b1 : i < a.length
   ·
    have hg : gt l i = gt a i := by rw [hl]; exact gt_appL b1
    have hbn : (a.length ≤ i) = False := eq_false (by omega)
    refine Tr.rgD hcx hMO [] [some 24, some 25, some 26, some 27, some 28, some 29, some 30, some 31, some 32, some 33, some 34, some 35, some 36, some 37, some 38, some 39, some 40, some 41, some 42, some 43, some 44, some 45, some 46, some 47, some 48, some 49, some 50, some 51, some 52, some 53, some 54, some 55, some 56, some 57, some 58, some 59, some 60] [] rfl rfl rfl rfl ?_
    simp -implicitDefEqProofs (maxSteps := 2000000) (disch := first | omega | (simp only [go_sem, List.length_append, List.length_drop, List.length_take, hb0] <;> omega) | decide) only [go_sem, ↓reduceIte, Nat.reduceEqDiff, reduceCtorEq, Nat.reduceLT, Nat.reduceBEq, Nat.reduceAdd, Nat.reduceSub, Nat.reduceMul, Nat.reduceMod, eq_self, decide_true, not_true_eq_false, b1, hg, hbn]
    with_reducible refine And.intro ?_ ?_
    · exact rfl
    refine hK9 _ ?_
    clear hK9 K9
    refine Tr.kp [0, 1, 2, 3, 9, 60] ?_
    simp only [pk_cons, pk_nil, ↓A_cons, ↓reduceIte, Nat.reduceEqDiff]
    refine Tr.condG fun KT KF hT hF => ?_
    simp only [ev_tmp, ev_const, ↓A_cons, ↓reduceIte, Nat.reduceEqDiff, reduceCtorEq, condG_bool, GB_true, GB_false, decide_eq_true_eq]
    refine hF ?_
    clear hT hF KT KF
    refine Tr.skip ?_
    refine hK8 _ ?_
    clear hK8 K8
    refine Tr.kp [0, 1, 2, 3, 9] ?_
    simp only [pk_cons, pk_nil, ↓A_cons, ↓reduceIte, Nat.reduceEqDiff]
    refine Tr.rg hcx [1000023] _ [] rfl rfl rfl ?_
    simp -implicitDefEqProofs (maxSteps := 2000000) (disch := first | omega | (simp only [go_sem, List.length_append, List.length_drop, List.length_take, hb0] <;> omega) | decide) only [go_sem, ↓reduceIte, Nat.reduceEqDiff, reduceCtorEq, Nat.reduceLT, Nat.reduceBEq, Nat.reduceAdd, Nat.reduceSub, Nat.reduceMul, Nat.reduceMod, eq_self, decide_true, not_true_eq_false, b1]
    refine ⟨i + 1, ⟨by omega, by first | omega | (simp only []; omega)⟩, ?_, rfl⟩
    (simp only [Le_nil, Le_cons, ↓A_cons, ↓reduceIte, Nat.reduceEqDiff, reduceCtorEq, CLe_refl, CLe_top, CLe_full, CLe_nil, CLe_own, and_true, true_and]; all_goals (repeat' first | exact CLe.refl _ | exact True.intro | (refine CLe_sln ?_; first | with_reducible rfl | (simp only [List.take_zero]; done) | (rfl; done)) | exact CLe_nI (by omega) | exact CLe_int (by omega) | exact CLe_inI (by omega) | exact CLe_nIi (by omega) | with_reducible apply And.intro))
   ·
    have hg : gt l i = gt b (i - a.length) + n := by rw [hl]; exact gt_appR b1 (by omega)
    have hbb := hb (i - a.length) (by omega)
    have hbn : (a.length ≤ i) = True := eq_true (by omega)
    refine Tr.rgD hcx hMO [] [some 24, some 25, some 26, some 27, some 28, some 29, some 30, some 31, some 32, some 33, some 34, some 35, some 36, some 37, some 38, some 39, some 40, some 41, some 42, some 43, some 44, some 45, some 46, some 47, some 48, some 49, some 50, some 51, some 52, some 53, some 54, some 55, some 56, some 57, some 58, some 59, some 60] [] rfl rfl rfl rfl ?_
    simp -implicitDefEqProofs (maxSteps := 2000000) (disch := first | omega | (simp only [go_sem, List.length_append, List.length_drop, List.length_take, hb0] <;> omega) | decide) only [go_sem, ↓reduceIte, Nat.reduceEqDiff, reduceCtorEq, Nat.reduceLT, Nat.reduceBEq, Nat.reduceAdd, Nat.reduceSub, Nat.reduceMul, Nat.reduceMod, eq_self, decide_true, not_true_eq_false, b1, hg, hbn]
    with_reducible refine And.intro ?_ ?_
    · exact rfl
    refine hK9 _ ?_
    clear hK9 K9
    refine Tr.kp [0, 1, 2, 3, 9, 60] ?_
    simp only [pk_cons, pk_nil, ↓A_cons, ↓reduceIte, Nat.reduceEqDiff]
    refine Tr.condG fun KT KF hT hF => ?_
    simp only [ev_tmp, ev_const, ↓A_cons, ↓reduceIte, Nat.reduceEqDiff, reduceCtorEq, condG_bool, GB_true, GB_false, decide_eq_true_eq]
    refine hF ?_
    clear hT hF KT KF
    refine Tr.skip ?_
    refine hK8 _ ?_
    clear hK8 K8
    refine Tr.kp [0, 1, 2, 3, 9] ?_
    simp only [pk_cons, pk_nil, ↓A_cons, ↓reduceIte, Nat.reduceEqDiff]
    refine Tr.rg hcx [1000023] _ [] rfl rfl rfl ?_
    simp -implicitDefEqProofs (maxSteps := 2000000) (disch := first | omega | (simp only [go_sem, List.length_append, List.length_drop, List.length_take, hb0] <;> omega) | decide) only [go_sem, ↓reduceIte, Nat.reduceEqDiff, reduceCtorEq, Nat.reduceLT, Nat.reduceBEq, Nat.reduceAdd, Nat.reduceSub, Nat.reduceMul, Nat.reduceMod, eq_self, decide_true, not_true_eq_false, b1]
    refine ⟨i + 1, ⟨by omega, by first | omega | (simp only []; omega)⟩, ?_, rfl⟩
    (simp only [Le_nil, Le_cons, ↓A_cons, ↓reduceIte, Nat.reduceEqDiff, reduceCtorEq, CLe_refl, CLe_top, CLe_full, CLe_nil, CLe_own, and_true, true_and]; all_goals (repeat' first | exact CLe.refl _ | exact True.intro | (refine CLe_sln ?_; first | with_reducible rfl | (simp only [List.take_zero]; done) | (rfl; done)) | exact CLe_nI (by omega) | exact CLe_int (by omega) | exact CLe_inI (by omega) | exact CLe_nIi (by omega) | with_reducible apply And.intro))
  ·
   clear hT hF KT KF
   refine Tr.exit ?_
   refine hK4 _ ?_
   clear hK6 K6 hK4 K4
   refine Tr.kp [] ?_
   simp only [pk_cons, pk_nil, ↓A_cons, ↓reduceIte, Nat.reduceEqDiff]
   refine Tr.seqK fun K10 hK10 => ?_
   refine Tr.rg hcx [] _ [] rfl rfl rfl ?_
   simp -implicitDefEqProofs (maxSteps := 2000000) (disch := first | omega | (simp only [go_sem, List.length_append, List.length_drop, List.length_take, hb0] <;> omega) | decide) only [go_sem, ↓reduceIte, Nat.reduceEqDiff, reduceCtorEq, Nat.reduceLT, Nat.reduceBEq, Nat.reduceAdd, Nat.reduceSub, Nat.reduceMul, Nat.reduceMod, eq_self, decide_true, not_true_eq_false]
   refine hK10 _ ?_
   clear hK10 K10
   refine Tr.kp [8] ?_
   simp only [pk_cons, pk_nil, ↓A_cons, ↓reduceIte, Nat.reduceEqDiff]
   refine Tr.ret ?_
   simp -implicitDefEqProofs (disch := first | omega | (simp only [go_sem, List.length_append, List.length_drop, List.length_take, hb0] <;> omega) | decide) only [go_sem, ↓reduceIte, Nat.reduceEqDiff, reduceCtorEq]
   all_goals (rfl)
set_option maxRecDepth 100000 in
set_option maxHeartbeats 8000000 in
theorem fc39 {gl : Nat → C} {M : Nat} {pu : Nat → List C → Option C}  (hcx : CxOK (cxP gl M pu)) (h20 : ∀ (s : List UInt8) (f t : Int), s.length ≤ 1000000 → -9223372036854775808 ≤ f ∧ f ≤ 9223372036854775807 → -9223372036854775808 ≤ t ∧ t ≤ 9223372036854775807 → pu 20 [.val (str s), .val (.int .i64 f), .val (.int .i64 t)] = some (.val (str (part s f t)))) (s : List UInt8) (l : List Tok) (i : Nat) (hs : s.length ≤ 1000000) (hi : i < l.length ∧ l.length ≤ 1000000) : FC Try.prog gl 39 [.val (str s), sl tC .no l, .val (nI i)] [] (.val (.bool (stopL s l i))) [] := by
 replace hcx := hcx.reN (M := 46)
 refine FC.ofA (cx := cxP gl 46 pu) (rs := [.tmp 6]) rfl Try.func39 rfl rfl rfl (by simp only [List.length_cons, List.length_nil]; decide) (by simp only [go_sem]) ?_
 simp only [ini, go_sem]
 have h20n : ∀ (s : List UInt8) (f t : Nat), s.length ≤ 1000000 → f ≤ 9223372036854775807 → t ≤ 9223372036854775807 → pu 20 [.val (str s), .val (nI f), .val (nI t)] = some (.val (str (part s f t))) := fun s f t h1 h2 h3 => h20 s f t h1 (by omega) (by omega)
 refine Tr.seqK fun K1 hK1 => ?_
 refine Tr.rg hcx [] _ [] rfl rfl rfl ?_
 simp -implicitDefEqProofs (maxSteps := 2000000) (disch := first | omega | (simp only [go_sem, List.length_append, List.length_drop, List.length_take] <;> omega) | decide) only [go_sem, ↓reduceIte, Nat.reduceEqDiff, reduceCtorEq, Nat.reduceLT, Nat.reduceBEq, Nat.reduceAdd, Nat.reduceSub, Nat.reduceMul, Nat.reduceMod, h20n]
 refine hK1 _ ?_
 clear hK1 K1
 refine Tr.kp [0, 1, 2] ?_
 simp only [pk_cons, pk_nil, ↓A_cons, ↓reduceIte, Nat.reduceEqDiff]
 refine Tr.seqK fun K2 hK2 => ?_
 by_cases b1 : i + 1 = l.length
 ·
  have b1o := b1
  replace b1 := eq_true b1
  refine Tr.rg hcx [1000013] _ [] rfl rfl rfl ?_
  simp -implicitDefEqProofs (maxSteps := 2000000) (disch := first | omega | (simp only [go_sem, List.length_append, List.length_drop, List.length_take] <;> omega) | decide) only [go_sem, ↓reduceIte, Nat.reduceEqDiff, reduceCtorEq, Nat.reduceLT, Nat.reduceBEq, Nat.reduceAdd, Nat.reduceSub, Nat.reduceMul, Nat.reduceMod, h20n, b1]
  refine hK2 _ ?_
  clear hK2 K2
  refine Tr.kp [0, 1, 2, 7] ?_
  simp only [pk_cons, pk_nil, ↓A_cons, ↓reduceIte, Nat.reduceEqDiff]
  refine Tr.seqK fun K3 hK3 => ?_
  refine Tr.seqK fun K4 hK4 => ?_
  refine Tr.rg hcx [] _ [] rfl rfl rfl ?_
  simp -implicitDefEqProofs (maxSteps := 2000000) (disch := first | omega | (simp only [go_sem, List.length_append, List.length_drop, List.length_take] <;> omega) | decide) only [go_sem, ↓reduceIte, Nat.reduceEqDiff, reduceCtorEq, Nat.reduceLT, Nat.reduceBEq, Nat.reduceAdd, Nat.reduceSub, Nat.reduceMul, Nat.reduceMod, h20n, b1]
  refine hK4 _ ?_
  clear hK4 K4
  refine Tr.kp [0, 1, 2, 7, 15] ?_
  simp only [pk_cons, pk_nil, ↓A_cons, ↓reduceIte, Nat.reduceEqDiff]
  refine Tr.condG fun KT KF hT hF => ?_
  simp only [ev_tmp, ev_const, ↓A_cons, ↓reduceIte, Nat.reduceEqDiff, reduceCtorEq, condG_bool, GB_true, GB_false, decide_eq_true_eq]
  refine hF ?_
  clear hT hF KT KF
  refine Tr.skip ?_
  refine hK3 _ ?_
  clear hK3 K3
  refine Tr.kp [0, 2, 7] ?_
  simp only [pk_cons, pk_nil, ↓A_cons, ↓reduceIte, Nat.reduceEqDiff]
  refine Tr.seqK fun K5 hK5 => ?_
  refine Tr.rg hcx [1000032] _ [] rfl rfl rfl ?_
  simp -implicitDefEqProofs (maxSteps := 2000000) (disch := first | omega | (simp only [go_sem, List.length_append, List.length_drop, List.length_take] <;> omega) | decide) only [go_sem, ↓reduceIte, Nat.reduceEqDiff, reduceCtorEq, Nat.reduceLT, Nat.reduceBEq, Nat.reduceAdd, Nat.reduceSub, Nat.reduceMul, Nat.reduceMod, h20n, b1]
  refine hK5 _ ?_
  clear hK5 K5
  refine Tr.kp [7, 8] ?_
  simp only [pk_cons, pk_nil, ↓A_cons, ↓reduceIte, Nat.reduceEqDiff]
  refine Tr.seqK fun K6 hK6 => ?_
  by_cases b2 : part s i (i + 1 : Nat) = [46]
  ·
   have b2o := b2
   replace b2 := eq_true b2
   refine Tr.rg hcx [1000045] [some 33, some 34, some 35, some 36, some 37, some 38, some 39, some 40, some 41, some 42, some 43, some 44, some 45, some 6] [] rfl rfl rfl ?_
   simp -implicitDefEqProofs (maxSteps := 2000000) (disch := first | omega | (simp only [go_sem, List.length_append, List.length_drop, List.length_take] <;> omega) | decide) only [go_sem, ↓reduceIte, Nat.reduceEqDiff, reduceCtorEq, Nat.reduceLT, Nat.reduceBEq, Nat.reduceAdd, Nat.reduceSub, Nat.reduceMul, Nat.reduceMod, h20n, b1, b2]
   refine hK6 _ ?_
   clear hK6 K6
   refine Tr.kp [6] ?_
   simp only [pk_cons, pk_nil, ↓A_cons, ↓reduceIte, Nat.reduceEqDiff]
   refine Tr.ret ?_
   simp -implicitDefEqProofs (disch := first | omega | (simp only [go_sem, List.length_append, List.length_drop, List.length_take] <;> omega) | decide) only [go_sem, ↓reduceIte, Nat.reduceEqDiff, reduceCtorEq]
   all_goals (exact congrArg (fun z => some (C.val (.bool z))) (by unfold stopL; first | (simp_all; done) | simp [b1, b5]))
  ·
   have b2o := b2
   replace b2 := eq_false b2
   by_cases b3 : part s i (i + 1 : Nat) = [63]
   ·
    have b3o := b3
    replace b3 := eq_true b3
    refine Tr.rg hcx [1000045] [some 33, some 34, some 35, some 36, some 37, some 38, some 39, some 40, some 41, some 42, some 43, some 44, some 45, some 6] [] rfl rfl rfl ?_
    simp -implicitDefEqProofs (maxSteps := 2000000) (disch := first | omega | (simp only [go_sem, List.length_append, List.length_drop, List.length_take] <;> omega) | decide) only [go_sem, ↓reduceIte, Nat.reduceEqDiff, reduceCtorEq, Nat.reduceLT, Nat.reduceBEq, Nat.reduceAdd, Nat.reduceSub, Nat.reduceMul, Nat.reduceMod, h20n, b1, b2, b3]
    refine hK6 _ ?_
    clear hK6 K6
    refine Tr.kp [6] ?_
    simp only [pk_cons, pk_nil, ↓A_cons, ↓reduceIte, Nat.reduceEqDiff]
    refine Tr.ret ?_
    simp -implicitDefEqProofs (disch := first | omega | (simp only [go_sem, List.length_append, List.length_drop, List.length_take] <;> omega) | decide) only [go_sem, ↓reduceIte, Nat.reduceEqDiff, reduceCtorEq]
    all_goals (exact congrArg (fun z => some (C.val (.bool z))) (by unfold stopL; first | (simp_all; done) | simp [b1, b5]))
   ·
    have b3o := b3
    replace b3 := eq_false b3
    by_cases b4 : part s i (i + 1 : Nat) = [33]
    ·
     have b4o := b4
     replace b4 := eq_true b4
     refine Tr.rg hcx [1000045] [some 33, some 34, some 35, some 36, some 37, some 38, some 39, some 40, some 41, some 42, some 43, some 44, some 45, some 6] [] rfl rfl rfl ?_
     simp -implicitDefEqProofs (maxSteps := 2000000) (disch := first | omega | (simp only [go_sem, List.length_append, List.length_drop, List.length_take] <;> omega) | decide) only [go_sem, ↓reduceIte, Nat.reduceEqDiff, reduceCtorEq, Nat.reduceLT, Nat.reduceBEq, Nat.reduceAdd, Nat.reduceSub, Nat.reduceMul, Nat.reduceMod, h20n, b1, b2, b3, b4]
     refine hK6 _ ?_
     clear hK6 K6
     refine Tr.kp [6] ?_
     simp only [pk_cons, pk_nil, ↓A_cons, ↓reduceIte, Nat.reduceEqDiff]
     refine Tr.ret ?_
     simp -implicitDefEqProofs (disch := first | omega | (simp only [go_sem, List.length_append, List.length_drop, List.length_take] <;> omega) | decide) only [go_sem, ↓reduceIte, Nat.reduceEqDiff, reduceCtorEq]
     all_goals (exact congrArg (fun z => some (C.val (.bool z))) (by unfold stopL; first | (simp_all; done) | simp [b1, b5]))
    ·
     have b4o := b4
     replace b4 := eq_false b4
     refine Tr.rg hcx [1000045] [some 33, some 34, some 35, some 36, some 37, some 38, some 39, some 40, some 41, some 42, some 43, some 44, some 45, some 6] [] rfl rfl rfl ?_
     simp -implicitDefEqProofs (maxSteps := 2000000) (disch := first | omega | (simp only [go_sem, List.length_append, List.length_drop, List.length_take] <;> omega) | decide) only [go_sem, ↓reduceIte, Nat.reduceEqDiff, reduceCtorEq, Nat.reduceLT, Nat.reduceBEq, Nat.reduceAdd, Nat.reduceSub, Nat.reduceMul, Nat.reduceMod, h20n, b1, b2, b3, b4]
     refine hK6 _ ?_
     clear hK6 K6
     refine Tr.kp [6] ?_
     simp only [pk_cons, pk_nil, ↓A_cons, ↓reduceIte, Nat.reduceEqDiff]
     refine Tr.ret ?_
     simp -implicitDefEqProofs (disch := first | omega | (simp only [go_sem, List.length_append, List.length_drop, List.length_take] <;> omega) | decide) only [go_sem, ↓reduceIte, Nat.reduceEqDiff, reduceCtorEq]
     all_goals (exact congrArg (fun z => some (C.val (.bool z))) (by unfold stopL; first | (simp_all; done) | simp [b1, b5]))
 ·
  have b1o := b1
  replace b1 := eq_false b1
  refine Tr.rg hcx [1000013] _ [] rfl rfl rfl ?_
  simp -implicitDefEqProofs (maxSteps := 2000000) (disch := first | omega | (simp only [go_sem, List.length_append, List.length_drop, List.length_take] <;> omega) | decide) only [go_sem, ↓reduceIte, Nat.reduceEqDiff, reduceCtorEq, Nat.reduceLT, Nat.reduceBEq, Nat.reduceAdd, Nat.reduceSub, Nat.reduceMul, Nat.reduceMod, h20n, b1]
  refine hK2 _ ?_
  clear hK2 K2
  refine Tr.kp [0, 1, 2, 7] ?_
  simp only [pk_cons, pk_nil, ↓A_cons, ↓reduceIte, Nat.reduceEqDiff]
  refine Tr.seqK fun K7 hK7 => ?_
  refine Tr.seqK fun K8 hK8 => ?_
  refine Tr.rg hcx [] _ [] rfl rfl rfl ?_
  simp -implicitDefEqProofs (maxSteps := 2000000) (disch := first | omega | (simp only [go_sem, List.length_append, List.length_drop, List.length_take] <;> omega) | decide) only [go_sem, ↓reduceIte, Nat.reduceEqDiff, reduceCtorEq, Nat.reduceLT, Nat.reduceBEq, Nat.reduceAdd, Nat.reduceSub, Nat.reduceMul, Nat.reduceMod, h20n, b1]
  refine hK8 _ ?_
  clear hK8 K8
  refine Tr.kp [0, 1, 2, 7, 15] ?_
  simp only [pk_cons, pk_nil, ↓A_cons, ↓reduceIte, Nat.reduceEqDiff]
  refine Tr.condG fun KT KF hT hF => ?_
  simp only [ev_tmp, ev_const, ↓A_cons, ↓reduceIte, Nat.reduceEqDiff, reduceCtorEq, condG_bool, GB_true, GB_false, decide_eq_true_eq]
  refine hT ?_
  clear hT hF KT KF
  refine Tr.rgD hcx hMO [1000027] _ [] rfl rfl rfl rfl ?_
  simp -implicitDefEqProofs (maxSteps := 2000000) (disch := first | omega | (simp only [go_sem, List.length_append, List.length_drop, List.length_take] <;> omega) | decide) only [go_sem, ↓reduceIte, Nat.reduceEqDiff, reduceCtorEq, Nat.reduceLT, Nat.reduceBEq, Nat.reduceAdd, Nat.reduceSub, Nat.reduceMul, Nat.reduceMod, h20n, b1]
  with_reducible refine And.intro ?_ ?_
  · exact rfl
  refine hK7 _ ?_
  clear hK7 K7
  refine Tr.kp [0, 2, 7] ?_
  simp only [pk_cons, pk_nil, ↓A_cons, ↓reduceIte, Nat.reduceEqDiff]
  refine Tr.seqK fun K9 hK9 => ?_
  refine Tr.rg hcx [1000032] _ [] rfl rfl rfl ?_
  simp -implicitDefEqProofs (maxSteps := 2000000) (disch := first | omega | (simp only [go_sem, List.length_append, List.length_drop, List.length_take] <;> omega) | decide) only [go_sem, ↓reduceIte, Nat.reduceEqDiff, reduceCtorEq, Nat.reduceLT, Nat.reduceBEq, Nat.reduceAdd, Nat.reduceSub, Nat.reduceMul, Nat.reduceMod, h20n, b1]
  refine hK9 _ ?_
  clear hK9 K9
  refine Tr.kp [7, 8] ?_
  simp only [pk_cons, pk_nil, ↓A_cons, ↓reduceIte, Nat.reduceEqDiff]
  refine Tr.seqK fun K10 hK10 => ?_
  by_cases b5 : (gt l i).e < (gt l (i + 1)).a
  ·
   have b5o := b5
   replace b5 := eq_true b5
   by_cases b2 : part s i (i + 1 : Nat) = [46]
   ·
    have b2o := b2
    replace b2 := eq_true b2
    refine Tr.rg hcx [1000045] [some 33, some 34, some 35, some 36, some 37, some 38, some 39, some 40, some 41, some 42, some 43, some 44, some 45, some 6] [] rfl rfl rfl ?_
    simp -implicitDefEqProofs (maxSteps := 2000000) (disch := first | omega | (simp only [go_sem, List.length_append, List.length_drop, List.length_take] <;> omega) | decide) only [go_sem, ↓reduceIte, Nat.reduceEqDiff, reduceCtorEq, Nat.reduceLT, Nat.reduceBEq, Nat.reduceAdd, Nat.reduceSub, Nat.reduceMul, Nat.reduceMod, h20n, b1, b5, b2]
    refine hK10 _ ?_
    clear hK10 K10
    refine Tr.kp [6] ?_
    simp only [pk_cons, pk_nil, ↓A_cons, ↓reduceIte, Nat.reduceEqDiff]
    refine Tr.ret ?_
    simp -implicitDefEqProofs (disch := first | omega | (simp only [go_sem, List.length_append, List.length_drop, List.length_take] <;> omega) | decide) only [go_sem, ↓reduceIte, Nat.reduceEqDiff, reduceCtorEq]
    all_goals (exact congrArg (fun z => some (C.val (.bool z))) (by unfold stopL; first | (simp_all; done) | simp [b1, b5]))
   ·
    have b2o := b2
    replace b2 := eq_false b2
    by_cases b3 : part s i (i + 1 : Nat) = [63]
    ·
     have b3o := b3
     replace b3 := eq_true b3
     refine Tr.rg hcx [1000045] [some 33, some 34, some 35, some 36, some 37, some 38, some 39, some 40, some 41, some 42, some 43, some 44, some 45, some 6] [] rfl rfl rfl ?_
     simp -implicitDefEqProofs (maxSteps := 2000000) (disch := first | omega | (simp only [go_sem, List.length_append, List.length_drop, List.length_take] <;> omega) | decide) only [go_sem, ↓reduceIte, Nat.reduceEqDiff, reduceCtorEq, Nat.reduceLT, Nat.reduceBEq, Nat.reduceAdd, Nat.reduceSub, Nat.reduceMul, Nat.reduceMod, h20n, b1, b5, b2, b3]
     refine hK10 _ ?_
     clear hK10 K10
     refine Tr.kp [6] ?_
     simp only [pk_cons, pk_nil, ↓A_cons, ↓reduceIte, Nat.reduceEqDiff]
     refine Tr.ret ?_
     simp -implicitDefEqProofs (disch := first | omega | (simp only [go_sem, List.length_append, List.length_drop, List.length_take] <;> omega) | decide) only [go_sem, ↓reduceIte, Nat.reduceEqDiff, reduceCtorEq]
     all_goals (exact congrArg (fun z => some (C.val (.bool z))) (by unfold stopL; first | (simp_all; done) | simp [b1, b5]))
    ·
     have b3o := b3
     replace b3 := eq_false b3
     by_cases b4 : part s i (i + 1 : Nat) = [33]
     ·
      have b4o := b4
      replace b4 := eq_true b4
      refine Tr.rg hcx [1000045] [some 33, some 34, some 35, some 36, some 37, some 38, some 39, some 40, some 41, some 42, some 43, some 44, some 45, some 6] [] rfl rfl rfl ?_
      simp -implicitDefEqProofs (maxSteps := 2000000) (disch := first | omega | (simp only [go_sem, List.length_append, List.length_drop, List.length_take] <;> omega) | decide) only [go_sem, ↓reduceIte, Nat.reduceEqDiff, reduceCtorEq, Nat.reduceLT, Nat.reduceBEq, Nat.reduceAdd, Nat.reduceSub, Nat.reduceMul, Nat.reduceMod, h20n, b1, b5, b2, b3, b4]
      refine hK10 _ ?_
      clear hK10 K10
      refine Tr.kp [6] ?_
      simp only [pk_cons, pk_nil, ↓A_cons, ↓reduceIte, Nat.reduceEqDiff]
      refine Tr.ret ?_
      simp -implicitDefEqProofs (disch := first | omega | (simp only [go_sem, List.length_append, List.length_drop, List.length_take] <;> omega) | decide) only [go_sem, ↓reduceIte, Nat.reduceEqDiff, reduceCtorEq]
      all_goals (exact congrArg (fun z => some (C.val (.bool z))) (by unfold stopL; first | (simp_all; done) | simp [b1, b5]))
     ·
      have b4o := b4
      replace b4 := eq_false b4
      refine Tr.rg hcx [1000045] [some 33, some 34, some 35, some 36, some 37, some 38, some 39, some 40, some 41, some 42, some 43, some 44, some 45, some 6] [] rfl rfl rfl ?_
      simp -implicitDefEqProofs (maxSteps := 2000000) (disch := first | omega | (simp only [go_sem, List.length_append, List.length_drop, List.length_take] <;> omega) | decide) only [go_sem, ↓reduceIte, Nat.reduceEqDiff, reduceCtorEq, Nat.reduceLT, Nat.reduceBEq, Nat.reduceAdd, Nat.reduceSub, Nat.reduceMul, Nat.reduceMod, h20n, b1, b5, b2, b3, b4]
      refine hK10 _ ?_
      clear hK10 K10
      refine Tr.kp [6] ?_
      simp only [pk_cons, pk_nil, ↓A_cons, ↓reduceIte, Nat.reduceEqDiff]
      refine Tr.ret ?_
      simp -implicitDefEqProofs (disch := first | omega | (simp only [go_sem, List.length_append, List.length_drop, List.length_take] <;> omega) | decide) only [go_sem, ↓reduceIte, Nat.reduceEqDiff, reduceCtorEq]
      all_goals (exact congrArg (fun z => some (C.val (.bool z))) (by unfold stopL; first | (simp_all; done) | simp [b1, b5]))
  ·
   have b5o := b5
   replace b5 := eq_false b5
   refine Tr.rg hcx [1000045] [some 33, some 34, some 35, some 36, some 37, some 38, some 39, some 40, some 41, some 42, some 43, some 44, some 45, some 6] [] rfl rfl rfl ?_
   simp -implicitDefEqProofs (maxSteps := 2000000) (disch := first | omega | (simp only [go_sem, List.length_append, List.length_drop, List.length_take] <;> omega) | decide) only [go_sem, ↓reduceIte, Nat.reduceEqDiff, reduceCtorEq, Nat.reduceLT, Nat.reduceBEq, Nat.reduceAdd, Nat.reduceSub, Nat.reduceMul, Nat.reduceMod, h20n, b1, b5]
   refine hK10 _ ?_
   clear hK10 K10
   refine Tr.kp [6] ?_
   simp only [pk_cons, pk_nil, ↓A_cons, ↓reduceIte, Nat.reduceEqDiff]
   refine Tr.ret ?_
   simp -implicitDefEqProofs (disch := first | omega | (simp only [go_sem, List.length_append, List.length_drop, List.length_take] <;> omega) | decide) only [go_sem, ↓reduceIte, Nat.reduceEqDiff, reduceCtorEq]
   all_goals (exact congrArg (fun z => some (C.val (.bool z))) (by unfold stopL; first | (simp_all; done) | simp [b1, b5]))
end Go.Sx
namespace Go.Sx
open Go.RowKit Go.Proofs
def exT : List Tok := [⟨0, 3, 0⟩, ⟨4, 8, 0⟩, ⟨9, 11, 0⟩, ⟨12, 16, 0⟩, ⟨16, 17, 2⟩, ⟨18, 21, 0⟩, ⟨22, 23, 3⟩, ⟨23, 24, 2⟩, ⟨25, 27, 1⟩, ⟨28, 32, 0⟩, ⟨32, 33, 2⟩]
theorem exT_len : exT.length = 11 := rfl
theorem eqC_52 (d : Nat) (x y : Tok) : eqC Try.prog (d + 2) 52 (.agg (tC x)) (.agg (tC y)) = some (decide (x = y)) := by
  unfold eqC
  rw [td52]
  simp only []
  rw [if_neg (by rw [show Try.prog.stoodInHeld 52 = false by kernel_rfl]; simp)]
  simp only [C.agg?]
  show eqFs Try.prog (eqC Try.prog (d + 1)) (tC x) (tC y) _ = _
  rw [eqF_cons _ _ (by decide) rfl rfl rfl (eqC_n d x.a y.a), eqF_cons _ _ (by decide) rfl rfl rfl (eqC_n d x.e y.e), eqF_cons _ _ (by decide) rfl rfl rfl (eqC_n d x.k y.k)]
  cases x; cases y
  simp only [eqFs, decide_eq_true_eq, Tok.mk.injEq]
  split
  · rename_i h1
    split
    · rename_i h2
      split
      · rename_i h3; simp [h1, h2, h3]
      · rename_i h3; simp [h3]
    · rename_i h2; simp [h2]
  · rename_i h1; simp [h1]
theorem eq52 (op : BinOp) (x y : Tok) : binPlan Try.prog op 52 (.agg (tC x)) (.agg (tC y)) = eqR op (decide (x = y)) := eqPlan_some Try.prog op (by kernel_rfl) (eqC_52 7 x y)
theorem eq52b (op : BinOp) (x : Tok) (a b c : Nat) : binPlan Try.prog op 52 (.agg (tC x)) (.agg [.val (nI a), .val (nI b), .val (nI c)]) = eqR op (decide (x = ⟨a, b, c⟩)) := eq52 op x ⟨a, b, c⟩
theorem ex_r4 : rda ((cl tC exT).drop 12) 0 3 = some (.agg (tC ⟨16, 17, 2⟩)) := rfl
theorem ex_r8 : rda ((cl tC exT).drop 24) 0 3 = some (.agg (tC ⟨25, 27, 1⟩)) := rfl
theorem bsA_pair2 (u : TypeDesc) (y : Nat) (p q : Nat × Nat) : bsA (some ⟨u, 2, y, List.replicate 2 (nI 0)⟩) 2 [(0, .agg (pC p)), (1, .agg (pC q))] = some (vp (sl pC .full [p, q])) := by
  unfold bsA
  simp only []
  rw [if_pos ⟨by decide, by decide, rfl, rfl⟩]
  rfl
theorem ex_f6 : fieldAddrPlan Try.prog 52 (.kp ((cl tC exT).drop 18)) 2 = some (vp (.kp (((cl tC exT).drop 18).drop 2))) := by
  unfold fieldAddrPlan; simp only [td52]; show (match td Try.prog 3 with | some de => _ | none => none) = _; rw [td3]; rfl
theorem ex_r6 : rdc (((cl tC exT).drop 18).drop 2) 0 = some (.val (nI 3)) := rfl
theorem ex11 : (exT.length = 11) = True := eq_true rfl
theorem ex_toks : toks [84, 104, 101, 32, 107, 105, 110, 103, 32, 111, 102, 32, 82, 111, 109, 101, 44, 32, 115, 101, 101, 32, 64, 46, 32, 49, 50, 32, 111, 100, 101, 115, 33] = exT := by kernel_rfl
theorem ex_c8 : cutT [84, 104, 101, 32, 107, 105, 110, 103, 32, 111, 102, 32, 82, 111, 109, 101, 44, 32, 115, 101, 101, 32, 64, 46, 32, 49, 50, 32, 111, 100, 101, 115, 33] 8 = ([84, 104, 101, 32, 107, 105, 110, 103, 32, 111, 102, 32, 82, 111, 109, 101, 44, 32, 115, 101, 101, 32, 64, 46], [49, 50, 32, 111, 100, 101, 115, 33], 0) := by kernel_rfl
theorem ex_c4 : cutT [84, 104, 101, 32, 107, 105, 110, 103, 32, 111, 102, 32, 82, 111, 109, 101, 44, 32, 115, 101, 101, 32, 64, 46, 32, 49, 50, 32, 111, 100, 101, 115, 33] 4 = ([], [], 5) := by kernel_rfl
theorem ex_c0 : cutT [84, 104, 101, 32, 107, 105, 110, 103, 32, 111, 102, 32, 82, 111, 109, 101, 44, 32, 115, 101, 101, 32, 64, 46, 32, 49, 50, 32, 111, 100, 101, 115, 33] 0 = ([], [], 5) := by kernel_rfl
def exW : List (List UInt8) := [[116, 104, 101], [107, 105, 110, 103], [111, 102], [114, 111, 109, 101], [115, 101, 101], [111, 100, 101, 115]]
theorem ex_words : wordsT [84, 104, 101, 32, 107, 105, 110, 103, 32, 111, 102, 32, 82, 111, 109, 101, 44, 32, 115, 101, 101, 32, 64, 46, 32, 49, 50, 32, 111, 100, 101, 115, 33] = exW := by kernel_rfl
theorem exW_mk : sl sC .full (((((((List.replicate 6 []).set 0 [116, 104, 101]).set 1 [107, 105, 110, 103]).set 2 [111, 102]).set 3 [114, 111, 109, 101]).set 4 [115, 101, 101]).set 5 [111, 100, 101, 115]) = sl sC .full exW := rfl
theorem ex_part : part [84, 104, 101, 32, 107, 105, 110, 103, 32, 111, 102, 32, 82, 111, 109, 101, 44, 32, 115, 101, 101, 32, 64, 46, 32, 49, 50, 32, 111, 100, 101, 115, 33] 3 5 = [82, 111, 109, 101, 44] := by kernel_rfl
theorem ex_sents : sents [84, 104, 101, 32, 107, 105, 110, 103, 32, 111, 102, 32, 82, 111, 109, 101, 44, 32, 115, 101, 101, 32, 64, 46, 32, 49, 50, 32, 111, 100, 101, 115, 33] = [(0, 8), (8, 11)] := by kernel_rfl
theorem ex_marks : marksT [84, 104, 101, 32, 107, 105, 110, 103, 32, 111, 102, 32, 82, 111, 109, 101, 44, 32, 115, 101, 101, 32, 64, 46, 32, 49, 50, 32, 111, 100, 101, 115, 33] = [6] := by kernel_rfl
theorem ex_valid : validE [84, 104, 101, 32, 107, 105, 110, 103, 32, 111, 102, 32, 82, 111, 109, 101, 44, 32, 115, 101, 101, 32, 64, 46, 32, 49, 50, 32, 111, 100, 101, 115, 33] = 0 := by kernel_rfl
theorem ex_valid2 : validE [97, 32, 32, 98] = 2 := by kernel_rfl
set_option maxRecDepth 100000 in
set_option maxHeartbeats 8000000 in
theorem fc14 {gl : Nat → C} {M : Nat} {pu : Nat → List C → Option C}  (hcx : CxOK (cxP gl M pu)) (h12 : ∀ s : List UInt8, s.length ≤ 1000000 → pu 12 [.val (str s)] = some (.val (nI (validE s)))) (h18 : ∀ s : List UInt8, s.length ≤ 1000000 → pu 18 [.val (str s)] = some (sl tC (.own 3) (toks s))) (h20 : ∀ (s : List UInt8) (f t : Int), s.length ≤ 1000000 → -9223372036854775808 ≤ f ∧ f ≤ 9223372036854775807 → -9223372036854775808 ≤ t ∧ t ≤ 9223372036854775807 → pu 20 [.val (str s), .val (.int .i64 f), .val (.int .i64 t)] = some (.val (str (part s f t)))) (h22 : ∀ s : List UInt8, s.length ≤ 1000000 → pu 22 [.val (str s)] = some (.val (str (s.map low)))) (h24 : ∀ x y : List (List UInt8), x.length < 9223372036854775807 → pu 24 [sl sC .no x, sl sC .no y] = some (.val (.bool (decide (x = y))))) (h25 : ∀ s : List UInt8, s.length ≤ 1000000 → pu 25 [.val (str s)] = some (sl sC (.own 1) (wordsT s))) (h27 : ∀ x y : List (Nat × Nat), x.length < 9223372036854775807 → pu 27 [sl pC .no x, sl pC .no y] = some (.val (.bool (decide (x = y))))) (h28 : ∀ s : List UInt8, s.length ≤ 1000000 → pu 28 [.val (str s)] = some (sl pC (.own 2) (sents s))) (h30 : ∀ x y : List Int, x.length < 9223372036854775807 → pu 30 [sl iC .no x, sl iC .no y] = some (.val (.bool (decide (x = y))))) (h31 : ∀ s : List UInt8, s.length ≤ 1000000 → pu 31 [.val (str s)] = some (sl nC (.own 1) (marksT s))) (h33 : ∀ a b : List UInt8, a.length ≤ 1000000 → b.length ≤ 1000000 → pu 33 [.val (str a), .val (str b)] = some (.val (str (joinT a b)))) (h35 : ∀ (s : List UInt8) (k : Int), s.length ≤ 1000000 → -9223372036854775808 ≤ k ∧ k ≤ 9223372036854775807 → pu 35 [.val (str s), .val (.int .i64 k)] = some (.tup [.val (str (cutT s k).1), .val (str (cutT s k).2.1), .val (nI (cutT s k).2.2)]))  : FC Try.prog gl 14 [] [] (.val (.bool true)) [] := by
 replace hcx := hcx.reN (M := 112)
 refine FC.ofA (cx := cxP gl 112 pu) (rs := [.tmp 0]) rfl Try.func14 rfl rfl rfl (by simp only [List.length_cons, List.length_nil]; decide) (by simp only [go_sem]) ?_
 simp only [ini, go_sem]
 have e18 : pu 18 [.val (str [84, 104, 101, 32, 107, 105, 110, 103, 32, 111, 102, 32, 82, 111, 109, 101, 44, 32, 115, 101, 101, 32, 64, 46, 32, 49, 50, 32, 111, 100, 101, 115, 33])] = some (sl tC (.own 3) exT) := by rw [h18 _ (by decide), ex_toks]
 have e35a : pu 35 [.val (str [84, 104, 101, 32, 107, 105, 110, 103, 32, 111, 102, 32, 82, 111, 109, 101, 44, 32, 115, 101, 101, 32, 64, 46, 32, 49, 50, 32, 111, 100, 101, 115, 33]), .val (nI 8)] = some (.tup [.val (str [84, 104, 101, 32, 107, 105, 110, 103, 32, 111, 102, 32, 82, 111, 109, 101, 44, 32, 115, 101, 101, 32, 64, 46]), .val (str [49, 50, 32, 111, 100, 101, 115, 33]), .val (nI 0)]) := by rw [show nI 8 = .int .i64 8 from rfl, h35 _ _ (by decide) (by decide), ex_c8]
 have e35b : pu 35 [.val (str [84, 104, 101, 32, 107, 105, 110, 103, 32, 111, 102, 32, 82, 111, 109, 101, 44, 32, 115, 101, 101, 32, 64, 46, 32, 49, 50, 32, 111, 100, 101, 115, 33]), .val (nI 4)] = some (.tup [.val (str []), .val (str []), .val (nI 5)]) := by rw [show nI 4 = .int .i64 4 from rfl, h35 _ _ (by decide) (by decide), ex_c4]
 have e35c : pu 35 [.val (str [84, 104, 101, 32, 107, 105, 110, 103, 32, 111, 102, 32, 82, 111, 109, 101, 44, 32, 115, 101, 101, 32, 64, 46, 32, 49, 50, 32, 111, 100, 101, 115, 33]), .val (nI 0)] = some (.tup [.val (str []), .val (str []), .val (nI 5)]) := by rw [show nI 0 = .int .i64 0 from rfl, h35 _ _ (by decide) (by decide), ex_c0]
 have e33 : pu 33 [.val (str [84, 104, 101, 32, 107, 105, 110, 103, 32, 111, 102, 32, 82, 111, 109, 101, 44, 32, 115, 101, 101, 32, 64, 46]), .val (str [49, 50, 32, 111, 100, 101, 115, 33])] = some (.val (str [84, 104, 101, 32, 107, 105, 110, 103, 32, 111, 102, 32, 82, 111, 109, 101, 44, 32, 115, 101, 101, 32, 64, 46, 32, 49, 50, 32, 111, 100, 101, 115, 33])) := by rw [h33 _ _ (by decide) (by decide)]; rfl
 have e25 : pu 25 [.val (str [84, 104, 101, 32, 107, 105, 110, 103, 32, 111, 102, 32, 82, 111, 109, 101, 44, 32, 115, 101, 101, 32, 64, 46, 32, 49, 50, 32, 111, 100, 101, 115, 33])] = some (sl sC (.own 1) exW) := by rw [h25 _ (by decide), ex_words]
 have e24 : pu 24 [sl sC .no exW, sl sC .no exW] = some (.val (.bool true)) := by rw [h24 _ _ (by decide)]; simp
 have e22 : pu 22 [.val (str [82, 111, 109, 101, 32, 49, 50])] = some (.val (str [114, 111, 109, 101, 32, 49, 50])) := by rw [h22 _ (by decide)]; rfl
 have e20 : pu 20 [.val (str [84, 104, 101, 32, 107, 105, 110, 103, 32, 111, 102, 32, 82, 111, 109, 101, 44, 32, 115, 101, 101, 32, 64, 46, 32, 49, 50, 32, 111, 100, 101, 115, 33]), .val (nI 3), .val (nI 5)] = some (.val (str [82, 111, 109, 101, 44])) := by rw [show nI 3 = .int .i64 3 from rfl, show nI 5 = .int .i64 5 from rfl, h20 _ _ _ (by decide) (by decide) (by decide), ex_part]
 have e28 : pu 28 [.val (str [84, 104, 101, 32, 107, 105, 110, 103, 32, 111, 102, 32, 82, 111, 109, 101, 44, 32, 115, 101, 101, 32, 64, 46, 32, 49, 50, 32, 111, 100, 101, 115, 33])] = some (sl pC (.own 2) [(0, 8), (8, 11)]) := by rw [h28 _ (by decide), ex_sents]
 have e27 : pu 27 [sl pC .no [(0, 8), (8, 11)], sl pC .no [(0, 8), (8, 11)]] = some (.val (.bool true)) := by rw [h27 _ _ (by decide)]; simp
 have e31 : pu 31 [.val (str [84, 104, 101, 32, 107, 105, 110, 103, 32, 111, 102, 32, 82, 111, 109, 101, 44, 32, 115, 101, 101, 32, 64, 46, 32, 49, 50, 32, 111, 100, 101, 115, 33])] = some (sl nC (.own 1) [6]) := by rw [h31 _ (by decide), ex_marks]
 have e30 : pu 30 [sl nC .no [6], sl nC .no [6]] = some (.val (.bool true)) := (h30 [6] [6] (by decide)).trans (by simp)
 have e12a : pu 12 [.val (str [84, 104, 101, 32, 107, 105, 110, 103, 32, 111, 102, 32, 82, 111, 109, 101, 44, 32, 115, 101, 101, 32, 64, 46, 32, 49, 50, 32, 111, 100, 101, 115, 33])] = some (.val (nI 0)) := by rw [h12 _ (by decide), ex_valid]
 have e12b : pu 12 [.val (str [97, 32, 32, 98])] = some (.val (nI 2)) := by rw [h12 _ (by decide), ex_valid2]
 refine Tr.seqK fun K1 hK1 => ?_
 refine Tr.rg hcx [] _ [] rfl rfl rfl ?_
 simp -implicitDefEqProofs (maxSteps := 2000000) (disch := first | omega | (simp only [go_sem, List.length_append, List.length_drop, List.length_take, exT_len] <;> omega) | decide) only [go_sem, ↓reduceIte, Nat.reduceEqDiff, reduceCtorEq, Nat.reduceLT, Nat.reduceBEq, Nat.reduceAdd, Nat.reduceSub, Nat.reduceMul, Nat.reduceMod, e18, e35a, e35b, e35c, e33, e25, e24, e22, e20, e28, e27, e31, e30, e12a, e12b, exW_mk, bsA_pair2, eq_self, decide_true, decide_false, not_true_eq_false]
 refine hK1 _ ?_
 clear hK1 K1
 refine Tr.kp [] ?_
 simp only [pk_cons, pk_nil, ↓A_cons, ↓reduceIte, Nat.reduceEqDiff]
 refine Tr.seqK fun K2 hK2 => ?_
 refine Tr.rg hcx [1000013] _ [] rfl rfl rfl ?_
 simp -implicitDefEqProofs (maxSteps := 2000000) (disch := first | omega | (simp only [go_sem, List.length_append, List.length_drop, List.length_take, exT_len] <;> omega) | decide) only [go_sem, ↓reduceIte, Nat.reduceEqDiff, reduceCtorEq, Nat.reduceLT, Nat.reduceBEq, Nat.reduceAdd, Nat.reduceSub, Nat.reduceMul, Nat.reduceMod, e18, e35a, e35b, e35c, e33, e25, e24, e22, e20, e28, e27, e31, e30, e12a, e12b, exW_mk, bsA_pair2, eq_self, decide_true, decide_false, not_true_eq_false]
 refine hK2 _ ?_
 clear hK2 K2
 refine Tr.kp [1] ?_
 simp only [pk_cons, pk_nil, ↓A_cons, ↓reduceIte, Nat.reduceEqDiff]
 refine Tr.seqK fun K3 hK3 => ?_
 refine Tr.seqK fun K4 hK4 => ?_
 refine Tr.rg hcx [] [some 14, some 15, some 16, some 17, some 18, some 19, some 20, some 21, some 22, some 23, some 24, some 25, some 26, some 27, some 28, some 29, some 30, some 31, some 32, some 33, some 34, some 35, some 36, some 37] [] rfl rfl rfl ?_
 simp -implicitDefEqProofs (maxSteps := 2000000) (disch := first | omega | (simp only [go_sem, List.length_append, List.length_drop, List.length_take, exT_len] <;> omega) | decide) only [go_sem, ↓reduceIte, Nat.reduceEqDiff, reduceCtorEq, Nat.reduceLT, Nat.reduceBEq, Nat.reduceAdd, Nat.reduceSub, Nat.reduceMul, Nat.reduceMod, e18, e35a, e35b, e35c, e33, e25, e24, e22, e20, e28, e27, e31, e30, e12a, e12b, exW_mk, bsA_pair2, eq_self, decide_true, decide_false, not_true_eq_false, ex11, not_false_eq_true, ex_r4, ex_f6, ex_r6, ex_r8, eq52b]
 refine hK4 _ ?_
 clear hK4 K4
 refine Tr.kp [37] ?_
 simp only [pk_cons, pk_nil, ↓A_cons, ↓reduceIte, Nat.reduceEqDiff]
 refine Tr.condG fun KT KF hT hF => ?_
 simp only [ev_tmp, ev_const, ↓A_cons, ↓reduceIte, Nat.reduceEqDiff, reduceCtorEq, condG_bool, GB_true, GB_false, decide_eq_true_eq]
 refine hF ?_
 clear hT hF KT KF
 refine Tr.skip ?_
 refine hK3 _ ?_
 clear hK3 K3
 refine Tr.kp [] ?_
 simp only [pk_cons, pk_nil, ↓A_cons, ↓reduceIte, Nat.reduceEqDiff]
 refine Tr.seqK fun K5 hK5 => ?_
 refine Tr.rg hcx [1000040, 1000041, 1000042] _ [] rfl rfl rfl ?_
 simp -implicitDefEqProofs (maxSteps := 2000000) (disch := first | omega | (simp only [go_sem, List.length_append, List.length_drop, List.length_take, exT_len] <;> omega) | decide) only [go_sem, ↓reduceIte, Nat.reduceEqDiff, reduceCtorEq, Nat.reduceLT, Nat.reduceBEq, Nat.reduceAdd, Nat.reduceSub, Nat.reduceMul, Nat.reduceMod, e18, e35a, e35b, e35c, e33, e25, e24, e22, e20, e28, e27, e31, e30, e12a, e12b, exW_mk, bsA_pair2, eq_self, decide_true, decide_false, not_true_eq_false]
 refine hK5 _ ?_
 clear hK5 K5
 refine Tr.kp [2, 3, 4] ?_
 simp only [pk_cons, pk_nil, ↓A_cons, ↓reduceIte, Nat.reduceEqDiff]
 refine Tr.seqK fun K6 hK6 => ?_
 refine Tr.rg hcx [1000045, 1000046, 1000047] _ [] rfl rfl rfl ?_
 simp -implicitDefEqProofs (maxSteps := 2000000) (disch := first | omega | (simp only [go_sem, List.length_append, List.length_drop, List.length_take, exT_len] <;> omega) | decide) only [go_sem, ↓reduceIte, Nat.reduceEqDiff, reduceCtorEq, Nat.reduceLT, Nat.reduceBEq, Nat.reduceAdd, Nat.reduceSub, Nat.reduceMul, Nat.reduceMod, e18, e35a, e35b, e35c, e33, e25, e24, e22, e20, e28, e27, e31, e30, e12a, e12b, exW_mk, bsA_pair2, eq_self, decide_true, decide_false, not_true_eq_false]
 refine hK6 _ ?_
 clear hK6 K6
 refine Tr.kp [2, 3, 4, 7] ?_
 simp only [pk_cons, pk_nil, ↓A_cons, ↓reduceIte, Nat.reduceEqDiff]
 refine Tr.seqK fun K7 hK7 => ?_
 refine Tr.rg hcx [1000050, 1000051, 1000052] _ [] rfl rfl rfl ?_
 simp -implicitDefEqProofs (maxSteps := 2000000) (disch := first | omega | (simp only [go_sem, List.length_append, List.length_drop, List.length_take, exT_len] <;> omega) | decide) only [go_sem, ↓reduceIte, Nat.reduceEqDiff, reduceCtorEq, Nat.reduceLT, Nat.reduceBEq, Nat.reduceAdd, Nat.reduceSub, Nat.reduceMul, Nat.reduceMod, e18, e35a, e35b, e35c, e33, e25, e24, e22, e20, e28, e27, e31, e30, e12a, e12b, exW_mk, bsA_pair2, eq_self, decide_true, decide_false, not_true_eq_false]
 refine hK7 _ ?_
 clear hK7 K7
 refine Tr.kp [2, 3, 4, 7, 10] ?_
 simp only [pk_cons, pk_nil, ↓A_cons, ↓reduceIte, Nat.reduceEqDiff]
 refine Tr.seqK fun K8 hK8 => ?_
 refine Tr.rg hcx [1000076] [some 53, some 54, some 55, some 56, some 57, some 58, some 59, some 60, some 61, some 62, some 63, some 64, some 65, some 66, some 67, some 68, some 69, some 70, some 71, some 72, some 73, some 74, some 75, some 76, some 11] [] rfl rfl rfl ?_
 simp -implicitDefEqProofs (maxSteps := 2000000) (disch := first | omega | (simp only [go_sem, List.length_append, List.length_drop, List.length_take, exT_len] <;> omega) | decide) only [go_sem, ↓reduceIte, Nat.reduceEqDiff, reduceCtorEq, Nat.reduceLT, Nat.reduceBEq, Nat.reduceAdd, Nat.reduceSub, Nat.reduceMul, Nat.reduceMod, e18, e35a, e35b, e35c, e33, e25, e24, e22, e20, e28, e27, e31, e30, e12a, e12b, exW_mk, bsA_pair2, eq_self, decide_true, decide_false, not_true_eq_false]
 refine hK8 _ ?_
 clear hK8 K8
 refine Tr.kp [11] ?_
 simp only [pk_cons, pk_nil, ↓A_cons, ↓reduceIte, Nat.reduceEqDiff]
 refine Tr.seqK fun K9 hK9 => ?_
 refine Tr.rg hcx [1000083] [some 77, some 78, some 79, some 80, some 81, some 82, some 83, some 12] [] rfl rfl rfl ?_
 simp -implicitDefEqProofs (maxSteps := 2000000) (disch := first | omega | (simp only [go_sem, List.length_append, List.length_drop, List.length_take, exT_len] <;> omega) | decide) only [go_sem, ↓reduceIte, Nat.reduceEqDiff, reduceCtorEq, Nat.reduceLT, Nat.reduceBEq, Nat.reduceAdd, Nat.reduceSub, Nat.reduceMul, Nat.reduceMod, e18, e35a, e35b, e35c, e33, e25, e24, e22, e20, e28, e27, e31, e30, e12a, e12b, exW_mk, bsA_pair2, eq_self, decide_true, decide_false, not_true_eq_false]
 refine hK9 _ ?_
 clear hK9 K9
 refine Tr.kp [11, 12] ?_
 simp only [pk_cons, pk_nil, ↓A_cons, ↓reduceIte, Nat.reduceEqDiff]
 refine Tr.seqK fun K10 hK10 => ?_
 refine Tr.rg hcx [1000111] [some 84, some 85, some 86, some 87, some 88, some 89, some 90, some 91, some 92, some 93, some 94, some 95, some 96, some 97, some 98, some 99, some 100, some 101, some 102, some 103, some 104, some 105, some 106, some 107, some 108, some 109, some 110, some 111, some 0] [] rfl rfl rfl ?_
 simp -implicitDefEqProofs (maxSteps := 2000000) (disch := first | omega | (simp only [go_sem, List.length_append, List.length_drop, List.length_take, exT_len] <;> omega) | decide) only [go_sem, ↓reduceIte, Nat.reduceEqDiff, reduceCtorEq, Nat.reduceLT, Nat.reduceBEq, Nat.reduceAdd, Nat.reduceSub, Nat.reduceMul, Nat.reduceMod, e18, e35a, e35b, e35c, e33, e25, e24, e22, e20, e28, e27, e31, e30, e12a, e12b, exW_mk, bsA_pair2, eq_self, decide_true, decide_false, not_true_eq_false]
 refine hK10 _ ?_
 clear hK10 K10
 refine Tr.kp [0] ?_
 simp only [pk_cons, pk_nil, ↓A_cons, ↓reduceIte, Nat.reduceEqDiff]
 refine Tr.ret ?_
 simp -implicitDefEqProofs (disch := first | omega | (simp only [go_sem, List.length_append, List.length_drop, List.length_take, exT_len] <;> omega) | decide) only [go_sem, ↓reduceIte, Nat.reduceEqDiff, reduceCtorEq]
 all_goals (rfl)
end Go.Sx
namespace Go.Sx
theorem gt_drop {α : Type} [Inhabited α] (l : List α) (n i : Nat) : gt (l.drop n) i = gt l (n + i) := by
  simp [gt, List.getD]
theorem gt_mem {α : Type} [Inhabited α] {l : List α} {i : Nat} (h : i < l.length) : gt l i ∈ l := by
  have e : gt l i = l[i] := by simp [gt, List.getD, List.getElem?_eq_getElem h]
  rw [e]; exact List.getElem_mem h
theorem drop_cons {α : Type} [Inhabited α] {s : List α} {p : Nat} (h : p < s.length) : s.drop p = gt s p :: s.drop (p + 1) := by
  have e : gt s p = s[p] := by simp [gt, List.getD, List.getElem?_eq_getElem h]
  rw [e]; exact List.drop_eq_getElem_cons h
theorem rnL_get (k : Nat) : ∀ (l : List UInt8) (i : Nat), i < rnL k l → kd (gt l i) = k ∧ k < 2
  | [], i, h => by simp [rnL] at h
  | c :: r, i, h => by
    unfold rnL at h
    split at h
    · rename_i hc
      cases i with
      | zero => rw [gt_cons0]; exact ⟨hc.2, hc.1⟩
      | succ i => rw [gt_consS]; exact rnL_get k r i (by omega)
    · omega
theorem rnL_end (k : Nat) (hk : k < 2) : ∀ (l : List UInt8), rnL k l < l.length → kd (gt l (rnL k l)) ≠ k
  | [], h => by simp at h
  | c :: r, h => by
    by_cases hc : k < 2 ∧ kd c = k
    · have e : rnL k (c :: r) = rnL k r + 1 := if_pos hc
      rw [e] at h ⊢
      rw [gt_consS]
      exact rnL_end k hk r (by simpa using h)
    · have e : rnL k (c :: r) = 0 := if_neg hc
      rw [e, gt_cons0]
      exact fun h2 => hc ⟨hk, h2⟩
/-- Tokens cover a text from a place on. -/
def Cov (s : List UInt8) : Nat → Option Nat → List Tok → Prop
  | at', _, [] => ∀ j, at' ≤ j → j < s.length → gt s j = 32
  | at', pk, t :: r => (at' ≤ t.a ∧ t.a < t.e ∧ t.e ≤ s.length ∧ t.k ≤ 3) ∧ (∀ j, at' ≤ j → j < t.a → gt s j = 32) ∧ (∀ j, t.a ≤ j → j < t.e → gt s j ≠ 32 ∧ kd (gt s j) = t.k) ∧ (1 < t.k → t.e = t.a + 1) ∧ (t.k ≤ 1 → pk = some t.k → at' < t.a) ∧ Cov s t.e (some t.k) r
theorem cov_spl (s : List UInt8) : ∀ (m p : Nat) (at' : Nat) (pk : Option Nat), s.length - p ≤ m → at' ≤ p → p ≤ s.length → (∀ j, at' ≤ j → j < p → gt s j = 32) →
    (at' = p → ∀ k, pk = some k → k < 2 → p < s.length → kd (gt s p) ≠ k) → Cov s at' pk (spl p none (s.drop p)) := by
  intro m
  induction m with
  | zero =>
    intro p at' pk h1 h2 h3 h4 h5
    have hp : p = s.length := by omega
    subst hp
    rw [List.drop_length]
    exact fun j hj1 hj2 => h4 j hj1 hj2
  | succ m ih =>
    intro p at' pk h1 h2 h3 h4 h5
    by_cases hp : p < s.length
    · rw [drop_cons hp]
      by_cases hc : gt s p = 32
      · rw [hc, spl_blank]
        refine ih (p + 1) at' pk (by omega) (by omega) (by omega) (fun j hj1 hj2 => ?_) (fun e => by omega)
        by_cases hj : j < p
        · exact h4 j hj1 hj
        · have : j = p := by omega
          rw [this]; exact hc
      · rw [spl_tok p _ _ hc]
        have hr := rnL_le (kd (gt s p)) (s.drop (p + 1))
        rw [List.length_drop] at hr
        have hkle := kd_le (gt s p)
        rw [List.drop_drop]
        have hall : ∀ j, p ≤ j → j < p + 1 + rnL (kd (gt s p)) (s.drop (p + 1)) → gt s j ≠ 32 ∧ kd (gt s j) = kd (gt s p) := fun j hj1 hj2 => by
          by_cases hj : j = p
          · subst hj; exact ⟨hc, rfl⟩
          · have := rnL_get (kd (gt s p)) (s.drop (p + 1)) (j - (p + 1)) (by omega)
            rw [gt_drop, show p + 1 + (j - (p + 1)) = j by omega] at this
            refine ⟨fun h => ?_, this.1⟩
            rw [h, kd_blank] at this; omega
        refine ⟨⟨h2, by simp only []; omega, by simp only []; omega, hkle⟩, h4, hall, fun hk => ?_, fun hk hp' => ?_, ?_⟩
        · have : rnL (kd (gt s p)) (s.drop (p + 1)) = 0 := by
            rcases Nat.eq_zero_or_pos (rnL (kd (gt s p)) (s.drop (p + 1))) with h | h
            · exact h
            · have := (rnL_get _ _ 0 h).2
              simp only [] at hk; omega
          simp only []; omega
        · simp only [] at hk hp' ⊢
          rcases Nat.lt_or_eq_of_le h2 with h | h
          · exact h
          · exact absurd rfl (h5 h _ hp' (by omega) hp)
        · have e : s.drop (p + 1 + rnL (kd (gt s p)) (s.drop (p + 1))) = s.drop (p + 1 + rnL (kd (gt s p)) (s.drop (p + 1))) := rfl
          refine ih _ _ _ (by omega) (Nat.le_refl _) (by omega) (fun j a b => absurd (Nat.lt_of_le_of_lt a b) (Nat.lt_irrefl _)) (fun _ k hk hk2 hl => ?_)
          cases hk
          have := rnL_end (kd (gt s p)) hk2 (s.drop (p + 1)) (by rw [List.length_drop]; omega)
          rw [gt_drop] at this
          exact this
    · have hp' : p = s.length := by omega
      subst hp'
      rw [List.drop_length]
      exact fun j hj1 hj2 => h4 j hj1 hj2
theorem toks_cov (s : List UInt8) : Cov s 0 none (toks s) := by
  have := cov_spl s s.length 0 0 none (by omega) (Nat.le_refl _) (Nat.zero_le _) (fun j a b => by omega) (fun _ k hk => by cases hk)
  rwa [List.drop_zero] at this
/-- Where the token before ends. -/
def preE (at' : Nat) (l : List Tok) (i : Nat) : Nat := if i = 0 then at' else (gt l (i - 1)).e
theorem Cov.get {s : List UInt8} : ∀ {l : List Tok} {at' : Nat} {pk : Option Nat}, Cov s at' pk l → ∀ i, i < l.length →
    (preE at' l i ≤ (gt l i).a ∧ (gt l i).a < (gt l i).e ∧ (gt l i).e ≤ s.length ∧ (gt l i).k ≤ 3) ∧ (∀ j, preE at' l i ≤ j → j < (gt l i).a → gt s j = 32) ∧
    (∀ j, (gt l i).a ≤ j → j < (gt l i).e → gt s j ≠ 32 ∧ kd (gt s j) = (gt l i).k) ∧ (1 < (gt l i).k → (gt l i).e = (gt l i).a + 1) ∧ (0 < i → (gt l i).k ≤ 1 → (gt l i).a = preE at' l i → (gt l i).k ≠ (gt l (i - 1)).k)
  | [], _, _, _, i, hi => by simp at hi
  | t :: r, at', pk, h, 0, _ => by
    obtain ⟨h1, h2, h3, h4, h5, h6⟩ := h
    exact ⟨h1, h2, h3, h4, fun h => absurd h (Nat.lt_irrefl 0)⟩
  | t :: r, at', pk, h, i + 1, hi => by
    obtain ⟨h1, h2, h3, h4, h5, h6⟩ := h
    have ih := h6.get i (by simpa using hi)
    have e : preE at' (t :: r) (i + 1) = preE t.e r i := by
      unfold preE
      rw [if_neg (by omega)]
      cases i with
      | zero => rfl
      | succ i => rw [if_neg (by omega)]; simp only [Nat.add_sub_cancel]; rw [gt_consS]
    rw [e]
    simp only [gt_consS, Nat.add_sub_cancel]
    refine ⟨ih.1, ih.2.1, ih.2.2.1, ih.2.2.2.1, fun _ hk ha => ?_⟩
    cases i with
    | zero =>
      rw [gt_cons0]
      intro hkk
      cases r with
      | nil => simp at hi
      | cons t2 r2 =>
        obtain ⟨q1, q2, q3, q4, q5, q6⟩ := h6
        rw [gt_cons0] at hk hkk ha
        have := q5 hk (by rw [hkk])
        have ha' : t2.a = t.e := ha
        omega
    | succ i =>
      have := ih.2.2.2.2 (by omega) hk ha
      rw [gt_consS]; exact this
theorem Cov.tail {s : List UInt8} : ∀ {l : List Tok} {at' : Nat} {pk : Option Nat}, Cov s at' pk l → ∀ j, preE at' l l.length ≤ j → j < s.length → gt s j = 32
  | [], at', _, h, j, h1, h2 => h j h1 h2
  | t :: r, at', pk, h, j, h1, h2 => by
    obtain ⟨_, _, _, _, _, h6⟩ := h
    refine h6.tail j ?_ h2
    have e : preE at' (t :: r) (t :: r).length = preE t.e r r.length := by
      unfold preE
      rw [if_neg (by simp)]
      cases r with
      | nil => rfl
      | cons t2 r2 => rw [if_neg (by simp)]; simp only [List.length_cons, Nat.add_sub_cancel]; rw [gt_consS]
    rw [← e]; exact h1
theorem toks_at (s : List UInt8) (i : Nat) (h : i < (toks s).length) : (preE 0 (toks s) i ≤ (gt (toks s) i).a ∧ (gt (toks s) i).a < (gt (toks s) i).e ∧ (gt (toks s) i).e ≤ s.length ∧ (gt (toks s) i).k ≤ 3) ∧ (∀ j, preE 0 (toks s) i ≤ j → j < (gt (toks s) i).a → gt s j = 32) ∧
    (∀ j, (gt (toks s) i).a ≤ j → j < (gt (toks s) i).e → gt s j ≠ 32 ∧ kd (gt s j) = (gt (toks s) i).k) ∧ (1 < (gt (toks s) i).k → (gt (toks s) i).e = (gt (toks s) i).a + 1) ∧ (0 < i → (gt (toks s) i).k ≤ 1 → (gt (toks s) i).a = preE 0 (toks s) i → (gt (toks s) i).k ≠ (gt (toks s) (i - 1)).k) := (toks_cov s).get i h
/-! Lengths. -/
theorem senR_len (s : List UInt8) (l : List Tok) : ∀ n, (senR s l n).2.length ≤ n
  | 0 => Nat.le_refl _
  | n + 1 => by
    have := senR_len s l n
    unfold senR senF
    split
    · simp; omega
    · omega
theorem sents_len (s : List UInt8) : (sents s).length ≤ s.length := Nat.le_trans (senR_len _ _ _) (toks_len s)
/-! Small letters. -/
theorem mem_gt {α : Type} [Inhabited α] {l : List α} {x : α} (h : x ∈ l) : ∃ i, i < l.length ∧ gt l i = x := by
  obtain ⟨i, hi, e⟩ := List.getElem_of_mem h
  exact ⟨i, hi, by simp [gt, List.getD, List.getElem?_eq_getElem hi, e]⟩
theorem texts_le (l : List Int) (how by' : Int) (raw : List UInt8) (most : Int) (hm : most ≤ 6000) : (textsT l how by' raw most).length ≤ 6 ∧ 0 < (textsT l how by' raw most).length ∧ ∀ i, i < (textsT l how by' raw most).length → (gt (textsT l how by' raw most) i).length ≤ 10000 := by
  have h1 := textT_ok l 3
  have h2 := markT_ok l 0
  have h3 := spoT_len (markT l 0) how by'
  have h4 := spoT_len (spoT (markT l 0) how by') by' how
  have h5 := wildT_len l
  have key : ∀ x ∈ textsT l how by' raw most, x.length ≤ 10000 := fun x hx => by
    unfold textsT at hx
    rw [List.mem_append] at hx
    rcases hx with hx | hx
    · simp only [List.mem_cons, List.not_mem_nil, or_false] at hx
      rcases hx with rfl | rfl | rfl | rfl | rfl <;> omega
    · split at hx
      · simp only [List.mem_cons, List.not_mem_nil, or_false] at hx
        subst hx; omega
      · cases hx
  refine ⟨?_, ?_, fun i hi => key _ (gt_mem hi)⟩
  · unfold textsT; rw [List.length_append]; split <;> simp
  · unfold textsT; rw [List.length_append]; simp; omega
end Go.Sx
namespace Go.Sx
open Go.RowKit Go.Proofs
end Go.Sx
namespace Go.Sx
open Go.RowKit Go.Proofs
instance : Inhabited (Int × Int) := ⟨(0, 0)⟩
/-- Pairs of whole numbers. -/
def pI (p : Int × Int) : List C := [.val (.int .i64 p.1), .val (.int .i64 p.2)]
instance : Cel pI 2 := ⟨fun _ => rfl, fun _ => rfl, by decide, fun _ _ => rfl⟩
instance : Fla pI := ⟨fun _ => rfl⟩
theorem lay1_pII (a b : Int) : lay1 (cl nC (List.replicate 2 0)) [(0, .val (.int .i64 a)), (1, .val (.int .i64 b))] = some (vp (.agg (pI (a, b)))) := rfl
theorem rdc_pI (l : List (Int × Int)) (k : Nat) (h : k < l.length) : rdc ((cl pI l).drop (k * 2)) 0 = some (.val (.int .i64 (gt l k).1)) := by
  rw [rdc_drop]
  unfold rdc
  have e : gt l k = l[k] := by simp [gt, List.getD, List.getElem?_eq_getElem h]
  rw [show k * 2 + 0 = k * 2 + 0 from rfl, cl_getq (f := pI) l k 0 (by decide), List.getElem?_eq_getElem h, e]
  rfl
theorem rdc_pI1 (l : List (Int × Int)) (k : Nat) (h : k < l.length) : rdc (((cl pI l).drop (k * 2)).drop 1) 0 = some (.val (.int .i64 (gt l k).2)) := by
  rw [List.drop_drop, rdc_drop]
  unfold rdc
  have e : gt l k = l[k] := by simp [gt, List.getD, List.getElem?_eq_getElem h]
  rw [show k * 2 + 1 + 0 = k * 2 + 1 from rfl, cl_getq (f := pI) l k 1 (by decide), List.getElem?_eq_getElem h, e]
  rfl
attribute [go_sem high] lay1_pII rdc_pI rdc_pI1
end Go.Sx
namespace Go.Sx
open Go.RowKit Go.Proofs
end Go.Sx
namespace Go.Sx
theorem part_one (s : List UInt8) (k : Nat) (h : k < (toks s).length) : part s (k : Nat) ((k + 1 : Nat) : Int) = (s.drop (gt (toks s) k).a).take ((gt (toks s) k).e - (gt (toks s) k).a) := by
  unfold part
  rw [if_neg (by omega)]
  unfold partT
  simp only [Int.toNat_natCast, Nat.add_sub_cancel]
theorem not_bad {s : List UInt8} (h : ¬ bad s = true) (i : Nat) (hi : i < s.length) : badAt s i = false := by
  cases hb : badAt s i with
  | false => rfl
  | true => exact absurd (List.any_eq_true.2 ⟨i, List.mem_range.2 hi, hb⟩) h
theorem valid_facts {s : List UInt8} (h : validE s = 0) : s.length ≤ 4096 ∧ ¬ bad s = true ∧ 0 < s.length ∧ (toks s).length ≤ 256 := by
  unfold validE at h
  split at h
  · cases h
  · rename_i h1
    split at h
    · cases h
    · rename_i h2
      split at h
      · cases h
      · rename_i h3
        split at h
        · cases h
        · rename_i h4
          exact ⟨by omega, h2, List.length_pos_iff.2 h3, by omega⟩
theorem first_ne {s : List UInt8} (h : validE s = 0) : gt s 0 ≠ 32 := fun e => by
  obtain ⟨_, h2, h3, _⟩ := valid_facts h
  have := not_bad h2 0 h3
  unfold badAt at this
  rw [e] at this
  simp at this
theorem toks_pos {s : List UInt8} (h : validE s = 0) : 0 < (toks s).length := by
  rcases Nat.eq_zero_or_pos (toks s).length with h0 | h0
  · exfalso
    have := (toks_cov s).tail 0 (by rw [h0]; exact Nat.le_refl _) (valid_facts h).2.2.1
    exact first_ne h this
  · exact h0
end Go.Sx
namespace Go.Sx
open Go.RowKit Go.Proofs
end Go.Sx
