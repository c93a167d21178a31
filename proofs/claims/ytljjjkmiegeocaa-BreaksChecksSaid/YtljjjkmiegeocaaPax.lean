/-
  Package breaks: the laws of Cost and Check. And what follows.
-/
import Derived.Test.YtljjjkmiegeocaaPaw
import Derived.Test.YtljjjkmiegeocaaPav
set_option linter.unusedSimpArgs false
set_option linter.unusedVariables false
namespace Go.Sx
open Go.RowKit Go.Proofs
theorem LN_set {l : List Int} {n : Nat} (h : LN l n) (i : Nat) (x : Int) : LN (l.set i (wr x)) n := ⟨by rw [List.length_set]; exact h.1, fun y hy => by
  rcases List.mem_or_eq_of_mem_set hy with hy | rfl
  · exact h.2 y hy
  · exact wr_b x⟩
theorem benD_b (p : Int) : -3 ≤ benD p ∧ benD p ≤ 3 := by
  have := around_lt (p.tdiv 16) (m := 7) (by decide)
  unfold benD; omega
theorem LN_snoc {l : List Int} {n : Nat} (h : LN l n) (p : Int) : LN (l ++ [benD p]) (n + 1) := ⟨by rw [List.length_append, List.length_singleton]; have := h.1; omega, fun y hy => by
  rw [List.mem_append, List.mem_singleton] at hy
  rcases hy with hy | rfl
  · exact h.2 y hy
  · have := benD_b p; omega⟩
theorem LN.up {l : List Int} {n m : Nat} (h : LN l n) (hm : n ≤ m) : LN l m := ⟨Nat.le_trans h.1 hm, h.2⟩
theorem bent_ok {E L K : List Int} {n : Nat} (hE : LN E n) (hL : LN L n) (hK : LN K n) (h p : Int) : LN (bentT E L K h p).1 (n + 1) ∧ LN (bentT E L K h p).2.1 (n + 1) ∧ LN (bentT E L K h p).2.2 (n + 1) := by
  have up : ∀ {l : List Int}, LN l n → LN l (n + 1) := fun h => h.up (Nat.le_succ n)
  unfold bentT
  repeat' split
  all_goals refine ⟨?_, ?_, ?_⟩
  all_goals simp only []
  all_goals first
    | exact up ‹_›
    | exact up (LN_set ‹_› _ _)
    | exact LN_snoc ‹_› _
    | (split
       · exact up (LN_set ‹_› _ _)
       · exact up ‹_›)
    | skip
  · refine ⟨?_, fun y hy => ?_⟩
    · have := hE.1
      rw [List.length_append, List.length_take, List.length_drop]; omega
    · rw [List.mem_append] at hy
      rcases hy with hy | hy
      · exact hE.2 y (List.mem_of_mem_take hy)
      · exact hE.2 y (List.mem_of_mem_drop hy)
  · exact ⟨by have := hK.1; rw [List.length_drop]; omega, fun y hy => hK.2 y (List.mem_of_mem_drop hy)⟩
end Go.Sx
namespace Go.Sx
open Go.RowKit Go.Proofs
abbrev Cr := List Int × List Int × List Int
def cC (t : Cr) : List C := [sl iC .no t.1, sl iC .no t.2.1, sl iC .no t.2.2]
instance : Cel cC 3 := ⟨fun _ => rfl, fun _ => rfl, by decide, fun _ _ => rfl⟩
theorem cC_def (t : Cr) : cC t = [sl iC .no t.1, sl iC .no t.2.1, sl iC .no t.2.2] := rfl
theorem bsC5 (u : TypeDesc) (y : Nat) (a b c a1 b1 c1 a2 b2 c2 a3 b3 c3 : List Int) :
    bsA (some ⟨u, 3, y, [.slice none 0 0, .slice none 0 0, .slice none 0 0]⟩) 5 [(0, .agg [sl iC .no a, sl iC .no b, sl iC .no c]), (1, .agg [sl iC .no a1, sl iC .no b1, sl iC .no c1]), (2, .agg [sl iC .no a2, sl iC .no b2, sl iC .no c2]), (3, .agg [sl iC .no a3, sl iC .no b3, sl iC .no c3]), (4, .agg [.val (.slice none 0 0), .val (.slice none 0 0), .val (.slice none 0 0)])] =
    some (vp (.sl .full 5 [sl iC .no a, sl iC .no b, sl iC .no c, sl iC .no a1, sl iC .no b1, sl iC .no c1, sl iC .no a2, sl iC .no b2, sl iC .no c2, sl iC .no a3, sl iC .no b3, sl iC .no c3, .val (.slice none 0 0), .val (.slice none 0 0), .val (.slice none 0 0)])) := by
  unfold bsA
  simp only []
  rw [if_pos ⟨by decide, by decide, rfl, rfl⟩]
  rfl
theorem bsC1 (u : TypeDesc) (y : Nat) (a b c : List Int) :
    bsA (some ⟨u, 3, y, [.slice none 0 0, .slice none 0 0, .slice none 0 0]⟩) 1 [(0, .agg [sl iC .no a, sl iC .no b, sl iC .no c])] = some (vp (sl cC .full [(a, b, c)])) := by
  unfold bsA
  simp only []
  rw [if_pos ⟨by decide, by decide, rfl, rfl⟩]
  rfl
theorem RepK_le : ∀ {xs ys : List C}, xs.length = ys.length → (∀ (i : Nat) x y, xs[i]? = some x → ys[i]? = some y → CLe x y) → ∀ (G : Gh) (blk off : Nat), RepK G blk off xs → RepK G blk off ys
  | [], [], _, _, _, _, _, h => h
  | [], y :: ys, h, _, _, _, _, _ => by simp at h
  | x :: xs, [], h, _, _, _, _, _ => by simp at h
  | x :: xs, y :: ys, h, H, G, blk, off, hk => by
    simp only [RepK] at hk ⊢
    obtain ⟨⟨u, h1, h2, h3⟩, h4⟩ := hk
    exact ⟨⟨u, h1, h2, (H 0 x y rfl rfl).1 G u h3⟩, RepK_le (by simpa using h) (fun i x y hx hy => H (i + 1) x y (by simpa using hx) (by simpa using hy)) G blk (off + 1) h4⟩
theorem CLe_cells {n : Nat} {xs ys : List C} (hl : xs.length = ys.length) (H : ∀ (i : Nat) x y, xs[i]? = some x → ys[i]? = some y → CLe x y) : CLe (.sl .full n xs) (.sl .full n ys) :=
  ⟨fun G v h => by
    simp only [Rep] at h ⊢
    obtain ⟨a, cap, h1, h2, h3, h4, h5⟩ := h
    refine ⟨a, cap, h1, h2, h3, h4, ?_⟩
    rcases h5 with h5 | ⟨blk, off, ha, hk⟩
    · left; subst h5; exact List.eq_nil_of_length_eq_zero hl.symm
    · exact .inr ⟨blk, off, ha, RepK_le hl H G blk off hk⟩, fun s n xs e => by cases e⟩
theorem CLe_cons {x y : C} {xs ys : List C} (h : CLe x y) (H : ∀ (i : Nat) x y, xs[i]? = some x → ys[i]? = some y → CLe x y) : ∀ (i : Nat) x' y', (x :: xs)[i]? = some x' → (y :: ys)[i]? = some y' → CLe x' y'
  | 0, _, _, h1, h2 => by cases h1; cases h2; exact h
  | i + 1, _, _, h1, h2 => H i _ _ (by simpa using h1) (by simpa using h2)
theorem CLe_five (t0 t1 t2 t3 : Cr) : CLe (.sl .full 5 [sl iC .no t0.1, sl iC .no t0.2.1, sl iC .no t0.2.2, sl iC .no t1.1, sl iC .no t1.2.1, sl iC .no t1.2.2, sl iC .no t2.1, sl iC .no t2.2.1, sl iC .no t2.2.2, sl iC .no t3.1, sl iC .no t3.2.1, sl iC .no t3.2.2, .val (.slice none 0 0), .val (.slice none 0 0), .val (.slice none 0 0)])
    (sl cC .full [t0, t1, t2, t3, ([], [], [])]) := by
  refine CLe_cells rfl ?_
  iterate 12 refine CLe_cons (CLe.refl _) ?_
  iterate 3 refine CLe_cons (CLe_sln rfl) ?_
  intro i x y h; simp at h
theorem cert_all {l : List Cr} {Q : Cr → Prop} (h : ∀ t ∈ l, Q t) (k : Nat) (hk : k < l.length) : Q (gt l k) := h _ (gt_mem l k hk)
attribute [local go_sem high] bsC5 bsC1
set_option maxRecDepth 100000 in
set_option maxHeartbeats 8000000 in
theorem fc5 {gl : Nat → C} {M : Nat} {pu : Nat → List C → Option C}  (hcx : CxOK (cxP gl M pu)) (h9 : ∀ b w : Int, (-9223372036854775808 ≤ b ∧ b ≤ 9223372036854775807) → (-9223372036854775808 ≤ w ∧ w ≤ 9223372036854775807) → pu 9 [.val (.int .i64 b), .val (.int .i64 w)] = some (.tup [.val (.int .i64 (pageB b)), .val (.int .i64 (pageW w))])) (h10 : ∀ l : List Int, LI l → pu 10 [sl iC .no l] = some (sl iC (.own 1) (widI l))) (h12 : ∀ (l : List Int) (b w : Int), LI l → (-9223372036854775808 ≤ b ∧ b ≤ 9223372036854775807) → (-9223372036854775808 ≤ w ∧ w ≤ 9223372036854775807) → pu 12 [sl iC .no l, .val (.int .i64 b), .val (.int .i64 w)] = some (.tup [.agg [sl iC .no (fillT l b w).1, sl iC .no (fillT l b w).2.1, sl iC .no (fillT l b w).2.2.1], .val (nI (fillT l b w).2.2.2)])) (h19 : ∀ (n : Nat) (x : Int), n ≤ 1000000 → (-9223372036854775808 ≤ x ∧ x ≤ 9223372036854775807) → pu 19 [.val (nI n), .val (.int .i64 x)] = some (sl iC (.own 1) (endsI n x))) (h20 : ∀ (E L K : List Int) (h p : Int), LI E → LI L → LI K → E.length ≤ 1000000 → L.length ≤ 1000000 → K.length ≤ 1000000 → (-9223372036854775808 ≤ h ∧ h ≤ 9223372036854775807) → (-9223372036854775808 ≤ p ∧ p ≤ 9223372036854775807) → pu 20 [.agg [sl iC .no E, sl iC .no L, sl iC .no K], .val (.int .i64 h), .val (.int .i64 p)] = some (.agg [sl iC .no (bentT E L K h p).1, sl iC .no (bentT E L K h p).2.1, sl iC .no (bentT E L K h p).2.2])) (h16 : ∀ (x1 x2 x3 : List Int), pu 16 [.agg [sl iC .no x1, sl iC .no x2, sl iC .no x3]] = some (.agg [sl iC .no x1, sl iC .no x2, sl iC .no x3])) (h24 : ∀ (x1 x2 x3 : List Int), pu 24 [.agg [sl iC .no x1, sl iC .no x2, sl iC .no x3]] = some (.agg [sl iC .no x1, sl iC .no x2, sl iC .no x3])) (h23 : ∀ (l : List Int) (b w : Int) (E L K : List Int), LI l → (-9223372036854775808 ≤ b ∧ b ≤ 9223372036854775807) → (-9223372036854775808 ≤ w ∧ w ≤ 9223372036854775807) → LI E → LI L → LI K → pu 23 [sl iC .no l, .val (.int .i64 b), .val (.int .i64 w), .agg [sl iC .no E, sl iC .no L, sl iC .no K]] = some (.val (nI (chkT l b w E L K)))) (h25 : ∀ (l : List Int) (b w : Int) (E L K : List Int), LI l → (-9223372036854775808 ≤ b ∧ b ≤ 9223372036854775807) → (-9223372036854775808 ≤ w ∧ w ≤ 9223372036854775807) → LI E → LI L → LI K → pu 25 [sl iC .no l, .val (.int .i64 b), .val (.int .i64 w), .agg [sl iC .no E, sl iC .no L, sl iC .no K]] = some (.val (nI (chkT l b w E L K)))) (h18 : pu 18 [] = some (.val (.bool true))) (l : List Int) (n m how by_ also : Int) (rE rL rK : List Int) (hl : LI l) (hn : -9223372036854775808 ≤ n ∧ n ≤ 9223372036854775807) (hm : -9223372036854775808 ≤ m ∧ m ≤ 9223372036854775807) (hhow : -9223372036854775808 ≤ how ∧ how ≤ 9223372036854775807) (hby : -9223372036854775808 ≤ by_ ∧ by_ ≤ 9223372036854775807) (halso : -9223372036854775808 ≤ also ∧ also ≤ 9223372036854775807) (hrE : LI rE) (hrL : LI rL) (hrK : LI rK) : FC Try.prog gl 5 [sl iC .no l, .val (.int .i64 n), .val (.int .i64 m), .val (.int .i64 how), .val (.int .i64 by_), .val (.int .i64 also), .agg [sl iC .no rE, sl iC .no rL, sl iC .no rK]] [] (.val (.bool true)) [] := by
 replace hcx := hcx.reN (M := 92)
 refine FC.ofA (cx := cxP gl 92 pu) (rs := [.tmp 14]) rfl Try.func5 rfl rfl rfl (by simp only [List.length_cons, List.length_nil]; decide) (by simp only [go_sem]) ?_
 simp only [ini, go_sem]
 have h9' := h9 n m hn hm
 have h10' := h10 l hl
 have hl1 := hl.1
 have hpb := pageB_b n
 have hpw := pageW_b m
 have hwl := wid_LI l
 have hwn := wid_len l
 generalize pageB n = B at *
 generalize pageW m = W at *
 have hB : -9223372036854775808 ≤ B ∧ B ≤ 9223372036854775807 := by omega
 have hW : -9223372036854775808 ≤ W ∧ W ≤ 9223372036854775807 := by omega
 have h12' := h12 (widI l) B W hwl hB hW
 have hfo := fill_ok (widI l) B W
 have hf1 := hfo.1.li (by decide)
 have hf2 := hfo.2.1.li (by decide)
 have hf3 := hfo.2.2.li (by decide)
 have hfl1 := hfo.1.1
 have hfl2 := hfo.2.1.1
 have hfl3 := hfo.2.2.1
 have hb1 := bent_ok hfo.1 hfo.2.1 hfo.2.2 how by_
 have hq := tdiv_b by_ 3 hby (by decide)
 have hb2 := bent_ok hb1.1 hb1.2.1 hb1.2.2 also (by_.tdiv ((3 : Nat) : Int))
 have hbl1 := hb1.1.1
 have hbl2 := hb1.2.1.1
 have hbl3 := hb1.2.2.1
 have he1 := ends_LI (widI l).length by_ (by omega)
 have h19' := h19 (widI l).length by_ (by omega) hby
 have h20' := h20 (fillT (widI l) B W).1 (fillT (widI l) B W).2.1 (fillT (widI l) B W).2.2.1 how by_ hf1 hf2 hf3 (by omega) (by omega) (by omega) hhow hby
 have h20q := h20 (bentT (fillT (widI l) B W).1 (fillT (widI l) B W).2.1 (fillT (widI l) B W).2.2.1 how by_).1 (bentT (fillT (widI l) B W).1 (fillT (widI l) B W).2.1 (fillT (widI l) B W).2.2.1 how by_).2.1 (bentT (fillT (widI l) B W).1 (fillT (widI l) B W).2.1 (fillT (widI l) B W).2.2.1 how by_).2.2 also (by_.tdiv ((3 : Nat) : Int)) (hb1.1.li (by decide)) (hb1.2.1.li (by decide)) (hb1.2.2.li (by decide)) (by omega) (by omega) (by omega) halso hq
 have hall : ∀ t ∈ ([((fillT (widI l) B W).1, (fillT (widI l) B W).2.1, (fillT (widI l) B W).2.2.1), (bentT (fillT (widI l) B W).1 (fillT (widI l) B W).2.1 (fillT (widI l) B W).2.2.1 how by_), (bentT (bentT (fillT (widI l) B W).1 (fillT (widI l) B W).2.1 (fillT (widI l) B W).2.2.1 how by_).1 (bentT (fillT (widI l) B W).1 (fillT (widI l) B W).2.1 (fillT (widI l) B W).2.2.1 how by_).2.1 (bentT (fillT (widI l) B W).1 (fillT (widI l) B W).2.1 (fillT (widI l) B W).2.2.1 how by_).2.2 also (by_.tdiv ((3 : Nat) : Int))), (rE, rL, rK), ([], [], []), (endsI (widI l).length by_, (fillT (widI l) B W).2.1, (fillT (widI l) B W).2.2.1)] : List Cr), LI t.1 ∧ LI t.2.1 ∧ LI t.2.2 := by
   intro t ht
   have hnil : LI [] := LI_of (by decide) (by decide)
   simp only [List.mem_cons, List.not_mem_nil, or_false] at ht
   rcases ht with rfl | rfl | rfl | rfl | rfl | rfl
   · exact ⟨hf1, hf2, hf3⟩
   · exact ⟨hb1.1.li (by decide), hb1.2.1.li (by decide), hb1.2.2.li (by decide)⟩
   · exact ⟨hb2.1.li (by decide), hb2.2.1.li (by decide), hb2.2.2.li (by decide)⟩
   · exact ⟨hrE, hrL, hrK⟩
   · exact ⟨hnil, hnil, hnil⟩
   · exact ⟨he1, hf2, hf3⟩
 refine Tr.seqK fun K1 hK1 => ?_
 refine Tr.rg hcx [] _ [none] rfl rfl rfl ?_
 simp -implicitDefEqProofs (maxSteps := 2000000) (disch := first | omega | (simp only [go_sem, List.length_append, List.length_drop, List.length_take] <;> omega) | decide) only [go_sem, ↓reduceIte, Nat.reduceEqDiff, reduceCtorEq, Nat.reduceLT, Nat.reduceBEq, Nat.reduceAdd, Nat.reduceSub, Nat.reduceMul, Nat.reduceMod, eq_self, decide_true, decide_false, not_true_eq_false, not_false_eq_true]
 refine hK1 _ ?_
 clear hK1 K1
 refine Tr.kp [0, 1, 2, 3, 4, 5, 13] ?_
 simp only [pk_cons, pk_nil, ↓A_cons, ↓reduceIte, Nat.reduceEqDiff]
 refine Tr.seqK fun K2 hK2 => ?_
 refine Tr.rg hcx [1000028, 1000029] _ [] rfl rfl rfl ?_
 simp -implicitDefEqProofs (maxSteps := 2000000) (disch := first | omega | (simp only [go_sem, List.length_append, List.length_drop, List.length_take] <;> omega) | decide) only [go_sem, ↓reduceIte, Nat.reduceEqDiff, reduceCtorEq, Nat.reduceLT, Nat.reduceBEq, Nat.reduceAdd, Nat.reduceSub, Nat.reduceMul, Nat.reduceMod, eq_self, decide_true, decide_false, not_true_eq_false, not_false_eq_true, h9']
 refine hK2 _ ?_
 clear hK2 K2
 refine Tr.kp [0, 3, 4, 5, 13, 15, 16] ?_
 simp only [pk_cons, pk_nil, ↓A_cons, ↓reduceIte, Nat.reduceEqDiff]
 refine Tr.seqK fun K3 hK3 => ?_
 refine Tr.rg hcx [1000031] _ [] rfl rfl rfl ?_
 simp -implicitDefEqProofs (maxSteps := 2000000) (disch := first | omega | (simp only [go_sem, List.length_append, List.length_drop, List.length_take] <;> omega) | decide) only [go_sem, ↓reduceIte, Nat.reduceEqDiff, reduceCtorEq, Nat.reduceLT, Nat.reduceBEq, Nat.reduceAdd, Nat.reduceSub, Nat.reduceMul, Nat.reduceMod, eq_self, decide_true, decide_false, not_true_eq_false, not_false_eq_true, h10']
 refine hK3 _ ?_
 clear hK3 K3
 refine Tr.kp [3, 4, 5, 13, 15, 16, 17] ?_
 simp only [pk_cons, pk_nil, ↓A_cons, ↓reduceIte, Nat.reduceEqDiff]
 refine Tr.seqK fun K4 hK4 => ?_
 refine Tr.rg hcx [1000038] _ [none] rfl rfl rfl ?_
 simp -implicitDefEqProofs (maxSteps := 2000000) (disch := first | omega | (simp only [go_sem, List.length_append, List.length_drop, List.length_take] <;> omega) | decide) only [go_sem, ↓reduceIte, Nat.reduceEqDiff, reduceCtorEq, Nat.reduceLT, Nat.reduceBEq, Nat.reduceAdd, Nat.reduceSub, Nat.reduceMul, Nat.reduceMod, eq_self, decide_true, decide_false, not_true_eq_false, not_false_eq_true, h12']
 refine hK4 _ ?_
 clear hK4 K4
 refine Tr.kp [3, 4, 5, 13, 15, 16, 17, 18] ?_
 simp only [pk_cons, pk_nil, ↓A_cons, ↓reduceIte, Nat.reduceEqDiff]
 refine Tr.seqK fun K5 hK5 => ?_
 refine Tr.rg hcx [] _ [none] rfl rfl rfl ?_
 simp -implicitDefEqProofs (maxSteps := 2000000) (disch := first | omega | (simp only [go_sem, List.length_append, List.length_drop, List.length_take] <;> omega) | decide) only [go_sem, ↓reduceIte, Nat.reduceEqDiff, reduceCtorEq, Nat.reduceLT, Nat.reduceBEq, Nat.reduceAdd, Nat.reduceSub, Nat.reduceMul, Nat.reduceMod, eq_self, decide_true, decide_false, not_true_eq_false, not_false_eq_true, h20']
 refine hK5 _ ?_
 clear hK5 K5
 refine Tr.kp [4, 5, 13, 15, 16, 17, 18, 20] ?_
 simp only [pk_cons, pk_nil, ↓A_cons, ↓reduceIte, Nat.reduceEqDiff]
 refine Tr.seqJ (α := Unit) (fun a => [(4, ?v4_10), (15, ?v15_10), (16, ?v16_10), (17, ?v17_10), (18, ?v18_10), (21, sl cC .full [((fillT (widI l) B W).1, (fillT (widI l) B W).2.1, (fillT (widI l) B W).2.2.1), (bentT (fillT (widI l) B W).1 (fillT (widI l) B W).2.1 (fillT (widI l) B W).2.2.1 how by_), (bentT (bentT (fillT (widI l) B W).1 (fillT (widI l) B W).2.1 (fillT (widI l) B W).2.2.1 how by_).1 (bentT (fillT (widI l) B W).1 (fillT (widI l) B W).2.1 (fillT (widI l) B W).2.2.1 how by_).2.1 (bentT (fillT (widI l) B W).1 (fillT (widI l) B W).2.1 (fillT (widI l) B W).2.2.1 how by_).2.2 also (by_.tdiv ((3 : Nat) : Int))), (rE, rL, rK), ([], [], [])])]) (fun a => [some [sl iC .no rE, sl iC .no rL, sl iC .no rK], some [sl iC .no (fillT (widI l) B W).1, sl iC .no (fillT (widI l) B W).2.1, sl iC .no (fillT (widI l) B W).2.2.1], some [sl iC .no (bentT (fillT (widI l) B W).1 (fillT (widI l) B W).2.1 (fillT (widI l) B W).2.2.1 how by_).1, sl iC .no (bentT (fillT (widI l) B W).1 (fillT (widI l) B W).2.1 (fillT (widI l) B W).2.2.1 how by_).2.1, sl iC .no (bentT (fillT (widI l) B W).1 (fillT (widI l) B W).2.1 (fillT (widI l) B W).2.2.1 how by_).2.2]]) (fun a => True) ?ja_10 ?jb_10
 case ja_10 =>
  refine Tr.rgD hcx hMO [1000053] _ [] rfl rfl rfl rfl ?_
  simp -implicitDefEqProofs (maxSteps := 2000000) (disch := first | omega | (simp only [go_sem, List.length_append, List.length_drop, List.length_take] <;> omega) | decide) only [go_sem, ↓reduceIte, Nat.reduceEqDiff, reduceCtorEq, Nat.reduceLT, Nat.reduceBEq, Nat.reduceAdd, Nat.reduceSub, Nat.reduceMul, Nat.reduceMod, eq_self, decide_true, decide_false, not_true_eq_false, not_false_eq_true, h20q, h16]
  with_reducible refine And.intro ?_ ?_
  · exact rfl
  refine ⟨(), trivial, ?_, rfl⟩
  (simp only [Le_nil, Le_cons, ↓A_cons, ↓reduceIte, Nat.reduceEqDiff, reduceCtorEq, CLe_refl, CLe_top, CLe_full, CLe_nil, CLe_own, and_true, true_and]; all_goals (repeat' first | exact CLe.refl _ | exact True.intro | (refine CLe_sln ?_; first | with_reducible rfl | (simp only [List.take_zero]; done) | (rfl; done)) | exact CLe_nI (by omega) | exact CLe_int (by omega) | exact CLe_inI (by omega) | exact CLe_nIi (by omega) | with_reducible apply And.intro))
  all_goals exact CLe_five ((fillT (widI l) B W).1, (fillT (widI l) B W).2.1, (fillT (widI l) B W).2.2.1) (bentT (fillT (widI l) B W).1 (fillT (widI l) B W).2.1 (fillT (widI l) B W).2.2.1 how by_) (bentT (bentT (fillT (widI l) B W).1 (fillT (widI l) B W).2.1 (fillT (widI l) B W).2.2.1 how by_).1 (bentT (fillT (widI l) B W).1 (fillT (widI l) B W).2.1 (fillT (widI l) B W).2.2.1 how by_).2.1 (bentT (fillT (widI l) B W).1 (fillT (widI l) B W).2.1 (fillT (widI l) B W).2.2.1 how by_).2.2 also (by_.tdiv ((3 : Nat) : Int))) (rE, rL, rK)
 case jb_10 =>
  rintro a ha
  refine Tr.seqK fun K6 hK6 => ?_
  refine Tr.rgD hcx hMO [] _ [none] rfl rfl rfl rfl ?_
  simp -implicitDefEqProofs (maxSteps := 2000000) (disch := first | omega | (simp only [go_sem, List.length_append, List.length_drop, List.length_take] <;> omega) | decide) only [go_sem, ↓reduceIte, Nat.reduceEqDiff, reduceCtorEq, Nat.reduceLT, Nat.reduceBEq, Nat.reduceAdd, Nat.reduceSub, Nat.reduceMul, Nat.reduceMod, eq_self, decide_true, decide_false, not_true_eq_false, not_false_eq_true, h19']
  with_reducible refine And.intro ?_ ?_
  · exact rfl
  refine hK6 _ ?_
  clear hK6 K6
  refine Tr.kp [15, 16, 17, 21, 22] ?_
  simp only [pk_cons, pk_nil, ↓A_cons, ↓reduceIte, Nat.reduceEqDiff]
  refine Tr.seqK fun K7 hK7 => ?_
  refine Tr.rg hcx [63, 1000066] _ [] rfl rfl rfl ?_
  simp -implicitDefEqProofs (maxSteps := 2000000) (disch := first | omega | (simp only [go_sem, List.length_append, List.length_drop, List.length_take] <;> omega) | decide) only [go_sem, ↓reduceIte, Nat.reduceEqDiff, reduceCtorEq, Nat.reduceLT, Nat.reduceBEq, Nat.reduceAdd, Nat.reduceSub, Nat.reduceMul, Nat.reduceMod, eq_self, decide_true, decide_false, not_true_eq_false, not_false_eq_true, cC_def]
  refine hK7 _ ?_
  clear hK7 K7
  refine Tr.kp [15, 16, 17, 21] ?_
  simp only [pk_cons, pk_nil, ↓A_cons, ↓reduceIte, Nat.reduceEqDiff]
  refine Tr.seqK fun K8 hK8 => ?_
  refine Tr.seqK fun K9 hK9 => ?_
  refine Tr.rg hcx [] _ [] rfl rfl rfl ?_
  simp -implicitDefEqProofs (maxSteps := 2000000) (disch := first | omega | (simp only [go_sem, List.length_append, List.length_drop, List.length_take] <;> omega) | decide) only [go_sem, ↓reduceIte, Nat.reduceEqDiff, reduceCtorEq, Nat.reduceLT, Nat.reduceBEq, Nat.reduceAdd, Nat.reduceSub, Nat.reduceMul, Nat.reduceMod, eq_self, decide_true, decide_false, not_true_eq_false, not_false_eq_true]
  refine hK9 _ ?_
  clear hK9 K9
  refine Tr.kp [15, 16, 17, 21, 23] ?_
  simp only [pk_cons, pk_nil, ↓A_cons, ↓reduceIte, Nat.reduceEqDiff]
  refine Tr.blk ?_
  refine Tr.loopI (α := Nat) (fun a => [(15, ?v15_20), (16, ?v16_20), (17, ?v17_20), (21, sl cC (.own 3) [((fillT (widI l) B W).1, (fillT (widI l) B W).2.1, (fillT (widI l) B W).2.2.1), (bentT (fillT (widI l) B W).1 (fillT (widI l) B W).2.1 (fillT (widI l) B W).2.2.1 how by_), (bentT (bentT (fillT (widI l) B W).1 (fillT (widI l) B W).2.1 (fillT (widI l) B W).2.2.1 how by_).1 (bentT (fillT (widI l) B W).1 (fillT (widI l) B W).2.1 (fillT (widI l) B W).2.2.1 how by_).2.1 (bentT (fillT (widI l) B W).1 (fillT (widI l) B W).2.1 (fillT (widI l) B W).2.2.1 how by_).2.2 also (by_.tdiv ((3 : Nat) : Int))), (rE, rL, rK), ([], [], []), (endsI (widI l).length by_, (fillT (widI l) B W).2.1, (fillT (widI l) B W).2.2.1)]), (23, .val (nI a))]) (fun a => [some [sl iC .no rE, sl iC .no rL, sl iC .no rK], some [sl iC .no (fillT (widI l) B W).1, sl iC .no (fillT (widI l) B W).2.1, sl iC .no (fillT (widI l) B W).2.2.1], some [sl iC .no (bentT (fillT (widI l) B W).1 (fillT (widI l) B W).2.1 (fillT (widI l) B W).2.2.1 how by_).1, sl iC .no (bentT (fillT (widI l) B W).1 (fillT (widI l) B W).2.1 (fillT (widI l) B W).2.2.1 how by_).2.1, sl iC .no (bentT (fillT (widI l) B W).1 (fillT (widI l) B W).2.1 (fillT (widI l) B W).2.2.1 how by_).2.2], some [sl iC .no (endsI (widI l).length by_), sl iC .no (fillT (widI l) B W).2.1, sl iC .no (fillT (widI l) B W).2.2.1]]) (fun a => a ≤ 6) (fun a => 6 - a) (0) (by decide) ?le_20 ?hh_20 ?bd_20
  case hh_20 => exact rfl
  case le_20 => (simp only [Le_nil, Le_cons, ↓A_cons, ↓reduceIte, Nat.reduceEqDiff, reduceCtorEq, CLe_refl, CLe_top, CLe_full, CLe_nil, CLe_own, and_true, true_and]; all_goals (repeat' first | exact CLe.refl _ | exact True.intro | (refine CLe_sln ?_; first | with_reducible rfl | (simp only [List.take_zero]; done) | (rfl; done)) | exact CLe_nI (by omega) | exact CLe_int (by omega) | exact CLe_inI (by omega) | exact CLe_nIi (by omega) | with_reducible apply And.intro))
  case bd_20 =>
   rintro k hk
   refine Tr.seqK fun K10 hK10 => ?_
   refine Tr.seqK fun K11 hK11 => ?_
   refine Tr.rg hcx [] _ [] rfl rfl rfl ?_
   simp -implicitDefEqProofs (maxSteps := 2000000) (disch := first | omega | (simp only [go_sem, List.length_append, List.length_drop, List.length_take] <;> omega) | decide) only [go_sem, ↓reduceIte, Nat.reduceEqDiff, reduceCtorEq, Nat.reduceLT, Nat.reduceBEq, Nat.reduceAdd, Nat.reduceSub, Nat.reduceMul, Nat.reduceMod, eq_self, decide_true, decide_false, not_true_eq_false, not_false_eq_true]
   refine hK11 _ ?_
   clear hK11 K11
   refine Tr.kp [15, 16, 17, 21, 23, 70] ?_
   simp only [pk_cons, pk_nil, ↓A_cons, ↓reduceIte, Nat.reduceEqDiff]
   refine Tr.condG fun KT KF hT hF => ?_
   simp only [ev_tmp, ev_const, ↓A_cons, ↓reduceIte, Nat.reduceEqDiff, reduceCtorEq, condG_bool, GB_true, GB_false, decide_eq_true_eq]
   refine GB.dec (fun hc70 => hT ?_) (fun hc70 => hF ?_)
   ·
    clear hT hF KT KF
    refine Tr.skip ?_
    refine hK10 _ ?_
    clear hK10 K10
    refine Tr.kp [15, 16, 17, 21, 23] ?_
    simp only [pk_cons, pk_nil, ↓A_cons, ↓reduceIte, Nat.reduceEqDiff]
    refine Tr.seqK fun K12 hK12 => ?_
    refine Tr.blk ?_
    refine Tr.seqK fun K13 hK13 => ?_
    obtain ⟨LS, hLS⟩ : ∃ LS : List Cr, LS = [((fillT (widI l) B W).1, (fillT (widI l) B W).2.1, (fillT (widI l) B W).2.2.1), (bentT (fillT (widI l) B W).1 (fillT (widI l) B W).2.1 (fillT (widI l) B W).2.2.1 how by_), (bentT (bentT (fillT (widI l) B W).1 (fillT (widI l) B W).2.1 (fillT (widI l) B W).2.2.1 how by_).1 (bentT (fillT (widI l) B W).1 (fillT (widI l) B W).2.1 (fillT (widI l) B W).2.2.1 how by_).2.1 (bentT (fillT (widI l) B W).1 (fillT (widI l) B W).2.1 (fillT (widI l) B W).2.2.1 how by_).2.2 also (by_.tdiv ((3 : Nat) : Int))), (rE, rL, rK), ([], [], []), (endsI (widI l).length by_, (fillT (widI l) B W).2.1, (fillT (widI l) B W).2.2.1)] := ⟨_, rfl⟩
    rw [← hLS] at hall
    have hLl : LS.length = 6 := by rw [hLS]; rfl
    simp only [← hLS]
    have hk6 : k < 6 := hc70
    have hA := cert_all hall k (by omega)
    have e24 := h24 (gt LS k).1 (gt LS k).2.1 (gt LS k).2.2
    have e23 := h23 (widI l) B W (gt LS k).1 (gt LS k).2.1 (gt LS k).2.2 hwl hB hW hA.1 hA.2.1 hA.2.2
    have e25 := h25 (widI l) B W (gt LS k).1 (gt LS k).2.1 (gt LS k).2.2 hwl hB hW hA.1 hA.2.1 hA.2.2
    refine Tr.rgD hcx hMO [] _ [] rfl rfl rfl rfl ?_
    simp -implicitDefEqProofs (maxSteps := 2000000) (disch := first | omega | (simp only [go_sem, List.length_append, List.length_drop, List.length_take] <;> omega) | decide) only [go_sem, ↓reduceIte, Nat.reduceEqDiff, reduceCtorEq, Nat.reduceLT, Nat.reduceBEq, Nat.reduceAdd, Nat.reduceSub, Nat.reduceMul, Nat.reduceMod, eq_self, decide_true, decide_false, not_true_eq_false, not_false_eq_true, cC_def, e24, e23, e25]
    with_reducible refine And.intro ?_ ?_
    · exact rfl
    refine hK13 _ ?_
    clear hK13 K13
    refine Tr.kp [15, 16, 17, 21, 23, 90] ?_
    simp only [pk_cons, pk_nil, ↓A_cons, ↓reduceIte, Nat.reduceEqDiff]
    refine Tr.condG fun KT KF hT hF => ?_
    simp only [ev_tmp, ev_const, ↓A_cons, ↓reduceIte, Nat.reduceEqDiff, reduceCtorEq, condG_bool, GB_true, GB_false, decide_eq_true_eq]
    refine hF ?_
    clear hT hF KT KF
    refine Tr.skip ?_
    refine hK12 _ ?_
    clear hK12 K12
    refine Tr.kp [15, 16, 17, 21, 23] ?_
    simp only [pk_cons, pk_nil, ↓A_cons, ↓reduceIte, Nat.reduceEqDiff]
    refine Tr.rg hcx [1000072] _ [] rfl rfl rfl ?_
    simp -implicitDefEqProofs (maxSteps := 2000000) (disch := first | omega | (simp only [go_sem, List.length_append, List.length_drop, List.length_take] <;> omega) | decide) only [go_sem, ↓reduceIte, Nat.reduceEqDiff, reduceCtorEq, Nat.reduceLT, Nat.reduceBEq, Nat.reduceAdd, Nat.reduceSub, Nat.reduceMul, Nat.reduceMod, eq_self, decide_true, decide_false, not_true_eq_false, not_false_eq_true]
    refine ⟨k + 1, ⟨by omega, by first | omega | (simp only []; omega)⟩, ?_, rfl⟩
    (simp only [Le_nil, Le_cons, ↓A_cons, ↓reduceIte, Nat.reduceEqDiff, reduceCtorEq, CLe_refl, CLe_top, CLe_full, CLe_nil, CLe_own, and_true, true_and]; all_goals (repeat' first | exact CLe.refl _ | exact True.intro | (refine CLe_sln ?_; first | with_reducible rfl | (simp only [List.take_zero]; done) | (rfl; done)) | exact CLe_nI (by omega) | exact CLe_int (by omega) | exact CLe_inI (by omega) | exact CLe_nIi (by omega) | with_reducible apply And.intro))
    all_goals first | exact CLe_nI (by omega) | (rw [← hLS]; exact CLe.refl _)
   ·
    clear hT hF KT KF
    refine Tr.exit ?_
    refine hK8 _ ?_
    clear hK10 K10 hK8 K8
    refine Tr.kp [] ?_
    simp only [pk_cons, pk_nil, ↓A_cons, ↓reduceIte, Nat.reduceEqDiff]
    refine Tr.seqK fun K14 hK14 => ?_
    refine Tr.rg hcx [1000091] _ [] rfl rfl rfl ?_
    simp -implicitDefEqProofs (maxSteps := 2000000) (disch := first | omega | (simp only [go_sem, List.length_append, List.length_drop, List.length_take] <;> omega) | decide) only [go_sem, ↓reduceIte, Nat.reduceEqDiff, reduceCtorEq, Nat.reduceLT, Nat.reduceBEq, Nat.reduceAdd, Nat.reduceSub, Nat.reduceMul, Nat.reduceMod, eq_self, decide_true, decide_false, not_true_eq_false, not_false_eq_true, h18]
    refine hK14 _ ?_
    clear hK14 K14
    refine Tr.kp [14] ?_
    simp only [pk_cons, pk_nil, ↓A_cons, ↓reduceIte, Nat.reduceEqDiff]
    refine Tr.ret ?_
    simp -implicitDefEqProofs (disch := first | omega | (simp only [go_sem, List.length_append, List.length_drop, List.length_take] <;> omega) | decide) only [go_sem, ↓reduceIte, Nat.reduceEqDiff, reduceCtorEq]
    all_goals (rfl)
end Go.Sx
