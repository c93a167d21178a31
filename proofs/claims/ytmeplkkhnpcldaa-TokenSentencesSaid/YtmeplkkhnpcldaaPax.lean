/-
  Package token: the law of Sentences.
-/
import Derived.Test.YtmeplkkhnpcldaaPaw
set_option linter.unusedSimpArgs false
set_option linter.unusedVariables false
namespace Go.Sx
open Go.RowKit Go.Proofs
theorem CLe_gvn {b n m s : Nat} (h : n = m) : CLe (.gv b n s) (.gv b m s) := by subst h; exact CLe.refl _
theorem bft : (false == true) = false := rfl
theorem btf : (true == false) = false := rfl
theorem stopL_V (s : List UInt8) (i : Nat) (h : i < (toks s).length) : stopL s (toks s) i = stopV s (toks s) i := by
  unfold stopL stopV
  rw [stop_one s i h]
def castP (p : Nat × Nat) : Int × Int := ((p.1 : Int), (p.2 : Int))
def shI (n : Nat) (p : Int × Int) : Int × Int := (p.1 + (n : Int), p.2 + (n : Int))
theorem cl_pCI (l : List (Nat × Nat)) : cl pC l = cl pI (l.map castP) := by
  induction l with
  | nil => rfl
  | cons a l ih => rw [List.map_cons, cl_cons, cl_cons, ih]; rfl
theorem cast_sh (n : Nat) (l : List (Nat × Nat)) : (l.map castP).map (shI n) = (l.map (shP n)).map castP := by
  rw [List.map_map, List.map_map]
  refine List.map_congr_left fun p _ => ?_
  simp only [Function.comp, castP, shI, shP, Prod.mk.injEq]
  constructor <;> omega
theorem rdc_pC (l : List (Nat × Nat)) (k : Nat) (h : k < l.length) : rdc ((cl pC l).drop (k * 2)) 0 = some (.val (nI (gt l k).1)) := by
  have := rdc_pI (l.map castP) k (by simpa using h)
  rw [← cl_pCI, gt_map _ _ _ h] at this
  exact this
theorem rdc_pC1 (l : List (Nat × Nat)) (k : Nat) (h : k < l.length) : rdc (((cl pC l).drop (k * 2)).drop 1) 0 = some (.val (nI (gt l k).2)) := by
  have := rdc_pI1 (l.map castP) k (by simpa using h)
  rw [← cl_pCI, gt_map _ _ _ h] at this
  exact this
theorem rdc_bI (l : List (Int × Int)) (k : Nat) (h : k < l.length) : rdc (cl pI l) (k * 2) = some (.val (.int .i64 (gt l k).1)) := by
  have := rdc_pI l k h
  rwa [rdc_drop, Nat.add_zero] at this
theorem rdc_bI1 (l : List (Int × Int)) (k : Nat) (h : k < l.length) : rdc (cl pI l) (k * 2 + 1) = some (.val (.int .i64 (gt l k).2)) := by
  have := rdc_pI1 l k h
  rwa [List.drop_drop, rdc_drop, Nat.add_zero] at this
theorem rdc_bC (l : List (Nat × Nat)) (k : Nat) (h : k < l.length) : rdc (cl pC l) (k * 2) = some (.val (nI (gt l k).1)) := by
  have := rdc_pC l k h
  rwa [rdc_drop, Nat.add_zero] at this
theorem wrc_bC (p : Nat × Nat) (r : List (Nat × Nat)) (z : Int) : wrc (cl pC (p :: r)) 0 [.val (.int .i64 z)] = some (cl pI ((z, (p.2 : Int)) :: r.map castP), .val undef) := by
  rw [cl_cons, cl_cons, cl_pCI]
  rfl
theorem bsA_pairI (u : TypeDesc) (y : Nat) (p : Int × Int) : bsA (some ⟨u, 2, y, List.replicate 2 (nI 0)⟩) 1 [(0, .agg (pI p))] = some (vp (sl pI .full [p])) := by
  unfold bsA
  simp only []
  rw [if_pos ⟨by decide, by decide, rfl, rfl⟩]
  rfl
theorem take_pC (l : List (Nat × Nat)) (k : Nat) : (cl pC l).take (k * 2) = cl pC (l.take k) := cl_take (f := pC) l k
attribute [go_sem high] rdc_pC rdc_pC1 rdc_bI rdc_bI1 rdc_bC bsA_pairI
abbrev DS := {q : (List UInt8) × Option (List (Nat × Nat)) // q.1.length ≤ 1000000}
def encS (q : DS) : List C × Hp := ([.val (str q.1.1)], match q.1.2 with | none => [] | some Y => [some (cl pC Y)])
def outS (q : DS) : C × Hp := match q.1.2 with
  | none => (.gv 0 (sents q.1.1).length 2, [some (cl pC (sents q.1.1))])
  | some Y => (.gv 1 (sents q.1.1).length 2, [some (cl pC Y), some (cl pC (sents q.1.1))])
theorem injS (x y : DS) (h : encS x = encS y) : outS x = outS y := by
  obtain ⟨⟨s, Y⟩, hs⟩ := x; obtain ⟨⟨t, Z⟩, ht⟩ := y
  simp only [encS, Prod.mk.injEq, List.cons.injEq, C.val.injEq, str_inj, and_true] at h
  obtain ⟨rfl, h⟩ := h
  cases Y <;> cases Z <;> simp only [List.cons.injEq, Option.some.injEq, cl_inj, and_true, reduceCtorEq] at h
  · rfl
  · subst h; rfl
noncomputable def hpS : Nat → List C → Hp → Option (C × Hp) := fun g xs h => if g = 28 then tabH encS outS xs h else none
theorem hpS_b (s : List UInt8) (hs : s.length ≤ 1000000) : hpS 28 [.val (str s)] [] = some (.gv 0 (sents s).length 2, [some (cl pC (sents s))]) := (if_pos rfl).trans (tabH_enc injS ⟨(s, none), hs⟩)
theorem hpS_c (s : List UInt8) (Y : List (Nat × Nat)) (hs : s.length ≤ 1000000) : hpS 28 [.val (str s)] [some (cl pC Y)] = some (.gv 1 (sents s).length 2, [some (cl pC Y), some (cl pC (sents s))]) := (if_pos rfl).trans (tabH_enc injS ⟨(s, some Y), hs⟩)
theorem okS {gl : Nat → C} {M N : Nat} {pu : Nat → List C → Option C} (hcx : CxOK (cxP gl N pu)) (g28b : ∀ s : List UInt8, s.length ≤ 1000000 → FC Try.prog gl 28 [.val (str s)] [] (.gv 0 (sents s).length 2) [some (cl pC (sents s))])
    (g28c : ∀ (Y : List (Nat × Nat)) (s : List UInt8), s.length ≤ 1000000 → FC Try.prog gl 28 [.val (str s)] [some (cl pC Y)] (.gv 1 (sents s).length 2) [some (cl pC Y), some (cl pC (sents s))]) :
    CxOK ⟨Try.prog, M, gl, fun _ _ => none, hpS, fun _ => false⟩ := by
  refine ⟨hcx.glo, fun f args c hc => absurd hc (by simp), fun f args h c h' hc => ?_⟩
  have hc : (if f = 28 then tabH encS outS args h else none) = some (c, h') := hc
  split at hc
  · rename_i hf; subst hf
    obtain ⟨⟨⟨s, Y⟩, hs⟩, e1, e2⟩ := tabH_some hc
    cases Y with
    | none => cases e1; cases e2; exact g28b s hs
    | some Y => cases e1; cases e2; exact g28c Y s hs
  · cases hc
theorem lawT {A B : List UInt8} (ha : 0 < (toks A).length) (hb : 0 < (toks B).length) (hs : stopL A (toks A) ((toks A).length - 1) = true) : (sents A).map castP ++ ((sents B).map castP).map (shI (toks A).length) = (sents (joinT A B)).map castP := by
  rw [stopL_V _ _ (by omega), stopV_last (by omega)] at hs
  rw [sents_joinT ha hb hs, List.map_append, cast_sh]
theorem lawF {A B : List UInt8} (ha : 0 < (toks A).length) (hb : 0 < (toks B).length) (hs : stopL A (toks A) ((toks A).length - 1) = false) : ∃ p r, sents B = p :: r ∧ ((sents A).take ((sents A).length - 1)).map castP ++ ((((gt (sents A) ((sents A).length - 1)).1 : Int) - ((toks A).length : Int), (p.2 : Int)) :: r.map castP).map (shI (toks A).length) = (sents (joinT A B)).map castP ∧ (gt (sents A) ((sents A).length - 1)).1 < (toks A).length := by
  rw [stopL_V _ _ (by omega), stopV_last (by omega)] at hs
  obtain ⟨p, r, h1, h2, h3⟩ := sents_joinF ha hb hs
  refine ⟨p, r, h1, ?_, h3⟩
  rw [h2, List.map_append, List.map_cons, List.map_cons, cast_sh]
  congr 2
  simp only [shI, castP, Prod.mk.injEq]
  constructor <;> omega
theorem sents_rng (s : List UInt8) (p : Nat × Nat) (h : p ∈ sents s) : p.1 ≤ s.length ∧ p.2 ≤ s.length := by
  obtain ⟨k, hk, rfl⟩ := mem_gt h
  have h1 := sents_at s k hk
  have h2 := toks_len s
  omega
def Small (Q : List (Int × Int)) : Prop := ∀ k, k < Q.length → -1000 ≤ (gt Q k).1 ∧ (gt Q k).1 ≤ 1000 ∧ -1000 ≤ (gt Q k).2 ∧ (gt Q k).2 ≤ 1000
theorem small_mem {Q : List (Int × Int)} (h : ∀ p ∈ Q, -1000 ≤ p.1 ∧ p.1 ≤ 1000 ∧ -1000 ≤ p.2 ∧ p.2 ≤ 1000) : Small Q := fun k hk => h _ (gt_mem hk)
theorem small_cast {l : List (Nat × Nat)} (h : ∀ p ∈ l, p.1 ≤ 1000 ∧ p.2 ≤ 1000) : ∀ p ∈ l.map castP, -1000 ≤ p.1 ∧ p.1 ≤ 1000 ∧ -1000 ≤ p.2 ∧ p.2 ≤ 1000 := fun p hp => by
  obtain ⟨q, hq, rfl⟩ := List.mem_map.1 hp
  have := h q hq
  simp only [castP]; omega
theorem take_snocI {α β : Type} [Inhabited α] (l : List α) (f : α → β) (i : Nat) (h : i < l.length) : (l.take (i + 1)).map f = (l.take i).map f ++ [f (gt l i)] := by
  have e : gt l i = l[i] := by simp [gt, List.getD, List.getElem?_eq_getElem h]
  rw [e, ← List.take_append_getElem h, List.map_append]; rfl
set_option maxRecDepth 100000 in
set_option maxHeartbeats 8000000 in
theorem fc9 {gl : Nat → C} {M : Nat} {pu : Nat → List C → Option C}  (hcx : CxOK (cxP gl M pu)) (h11 : ∀ (l : List Int) (how by' : Int) (raw : List UInt8) (most : Int), LI l → (-9223372036854775808 ≤ how ∧ how ≤ 9223372036854775807) → (-9223372036854775808 ≤ by' ∧ by' ≤ 9223372036854775807) → raw.length ≤ 9223372036854775807 → pu 11 [sl iC .no l, .val (.int .i64 how), .val (.int .i64 by'), .val (str raw), .val (.int .i64 most)] = some (sl sC .no (textsT l how by' raw most))) (h14 : pu 14 [] = some (.val (.bool true))) (h18 : ∀ s : List UInt8, s.length ≤ 1000000 → pu 18 [.val (str s)] = some (sl tC (.own 3) (toks s))) (h27 : ∀ x y : List (Nat × Nat), x.length < 9223372036854775807 → pu 27 [sl pC .no x, sl pC .no y] = some (.val (.bool (decide (x = y))))) (h28 : ∀ s : List UInt8, s.length ≤ 1000000 → pu 28 [.val (str s)] = some (sl pC (.own 2) (sents s))) (h33 : ∀ a b : List UInt8, a.length ≤ 1000000 → b.length ≤ 1000000 → pu 33 [.val (str a), .val (str b)] = some (.val (str (joinT a b)))) (h37 : ∀ (l : List Int) (k : Nat), LI l → k ≤ 900 → pu 37 [sl iC .no l, .val (nI k)] = some (.val (str (markT l k)))) (h39 : ∀ (s : List UInt8) (l : List Tok) (i : Nat), s.length ≤ 1000000 → i < l.length ∧ l.length ≤ 1000000 → pu 39 [.val (str s), sl tC .no l, .val (nI i)] = some (.val (.bool (stopL s l i)))) (hno : ∀ (g : Nat) (xs : List C), refy xs = true → pu g xs = none) (g28b : ∀ s : List UInt8, s.length ≤ 1000000 → FC Try.prog gl 28 [.val (str s)] [] (.gv 0 (sents s).length 2) [some (cl pC (sents s))]) (g28c : ∀ (Y : List (Nat × Nat)) (s : List UInt8), s.length ≤ 1000000 → FC Try.prog gl 28 [.val (str s)] [some (cl pC Y)] (.gv 1 (sents s).length 2) [some (cl pC Y), some (cl pC (sents s))]) (l m : List Int) (how by' : Int) (raw : List UInt8) (hl : LI l) (hm : LI m) (hw : -9223372036854775808 ≤ how ∧ how ≤ 9223372036854775807) (hy : -9223372036854775808 ≤ by' ∧ by' ≤ 9223372036854775807) (hraw : raw.length ≤ 9223372036854775807) : FC Try.prog gl 9 [sl iC .no l, sl iC .no m, .val (.int .i64 how), .val (.int .i64 by'), .val (str raw)] [] (.val (.bool true)) [] := by
 replace hcx := hcx.reN (M := 206)
 refine FC.ofA (cx := cxP gl 206 pu) (rs := [.tmp 10]) rfl Try.func9 rfl rfl rfl (by simp only [List.length_cons, List.length_nil]; decide) (by simp only [go_sem]) ?_
 simp only [ini, go_sem]
 obtain ⟨A, hA, vA, e37a⟩ : ∃ A : List UInt8, A.length ≤ 96 ∧ validE A = 0 ∧ pu 37 [sl iC .no l, .val (nI 0)] = some (.val (str A)) ∧ A = markT l 0 := ⟨markT l 0, (markT_ok l 0).2.1, valid_mark l, h37 l 0 hl (by decide), rfl⟩
 obtain ⟨B, hB, vB, e37b⟩ : ∃ B : List UInt8, B.length ≤ 96 ∧ validE B = 0 ∧ pu 37 [sl iC .no m, .val (nI 0)] = some (.val (str B)) ∧ B = markT m 0 := ⟨markT m 0, (markT_ok m 0).2.1, valid_mark m, h37 m 0 hm (by decide), rfl⟩
 obtain ⟨e37a, eA⟩ := e37a
 obtain ⟨e37b, eB⟩ := e37b
 have vS : validE (joinT A B) = 0 := by rw [eA, eB]; exact valid_join l m
 have hS := joinT_len A B
 have hX := toks_len A
 have hY := toks_len B
 have hZ := toks_joinL A B
 have pX := toks_pos vA
 have pY := toks_pos vB
 obtain ⟨L, hL6, hL0, hL, e11⟩ : ∃ L : List (List UInt8), L.length ≤ 6 ∧ 0 < L.length ∧ (∀ i, i < L.length → (gt L i).length ≤ 10000) ∧ pu 11 [sl iC .no l, .val (.int .i64 how), .val (.int .i64 by'), .val (str raw), .val (nI 600)] = some (sl sC .no L) :=
   ⟨textsT l how by' raw 600, (texts_le l how by' raw 600 (by decide)).1, (texts_le l how by' raw 600 (by decide)).2.1, (texts_le l how by' raw 600 (by decide)).2.2, h11 l how by' raw 600 hl hw hy hraw⟩
 have hb1 := True.intro
 have hb2 := True.intro
 have hcxS := okS (M := 206) hcx g28b g28c
 have eSb := hpS_b A (by omega)
 have eSc := fun Y => hpS_c B Y (by omega)
 have nS := sents_len (joinT A B)
 have e27 : pu 27 [sl pC .no (sents (joinT A B)), sl pI .no ((sents (joinT A B)).map castP)] = some (.val (.bool true)) := by
   have := h27 (sents (joinT A B)) (sents (joinT A B)) (by omega)
   rw [decide_eq_true rfl] at this
   rw [← this]
   unfold sl
   rw [cl_pCI, List.length_map]
 refine Tr.seqK fun K1 hK1 => ?_
 refine Tr.rg hcx [] _ [] rfl rfl rfl ?_
 simp -implicitDefEqProofs (maxSteps := 2000000) (disch := first | omega | (simp only [go_sem, List.length_append, List.length_drop, List.length_take, hb1, hb2, List.length_map] <;> omega) | decide) only [go_sem, ↓reduceIte, Nat.reduceEqDiff, reduceCtorEq, Nat.reduceLT, Nat.reduceBEq, Nat.reduceAdd, Nat.reduceSub, Nat.reduceMul, Nat.reduceMod, e11, h14, h18, h28, h33, h39, hno, e37a, e37b, List.drop_zero, Nat.zero_add, Nat.zero_mul, Nat.mul_one, Nat.add_zero, eq_self, decide_true, decide_false, not_true_eq_false, not_false_eq_true]
 refine hK1 _ ?_
 clear hK1 K1
 refine Tr.kp [0, 1, 2, 3, 4] ?_
 simp only [pk_cons, pk_nil, ↓A_cons, ↓reduceIte, Nat.reduceEqDiff]
 refine Tr.seqK fun K2 hK2 => ?_
 refine Tr.rg hcx [1000031] _ [] rfl rfl rfl ?_
 simp -implicitDefEqProofs (maxSteps := 2000000) (disch := first | omega | (simp only [go_sem, List.length_append, List.length_drop, List.length_take, hb1, hb2, List.length_map] <;> omega) | decide) only [go_sem, ↓reduceIte, Nat.reduceEqDiff, reduceCtorEq, Nat.reduceLT, Nat.reduceBEq, Nat.reduceAdd, Nat.reduceSub, Nat.reduceMul, Nat.reduceMod, e11, h14, h18, h28, h33, h39, hno, e37a, e37b, List.drop_zero, Nat.zero_add, Nat.zero_mul, Nat.mul_one, Nat.add_zero, eq_self, decide_true, decide_false, not_true_eq_false, not_false_eq_true]
 refine hK2 _ ?_
 clear hK2 K2
 refine Tr.kp [0, 1, 11] ?_
 simp only [pk_cons, pk_nil, ↓A_cons, ↓reduceIte, Nat.reduceEqDiff]
 refine Tr.seqK fun K3 hK3 => ?_
 refine Tr.seqK fun K4 hK4 => ?_
 refine Tr.rg hcx [] _ [] rfl rfl rfl ?_
 simp -implicitDefEqProofs (maxSteps := 2000000) (disch := first | omega | (simp only [go_sem, List.length_append, List.length_drop, List.length_take, hb1, hb2, List.length_map] <;> omega) | decide) only [go_sem, ↓reduceIte, Nat.reduceEqDiff, reduceCtorEq, Nat.reduceLT, Nat.reduceBEq, Nat.reduceAdd, Nat.reduceSub, Nat.reduceMul, Nat.reduceMod, e11, h14, h18, h28, h33, h39, hno, e37a, e37b, List.drop_zero, Nat.zero_add, Nat.zero_mul, Nat.mul_one, Nat.add_zero, eq_self, decide_true, decide_false, not_true_eq_false, not_false_eq_true]
 refine hK4 _ ?_
 clear hK4 K4
 refine Tr.kp [0, 1, 11, 12] ?_
 simp only [pk_cons, pk_nil, ↓A_cons, ↓reduceIte, Nat.reduceEqDiff]
 refine Tr.blk ?_
 refine Tr.loopI (α := Nat) (fun a => [(0, ?v0_8), (1, ?v1_8), (11, ?v11_8), (12, .val (nI a))]) (fun a => ?h_8) (fun a => a ≤ L.length) (fun a => L.length - a) (0) ?_ ?le_8 ?hh_8 ?bd_8
 case hh_8 => exact rfl
 case le_8 => (simp only [Le_nil, Le_cons, ↓A_cons, ↓reduceIte, Nat.reduceEqDiff, reduceCtorEq, CLe_refl, CLe_top, CLe_full, CLe_nil, CLe_own, and_true, true_and]; all_goals (repeat' first | exact CLe.refl _ | exact True.intro | (refine CLe_sln ?_; first | with_reducible rfl | (simp only [List.take_zero]; done) | (rfl; done)) | exact CLe_nI (by omega) | exact CLe_int (by omega) | exact CLe_inI (by omega) | exact CLe_nIi (by omega) | with_reducible apply And.intro))
 · omega
 case bd_8 =>
  rintro i hi
  refine Tr.seqK fun K5 hK5 => ?_
  refine Tr.seqK fun K6 hK6 => ?_
  refine Tr.rg hcx [] _ [] rfl rfl rfl ?_
  simp -implicitDefEqProofs (maxSteps := 2000000) (disch := first | omega | (simp only [go_sem, List.length_append, List.length_drop, List.length_take, hb1, hb2, List.length_map] <;> omega) | decide) only [go_sem, ↓reduceIte, Nat.reduceEqDiff, reduceCtorEq, Nat.reduceLT, Nat.reduceBEq, Nat.reduceAdd, Nat.reduceSub, Nat.reduceMul, Nat.reduceMod, e11, h14, h18, h28, h33, h39, hno, e37a, e37b, List.drop_zero, Nat.zero_add, Nat.zero_mul, Nat.mul_one, Nat.add_zero, eq_self, decide_true, decide_false, not_true_eq_false, not_false_eq_true]
  refine hK6 _ ?_
  clear hK6 K6
  refine Tr.kp [0, 1, 11, 12, 35] ?_
  simp only [pk_cons, pk_nil, ↓A_cons, ↓reduceIte, Nat.reduceEqDiff]
  refine Tr.condG fun KT KF hT hF => ?_
  simp only [ev_tmp, ev_const, ↓A_cons, ↓reduceIte, Nat.reduceEqDiff, reduceCtorEq, condG_bool, GB_true, GB_false, decide_eq_true_eq]
  refine GB.dec (fun hc35 => hT ?_) (fun hc35 => hF ?_)
  ·
   clear hT hF KT KF
   have hb1 := hL i hc35
   have hb3 := toks_len (gt L i)
   have hb2 := sents_len (gt L i)
   have hend : (preP 0 (sents (gt L i)) (sents (gt L i)).length = (toks (gt L i)).length) = True := eq_true (sents_end (gt L i))
   refine Tr.skip ?_
   refine hK5 _ ?_
   clear hK5 K5
   refine Tr.kp [0, 1, 11, 12] ?_
   simp only [pk_cons, pk_nil, ↓A_cons, ↓reduceIte, Nat.reduceEqDiff]
   refine Tr.seqK fun K7 hK7 => ?_
   refine Tr.blk ?_
   refine Tr.seqK fun K8 hK8 => ?_
   refine Tr.rg hcx [1000041] _ [] rfl rfl rfl ?_
   simp -implicitDefEqProofs (maxSteps := 2000000) (disch := first | omega | (simp only [go_sem, List.length_append, List.length_drop, List.length_take, hb1, hb2, List.length_map] <;> omega) | decide) only [go_sem, ↓reduceIte, Nat.reduceEqDiff, reduceCtorEq, Nat.reduceLT, Nat.reduceBEq, Nat.reduceAdd, Nat.reduceSub, Nat.reduceMul, Nat.reduceMod, e11, h14, h18, h28, h33, h39, hno, e37a, e37b, List.drop_zero, Nat.zero_add, Nat.zero_mul, Nat.mul_one, Nat.add_zero, eq_self, decide_true, decide_false, not_true_eq_false, not_false_eq_true]
   refine hK8 _ ?_
   clear hK8 K8
   refine Tr.kp [0, 1, 11, 12, 13] ?_
   simp only [pk_cons, pk_nil, ↓A_cons, ↓reduceIte, Nat.reduceEqDiff]
   refine Tr.seqK fun K9 hK9 => ?_
   refine Tr.rg hcx [1000043] _ [] rfl rfl rfl ?_
   simp -implicitDefEqProofs (maxSteps := 2000000) (disch := first | omega | (simp only [go_sem, List.length_append, List.length_drop, List.length_take, hb1, hb2, List.length_map] <;> omega) | decide) only [go_sem, ↓reduceIte, Nat.reduceEqDiff, reduceCtorEq, Nat.reduceLT, Nat.reduceBEq, Nat.reduceAdd, Nat.reduceSub, Nat.reduceMul, Nat.reduceMod, e11, h14, h18, h28, h33, h39, hno, e37a, e37b, List.drop_zero, Nat.zero_add, Nat.zero_mul, Nat.mul_one, Nat.add_zero, eq_self, decide_true, decide_false, not_true_eq_false, not_false_eq_true]
   refine hK9 _ ?_
   clear hK9 K9
   refine Tr.kp [0, 1, 11, 12, 13, 14] ?_
   simp only [pk_cons, pk_nil, ↓A_cons, ↓reduceIte, Nat.reduceEqDiff]
   refine Tr.seqK fun K10 hK10 => ?_
   refine Tr.rg hcx [1000045] _ [] rfl rfl rfl ?_
   simp -implicitDefEqProofs (maxSteps := 2000000) (disch := first | omega | (simp only [go_sem, List.length_append, List.length_drop, List.length_take, hb1, hb2, List.length_map] <;> omega) | decide) only [go_sem, ↓reduceIte, Nat.reduceEqDiff, reduceCtorEq, Nat.reduceLT, Nat.reduceBEq, Nat.reduceAdd, Nat.reduceSub, Nat.reduceMul, Nat.reduceMod, e11, h14, h18, h28, h33, h39, hno, e37a, e37b, List.drop_zero, Nat.zero_add, Nat.zero_mul, Nat.mul_one, Nat.add_zero, eq_self, decide_true, decide_false, not_true_eq_false, not_false_eq_true]
   refine hK10 _ ?_
   clear hK10 K10
   refine Tr.kp [0, 1, 11, 12, 13, 14, 15] ?_
   simp only [pk_cons, pk_nil, ↓A_cons, ↓reduceIte, Nat.reduceEqDiff]
   refine Tr.seqK fun K11 hK11 => ?_
   refine Tr.rg hcx [] _ [] rfl rfl rfl ?_
   simp -implicitDefEqProofs (maxSteps := 2000000) (disch := first | omega | (simp only [go_sem, List.length_append, List.length_drop, List.length_take, hb1, hb2, List.length_map] <;> omega) | decide) only [go_sem, ↓reduceIte, Nat.reduceEqDiff, reduceCtorEq, Nat.reduceLT, Nat.reduceBEq, Nat.reduceAdd, Nat.reduceSub, Nat.reduceMul, Nat.reduceMod, e11, h14, h18, h28, h33, h39, hno, e37a, e37b, List.drop_zero, Nat.zero_add, Nat.zero_mul, Nat.mul_one, Nat.add_zero, eq_self, decide_true, decide_false, not_true_eq_false, not_false_eq_true]
   refine hK11 _ ?_
   clear hK11 K11
   refine Tr.kp [0, 1, 11, 12, 13, 14, 15, 16] ?_
   simp only [pk_cons, pk_nil, ↓A_cons, ↓reduceIte, Nat.reduceEqDiff]
   refine Tr.seqK fun K12 hK12 => ?_
   refine Tr.seqK fun K13 hK13 => ?_
   refine Tr.rg hcx [] _ [] rfl rfl rfl ?_
   simp -implicitDefEqProofs (maxSteps := 2000000) (disch := first | omega | (simp only [go_sem, List.length_append, List.length_drop, List.length_take, hb1, hb2, List.length_map] <;> omega) | decide) only [go_sem, ↓reduceIte, Nat.reduceEqDiff, reduceCtorEq, Nat.reduceLT, Nat.reduceBEq, Nat.reduceAdd, Nat.reduceSub, Nat.reduceMul, Nat.reduceMod, e11, h14, h18, h28, h33, h39, hno, e37a, e37b, List.drop_zero, Nat.zero_add, Nat.zero_mul, Nat.mul_one, Nat.add_zero, eq_self, decide_true, decide_false, not_true_eq_false, not_false_eq_true]
   refine hK13 _ ?_
   clear hK13 K13
   refine Tr.kp [0, 1, 11, 12, 13, 14, 15, 16, 17] ?_
   simp only [pk_cons, pk_nil, ↓A_cons, ↓reduceIte, Nat.reduceEqDiff]
   refine Tr.blk ?_
   refine Tr.loopI (α := Nat) (fun a => [(0, ?v0_29), (1, ?v1_29), (11, ?v11_29), (12, ?v12_29), (13, ?v13_29), (14, ?v14_29), (15, ?v15_29), (16, .val (nI (preP 0 (sents (gt L i)) a))), (17, .val (nI a))]) (fun a => ?h_29) (fun a => a ≤ (sents (gt L i)).length) (fun a => (sents (gt L i)).length - a) (0) ?_ ?le_29 ?hh_29 ?bd_29
   case hh_29 => exact rfl
   case le_29 => (simp only [Le_nil, Le_cons, ↓A_cons, ↓reduceIte, Nat.reduceEqDiff, reduceCtorEq, CLe_refl, CLe_top, CLe_full, CLe_nil, CLe_own, and_true, true_and]; all_goals (repeat' first | exact CLe.refl _ | exact True.intro | (refine CLe_sln ?_; first | with_reducible rfl | (simp only [List.take_zero]; done) | (rfl; done)) | exact CLe_nI (by omega) | exact CLe_int (by omega) | exact CLe_inI (by omega) | exact CLe_nIi (by omega) | with_reducible apply And.intro))
   · omega
   case bd_29 =>
    rintro k hk
    refine Tr.seqK fun K14 hK14 => ?_
    refine Tr.seqK fun K15 hK15 => ?_
    refine Tr.rg hcx [] _ [] rfl rfl rfl ?_
    simp -implicitDefEqProofs (maxSteps := 2000000) (disch := first | omega | (simp only [go_sem, List.length_append, List.length_drop, List.length_take, hb1, hb2, List.length_map] <;> omega) | decide) only [go_sem, ↓reduceIte, Nat.reduceEqDiff, reduceCtorEq, Nat.reduceLT, Nat.reduceBEq, Nat.reduceAdd, Nat.reduceSub, Nat.reduceMul, Nat.reduceMod, e11, h14, h18, h28, h33, h39, hno, e37a, e37b, List.drop_zero, Nat.zero_add, Nat.zero_mul, Nat.mul_one, Nat.add_zero, eq_self, decide_true, decide_false, not_true_eq_false, not_false_eq_true]
    refine hK15 _ ?_
    clear hK15 K15
    refine Tr.kp [0, 1, 11, 12, 13, 14, 15, 16, 17, 49] ?_
    simp only [pk_cons, pk_nil, ↓A_cons, ↓reduceIte, Nat.reduceEqDiff]
    refine Tr.condG fun KT KF hT hF => ?_
    simp only [ev_tmp, ev_const, ↓A_cons, ↓reduceIte, Nat.reduceEqDiff, reduceCtorEq, condG_bool, GB_true, GB_false, decide_eq_true_eq]
    refine GB.dec (fun hc49 => hT ?_) (fun hc49 => hF ?_)
    ·
     clear hT hF KT KF
     obtain ⟨q1, q2, q3, q4⟩ := sents_at (gt L i) k hc49
     have f1 : ((gt (sents (gt L i)) k).1 = preP 0 (sents (gt L i)) k) = True := eq_true q1
     have f2 : ((gt (sents (gt L i)) k).2 ≤ preP 0 (sents (gt L i)) k) = False := eq_false (by omega)
     have f3 : ((toks (gt L i)).length < (gt (sents (gt L i)) k).2) = False := eq_false (by omega)
     refine Tr.skip ?_
     refine hK14 _ ?_
     clear hK14 K14
     refine Tr.kp [0, 1, 11, 12, 13, 14, 15, 16, 17] ?_
     simp only [pk_cons, pk_nil, ↓A_cons, ↓reduceIte, Nat.reduceEqDiff]
     refine Tr.seqK fun K16 hK16 => ?_
     refine Tr.blk ?_
     refine Tr.seqK fun K17 hK17 => ?_
     refine Tr.seqK fun K18 hK18 => ?_
     refine Tr.rg hcx [] [some 52, some 53, some 54, some 55, some 56, some 57, some 58, some 59, some 60, some 61, some 62, some 63, some 64, some 65, some 66, some 67, some 68, some 69, some 70, some 71, some 72, some 73, some 74, some 75, some 76, some 77] [] rfl rfl rfl ?_
     simp -implicitDefEqProofs (maxSteps := 2000000) (disch := first | omega | (simp only [go_sem, List.length_append, List.length_drop, List.length_take, hb1, hb2, List.length_map] <;> omega) | decide) only [go_sem, ↓reduceIte, Nat.reduceEqDiff, reduceCtorEq, Nat.reduceLT, Nat.reduceBEq, Nat.reduceAdd, Nat.reduceSub, Nat.reduceMul, Nat.reduceMod, e11, h14, h18, h28, h33, h39, hno, e37a, e37b, List.drop_zero, Nat.zero_add, Nat.zero_mul, Nat.mul_one, Nat.add_zero, eq_self, decide_true, decide_false, not_true_eq_false, not_false_eq_true, f1, f2, f3]
     refine hK18 _ ?_
     clear hK18 K18
     refine Tr.kp [0, 1, 11, 12, 13, 14, 15, 17, 77] ?_
     simp only [pk_cons, pk_nil, ↓A_cons, ↓reduceIte, Nat.reduceEqDiff]
     refine Tr.condG fun KT KF hT hF => ?_
     simp only [ev_tmp, ev_const, ↓A_cons, ↓reduceIte, Nat.reduceEqDiff, reduceCtorEq, condG_bool, GB_true, GB_false, decide_eq_true_eq]
     refine hF ?_
     clear hT hF KT KF
     refine Tr.skip ?_
     refine hK17 _ ?_
     clear hK17 K17
     refine Tr.kp [0, 1, 11, 12, 13, 14, 15, 17] ?_
     simp only [pk_cons, pk_nil, ↓A_cons, ↓reduceIte, Nat.reduceEqDiff]
     refine Tr.seqK fun K19 hK19 => ?_
     refine Tr.rg hcx [1000082] _ [] rfl rfl rfl ?_
     simp -implicitDefEqProofs (maxSteps := 2000000) (disch := first | omega | (simp only [go_sem, List.length_append, List.length_drop, List.length_take, hb1, hb2, List.length_map] <;> omega) | decide) only [go_sem, ↓reduceIte, Nat.reduceEqDiff, reduceCtorEq, Nat.reduceLT, Nat.reduceBEq, Nat.reduceAdd, Nat.reduceSub, Nat.reduceMul, Nat.reduceMod, e11, h14, h18, h28, h33, h39, hno, e37a, e37b, List.drop_zero, Nat.zero_add, Nat.zero_mul, Nat.mul_one, Nat.add_zero, eq_self, decide_true, decide_false, not_true_eq_false, not_false_eq_true]
     refine hK19 _ ?_
     clear hK19 K19
     refine Tr.kp [0, 1, 11, 12, 13, 14, 15, 16, 17] ?_
     simp only [pk_cons, pk_nil, ↓A_cons, ↓reduceIte, Nat.reduceEqDiff]
     refine Tr.seqK fun K20 hK20 => ?_
     refine Tr.rg hcx [1000087] _ [] rfl rfl rfl ?_
     simp -implicitDefEqProofs (maxSteps := 2000000) (disch := first | omega | (simp only [go_sem, List.length_append, List.length_drop, List.length_take, hb1, hb2, List.length_map] <;> omega) | decide) only [go_sem, ↓reduceIte, Nat.reduceEqDiff, reduceCtorEq, Nat.reduceLT, Nat.reduceBEq, Nat.reduceAdd, Nat.reduceSub, Nat.reduceMul, Nat.reduceMod, e11, h14, h18, h28, h33, h39, hno, e37a, e37b, List.drop_zero, Nat.zero_add, Nat.zero_mul, Nat.mul_one, Nat.add_zero, eq_self, decide_true, decide_false, not_true_eq_false, not_false_eq_true]
     refine hK20 _ ?_
     clear hK20 K20
     refine Tr.kp [0, 1, 11, 12, 13, 14, 15, 16, 17, 18] ?_
     simp only [pk_cons, pk_nil, ↓A_cons, ↓reduceIte, Nat.reduceEqDiff]
     refine Tr.blk ?_
     refine Tr.loopI (α := Nat) (fun a => [(0, ?v0_51), (1, ?v1_51), (11, ?v11_51), (12, ?v12_51), (13, ?v13_51), (14, ?v14_51), (15, ?v15_51), (16, ?v16_51), (17, ?v17_51), (18, .val (nI a))]) (fun a => ?h_51) (fun a => (gt (sents (gt L i)) k).1 ≤ a ∧ a ≤ (gt (sents (gt L i)) k).2) (fun a => (gt (sents (gt L i)) k).2 - a) ((gt (sents (gt L i)) k).1) ?_ ?le_51 ?hh_51 ?bd_51
     case hh_51 => exact rfl
     case le_51 => (simp only [Le_nil, Le_cons, ↓A_cons, ↓reduceIte, Nat.reduceEqDiff, reduceCtorEq, CLe_refl, CLe_top, CLe_full, CLe_nil, CLe_own, and_true, true_and]; all_goals (repeat' first | exact CLe.refl _ | exact True.intro | (refine CLe_sln ?_; first | with_reducible rfl | (simp only [List.take_zero]; done) | (rfl; done)) | exact CLe_nI (by omega) | exact CLe_int (by omega) | exact CLe_inI (by omega) | exact CLe_nIi (by omega) | with_reducible apply And.intro))
     · omega
     case bd_51 =>
      rintro j hj
      refine Tr.seqK fun K21 hK21 => ?_
      refine Tr.seqK fun K22 hK22 => ?_
      refine Tr.rg hcx [] _ [] rfl rfl rfl ?_
      simp -implicitDefEqProofs (maxSteps := 2000000) (disch := first | omega | (simp only [go_sem, List.length_append, List.length_drop, List.length_take, hb1, hb2, List.length_map] <;> omega) | decide) only [go_sem, ↓reduceIte, Nat.reduceEqDiff, reduceCtorEq, Nat.reduceLT, Nat.reduceBEq, Nat.reduceAdd, Nat.reduceSub, Nat.reduceMul, Nat.reduceMod, e11, h14, h18, h28, h33, h39, hno, e37a, e37b, List.drop_zero, Nat.zero_add, Nat.zero_mul, Nat.mul_one, Nat.add_zero, eq_self, decide_true, decide_false, not_true_eq_false, not_false_eq_true]
      refine hK22 _ ?_
      clear hK22 K22
      refine Tr.kp [0, 1, 11, 12, 13, 14, 15, 16, 17, 18, 90] ?_
      simp only [pk_cons, pk_nil, ↓A_cons, ↓reduceIte, Nat.reduceEqDiff]
      refine Tr.condG fun KT KF hT hF => ?_
      simp only [ev_tmp, ev_const, ↓A_cons, ↓reduceIte, Nat.reduceEqDiff, reduceCtorEq, condG_bool, GB_true, GB_false, decide_eq_true_eq]
      refine GB.dec (fun hc90 => hT ?_) (fun hc90 => hF ?_)
      ·
       clear hT hF KT KF
       have q5 := q4 j hj.1 hc90
       have hsv := stopL_V (gt L i) j (by omega)
       rw [← hsv] at q5
       refine Tr.skip ?_
       refine hK21 _ ?_
       clear hK21 K21
       refine Tr.kp [0, 1, 11, 12, 13, 14, 15, 16, 17, 18] ?_
       simp only [pk_cons, pk_nil, ↓A_cons, ↓reduceIte, Nat.reduceEqDiff]
       refine Tr.seqK fun K23 hK23 => ?_
       refine Tr.blk ?_
       refine Tr.seqK fun K24 hK24 => ?_
       by_cases b3 : (gt (sents (gt L i)) k).2 < (toks (gt L i)).length
       ·
        have b3o := b3
        replace b3 := eq_true b3
        by_cases b2 : j + 1 = (gt (sents (gt L i)) k).2
        ·
         have b2o := b2
         replace b2 := eq_true b2
         have b5 : (j + 1 < (gt (sents (gt L i)) k).2) = False := eq_false (by omega)
         have hst : stopL (gt L i) (toks (gt L i)) j = true := q5.1 b3o b2o
         refine Tr.rg hcx [] [some 93, some 94, some 95, some 96, some 97, some 98, some 99, some 100, some 101, some 102, some 103, some 104, some 105, some 106, some 107, some 108, some 109, some 110, some 111, some 112, some 113, some 114, some 115, some 116, some 117, some 118, some 119] [] rfl rfl rfl ?_
         simp -implicitDefEqProofs (maxSteps := 2000000) (disch := first | omega | (simp only [go_sem, List.length_append, List.length_drop, List.length_take, hb1, hb2, List.length_map] <;> omega) | decide) only [go_sem, ↓reduceIte, Nat.reduceEqDiff, reduceCtorEq, Nat.reduceLT, Nat.reduceBEq, Nat.reduceAdd, Nat.reduceSub, Nat.reduceMul, Nat.reduceMod, e11, h14, h18, h28, h33, h39, hno, e37a, e37b, List.drop_zero, Nat.zero_add, Nat.zero_mul, Nat.mul_one, Nat.add_zero, eq_self, decide_true, decide_false, not_true_eq_false, not_false_eq_true, b3, b2, b5, hst, bft, btf]
         refine hK24 _ ?_
         clear hK24 K24
         refine Tr.kp [0, 1, 11, 12, 13, 14, 15, 16, 17, 18, 119] ?_
         simp only [pk_cons, pk_nil, ↓A_cons, ↓reduceIte, Nat.reduceEqDiff]
         refine Tr.condG fun KT KF hT hF => ?_
         simp only [ev_tmp, ev_const, ↓A_cons, ↓reduceIte, Nat.reduceEqDiff, reduceCtorEq, condG_bool, GB_true, GB_false, decide_eq_true_eq]
         refine hF ?_
         clear hT hF KT KF
         refine Tr.skip ?_
         refine hK23 _ ?_
         clear hK23 K23
         refine Tr.kp [0, 1, 11, 12, 13, 14, 15, 16, 17, 18] ?_
         simp only [pk_cons, pk_nil, ↓A_cons, ↓reduceIte, Nat.reduceEqDiff]
         refine Tr.rg hcx [1000092] _ [] rfl rfl rfl ?_
         simp -implicitDefEqProofs (maxSteps := 2000000) (disch := first | omega | (simp only [go_sem, List.length_append, List.length_drop, List.length_take, hb1, hb2, List.length_map] <;> omega) | decide) only [go_sem, ↓reduceIte, Nat.reduceEqDiff, reduceCtorEq, Nat.reduceLT, Nat.reduceBEq, Nat.reduceAdd, Nat.reduceSub, Nat.reduceMul, Nat.reduceMod, e11, h14, h18, h28, h33, h39, hno, e37a, e37b, List.drop_zero, Nat.zero_add, Nat.zero_mul, Nat.mul_one, Nat.add_zero, eq_self, decide_true, decide_false, not_true_eq_false, not_false_eq_true, b3, b2]
         refine ⟨j + 1, ⟨by omega, by first | omega | (simp only []; omega)⟩, ?_, rfl⟩
         (simp only [Le_nil, Le_cons, ↓A_cons, ↓reduceIte, Nat.reduceEqDiff, reduceCtorEq, CLe_refl, CLe_top, CLe_full, CLe_nil, CLe_own, and_true, true_and]; all_goals (repeat' first | exact CLe.refl _ | exact True.intro | (refine CLe_sln ?_; first | with_reducible rfl | (simp only [List.take_zero]; done) | (rfl; done)) | exact CLe_nI (by omega) | exact CLe_int (by omega) | exact CLe_inI (by omega) | exact CLe_nIi (by omega) | with_reducible apply And.intro))
        ·
         have b2o := b2
         replace b2 := eq_false b2
         have b5 : (j + 1 < (gt (sents (gt L i)) k).2) = True := eq_true (by omega)
         have hst : stopL (gt L i) (toks (gt L i)) j = false := q5.2 (by omega)
         refine Tr.rg hcx [] [some 93, some 94, some 95, some 96, some 97, some 98, some 99, some 100, some 101, some 102, some 103, some 104, some 105, some 106, some 107, some 108, some 109, some 110, some 111, some 112, some 113, some 114, some 115, some 116, some 117, some 118, some 119] [] rfl rfl rfl ?_
         simp -implicitDefEqProofs (maxSteps := 2000000) (disch := first | omega | (simp only [go_sem, List.length_append, List.length_drop, List.length_take, hb1, hb2, List.length_map] <;> omega) | decide) only [go_sem, ↓reduceIte, Nat.reduceEqDiff, reduceCtorEq, Nat.reduceLT, Nat.reduceBEq, Nat.reduceAdd, Nat.reduceSub, Nat.reduceMul, Nat.reduceMod, e11, h14, h18, h28, h33, h39, hno, e37a, e37b, List.drop_zero, Nat.zero_add, Nat.zero_mul, Nat.mul_one, Nat.add_zero, eq_self, decide_true, decide_false, not_true_eq_false, not_false_eq_true, b3, b2, b5, hst, bft, btf]
         refine hK24 _ ?_
         clear hK24 K24
         refine Tr.kp [0, 1, 11, 12, 13, 14, 15, 16, 17, 18, 119] ?_
         simp only [pk_cons, pk_nil, ↓A_cons, ↓reduceIte, Nat.reduceEqDiff]
         refine Tr.condG fun KT KF hT hF => ?_
         simp only [ev_tmp, ev_const, ↓A_cons, ↓reduceIte, Nat.reduceEqDiff, reduceCtorEq, condG_bool, GB_true, GB_false, decide_eq_true_eq]
         refine hF ?_
         clear hT hF KT KF
         refine Tr.skip ?_
         refine hK23 _ ?_
         clear hK23 K23
         refine Tr.kp [0, 1, 11, 12, 13, 14, 15, 16, 17, 18] ?_
         simp only [pk_cons, pk_nil, ↓A_cons, ↓reduceIte, Nat.reduceEqDiff]
         refine Tr.rg hcx [1000092] _ [] rfl rfl rfl ?_
         simp -implicitDefEqProofs (maxSteps := 2000000) (disch := first | omega | (simp only [go_sem, List.length_append, List.length_drop, List.length_take, hb1, hb2, List.length_map] <;> omega) | decide) only [go_sem, ↓reduceIte, Nat.reduceEqDiff, reduceCtorEq, Nat.reduceLT, Nat.reduceBEq, Nat.reduceAdd, Nat.reduceSub, Nat.reduceMul, Nat.reduceMod, e11, h14, h18, h28, h33, h39, hno, e37a, e37b, List.drop_zero, Nat.zero_add, Nat.zero_mul, Nat.mul_one, Nat.add_zero, eq_self, decide_true, decide_false, not_true_eq_false, not_false_eq_true, b3, b2]
         refine ⟨j + 1, ⟨by omega, by first | omega | (simp only []; omega)⟩, ?_, rfl⟩
         (simp only [Le_nil, Le_cons, ↓A_cons, ↓reduceIte, Nat.reduceEqDiff, reduceCtorEq, CLe_refl, CLe_top, CLe_full, CLe_nil, CLe_own, and_true, true_and]; all_goals (repeat' first | exact CLe.refl _ | exact True.intro | (refine CLe_sln ?_; first | with_reducible rfl | (simp only [List.take_zero]; done) | (rfl; done)) | exact CLe_nI (by omega) | exact CLe_int (by omega) | exact CLe_inI (by omega) | exact CLe_nIi (by omega) | with_reducible apply And.intro))
       ·
        have b3o := b3
        replace b3 := eq_false b3
        by_cases b2 : j + 1 = (gt (sents (gt L i)) k).2
        ·
         have b2o := b2
         replace b2 := eq_true b2
         have b5 : (j + 1 < (gt (sents (gt L i)) k).2) = False := eq_false (by omega)
         by_cases b1 : stopL (gt L i) (toks (gt L i)) j = true
         ·
          have hst : stopL (gt L i) (toks (gt L i)) j = true := b1
          refine Tr.rg hcx [] [some 93, some 94, some 95, some 96, some 97, some 98, some 99, some 100, some 101, some 102, some 103, some 104, some 105, some 106, some 107, some 108, some 109, some 110, some 111, some 112, some 113, some 114, some 115, some 116, some 117, some 118, some 119] [] rfl rfl rfl ?_
          simp -implicitDefEqProofs (maxSteps := 2000000) (disch := first | omega | (simp only [go_sem, List.length_append, List.length_drop, List.length_take, hb1, hb2, List.length_map] <;> omega) | decide) only [go_sem, ↓reduceIte, Nat.reduceEqDiff, reduceCtorEq, Nat.reduceLT, Nat.reduceBEq, Nat.reduceAdd, Nat.reduceSub, Nat.reduceMul, Nat.reduceMod, e11, h14, h18, h28, h33, h39, hno, e37a, e37b, List.drop_zero, Nat.zero_add, Nat.zero_mul, Nat.mul_one, Nat.add_zero, eq_self, decide_true, decide_false, not_true_eq_false, not_false_eq_true, b3, b2, b1, b5, hst, bft, btf]
          refine hK24 _ ?_
          clear hK24 K24
          refine Tr.kp [0, 1, 11, 12, 13, 14, 15, 16, 17, 18, 119] ?_
          simp only [pk_cons, pk_nil, ↓A_cons, ↓reduceIte, Nat.reduceEqDiff]
          refine Tr.condG fun KT KF hT hF => ?_
          simp only [ev_tmp, ev_const, ↓A_cons, ↓reduceIte, Nat.reduceEqDiff, reduceCtorEq, condG_bool, GB_true, GB_false, decide_eq_true_eq]
          refine hF ?_
          clear hT hF KT KF
          refine Tr.skip ?_
          refine hK23 _ ?_
          clear hK23 K23
          refine Tr.kp [0, 1, 11, 12, 13, 14, 15, 16, 17, 18] ?_
          simp only [pk_cons, pk_nil, ↓A_cons, ↓reduceIte, Nat.reduceEqDiff]
          refine Tr.rg hcx [1000092] _ [] rfl rfl rfl ?_
          simp -implicitDefEqProofs (maxSteps := 2000000) (disch := first | omega | (simp only [go_sem, List.length_append, List.length_drop, List.length_take, hb1, hb2, List.length_map] <;> omega) | decide) only [go_sem, ↓reduceIte, Nat.reduceEqDiff, reduceCtorEq, Nat.reduceLT, Nat.reduceBEq, Nat.reduceAdd, Nat.reduceSub, Nat.reduceMul, Nat.reduceMod, e11, h14, h18, h28, h33, h39, hno, e37a, e37b, List.drop_zero, Nat.zero_add, Nat.zero_mul, Nat.mul_one, Nat.add_zero, eq_self, decide_true, decide_false, not_true_eq_false, not_false_eq_true, b3, b2, b1]
          refine ⟨j + 1, ⟨by omega, by first | omega | (simp only []; omega)⟩, ?_, rfl⟩
          (simp only [Le_nil, Le_cons, ↓A_cons, ↓reduceIte, Nat.reduceEqDiff, reduceCtorEq, CLe_refl, CLe_top, CLe_full, CLe_nil, CLe_own, and_true, true_and]; all_goals (repeat' first | exact CLe.refl _ | exact True.intro | (refine CLe_sln ?_; first | with_reducible rfl | (simp only [List.take_zero]; done) | (rfl; done)) | exact CLe_nI (by omega) | exact CLe_int (by omega) | exact CLe_inI (by omega) | exact CLe_nIi (by omega) | with_reducible apply And.intro))
         ·
          have hst : stopL (gt L i) (toks (gt L i)) j = false := by simpa using b1
          refine Tr.rg hcx [] [some 93, some 94, some 95, some 96, some 97, some 98, some 99, some 100, some 101, some 102, some 103, some 104, some 105, some 106, some 107, some 108, some 109, some 110, some 111, some 112, some 113, some 114, some 115, some 116, some 117, some 118, some 119] [] rfl rfl rfl ?_
          simp -implicitDefEqProofs (maxSteps := 2000000) (disch := first | omega | (simp only [go_sem, List.length_append, List.length_drop, List.length_take, hb1, hb2, List.length_map] <;> omega) | decide) only [go_sem, ↓reduceIte, Nat.reduceEqDiff, reduceCtorEq, Nat.reduceLT, Nat.reduceBEq, Nat.reduceAdd, Nat.reduceSub, Nat.reduceMul, Nat.reduceMod, e11, h14, h18, h28, h33, h39, hno, e37a, e37b, List.drop_zero, Nat.zero_add, Nat.zero_mul, Nat.mul_one, Nat.add_zero, eq_self, decide_true, decide_false, not_true_eq_false, not_false_eq_true, b3, b2, b1, b5, hst, bft, btf]
          refine hK24 _ ?_
          clear hK24 K24
          refine Tr.kp [0, 1, 11, 12, 13, 14, 15, 16, 17, 18, 119] ?_
          simp only [pk_cons, pk_nil, ↓A_cons, ↓reduceIte, Nat.reduceEqDiff]
          refine Tr.condG fun KT KF hT hF => ?_
          simp only [ev_tmp, ev_const, ↓A_cons, ↓reduceIte, Nat.reduceEqDiff, reduceCtorEq, condG_bool, GB_true, GB_false, decide_eq_true_eq]
          refine hF ?_
          clear hT hF KT KF
          refine Tr.skip ?_
          refine hK23 _ ?_
          clear hK23 K23
          refine Tr.kp [0, 1, 11, 12, 13, 14, 15, 16, 17, 18] ?_
          simp only [pk_cons, pk_nil, ↓A_cons, ↓reduceIte, Nat.reduceEqDiff]
          refine Tr.rg hcx [1000092] _ [] rfl rfl rfl ?_
          simp -implicitDefEqProofs (maxSteps := 2000000) (disch := first | omega | (simp only [go_sem, List.length_append, List.length_drop, List.length_take, hb1, hb2, List.length_map] <;> omega) | decide) only [go_sem, ↓reduceIte, Nat.reduceEqDiff, reduceCtorEq, Nat.reduceLT, Nat.reduceBEq, Nat.reduceAdd, Nat.reduceSub, Nat.reduceMul, Nat.reduceMod, e11, h14, h18, h28, h33, h39, hno, e37a, e37b, List.drop_zero, Nat.zero_add, Nat.zero_mul, Nat.mul_one, Nat.add_zero, eq_self, decide_true, decide_false, not_true_eq_false, not_false_eq_true, b3, b2, b1]
          refine ⟨j + 1, ⟨by omega, by first | omega | (simp only []; omega)⟩, ?_, rfl⟩
          (simp only [Le_nil, Le_cons, ↓A_cons, ↓reduceIte, Nat.reduceEqDiff, reduceCtorEq, CLe_refl, CLe_top, CLe_full, CLe_nil, CLe_own, and_true, true_and]; all_goals (repeat' first | exact CLe.refl _ | exact True.intro | (refine CLe_sln ?_; first | with_reducible rfl | (simp only [List.take_zero]; done) | (rfl; done)) | exact CLe_nI (by omega) | exact CLe_int (by omega) | exact CLe_inI (by omega) | exact CLe_nIi (by omega) | with_reducible apply And.intro))
        ·
         have b2o := b2
         replace b2 := eq_false b2
         have b5 : (j + 1 < (gt (sents (gt L i)) k).2) = True := eq_true (by omega)
         have hst : stopL (gt L i) (toks (gt L i)) j = false := q5.2 (by omega)
         refine Tr.rg hcx [] [some 93, some 94, some 95, some 96, some 97, some 98, some 99, some 100, some 101, some 102, some 103, some 104, some 105, some 106, some 107, some 108, some 109, some 110, some 111, some 112, some 113, some 114, some 115, some 116, some 117, some 118, some 119] [] rfl rfl rfl ?_
         simp -implicitDefEqProofs (maxSteps := 2000000) (disch := first | omega | (simp only [go_sem, List.length_append, List.length_drop, List.length_take, hb1, hb2, List.length_map] <;> omega) | decide) only [go_sem, ↓reduceIte, Nat.reduceEqDiff, reduceCtorEq, Nat.reduceLT, Nat.reduceBEq, Nat.reduceAdd, Nat.reduceSub, Nat.reduceMul, Nat.reduceMod, e11, h14, h18, h28, h33, h39, hno, e37a, e37b, List.drop_zero, Nat.zero_add, Nat.zero_mul, Nat.mul_one, Nat.add_zero, eq_self, decide_true, decide_false, not_true_eq_false, not_false_eq_true, b3, b2, b5, hst, bft, btf]
         refine hK24 _ ?_
         clear hK24 K24
         refine Tr.kp [0, 1, 11, 12, 13, 14, 15, 16, 17, 18, 119] ?_
         simp only [pk_cons, pk_nil, ↓A_cons, ↓reduceIte, Nat.reduceEqDiff]
         refine Tr.condG fun KT KF hT hF => ?_
         simp only [ev_tmp, ev_const, ↓A_cons, ↓reduceIte, Nat.reduceEqDiff, reduceCtorEq, condG_bool, GB_true, GB_false, decide_eq_true_eq]
         refine hF ?_
         clear hT hF KT KF
         refine Tr.skip ?_
         refine hK23 _ ?_
         clear hK23 K23
         refine Tr.kp [0, 1, 11, 12, 13, 14, 15, 16, 17, 18] ?_
         simp only [pk_cons, pk_nil, ↓A_cons, ↓reduceIte, Nat.reduceEqDiff]
         refine Tr.rg hcx [1000092] _ [] rfl rfl rfl ?_
         simp -implicitDefEqProofs (maxSteps := 2000000) (disch := first | omega | (simp only [go_sem, List.length_append, List.length_drop, List.length_take, hb1, hb2, List.length_map] <;> omega) | decide) only [go_sem, ↓reduceIte, Nat.reduceEqDiff, reduceCtorEq, Nat.reduceLT, Nat.reduceBEq, Nat.reduceAdd, Nat.reduceSub, Nat.reduceMul, Nat.reduceMod, e11, h14, h18, h28, h33, h39, hno, e37a, e37b, List.drop_zero, Nat.zero_add, Nat.zero_mul, Nat.mul_one, Nat.add_zero, eq_self, decide_true, decide_false, not_true_eq_false, not_false_eq_true, b3, b2]
         refine ⟨j + 1, ⟨by omega, by first | omega | (simp only []; omega)⟩, ?_, rfl⟩
         (simp only [Le_nil, Le_cons, ↓A_cons, ↓reduceIte, Nat.reduceEqDiff, reduceCtorEq, CLe_refl, CLe_top, CLe_full, CLe_nil, CLe_own, and_true, true_and]; all_goals (repeat' first | exact CLe.refl _ | exact True.intro | (refine CLe_sln ?_; first | with_reducible rfl | (simp only [List.take_zero]; done) | (rfl; done)) | exact CLe_nI (by omega) | exact CLe_int (by omega) | exact CLe_inI (by omega) | exact CLe_nIi (by omega) | with_reducible apply And.intro))
      ·
       clear hT hF KT KF
       refine Tr.exit ?_
       refine hK16 _ ?_
       clear hK21 K21 hK16 K16
       refine Tr.kp [0, 1, 11, 12, 13, 14, 15, 16, 17] ?_
       simp only [pk_cons, pk_nil, ↓A_cons, ↓reduceIte, Nat.reduceEqDiff]
       refine Tr.rg hcx [1000051] _ [] rfl rfl rfl ?_
       simp -implicitDefEqProofs (maxSteps := 2000000) (disch := first | omega | (simp only [go_sem, List.length_append, List.length_drop, List.length_take, hb1, hb2, List.length_map] <;> omega) | decide) only [go_sem, ↓reduceIte, Nat.reduceEqDiff, reduceCtorEq, Nat.reduceLT, Nat.reduceBEq, Nat.reduceAdd, Nat.reduceSub, Nat.reduceMul, Nat.reduceMod, e11, h14, h18, h28, h33, h39, hno, e37a, e37b, List.drop_zero, Nat.zero_add, Nat.zero_mul, Nat.mul_one, Nat.add_zero, eq_self, decide_true, decide_false, not_true_eq_false, not_false_eq_true]
       refine ⟨k + 1, ⟨by omega, by first | omega | (simp only []; omega)⟩, ?_, rfl⟩
       (simp only [Le_nil, Le_cons, ↓A_cons, ↓reduceIte, Nat.reduceEqDiff, reduceCtorEq, CLe_refl, CLe_top, CLe_full, CLe_nil, CLe_own, and_true, true_and]; all_goals (repeat' first | exact CLe.refl _ | exact True.intro | (refine CLe_sln ?_; first | with_reducible rfl | (simp only [List.take_zero]; done) | (rfl; done)) | exact CLe_nI (by omega) | exact CLe_int (by omega) | exact CLe_inI (by omega) | exact CLe_nIi (by omega) | with_reducible apply And.intro))
       all_goals (try (rw [preP_S]; exact CLe.refl _))
    ·
     clear hT hF KT KF
     obtain rfl : k = (sents (gt L i)).length := by omega
     refine Tr.exit ?_
     refine hK12 _ ?_
     clear hK14 K14 hK12 K12
     refine Tr.kp [0, 1, 11, 12, 14, 16] ?_
     simp only [pk_cons, pk_nil, ↓A_cons, ↓reduceIte, Nat.reduceEqDiff]
     refine Tr.seqK fun K25 hK25 => ?_
     refine Tr.rg hcx [] _ [] rfl rfl rfl ?_
     simp -implicitDefEqProofs (maxSteps := 2000000) (disch := first | omega | (simp only [go_sem, List.length_append, List.length_drop, List.length_take, hb1, hb2, List.length_map] <;> omega) | decide) only [go_sem, ↓reduceIte, Nat.reduceEqDiff, reduceCtorEq, Nat.reduceLT, Nat.reduceBEq, Nat.reduceAdd, Nat.reduceSub, Nat.reduceMul, Nat.reduceMod, e11, h14, h18, h28, h33, h39, hno, e37a, e37b, List.drop_zero, Nat.zero_add, Nat.zero_mul, Nat.mul_one, Nat.add_zero, eq_self, decide_true, decide_false, not_true_eq_false, not_false_eq_true, hend]
     refine hK25 _ ?_
     clear hK25 K25
     refine Tr.kp [0, 1, 11, 12, 123] ?_
     simp only [pk_cons, pk_nil, ↓A_cons, ↓reduceIte, Nat.reduceEqDiff]
     refine Tr.condG fun KT KF hT hF => ?_
     simp only [ev_tmp, ev_const, ↓A_cons, ↓reduceIte, Nat.reduceEqDiff, reduceCtorEq, condG_bool, GB_true, GB_false, decide_eq_true_eq]
     refine hF ?_
     clear hT hF KT KF
     refine Tr.skip ?_
     refine hK7 _ ?_
     clear hK7 K7
     refine Tr.kp [0, 1, 11, 12] ?_
     simp only [pk_cons, pk_nil, ↓A_cons, ↓reduceIte, Nat.reduceEqDiff]
     refine Tr.rg hcx [1000037] _ [] rfl rfl rfl ?_
     simp -implicitDefEqProofs (maxSteps := 2000000) (disch := first | omega | (simp only [go_sem, List.length_append, List.length_drop, List.length_take, hb1, hb2, List.length_map] <;> omega) | decide) only [go_sem, ↓reduceIte, Nat.reduceEqDiff, reduceCtorEq, Nat.reduceLT, Nat.reduceBEq, Nat.reduceAdd, Nat.reduceSub, Nat.reduceMul, Nat.reduceMod, e11, h14, h18, h28, h33, h39, hno, e37a, e37b, List.drop_zero, Nat.zero_add, Nat.zero_mul, Nat.mul_one, Nat.add_zero, eq_self, decide_true, decide_false, not_true_eq_false, not_false_eq_true]
     refine ⟨i + 1, ⟨by omega, by first | omega | (simp only []; omega)⟩, ?_, rfl⟩
     (simp only [Le_nil, Le_cons, ↓A_cons, ↓reduceIte, Nat.reduceEqDiff, reduceCtorEq, CLe_refl, CLe_top, CLe_full, CLe_nil, CLe_own, and_true, true_and]; all_goals (repeat' first | exact CLe.refl _ | exact True.intro | (refine CLe_sln ?_; first | with_reducible rfl | (simp only [List.take_zero]; done) | (rfl; done)) | exact CLe_nI (by omega) | exact CLe_int (by omega) | exact CLe_inI (by omega) | exact CLe_nIi (by omega) | with_reducible apply And.intro))
  ·
   clear hT hF KT KF
   refine Tr.exit ?_
   refine hK3 _ ?_
   clear hK5 K5 hK3 K3
   refine Tr.kp [0, 1] ?_
   simp only [pk_cons, pk_nil, ↓A_cons, ↓reduceIte, Nat.reduceEqDiff]
   refine Tr.seqK fun K26 hK26 => ?_
   refine Tr.rg hcx [1000125] _ [] rfl rfl rfl ?_
   simp -implicitDefEqProofs (maxSteps := 2000000) (disch := first | omega | (simp only [go_sem, List.length_append, List.length_drop, List.length_take, hb1, hb2, List.length_map] <;> omega) | decide) only [go_sem, ↓reduceIte, Nat.reduceEqDiff, reduceCtorEq, Nat.reduceLT, Nat.reduceBEq, Nat.reduceAdd, Nat.reduceSub, Nat.reduceMul, Nat.reduceMod, e11, h14, h18, h28, h33, h39, hno, e37a, e37b, List.drop_zero, Nat.zero_add, Nat.zero_mul, Nat.mul_one, Nat.add_zero, eq_self, decide_true, decide_false, not_true_eq_false, not_false_eq_true]
   refine hK26 _ ?_
   clear hK26 K26
   refine Tr.kp [1, 19] ?_
   simp only [pk_cons, pk_nil, ↓A_cons, ↓reduceIte, Nat.reduceEqDiff]
   refine Tr.seqK fun K27 hK27 => ?_
   refine Tr.rg hcx [1000127] _ [] rfl rfl rfl ?_
   simp -implicitDefEqProofs (maxSteps := 2000000) (disch := first | omega | (simp only [go_sem, List.length_append, List.length_drop, List.length_take, hb1, hb2, List.length_map] <;> omega) | decide) only [go_sem, ↓reduceIte, Nat.reduceEqDiff, reduceCtorEq, Nat.reduceLT, Nat.reduceBEq, Nat.reduceAdd, Nat.reduceSub, Nat.reduceMul, Nat.reduceMod, e11, h14, h18, h28, h33, h39, hno, e37a, e37b, List.drop_zero, Nat.zero_add, Nat.zero_mul, Nat.mul_one, Nat.add_zero, eq_self, decide_true, decide_false, not_true_eq_false, not_false_eq_true]
   refine hK27 _ ?_
   clear hK27 K27
   refine Tr.kp [19, 20] ?_
   simp only [pk_cons, pk_nil, ↓A_cons, ↓reduceIte, Nat.reduceEqDiff]
   refine Tr.seqK fun K28 hK28 => ?_
   refine Tr.rg hcx [1000129] _ [] rfl rfl rfl ?_
   simp -implicitDefEqProofs (maxSteps := 2000000) (disch := first | omega | (simp only [go_sem, List.length_append, List.length_drop, List.length_take, hb1, hb2, List.length_map] <;> omega) | decide) only [go_sem, ↓reduceIte, Nat.reduceEqDiff, reduceCtorEq, Nat.reduceLT, Nat.reduceBEq, Nat.reduceAdd, Nat.reduceSub, Nat.reduceMul, Nat.reduceMod, e11, h14, h18, h28, h33, h39, hno, e37a, e37b, List.drop_zero, Nat.zero_add, Nat.zero_mul, Nat.mul_one, Nat.add_zero, eq_self, decide_true, decide_false, not_true_eq_false, not_false_eq_true]
   refine hK28 _ ?_
   clear hK28 K28
   refine Tr.kp [19, 20, 21] ?_
   simp only [pk_cons, pk_nil, ↓A_cons, ↓reduceIte, Nat.reduceEqDiff]
   refine Tr.seqK fun K29 hK29 => ?_
   refine Tr.sw (pu' := fun _ _ => none) (hp' := hpS) (gr' := fun _ => false) ?_
   refine Tr.rg hcxS [1000131] _ [] rfl rfl rfl ?_
   simp -implicitDefEqProofs (maxSteps := 2000000) (disch := first | omega | (simp only [go_sem, List.length_append, List.length_drop, List.length_take, hb1, hb2, List.length_map] <;> omega) | decide) only [go_sem, ↓reduceIte, Nat.reduceEqDiff, reduceCtorEq, Nat.reduceLT, Nat.reduceBEq, Nat.reduceAdd, Nat.reduceSub, Nat.reduceMul, Nat.reduceMod, e11, h14, h18, h28, h33, h39, hno, e37a, e37b, List.drop_zero, Nat.zero_add, Nat.zero_mul, Nat.mul_one, Nat.add_zero, eq_self, decide_true, decide_false, not_true_eq_false, not_false_eq_true, eSb]
   refine hK29 _ ?_
   clear hK29 K29
   refine Tr.kp [19, 20, 21, 22] ?_
   simp only [pk_cons, pk_nil, ↓A_cons, ↓reduceIte, Nat.reduceEqDiff]
   refine Tr.seqK fun K30 hK30 => ?_
   refine Tr.sw (pu' := fun _ _ => none) (hp' := hpS) (gr' := fun _ => false) ?_
   refine Tr.rg hcxS [1000133] _ [] rfl rfl rfl ?_
   simp -implicitDefEqProofs (maxSteps := 2000000) (disch := first | omega | (simp only [go_sem, List.length_append, List.length_drop, List.length_take, hb1, hb2, List.length_map] <;> omega) | decide) only [go_sem, ↓reduceIte, Nat.reduceEqDiff, reduceCtorEq, Nat.reduceLT, Nat.reduceBEq, Nat.reduceAdd, Nat.reduceSub, Nat.reduceMul, Nat.reduceMod, e11, h14, h18, h28, h33, h39, hno, e37a, e37b, List.drop_zero, Nat.zero_add, Nat.zero_mul, Nat.mul_one, Nat.add_zero, eq_self, decide_true, decide_false, not_true_eq_false, not_false_eq_true, eSc]
   refine hK30 _ ?_
   clear hK30 K30
   refine Tr.kp [19, 20, 21, 22, 23] ?_
   simp only [pk_cons, pk_nil, ↓A_cons, ↓reduceIte, Nat.reduceEqDiff]
   refine Tr.seqK fun K31 hK31 => ?_
   have nP := sents_len A
   have nQ := sents_len B
   have nP0 := sents_pos pX
   have nQ0 := sents_pos pY
   have hb1 := And.intro nP nQ
   have hb2 := And.intro nP0 nQ0
   refine Tr.rg hcx [1000137] _ [] rfl rfl rfl ?_
   simp -implicitDefEqProofs (maxSteps := 2000000) (disch := first | omega | (simp only [go_sem, List.length_append, List.length_drop, List.length_take, hb1, hb2, List.length_map] <;> omega) | decide) only [go_sem, ↓reduceIte, Nat.reduceEqDiff, reduceCtorEq, Nat.reduceLT, Nat.reduceBEq, Nat.reduceAdd, Nat.reduceSub, Nat.reduceMul, Nat.reduceMod, e11, h14, h18, h28, h33, h39, hno, e37a, e37b, List.drop_zero, Nat.zero_add, Nat.zero_mul, Nat.mul_one, Nat.add_zero, eq_self, decide_true, decide_false, not_true_eq_false, not_false_eq_true]
   refine hK31 _ ?_
   clear hK31 K31
   refine Tr.kp [19, 21, 22, 23, 24] ?_
   simp only [pk_cons, pk_nil, ↓A_cons, ↓reduceIte, Nat.reduceEqDiff]
   refine Tr.seqK fun K32 hK32 => ?_
   refine Tr.seqK fun K33 hK33 => ?_
   have z1 : ((toks A).length = 0) = False := eq_false (by omega)
   have z2 : ((sents A).length = 0) = False := eq_false (by omega)
   have z3 : ((sents B).length = 0) = False := eq_false (by omega)
   refine Tr.rg hcx [] [some 138, some 139, some 140, some 141, some 142, some 143, some 144, some 145, some 146, some 147, some 148, some 149, some 150] [] rfl rfl rfl ?_
   simp -implicitDefEqProofs (maxSteps := 2000000) (disch := first | omega | (simp only [go_sem, List.length_append, List.length_drop, List.length_take, hb1, hb2, List.length_map] <;> omega) | decide) only [go_sem, ↓reduceIte, Nat.reduceEqDiff, reduceCtorEq, Nat.reduceLT, Nat.reduceBEq, Nat.reduceAdd, Nat.reduceSub, Nat.reduceMul, Nat.reduceMod, e11, h14, h18, h28, h33, h39, hno, e37a, e37b, List.drop_zero, Nat.zero_add, Nat.zero_mul, Nat.mul_one, Nat.add_zero, eq_self, decide_true, decide_false, not_true_eq_false, not_false_eq_true, z1, z2, z3]
   refine hK33 _ ?_
   clear hK33 K33
   refine Tr.kp [19, 21, 22, 23, 24, 150] ?_
   simp only [pk_cons, pk_nil, ↓A_cons, ↓reduceIte, Nat.reduceEqDiff]
   refine Tr.condG fun KT KF hT hF => ?_
   simp only [ev_tmp, ev_const, ↓A_cons, ↓reduceIte, Nat.reduceEqDiff, reduceCtorEq, condG_bool, GB_true, GB_false, decide_eq_true_eq]
   refine hF ?_
   clear hT hF KT KF
   refine Tr.skip ?_
   refine hK32 _ ?_
   clear hK32 K32
   refine Tr.kp [19, 21, 22, 23, 24] ?_
   simp only [pk_cons, pk_nil, ↓A_cons, ↓reduceIte, Nat.reduceEqDiff]
   refine Tr.seqK fun K34 hK34 => ?_
   refine Tr.rg hcx [1000152] _ [] rfl rfl rfl ?_
   simp -implicitDefEqProofs (maxSteps := 2000000) (disch := first | omega | (simp only [go_sem, List.length_append, List.length_drop, List.length_take, hb1, hb2, List.length_map] <;> omega) | decide) only [go_sem, ↓reduceIte, Nat.reduceEqDiff, reduceCtorEq, Nat.reduceLT, Nat.reduceBEq, Nat.reduceAdd, Nat.reduceSub, Nat.reduceMul, Nat.reduceMod, e11, h14, h18, h28, h33, h39, hno, e37a, e37b, List.drop_zero, Nat.zero_add, Nat.zero_mul, Nat.mul_one, Nat.add_zero, eq_self, decide_true, decide_false, not_true_eq_false, not_false_eq_true]
   refine hK34 _ ?_
   clear hK34 K34
   refine Tr.kp [19, 21, 22, 23, 24, 25] ?_
   simp only [pk_cons, pk_nil, ↓A_cons, ↓reduceIte, Nat.reduceEqDiff]
   refine Tr.seqJ (α := (List (Int × Int) × List (Int × Int))) (fun a => [(22, .gv 0 a.1.length 2), (23, .gv 1 a.2.length 2), (24, ?v24_99), (25, ?v25_99)]) (fun a => [some (cl pI a.1), some (cl pI a.2)]) (fun a => a.1 ++ a.2.map (shI (toks A).length) = (sents (joinT A B)).map castP ∧ Small a.2 ∧ a.1.length ≤ 1000 ∧ a.2.length ≤ 1000) ?ja_99 ?jb_99
   case ja_99 =>
    refine Tr.seqK fun K35 hK35 => ?_
    by_cases b7 : stopL A (toks A) ((toks A).length - 1) = true
    ·
     obtain ⟨P1, Q1, hP1, hQ1, hPQ⟩ : ∃ P1 Q1 : List (Int × Int), P1 = (sents A).map castP ∧ Q1 = (sents B).map castP ∧ P1 ++ Q1.map (shI (toks A).length) = (sents (joinT A B)).map castP := ⟨_, _, rfl, rfl, lawT pX pY b7⟩
     have hl1 : P1.length = (sents A).length := by rw [hP1]; simp
     have hl2 : Q1.length = (sents B).length := by rw [hQ1]; simp
     have hok : P1 ++ Q1.map (shI (toks A).length) = (sents (joinT A B)).map castP ∧ Small Q1 ∧ P1.length ≤ 1000 ∧ Q1.length ≤ 1000 := ⟨hPQ, by rw [hQ1]; exact small_mem (small_cast fun p hp => by have := sents_rng B p hp; omega), by omega, by omega⟩
     refine Tr.rg hcx [] _ [] rfl rfl rfl ?_
     simp -implicitDefEqProofs (maxSteps := 2000000) (disch := first | omega | (simp only [go_sem, List.length_append, List.length_drop, List.length_take, hb1, hb2, List.length_map] <;> omega) | decide) only [go_sem, ↓reduceIte, Nat.reduceEqDiff, reduceCtorEq, Nat.reduceLT, Nat.reduceBEq, Nat.reduceAdd, Nat.reduceSub, Nat.reduceMul, Nat.reduceMod, e11, h14, h18, h28, h33, h39, hno, e37a, e37b, List.drop_zero, Nat.zero_add, Nat.zero_mul, Nat.mul_one, Nat.add_zero, eq_self, decide_true, decide_false, not_true_eq_false, not_false_eq_true, b7]
     refine hK35 _ ?_
     clear hK35 K35
     refine Tr.kp [22, 23, 24, 25, 158] ?_
     simp only [pk_cons, pk_nil, ↓A_cons, ↓reduceIte, Nat.reduceEqDiff]
     refine Tr.condG fun KT KF hT hF => ?_
     simp only [ev_tmp, ev_const, ↓A_cons, ↓reduceIte, Nat.reduceEqDiff, reduceCtorEq, condG_bool, GB_true, GB_false, decide_eq_true_eq]
     refine hF ?_
     clear hT hF KT KF
     refine Tr.skip ?_
     refine ⟨(P1, Q1), hok, ?_, by rw [hP1, hQ1]; dsimp only; first | rw [← cl_pCI, ← cl_pCI] | rw [← cl_pCI]⟩
     (simp only [Le_nil, Le_cons, ↓A_cons, ↓reduceIte, Nat.reduceEqDiff, reduceCtorEq, CLe_refl, CLe_top, CLe_full, CLe_nil, CLe_own, and_true, true_and]; all_goals (repeat' first | exact CLe.refl _ | exact True.intro | (refine CLe_sln ?_; first | with_reducible rfl | (simp only [List.take_zero]; done) | (rfl; done)) | exact CLe_nI (by omega) | exact CLe_int (by omega) | exact CLe_inI (by omega) | exact CLe_nIi (by omega) | with_reducible apply And.intro))
     all_goals first | (rw [hl1]; exact CLe.refl _) | (rw [hl2]; exact CLe.refl _)
    ·
     replace b7 : stopL A (toks A) ((toks A).length - 1) = false := by simpa using b7
     obtain ⟨p0, r0, hB0, hPQ0, hlt⟩ := lawF pX pY b7
     obtain ⟨P1, Q1, hP1, hQ1, hPQ⟩ : ∃ P1 Q1 : List (Int × Int), P1 = ((sents A).take ((sents A).length - 1)).map castP ∧ Q1 = ((((gt (sents A) ((sents A).length - 1)).1 : Int) - ((toks A).length : Int), (p0.2 : Int)) :: r0.map castP) ∧ P1 ++ Q1.map (shI (toks A).length) = (sents (joinT A B)).map castP := ⟨_, _, rfl, rfl, hPQ0⟩
     have hl1 : P1.length = (sents A).length - 1 := by rw [hP1]; simp
     have hl2 : Q1.length = (sents B).length := by rw [hQ1, hB0]; simp
     have hwr := fun z : Int => (show wrc (cl pC (sents B)) 0 [.val (.int .i64 z)] = some (cl pI ((z, (p0.2 : Int)) :: r0.map castP), .val undef) from by rw [hB0]; exact wrc_bC p0 r0 z)
     have hok : P1 ++ Q1.map (shI (toks A).length) = (sents (joinT A B)).map castP ∧ Small Q1 ∧ P1.length ≤ 1000 ∧ Q1.length ≤ 1000 := ⟨hPQ, by
       rw [hQ1]
       refine small_mem fun p hp => ?_
       have hB1 := fun q hq => sents_rng B q hq
       rw [hB0] at hB1
       rcases List.mem_cons.1 hp with rfl | hp
       · have := hB1 p0 List.mem_cons_self
         simp only []; omega
       · exact small_cast (fun q hq => by have := hB1 q (List.mem_cons_of_mem _ hq); omega) p hp, by omega, by omega⟩
     refine Tr.rg hcx [] _ [] rfl rfl rfl ?_
     simp -implicitDefEqProofs (maxSteps := 2000000) (disch := first | omega | (simp only [go_sem, List.length_append, List.length_drop, List.length_take, hb1, hb2, List.length_map] <;> omega) | decide) only [go_sem, ↓reduceIte, Nat.reduceEqDiff, reduceCtorEq, Nat.reduceLT, Nat.reduceBEq, Nat.reduceAdd, Nat.reduceSub, Nat.reduceMul, Nat.reduceMod, e11, h14, h18, h28, h33, h39, hno, e37a, e37b, List.drop_zero, Nat.zero_add, Nat.zero_mul, Nat.mul_one, Nat.add_zero, eq_self, decide_true, decide_false, not_true_eq_false, not_false_eq_true, b7]
     refine hK35 _ ?_
     clear hK35 K35
     refine Tr.kp [22, 23, 24, 25, 158] ?_
     simp only [pk_cons, pk_nil, ↓A_cons, ↓reduceIte, Nat.reduceEqDiff]
     refine Tr.condG fun KT KF hT hF => ?_
     simp only [ev_tmp, ev_const, ↓A_cons, ↓reduceIte, Nat.reduceEqDiff, reduceCtorEq, condG_bool, GB_true, GB_false, decide_eq_true_eq]
     refine hT ?_
     clear hT hF KT KF
     refine Tr.seqK fun K36 hK36 => ?_
     refine Tr.rgD hcx hMO [] _ [] rfl rfl rfl rfl ?_
     simp -implicitDefEqProofs (maxSteps := 2000000) (disch := first | omega | (simp only [go_sem, List.length_append, List.length_drop, List.length_take, hb1, hb2, List.length_map] <;> omega) | decide) only [go_sem, ↓reduceIte, Nat.reduceEqDiff, reduceCtorEq, Nat.reduceLT, Nat.reduceBEq, Nat.reduceAdd, Nat.reduceSub, Nat.reduceMul, Nat.reduceMod, e11, h14, h18, h28, h33, h39, hno, e37a, e37b, List.drop_zero, Nat.zero_add, Nat.zero_mul, Nat.mul_one, Nat.add_zero, eq_self, decide_true, decide_false, not_true_eq_false, not_false_eq_true, b7, hwr]
     with_reducible refine And.intro ?_ ?_
     · exact rfl
     refine hK36 _ ?_
     clear hK36 K36
     refine Tr.kp [22, 23, 24, 25] ?_
     simp only [pk_cons, pk_nil, ↓A_cons, ↓reduceIte, Nat.reduceEqDiff]
     refine Tr.shrA 0 (((sents A).length - 1) * 2) (cl pC (sents A)) (by simp only [go_sem]) ?_
     simp only [List.set_cons_zero, take_pC]
     refine Tr.rg hcx [1000175] _ [] rfl rfl rfl ?_
     simp -implicitDefEqProofs (maxSteps := 2000000) (disch := first | omega | (simp only [go_sem, List.length_append, List.length_drop, List.length_take, hb1, hb2, List.length_map] <;> omega) | decide) only [go_sem, ↓reduceIte, Nat.reduceEqDiff, reduceCtorEq, Nat.reduceLT, Nat.reduceBEq, Nat.reduceAdd, Nat.reduceSub, Nat.reduceMul, Nat.reduceMod, e11, h14, h18, h28, h33, h39, hno, e37a, e37b, List.drop_zero, Nat.zero_add, Nat.zero_mul, Nat.mul_one, Nat.add_zero, eq_self, decide_true, decide_false, not_true_eq_false, not_false_eq_true, b7]
     refine ⟨(P1, Q1), hok, ?_, by rw [hP1, hQ1]; dsimp only; first | rw [← cl_pCI, ← cl_pCI] | rw [← cl_pCI]⟩
     (simp only [Le_nil, Le_cons, ↓A_cons, ↓reduceIte, Nat.reduceEqDiff, reduceCtorEq, CLe_refl, CLe_top, CLe_full, CLe_nil, CLe_own, and_true, true_and]; all_goals (repeat' first | exact CLe.refl _ | exact True.intro | (refine CLe_sln ?_; first | with_reducible rfl | (simp only [List.take_zero]; done) | (rfl; done)) | exact CLe_nI (by omega) | exact CLe_int (by omega) | exact CLe_inI (by omega) | exact CLe_nIi (by omega) | with_reducible apply And.intro))
     all_goals first | (rw [hl1]; exact CLe.refl _) | (rw [hl2]; exact CLe.refl _)
   case jb_99 =>
    rintro ⟨P2, Q2⟩ ⟨hPQ2, hS2, hlP, hlQ⟩
    dsimp only at *
    have hb1 := And.intro hlP hlQ
    refine Tr.seqK fun K37 hK37 => ?_
    refine Tr.seqK fun K38 hK38 => ?_
    refine Tr.rg hcx [] _ [] rfl rfl rfl ?_
    simp -implicitDefEqProofs (maxSteps := 2000000) (disch := first | omega | (simp only [go_sem, List.length_append, List.length_drop, List.length_take, hb1, hb2, List.length_map] <;> omega) | decide) only [go_sem, ↓reduceIte, Nat.reduceEqDiff, reduceCtorEq, Nat.reduceLT, Nat.reduceBEq, Nat.reduceAdd, Nat.reduceSub, Nat.reduceMul, Nat.reduceMod, e11, h14, h18, h28, h33, h39, hno, e37a, e37b, List.drop_zero, Nat.zero_add, Nat.zero_mul, Nat.mul_one, Nat.add_zero, eq_self, decide_true, decide_false, not_true_eq_false, not_false_eq_true]
    refine hK38 _ ?_
    clear hK38 K38
    refine Tr.kp [22, 23, 24, 25, 26] ?_
    simp only [pk_cons, pk_nil, ↓A_cons, ↓reduceIte, Nat.reduceEqDiff]
    refine Tr.blk ?_
    refine Tr.loopM hcx (α := Nat) (fun a => [(22, .gv 0 (P2.length + a) 2), (23, ?v23_111), (24, ?v24_111), (25, ?v25_111), (26, .val (nI a))]) (fun a => [some (cl pI (P2 ++ (Q2.take a).map (shI (toks A).length))), some (cl pI Q2)]) (fun a => a ≤ Q2.length) (fun a => Q2.length - a) (0) ?_ ?le_111 ?hh_111 ?bd_111
    case hh_111 => exact by rw [List.take_zero, List.map_nil, List.append_nil]
    case le_111 => (simp only [Le_nil, Le_cons, ↓A_cons, ↓reduceIte, Nat.reduceEqDiff, reduceCtorEq, CLe_refl, CLe_top, CLe_full, CLe_nil, CLe_own, and_true, true_and]; all_goals (repeat' first | exact CLe.refl _ | exact True.intro | (refine CLe_sln ?_; first | with_reducible rfl | (simp only [List.take_zero]; done) | (rfl; done)) | exact CLe_nI (by omega) | exact CLe_int (by omega) | exact CLe_inI (by omega) | exact CLe_nIi (by omega) | with_reducible apply And.intro))
    · omega
    case bd_111 =>
     rintro i hi
     refine Tr.seqK fun K39 hK39 => ?_
     refine Tr.seqK fun K40 hK40 => ?_
     refine Tr.rg hcx [] _ [] rfl rfl rfl ?_
     simp -implicitDefEqProofs (maxSteps := 2000000) (disch := first | omega | (simp only [go_sem, List.length_append, List.length_drop, List.length_take, hb1, hb2, List.length_map] <;> omega) | decide) only [go_sem, ↓reduceIte, Nat.reduceEqDiff, reduceCtorEq, Nat.reduceLT, Nat.reduceBEq, Nat.reduceAdd, Nat.reduceSub, Nat.reduceMul, Nat.reduceMod, e11, h14, h18, h28, h33, h39, hno, e37a, e37b, List.drop_zero, Nat.zero_add, Nat.zero_mul, Nat.mul_one, Nat.add_zero, eq_self, decide_true, decide_false, not_true_eq_false, not_false_eq_true]
     refine hK40 _ ?_
     clear hK40 K40
     refine Tr.kp [22, 23, 24, 25, 26, 179] ?_
     simp only [pk_cons, pk_nil, ↓A_cons, ↓reduceIte, Nat.reduceEqDiff]
     refine Tr.condG fun KT KF hT hF => ?_
     simp only [ev_tmp, ev_const, ↓A_cons, ↓reduceIte, Nat.reduceEqDiff, reduceCtorEq, condG_bool, GB_true, GB_false, decide_eq_true_eq]
     refine GB.dec (fun hc179 => hT ?_) (fun hc179 => hF ?_)
     ·
      clear hT hF KT KF
      have hq := hS2 i hc179
      refine Tr.skip ?_
      refine hK39 _ ?_
      clear hK39 K39
      refine Tr.kp [22, 23, 24, 25, 26] ?_
      simp only [pk_cons, pk_nil, ↓A_cons, ↓reduceIte, Nat.reduceEqDiff]
      refine Tr.seqK fun K41 hK41 => ?_
      refine Tr.blk ?_
      refine Tr.rgDG hcx hMO [199] [182, 1000199] _ [] rfl rfl rfl rfl ?_
      simp -implicitDefEqProofs (maxSteps := 2000000) (disch := first | omega | (simp only [go_sem, List.length_append, List.length_drop, List.length_take, hb1, hb2, List.length_map] <;> omega) | decide) only [go_sem, ↓reduceIte, Nat.reduceEqDiff, reduceCtorEq, Nat.reduceLT, Nat.reduceBEq, Nat.reduceAdd, Nat.reduceSub, Nat.reduceMul, Nat.reduceMod, e11, h14, h18, h28, h33, h39, hno, e37a, e37b, List.drop_zero, Nat.zero_add, Nat.zero_mul, Nat.mul_one, Nat.add_zero, eq_self, decide_true, decide_false, not_true_eq_false, not_false_eq_true, List.length_map, List.length_take]
      with_reducible refine And.intro ?_ ?_
      · exact rfl
      refine hK41 _ ?_
      clear hK41 K41
      refine Tr.kp [22, 23, 24, 25, 26] ?_
      simp only [pk_cons, pk_nil, ↓A_cons, ↓reduceIte, Nat.reduceEqDiff]
      refine Tr.rg hcx [1000181] _ [] rfl rfl rfl ?_
      simp -implicitDefEqProofs (maxSteps := 2000000) (disch := first | omega | (simp only [go_sem, List.length_append, List.length_drop, List.length_take, hb1, hb2, List.length_map] <;> omega) | decide) only [go_sem, ↓reduceIte, Nat.reduceEqDiff, reduceCtorEq, Nat.reduceLT, Nat.reduceBEq, Nat.reduceAdd, Nat.reduceSub, Nat.reduceMul, Nat.reduceMod, e11, h14, h18, h28, h33, h39, hno, e37a, e37b, List.drop_zero, Nat.zero_add, Nat.zero_mul, Nat.mul_one, Nat.add_zero, eq_self, decide_true, decide_false, not_true_eq_false, not_false_eq_true]
      first
      | ((refine ⟨[2, 1], ⟨by decide, by decide, by decide⟩, i + 1, ⟨by omega, by first | omega | (simp only []; omega)⟩, ?_, by simp only [mvH_eq, mvHa_nil, mvHa_cons, hget_0, hget_S, Option.map_some, Option.map_none, mvCs_cl, mvCs_f, mvCs_nil, mvCs_cons, mvC_val, mvC_top, mvC_sl, mvC_gv, mvC_sv, mvC_bp, mvC_agg, mvC_kp, mvGv_some, mvGv_none, mvSv_some, mvSv_none, mvBp_some, mvBp_none, loc_nil, loc_cons, ↓reduceIte, Nat.reduceEqDiff, reduceCtorEq, Nat.reduceAdd, Nat.zero_add, Nat.one_ne_zero, Nat.zero_ne_one, mvC_fn]; rw [take_snocI Q2 (shI (toks A).length) i hc179, ← List.append_assoc]; rfl⟩); (simp only [Le_nil, Le_cons, ↓A_cons, CLe_refl, CLe_top, CLe_full, CLe_nil, CLe_own, and_true, true_and, mvH_eq, mvHa_nil, mvHa_cons, hget_0, hget_S, Option.map_some, Option.map_none, mvCs_cl, mvCs_f, mvCs_nil, mvCs_cons, mvC_val, mvC_top, mvC_sl, mvC_gv, mvC_sv, mvC_bp, mvC_agg, mvC_kp, mvGv_some, mvGv_none, mvSv_some, mvSv_none, mvBp_some, mvBp_none, loc_nil, loc_cons, ↓reduceIte, Nat.reduceEqDiff, reduceCtorEq, Nat.reduceAdd, Nat.zero_add, Nat.one_ne_zero, Nat.zero_ne_one, mvC_fn]; all_goals (repeat' first | exact CLe.refl _ | exact True.intro | (with_reducible refine And.intro ?_ ?_))); (all_goals first | exact CLe.refl _ | exact CLe_gvn (by simp only [List.length_append, List.length_map, List.length_take, List.length_singleton]; omega)); (done))
     ·
      clear hT hF KT KF
      obtain rfl : i = Q2.length := by omega
      have hfin : P2 ++ (Q2.take Q2.length).map (shI (toks A).length) = (sents (joinT A B)).map castP := by rw [List.take_length]; exact hPQ2
      have hln : P2.length + Q2.length = ((sents (joinT A B)).map castP).length := by rw [← hPQ2]; simp
      rw [hfin, hln]
      refine Tr.exit ?_
      refine hK37 _ ?_
      clear hK39 K39 hK37 K37
      refine Tr.kp [22, 24] ?_
      simp only [pk_cons, pk_nil, ↓A_cons, ↓reduceIte, Nat.reduceEqDiff]
      refine Tr.seqK fun K42 hK42 => ?_
      refine Tr.rg hcx [1000205] [some 200, some 201, some 202, some 203, some 204, some 205, some 10] [] rfl rfl rfl ?_
      simp -implicitDefEqProofs (maxSteps := 2000000) (disch := first | omega | (simp only [go_sem, List.length_append, List.length_drop, List.length_take, hb1, hb2, List.length_map] <;> omega) | decide) only [go_sem, ↓reduceIte, Nat.reduceEqDiff, reduceCtorEq, Nat.reduceLT, Nat.reduceBEq, Nat.reduceAdd, Nat.reduceSub, Nat.reduceMul, Nat.reduceMod, e11, h14, h18, h28, h33, h39, hno, e37a, e37b, List.drop_zero, Nat.zero_add, Nat.zero_mul, Nat.mul_one, Nat.add_zero, eq_self, decide_true, decide_false, not_true_eq_false, not_false_eq_true, e27]
      refine hK42 _ ?_
      clear hK42 K42
      refine Tr.kp [10] ?_
      simp only [pk_cons, pk_nil, ↓A_cons, ↓reduceIte, Nat.reduceEqDiff]
      refine Tr.ret ?_
      simp -implicitDefEqProofs (disch := first | omega | (simp only [go_sem, List.length_append, List.length_drop, List.length_take, hb1, hb2, List.length_map] <;> omega) | decide) only [go_sem, ↓reduceIte, Nat.reduceEqDiff, reduceCtorEq]
      all_goals (rfl)
end Go.Sx
