/-
  Package breaks: a text of units, divided into lines. And what follows.
-/
import Derived.Test.YtljjjkmiegeocaaPav
set_option linter.unusedSimpArgs false
set_option linter.unusedVariables false
namespace Go.Sx
def unis (l : List Int) (k n : Nat) : List (List UInt8) := (List.range n).map fun i => uniT (atI l (k + 1 + i) 108)
theorem unis_S (l : List Int) (k n : Nat) : unis l k (n + 1) = unis l k n ++ [uniT (atI l (k + 1 + n) 108)] := by
  unfold unis; rw [List.range_succ, List.map_append]; rfl
theorem unis_len (l : List Int) (k n : Nat) : (unis l k n).length = n := by simp [unis]
theorem text_joinU (l : List Int) (k : Nat) : ∀ n, textR l k n = joinU (unis l k n)
  | 0 => rfl
  | n + 1 => by
    have ih := text_joinU l k n
    rw [unis_S, textR]
    by_cases h : 0 < n
    · rw [if_pos h, joinU_app (by intro e; have := congrArg List.length e; rw [unis_len, List.length_nil] at this; omega) (by simp), ih, joinU_one]
      simp [joinT]
    · obtain rfl : n = 0 := by omega
      rw [if_neg h, ih]; rfl
theorem unit_nb_all : (List.range 108).all (fun n => (uniT n).all fun c => c != 32) = true := by decide +kernel
theorem unit_nb (n : Nat) (h : n < 108) : ∀ c ∈ uniT n, c ≠ 32 := fun c hc => by
  have h1 := List.all_eq_true.1 unit_nb_all n (List.mem_range.2 h)
  have h2 := List.all_eq_true.1 h1 c hc
  exact bne_iff_ne.1 h2
theorem unis_good (l : List Int) (k n : Nat) (h : n ≤ 9) : Good (unis l k n) := by
  have e : ∀ u ∈ unis l k n, ∃ m, m < 108 ∧ u = uniT m := fun u hu => by
    obtain ⟨i, _, rfl⟩ := List.mem_map.1 hu
    exact ⟨_, atI_lt _ _ (by decide), rfl⟩
  refine ⟨fun u hu => ?_, fun u hu => ?_, fun u hu => ?_, fun u hu => ?_, by rw [unis_len]; exact h⟩
  all_goals obtain ⟨m, hm, rfl⟩ := e u hu
  · exact (unit_ok m hm).1
  · exact (unit_ok m hm).2.2
  · exact (unit_ok m hm).2.1
  · exact unit_nb m hm
def lenI (us : List (List UInt8)) : List Int := us.map fun u => ((u.length : Nat) : Int)
theorem lenI_len (us : List (List UInt8)) : (lenI us).length = us.length := List.length_map _
theorem lenI_gt (us : List (List UInt8)) (i : Nat) (h : i < us.length) : gt (lenI us) i = (((gt us i).length : Nat) : Int) := by
  simp [lenI, gt, List.getD, List.getElem?_eq_getElem h]
theorem good_gt {us : List (List UInt8)} (g : Good us) {i : Nat} (h : i < us.length) : 0 < (gt us i).length ∧ (gt us i).length ≤ 7 := ⟨g.pos _ (gt_memT h), g.le _ (gt_memT h)⟩
theorem lenI_fine {us : List (List UInt8)} (g : Good us) {w : Int} (hw : 8 ≤ w ∧ w ≤ 37) : errE (lenI us) 1 w = 0 ∧ wideW (lenI us) w = false := by
  have hf := g.few
  constructor
  · refine errE_0.2 ⟨by rw [lenI_len]; omega, by omega, by omega, fun i hi => ?_⟩
    rw [lenI_len] at hi
    have := good_gt g hi
    rw [lenI_gt us i hi]; omega
  · refine wideW_F fun i hi => ?_
    rw [lenI_len] at hi
    have := good_gt g hi
    rw [lenI_gt us i hi]; omega
def segL (us : List (List UInt8)) (p q : Nat) : List (List UInt8) := (us.take q).drop p
def seg (us : List (List UInt8)) (p q : Nat) : List UInt8 := joinU (segL us p q)
theorem segL_S (us : List (List UInt8)) {p q : Nat} (h : p ≤ q) (hq : q < us.length) : segL us p (q + 1) = segL us p q ++ [gt us q] := by
  unfold segL
  rw [take_snoc us q hq, List.drop_append_of_le_length (by simp; omega)]
theorem segL_0 (us : List (List UInt8)) (p : Nat) : segL us p p = [] := by unfold segL; rw [List.drop_of_length_le (by simp; omega)]
theorem segL_ne (us : List (List UInt8)) {p q : Nat} (h : p < q) (hq : q ≤ us.length) : segL us p q ≠ [] := by
  intro e; have := congrArg List.length e
  unfold segL at this
  rw [List.length_drop, List.length_take, List.length_nil] at this; omega
theorem seg_0 (us : List (List UInt8)) (p : Nat) : seg us p p = [] := by unfold seg; rw [segL_0]; rfl
theorem seg_1 (us : List (List UInt8)) {p q : Nat} (h : ¬ p < q) (hp : p ≤ q) (hq : q < us.length) : seg us p q ++ gt us q = seg us p (q + 1) := by
  obtain rfl : p = q := by omega
  rw [seg_0]; unfold seg; rw [segL_S us hp hq, segL_0]; rfl
theorem seg_S (us : List (List UInt8)) {p q : Nat} (h : p < q) (hq : q < us.length) : (seg us p q ++ [UInt8.ofNat 32]) ++ gt us q = seg us p (q + 1) := by
  unfold seg
  rw [segL_S us (by omega) hq, joinU_app (segL_ne us h (by omega)) (by simp), joinU_one]
  simp [joinT]
theorem seg_good {us : List (List UInt8)} (g : Good us) (p q : Nat) : Good (segL us p q) := (g.take q).drop p
theorem seg_72 {us : List (List UInt8)} (g : Good us) (p q : Nat) : (seg us p q).length ≤ 72 := joinU_72 (seg_good g p q)
theorem seg_len {us : List (List UInt8)} {p : Nat} : ∀ {q : Nat}, p < q → q ≤ us.length → (((seg us p q).length : Nat) : Int) + 1 = sumI (lenI us) 1 q - sumI (lenI us) 1 p
  | 0, h, _ => absurd h (Nat.not_lt_zero _)
  | q + 1, h, hq => by
    have e : sumI (lenI us) 1 (q + 1) = sumI (lenI us) 1 q + (((gt us q).length : Nat) : Int) + 1 := by
      rw [sumI, lenI_gt us q (by omega)]
    by_cases hpq : p < q
    · have ih := seg_len (us := us) (p := p) hpq (by omega)
      rw [e, ← seg_S us hpq (by omega), List.length_append, List.length_append, List.length_singleton]; omega
    · obtain rfl : p = q := by omega
      rw [e, ← seg_1 us hpq (Nat.le_refl _) (by omega), seg_0, List.nil_append]; omega
def pvN (E : List Int) (i : Nat) : Nat := (prevE E i).toNat
theorem ends_at {us : List (List UInt8)} (g : Good us) {w : Int} (hw : 8 ≤ w ∧ w ≤ 37) : pvN (endF (lenI us) 1 w) (endF (lenI us) 1 w).length = us.length ∧
    ∀ i, i < (endF (lenI us) 1 w).length → gt (endF (lenI us) 1 w) i = ((pvN (endF (lenI us) 1 w) (i + 1) : Nat) : Int) ∧ pvN (endF (lenI us) 1 w) i < pvN (endF (lenI us) 1 w) (i + 1) ∧ pvN (endF (lenI us) 1 w) (i + 1) ≤ us.length ∧
      (((seg us (pvN (endF (lenI us) 1 w) i) (pvN (endF (lenI us) 1 w) (i + 1))).length : Nat) : Int) ≤ w := by
  obtain ⟨h1, h2⟩ := lenI_fine g hw
  have hd := (endF_ok (errE_0.1 h1) (fun i hi => wideW_n h2 i hi)).1
  generalize endF (lenI us) 1 w = E at *
  obtain ⟨d1, d2, d3⟩ := Dv_iff.2 hd
  have d1 : ∀ i, i < E.length → prevE E i < gt E i := d1
  have d2 : prevE E E.length = (us.length : Int) := by rw [← lenI_len us]; exact d2
  have d3 : ∀ i, i < E.length → 0 ≤ freR (lenI us) 1 w (prevE E i) (gt E i) := d3
  have up : ∀ c i, i + c = E.length → prevE E i ≤ (us.length : Int) := by
    intro c
    induction c with
    | zero => intro i hi; rw [show i = E.length by omega, d2]; exact Int.le_refl _
    | succ c ih => intro i hi; have := ih (i + 1) (by omega); have h := d1 i (by omega); rw [prevE_S] at this; omega
  have lo : ∀ i, i ≤ E.length → 0 ≤ prevE E i := by
    intro i
    induction i with
    | zero => intro _; exact Int.le_refl _
    | succ i ih => intro hi; have := ih (by omega); have h := d1 i (by omega); rw [prevE_S]; omega
  refine ⟨by unfold pvN; rw [d2]; rfl, fun i hi => ?_⟩
  have a1 := lo i (by omega)
  have a2 := d1 i hi
  have a3 := up (E.length - (i + 1)) (i + 1) (by omega)
  have a4 := d3 i hi
  rw [prevE_S] at a3
  have b1 : ((pvN E i : Nat) : Int) = prevE E i := by unfold pvN; omega
  have b2 : ((pvN E (i + 1) : Nat) : Int) = gt E i := by unfold pvN; rw [prevE_S]; omega
  have hlt : pvN E i < pvN E (i + 1) := by omega
  have hle : pvN E (i + 1) ≤ us.length := by omega
  refine ⟨b2.symm, hlt, hle, ?_⟩
  have hs := seg_len (us := us) hlt hle
  unfold freR at a4
  rw [if_neg (by omega), ← b1, ← b2, Int.toNat_natCast, Int.toNat_natCast] at a4
  omega
theorem cntU_S (us : List (List UInt8)) {q : Nat} (h : q < us.length) : cntU (us.take q) + (toks (gt us q)).length = cntU (us.take (q + 1)) := by
  rw [take_snoc us q h, cntU_app, cntU_one]
theorem take_seg (us : List (List UInt8)) {p q : Nat} (h : p ≤ q) (hq : q ≤ us.length) : us.take q = us.take p ++ segL us p q := by
  unfold segL
  have e : us.take p = (us.take q).take p := by rw [List.take_take, Nat.min_eq_left h]
  rw [e, List.take_append_drop]
theorem part_seg {us : List (List UInt8)} (g : Good us) {p q : Nat} (h : p < q) (hq : q ≤ us.length) : part (joinU us) ((cntU (us.take p) : Nat) : Int) ((cntU (us.take q) : Nat) : Int) = seg us p q := by
  have e := take_seg us (Nat.le_of_lt h) hq
  have e2 : us = us.take p ++ (segL us p q ++ us.drop q) := by rw [← List.append_assoc, ← e, List.take_append_drop]
  have := part_mid (P := us.take p) (segL_ne us h hq) (seg_good g p q) (g.drop q)
  rw [← e2, ← cntU_app, ← e] at this
  exact this
theorem join_seg (us : List (List UInt8)) {p q : Nat} (h0 : 0 < p) (h : p < q) (hq : q ≤ us.length) : joinT (joinU (us.take p)) (seg us p q) = joinU (us.take q) := by
  rw [take_seg us (Nat.le_of_lt h) hq, joinU_app (by intro e; have := congrArg List.length e; rw [List.length_take, List.length_nil] at this; omega) (segL_ne us h hq)]
  rfl
theorem cut_seg {us : List (List UInt8)} (g : Good us) {q : Nat} (h0 : 0 < q) (hq : q < us.length) : cutT (joinU us) ((cntU (us.take q) : Nat) : Int) = (joinU (us.take q), joinU (us.drop q), 0) ∧ (joinU (us.take q)).length + 1 + (joinU (us.drop q)).length = (joinU us).length := by
  have n1 : us.take q ≠ [] := by intro e; have := congrArg List.length e; rw [List.length_take, List.length_nil] at this; omega
  have n2 : us.drop q ≠ [] := by intro e; have := congrArg List.length e; rw [List.length_drop, List.length_nil] at this; omega
  have n3 : us ≠ [] := by rintro rfl; simp at hq
  have e : joinU us = joinT (joinU (us.take q)) (joinU (us.drop q)) := by rw [← joinU_app n1 n2, List.take_append_drop]
  have hv := joinU_valid g n3
  constructor
  · have := cut_join (joinU_valid (g.take q) n1) (joinU_valid (g.drop q) n2) (by rw [← e]; exact hv)
    rw [← e, cntU_joinU] at this
    exact this
  · rw [e, joinT_len]
end Go.Sx
namespace Go.Sx
open Go.RowKit Go.Proofs
theorem lenI_LI {us : List (List UInt8)} (g : Good us) : LI (lenI us) := ⟨by rw [lenI_len]; have := g.few; omega, fun i hi => by
  rw [lenI_len] at hi
  have := good_gt g hi
  rw [lenI_gt us i hi]; omega⟩
theorem seg_S2 (us : List (List UInt8)) {p q : Nat} (h : p < q) (hq : q < us.length) : seg us p q ++ [32] ++ gt us q = seg us p (q + 1) := seg_S us h hq
theorem len_S (us : List (List UInt8)) {j : Nat} (h : j < us.length) : (lenI us).take j ++ [(((gt us j).length : Nat) : Int)] = (lenI us).take (j + 1) := by
  rw [take_snoc _ j (by rw [lenI_len]; exact h), lenI_gt us j h]
set_option maxRecDepth 100000 in
set_option maxHeartbeats 8000000 in
theorem fc8 {gl : Nat → C} {M : Nat} {pu : Nat → List C → Option C}  (hcx : CxOK (cxP gl M pu)) (h31 : ∀ (l : List Int) (k : Nat), LI l → k ≤ 1000 → pu 31 [sl iC .no l, .val (nI k)] = some (.val (str (textT l k)))) (h32 : ∀ s : List UInt8, s.length ≤ 1000000 → pu 32 [.val (str s)] = some (sl sC (.own 1) (unitsT s))) (h30 : ∀ (n : Int) (m : Nat), -9223372036854775808 ≤ n ∧ n ≤ 9223372036854775807 ∧ 0 < m ∧ m ≤ 9223372036854775807 → pu 30 [.val (.int .i64 n), .val (nI m)] = some (.val (nI (aroundI n m)))) (h11 : ∀ (l : List Int) (b w : Int), LI l → (-9223372036854775808 ≤ b ∧ b ≤ 9223372036854775807) → (-9223372036854775808 ≤ w ∧ w ≤ 9223372036854775807) → pu 11 [sl iC .no l, .val (.int .i64 b), .val (.int .i64 w)] = some (.tup [.agg [sl iC .no (fillT l b w).1, sl iC .no (fillT l b w).2.1, sl iC .no (fillT l b w).2.2.1], .val (nI (fillT l b w).2.2.2)])) (h33 : ∀ s : List UInt8, s.length ≤ 1000000 → pu 33 [.val (str s)] = some (sl tC (.own 3) (toks s))) (h34 : ∀ (s : List UInt8) (f t : Int), s.length ≤ 1000000 → (-9223372036854775808 ≤ f ∧ f ≤ 9223372036854775807) → (-9223372036854775808 ≤ t ∧ t ≤ 9223372036854775807) → pu 34 [.val (str s), .val (.int .i64 f), .val (.int .i64 t)] = some (.val (str (part s f t)))) (h35 : ∀ a b : List UInt8, a.length ≤ 1000000 → b.length ≤ 1000000 → pu 35 [.val (str a), .val (str b)] = some (.val (str (joinT a b)))) (h36 : ∀ (s : List UInt8) (k : Int), s.length ≤ 1000000 → (-9223372036854775808 ≤ k ∧ k ≤ 9223372036854775807) → pu 36 [.val (str s), .val (.int .i64 k)] = some (.tup [.val (str (cutT s k).1), .val (str (cutT s k).2.1), .val (nI (cutT s k).2.2)])) (h18 : pu 18 [] = some (.val (.bool true))) (l : List Int) (m : Int) (hl : LI l) (hm : -9223372036854775808 ≤ m ∧ m ≤ 9223372036854775807) : FC Try.prog gl 8 [sl iC .no l, .val (.int .i64 m)] [] (.val (.bool true)) [] := by
 replace hcx := hcx.reN (M := 172)
 refine FC.ofA (cx := cxP gl 172 pu) (rs := [.tmp 4]) rfl Try.func8 rfl rfl rfl (by simp only [List.length_cons, List.length_nil]; decide) (by simp only [go_sem]) ?_
 simp only [ini, go_sem]
 have hn9 := atI_lt l 0 (m := 9) (by decide)
 have g := unis_good l 0 (1 + atI l 0 9) (by omega)
 have hul := unis_len l 0 (1 + atI l 0 9)
 have htx : textT l 0 = joinU (unis l 0 (1 + atI l 0 9)) := text_joinU l 0 _
 have h31' := h31 l 0 hl (by omega)
 rw [htx] at h31'
 generalize (unis l 0 (1 + atI l 0 9)) = us at *
 have h72 := joinU_72 g
 have h32' := h32 (joinU us) (by omega)
 rw [units_joinU g] at h32'
 have h33' := h33 (joinU us) (by omega)
 have hm30 := around_lt m (m := 30) (by decide)
 have h30' := h30 m 30 ⟨hm.1, hm.2, by decide, by decide⟩
 have hlf := lenI_fine g (w := ((8 + aroundI m 30 : Nat) : Int)) (by omega)
 have hllI := lenI_LI g
 have hll := lenI_len us
 have hfew := g.few
 have hfo := fill_ok (lenI us) 1 ((8 + aroundI m 30 : Nat) : Int)
 have hfe := fill_0 (l := (lenI us)) (b := 1) (w := ((8 + aroundI m 30 : Nat) : Int)) hlf.1 (fun i hi => wideW_n hlf.2 i hi)
 rw [hfe] at hfo
 have hfl1 : (endF (lenI us) 1 ((8 + aroundI m 30 : Nat) : Int)).length ≤ 257 := hfo.1.1
 have hfl2 : (dp (lenI us) 1 ((8 + aroundI m 30 : Nat) : Int) (lenI us).length).1.length = (lenI us).length + 1 := (dp_len _ _ _ _).1
 have hfl3 : (dp (lenI us) 1 ((8 + aroundI m 30 : Nat) : Int) (lenI us).length).2.length = (lenI us).length + 1 := (dp_len _ _ _ _).2
 have hfq1 : LI (endF (lenI us) 1 ((8 + aroundI m 30 : Nat) : Int)) := hfo.1.li (by decide)
 have e11 : pu 11 [sl iC .no (lenI us), .val (.int .i64 1), .val (.int .i64 ((8 + aroundI m 30 : Nat) : Int))] = some (.tup [.agg [sl iC .no (endF (lenI us) 1 ((8 + aroundI m 30 : Nat) : Int)), sl iC .no (dp (lenI us) 1 ((8 + aroundI m 30 : Nat) : Int) (lenI us).length).1, sl iC .no (dp (lenI us) 1 ((8 + aroundI m 30 : Nat) : Int) (lenI us).length).2], .val (nI 0)]) := (h11 (lenI us) 1 ((8 + aroundI m 30 : Nat) : Int) hllI (by omega) (by omega)).trans (by rw [hfe])
 have hea := ends_at g (w := ((8 + aroundI m 30 : Nat) : Int)) (by omega)
 have e11' : pu 11 [sl iC .no (lenI us), .val (nI 1), .val (nI (8 + aroundI m 30))] = _ := e11
 generalize hEE : endF (lenI us) 1 ((8 + aroundI m 30 : Nat) : Int) = E at *
 generalize (dp (lenI us) 1 ((8 + aroundI m 30 : Nat) : Int) (lenI us).length).1 = D1 at *
 generalize (dp (lenI us) 1 ((8 + aroundI m 30 : Nat) : Int) (lenI us).length).2 = D2 at *
 obtain ⟨hfin, hea⟩ := hea
 refine Tr.seqK fun K1 hK1 => ?_
 refine Tr.rg hcx [] _ [] rfl rfl rfl ?_
 simp -implicitDefEqProofs (maxSteps := 2000000) (disch := first | omega | (simp only [go_sem, List.length_append, List.length_drop, List.length_take] <;> omega) | decide) only [go_sem, ↓reduceIte, Nat.reduceEqDiff, reduceCtorEq, Nat.reduceLT, Nat.reduceBEq, Nat.reduceAdd, Nat.reduceSub, Nat.reduceMul, Nat.reduceMod]
 refine hK1 _ ?_
 clear hK1 K1
 refine Tr.kp [0, 1] ?_
 simp only [pk_cons, pk_nil, ↓A_cons, ↓reduceIte, Nat.reduceEqDiff]
 refine Tr.seqK fun K2 hK2 => ?_
 refine Tr.rg hcx [1000024] _ [] rfl rfl rfl ?_
 simp -implicitDefEqProofs (maxSteps := 2000000) (disch := first | omega | (simp only [go_sem, List.length_append, List.length_drop, List.length_take] <;> omega) | decide) only [go_sem, ↓reduceIte, Nat.reduceEqDiff, reduceCtorEq, Nat.reduceLT, Nat.reduceBEq, Nat.reduceAdd, Nat.reduceSub, Nat.reduceMul, Nat.reduceMod, h31']
 refine hK2 _ ?_
 clear hK2 K2
 refine Tr.kp [1, 5] ?_
 simp only [pk_cons, pk_nil, ↓A_cons, ↓reduceIte, Nat.reduceEqDiff]
 refine Tr.seqK fun K3 hK3 => ?_
 refine Tr.rg hcx [1000026] _ [] rfl rfl rfl ?_
 simp -implicitDefEqProofs (maxSteps := 2000000) (disch := first | omega | (simp only [go_sem, List.length_append, List.length_drop, List.length_take] <;> omega) | decide) only [go_sem, ↓reduceIte, Nat.reduceEqDiff, reduceCtorEq, Nat.reduceLT, Nat.reduceBEq, Nat.reduceAdd, Nat.reduceSub, Nat.reduceMul, Nat.reduceMod, h32']
 refine hK3 _ ?_
 clear hK3 K3
 refine Tr.kp [1, 5, 6] ?_
 simp only [pk_cons, pk_nil, ↓A_cons, ↓reduceIte, Nat.reduceEqDiff]
 refine Tr.seqK fun K4 hK4 => ?_
 refine Tr.rg hcx [] _ [] rfl rfl rfl ?_
 simp -implicitDefEqProofs (maxSteps := 2000000) (disch := first | omega | (simp only [go_sem, List.length_append, List.length_drop, List.length_take] <;> omega) | decide) only [go_sem, ↓reduceIte, Nat.reduceEqDiff, reduceCtorEq, Nat.reduceLT, Nat.reduceBEq, Nat.reduceAdd, Nat.reduceSub, Nat.reduceMul, Nat.reduceMod]
 refine hK4 _ ?_
 clear hK4 K4
 refine Tr.kp [1, 5, 6, 7] ?_
 simp only [pk_cons, pk_nil, ↓A_cons, ↓reduceIte, Nat.reduceEqDiff]
 refine Tr.seqK fun K5 hK5 => ?_
 refine Tr.seqK fun K6 hK6 => ?_
 refine Tr.rg hcx [] _ [] rfl rfl rfl ?_
 simp -implicitDefEqProofs (maxSteps := 2000000) (disch := first | omega | (simp only [go_sem, List.length_append, List.length_drop, List.length_take] <;> omega) | decide) only [go_sem, ↓reduceIte, Nat.reduceEqDiff, reduceCtorEq, Nat.reduceLT, Nat.reduceBEq, Nat.reduceAdd, Nat.reduceSub, Nat.reduceMul, Nat.reduceMod]
 refine hK6 _ ?_
 clear hK6 K6
 refine Tr.kp [1, 5, 6, 7, 8] ?_
 simp only [pk_cons, pk_nil, ↓A_cons, ↓reduceIte, Nat.reduceEqDiff]
 refine Tr.blk ?_
 refine Tr.loopI (α := Nat) (fun a => [(1, ?v1_12), (5, ?v5_12), (6, ?v6_12), (7, sl iC (.own 1) ((lenI us).take a)), (8, .val (nI a))]) (fun a => ?h_12) (fun a => a ≤ us.length) (fun a => us.length - a) (0) (Nat.zero_le _) ?le_12 ?hh_12 ?bd_12
 case hh_12 => exact rfl
 case le_12 => (simp only [Le_nil, Le_cons, ↓A_cons, ↓reduceIte, Nat.reduceEqDiff, reduceCtorEq, CLe_refl, CLe_top, CLe_full, CLe_nil, CLe_own, and_true, true_and]; all_goals (repeat' first | exact CLe.refl _ | exact True.intro | (refine CLe_sln ?_; first | with_reducible rfl | (simp only [List.take_zero]; done) | (rfl; done)) | exact CLe_nI (by omega) | exact CLe_int (by omega) | exact CLe_inI (by omega) | exact CLe_nIi (by omega) | with_reducible apply And.intro)); all_goals exact CLe_sln rfl
 case bd_12 =>
  rintro j hj
  refine Tr.seqK fun K7 hK7 => ?_
  refine Tr.seqK fun K8 hK8 => ?_
  refine Tr.rg hcx [] _ [] rfl rfl rfl ?_
  simp -implicitDefEqProofs (maxSteps := 2000000) (disch := first | omega | (simp only [go_sem, List.length_append, List.length_drop, List.length_take] <;> omega) | decide) only [go_sem, ↓reduceIte, Nat.reduceEqDiff, reduceCtorEq, Nat.reduceLT, Nat.reduceBEq, Nat.reduceAdd, Nat.reduceSub, Nat.reduceMul, Nat.reduceMod]
  refine hK8 _ ?_
  clear hK8 K8
  refine Tr.kp [1, 5, 6, 7, 8, 30] ?_
  simp only [pk_cons, pk_nil, ↓A_cons, ↓reduceIte, Nat.reduceEqDiff]
  refine Tr.condG fun KT KF hT hF => ?_
  simp only [ev_tmp, ev_const, ↓A_cons, ↓reduceIte, Nat.reduceEqDiff, reduceCtorEq, condG_bool, GB_true, GB_false, decide_eq_true_eq]
  refine GB.dec (fun hc30 => hT ?_) (fun hc30 => hF ?_)
  ·
   clear hT hF KT KF
   have hg7 := good_gt g hc30
   refine Tr.skip ?_
   refine hK7 _ ?_
   clear hK7 K7
   refine Tr.kp [1, 5, 6, 7, 8] ?_
   simp only [pk_cons, pk_nil, ↓A_cons, ↓reduceIte, Nat.reduceEqDiff]
   refine Tr.seqK fun K9 hK9 => ?_
   refine Tr.blk ?_
   refine Tr.rg hcx [33, 1000040] _ [] rfl rfl rfl ?_
   simp -implicitDefEqProofs (maxSteps := 2000000) (disch := first | omega | (simp only [go_sem, List.length_append, List.length_drop, List.length_take] <;> omega) | decide) only [go_sem, ↓reduceIte, Nat.reduceEqDiff, reduceCtorEq, Nat.reduceLT, Nat.reduceBEq, Nat.reduceAdd, Nat.reduceSub, Nat.reduceMul, Nat.reduceMod]
   refine hK9 _ ?_
   clear hK9 K9
   refine Tr.kp [1, 5, 6, 7, 8] ?_
   simp only [pk_cons, pk_nil, ↓A_cons, ↓reduceIte, Nat.reduceEqDiff]
   refine Tr.rg hcx [1000032] _ [] rfl rfl rfl ?_
   simp -implicitDefEqProofs (maxSteps := 2000000) (disch := first | omega | (simp only [go_sem, List.length_append, List.length_drop, List.length_take] <;> omega) | decide) only [go_sem, ↓reduceIte, Nat.reduceEqDiff, reduceCtorEq, Nat.reduceLT, Nat.reduceBEq, Nat.reduceAdd, Nat.reduceSub, Nat.reduceMul, Nat.reduceMod]
   refine ⟨j + 1, ⟨by omega, by first | omega | (simp only []; omega)⟩, ?_, rfl⟩
   (simp only [Le_nil, Le_cons, ↓A_cons, ↓reduceIte, Nat.reduceEqDiff, reduceCtorEq, CLe_refl, CLe_top, CLe_full, CLe_nil, CLe_own, and_true, true_and]; all_goals (repeat' first | exact CLe.refl _ | exact True.intro | (refine CLe_sln ?_; first | with_reducible rfl | (simp only [List.take_zero]; done) | (rfl; done)) | exact CLe_nI (by omega) | exact CLe_int (by omega) | exact CLe_inI (by omega) | exact CLe_nIi (by omega) | with_reducible apply And.intro))
   all_goals (rw [len_S us hc30]; exact CLe.refl _)
  ·
   clear hT hF KT KF
   obtain rfl : j = us.length := by omega
   have htk : (lenI us).take us.length = lenI us := List.take_of_length_le (by omega)
   refine Tr.exit ?_
   refine hK5 _ ?_
   clear hK7 K7 hK5 K5
   refine Tr.kp [1, 5, 6, 7] ?_
   simp only [pk_cons, pk_nil, ↓A_cons, ↓reduceIte, Nat.reduceEqDiff]
   refine Tr.seqK fun K10 hK10 => ?_
   refine Tr.rg hcx [1000043] _ [] rfl rfl rfl ?_
   simp -implicitDefEqProofs (maxSteps := 2000000) (disch := first | omega | (simp only [go_sem, List.length_append, List.length_drop, List.length_take] <;> omega) | decide) only [go_sem, ↓reduceIte, Nat.reduceEqDiff, reduceCtorEq, Nat.reduceLT, Nat.reduceBEq, Nat.reduceAdd, Nat.reduceSub, Nat.reduceMul, Nat.reduceMod, h30']
   refine hK10 _ ?_
   clear hK10 K10
   refine Tr.kp [5, 6, 7, 9] ?_
   simp only [pk_cons, pk_nil, ↓A_cons, ↓reduceIte, Nat.reduceEqDiff]
   refine Tr.seqK fun K11 hK11 => ?_
   refine Tr.rg hcx [1000049] _ [none] rfl rfl rfl ?_
   simp -implicitDefEqProofs (maxSteps := 2000000) (disch := first | omega | (simp only [go_sem, List.length_append, List.length_drop, List.length_take] <;> omega) | decide) only [go_sem, ↓reduceIte, Nat.reduceEqDiff, reduceCtorEq, Nat.reduceLT, Nat.reduceBEq, Nat.reduceAdd, Nat.reduceSub, Nat.reduceMul, Nat.reduceMod, htk, e11']
   refine hK11 _ ?_
   clear hK11 K11
   refine Tr.kp [5, 6, 9, 10, 11] ?_
   simp only [pk_cons, pk_nil, ↓A_cons, ↓reduceIte, Nat.reduceEqDiff]
   refine Tr.seqK fun K12 hK12 => ?_
   refine Tr.seqK fun K13 hK13 => ?_
   refine Tr.rg hcx [] _ [] rfl rfl rfl ?_
   simp -implicitDefEqProofs (maxSteps := 2000000) (disch := first | omega | (simp only [go_sem, List.length_append, List.length_drop, List.length_take] <;> omega) | decide) only [go_sem, ↓reduceIte, Nat.reduceEqDiff, reduceCtorEq, Nat.reduceLT, Nat.reduceBEq, Nat.reduceAdd, Nat.reduceSub, Nat.reduceMul, Nat.reduceMod]
   refine hK13 _ ?_
   clear hK13 K13
   refine Tr.kp [5, 6, 9, 10, 51] ?_
   simp only [pk_cons, pk_nil, ↓A_cons, ↓reduceIte, Nat.reduceEqDiff]
   refine Tr.condG fun KT KF hT hF => ?_
   simp only [ev_tmp, ev_const, ↓A_cons, ↓reduceIte, Nat.reduceEqDiff, reduceCtorEq, condG_bool, GB_true, GB_false, decide_eq_true_eq]
   refine hF ?_
   clear hT hF KT KF
   refine Tr.skip ?_
   refine hK12 _ ?_
   clear hK12 K12
   refine Tr.kp [5, 6, 9, 10] ?_
   simp only [pk_cons, pk_nil, ↓A_cons, ↓reduceIte, Nat.reduceEqDiff]
   refine Tr.seqK fun K14 hK14 => ?_
   refine Tr.rg hcx [1000053] _ [] rfl rfl rfl ?_
   simp -implicitDefEqProofs (maxSteps := 2000000) (disch := first | omega | (simp only [go_sem, List.length_append, List.length_drop, List.length_take] <;> omega) | decide) only [go_sem, ↓reduceIte, Nat.reduceEqDiff, reduceCtorEq, Nat.reduceLT, Nat.reduceBEq, Nat.reduceAdd, Nat.reduceSub, Nat.reduceMul, Nat.reduceMod, h33']
   refine hK14 _ ?_
   clear hK14 K14
   refine Tr.kp [5, 6, 9, 10, 12] ?_
   simp only [pk_cons, pk_nil, ↓A_cons, ↓reduceIte, Nat.reduceEqDiff]
   refine Tr.seqK fun K15 hK15 => ?_
   refine Tr.rg hcx [] _ [] rfl rfl rfl ?_
   simp -implicitDefEqProofs (maxSteps := 2000000) (disch := first | omega | (simp only [go_sem, List.length_append, List.length_drop, List.length_take] <;> omega) | decide) only [go_sem, ↓reduceIte, Nat.reduceEqDiff, reduceCtorEq, Nat.reduceLT, Nat.reduceBEq, Nat.reduceAdd, Nat.reduceSub, Nat.reduceMul, Nat.reduceMod]
   refine hK15 _ ?_
   clear hK15 K15
   refine Tr.kp [5, 6, 9, 10, 12, 13] ?_
   simp only [pk_cons, pk_nil, ↓A_cons, ↓reduceIte, Nat.reduceEqDiff]
   refine Tr.seqK fun K16 hK16 => ?_
   refine Tr.rg hcx [] _ [] rfl rfl rfl ?_
   simp -implicitDefEqProofs (maxSteps := 2000000) (disch := first | omega | (simp only [go_sem, List.length_append, List.length_drop, List.length_take] <;> omega) | decide) only [go_sem, ↓reduceIte, Nat.reduceEqDiff, reduceCtorEq, Nat.reduceLT, Nat.reduceBEq, Nat.reduceAdd, Nat.reduceSub, Nat.reduceMul, Nat.reduceMod]
   refine hK16 _ ?_
   clear hK16 K16
   refine Tr.kp [5, 6, 9, 10, 12, 13, 14] ?_
   simp only [pk_cons, pk_nil, ↓A_cons, ↓reduceIte, Nat.reduceEqDiff]
   refine Tr.seqK fun K17 hK17 => ?_
   refine Tr.rg hcx [] _ [] rfl rfl rfl ?_
   simp -implicitDefEqProofs (maxSteps := 2000000) (disch := first | omega | (simp only [go_sem, List.length_append, List.length_drop, List.length_take] <;> omega) | decide) only [go_sem, ↓reduceIte, Nat.reduceEqDiff, reduceCtorEq, Nat.reduceLT, Nat.reduceBEq, Nat.reduceAdd, Nat.reduceSub, Nat.reduceMul, Nat.reduceMod]
   refine hK17 _ ?_
   clear hK17 K17
   refine Tr.kp [5, 6, 9, 10, 12, 13, 14, 15] ?_
   simp only [pk_cons, pk_nil, ↓A_cons, ↓reduceIte, Nat.reduceEqDiff]
   refine Tr.seqK fun K18 hK18 => ?_
   refine Tr.seqK fun K19 hK19 => ?_
   refine Tr.rg hcx [] _ [] rfl rfl rfl ?_
   simp -implicitDefEqProofs (maxSteps := 2000000) (disch := first | omega | (simp only [go_sem, List.length_append, List.length_drop, List.length_take] <;> omega) | decide) only [go_sem, ↓reduceIte, Nat.reduceEqDiff, reduceCtorEq, Nat.reduceLT, Nat.reduceBEq, Nat.reduceAdd, Nat.reduceSub, Nat.reduceMul, Nat.reduceMod]
   refine hK19 _ ?_
   clear hK19 K19
   refine Tr.kp [5, 6, 9, 10, 12, 13, 14, 15, 16] ?_
   simp only [pk_cons, pk_nil, ↓A_cons, ↓reduceIte, Nat.reduceEqDiff]
   refine Tr.blk ?_
   refine Tr.loopI (α := Nat) (fun a => [(5, ?v5_47), (6, ?v6_47), (9, ?v9_47), (10, ?v10_47), (12, ?v12_47), (13, .val (nI (pvN E a))), (14, .val (nI (cntU (us.take (pvN E a))))), (15, .val (str (joinU (us.take (pvN E a))))), (16, .val (nI a))]) (fun a => [some [sl iC .no E, sl iC .no D1, sl iC .no D2]]) (fun a => a ≤ E.length) (fun a => E.length - a) (0) (Nat.zero_le _) ?le_47 ?hh_47 ?bd_47
   case hh_47 => exact rfl
   case le_47 => (simp only [Le_nil, Le_cons, ↓A_cons, ↓reduceIte, Nat.reduceEqDiff, reduceCtorEq, CLe_refl, CLe_top, CLe_full, CLe_nil, CLe_own, and_true, true_and]; all_goals (repeat' first | exact CLe.refl _ | exact True.intro | (refine CLe_sln ?_; first | with_reducible rfl | (simp only [List.take_zero]; done) | (rfl; done)) | exact CLe_nI (by omega) | exact CLe_int (by omega) | exact CLe_inI (by omega) | exact CLe_nIi (by omega) | with_reducible apply And.intro))
   case bd_47 =>
    rintro i hi
    refine Tr.seqK fun K20 hK20 => ?_
    refine Tr.seqK fun K21 hK21 => ?_
    refine Tr.rg hcx [] _ [] rfl rfl rfl ?_
    simp -implicitDefEqProofs (maxSteps := 2000000) (disch := first | omega | (simp only [go_sem, List.length_append, List.length_drop, List.length_take] <;> omega) | decide) only [go_sem, ↓reduceIte, Nat.reduceEqDiff, reduceCtorEq, Nat.reduceLT, Nat.reduceBEq, Nat.reduceAdd, Nat.reduceSub, Nat.reduceMul, Nat.reduceMod]
    refine hK21 _ ?_
    clear hK21 K21
    refine Tr.kp [5, 6, 9, 10, 12, 13, 14, 15, 16, 58] ?_
    simp only [pk_cons, pk_nil, ↓A_cons, ↓reduceIte, Nat.reduceEqDiff]
    refine Tr.condG fun KT KF hT hF => ?_
    simp only [ev_tmp, ev_const, ↓A_cons, ↓reduceIte, Nat.reduceEqDiff, reduceCtorEq, condG_bool, GB_true, GB_false, decide_eq_true_eq]
    refine GB.dec (fun hc58 => hT ?_) (fun hc58 => hF ?_)
    ·
     clear hT hF KT KF
     obtain ⟨hge, hpq, hqn, hsw⟩ := hea i hc58
     have hgi := hfq1.2 i hc58
     have hk1 : (us.length < pvN E (i + 1)) = False := eq_false (by omega)
     have hk2 : (pvN E (i + 1) ≤ pvN E i) = False := eq_false (by omega)
     refine Tr.skip ?_
     refine hK20 _ ?_
     clear hK20 K20
     refine Tr.kp [5, 6, 9, 10, 12, 13, 14, 15, 16] ?_
     simp only [pk_cons, pk_nil, ↓A_cons, ↓reduceIte, Nat.reduceEqDiff]
     refine Tr.seqK fun K22 hK22 => ?_
     refine Tr.blk ?_
     refine Tr.seqK fun K23 hK23 => ?_
     refine Tr.rg hcx [] _ [] rfl rfl rfl ?_
     simp -implicitDefEqProofs (maxSteps := 2000000) (disch := first | omega | (simp only [go_sem, List.length_append, List.length_drop, List.length_take] <;> omega) | decide) only [go_sem, ↓reduceIte, Nat.reduceEqDiff, reduceCtorEq, Nat.reduceLT, Nat.reduceBEq, Nat.reduceAdd, Nat.reduceSub, Nat.reduceMul, Nat.reduceMod]
     refine hK23 _ ?_
     clear hK23 K23
     refine Tr.kp [5, 6, 9, 10, 12, 13, 14, 15, 16, 17] ?_
     simp only [pk_cons, pk_nil, ↓A_cons, ↓reduceIte, Nat.reduceEqDiff]
     refine Tr.seqK fun K24 hK24 => ?_
     refine Tr.seqK fun K25 hK25 => ?_
     refine Tr.rg hcx [] [some 61, some 62, some 63, some 64, some 65, some 66, some 67, some 68, some 69, some 70, some 71, some 72, some 73, some 74, some 75, some 76, some 77] [] rfl rfl rfl ?_
     simp -implicitDefEqProofs (maxSteps := 2000000) (disch := first | omega | (simp only [go_sem, List.length_append, List.length_drop, List.length_take] <;> omega) | decide) only [go_sem, ↓reduceIte, Nat.reduceEqDiff, reduceCtorEq, Nat.reduceLT, Nat.reduceBEq, Nat.reduceAdd, Nat.reduceSub, Nat.reduceMul, Nat.reduceMod, hge, hk1, hk2, int_nIT]
     refine hK25 _ ?_
     clear hK25 K25
     refine Tr.kp [5, 6, 9, 10, 12, 13, 14, 15, 16, 17, 77] ?_
     simp only [pk_cons, pk_nil, ↓A_cons, ↓reduceIte, Nat.reduceEqDiff]
     refine Tr.condG fun KT KF hT hF => ?_
     simp only [ev_tmp, ev_const, ↓A_cons, ↓reduceIte, Nat.reduceEqDiff, reduceCtorEq, condG_bool, GB_true, GB_false, decide_eq_true_eq]
     refine hF ?_
     clear hT hF KT KF
     refine Tr.skip ?_
     refine hK24 _ ?_
     clear hK24 K24
     refine Tr.kp [5, 6, 9, 10, 12, 13, 14, 15, 16, 17] ?_
     simp only [pk_cons, pk_nil, ↓A_cons, ↓reduceIte, Nat.reduceEqDiff]
     refine Tr.seqK fun K26 hK26 => ?_
     refine Tr.rg hcx [1000078] _ [] rfl rfl rfl ?_
     simp -implicitDefEqProofs (maxSteps := 2000000) (disch := first | omega | (simp only [go_sem, List.length_append, List.length_drop, List.length_take] <;> omega) | decide) only [go_sem, ↓reduceIte, Nat.reduceEqDiff, reduceCtorEq, Nat.reduceLT, Nat.reduceBEq, Nat.reduceAdd, Nat.reduceSub, Nat.reduceMul, Nat.reduceMod]
     refine hK26 _ ?_
     clear hK26 K26
     refine Tr.kp [5, 6, 9, 10, 12, 13, 14, 15, 16, 17, 18] ?_
     simp only [pk_cons, pk_nil, ↓A_cons, ↓reduceIte, Nat.reduceEqDiff]
     refine Tr.seqK fun K27 hK27 => ?_
     refine Tr.seqK fun K28 hK28 => ?_
     refine Tr.rg hcx [1000079] _ [] rfl rfl rfl ?_
     simp -implicitDefEqProofs (maxSteps := 2000000) (disch := first | omega | (simp only [go_sem, List.length_append, List.length_drop, List.length_take] <;> omega) | decide) only [go_sem, ↓reduceIte, Nat.reduceEqDiff, reduceCtorEq, Nat.reduceLT, Nat.reduceBEq, Nat.reduceAdd, Nat.reduceSub, Nat.reduceMul, Nat.reduceMod]
     refine hK28 _ ?_
     clear hK28 K28
     refine Tr.kp [5, 6, 9, 10, 12, 13, 14, 15, 16, 17, 18, 19] ?_
     simp only [pk_cons, pk_nil, ↓A_cons, ↓reduceIte, Nat.reduceEqDiff]
     refine Tr.blk ?_
     refine Tr.loopI (α := Nat) (fun a => [(5, ?v5_72), (6, ?v6_72), (9, ?v9_72), (10, ?v10_72), (12, ?v12_72), (13, ?v13_72), (14, .val (nI (cntU (us.take a)))), (15, ?v15_72), (16, ?v16_72), (17, .val (str (seg us (pvN E i) a))), (18, ?v18_72), (19, .val (nI a))]) (fun a => [some [sl iC .no E, sl iC .no D1, sl iC .no D2]]) (fun a => pvN E i ≤ a ∧ a ≤ pvN E (i + 1)) (fun a => pvN E (i + 1) - a) (pvN E i) ⟨Nat.le_refl _, Nat.le_of_lt hpq⟩ ?le_72 ?hh_72 ?bd_72
     case hh_72 => exact rfl
     case le_72 => (simp only [Le_nil, Le_cons, ↓A_cons, ↓reduceIte, Nat.reduceEqDiff, reduceCtorEq, CLe_refl, CLe_top, CLe_full, CLe_nil, CLe_own, and_true, true_and]; all_goals (repeat' first | exact CLe.refl _ | exact True.intro | (refine CLe_sln ?_; first | with_reducible rfl | (simp only [List.take_zero]; done) | (rfl; done)) | exact CLe_nI (by omega) | exact CLe_int (by omega) | exact CLe_inI (by omega) | exact CLe_nIi (by omega) | with_reducible apply And.intro)); all_goals first | exact CLe.refl _ | (rw [seg_0]; exact CLe.refl _)
     case bd_72 =>
      rintro k hk
      refine Tr.seqK fun K29 hK29 => ?_
      refine Tr.seqK fun K30 hK30 => ?_
      refine Tr.rg hcx [] _ [] rfl rfl rfl ?_
      simp -implicitDefEqProofs (maxSteps := 2000000) (disch := first | omega | (simp only [go_sem, List.length_append, List.length_drop, List.length_take] <;> omega) | decide) only [go_sem, ↓reduceIte, Nat.reduceEqDiff, reduceCtorEq, Nat.reduceLT, Nat.reduceBEq, Nat.reduceAdd, Nat.reduceSub, Nat.reduceMul, Nat.reduceMod, hge, int_nIT]
      refine hK30 _ ?_
      clear hK30 K30
      refine Tr.kp [5, 6, 9, 10, 12, 13, 14, 15, 16, 17, 18, 19, 86] ?_
      simp only [pk_cons, pk_nil, ↓A_cons, ↓reduceIte, Nat.reduceEqDiff]
      refine Tr.condG fun KT KF hT hF => ?_
      simp only [ev_tmp, ev_const, ↓A_cons, ↓reduceIte, Nat.reduceEqDiff, reduceCtorEq, condG_bool, GB_true, GB_false, decide_eq_true_eq]
      refine GB.dec (fun hc86 => hT ?_) (fun hc86 => hF ?_)
      ·
       clear hT hF KT KF
       have hku : k < us.length := by omega
       have hg7 := good_gt g hku
       have hcs := cntU_S us hku
       have h33k := h33 (gt us k) (by omega)
       have hseg := seg_72 g (pvN E i) k
       have hcl := cntU_joinU (us.take k)
       have hcl2 := toks_len (joinU (us.take k))
       have hcl3 := joinU_72 (g.take k)
       have hcl4 := toks_len (gt us k)
       refine Tr.skip ?_
       refine hK29 _ ?_
       clear hK29 K29
       refine Tr.kp [5, 6, 9, 10, 12, 13, 14, 15, 16, 17, 18, 19] ?_
       simp only [pk_cons, pk_nil, ↓A_cons, ↓reduceIte, Nat.reduceEqDiff]
       refine Tr.seqK fun K31 hK31 => ?_
       refine Tr.blk ?_
       refine Tr.seqK fun K32 hK32 => ?_
       refine Tr.rg hcx [1000096] _ [] rfl rfl rfl ?_
       simp -implicitDefEqProofs (maxSteps := 2000000) (disch := first | omega | (simp only [go_sem, List.length_append, List.length_drop, List.length_take] <;> omega) | decide) only [go_sem, ↓reduceIte, Nat.reduceEqDiff, reduceCtorEq, Nat.reduceLT, Nat.reduceBEq, Nat.reduceAdd, Nat.reduceSub, Nat.reduceMul, Nat.reduceMod, h33k]
       refine hK32 _ ?_
       clear hK32 K32
       refine Tr.kp [5, 6, 9, 10, 12, 13, 14, 15, 16, 17, 18, 19] ?_
       simp only [pk_cons, pk_nil, ↓A_cons, ↓reduceIte, Nat.reduceEqDiff]
       refine Tr.seqK fun K33 hK33 => ?_
       refine Tr.seqK fun K34 hK34 => ?_
       by_cases y0 : pvN E i < k
       ·
        refine Tr.rg hcx [] _ [] rfl rfl rfl ?_
        simp -implicitDefEqProofs (maxSteps := 2000000) (disch := first | omega | (simp only [go_sem, List.length_append, List.length_drop, List.length_take] <;> omega) | decide) only [go_sem, ↓reduceIte, Nat.reduceEqDiff, reduceCtorEq, Nat.reduceLT, Nat.reduceBEq, Nat.reduceAdd, Nat.reduceSub, Nat.reduceMul, Nat.reduceMod, y0]
        refine hK34 _ ?_
        clear hK34 K34
        refine Tr.kp [5, 6, 9, 10, 12, 13, 14, 15, 16, 17, 18, 19, 99] ?_
        simp only [pk_cons, pk_nil, ↓A_cons, ↓reduceIte, Nat.reduceEqDiff]
        refine Tr.condG fun KT KF hT hF => ?_
        simp only [ev_tmp, ev_const, ↓A_cons, ↓reduceIte, Nat.reduceEqDiff, reduceCtorEq, condG_bool, GB_true, GB_false, decide_eq_true_eq]
        refine hT ?_
        clear hT hF KT KF
        refine Tr.rg hcx [1000101] _ [] rfl rfl rfl ?_
        simp -implicitDefEqProofs (maxSteps := 2000000) (disch := first | omega | (simp only [go_sem, List.length_append, List.length_drop, List.length_take] <;> omega) | decide) only [go_sem, ↓reduceIte, Nat.reduceEqDiff, reduceCtorEq, Nat.reduceLT, Nat.reduceBEq, Nat.reduceAdd, Nat.reduceSub, Nat.reduceMul, Nat.reduceMod, y0]
        refine hK33 _ ?_
        clear hK33 K33
        refine Tr.kp [5, 6, 9, 10, 12, 13, 14, 15, 16, 17, 18, 19] ?_
        simp only [pk_cons, pk_nil, ↓A_cons, ↓reduceIte, Nat.reduceEqDiff]
        refine Tr.rg hcx [1000107] _ [] rfl rfl rfl ?_
        simp -implicitDefEqProofs (maxSteps := 2000000) (disch := first | omega | (simp only [go_sem, List.length_append, List.length_drop, List.length_take] <;> omega) | decide) only [go_sem, ↓reduceIte, Nat.reduceEqDiff, reduceCtorEq, Nat.reduceLT, Nat.reduceBEq, Nat.reduceAdd, Nat.reduceSub, Nat.reduceMul, Nat.reduceMod, y0]
        refine hK31 _ ?_
        clear hK31 K31
        refine Tr.kp [5, 6, 9, 10, 12, 13, 14, 15, 16, 17, 18, 19] ?_
        simp only [pk_cons, pk_nil, ↓A_cons, ↓reduceIte, Nat.reduceEqDiff]
        refine Tr.rg hcx [1000088] _ [] rfl rfl rfl ?_
        simp -implicitDefEqProofs (maxSteps := 2000000) (disch := first | omega | (simp only [go_sem, List.length_append, List.length_drop, List.length_take] <;> omega) | decide) only [go_sem, ↓reduceIte, Nat.reduceEqDiff, reduceCtorEq, Nat.reduceLT, Nat.reduceBEq, Nat.reduceAdd, Nat.reduceSub, Nat.reduceMul, Nat.reduceMod, y0]
        refine ⟨k + 1, ⟨by omega, by first | omega | (simp only []; omega)⟩, ?_, rfl⟩
        (simp only [Le_nil, Le_cons, ↓A_cons, ↓reduceIte, Nat.reduceEqDiff, reduceCtorEq, CLe_refl, CLe_top, CLe_full, CLe_nil, CLe_own, and_true, true_and]; all_goals (repeat' first | exact CLe.refl _ | exact True.intro | (refine CLe_sln ?_; first | with_reducible rfl | (simp only [List.take_zero]; done) | (rfl; done)) | exact CLe_nI (by omega) | exact CLe_int (by omega) | exact CLe_inI (by omega) | exact CLe_nIi (by omega) | with_reducible apply And.intro))
        all_goals first | exact CLe.refl _ | (rw [hcs]; exact CLe.refl _) | (rw [seg_S us y0 hku]; exact CLe.refl _) | (rw [seg_S2 us y0 hku]; exact CLe.refl _) | (rw [seg_1 us y0 hk.1 hku]; exact CLe.refl _)
       ·
        refine Tr.rg hcx [] _ [] rfl rfl rfl ?_
        simp -implicitDefEqProofs (maxSteps := 2000000) (disch := first | omega | (simp only [go_sem, List.length_append, List.length_drop, List.length_take] <;> omega) | decide) only [go_sem, ↓reduceIte, Nat.reduceEqDiff, reduceCtorEq, Nat.reduceLT, Nat.reduceBEq, Nat.reduceAdd, Nat.reduceSub, Nat.reduceMul, Nat.reduceMod, y0]
        refine hK34 _ ?_
        clear hK34 K34
        refine Tr.kp [5, 6, 9, 10, 12, 13, 14, 15, 16, 17, 18, 19, 99] ?_
        simp only [pk_cons, pk_nil, ↓A_cons, ↓reduceIte, Nat.reduceEqDiff]
        refine Tr.condG fun KT KF hT hF => ?_
        simp only [ev_tmp, ev_const, ↓A_cons, ↓reduceIte, Nat.reduceEqDiff, reduceCtorEq, condG_bool, GB_true, GB_false, decide_eq_true_eq]
        refine hF ?_
        clear hT hF KT KF
        refine Tr.skip ?_
        refine hK33 _ ?_
        clear hK33 K33
        refine Tr.kp [5, 6, 9, 10, 12, 13, 14, 15, 16, 17, 18, 19] ?_
        simp only [pk_cons, pk_nil, ↓A_cons, ↓reduceIte, Nat.reduceEqDiff]
        refine Tr.rg hcx [1000107] _ [] rfl rfl rfl ?_
        simp -implicitDefEqProofs (maxSteps := 2000000) (disch := first | omega | (simp only [go_sem, List.length_append, List.length_drop, List.length_take] <;> omega) | decide) only [go_sem, ↓reduceIte, Nat.reduceEqDiff, reduceCtorEq, Nat.reduceLT, Nat.reduceBEq, Nat.reduceAdd, Nat.reduceSub, Nat.reduceMul, Nat.reduceMod, y0]
        refine hK31 _ ?_
        clear hK31 K31
        refine Tr.kp [5, 6, 9, 10, 12, 13, 14, 15, 16, 17, 18, 19] ?_
        simp only [pk_cons, pk_nil, ↓A_cons, ↓reduceIte, Nat.reduceEqDiff]
        refine Tr.rg hcx [1000088] _ [] rfl rfl rfl ?_
        simp -implicitDefEqProofs (maxSteps := 2000000) (disch := first | omega | (simp only [go_sem, List.length_append, List.length_drop, List.length_take] <;> omega) | decide) only [go_sem, ↓reduceIte, Nat.reduceEqDiff, reduceCtorEq, Nat.reduceLT, Nat.reduceBEq, Nat.reduceAdd, Nat.reduceSub, Nat.reduceMul, Nat.reduceMod, y0]
        refine ⟨k + 1, ⟨by omega, by first | omega | (simp only []; omega)⟩, ?_, rfl⟩
        (simp only [Le_nil, Le_cons, ↓A_cons, ↓reduceIte, Nat.reduceEqDiff, reduceCtorEq, CLe_refl, CLe_top, CLe_full, CLe_nil, CLe_own, and_true, true_and]; all_goals (repeat' first | exact CLe.refl _ | exact True.intro | (refine CLe_sln ?_; first | with_reducible rfl | (simp only [List.take_zero]; done) | (rfl; done)) | exact CLe_nI (by omega) | exact CLe_int (by omega) | exact CLe_inI (by omega) | exact CLe_nIi (by omega) | with_reducible apply And.intro))
        all_goals first | exact CLe.refl _ | (rw [hcs]; exact CLe.refl _) | (rw [seg_S us y0 hku]; exact CLe.refl _) | (rw [seg_S2 us y0 hku]; exact CLe.refl _) | (rw [seg_1 us y0 hk.1 hku]; exact CLe.refl _)
      ·
       clear hT hF KT KF
       have hkq : k = pvN E (i + 1) := by omega
       subst hkq
       have hs72 := seg_72 g (pvN E i) (pvN E (i + 1))
       have hw1 : (8 + aroundI m 30 < (seg us (pvN E i) (pvN E (i + 1))).length) = False := eq_false (by omega)
       have ha1 := cntU_joinU (us.take (pvN E i))
       have ha2 := toks_len (joinU (us.take (pvN E i)))
       have ha3 := joinU_72 (g.take (pvN E i))
       have hb1 := cntU_joinU (us.take (pvN E (i + 1)))
       have hb2 := toks_len (joinU (us.take (pvN E (i + 1))))
       have hb3 := joinU_72 (g.take (pvN E (i + 1)))
       have hb4 := joinU_72 (g.drop (pvN E (i + 1)))
       have e34 : pu 34 [.val (str (joinU us)), .val (nI (cntU (us.take (pvN E i)))), .val (nI (cntU (us.take (pvN E (i + 1)))))] = some (.val (str (seg us (pvN E i) (pvN E (i + 1))))) := (h34 (joinU us) _ _ (by omega) ⟨by omega, by omega⟩ ⟨by omega, by omega⟩).trans (by rw [part_seg g hpq hqn])
       refine Tr.exit ?_
       refine hK27 _ ?_
       clear hK29 K29 hK27 K27
       refine Tr.kp [5, 6, 9, 10, 12, 14, 15, 16, 17, 18] ?_
       simp only [pk_cons, pk_nil, ↓A_cons, ↓reduceIte, Nat.reduceEqDiff]
       refine Tr.seqK fun K35 hK35 => ?_
       refine Tr.seqK fun K36 hK36 => ?_
       refine Tr.rg hcx [] [some 108, some 109, some 110, some 111, some 112, some 113, some 114, some 115, some 116, some 117, some 118, some 119] [] rfl rfl rfl ?_
       simp -implicitDefEqProofs (maxSteps := 2000000) (disch := first | omega | (simp only [go_sem, List.length_append, List.length_drop, List.length_take] <;> omega) | decide) only [go_sem, ↓reduceIte, Nat.reduceEqDiff, reduceCtorEq, Nat.reduceLT, Nat.reduceBEq, Nat.reduceAdd, Nat.reduceSub, Nat.reduceMul, Nat.reduceMod, e34, hw1]
       refine hK36 _ ?_
       clear hK36 K36
       refine Tr.kp [5, 6, 9, 10, 12, 14, 15, 16, 17, 119] ?_
       simp only [pk_cons, pk_nil, ↓A_cons, ↓reduceIte, Nat.reduceEqDiff]
       refine Tr.condG fun KT KF hT hF => ?_
       simp only [ev_tmp, ev_const, ↓A_cons, ↓reduceIte, Nat.reduceEqDiff, reduceCtorEq, condG_bool, GB_true, GB_false, decide_eq_true_eq]
       refine hF ?_
       clear hT hF KT KF
       refine Tr.skip ?_
       refine hK35 _ ?_
       clear hK35 K35
       refine Tr.kp [5, 6, 9, 10, 12, 14, 15, 16, 17] ?_
       simp only [pk_cons, pk_nil, ↓A_cons, ↓reduceIte, Nat.reduceEqDiff]
       refine Tr.seqK fun K37 hK37 => ?_
       refine Tr.seqK fun K38 hK38 => ?_
       by_cases x0 : 0 < i
       ·
        have hp0 := (hea (i - 1) (by omega)).2.1
        rw [show i - 1 + 1 = i by omega] at hp0
        have e35 : pu 35 [.val (str (joinU (us.take (pvN E i)))), .val (str (seg us (pvN E i) (pvN E (i + 1))))] = some (.val (str (joinU (us.take (pvN E (i + 1)))))) := (h35 _ _ (by omega) (by omega)).trans (by rw [join_seg us (by omega) hpq hqn])
        refine Tr.rg hcx [] _ [] rfl rfl rfl ?_
        simp -implicitDefEqProofs (maxSteps := 2000000) (disch := first | omega | (simp only [go_sem, List.length_append, List.length_drop, List.length_take] <;> omega) | decide) only [go_sem, ↓reduceIte, Nat.reduceEqDiff, reduceCtorEq, Nat.reduceLT, Nat.reduceBEq, Nat.reduceAdd, Nat.reduceSub, Nat.reduceMul, Nat.reduceMod, x0]
        refine hK38 _ ?_
        clear hK38 K38
        refine Tr.kp [5, 6, 9, 10, 12, 14, 15, 16, 17, 121] ?_
        simp only [pk_cons, pk_nil, ↓A_cons, ↓reduceIte, Nat.reduceEqDiff]
        refine Tr.condG fun KT KF hT hF => ?_
        simp only [ev_tmp, ev_const, ↓A_cons, ↓reduceIte, Nat.reduceEqDiff, reduceCtorEq, condG_bool, GB_true, GB_false, decide_eq_true_eq]
        refine hT ?_
        clear hT hF KT KF
        refine Tr.rg hcx [1000124] _ [] rfl rfl rfl ?_
        simp -implicitDefEqProofs (maxSteps := 2000000) (disch := first | omega | (simp only [go_sem, List.length_append, List.length_drop, List.length_take] <;> omega) | decide) only [go_sem, ↓reduceIte, Nat.reduceEqDiff, reduceCtorEq, Nat.reduceLT, Nat.reduceBEq, Nat.reduceAdd, Nat.reduceSub, Nat.reduceMul, Nat.reduceMod, x0, e35]
        refine hK37 _ ?_
        clear hK37 K37
        refine Tr.kp [5, 6, 9, 10, 12, 14, 15, 16] ?_
        simp only [pk_cons, pk_nil, ↓A_cons, ↓reduceIte, Nat.reduceEqDiff]
        refine Tr.seqK fun K39 hK39 => ?_
        refine Tr.rg hcx [1000130] _ [] rfl rfl rfl ?_
        simp -implicitDefEqProofs (maxSteps := 2000000) (disch := first | omega | (simp only [go_sem, List.length_append, List.length_drop, List.length_take] <;> omega) | decide) only [go_sem, ↓reduceIte, Nat.reduceEqDiff, reduceCtorEq, Nat.reduceLT, Nat.reduceBEq, Nat.reduceAdd, Nat.reduceSub, Nat.reduceMul, Nat.reduceMod, x0, hge, int_nIT]
        refine hK39 _ ?_
        clear hK39 K39
        refine Tr.kp [5, 6, 9, 10, 12, 13, 14, 15, 16] ?_
        simp only [pk_cons, pk_nil, ↓A_cons, ↓reduceIte, Nat.reduceEqDiff]
        refine Tr.seqK fun K40 hK40 => ?_
        by_cases w0 : pvN E (i + 1) < us.length
        ·
         obtain ⟨hc1, hc2⟩ := cut_seg g (q := pvN E (i + 1)) (by omega) w0
         have e36 : pu 36 [.val (str (joinU us)), .val (nI (cntU (us.take (pvN E (i + 1)))))] = some (.tup [.val (str (joinU (us.take (pvN E (i + 1))))), .val (str (joinU (us.drop (pvN E (i + 1))))), .val (nI 0)]) := (h36 _ _ (by omega) ⟨by omega, by omega⟩).trans (by rw [hc1])
         refine Tr.rg hcx [] _ [] rfl rfl rfl ?_
         simp -implicitDefEqProofs (maxSteps := 2000000) (disch := first | omega | (simp only [go_sem, List.length_append, List.length_drop, List.length_take] <;> omega) | decide) only [go_sem, ↓reduceIte, Nat.reduceEqDiff, reduceCtorEq, Nat.reduceLT, Nat.reduceBEq, Nat.reduceAdd, Nat.reduceSub, Nat.reduceMul, Nat.reduceMod, x0, w0]
         refine hK40 _ ?_
         clear hK40 K40
         refine Tr.kp [5, 6, 9, 10, 12, 13, 14, 15, 16, 134] ?_
         simp only [pk_cons, pk_nil, ↓A_cons, ↓reduceIte, Nat.reduceEqDiff]
         refine Tr.condG fun KT KF hT hF => ?_
         simp only [ev_tmp, ev_const, ↓A_cons, ↓reduceIte, Nat.reduceEqDiff, reduceCtorEq, condG_bool, GB_true, GB_false, decide_eq_true_eq]
         refine hT ?_
         clear hT hF KT KF
         refine Tr.seqK fun K41 hK41 => ?_
         refine Tr.rg hcx [1000139, 1000140, 1000141] _ [] rfl rfl rfl ?_
         simp -implicitDefEqProofs (maxSteps := 2000000) (disch := first | omega | (simp only [go_sem, List.length_append, List.length_drop, List.length_take] <;> omega) | decide) only [go_sem, ↓reduceIte, Nat.reduceEqDiff, reduceCtorEq, Nat.reduceLT, Nat.reduceBEq, Nat.reduceAdd, Nat.reduceSub, Nat.reduceMul, Nat.reduceMod, x0, w0, e36]
         refine hK41 _ ?_
         clear hK41 K41
         refine Tr.kp [5, 6, 9, 10, 12, 13, 14, 15, 16, 20, 21, 22] ?_
         simp only [pk_cons, pk_nil, ↓A_cons, ↓reduceIte, Nat.reduceEqDiff]
         refine Tr.seqK fun K42 hK42 => ?_
         refine Tr.rg hcx [] [some 142, some 143, some 144, some 145, some 146, some 147, some 148, some 149, some 150, some 151, some 152, some 153, some 154, some 155, some 156, some 157, some 158, some 159] [] rfl rfl rfl ?_
         simp -implicitDefEqProofs (maxSteps := 2000000) (disch := first | omega | (simp only [go_sem, List.length_append, List.length_drop, List.length_take] <;> omega) | decide) only [go_sem, ↓reduceIte, Nat.reduceEqDiff, reduceCtorEq, Nat.reduceLT, Nat.reduceBEq, Nat.reduceAdd, Nat.reduceSub, Nat.reduceMul, Nat.reduceMod, x0, w0, hc2]
         refine hK42 _ ?_
         clear hK42 K42
         refine Tr.kp [5, 6, 9, 10, 12, 13, 14, 15, 16, 159] ?_
         simp only [pk_cons, pk_nil, ↓A_cons, ↓reduceIte, Nat.reduceEqDiff]
         refine Tr.condG fun KT KF hT hF => ?_
         simp only [ev_tmp, ev_const, ↓A_cons, ↓reduceIte, Nat.reduceEqDiff, reduceCtorEq, condG_bool, GB_true, GB_false, decide_eq_true_eq]
         refine hF ?_
         clear hT hF KT KF
         refine Tr.skip ?_
         refine hK22 _ ?_
         clear hK22 K22
         refine Tr.kp [5, 6, 9, 10, 12, 13, 14, 15, 16] ?_
         simp only [pk_cons, pk_nil, ↓A_cons, ↓reduceIte, Nat.reduceEqDiff]
         refine Tr.rg hcx [1000060] _ [] rfl rfl rfl ?_
         simp -implicitDefEqProofs (maxSteps := 2000000) (disch := first | omega | (simp only [go_sem, List.length_append, List.length_drop, List.length_take] <;> omega) | decide) only [go_sem, ↓reduceIte, Nat.reduceEqDiff, reduceCtorEq, Nat.reduceLT, Nat.reduceBEq, Nat.reduceAdd, Nat.reduceSub, Nat.reduceMul, Nat.reduceMod, x0, w0]
         refine ⟨i + 1, ⟨by omega, by first | omega | (simp only []; omega)⟩, ?_, rfl⟩
         (simp only [Le_nil, Le_cons, ↓A_cons, ↓reduceIte, Nat.reduceEqDiff, reduceCtorEq, CLe_refl, CLe_top, CLe_full, CLe_nil, CLe_own, and_true, true_and]; all_goals (repeat' first | exact CLe.refl _ | exact True.intro | (refine CLe_sln ?_; first | with_reducible rfl | (simp only [List.take_zero]; done) | (rfl; done)) | exact CLe_nI (by omega) | exact CLe_int (by omega) | exact CLe_inI (by omega) | exact CLe_nIi (by omega) | with_reducible apply And.intro))
        ·
         have hw0 := w0
         refine Tr.rg hcx [] _ [] rfl rfl rfl ?_
         simp -implicitDefEqProofs (maxSteps := 2000000) (disch := first | omega | (simp only [go_sem, List.length_append, List.length_drop, List.length_take] <;> omega) | decide) only [go_sem, ↓reduceIte, Nat.reduceEqDiff, reduceCtorEq, Nat.reduceLT, Nat.reduceBEq, Nat.reduceAdd, Nat.reduceSub, Nat.reduceMul, Nat.reduceMod, x0, w0]
         refine hK40 _ ?_
         clear hK40 K40
         refine Tr.kp [5, 6, 9, 10, 12, 13, 14, 15, 16, 134] ?_
         simp only [pk_cons, pk_nil, ↓A_cons, ↓reduceIte, Nat.reduceEqDiff]
         refine Tr.condG fun KT KF hT hF => ?_
         simp only [ev_tmp, ev_const, ↓A_cons, ↓reduceIte, Nat.reduceEqDiff, reduceCtorEq, condG_bool, GB_true, GB_false, decide_eq_true_eq]
         refine hF ?_
         clear hT hF KT KF
         refine Tr.skip ?_
         refine hK22 _ ?_
         clear hK22 K22
         refine Tr.kp [5, 6, 9, 10, 12, 13, 14, 15, 16] ?_
         simp only [pk_cons, pk_nil, ↓A_cons, ↓reduceIte, Nat.reduceEqDiff]
         refine Tr.rg hcx [1000060] _ [] rfl rfl rfl ?_
         simp -implicitDefEqProofs (maxSteps := 2000000) (disch := first | omega | (simp only [go_sem, List.length_append, List.length_drop, List.length_take] <;> omega) | decide) only [go_sem, ↓reduceIte, Nat.reduceEqDiff, reduceCtorEq, Nat.reduceLT, Nat.reduceBEq, Nat.reduceAdd, Nat.reduceSub, Nat.reduceMul, Nat.reduceMod, x0, w0]
         refine ⟨i + 1, ⟨by omega, by first | omega | (simp only []; omega)⟩, ?_, rfl⟩
         (simp only [Le_nil, Le_cons, ↓A_cons, ↓reduceIte, Nat.reduceEqDiff, reduceCtorEq, CLe_refl, CLe_top, CLe_full, CLe_nil, CLe_own, and_true, true_and]; all_goals (repeat' first | exact CLe.refl _ | exact True.intro | (refine CLe_sln ?_; first | with_reducible rfl | (simp only [List.take_zero]; done) | (rfl; done)) | exact CLe_nI (by omega) | exact CLe_int (by omega) | exact CLe_inI (by omega) | exact CLe_nIi (by omega) | with_reducible apply And.intro))
       ·
        have hx0 : seg us (pvN E i) (pvN E (i + 1)) = joinU (us.take (pvN E (i + 1))) := by
          obtain rfl : i = 0 := by omega
          rfl
        refine Tr.rg hcx [] _ [] rfl rfl rfl ?_
        simp -implicitDefEqProofs (maxSteps := 2000000) (disch := first | omega | (simp only [go_sem, List.length_append, List.length_drop, List.length_take] <;> omega) | decide) only [go_sem, ↓reduceIte, Nat.reduceEqDiff, reduceCtorEq, Nat.reduceLT, Nat.reduceBEq, Nat.reduceAdd, Nat.reduceSub, Nat.reduceMul, Nat.reduceMod, x0]
        refine hK38 _ ?_
        clear hK38 K38
        refine Tr.kp [5, 6, 9, 10, 12, 14, 15, 16, 17, 121] ?_
        simp only [pk_cons, pk_nil, ↓A_cons, ↓reduceIte, Nat.reduceEqDiff]
        refine Tr.condG fun KT KF hT hF => ?_
        simp only [ev_tmp, ev_const, ↓A_cons, ↓reduceIte, Nat.reduceEqDiff, reduceCtorEq, condG_bool, GB_true, GB_false, decide_eq_true_eq]
        refine hF ?_
        clear hT hF KT KF
        refine Tr.rg hcx [1000125] _ [] rfl rfl rfl ?_
        simp -implicitDefEqProofs (maxSteps := 2000000) (disch := first | omega | (simp only [go_sem, List.length_append, List.length_drop, List.length_take] <;> omega) | decide) only [go_sem, ↓reduceIte, Nat.reduceEqDiff, reduceCtorEq, Nat.reduceLT, Nat.reduceBEq, Nat.reduceAdd, Nat.reduceSub, Nat.reduceMul, Nat.reduceMod, x0, hx0]
        refine hK37 _ ?_
        clear hK37 K37
        refine Tr.kp [5, 6, 9, 10, 12, 14, 15, 16] ?_
        simp only [pk_cons, pk_nil, ↓A_cons, ↓reduceIte, Nat.reduceEqDiff]
        refine Tr.seqK fun K43 hK43 => ?_
        refine Tr.rg hcx [1000130] _ [] rfl rfl rfl ?_
        simp -implicitDefEqProofs (maxSteps := 2000000) (disch := first | omega | (simp only [go_sem, List.length_append, List.length_drop, List.length_take] <;> omega) | decide) only [go_sem, ↓reduceIte, Nat.reduceEqDiff, reduceCtorEq, Nat.reduceLT, Nat.reduceBEq, Nat.reduceAdd, Nat.reduceSub, Nat.reduceMul, Nat.reduceMod, x0, hge, int_nIT]
        refine hK43 _ ?_
        clear hK43 K43
        refine Tr.kp [5, 6, 9, 10, 12, 13, 14, 15, 16] ?_
        simp only [pk_cons, pk_nil, ↓A_cons, ↓reduceIte, Nat.reduceEqDiff]
        refine Tr.seqK fun K44 hK44 => ?_
        by_cases w0 : pvN E (i + 1) < us.length
        ·
         obtain ⟨hc1, hc2⟩ := cut_seg g (q := pvN E (i + 1)) (by omega) w0
         have e36 : pu 36 [.val (str (joinU us)), .val (nI (cntU (us.take (pvN E (i + 1)))))] = some (.tup [.val (str (joinU (us.take (pvN E (i + 1))))), .val (str (joinU (us.drop (pvN E (i + 1))))), .val (nI 0)]) := (h36 _ _ (by omega) ⟨by omega, by omega⟩).trans (by rw [hc1])
         refine Tr.rg hcx [] _ [] rfl rfl rfl ?_
         simp -implicitDefEqProofs (maxSteps := 2000000) (disch := first | omega | (simp only [go_sem, List.length_append, List.length_drop, List.length_take] <;> omega) | decide) only [go_sem, ↓reduceIte, Nat.reduceEqDiff, reduceCtorEq, Nat.reduceLT, Nat.reduceBEq, Nat.reduceAdd, Nat.reduceSub, Nat.reduceMul, Nat.reduceMod, x0, w0]
         refine hK44 _ ?_
         clear hK44 K44
         refine Tr.kp [5, 6, 9, 10, 12, 13, 14, 15, 16, 134] ?_
         simp only [pk_cons, pk_nil, ↓A_cons, ↓reduceIte, Nat.reduceEqDiff]
         refine Tr.condG fun KT KF hT hF => ?_
         simp only [ev_tmp, ev_const, ↓A_cons, ↓reduceIte, Nat.reduceEqDiff, reduceCtorEq, condG_bool, GB_true, GB_false, decide_eq_true_eq]
         refine hT ?_
         clear hT hF KT KF
         refine Tr.seqK fun K45 hK45 => ?_
         refine Tr.rg hcx [1000139, 1000140, 1000141] _ [] rfl rfl rfl ?_
         simp -implicitDefEqProofs (maxSteps := 2000000) (disch := first | omega | (simp only [go_sem, List.length_append, List.length_drop, List.length_take] <;> omega) | decide) only [go_sem, ↓reduceIte, Nat.reduceEqDiff, reduceCtorEq, Nat.reduceLT, Nat.reduceBEq, Nat.reduceAdd, Nat.reduceSub, Nat.reduceMul, Nat.reduceMod, x0, w0, e36]
         refine hK45 _ ?_
         clear hK45 K45
         refine Tr.kp [5, 6, 9, 10, 12, 13, 14, 15, 16, 20, 21, 22] ?_
         simp only [pk_cons, pk_nil, ↓A_cons, ↓reduceIte, Nat.reduceEqDiff]
         refine Tr.seqK fun K46 hK46 => ?_
         refine Tr.rg hcx [] [some 142, some 143, some 144, some 145, some 146, some 147, some 148, some 149, some 150, some 151, some 152, some 153, some 154, some 155, some 156, some 157, some 158, some 159] [] rfl rfl rfl ?_
         simp -implicitDefEqProofs (maxSteps := 2000000) (disch := first | omega | (simp only [go_sem, List.length_append, List.length_drop, List.length_take] <;> omega) | decide) only [go_sem, ↓reduceIte, Nat.reduceEqDiff, reduceCtorEq, Nat.reduceLT, Nat.reduceBEq, Nat.reduceAdd, Nat.reduceSub, Nat.reduceMul, Nat.reduceMod, x0, w0, hc2]
         refine hK46 _ ?_
         clear hK46 K46
         refine Tr.kp [5, 6, 9, 10, 12, 13, 14, 15, 16, 159] ?_
         simp only [pk_cons, pk_nil, ↓A_cons, ↓reduceIte, Nat.reduceEqDiff]
         refine Tr.condG fun KT KF hT hF => ?_
         simp only [ev_tmp, ev_const, ↓A_cons, ↓reduceIte, Nat.reduceEqDiff, reduceCtorEq, condG_bool, GB_true, GB_false, decide_eq_true_eq]
         refine hF ?_
         clear hT hF KT KF
         refine Tr.skip ?_
         refine hK22 _ ?_
         clear hK22 K22
         refine Tr.kp [5, 6, 9, 10, 12, 13, 14, 15, 16] ?_
         simp only [pk_cons, pk_nil, ↓A_cons, ↓reduceIte, Nat.reduceEqDiff]
         refine Tr.rg hcx [1000060] _ [] rfl rfl rfl ?_
         simp -implicitDefEqProofs (maxSteps := 2000000) (disch := first | omega | (simp only [go_sem, List.length_append, List.length_drop, List.length_take] <;> omega) | decide) only [go_sem, ↓reduceIte, Nat.reduceEqDiff, reduceCtorEq, Nat.reduceLT, Nat.reduceBEq, Nat.reduceAdd, Nat.reduceSub, Nat.reduceMul, Nat.reduceMod, x0, w0]
         refine ⟨i + 1, ⟨by omega, by first | omega | (simp only []; omega)⟩, ?_, rfl⟩
         (simp only [Le_nil, Le_cons, ↓A_cons, ↓reduceIte, Nat.reduceEqDiff, reduceCtorEq, CLe_refl, CLe_top, CLe_full, CLe_nil, CLe_own, and_true, true_and]; all_goals (repeat' first | exact CLe.refl _ | exact True.intro | (refine CLe_sln ?_; first | with_reducible rfl | (simp only [List.take_zero]; done) | (rfl; done)) | exact CLe_nI (by omega) | exact CLe_int (by omega) | exact CLe_inI (by omega) | exact CLe_nIi (by omega) | with_reducible apply And.intro))
        ·
         have hw0 := w0
         refine Tr.rg hcx [] _ [] rfl rfl rfl ?_
         simp -implicitDefEqProofs (maxSteps := 2000000) (disch := first | omega | (simp only [go_sem, List.length_append, List.length_drop, List.length_take] <;> omega) | decide) only [go_sem, ↓reduceIte, Nat.reduceEqDiff, reduceCtorEq, Nat.reduceLT, Nat.reduceBEq, Nat.reduceAdd, Nat.reduceSub, Nat.reduceMul, Nat.reduceMod, x0, w0]
         refine hK44 _ ?_
         clear hK44 K44
         refine Tr.kp [5, 6, 9, 10, 12, 13, 14, 15, 16, 134] ?_
         simp only [pk_cons, pk_nil, ↓A_cons, ↓reduceIte, Nat.reduceEqDiff]
         refine Tr.condG fun KT KF hT hF => ?_
         simp only [ev_tmp, ev_const, ↓A_cons, ↓reduceIte, Nat.reduceEqDiff, reduceCtorEq, condG_bool, GB_true, GB_false, decide_eq_true_eq]
         refine hF ?_
         clear hT hF KT KF
         refine Tr.skip ?_
         refine hK22 _ ?_
         clear hK22 K22
         refine Tr.kp [5, 6, 9, 10, 12, 13, 14, 15, 16] ?_
         simp only [pk_cons, pk_nil, ↓A_cons, ↓reduceIte, Nat.reduceEqDiff]
         refine Tr.rg hcx [1000060] _ [] rfl rfl rfl ?_
         simp -implicitDefEqProofs (maxSteps := 2000000) (disch := first | omega | (simp only [go_sem, List.length_append, List.length_drop, List.length_take] <;> omega) | decide) only [go_sem, ↓reduceIte, Nat.reduceEqDiff, reduceCtorEq, Nat.reduceLT, Nat.reduceBEq, Nat.reduceAdd, Nat.reduceSub, Nat.reduceMul, Nat.reduceMod, x0, w0]
         refine ⟨i + 1, ⟨by omega, by first | omega | (simp only []; omega)⟩, ?_, rfl⟩
         (simp only [Le_nil, Le_cons, ↓A_cons, ↓reduceIte, Nat.reduceEqDiff, reduceCtorEq, CLe_refl, CLe_top, CLe_full, CLe_nil, CLe_own, and_true, true_and]; all_goals (repeat' first | exact CLe.refl _ | exact True.intro | (refine CLe_sln ?_; first | with_reducible rfl | (simp only [List.take_zero]; done) | (rfl; done)) | exact CLe_nI (by omega) | exact CLe_int (by omega) | exact CLe_inI (by omega) | exact CLe_nIi (by omega) | with_reducible apply And.intro))
    ·
     clear hT hF KT KF
     obtain rfl : i = E.length := by omega
     refine Tr.exit ?_
     refine hK18 _ ?_
     clear hK20 K20 hK18 K18
     refine Tr.kp [5, 12, 14, 15] ?_
     simp only [pk_cons, pk_nil, ↓A_cons, ↓reduceIte, Nat.reduceEqDiff]
     refine Tr.seqK fun K47 hK47 => ?_
     refine Tr.rg hcx [1000171] [some 160, some 161, some 162, some 163, some 164, some 165, some 166, some 167, some 168, some 169, some 170, some 171, some 4] [] rfl rfl rfl ?_
     simp -implicitDefEqProofs (maxSteps := 2000000) (disch := first | omega | (simp only [go_sem, List.length_append, List.length_drop, List.length_take] <;> omega) | decide) only [go_sem, ↓reduceIte, Nat.reduceEqDiff, reduceCtorEq, Nat.reduceLT, Nat.reduceBEq, Nat.reduceAdd, Nat.reduceSub, Nat.reduceMul, Nat.reduceMod, hfin, List.take_length, cntU_joinU, h18]
     refine hK47 _ ?_
     clear hK47 K47
     refine Tr.kp [4] ?_
     simp only [pk_cons, pk_nil, ↓A_cons, ↓reduceIte, Nat.reduceEqDiff]
     refine Tr.ret ?_
     simp -implicitDefEqProofs (disch := first | omega | (simp only [go_sem, List.length_append, List.length_drop, List.length_take] <;> omega) | decide) only [go_sem, ↓reduceIte, Nat.reduceEqDiff, reduceCtorEq]
     all_goals (rfl)
end Go.Sx
