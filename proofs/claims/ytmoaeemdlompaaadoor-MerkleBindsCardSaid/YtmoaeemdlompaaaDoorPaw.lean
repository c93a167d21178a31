/-
  
-/
import Derived.Test.YtmoaeemdlompaaaDoorPav
import Derived.Test.YtmoaeemdlompaaaDoorPar
import Derived.Test.YtmoaeemdlompaaaDoorPap
set_option linter.unusedSimpArgs false
set_option linter.unusedVariables false
namespace Go.Sx
open Go.RowKit Go.Proofs
set_option maxRecDepth 100000
set_option maxHeartbeats 8000000
abbrev h16 (t : List UInt8) : Dig := ⟨(sha t).take 16, by rw [List.length_take, sha_len]; rfl⟩
def hitT (TS : List (List UInt8)) (i k : Nat) : Prop := ¬ gt TS i = gt TS k ∧ (h16 (gt TS i)).1 = (h16 (gt TS k)).1
def NoK (TS : List (List UInt8)) (i k : Nat) : Prop := ∀ q, q < k → ¬ hitT TS i q
def NoC (TS : List (List UInt8)) (i : Nat) : Prop := ∀ p, p < i → NoK TS p p
def ColT (TS : List (List UInt8)) : Prop := ∃ i k, i < TS.length ∧ k < i ∧ hitT TS i k
open Classical in
noncomputable def colB (TS : List (List UInt8)) : Bool := decide (ColT TS)
theorem colB_T {TS : List (List UInt8)} {i k : Nat} (hi : i < TS.length) (hk : k < i) (h : hitT TS i k) : colB TS = true := by
  classical exact decide_eq_true ⟨i, k, hi, hk, h⟩
theorem colB_F {TS : List (List UInt8)} (h : NoC TS TS.length) : colB TS = false := by
  classical exact decide_eq_false fun ⟨i, k, hi, hk, q⟩ => h i hi k hk q
theorem NoC_0 (TS : List (List UInt8)) : NoC TS 0 := fun p hp => by omega
theorem NoK_0 (TS : List (List UInt8)) (i : Nat) : NoK TS i 0 := fun p hp => by omega
theorem NoK_S {TS : List (List UInt8)} {i k : Nat} (h : NoK TS i k) (h2 : ¬ hitT TS i k) : NoK TS i (k + 1) := fun q hq => by
  by_cases e : q = k
  · rw [e]; exact h2
  · exact h q (by omega)
theorem NoC_S {TS : List (List UInt8)} {i j : Nat} (h : NoC TS i) (h2 : NoK TS i j) (hj : j = i) : NoC TS (i + 1) := fun p hp => by
  by_cases e : p = i
  · rw [e]; rw [hj] at h2; exact h2
  · exact h p (by omega)
theorem gt_all {l : List Leaf} (h : LZ l) (i : Nat) : (gt l i).1.length < 1000000 ∧ (gt l i).2.length < 1000000 := by
  by_cases hi : i < l.length
  · exact h.2 i hi
  · have : gt l i = ([], []) := by simp [gt, List.getD, List.getElem?_eq_none (show l.length ≤ i by omega)]; rfl
    rw [this]; decide
def TB (T : List (List UInt8)) : Prop := ∀ t ∈ T, t.length < 35184372088832
theorem TB.snoc {T : List (List UInt8)} {t : List UInt8} (h : TB T) (h2 : t.length < 35184372088832) : TB (T ++ [t]) := fun x hx => by
  rcases List.mem_append.1 hx with hx | hx
  · exact h x hx
  · rw [List.mem_singleton.1 hx]; exact h2
theorem row_tb {l : List Leaf} (hl : LZ l) (f : Nat) (S : List Dig) : ∀ d a b (st : TS), TB st.1 → TB (rowR l f S d a b st).2.1
  | 0, a, b, st, h => by
    unfold rowR; split
    · unfold sidR; split <;> exact h
    · have := gt_all hl (a - f)
      exact h.snoc (by have := inp_len2 3 _ _ this.1 this.2; omega)
  | d + 1, a, b, st, h => by
    unfold rowR; split
    · unfold sidR; split <;> exact h
    · split
      · have := gt_all hl (a - f)
        exact h.snoc (by have := inp_len2 3 _ _ this.1 this.2; omega)
      · have h1 := row_tb hl f S d a (a + halfT (b - a)) st h
        have h2 := row_tb hl f S d (a + halfT (b - a)) b _ h1
        exact h2.snoc (by have := inp_len2 4 _ _ (show (rowR l f S d a (a + halfT (b - a)) st).1.length < 1000000 by rw [rowR_len]; omega) (show (rowR l f S d (a + halfT (b - a)) b (rowR l f S d a (a + halfT (b - a)) st).2).1.length < 1000000 by rw [rowR_len]; omega); omega)
theorem wint_sm (n : Nat) (h : n ≤ 4096) : (wint ((n : Nat) : Int)).length < 1000000 := by
  have := wintn_len n (by omega); omega
theorem roo_tb {l : List Leaf} (hl : LZ l) (f : Nat) (S : List Dig) (n : Nat) (hn : n ≤ 4096) (st : TS) (h : TB st.1) : TB (rooR l f S n st).2.1 := by
  by_cases e : n = 0
  · rw [rooR_0 e]
    exact h.snoc (by have := inp_len1 4 _ (wint_sm n hn); omega)
  · rw [rooR_n e]
    exact (row_tb hl f S 12 0 n st h).snoc (by have := inp_len2 4 _ _ (wint_sm n hn) (show (rowR l f S 12 0 n st).1.length < 1000000 by rw [rowR_len]; omega); omega)
def BadC (f z : Int) (l : List Leaf) : Prop := z < 0 ∨ 4096 < z ∨ f < 0 ∨ z < f ∨ z - f < (l.length : Int)
instance (f z : Int) (l : List Leaf) : Decidable (BadC f z l) := by unfold BadC; infer_instance
def txA (a : List Leaf) : List (List UInt8) := (rooR a 0 [] a.length ([], 0, false)).2.1
def txB (f z : Int) (l : List Leaf) (S : List Dig) : List (List UInt8) := if BadC f z l then [] else (rooR l f.toNat S z.toNat ([], 0, false)).2.1
theorem txB_1 {f z : Int} {l : List Leaf} {S : List Dig} (h : BadC f z l) : txB f z l S = [] := if_pos h
theorem txB_2 {f z : Nat} {l : List Leaf} {S : List Dig} (h : ¬ BadC f z l) : txB f z l S = (rooR l f S z ([], 0, false)).2.1 := if_neg h
theorem TB.app {a b : List (List UInt8)} (h : TB a) (h2 : TB b) : TB (a ++ b) := fun x hx => (List.mem_append.1 hx).elim (h x) (h2 x)
theorem TB.nil : TB [] := fun x hx => absurd hx (List.not_mem_nil)
theorem last_dig (L : List Dig) (i : Nat) (h : L.length = i + 1) : List.map C.noR (List.drop (i * 16) (cl dC L)) = cl bC (gt L i).1 := by
  have e : gt L i = L[i]'(by omega) := by simp only [gt, List.getD]; rw [List.getElem?_eq_getElem (by omega)]; rfl
  rw [cl_drop, List.drop_eq_getElem_cons (by omega), List.drop_of_length_le (by omega), ← e, cl_noR, cl_cons, cl_nil, List.append_nil]; rfl
theorem map_next (TS : List (List UInt8)) (i : Nat) (h : i < TS.length) : (TS.take i).map h16 ++ [h16 (gt TS i)] = (TS.take (i + 1)).map h16 := by rw [take_snoc TS i h, List.map_append]; rfl
theorem map_gt (TS : List (List UInt8)) (i k : Nat) (h : k < i) (hi : i ≤ TS.length) : (gt ((TS.take i).map h16) k).1 = (h16 (gt TS k)).1 := by
  have e1 : gt ((TS.take i).map h16) k = ((TS.take i).map h16)[k]'(by rw [List.length_map, List.length_take]; omega) := by simp only [gt, List.getD]; rw [List.getElem?_eq_getElem (by rw [List.length_map, List.length_take]; omega)]; rfl
  have e2 : gt TS k = TS[k]'(by omega) := by simp only [gt, List.getD]; rw [List.getElem?_eq_getElem (by omega)]; rfl
  rw [e1, e2]; simp
theorem X_fc37 {p : Prop} (e : p := by intro KZ hZ; simp -implicitDefEqProofs (disch := first | omega | (simp only [go_sem, lA, lD, lT, hTl] <;> omega) | decide) only [go_sem, ↓reduceIte, Nat.reduceEqDiff, reduceCtorEq, Nat.reduceLT, Nat.reduceBEq, Nat.reduceAdd, int_nI', ep52, en52, ep53, en53, eq_self, decide_true, decide_false, not_true_eq_false, not_false_eq_true, List.replicate_zero, List.nil_append, b1, b2, b3, b4, b5, d1, d2, hy]; with_reducible exact hZ) : p := e
theorem Y_fc37 {p : Prop} (e : p := by intro KZ hZ; simp -implicitDefEqProofs (disch := first | omega | (simp only [go_sem, lA, lD, lT, hTl] <;> omega) | decide) only [go_sem, ↓reduceIte, Nat.reduceEqDiff, reduceCtorEq, Nat.reduceLT, Nat.reduceBEq, Nat.reduceAdd, int_nI', ep52, en52, ep53, en53, eq_self, decide_true, decide_false, not_true_eq_false, not_false_eq_true, List.replicate_zero, List.nil_append, b1, b2, b3, b4, b5, d1, d2, hy]; with_reducible refine And.intro ?_ hZ; first | exact rfl | decide) : p := e
theorem F_fc37 {p : Prop} (e : p := by simp -implicitDefEqProofs (disch := first | omega | (simp only [go_sem, lA, lD, lT, hTl] <;> omega) | decide) only [go_sem, ↓reduceIte, Nat.reduceEqDiff, reduceCtorEq]; all_goals (rw [hRT, hR])) : p := e
theorem fc37 {gl : Nat → C} {M : Nat} {pu : Nat → List C → Option C} {hp : Nat → List C → Hp → Option (C × Hp)} (hcx : CxOK (cxR gl M pu hp))  (hnr : ∀ (g : Nat) (xs : List C), noRefs 0 xs = false → pu g xs = none) (hn52 : ∀ xs : List C, (∃ b o, C.bp b o ∈ xs) → hp 52 xs [] = some (.top, [])) (hq52 : ∀ (pre suf : Hp) (l : List Leaf) (f : Nat) (S : List Dig) (n : Nat) (T : List (List UInt8)) (u : Nat) (sh : Bool), OkH pre → OkH suf → LZ l → f ≤ 5000 → S.length ≤ 1000000 → u ≤ S.length → T.length ≤ 800000 → n ≤ 4096 → hp 52 [.bp pre.length 0, sl eC .no l, .val (nI f), .val (nI n)] (pre ++ ([some [sl sC (.own 1) (T), sl dC .no S, .val (nI (u)), .val (.bool (sh))]] ++ suf)) = some (.agg (cl bC (rooR l f S n (T, u, sh)).1), pre ++ ([some [sl sC (.own 1) ((rooR l f S n (T, u, sh)).2.1), sl dC .no S, .val (nI ((rooR l f S n (T, u, sh)).2.2.1)), .val (.bool ((rooR l f S n (T, u, sh)).2.2.2))]] ++ suf))) (h64 : ∀ b : List UInt8, b.length < 35184372088832 → pu 64 [sl bC .no b] = some (.agg (cl bC ((sha b).take 16)))) (a : List Leaf) (f z : Int) (l : List Leaf) (S : List Dig) (ha : LZ a) (ha2 : a.length ≤ 4096) (hf : -9223372036854775808 ≤ f ∧ f ≤ 9223372036854775807) (hz : -9223372036854775808 ≤ z ∧ z ≤ 9223372036854775807) (hl : l.length ≤ 1000000) (hl2 : ∀ i, i < l.length → (gt l i).1.length < 1000000 ∧ (gt l i).2.length < 1000000) (hS : S.length ≤ 1000000) : FC Tryd.prog gl 37 [sl eC .no a, .agg [.val (.int .i64 f), .val (.int .i64 z), sl eC .no l, sl dC .no S]] [] (.val (.bool (colB (txA a ++ txB f z l S)))) [] := by
 replace hcx := hcx.reN (M := 112)
 refine FC.ofA (cx := cxR gl 112 pu hp) (rs := [.tmp 4]) rfl Tryd.func37 rfl rfl rfl (by simp only [List.length_cons, List.length_nil]; decide) (by simp only [go_sem]) ?_
 simp only [ini, go_sem]
 have b1 := True.intro
 have b2 := True.intro
 have b3 := True.intro
 have b4 := True.intro
 have b5 := True.intro
 have d1 := True.intro
 have d2 := True.intro
 have hy := True.intro
 have hTl := True.intro
 have en52 : ∀ x y : Nat, hp 52 [.bp 1 0, sl eC .no a, .val (nI x), .val (nI y)] [] = some (.top, []) := fun x y => hn52 _ ⟨1, 0, by simp⟩
 have ep52 : ∀ x y : Nat, pu 52 [.bp 1 0, sl eC .no a, .val (nI x), .val (nI y)] = none := fun x y => hnr 52 _ rfl
 have en53 : ∀ x y : Nat, hp 52 [.bp 2 0, sl eC .no l, .val (nI x), .val (nI y)] [] = some (.top, []) := fun x y => hn52 _ ⟨2, 0, by simp⟩
 have ep53 : ∀ x y : Nat, pu 52 [.bp 2 0, sl eC .no l, .val (nI x), .val (nI y)] = none := fun x y => hnr 52 _ rfl
 refine Tr.w hcx [] _ [none] rfl rfl rfl ?_ X_fc37
 refine Tr.w hcx [1000012] _ [none] rfl rfl rfl ?_ X_fc37
 refine Tr.bxc 1 0 (sl sC (.own 1) []) _ rfl rfl (CLe_sln rfl) rfl ?_
 refine Tr.bxc 1 1 (sl dC .no []) _ rfl rfl (CLe_sln rfl) rfl ?_
 have e52 := hq52 [some [.val (.int .i64 f), .val (.int .i64 z), sl eC .no l, sl dC .no S]] [] a 0 [] a.length [] 0 false (OkH.cons rfl OkH.nil) OkH.nil ha (by omega) (by simp) (by simp) (by simp) ha2
 have bT := roo_tb ha 0 [] a.length ha2 ([], 0, false) TB.nil
 have bl := rooR_bd a 0 [] a.length ([], 0, false)
 obtain ⟨XA, hXA⟩ : ∃ X, rooR a 0 [] a.length ([], 0, false) = X := ⟨_, rfl⟩
 rw [hXA] at e52 bT bl
 have hTA : txA a = XA.2.1 := by unfold txA; rw [hXA]
 have blA : XA.2.1.length ≤ 8192 := by have := bl.1; simp only [List.length_nil] at this; omega
 simp only [List.cons_append, List.nil_append, List.length_cons, List.length_nil, Nat.zero_add] at e52
 have hy := @e52
 refine Tr.w hcx [] _ [] rfl rfl rfl ?_ X_fc37
 have hy := True.intro
 refine Tr.w hcx [1000021] _ [none] rfl rfl rfl ?_ X_fc37
 refine Tr.k [3, 5, 6] ?_
 refine Tr.seqK fun K1 hK1 => ?_
 by_cases b1 : ((0 : Nat) : Int) ≤ z
 ·
  skip
  by_cases b2 : z ≤ ((4096 : Nat) : Int)
  ·
   skip
   by_cases b3 : ((0 : Nat) : Int) ≤ f
   ·
    skip
    by_cases b4 : f ≤ z
    ·
     skip
     by_cases b5 : ((l.length : Nat) : Int) ≤ z - f
     ·
      have hB : ¬ BadC f z l := fun q => by
        unfold BadC at q; omega
      refine Tr.bxc 2 0 (sl sC (.own 1) []) _ rfl rfl (CLe_sln rfl) rfl ?_
      refine Tr.w hcx [] [some 22, some 23, some 24, some 25, some 26, some 27, some 28, some 29, some 30, some 31, some 32, some 33, some 34, some 35, some 36, some 37, some 38, some 39, some 40, some 41, some 42, some 43, some 44, some 45, some 46, some 47, some 48, some 49, some 50, some 51, some 52] [] rfl rfl rfl ?_ X_fc37
      refine Tr.k [3, 5, 6, 52] ?_
      refine Tr.cT rfl ?_
      obtain ⟨z, rfl⟩ : ∃ n : Nat, z = (n : Int) := ⟨z.toNat, by omega⟩
      obtain ⟨f, rfl⟩ : ∃ n : Nat, f = (n : Int) := ⟨f.toNat, by omega⟩
      have lz : LZ l := ⟨by omega, hl2⟩
      have hTB := txB_2 (S := S) hB
      have f52 := hq52 [some [.val (nI f), .val (nI z), sl eC .no l, sl dC .no S], some [sl sC (.own 1) (XA.2.1), sl dC .no [], .val (nI (XA.2.2.1)), .val (.bool (XA.2.2.2))]] [] l f S z [] 0 false (OkH.cons rfl (OkH.cons rfl OkH.nil)) OkH.nil lz (by omega) hS (by omega) (by simp) (by omega)
      have bT2 := roo_tb lz f S z (by omega) ([], 0, false) TB.nil
      have bl2 := rooR_bd l f S z ([], 0, false)
      obtain ⟨XB, hXB⟩ : ∃ X, rooR l f S z ([], 0, false) = X := ⟨_, rfl⟩
      rw [hXB] at f52 bT2 bl2 hTB
      have blB : XB.2.1.length ≤ 8192 := by have := bl2.1; simp only [List.length_nil] at this; omega
      simp only [List.cons_append, List.nil_append, List.length_cons, List.length_nil, Nat.zero_add] at f52
      have hy := @f52
      refine Tr.v hcx [] _ [] rfl rfl rfl ?_ X_fc37
      refine hK1 _ ?_
      skip
      have hy := True.intro
      refine Tr.wD hcx hMOR [61, 66, 1000071] _ [] rfl rfl rfl rfl ?_ Y_fc37
      obtain ⟨TS, hTS⟩ : ∃ TS, XA.2.1 ++ XB.2.1 = TS := ⟨_, rfl⟩
      have hRT : txA a ++ txB f z l S = TS := by rw [hTA, hTB]; exact hTS
      have hTb : TB TS := by rw [← hTS]; exact TB.app bT bT2
      have hTl : TS.length ≤ 16384 := by rw [← hTS]; rw [List.length_append]; omega
      simp only [hTS]
      refine Tr.k [7] ?_
      refine Tr.m1 hcx [] ?_
      refine Tr.w hcx [] _ [] rfl rfl rfl ?_ X_fc37
      refine Tr.seqK fun K2 hK2 => ?_
      refine Tr.w hcx [] _ [] rfl rfl rfl ?_ X_fc37
      refine Tr.k [7, 8, 9] ?_
      refine Tr.blk ?_
      refine Tr.loopM hcx (α := Nat) (fun a => [(7, ?v7_1), (8, sl dC (.own 16) ((TS.take a).map h16)), (9, .val (nI a))]) (fun a => []) (fun a => a ≤ TS.length ∧ NoC TS a) (fun a => TS.length - a) (0) ⟨Nat.zero_le _, NoC_0 TS⟩ ?le_1 ?hh_1 ?bd_1
      case hh_1 => exact rfl
      case le_1 => exact LT
      rintro i hi
      refine Tr.seqK fun K3 hK3 => ?_
      refine Tr.w hcx [] _ [] rfl rfl rfl ?_ X_fc37
      refine Tr.cD rfl (fun hc75 => ?_) (fun hc75 => ?_)
      ·
       have hti : (gt TS i).length < 35184372088832 := hTb _ (gt_mem TS i hc75)
       have e64 := h64 (gt TS i) hti
       have hsl : ((sha (gt TS i)).take 16).length = 16 := (h16 (gt TS i)).2
       have hml : ((TS.take i).map h16).length = i := by rw [List.length_map, List.length_take]; omega
       refine Tr.skip ?_
       refine hK3 _ ?_
       refine Tr.seqK fun K4 hK4 => ?_
       refine Tr.blk ?_
       have hy := And.intro @e64 @hsl
       refine Tr.w hcx [78, 1000086] _ [] rfl rfl rfl ?_ X_fc37
       obtain ⟨L, hL⟩ : ∃ L, (TS.take i).map h16 ++ [h16 (gt TS i)] = L := ⟨_, rfl⟩
       have hLS : L = (TS.take (i + 1)).map h16 := by rw [← hL]; exact map_next TS i hc75
       have hLl : L.length = i + 1 := by rw [hLS, List.length_map, List.length_take]; omega
       simp only [hL]
       have hy := True.intro
       refine Tr.w hcx [] _ [] rfl rfl rfl ?_ X_fc37
       refine Tr.k [7, 8, 9, 10] ?_
       refine Tr.blk ?_
       refine Tr.loopM hcx (α := Nat) (fun a => [(7, ?v7_2), (8, ?v8_2), (9, ?v9_2), (10, .val (nI a))]) (fun a => []) (fun a => a ≤ i ∧ NoK TS i a) (fun a => i - a) (0) ⟨Nat.zero_le _, NoK_0 TS i⟩ ?le_2 ?hh_2 ?bd_2
       case hh_2 => exact rfl
       case le_2 => exact LT
       rintro j hj
       refine Tr.seqK fun K5 hK5 => ?_
       refine Tr.w hcx [] _ [] rfl rfl rfl ?_ X_fc37
       refine Tr.cD rfl (fun hc89 => ?_) (fun hc89 => ?_)
       ·
        have hq1 : (gt L i).1.length = 16 := (gt L i).2
        have hq2 : (gt L j).1.length = 16 := (gt L j).2
        have hdr := last_dig L i hLl
        have g1 : (gt L i).1 = (h16 (gt TS i)).1 := by rw [hLS]; exact map_gt TS (i + 1) i (by omega) (by omega)
        have g2 : (gt L j).1 = (h16 (gt TS j)).1 := by rw [hLS]; exact map_gt TS (i + 1) j (by omega) (by omega)
        refine Tr.skip ?_
        refine hK5 _ ?_
        refine Tr.k [7, 8, 9, 10] ?_
        refine Tr.seqK fun K6 hK6 => ?_
        refine Tr.blk ?_
        by_cases d1 : gt TS i = gt TS j
        ·
         have hnh : ¬ hitT TS i j := fun q => q.1 d1
         have hy := And.intro @eq23 @hdr
         refine Tr.wD hcx hMOR [] [some 92, some 93, some 94, some 95, some 96, some 97, some 98, some 99, some 100, some 101, some 102, some 103, some 104, some 105, some 106, some 107, some 108, some 109, some 110, some 111] [] rfl rfl rfl rfl ?_ Y_fc37
         refine Tr.cF rfl ?_
         refine Tr.skip ?_
         refine hK6 _ ?_
         refine Tr.k [7, 8, 9, 10] ?_
         have hy := True.intro
         refine Tr.v hcx [1000091] _ [] rfl rfl rfl ?_ X_fc37
         first
         | ((refine ⟨[], ⟨by decide, by decide, by decide⟩, j + 1, ⟨⟨by omega, NoK_S hj.2 hnh⟩, O1⟩, ?_, by simp only [mvH_eq, mvHa_nil, mvHa_cons, hget_0, hget_S, Option.map_some, Option.map_none, mvCs_cl, mvCs_f, mvCs_nil, mvCs_cons, mvC_val, mvC_top, mvC_sl, mvC_gv, mvC_sv, mvC_bp, mvC_agg, mvC_kp, mvGv_some, mvGv_none, mvSv_some, mvSv_none, mvBp_some, mvBp_none, loc_nil, loc_cons, ↓reduceIte, Nat.reduceEqDiff, reduceCtorEq, Nat.reduceAdd, Nat.zero_add, Nat.one_ne_zero, Nat.zero_ne_one, mvC_fn, mvC_bt, mvBt_some, mvBt_none, mvC_mp, mvMp_some, mvMp_none] <;> rfl⟩); (simp only [Le_nil, Le_cons, ↓A_cons, CLe_refl, CLe_top, CLe_full, CLe_nil, CLe_own, and_true, true_and, mvH_eq, mvHa_nil, mvHa_cons, hget_0, hget_S, Option.map_some, Option.map_none, mvCs_cl, mvCs_f, mvCs_nil, mvCs_cons, mvC_val, mvC_top, mvC_sl, mvC_gv, mvC_sv, mvC_bp, mvC_agg, mvC_kp, mvGv_some, mvGv_none, mvSv_some, mvSv_none, mvBp_some, mvBp_none, loc_nil, loc_cons, ↓reduceIte, Nat.reduceEqDiff, reduceCtorEq, Nat.reduceAdd, Nat.zero_add, Nat.one_ne_zero, Nat.zero_ne_one, mvC_fn, mvC_bt, mvBt_some, mvBt_none, mvC_mp, mvMp_some, mvMp_none]; all_goals (repeat' first | exact CLe.refl _ | exact True.intro | (with_reducible refine And.intro ?_ ?_))); (all_goals exact CLe.refl _); (done))
        skip
        by_cases d2 : (gt L i).1 = (gt L j).1
        ·
         have hh : hitT TS i j := ⟨d1, by rw [← g1, ← g2]; exact d2⟩
         have hy := And.intro @eq23 @hdr
         refine Tr.wD hcx hMOR [] [some 92, some 93, some 94, some 95, some 96, some 97, some 98, some 99, some 100, some 101, some 102, some 103, some 104, some 105, some 106, some 107, some 108, some 109, some 110, some 111] [] rfl rfl rfl rfl ?_ Y_fc37
         refine Tr.cT rfl ?_
         have hR : colB TS = true := colB_T hc75 hc89 hh
         have hy := True.intro
         refine Tr.w hcx [] _ [] rfl rfl rfl ?_ X_fc37
         exact Tr.ret F_fc37
        have hnh : ¬ hitT TS i j := fun q => d2 (by rw [g1, g2]; exact q.2)
        have hy := And.intro @eq23 @hdr
        refine Tr.wD hcx hMOR [] [some 92, some 93, some 94, some 95, some 96, some 97, some 98, some 99, some 100, some 101, some 102, some 103, some 104, some 105, some 106, some 107, some 108, some 109, some 110, some 111] [] rfl rfl rfl rfl ?_ Y_fc37
        refine Tr.cF rfl ?_
        refine Tr.skip ?_
        refine hK6 _ ?_
        refine Tr.k [7, 8, 9, 10] ?_
        have hy := True.intro
        refine Tr.v hcx [1000091] _ [] rfl rfl rfl ?_ X_fc37
        first
        | ((refine ⟨[], ⟨by decide, by decide, by decide⟩, j + 1, ⟨⟨by omega, NoK_S hj.2 hnh⟩, O1⟩, ?_, by simp only [mvH_eq, mvHa_nil, mvHa_cons, hget_0, hget_S, Option.map_some, Option.map_none, mvCs_cl, mvCs_f, mvCs_nil, mvCs_cons, mvC_val, mvC_top, mvC_sl, mvC_gv, mvC_sv, mvC_bp, mvC_agg, mvC_kp, mvGv_some, mvGv_none, mvSv_some, mvSv_none, mvBp_some, mvBp_none, loc_nil, loc_cons, ↓reduceIte, Nat.reduceEqDiff, reduceCtorEq, Nat.reduceAdd, Nat.zero_add, Nat.one_ne_zero, Nat.zero_ne_one, mvC_fn, mvC_bt, mvBt_some, mvBt_none, mvC_mp, mvMp_some, mvMp_none] <;> rfl⟩); (simp only [Le_nil, Le_cons, ↓A_cons, CLe_refl, CLe_top, CLe_full, CLe_nil, CLe_own, and_true, true_and, mvH_eq, mvHa_nil, mvHa_cons, hget_0, hget_S, Option.map_some, Option.map_none, mvCs_cl, mvCs_f, mvCs_nil, mvCs_cons, mvC_val, mvC_top, mvC_sl, mvC_gv, mvC_sv, mvC_bp, mvC_agg, mvC_kp, mvGv_some, mvGv_none, mvSv_some, mvSv_none, mvBp_some, mvBp_none, loc_nil, loc_cons, ↓reduceIte, Nat.reduceEqDiff, reduceCtorEq, Nat.reduceAdd, Nat.zero_add, Nat.one_ne_zero, Nat.zero_ne_one, mvC_fn, mvC_bt, mvBt_some, mvBt_none, mvC_mp, mvMp_some, mvMp_none]; all_goals (repeat' first | exact CLe.refl _ | exact True.intro | (with_reducible refine And.intro ?_ ?_))); (all_goals exact CLe.refl _); (done))
       refine Tr.exit ?_
       refine hK4 _ ?_
       refine Tr.v hcx [1000077] _ [] rfl rfl rfl ?_ X_fc37
       first
       | ((refine ⟨[], ⟨by decide, by decide, by decide⟩, i + 1, ⟨⟨by omega, NoC_S hi.2 hj.2 (by omega)⟩, O1⟩, ?_, by simp only [mvH_eq, mvHa_nil, mvHa_cons, hget_0, hget_S, Option.map_some, Option.map_none, mvCs_cl, mvCs_f, mvCs_nil, mvCs_cons, mvC_val, mvC_top, mvC_sl, mvC_gv, mvC_sv, mvC_bp, mvC_agg, mvC_kp, mvGv_some, mvGv_none, mvSv_some, mvSv_none, mvBp_some, mvBp_none, loc_nil, loc_cons, ↓reduceIte, Nat.reduceEqDiff, reduceCtorEq, Nat.reduceAdd, Nat.zero_add, Nat.one_ne_zero, Nat.zero_ne_one, mvC_fn, mvC_bt, mvBt_some, mvBt_none, mvC_mp, mvMp_some, mvMp_none] <;> rfl⟩); (simp only [Le_nil, Le_cons, ↓A_cons, CLe_refl, CLe_top, CLe_full, CLe_nil, CLe_own, and_true, true_and, mvH_eq, mvHa_nil, mvHa_cons, hget_0, hget_S, Option.map_some, Option.map_none, mvCs_cl, mvCs_f, mvCs_nil, mvCs_cons, mvC_val, mvC_top, mvC_sl, mvC_gv, mvC_sv, mvC_bp, mvC_agg, mvC_kp, mvGv_some, mvGv_none, mvSv_some, mvSv_none, mvBp_some, mvBp_none, loc_nil, loc_cons, ↓reduceIte, Nat.reduceEqDiff, reduceCtorEq, Nat.reduceAdd, Nat.zero_add, Nat.one_ne_zero, Nat.zero_ne_one, mvC_fn, mvC_bt, mvBt_some, mvBt_none, mvC_mp, mvMp_some, mvMp_none]; all_goals (repeat' first | exact CLe.refl _ | exact True.intro | (with_reducible refine And.intro ?_ ?_))); (all_goals (refine CLe_sl ?_; exact hLS)); (done))
      refine Tr.exit ?_
      refine hK2 _ ?_
      have hR : colB TS = false := colB_F (by rw [← show i = TS.length by omega]; exact hi.2)
      refine Tr.w hcx [] _ [] rfl rfl rfl ?_ X_fc37
      exact Tr.ret F_fc37
     have hB : BadC f z l := Or.inr (Or.inr (Or.inr (Or.inr (by omega))))
     refine Tr.bxc 2 0 (sl sC (.own 1) []) _ rfl rfl (CLe_sln rfl) rfl ?_
     refine Tr.w hcx [] [some 22, some 23, some 24, some 25, some 26, some 27, some 28, some 29, some 30, some 31, some 32, some 33, some 34, some 35, some 36, some 37, some 38, some 39, some 40, some 41, some 42, some 43, some 44, some 45, some 46, some 47, some 48, some 49, some 50, some 51, some 52] [] rfl rfl rfl ?_ X_fc37
     refine Tr.k [3, 5, 6, 52] ?_
     refine Tr.cF rfl ?_
     refine Tr.skip ?_
     refine hK1 _ ?_
     have hTB := txB_1 (S := S) hB
     refine Tr.wD hcx hMOR [61, 66, 1000071] _ [] rfl rfl rfl rfl ?_ Y_fc37
     obtain ⟨TS, hTS⟩ : ∃ TS, XA.2.1 = TS := ⟨_, rfl⟩
     have hRT : txA a ++ txB f z l S = TS := by rw [hTA, hTB]; rw [List.append_nil]; exact hTS
     have hTb : TB TS := by rw [← hTS]; exact bT
     have hTl : TS.length ≤ 16384 := by rw [← hTS]; omega
     simp only [hTS]
     refine Tr.k [7] ?_
     refine Tr.m1 hcx [] ?_
     refine Tr.w hcx [] _ [] rfl rfl rfl ?_ X_fc37
     refine Tr.seqK fun K7 hK7 => ?_
     refine Tr.w hcx [] _ [] rfl rfl rfl ?_ X_fc37
     refine Tr.k [7, 8, 9] ?_
     refine Tr.blk ?_
     refine Tr.loopM hcx (α := Nat) (fun a => [(7, ?v7_3), (8, sl dC (.own 16) ((TS.take a).map h16)), (9, .val (nI a))]) (fun a => []) (fun a => a ≤ TS.length ∧ NoC TS a) (fun a => TS.length - a) (0) ⟨Nat.zero_le _, NoC_0 TS⟩ ?le_3 ?hh_3 ?bd_3
     case hh_3 => exact rfl
     case le_3 => exact LT
     rintro i hi
     refine Tr.seqK fun K8 hK8 => ?_
     refine Tr.w hcx [] _ [] rfl rfl rfl ?_ X_fc37
     refine Tr.cD rfl (fun hc75 => ?_) (fun hc75 => ?_)
     ·
      have hti : (gt TS i).length < 35184372088832 := hTb _ (gt_mem TS i hc75)
      have e64 := h64 (gt TS i) hti
      have hsl : ((sha (gt TS i)).take 16).length = 16 := (h16 (gt TS i)).2
      have hml : ((TS.take i).map h16).length = i := by rw [List.length_map, List.length_take]; omega
      refine Tr.skip ?_
      refine hK8 _ ?_
      refine Tr.seqK fun K9 hK9 => ?_
      refine Tr.blk ?_
      have hy := And.intro @e64 @hsl
      refine Tr.w hcx [78, 1000086] _ [] rfl rfl rfl ?_ X_fc37
      obtain ⟨L, hL⟩ : ∃ L, (TS.take i).map h16 ++ [h16 (gt TS i)] = L := ⟨_, rfl⟩
      have hLS : L = (TS.take (i + 1)).map h16 := by rw [← hL]; exact map_next TS i hc75
      have hLl : L.length = i + 1 := by rw [hLS, List.length_map, List.length_take]; omega
      simp only [hL]
      have hy := True.intro
      refine Tr.w hcx [] _ [] rfl rfl rfl ?_ X_fc37
      refine Tr.k [7, 8, 9, 10] ?_
      refine Tr.blk ?_
      refine Tr.loopM hcx (α := Nat) (fun a => [(7, ?v7_4), (8, ?v8_4), (9, ?v9_4), (10, .val (nI a))]) (fun a => []) (fun a => a ≤ i ∧ NoK TS i a) (fun a => i - a) (0) ⟨Nat.zero_le _, NoK_0 TS i⟩ ?le_4 ?hh_4 ?bd_4
      case hh_4 => exact rfl
      case le_4 => exact LT
      rintro j hj
      refine Tr.seqK fun K10 hK10 => ?_
      refine Tr.w hcx [] _ [] rfl rfl rfl ?_ X_fc37
      refine Tr.cD rfl (fun hc89 => ?_) (fun hc89 => ?_)
      ·
       have hq1 : (gt L i).1.length = 16 := (gt L i).2
       have hq2 : (gt L j).1.length = 16 := (gt L j).2
       have hdr := last_dig L i hLl
       have g1 : (gt L i).1 = (h16 (gt TS i)).1 := by rw [hLS]; exact map_gt TS (i + 1) i (by omega) (by omega)
       have g2 : (gt L j).1 = (h16 (gt TS j)).1 := by rw [hLS]; exact map_gt TS (i + 1) j (by omega) (by omega)
       refine Tr.skip ?_
       refine hK10 _ ?_
       refine Tr.k [7, 8, 9, 10] ?_
       refine Tr.seqK fun K11 hK11 => ?_
       refine Tr.blk ?_
       by_cases d1 : gt TS i = gt TS j
       ·
        have hnh : ¬ hitT TS i j := fun q => q.1 d1
        have hy := And.intro @eq23 @hdr
        refine Tr.wD hcx hMOR [] [some 92, some 93, some 94, some 95, some 96, some 97, some 98, some 99, some 100, some 101, some 102, some 103, some 104, some 105, some 106, some 107, some 108, some 109, some 110, some 111] [] rfl rfl rfl rfl ?_ Y_fc37
        refine Tr.cF rfl ?_
        refine Tr.skip ?_
        refine hK11 _ ?_
        refine Tr.k [7, 8, 9, 10] ?_
        have hy := True.intro
        refine Tr.v hcx [1000091] _ [] rfl rfl rfl ?_ X_fc37
        first
        | ((refine ⟨[], ⟨by decide, by decide, by decide⟩, j + 1, ⟨⟨by omega, NoK_S hj.2 hnh⟩, O1⟩, ?_, by simp only [mvH_eq, mvHa_nil, mvHa_cons, hget_0, hget_S, Option.map_some, Option.map_none, mvCs_cl, mvCs_f, mvCs_nil, mvCs_cons, mvC_val, mvC_top, mvC_sl, mvC_gv, mvC_sv, mvC_bp, mvC_agg, mvC_kp, mvGv_some, mvGv_none, mvSv_some, mvSv_none, mvBp_some, mvBp_none, loc_nil, loc_cons, ↓reduceIte, Nat.reduceEqDiff, reduceCtorEq, Nat.reduceAdd, Nat.zero_add, Nat.one_ne_zero, Nat.zero_ne_one, mvC_fn, mvC_bt, mvBt_some, mvBt_none, mvC_mp, mvMp_some, mvMp_none] <;> rfl⟩); (simp only [Le_nil, Le_cons, ↓A_cons, CLe_refl, CLe_top, CLe_full, CLe_nil, CLe_own, and_true, true_and, mvH_eq, mvHa_nil, mvHa_cons, hget_0, hget_S, Option.map_some, Option.map_none, mvCs_cl, mvCs_f, mvCs_nil, mvCs_cons, mvC_val, mvC_top, mvC_sl, mvC_gv, mvC_sv, mvC_bp, mvC_agg, mvC_kp, mvGv_some, mvGv_none, mvSv_some, mvSv_none, mvBp_some, mvBp_none, loc_nil, loc_cons, ↓reduceIte, Nat.reduceEqDiff, reduceCtorEq, Nat.reduceAdd, Nat.zero_add, Nat.one_ne_zero, Nat.zero_ne_one, mvC_fn, mvC_bt, mvBt_some, mvBt_none, mvC_mp, mvMp_some, mvMp_none]; all_goals (repeat' first | exact CLe.refl _ | exact True.intro | (with_reducible refine And.intro ?_ ?_))); (all_goals exact CLe.refl _); (done))
       skip
       by_cases d2 : (gt L i).1 = (gt L j).1
       ·
        have hh : hitT TS i j := ⟨d1, by rw [← g1, ← g2]; exact d2⟩
        have hy := And.intro @eq23 @hdr
        refine Tr.wD hcx hMOR [] [some 92, some 93, some 94, some 95, some 96, some 97, some 98, some 99, some 100, some 101, some 102, some 103, some 104, some 105, some 106, some 107, some 108, some 109, some 110, some 111] [] rfl rfl rfl rfl ?_ Y_fc37
        refine Tr.cT rfl ?_
        have hR : colB TS = true := colB_T hc75 hc89 hh
        have hy := True.intro
        refine Tr.w hcx [] _ [] rfl rfl rfl ?_ X_fc37
        exact Tr.ret F_fc37
       have hnh : ¬ hitT TS i j := fun q => d2 (by rw [g1, g2]; exact q.2)
       have hy := And.intro @eq23 @hdr
       refine Tr.wD hcx hMOR [] [some 92, some 93, some 94, some 95, some 96, some 97, some 98, some 99, some 100, some 101, some 102, some 103, some 104, some 105, some 106, some 107, some 108, some 109, some 110, some 111] [] rfl rfl rfl rfl ?_ Y_fc37
       refine Tr.cF rfl ?_
       refine Tr.skip ?_
       refine hK11 _ ?_
       refine Tr.k [7, 8, 9, 10] ?_
       have hy := True.intro
       refine Tr.v hcx [1000091] _ [] rfl rfl rfl ?_ X_fc37
       first
       | ((refine ⟨[], ⟨by decide, by decide, by decide⟩, j + 1, ⟨⟨by omega, NoK_S hj.2 hnh⟩, O1⟩, ?_, by simp only [mvH_eq, mvHa_nil, mvHa_cons, hget_0, hget_S, Option.map_some, Option.map_none, mvCs_cl, mvCs_f, mvCs_nil, mvCs_cons, mvC_val, mvC_top, mvC_sl, mvC_gv, mvC_sv, mvC_bp, mvC_agg, mvC_kp, mvGv_some, mvGv_none, mvSv_some, mvSv_none, mvBp_some, mvBp_none, loc_nil, loc_cons, ↓reduceIte, Nat.reduceEqDiff, reduceCtorEq, Nat.reduceAdd, Nat.zero_add, Nat.one_ne_zero, Nat.zero_ne_one, mvC_fn, mvC_bt, mvBt_some, mvBt_none, mvC_mp, mvMp_some, mvMp_none] <;> rfl⟩); (simp only [Le_nil, Le_cons, ↓A_cons, CLe_refl, CLe_top, CLe_full, CLe_nil, CLe_own, and_true, true_and, mvH_eq, mvHa_nil, mvHa_cons, hget_0, hget_S, Option.map_some, Option.map_none, mvCs_cl, mvCs_f, mvCs_nil, mvCs_cons, mvC_val, mvC_top, mvC_sl, mvC_gv, mvC_sv, mvC_bp, mvC_agg, mvC_kp, mvGv_some, mvGv_none, mvSv_some, mvSv_none, mvBp_some, mvBp_none, loc_nil, loc_cons, ↓reduceIte, Nat.reduceEqDiff, reduceCtorEq, Nat.reduceAdd, Nat.zero_add, Nat.one_ne_zero, Nat.zero_ne_one, mvC_fn, mvC_bt, mvBt_some, mvBt_none, mvC_mp, mvMp_some, mvMp_none]; all_goals (repeat' first | exact CLe.refl _ | exact True.intro | (with_reducible refine And.intro ?_ ?_))); (all_goals exact CLe.refl _); (done))
      refine Tr.exit ?_
      refine hK9 _ ?_
      refine Tr.v hcx [1000077] _ [] rfl rfl rfl ?_ X_fc37
      first
      | ((refine ⟨[], ⟨by decide, by decide, by decide⟩, i + 1, ⟨⟨by omega, NoC_S hi.2 hj.2 (by omega)⟩, O1⟩, ?_, by simp only [mvH_eq, mvHa_nil, mvHa_cons, hget_0, hget_S, Option.map_some, Option.map_none, mvCs_cl, mvCs_f, mvCs_nil, mvCs_cons, mvC_val, mvC_top, mvC_sl, mvC_gv, mvC_sv, mvC_bp, mvC_agg, mvC_kp, mvGv_some, mvGv_none, mvSv_some, mvSv_none, mvBp_some, mvBp_none, loc_nil, loc_cons, ↓reduceIte, Nat.reduceEqDiff, reduceCtorEq, Nat.reduceAdd, Nat.zero_add, Nat.one_ne_zero, Nat.zero_ne_one, mvC_fn, mvC_bt, mvBt_some, mvBt_none, mvC_mp, mvMp_some, mvMp_none] <;> rfl⟩); (simp only [Le_nil, Le_cons, ↓A_cons, CLe_refl, CLe_top, CLe_full, CLe_nil, CLe_own, and_true, true_and, mvH_eq, mvHa_nil, mvHa_cons, hget_0, hget_S, Option.map_some, Option.map_none, mvCs_cl, mvCs_f, mvCs_nil, mvCs_cons, mvC_val, mvC_top, mvC_sl, mvC_gv, mvC_sv, mvC_bp, mvC_agg, mvC_kp, mvGv_some, mvGv_none, mvSv_some, mvSv_none, mvBp_some, mvBp_none, loc_nil, loc_cons, ↓reduceIte, Nat.reduceEqDiff, reduceCtorEq, Nat.reduceAdd, Nat.zero_add, Nat.one_ne_zero, Nat.zero_ne_one, mvC_fn, mvC_bt, mvBt_some, mvBt_none, mvC_mp, mvMp_some, mvMp_none]; all_goals (repeat' first | exact CLe.refl _ | exact True.intro | (with_reducible refine And.intro ?_ ?_))); (all_goals (refine CLe_sl ?_; exact hLS)); (done))
     refine Tr.exit ?_
     refine hK7 _ ?_
     have hR : colB TS = false := colB_F (by rw [← show i = TS.length by omega]; exact hi.2)
     refine Tr.w hcx [] _ [] rfl rfl rfl ?_ X_fc37
     exact Tr.ret F_fc37
    have hB : BadC f z l := Or.inr (Or.inr (Or.inr (Or.inl (by omega))))
    refine Tr.bxc 2 0 (sl sC (.own 1) []) _ rfl rfl (CLe_sln rfl) rfl ?_
    refine Tr.w hcx [] [some 22, some 23, some 24, some 25, some 26, some 27, some 28, some 29, some 30, some 31, some 32, some 33, some 34, some 35, some 36, some 37, some 38, some 39, some 40, some 41, some 42, some 43, some 44, some 45, some 46, some 47, some 48, some 49, some 50, some 51, some 52] [] rfl rfl rfl ?_ X_fc37
    refine Tr.k [3, 5, 6, 52] ?_
    refine Tr.cF rfl ?_
    refine Tr.skip ?_
    refine hK1 _ ?_
    have hTB := txB_1 (S := S) hB
    refine Tr.wD hcx hMOR [61, 66, 1000071] _ [] rfl rfl rfl rfl ?_ Y_fc37
    obtain ⟨TS, hTS⟩ : ∃ TS, XA.2.1 = TS := ⟨_, rfl⟩
    have hRT : txA a ++ txB f z l S = TS := by rw [hTA, hTB]; rw [List.append_nil]; exact hTS
    have hTb : TB TS := by rw [← hTS]; exact bT
    have hTl : TS.length ≤ 16384 := by rw [← hTS]; omega
    simp only [hTS]
    refine Tr.k [7] ?_
    refine Tr.m1 hcx [] ?_
    refine Tr.w hcx [] _ [] rfl rfl rfl ?_ X_fc37
    refine Tr.seqK fun K12 hK12 => ?_
    refine Tr.w hcx [] _ [] rfl rfl rfl ?_ X_fc37
    refine Tr.k [7, 8, 9] ?_
    refine Tr.blk ?_
    refine Tr.loopM hcx (α := Nat) (fun a => [(7, ?v7_5), (8, sl dC (.own 16) ((TS.take a).map h16)), (9, .val (nI a))]) (fun a => []) (fun a => a ≤ TS.length ∧ NoC TS a) (fun a => TS.length - a) (0) ⟨Nat.zero_le _, NoC_0 TS⟩ ?le_5 ?hh_5 ?bd_5
    case hh_5 => exact rfl
    case le_5 => exact LT
    rintro i hi
    refine Tr.seqK fun K13 hK13 => ?_
    refine Tr.w hcx [] _ [] rfl rfl rfl ?_ X_fc37
    refine Tr.cD rfl (fun hc75 => ?_) (fun hc75 => ?_)
    ·
     have hti : (gt TS i).length < 35184372088832 := hTb _ (gt_mem TS i hc75)
     have e64 := h64 (gt TS i) hti
     have hsl : ((sha (gt TS i)).take 16).length = 16 := (h16 (gt TS i)).2
     have hml : ((TS.take i).map h16).length = i := by rw [List.length_map, List.length_take]; omega
     refine Tr.skip ?_
     refine hK13 _ ?_
     refine Tr.seqK fun K14 hK14 => ?_
     refine Tr.blk ?_
     have hy := And.intro @e64 @hsl
     refine Tr.w hcx [78, 1000086] _ [] rfl rfl rfl ?_ X_fc37
     obtain ⟨L, hL⟩ : ∃ L, (TS.take i).map h16 ++ [h16 (gt TS i)] = L := ⟨_, rfl⟩
     have hLS : L = (TS.take (i + 1)).map h16 := by rw [← hL]; exact map_next TS i hc75
     have hLl : L.length = i + 1 := by rw [hLS, List.length_map, List.length_take]; omega
     simp only [hL]
     have hy := True.intro
     refine Tr.w hcx [] _ [] rfl rfl rfl ?_ X_fc37
     refine Tr.k [7, 8, 9, 10] ?_
     refine Tr.blk ?_
     refine Tr.loopM hcx (α := Nat) (fun a => [(7, ?v7_6), (8, ?v8_6), (9, ?v9_6), (10, .val (nI a))]) (fun a => []) (fun a => a ≤ i ∧ NoK TS i a) (fun a => i - a) (0) ⟨Nat.zero_le _, NoK_0 TS i⟩ ?le_6 ?hh_6 ?bd_6
     case hh_6 => exact rfl
     case le_6 => exact LT
     rintro j hj
     refine Tr.seqK fun K15 hK15 => ?_
     refine Tr.w hcx [] _ [] rfl rfl rfl ?_ X_fc37
     refine Tr.cD rfl (fun hc89 => ?_) (fun hc89 => ?_)
     ·
      have hq1 : (gt L i).1.length = 16 := (gt L i).2
      have hq2 : (gt L j).1.length = 16 := (gt L j).2
      have hdr := last_dig L i hLl
      have g1 : (gt L i).1 = (h16 (gt TS i)).1 := by rw [hLS]; exact map_gt TS (i + 1) i (by omega) (by omega)
      have g2 : (gt L j).1 = (h16 (gt TS j)).1 := by rw [hLS]; exact map_gt TS (i + 1) j (by omega) (by omega)
      refine Tr.skip ?_
      refine hK15 _ ?_
      refine Tr.k [7, 8, 9, 10] ?_
      refine Tr.seqK fun K16 hK16 => ?_
      refine Tr.blk ?_
      by_cases d1 : gt TS i = gt TS j
      ·
       have hnh : ¬ hitT TS i j := fun q => q.1 d1
       have hy := And.intro @eq23 @hdr
       refine Tr.wD hcx hMOR [] [some 92, some 93, some 94, some 95, some 96, some 97, some 98, some 99, some 100, some 101, some 102, some 103, some 104, some 105, some 106, some 107, some 108, some 109, some 110, some 111] [] rfl rfl rfl rfl ?_ Y_fc37
       refine Tr.cF rfl ?_
       refine Tr.skip ?_
       refine hK16 _ ?_
       refine Tr.k [7, 8, 9, 10] ?_
       have hy := True.intro
       refine Tr.v hcx [1000091] _ [] rfl rfl rfl ?_ X_fc37
       first
       | ((refine ⟨[], ⟨by decide, by decide, by decide⟩, j + 1, ⟨⟨by omega, NoK_S hj.2 hnh⟩, O1⟩, ?_, by simp only [mvH_eq, mvHa_nil, mvHa_cons, hget_0, hget_S, Option.map_some, Option.map_none, mvCs_cl, mvCs_f, mvCs_nil, mvCs_cons, mvC_val, mvC_top, mvC_sl, mvC_gv, mvC_sv, mvC_bp, mvC_agg, mvC_kp, mvGv_some, mvGv_none, mvSv_some, mvSv_none, mvBp_some, mvBp_none, loc_nil, loc_cons, ↓reduceIte, Nat.reduceEqDiff, reduceCtorEq, Nat.reduceAdd, Nat.zero_add, Nat.one_ne_zero, Nat.zero_ne_one, mvC_fn, mvC_bt, mvBt_some, mvBt_none, mvC_mp, mvMp_some, mvMp_none] <;> rfl⟩); (simp only [Le_nil, Le_cons, ↓A_cons, CLe_refl, CLe_top, CLe_full, CLe_nil, CLe_own, and_true, true_and, mvH_eq, mvHa_nil, mvHa_cons, hget_0, hget_S, Option.map_some, Option.map_none, mvCs_cl, mvCs_f, mvCs_nil, mvCs_cons, mvC_val, mvC_top, mvC_sl, mvC_gv, mvC_sv, mvC_bp, mvC_agg, mvC_kp, mvGv_some, mvGv_none, mvSv_some, mvSv_none, mvBp_some, mvBp_none, loc_nil, loc_cons, ↓reduceIte, Nat.reduceEqDiff, reduceCtorEq, Nat.reduceAdd, Nat.zero_add, Nat.one_ne_zero, Nat.zero_ne_one, mvC_fn, mvC_bt, mvBt_some, mvBt_none, mvC_mp, mvMp_some, mvMp_none]; all_goals (repeat' first | exact CLe.refl _ | exact True.intro | (with_reducible refine And.intro ?_ ?_))); (all_goals exact CLe.refl _); (done))
      skip
      by_cases d2 : (gt L i).1 = (gt L j).1
      ·
       have hh : hitT TS i j := ⟨d1, by rw [← g1, ← g2]; exact d2⟩
       have hy := And.intro @eq23 @hdr
       refine Tr.wD hcx hMOR [] [some 92, some 93, some 94, some 95, some 96, some 97, some 98, some 99, some 100, some 101, some 102, some 103, some 104, some 105, some 106, some 107, some 108, some 109, some 110, some 111] [] rfl rfl rfl rfl ?_ Y_fc37
       refine Tr.cT rfl ?_
       have hR : colB TS = true := colB_T hc75 hc89 hh
       have hy := True.intro
       refine Tr.w hcx [] _ [] rfl rfl rfl ?_ X_fc37
       exact Tr.ret F_fc37
      have hnh : ¬ hitT TS i j := fun q => d2 (by rw [g1, g2]; exact q.2)
      have hy := And.intro @eq23 @hdr
      refine Tr.wD hcx hMOR [] [some 92, some 93, some 94, some 95, some 96, some 97, some 98, some 99, some 100, some 101, some 102, some 103, some 104, some 105, some 106, some 107, some 108, some 109, some 110, some 111] [] rfl rfl rfl rfl ?_ Y_fc37
      refine Tr.cF rfl ?_
      refine Tr.skip ?_
      refine hK16 _ ?_
      refine Tr.k [7, 8, 9, 10] ?_
      have hy := True.intro
      refine Tr.v hcx [1000091] _ [] rfl rfl rfl ?_ X_fc37
      first
      | ((refine ⟨[], ⟨by decide, by decide, by decide⟩, j + 1, ⟨⟨by omega, NoK_S hj.2 hnh⟩, O1⟩, ?_, by simp only [mvH_eq, mvHa_nil, mvHa_cons, hget_0, hget_S, Option.map_some, Option.map_none, mvCs_cl, mvCs_f, mvCs_nil, mvCs_cons, mvC_val, mvC_top, mvC_sl, mvC_gv, mvC_sv, mvC_bp, mvC_agg, mvC_kp, mvGv_some, mvGv_none, mvSv_some, mvSv_none, mvBp_some, mvBp_none, loc_nil, loc_cons, ↓reduceIte, Nat.reduceEqDiff, reduceCtorEq, Nat.reduceAdd, Nat.zero_add, Nat.one_ne_zero, Nat.zero_ne_one, mvC_fn, mvC_bt, mvBt_some, mvBt_none, mvC_mp, mvMp_some, mvMp_none] <;> rfl⟩); (simp only [Le_nil, Le_cons, ↓A_cons, CLe_refl, CLe_top, CLe_full, CLe_nil, CLe_own, and_true, true_and, mvH_eq, mvHa_nil, mvHa_cons, hget_0, hget_S, Option.map_some, Option.map_none, mvCs_cl, mvCs_f, mvCs_nil, mvCs_cons, mvC_val, mvC_top, mvC_sl, mvC_gv, mvC_sv, mvC_bp, mvC_agg, mvC_kp, mvGv_some, mvGv_none, mvSv_some, mvSv_none, mvBp_some, mvBp_none, loc_nil, loc_cons, ↓reduceIte, Nat.reduceEqDiff, reduceCtorEq, Nat.reduceAdd, Nat.zero_add, Nat.one_ne_zero, Nat.zero_ne_one, mvC_fn, mvC_bt, mvBt_some, mvBt_none, mvC_mp, mvMp_some, mvMp_none]; all_goals (repeat' first | exact CLe.refl _ | exact True.intro | (with_reducible refine And.intro ?_ ?_))); (all_goals exact CLe.refl _); (done))
     refine Tr.exit ?_
     refine hK14 _ ?_
     refine Tr.v hcx [1000077] _ [] rfl rfl rfl ?_ X_fc37
     first
     | ((refine ⟨[], ⟨by decide, by decide, by decide⟩, i + 1, ⟨⟨by omega, NoC_S hi.2 hj.2 (by omega)⟩, O1⟩, ?_, by simp only [mvH_eq, mvHa_nil, mvHa_cons, hget_0, hget_S, Option.map_some, Option.map_none, mvCs_cl, mvCs_f, mvCs_nil, mvCs_cons, mvC_val, mvC_top, mvC_sl, mvC_gv, mvC_sv, mvC_bp, mvC_agg, mvC_kp, mvGv_some, mvGv_none, mvSv_some, mvSv_none, mvBp_some, mvBp_none, loc_nil, loc_cons, ↓reduceIte, Nat.reduceEqDiff, reduceCtorEq, Nat.reduceAdd, Nat.zero_add, Nat.one_ne_zero, Nat.zero_ne_one, mvC_fn, mvC_bt, mvBt_some, mvBt_none, mvC_mp, mvMp_some, mvMp_none] <;> rfl⟩); (simp only [Le_nil, Le_cons, ↓A_cons, CLe_refl, CLe_top, CLe_full, CLe_nil, CLe_own, and_true, true_and, mvH_eq, mvHa_nil, mvHa_cons, hget_0, hget_S, Option.map_some, Option.map_none, mvCs_cl, mvCs_f, mvCs_nil, mvCs_cons, mvC_val, mvC_top, mvC_sl, mvC_gv, mvC_sv, mvC_bp, mvC_agg, mvC_kp, mvGv_some, mvGv_none, mvSv_some, mvSv_none, mvBp_some, mvBp_none, loc_nil, loc_cons, ↓reduceIte, Nat.reduceEqDiff, reduceCtorEq, Nat.reduceAdd, Nat.zero_add, Nat.one_ne_zero, Nat.zero_ne_one, mvC_fn, mvC_bt, mvBt_some, mvBt_none, mvC_mp, mvMp_some, mvMp_none]; all_goals (repeat' first | exact CLe.refl _ | exact True.intro | (with_reducible refine And.intro ?_ ?_))); (all_goals (refine CLe_sl ?_; exact hLS)); (done))
    refine Tr.exit ?_
    refine hK12 _ ?_
    have hR : colB TS = false := colB_F (by rw [← show i = TS.length by omega]; exact hi.2)
    refine Tr.w hcx [] _ [] rfl rfl rfl ?_ X_fc37
    exact Tr.ret F_fc37
   have hB : BadC f z l := Or.inr (Or.inr (Or.inl (by omega)))
   refine Tr.bxc 2 0 (sl sC (.own 1) []) _ rfl rfl (CLe_sln rfl) rfl ?_
   refine Tr.w hcx [] [some 22, some 23, some 24, some 25, some 26, some 27, some 28, some 29, some 30, some 31, some 32, some 33, some 34, some 35, some 36, some 37, some 38, some 39, some 40, some 41, some 42, some 43, some 44, some 45, some 46, some 47, some 48, some 49, some 50, some 51, some 52] [] rfl rfl rfl ?_ X_fc37
   refine Tr.k [3, 5, 6, 52] ?_
   refine Tr.cF rfl ?_
   refine Tr.skip ?_
   refine hK1 _ ?_
   have hTB := txB_1 (S := S) hB
   refine Tr.wD hcx hMOR [61, 66, 1000071] _ [] rfl rfl rfl rfl ?_ Y_fc37
   obtain ⟨TS, hTS⟩ : ∃ TS, XA.2.1 = TS := ⟨_, rfl⟩
   have hRT : txA a ++ txB f z l S = TS := by rw [hTA, hTB]; rw [List.append_nil]; exact hTS
   have hTb : TB TS := by rw [← hTS]; exact bT
   have hTl : TS.length ≤ 16384 := by rw [← hTS]; omega
   simp only [hTS]
   refine Tr.k [7] ?_
   refine Tr.m1 hcx [] ?_
   refine Tr.w hcx [] _ [] rfl rfl rfl ?_ X_fc37
   refine Tr.seqK fun K17 hK17 => ?_
   refine Tr.w hcx [] _ [] rfl rfl rfl ?_ X_fc37
   refine Tr.k [7, 8, 9] ?_
   refine Tr.blk ?_
   refine Tr.loopM hcx (α := Nat) (fun a => [(7, ?v7_7), (8, sl dC (.own 16) ((TS.take a).map h16)), (9, .val (nI a))]) (fun a => []) (fun a => a ≤ TS.length ∧ NoC TS a) (fun a => TS.length - a) (0) ⟨Nat.zero_le _, NoC_0 TS⟩ ?le_7 ?hh_7 ?bd_7
   case hh_7 => exact rfl
   case le_7 => exact LT
   rintro i hi
   refine Tr.seqK fun K18 hK18 => ?_
   refine Tr.w hcx [] _ [] rfl rfl rfl ?_ X_fc37
   refine Tr.cD rfl (fun hc75 => ?_) (fun hc75 => ?_)
   ·
    have hti : (gt TS i).length < 35184372088832 := hTb _ (gt_mem TS i hc75)
    have e64 := h64 (gt TS i) hti
    have hsl : ((sha (gt TS i)).take 16).length = 16 := (h16 (gt TS i)).2
    have hml : ((TS.take i).map h16).length = i := by rw [List.length_map, List.length_take]; omega
    refine Tr.skip ?_
    refine hK18 _ ?_
    refine Tr.seqK fun K19 hK19 => ?_
    refine Tr.blk ?_
    have hy := And.intro @e64 @hsl
    refine Tr.w hcx [78, 1000086] _ [] rfl rfl rfl ?_ X_fc37
    obtain ⟨L, hL⟩ : ∃ L, (TS.take i).map h16 ++ [h16 (gt TS i)] = L := ⟨_, rfl⟩
    have hLS : L = (TS.take (i + 1)).map h16 := by rw [← hL]; exact map_next TS i hc75
    have hLl : L.length = i + 1 := by rw [hLS, List.length_map, List.length_take]; omega
    simp only [hL]
    have hy := True.intro
    refine Tr.w hcx [] _ [] rfl rfl rfl ?_ X_fc37
    refine Tr.k [7, 8, 9, 10] ?_
    refine Tr.blk ?_
    refine Tr.loopM hcx (α := Nat) (fun a => [(7, ?v7_8), (8, ?v8_8), (9, ?v9_8), (10, .val (nI a))]) (fun a => []) (fun a => a ≤ i ∧ NoK TS i a) (fun a => i - a) (0) ⟨Nat.zero_le _, NoK_0 TS i⟩ ?le_8 ?hh_8 ?bd_8
    case hh_8 => exact rfl
    case le_8 => exact LT
    rintro j hj
    refine Tr.seqK fun K20 hK20 => ?_
    refine Tr.w hcx [] _ [] rfl rfl rfl ?_ X_fc37
    refine Tr.cD rfl (fun hc89 => ?_) (fun hc89 => ?_)
    ·
     have hq1 : (gt L i).1.length = 16 := (gt L i).2
     have hq2 : (gt L j).1.length = 16 := (gt L j).2
     have hdr := last_dig L i hLl
     have g1 : (gt L i).1 = (h16 (gt TS i)).1 := by rw [hLS]; exact map_gt TS (i + 1) i (by omega) (by omega)
     have g2 : (gt L j).1 = (h16 (gt TS j)).1 := by rw [hLS]; exact map_gt TS (i + 1) j (by omega) (by omega)
     refine Tr.skip ?_
     refine hK20 _ ?_
     refine Tr.k [7, 8, 9, 10] ?_
     refine Tr.seqK fun K21 hK21 => ?_
     refine Tr.blk ?_
     by_cases d1 : gt TS i = gt TS j
     ·
      have hnh : ¬ hitT TS i j := fun q => q.1 d1
      have hy := And.intro @eq23 @hdr
      refine Tr.wD hcx hMOR [] [some 92, some 93, some 94, some 95, some 96, some 97, some 98, some 99, some 100, some 101, some 102, some 103, some 104, some 105, some 106, some 107, some 108, some 109, some 110, some 111] [] rfl rfl rfl rfl ?_ Y_fc37
      refine Tr.cF rfl ?_
      refine Tr.skip ?_
      refine hK21 _ ?_
      refine Tr.k [7, 8, 9, 10] ?_
      have hy := True.intro
      refine Tr.v hcx [1000091] _ [] rfl rfl rfl ?_ X_fc37
      first
      | ((refine ⟨[], ⟨by decide, by decide, by decide⟩, j + 1, ⟨⟨by omega, NoK_S hj.2 hnh⟩, O1⟩, ?_, by simp only [mvH_eq, mvHa_nil, mvHa_cons, hget_0, hget_S, Option.map_some, Option.map_none, mvCs_cl, mvCs_f, mvCs_nil, mvCs_cons, mvC_val, mvC_top, mvC_sl, mvC_gv, mvC_sv, mvC_bp, mvC_agg, mvC_kp, mvGv_some, mvGv_none, mvSv_some, mvSv_none, mvBp_some, mvBp_none, loc_nil, loc_cons, ↓reduceIte, Nat.reduceEqDiff, reduceCtorEq, Nat.reduceAdd, Nat.zero_add, Nat.one_ne_zero, Nat.zero_ne_one, mvC_fn, mvC_bt, mvBt_some, mvBt_none, mvC_mp, mvMp_some, mvMp_none] <;> rfl⟩); (simp only [Le_nil, Le_cons, ↓A_cons, CLe_refl, CLe_top, CLe_full, CLe_nil, CLe_own, and_true, true_and, mvH_eq, mvHa_nil, mvHa_cons, hget_0, hget_S, Option.map_some, Option.map_none, mvCs_cl, mvCs_f, mvCs_nil, mvCs_cons, mvC_val, mvC_top, mvC_sl, mvC_gv, mvC_sv, mvC_bp, mvC_agg, mvC_kp, mvGv_some, mvGv_none, mvSv_some, mvSv_none, mvBp_some, mvBp_none, loc_nil, loc_cons, ↓reduceIte, Nat.reduceEqDiff, reduceCtorEq, Nat.reduceAdd, Nat.zero_add, Nat.one_ne_zero, Nat.zero_ne_one, mvC_fn, mvC_bt, mvBt_some, mvBt_none, mvC_mp, mvMp_some, mvMp_none]; all_goals (repeat' first | exact CLe.refl _ | exact True.intro | (with_reducible refine And.intro ?_ ?_))); (all_goals exact CLe.refl _); (done))
     skip
     by_cases d2 : (gt L i).1 = (gt L j).1
     ·
      have hh : hitT TS i j := ⟨d1, by rw [← g1, ← g2]; exact d2⟩
      have hy := And.intro @eq23 @hdr
      refine Tr.wD hcx hMOR [] [some 92, some 93, some 94, some 95, some 96, some 97, some 98, some 99, some 100, some 101, some 102, some 103, some 104, some 105, some 106, some 107, some 108, some 109, some 110, some 111] [] rfl rfl rfl rfl ?_ Y_fc37
      refine Tr.cT rfl ?_
      have hR : colB TS = true := colB_T hc75 hc89 hh
      have hy := True.intro
      refine Tr.w hcx [] _ [] rfl rfl rfl ?_ X_fc37
      exact Tr.ret F_fc37
     have hnh : ¬ hitT TS i j := fun q => d2 (by rw [g1, g2]; exact q.2)
     have hy := And.intro @eq23 @hdr
     refine Tr.wD hcx hMOR [] [some 92, some 93, some 94, some 95, some 96, some 97, some 98, some 99, some 100, some 101, some 102, some 103, some 104, some 105, some 106, some 107, some 108, some 109, some 110, some 111] [] rfl rfl rfl rfl ?_ Y_fc37
     refine Tr.cF rfl ?_
     refine Tr.skip ?_
     refine hK21 _ ?_
     refine Tr.k [7, 8, 9, 10] ?_
     have hy := True.intro
     refine Tr.v hcx [1000091] _ [] rfl rfl rfl ?_ X_fc37
     first
     | ((refine ⟨[], ⟨by decide, by decide, by decide⟩, j + 1, ⟨⟨by omega, NoK_S hj.2 hnh⟩, O1⟩, ?_, by simp only [mvH_eq, mvHa_nil, mvHa_cons, hget_0, hget_S, Option.map_some, Option.map_none, mvCs_cl, mvCs_f, mvCs_nil, mvCs_cons, mvC_val, mvC_top, mvC_sl, mvC_gv, mvC_sv, mvC_bp, mvC_agg, mvC_kp, mvGv_some, mvGv_none, mvSv_some, mvSv_none, mvBp_some, mvBp_none, loc_nil, loc_cons, ↓reduceIte, Nat.reduceEqDiff, reduceCtorEq, Nat.reduceAdd, Nat.zero_add, Nat.one_ne_zero, Nat.zero_ne_one, mvC_fn, mvC_bt, mvBt_some, mvBt_none, mvC_mp, mvMp_some, mvMp_none] <;> rfl⟩); (simp only [Le_nil, Le_cons, ↓A_cons, CLe_refl, CLe_top, CLe_full, CLe_nil, CLe_own, and_true, true_and, mvH_eq, mvHa_nil, mvHa_cons, hget_0, hget_S, Option.map_some, Option.map_none, mvCs_cl, mvCs_f, mvCs_nil, mvCs_cons, mvC_val, mvC_top, mvC_sl, mvC_gv, mvC_sv, mvC_bp, mvC_agg, mvC_kp, mvGv_some, mvGv_none, mvSv_some, mvSv_none, mvBp_some, mvBp_none, loc_nil, loc_cons, ↓reduceIte, Nat.reduceEqDiff, reduceCtorEq, Nat.reduceAdd, Nat.zero_add, Nat.one_ne_zero, Nat.zero_ne_one, mvC_fn, mvC_bt, mvBt_some, mvBt_none, mvC_mp, mvMp_some, mvMp_none]; all_goals (repeat' first | exact CLe.refl _ | exact True.intro | (with_reducible refine And.intro ?_ ?_))); (all_goals exact CLe.refl _); (done))
    refine Tr.exit ?_
    refine hK19 _ ?_
    refine Tr.v hcx [1000077] _ [] rfl rfl rfl ?_ X_fc37
    first
    | ((refine ⟨[], ⟨by decide, by decide, by decide⟩, i + 1, ⟨⟨by omega, NoC_S hi.2 hj.2 (by omega)⟩, O1⟩, ?_, by simp only [mvH_eq, mvHa_nil, mvHa_cons, hget_0, hget_S, Option.map_some, Option.map_none, mvCs_cl, mvCs_f, mvCs_nil, mvCs_cons, mvC_val, mvC_top, mvC_sl, mvC_gv, mvC_sv, mvC_bp, mvC_agg, mvC_kp, mvGv_some, mvGv_none, mvSv_some, mvSv_none, mvBp_some, mvBp_none, loc_nil, loc_cons, ↓reduceIte, Nat.reduceEqDiff, reduceCtorEq, Nat.reduceAdd, Nat.zero_add, Nat.one_ne_zero, Nat.zero_ne_one, mvC_fn, mvC_bt, mvBt_some, mvBt_none, mvC_mp, mvMp_some, mvMp_none] <;> rfl⟩); (simp only [Le_nil, Le_cons, ↓A_cons, CLe_refl, CLe_top, CLe_full, CLe_nil, CLe_own, and_true, true_and, mvH_eq, mvHa_nil, mvHa_cons, hget_0, hget_S, Option.map_some, Option.map_none, mvCs_cl, mvCs_f, mvCs_nil, mvCs_cons, mvC_val, mvC_top, mvC_sl, mvC_gv, mvC_sv, mvC_bp, mvC_agg, mvC_kp, mvGv_some, mvGv_none, mvSv_some, mvSv_none, mvBp_some, mvBp_none, loc_nil, loc_cons, ↓reduceIte, Nat.reduceEqDiff, reduceCtorEq, Nat.reduceAdd, Nat.zero_add, Nat.one_ne_zero, Nat.zero_ne_one, mvC_fn, mvC_bt, mvBt_some, mvBt_none, mvC_mp, mvMp_some, mvMp_none]; all_goals (repeat' first | exact CLe.refl _ | exact True.intro | (with_reducible refine And.intro ?_ ?_))); (all_goals (refine CLe_sl ?_; exact hLS)); (done))
   refine Tr.exit ?_
   refine hK17 _ ?_
   have hR : colB TS = false := colB_F (by rw [← show i = TS.length by omega]; exact hi.2)
   refine Tr.w hcx [] _ [] rfl rfl rfl ?_ X_fc37
   exact Tr.ret F_fc37
  have hB : BadC f z l := Or.inr (Or.inl (by omega))
  refine Tr.bxc 2 0 (sl sC (.own 1) []) _ rfl rfl (CLe_sln rfl) rfl ?_
  refine Tr.w hcx [] [some 22, some 23, some 24, some 25, some 26, some 27, some 28, some 29, some 30, some 31, some 32, some 33, some 34, some 35, some 36, some 37, some 38, some 39, some 40, some 41, some 42, some 43, some 44, some 45, some 46, some 47, some 48, some 49, some 50, some 51, some 52] [] rfl rfl rfl ?_ X_fc37
  refine Tr.k [3, 5, 6, 52] ?_
  refine Tr.cF rfl ?_
  refine Tr.skip ?_
  refine hK1 _ ?_
  have hTB := txB_1 (S := S) hB
  refine Tr.wD hcx hMOR [61, 66, 1000071] _ [] rfl rfl rfl rfl ?_ Y_fc37
  obtain ⟨TS, hTS⟩ : ∃ TS, XA.2.1 = TS := ⟨_, rfl⟩
  have hRT : txA a ++ txB f z l S = TS := by rw [hTA, hTB]; rw [List.append_nil]; exact hTS
  have hTb : TB TS := by rw [← hTS]; exact bT
  have hTl : TS.length ≤ 16384 := by rw [← hTS]; omega
  simp only [hTS]
  refine Tr.k [7] ?_
  refine Tr.m1 hcx [] ?_
  refine Tr.w hcx [] _ [] rfl rfl rfl ?_ X_fc37
  refine Tr.seqK fun K22 hK22 => ?_
  refine Tr.w hcx [] _ [] rfl rfl rfl ?_ X_fc37
  refine Tr.k [7, 8, 9] ?_
  refine Tr.blk ?_
  refine Tr.loopM hcx (α := Nat) (fun a => [(7, ?v7_9), (8, sl dC (.own 16) ((TS.take a).map h16)), (9, .val (nI a))]) (fun a => []) (fun a => a ≤ TS.length ∧ NoC TS a) (fun a => TS.length - a) (0) ⟨Nat.zero_le _, NoC_0 TS⟩ ?le_9 ?hh_9 ?bd_9
  case hh_9 => exact rfl
  case le_9 => exact LT
  rintro i hi
  refine Tr.seqK fun K23 hK23 => ?_
  refine Tr.w hcx [] _ [] rfl rfl rfl ?_ X_fc37
  refine Tr.cD rfl (fun hc75 => ?_) (fun hc75 => ?_)
  ·
   have hti : (gt TS i).length < 35184372088832 := hTb _ (gt_mem TS i hc75)
   have e64 := h64 (gt TS i) hti
   have hsl : ((sha (gt TS i)).take 16).length = 16 := (h16 (gt TS i)).2
   have hml : ((TS.take i).map h16).length = i := by rw [List.length_map, List.length_take]; omega
   refine Tr.skip ?_
   refine hK23 _ ?_
   refine Tr.seqK fun K24 hK24 => ?_
   refine Tr.blk ?_
   have hy := And.intro @e64 @hsl
   refine Tr.w hcx [78, 1000086] _ [] rfl rfl rfl ?_ X_fc37
   obtain ⟨L, hL⟩ : ∃ L, (TS.take i).map h16 ++ [h16 (gt TS i)] = L := ⟨_, rfl⟩
   have hLS : L = (TS.take (i + 1)).map h16 := by rw [← hL]; exact map_next TS i hc75
   have hLl : L.length = i + 1 := by rw [hLS, List.length_map, List.length_take]; omega
   simp only [hL]
   have hy := True.intro
   refine Tr.w hcx [] _ [] rfl rfl rfl ?_ X_fc37
   refine Tr.k [7, 8, 9, 10] ?_
   refine Tr.blk ?_
   refine Tr.loopM hcx (α := Nat) (fun a => [(7, ?v7_10), (8, ?v8_10), (9, ?v9_10), (10, .val (nI a))]) (fun a => []) (fun a => a ≤ i ∧ NoK TS i a) (fun a => i - a) (0) ⟨Nat.zero_le _, NoK_0 TS i⟩ ?le_10 ?hh_10 ?bd_10
   case hh_10 => exact rfl
   case le_10 => exact LT
   rintro j hj
   refine Tr.seqK fun K25 hK25 => ?_
   refine Tr.w hcx [] _ [] rfl rfl rfl ?_ X_fc37
   refine Tr.cD rfl (fun hc89 => ?_) (fun hc89 => ?_)
   ·
    have hq1 : (gt L i).1.length = 16 := (gt L i).2
    have hq2 : (gt L j).1.length = 16 := (gt L j).2
    have hdr := last_dig L i hLl
    have g1 : (gt L i).1 = (h16 (gt TS i)).1 := by rw [hLS]; exact map_gt TS (i + 1) i (by omega) (by omega)
    have g2 : (gt L j).1 = (h16 (gt TS j)).1 := by rw [hLS]; exact map_gt TS (i + 1) j (by omega) (by omega)
    refine Tr.skip ?_
    refine hK25 _ ?_
    refine Tr.k [7, 8, 9, 10] ?_
    refine Tr.seqK fun K26 hK26 => ?_
    refine Tr.blk ?_
    by_cases d1 : gt TS i = gt TS j
    ·
     have hnh : ¬ hitT TS i j := fun q => q.1 d1
     have hy := And.intro @eq23 @hdr
     refine Tr.wD hcx hMOR [] [some 92, some 93, some 94, some 95, some 96, some 97, some 98, some 99, some 100, some 101, some 102, some 103, some 104, some 105, some 106, some 107, some 108, some 109, some 110, some 111] [] rfl rfl rfl rfl ?_ Y_fc37
     refine Tr.cF rfl ?_
     refine Tr.skip ?_
     refine hK26 _ ?_
     refine Tr.k [7, 8, 9, 10] ?_
     have hy := True.intro
     refine Tr.v hcx [1000091] _ [] rfl rfl rfl ?_ X_fc37
     first
     | ((refine ⟨[], ⟨by decide, by decide, by decide⟩, j + 1, ⟨⟨by omega, NoK_S hj.2 hnh⟩, O1⟩, ?_, by simp only [mvH_eq, mvHa_nil, mvHa_cons, hget_0, hget_S, Option.map_some, Option.map_none, mvCs_cl, mvCs_f, mvCs_nil, mvCs_cons, mvC_val, mvC_top, mvC_sl, mvC_gv, mvC_sv, mvC_bp, mvC_agg, mvC_kp, mvGv_some, mvGv_none, mvSv_some, mvSv_none, mvBp_some, mvBp_none, loc_nil, loc_cons, ↓reduceIte, Nat.reduceEqDiff, reduceCtorEq, Nat.reduceAdd, Nat.zero_add, Nat.one_ne_zero, Nat.zero_ne_one, mvC_fn, mvC_bt, mvBt_some, mvBt_none, mvC_mp, mvMp_some, mvMp_none] <;> rfl⟩); (simp only [Le_nil, Le_cons, ↓A_cons, CLe_refl, CLe_top, CLe_full, CLe_nil, CLe_own, and_true, true_and, mvH_eq, mvHa_nil, mvHa_cons, hget_0, hget_S, Option.map_some, Option.map_none, mvCs_cl, mvCs_f, mvCs_nil, mvCs_cons, mvC_val, mvC_top, mvC_sl, mvC_gv, mvC_sv, mvC_bp, mvC_agg, mvC_kp, mvGv_some, mvGv_none, mvSv_some, mvSv_none, mvBp_some, mvBp_none, loc_nil, loc_cons, ↓reduceIte, Nat.reduceEqDiff, reduceCtorEq, Nat.reduceAdd, Nat.zero_add, Nat.one_ne_zero, Nat.zero_ne_one, mvC_fn, mvC_bt, mvBt_some, mvBt_none, mvC_mp, mvMp_some, mvMp_none]; all_goals (repeat' first | exact CLe.refl _ | exact True.intro | (with_reducible refine And.intro ?_ ?_))); (all_goals exact CLe.refl _); (done))
    skip
    by_cases d2 : (gt L i).1 = (gt L j).1
    ·
     have hh : hitT TS i j := ⟨d1, by rw [← g1, ← g2]; exact d2⟩
     have hy := And.intro @eq23 @hdr
     refine Tr.wD hcx hMOR [] [some 92, some 93, some 94, some 95, some 96, some 97, some 98, some 99, some 100, some 101, some 102, some 103, some 104, some 105, some 106, some 107, some 108, some 109, some 110, some 111] [] rfl rfl rfl rfl ?_ Y_fc37
     refine Tr.cT rfl ?_
     have hR : colB TS = true := colB_T hc75 hc89 hh
     have hy := True.intro
     refine Tr.w hcx [] _ [] rfl rfl rfl ?_ X_fc37
     exact Tr.ret F_fc37
    have hnh : ¬ hitT TS i j := fun q => d2 (by rw [g1, g2]; exact q.2)
    have hy := And.intro @eq23 @hdr
    refine Tr.wD hcx hMOR [] [some 92, some 93, some 94, some 95, some 96, some 97, some 98, some 99, some 100, some 101, some 102, some 103, some 104, some 105, some 106, some 107, some 108, some 109, some 110, some 111] [] rfl rfl rfl rfl ?_ Y_fc37
    refine Tr.cF rfl ?_
    refine Tr.skip ?_
    refine hK26 _ ?_
    refine Tr.k [7, 8, 9, 10] ?_
    have hy := True.intro
    refine Tr.v hcx [1000091] _ [] rfl rfl rfl ?_ X_fc37
    first
    | ((refine ⟨[], ⟨by decide, by decide, by decide⟩, j + 1, ⟨⟨by omega, NoK_S hj.2 hnh⟩, O1⟩, ?_, by simp only [mvH_eq, mvHa_nil, mvHa_cons, hget_0, hget_S, Option.map_some, Option.map_none, mvCs_cl, mvCs_f, mvCs_nil, mvCs_cons, mvC_val, mvC_top, mvC_sl, mvC_gv, mvC_sv, mvC_bp, mvC_agg, mvC_kp, mvGv_some, mvGv_none, mvSv_some, mvSv_none, mvBp_some, mvBp_none, loc_nil, loc_cons, ↓reduceIte, Nat.reduceEqDiff, reduceCtorEq, Nat.reduceAdd, Nat.zero_add, Nat.one_ne_zero, Nat.zero_ne_one, mvC_fn, mvC_bt, mvBt_some, mvBt_none, mvC_mp, mvMp_some, mvMp_none] <;> rfl⟩); (simp only [Le_nil, Le_cons, ↓A_cons, CLe_refl, CLe_top, CLe_full, CLe_nil, CLe_own, and_true, true_and, mvH_eq, mvHa_nil, mvHa_cons, hget_0, hget_S, Option.map_some, Option.map_none, mvCs_cl, mvCs_f, mvCs_nil, mvCs_cons, mvC_val, mvC_top, mvC_sl, mvC_gv, mvC_sv, mvC_bp, mvC_agg, mvC_kp, mvGv_some, mvGv_none, mvSv_some, mvSv_none, mvBp_some, mvBp_none, loc_nil, loc_cons, ↓reduceIte, Nat.reduceEqDiff, reduceCtorEq, Nat.reduceAdd, Nat.zero_add, Nat.one_ne_zero, Nat.zero_ne_one, mvC_fn, mvC_bt, mvBt_some, mvBt_none, mvC_mp, mvMp_some, mvMp_none]; all_goals (repeat' first | exact CLe.refl _ | exact True.intro | (with_reducible refine And.intro ?_ ?_))); (all_goals exact CLe.refl _); (done))
   refine Tr.exit ?_
   refine hK24 _ ?_
   refine Tr.v hcx [1000077] _ [] rfl rfl rfl ?_ X_fc37
   first
   | ((refine ⟨[], ⟨by decide, by decide, by decide⟩, i + 1, ⟨⟨by omega, NoC_S hi.2 hj.2 (by omega)⟩, O1⟩, ?_, by simp only [mvH_eq, mvHa_nil, mvHa_cons, hget_0, hget_S, Option.map_some, Option.map_none, mvCs_cl, mvCs_f, mvCs_nil, mvCs_cons, mvC_val, mvC_top, mvC_sl, mvC_gv, mvC_sv, mvC_bp, mvC_agg, mvC_kp, mvGv_some, mvGv_none, mvSv_some, mvSv_none, mvBp_some, mvBp_none, loc_nil, loc_cons, ↓reduceIte, Nat.reduceEqDiff, reduceCtorEq, Nat.reduceAdd, Nat.zero_add, Nat.one_ne_zero, Nat.zero_ne_one, mvC_fn, mvC_bt, mvBt_some, mvBt_none, mvC_mp, mvMp_some, mvMp_none] <;> rfl⟩); (simp only [Le_nil, Le_cons, ↓A_cons, CLe_refl, CLe_top, CLe_full, CLe_nil, CLe_own, and_true, true_and, mvH_eq, mvHa_nil, mvHa_cons, hget_0, hget_S, Option.map_some, Option.map_none, mvCs_cl, mvCs_f, mvCs_nil, mvCs_cons, mvC_val, mvC_top, mvC_sl, mvC_gv, mvC_sv, mvC_bp, mvC_agg, mvC_kp, mvGv_some, mvGv_none, mvSv_some, mvSv_none, mvBp_some, mvBp_none, loc_nil, loc_cons, ↓reduceIte, Nat.reduceEqDiff, reduceCtorEq, Nat.reduceAdd, Nat.zero_add, Nat.one_ne_zero, Nat.zero_ne_one, mvC_fn, mvC_bt, mvBt_some, mvBt_none, mvC_mp, mvMp_some, mvMp_none]; all_goals (repeat' first | exact CLe.refl _ | exact True.intro | (with_reducible refine And.intro ?_ ?_))); (all_goals (refine CLe_sl ?_; exact hLS)); (done))
  refine Tr.exit ?_
  refine hK22 _ ?_
  have hR : colB TS = false := colB_F (by rw [← show i = TS.length by omega]; exact hi.2)
  refine Tr.w hcx [] _ [] rfl rfl rfl ?_ X_fc37
  exact Tr.ret F_fc37
 have hB : BadC f z l := Or.inl (by omega)
 refine Tr.bxc 2 0 (sl sC (.own 1) []) _ rfl rfl (CLe_sln rfl) rfl ?_
 refine Tr.w hcx [] [some 22, some 23, some 24, some 25, some 26, some 27, some 28, some 29, some 30, some 31, some 32, some 33, some 34, some 35, some 36, some 37, some 38, some 39, some 40, some 41, some 42, some 43, some 44, some 45, some 46, some 47, some 48, some 49, some 50, some 51, some 52] [] rfl rfl rfl ?_ X_fc37
 refine Tr.k [3, 5, 6, 52] ?_
 refine Tr.cF rfl ?_
 refine Tr.skip ?_
 refine hK1 _ ?_
 have hTB := txB_1 (S := S) hB
 refine Tr.wD hcx hMOR [61, 66, 1000071] _ [] rfl rfl rfl rfl ?_ Y_fc37
 obtain ⟨TS, hTS⟩ : ∃ TS, XA.2.1 = TS := ⟨_, rfl⟩
 have hRT : txA a ++ txB f z l S = TS := by rw [hTA, hTB]; rw [List.append_nil]; exact hTS
 have hTb : TB TS := by rw [← hTS]; exact bT
 have hTl : TS.length ≤ 16384 := by rw [← hTS]; omega
 simp only [hTS]
 refine Tr.k [7] ?_
 refine Tr.m1 hcx [] ?_
 refine Tr.w hcx [] _ [] rfl rfl rfl ?_ X_fc37
 refine Tr.seqK fun K27 hK27 => ?_
 refine Tr.w hcx [] _ [] rfl rfl rfl ?_ X_fc37
 refine Tr.k [7, 8, 9] ?_
 refine Tr.blk ?_
 refine Tr.loopM hcx (α := Nat) (fun a => [(7, ?v7_11), (8, sl dC (.own 16) ((TS.take a).map h16)), (9, .val (nI a))]) (fun a => []) (fun a => a ≤ TS.length ∧ NoC TS a) (fun a => TS.length - a) (0) ⟨Nat.zero_le _, NoC_0 TS⟩ ?le_11 ?hh_11 ?bd_11
 case hh_11 => exact rfl
 case le_11 => exact LT
 rintro i hi
 refine Tr.seqK fun K28 hK28 => ?_
 refine Tr.w hcx [] _ [] rfl rfl rfl ?_ X_fc37
 refine Tr.cD rfl (fun hc75 => ?_) (fun hc75 => ?_)
 ·
  have hti : (gt TS i).length < 35184372088832 := hTb _ (gt_mem TS i hc75)
  have e64 := h64 (gt TS i) hti
  have hsl : ((sha (gt TS i)).take 16).length = 16 := (h16 (gt TS i)).2
  have hml : ((TS.take i).map h16).length = i := by rw [List.length_map, List.length_take]; omega
  refine Tr.skip ?_
  refine hK28 _ ?_
  refine Tr.seqK fun K29 hK29 => ?_
  refine Tr.blk ?_
  have hy := And.intro @e64 @hsl
  refine Tr.w hcx [78, 1000086] _ [] rfl rfl rfl ?_ X_fc37
  obtain ⟨L, hL⟩ : ∃ L, (TS.take i).map h16 ++ [h16 (gt TS i)] = L := ⟨_, rfl⟩
  have hLS : L = (TS.take (i + 1)).map h16 := by rw [← hL]; exact map_next TS i hc75
  have hLl : L.length = i + 1 := by rw [hLS, List.length_map, List.length_take]; omega
  simp only [hL]
  have hy := True.intro
  refine Tr.w hcx [] _ [] rfl rfl rfl ?_ X_fc37
  refine Tr.k [7, 8, 9, 10] ?_
  refine Tr.blk ?_
  refine Tr.loopM hcx (α := Nat) (fun a => [(7, ?v7_12), (8, ?v8_12), (9, ?v9_12), (10, .val (nI a))]) (fun a => []) (fun a => a ≤ i ∧ NoK TS i a) (fun a => i - a) (0) ⟨Nat.zero_le _, NoK_0 TS i⟩ ?le_12 ?hh_12 ?bd_12
  case hh_12 => exact rfl
  case le_12 => exact LT
  rintro j hj
  refine Tr.seqK fun K30 hK30 => ?_
  refine Tr.w hcx [] _ [] rfl rfl rfl ?_ X_fc37
  refine Tr.cD rfl (fun hc89 => ?_) (fun hc89 => ?_)
  ·
   have hq1 : (gt L i).1.length = 16 := (gt L i).2
   have hq2 : (gt L j).1.length = 16 := (gt L j).2
   have hdr := last_dig L i hLl
   have g1 : (gt L i).1 = (h16 (gt TS i)).1 := by rw [hLS]; exact map_gt TS (i + 1) i (by omega) (by omega)
   have g2 : (gt L j).1 = (h16 (gt TS j)).1 := by rw [hLS]; exact map_gt TS (i + 1) j (by omega) (by omega)
   refine Tr.skip ?_
   refine hK30 _ ?_
   refine Tr.k [7, 8, 9, 10] ?_
   refine Tr.seqK fun K31 hK31 => ?_
   refine Tr.blk ?_
   by_cases d1 : gt TS i = gt TS j
   ·
    have hnh : ¬ hitT TS i j := fun q => q.1 d1
    have hy := And.intro @eq23 @hdr
    refine Tr.wD hcx hMOR [] [some 92, some 93, some 94, some 95, some 96, some 97, some 98, some 99, some 100, some 101, some 102, some 103, some 104, some 105, some 106, some 107, some 108, some 109, some 110, some 111] [] rfl rfl rfl rfl ?_ Y_fc37
    refine Tr.cF rfl ?_
    refine Tr.skip ?_
    refine hK31 _ ?_
    refine Tr.k [7, 8, 9, 10] ?_
    have hy := True.intro
    refine Tr.v hcx [1000091] _ [] rfl rfl rfl ?_ X_fc37
    first
    | ((refine ⟨[], ⟨by decide, by decide, by decide⟩, j + 1, ⟨⟨by omega, NoK_S hj.2 hnh⟩, O1⟩, ?_, by simp only [mvH_eq, mvHa_nil, mvHa_cons, hget_0, hget_S, Option.map_some, Option.map_none, mvCs_cl, mvCs_f, mvCs_nil, mvCs_cons, mvC_val, mvC_top, mvC_sl, mvC_gv, mvC_sv, mvC_bp, mvC_agg, mvC_kp, mvGv_some, mvGv_none, mvSv_some, mvSv_none, mvBp_some, mvBp_none, loc_nil, loc_cons, ↓reduceIte, Nat.reduceEqDiff, reduceCtorEq, Nat.reduceAdd, Nat.zero_add, Nat.one_ne_zero, Nat.zero_ne_one, mvC_fn, mvC_bt, mvBt_some, mvBt_none, mvC_mp, mvMp_some, mvMp_none] <;> rfl⟩); (simp only [Le_nil, Le_cons, ↓A_cons, CLe_refl, CLe_top, CLe_full, CLe_nil, CLe_own, and_true, true_and, mvH_eq, mvHa_nil, mvHa_cons, hget_0, hget_S, Option.map_some, Option.map_none, mvCs_cl, mvCs_f, mvCs_nil, mvCs_cons, mvC_val, mvC_top, mvC_sl, mvC_gv, mvC_sv, mvC_bp, mvC_agg, mvC_kp, mvGv_some, mvGv_none, mvSv_some, mvSv_none, mvBp_some, mvBp_none, loc_nil, loc_cons, ↓reduceIte, Nat.reduceEqDiff, reduceCtorEq, Nat.reduceAdd, Nat.zero_add, Nat.one_ne_zero, Nat.zero_ne_one, mvC_fn, mvC_bt, mvBt_some, mvBt_none, mvC_mp, mvMp_some, mvMp_none]; all_goals (repeat' first | exact CLe.refl _ | exact True.intro | (with_reducible refine And.intro ?_ ?_))); (all_goals exact CLe.refl _); (done))
   skip
   by_cases d2 : (gt L i).1 = (gt L j).1
   ·
    have hh : hitT TS i j := ⟨d1, by rw [← g1, ← g2]; exact d2⟩
    have hy := And.intro @eq23 @hdr
    refine Tr.wD hcx hMOR [] [some 92, some 93, some 94, some 95, some 96, some 97, some 98, some 99, some 100, some 101, some 102, some 103, some 104, some 105, some 106, some 107, some 108, some 109, some 110, some 111] [] rfl rfl rfl rfl ?_ Y_fc37
    refine Tr.cT rfl ?_
    have hR : colB TS = true := colB_T hc75 hc89 hh
    have hy := True.intro
    refine Tr.w hcx [] _ [] rfl rfl rfl ?_ X_fc37
    exact Tr.ret F_fc37
   have hnh : ¬ hitT TS i j := fun q => d2 (by rw [g1, g2]; exact q.2)
   have hy := And.intro @eq23 @hdr
   refine Tr.wD hcx hMOR [] [some 92, some 93, some 94, some 95, some 96, some 97, some 98, some 99, some 100, some 101, some 102, some 103, some 104, some 105, some 106, some 107, some 108, some 109, some 110, some 111] [] rfl rfl rfl rfl ?_ Y_fc37
   refine Tr.cF rfl ?_
   refine Tr.skip ?_
   refine hK31 _ ?_
   refine Tr.k [7, 8, 9, 10] ?_
   have hy := True.intro
   refine Tr.v hcx [1000091] _ [] rfl rfl rfl ?_ X_fc37
   first
   | ((refine ⟨[], ⟨by decide, by decide, by decide⟩, j + 1, ⟨⟨by omega, NoK_S hj.2 hnh⟩, O1⟩, ?_, by simp only [mvH_eq, mvHa_nil, mvHa_cons, hget_0, hget_S, Option.map_some, Option.map_none, mvCs_cl, mvCs_f, mvCs_nil, mvCs_cons, mvC_val, mvC_top, mvC_sl, mvC_gv, mvC_sv, mvC_bp, mvC_agg, mvC_kp, mvGv_some, mvGv_none, mvSv_some, mvSv_none, mvBp_some, mvBp_none, loc_nil, loc_cons, ↓reduceIte, Nat.reduceEqDiff, reduceCtorEq, Nat.reduceAdd, Nat.zero_add, Nat.one_ne_zero, Nat.zero_ne_one, mvC_fn, mvC_bt, mvBt_some, mvBt_none, mvC_mp, mvMp_some, mvMp_none] <;> rfl⟩); (simp only [Le_nil, Le_cons, ↓A_cons, CLe_refl, CLe_top, CLe_full, CLe_nil, CLe_own, and_true, true_and, mvH_eq, mvHa_nil, mvHa_cons, hget_0, hget_S, Option.map_some, Option.map_none, mvCs_cl, mvCs_f, mvCs_nil, mvCs_cons, mvC_val, mvC_top, mvC_sl, mvC_gv, mvC_sv, mvC_bp, mvC_agg, mvC_kp, mvGv_some, mvGv_none, mvSv_some, mvSv_none, mvBp_some, mvBp_none, loc_nil, loc_cons, ↓reduceIte, Nat.reduceEqDiff, reduceCtorEq, Nat.reduceAdd, Nat.zero_add, Nat.one_ne_zero, Nat.zero_ne_one, mvC_fn, mvC_bt, mvBt_some, mvBt_none, mvC_mp, mvMp_some, mvMp_none]; all_goals (repeat' first | exact CLe.refl _ | exact True.intro | (with_reducible refine And.intro ?_ ?_))); (all_goals exact CLe.refl _); (done))
  refine Tr.exit ?_
  refine hK29 _ ?_
  refine Tr.v hcx [1000077] _ [] rfl rfl rfl ?_ X_fc37
  first
  | ((refine ⟨[], ⟨by decide, by decide, by decide⟩, i + 1, ⟨⟨by omega, NoC_S hi.2 hj.2 (by omega)⟩, O1⟩, ?_, by simp only [mvH_eq, mvHa_nil, mvHa_cons, hget_0, hget_S, Option.map_some, Option.map_none, mvCs_cl, mvCs_f, mvCs_nil, mvCs_cons, mvC_val, mvC_top, mvC_sl, mvC_gv, mvC_sv, mvC_bp, mvC_agg, mvC_kp, mvGv_some, mvGv_none, mvSv_some, mvSv_none, mvBp_some, mvBp_none, loc_nil, loc_cons, ↓reduceIte, Nat.reduceEqDiff, reduceCtorEq, Nat.reduceAdd, Nat.zero_add, Nat.one_ne_zero, Nat.zero_ne_one, mvC_fn, mvC_bt, mvBt_some, mvBt_none, mvC_mp, mvMp_some, mvMp_none] <;> rfl⟩); (simp only [Le_nil, Le_cons, ↓A_cons, CLe_refl, CLe_top, CLe_full, CLe_nil, CLe_own, and_true, true_and, mvH_eq, mvHa_nil, mvHa_cons, hget_0, hget_S, Option.map_some, Option.map_none, mvCs_cl, mvCs_f, mvCs_nil, mvCs_cons, mvC_val, mvC_top, mvC_sl, mvC_gv, mvC_sv, mvC_bp, mvC_agg, mvC_kp, mvGv_some, mvGv_none, mvSv_some, mvSv_none, mvBp_some, mvBp_none, loc_nil, loc_cons, ↓reduceIte, Nat.reduceEqDiff, reduceCtorEq, Nat.reduceAdd, Nat.zero_add, Nat.one_ne_zero, Nat.zero_ne_one, mvC_fn, mvC_bt, mvBt_some, mvBt_none, mvC_mp, mvMp_some, mvMp_none]; all_goals (repeat' first | exact CLe.refl _ | exact True.intro | (with_reducible refine And.intro ?_ ?_))); (all_goals (refine CLe_sl ?_; exact hLS)); (done))
 refine Tr.exit ?_
 refine hK27 _ ?_
 have hR : colB TS = false := colB_F (by rw [← show i = TS.length by omega]; exact hi.2)
 refine Tr.w hcx [] _ [] rfl rfl rfl ?_ X_fc37
 exact Tr.ret F_fc37
end Go.Sx
