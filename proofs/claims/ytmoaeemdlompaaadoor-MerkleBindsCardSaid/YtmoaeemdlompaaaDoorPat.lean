/-
   And what follows.
-/
import Derived.Test.YtmoaeemdlompaaaDoorPas
set_option linter.unusedSimpArgs false
set_option linter.unusedVariables false
namespace Go.Sx
open Go.RowKit Go.Proofs
theorem i_addW {P : Program} {t : TypeId} (x : Int) (y : Nat) : binPlan P .add t (.val (.int .i64 x)) (.val (nI y)) = some (vp (.val (.int .i64 (IntKind.i64.wrap (x + ((y : Nat) : Int)))))) := by
  simp only [nI, bin_int, sbin, ne_eq, not_true_eq_false, if_false, Option.map_some]
def BadU (f z : Int) (l : List Leaf) : Prop := z < 0 ∨ 4096 < z ∨ f < 0 ∨ z < f ∨ z - f < (l.length : Int) ∨ ¬ valT l = 0
instance (f z : Int) (l : List Leaf) : Decidable (BadU f z l) := by unfold BadU; infer_instance
def undT (r : List UInt8) (f z : Int) (l : List Leaf) (S : List Dig) : Bool :=
  if BadU f z l ∨ (0 < z ∧ l.length = 0) then false
  else !(rooR l f.toNat S z.toNat ([], 0, false)).2.2.2 && decide ((rooR l f.toNat S z.toNat ([], 0, false)).2.2.1 = S.length) && decide ((rooR l f.toNat S z.toNat ([], 0, false)).1 = r)
theorem un_ff (l : List Leaf) (f : Nat) : ∀ d a b (st : US), st.1 = false → (unO l f d a b st).2.1 = false := fun d a b st h => by rw [un_f h]; exact h
theorem rowR_tt (l : List Leaf) (f : Nat) (S : List Dig) : ∀ d a b (st : TS), st.2.2 = true → (rowR l f S d a b st).2.2.2 = true
  | 0, a, b, st, h => by
    unfold rowR; split
    · unfold sidR; split
      · rfl
      · exact h
    · exact h
  | d + 1, a, b, st, h => by
    unfold rowR; split
    · unfold sidR; split
      · rfl
      · exact h
    · split
      · exact h
      · exact rowR_tt l f S d _ b _ (rowR_tt l f S d a _ st h)
theorem sidR_O {S : List Dig} {T : List (List UInt8)} {u : Nat} (hu : u ≤ S.length) :
    ((sidR S (T, u, false)).2.2.2 = false → sidO (S.drop u) = ((sidR S (T, u, false)).1, (true, S.drop (sidR S (T, u, false)).2.2.1))) ∧ ((sidR S (T, u, false)).2.2.2 = true → (sidO (S.drop u)).2.1 = false) := by
  by_cases h : S.length ≤ u
  · have e : sidR S (T, u, false) = (List.replicate 16 0, (T, u, true)) := if_pos h
    have e2 : sidO (S.drop u) = (List.replicate 16 0, (false, S.drop u)) := sidO_0 (by rw [List.length_drop]; omega)
    rw [e, e2]; exact ⟨fun q => by simp at q, fun _ => rfl⟩
  · have e : sidR S (T, u, false) = ((gt S u).1, (T, u + 1, false)) := if_neg h
    have e2 : sidO (S.drop u) = ((gt (S.drop u) 0).1, (true, (S.drop u).drop 1)) := sidO_n (by rw [List.length_drop]; omega)
    have e3 : gt (S.drop u) 0 = gt S u := by simp [gt, List.getD]
    rw [e, e2, e3, List.drop_drop]; exact ⟨fun _ => rfl, fun q => by simp at q⟩
theorem un_row (l : List Leaf) (f : Nat) (S : List Dig) : ∀ d a b T u, u ≤ S.length →
    ((rowR l f S d a b (T, u, false)).2.2.2 = false → unO l f d a b (true, S.drop u) = ((rowR l f S d a b (T, u, false)).1, (true, S.drop (rowR l f S d a b (T, u, false)).2.2.1))) ∧
    ((rowR l f S d a b (T, u, false)).2.2.2 = true → (unO l f d a b (true, S.drop u)).2.1 = false)
  | 0, a, b, T, u, hu => by
    by_cases h : b ≤ f ∨ f + l.length ≤ a
    · rw [rowR_s h, un_s h]; exact sidR_O hu
    · have e1 : rowR l f S 0 a b (T, u, false) = lefR (gt l (a - f)) (T, u, false) := by simp only [rowR, if_neg h]
      have e2 : unO l f 0 a b (true, S.drop u) = (lefT (gt l (a - f)), (true, S.drop u)) := by unfold unO; rw [if_neg (by simp), if_neg h]
      rw [e1, e2]; exact ⟨fun _ => rfl, fun q => by simp [lefR] at q⟩
  | d + 1, a, b, T, u, hu => by
    by_cases h : b ≤ f ∨ f + l.length ≤ a
    · rw [rowR_s h, un_s h]; exact sidR_O hu
    · by_cases h2 : b - a ≤ 1
      · rw [rowR_l h h2, un_l h h2]; exact ⟨fun _ => rfl, fun q => by simp [lefR] at q⟩
      · rw [rowR_n h h2, un_n h h2]
        have g1 := un_row l f S d a (a + halfT (b - a)) T u hu
        have hb := rowR_bd l f S d a (a + halfT (b - a)) (T, u, false)
        generalize rowR l f S d a (a + halfT (b - a)) (T, u, false) = X at *
        obtain ⟨x, T1, u1, s1⟩ := X
        simp only at g1 hb
        cases s1 with
        | true =>
          have hs := rowR_tt l f S d (a + halfT (b - a)) b (T1, u1, true) rfl
          have q := g1.2 rfl
          refine ⟨fun e => ?_, fun _ => ?_⟩
          · simp only [nodR] at e; rw [hs] at e; cases e
          · exact un_ff l f d _ b _ q
        | false =>
          rw [g1.1 rfl]
          have g2 := un_row l f S d (a + halfT (b - a)) b T1 u1 (by omega)
          refine ⟨fun e => ?_, fun e => ?_⟩
          · simp only [nodR] at e ⊢
            rw [g2.1 e]
          · simp only [nodR] at e
            exact g2.2 e
theorem und_1 {r : List UInt8} {f z : Int} {l : List Leaf} {S : List Dig} (h : BadU f z l ∨ (0 < z ∧ l.length = 0)) : undT r f z l S = false := if_pos h
theorem und_z {r : List UInt8} {f z : Int} {l : List Leaf} {S : List Dig} (h : ¬ BadU f z l) (hz : z = 0) : undT r f z l S = (decide (S.length = 0) && decide (rotT 0 (List.replicate 16 0) = r)) := by
  subst hz
  unfold undT
  rw [if_neg (fun q => q.elim h (fun q => absurd q.1 (by omega)))]
  rw [rooR_0 (by rfl)]
  have e : (0 = S.length) = (S.length = 0) := propext ⟨fun h => h.symm, fun h => h.symm⟩
  simp only [e, Bool.not_false, Bool.true_and]
  rfl
theorem und_n {r : List UInt8} {f z : Nat} {l : List Leaf} {S : List Dig} (h : ¬ BadU f z l) (hz : ¬ z = 0) (hl : ¬ l.length = 0) :
    undT r f z l S = ((unO l f 12 0 z (true, S)).2.1 && decide ((unO l f 12 0 z (true, S)).2.2.length = 0) && decide (rotT z (unO l f 12 0 z (true, S)).1 = r)) := by
  unfold undT
  rw [if_neg (fun q => q.elim h (fun q => hl q.2))]
  rw [show ((f : Nat) : Int).toNat = f from rfl, show ((z : Nat) : Int).toNat = z from rfl, rooR_n hz]
  have g := un_row l f S 12 0 z [] 0 (Nat.zero_le _)
  have hb := rowR_bd l f S 12 0 z ([], 0, false)
  rw [List.drop_zero] at g
  generalize rowR l f S 12 0 z ([], 0, false) = X at *
  obtain ⟨x, T1, u1, s1⟩ := X
  simp only at g hb ⊢
  cases s1 with
  | true => rw [g.2 rfl]; rfl
  | false =>
    rw [g.1 rfl]
    have e : ((S.drop u1).length = 0) = (u1 = S.length) := by rw [List.length_drop]; apply propext; omega
    have e2 : ofT 4 [wint ((z : Nat) : Int), x] = rotT z x := by unfold rotT; rw [if_neg hz]
    simp only [e, e2, Bool.not_false, Bool.true_and]
def chkT (r k : List UInt8) (f z : Int) (l : List Leaf) (S : List Dig) : List UInt8 × Bool × Nat :=
  if undT r f z l S = true then (if fromT l k < l.length ∧ (gt l (fromT l k)).1 = k then ((gt l (fromT l k)).2, true, 0)
    else if (0 < fromT l k ∨ f = 0) ∧ (fromT l k < l.length ∨ f + l.length = z) then ([], false, 0) else ([], false, 17)) else ([], false, 17)
def crgT (r x y : List UInt8) (f z : Int) (l : List Leaf) (S : List Dig) : List Leaf × Nat :=
  if bl y x = true then ([], 5) else if undT r f z l S = true then (if (0 < f ∧ fromT l x = 0) ∨ (f + l.length < z ∧ fromT l y = l.length) then ([], 17) else ((l.drop (fromT l x)).take (fromT l y - fromT l x), 0)) else ([], 17)
theorem und_srt {r : List UInt8} {f z : Int} {l : List Leaf} {S : List Dig} (h : undT r f z l S = true) : valT l = 0 ∧ 0 ≤ f ∧ f ≤ z ∧ z ≤ 4096 ∧ f + l.length ≤ z := by
  have hb : ¬ BadU f z l := fun q => by rw [und_1 (Or.inl q)] at h; cases h
  unfold BadU at hb
  refine ⟨?_, by omega, by omega, by omega, by omega⟩
  by_cases e : valT l = 0
  · exact e
  · exact absurd (Or.inr (Or.inr (Or.inr (Or.inr (Or.inr e))))) hb
end Go.Sx
namespace Go.Sx
open Go.RowKit Go.Proofs
set_option maxRecDepth 100000
set_option maxHeartbeats 8000000
theorem X_fc61 {p : Prop} (e : p := by intro KZ hZ; simp -implicitDefEqProofs (disch := first | omega | (simp only [go_sem, lA, lD, lT, hr, hx1, rotT_len] <;> omega) | decide) only [go_sem, ↓reduceIte, Nat.reduceEqDiff, reduceCtorEq, Nat.reduceLT, Nat.reduceBEq, Nat.reduceAdd, int_nI', e15, b1, b2, b3, b4, b5, b6, c1, c2, c3, hy]; with_reducible exact hZ) : p := e
theorem Y_fc61 {p : Prop} (e : p := by intro KZ hZ; simp -implicitDefEqProofs (disch := first | omega | (simp only [go_sem, lA, lD, lT, hr, hx1, rotT_len] <;> omega) | decide) only [go_sem, ↓reduceIte, Nat.reduceEqDiff, reduceCtorEq, Nat.reduceLT, Nat.reduceBEq, Nat.reduceAdd, int_nI', e15, b1, b2, b3, b4, b5, b6, c1, c2, c3, hy]; with_reducible refine And.intro ?_ hZ; first | exact rfl | decide) : p := e
theorem F_fc61 {p : Prop} (e : p := by simp -implicitDefEqProofs (disch := first | omega | (simp only [go_sem, lA, lD, lT, hr, hx1, rotT_len] <;> omega) | decide) only [go_sem, ↓reduceIte, Nat.reduceEqDiff, reduceCtorEq]; all_goals (first | (rw [hR]; done) | (rw [hR]; simp [c1]; done) | (rw [hR]; simp [c2, c3]; done) | (rw [hR]; simp [c2]; done))) : p := e
theorem fc61 {gl : Nat → C} {M0 : Nat} {pu : Nat → List C → Option C} {hp : Nat → List C → Hp → Option (C × Hp)} (hcx : CxOK (cxR gl M0 pu hp)) (r : List UInt8) (f z : Int) (l : List Leaf) (S : List Dig) (hr : r.length = 16) (hf : -9223372036854775808 ≤ f ∧ f ≤ 9223372036854775807) (hz : -9223372036854775808 ≤ z ∧ z ≤ 9223372036854775807) (hl : LB l) (hS : S.length ≤ 1000000)  (hnr : ∀ (g : Nat) (xs : List C), noRefs 0 xs = false → pu g xs = none) (h15 : ∀ l : List Leaf, LB l → pu 15 [sl eC .no l] = some (.val (nI (valT l)))) (h50 : ∀ (n : Nat) (d : List UInt8), n ≤ 4096 → d.length = 16 → pu 50 [.val (nI n), .agg (cl bC d)] = some (.agg (cl bC (rotT n d)))) (hq93 : ∀ (suf : Hp) (l : List Leaf) (f z : Nat) (S0 : List Dig) (st : US) (d a b : Nat), OkH suf → OkL l → f ≤ 5000 → st.2.length ≤ 1000000 → a < b ∧ b ≤ 5000 ∧ b - a ≤ 2 ^ d → hp 93 [.val (nI a), .val (nI b), .bp 0 0, .kp [.val (nI f), .val (nI z), sl eC .no l, sl dC .no S0], .kp [.val (nI (f + l.length))], .bp 1 0, atG 93 [.bp 0 0, .kp [.val (nI f), .val (nI z), sl eC .no l, sl dC .no S0], .kp [.val (nI (f + l.length))], .bp 1 0] d] ([some [.val (.bool st.1)], some [sl dC .no st.2]] ++ suf) = some (.agg (cl bC (unO l f d a b st).1), [some [.val (.bool (unO l f d a b st).2.1)], some [sl dC .no (unO l f d a b st).2.2]] ++ suf)) : FC Tryd.prog gl 61 [.agg [.val (.int .i64 f), .val (.int .i64 z), sl eC .no l, sl dC .no S], .agg (cl bC r)] [] (.val (.bool (undT r f z l S))) [] := by
 replace hcx := hcx.reN (M := 86)
 refine FC.ofA (cx := cxR gl 86 pu hp) (rs := [.tmp 4]) rfl Tryd.func61 rfl rfl rfl (by simp only [List.length_cons, List.length_nil]; decide) (by simp only [go_sem]) ?_
 simp only [ini, go_sem]
 have b1 := True.intro
 have b2 := True.intro
 have b3 := True.intro
 have b4 := True.intro
 have b5 := True.intro
 have b6 := True.intro
 have c1 := True.intro
 have c2 := True.intro
 have c3 := True.intro
 have hy := True.intro
 have e15 := h15 l hl
 have hl1 := hl.1
 have hx1 := True.intro
 obtain ⟨W, hW⟩ : ∃ W, IntKind.i64.wrap (f + ((l.length : Nat) : Int)) = W := ⟨_, rfl⟩
 refine Tr.w hcx [] _ [none, none] rfl rfl rfl ?_ X_fc61
 have hy := And.intro @i_addW @hW
 refine Tr.w hcx [] _ [none] rfl rfl rfl ?_ X_fc61
 refine Tr.k [2, 3, 5] ?_
 refine Tr.seqK fun K1 hK1 => ?_
 by_cases b1 : z < ((0 : Nat) : Int)
 ·
  have hB : BadU f z l := Or.inl (by omega)
  have hy := True.intro
  refine Tr.w hcx [] [some 16, some 17, some 18, some 19, some 20, some 21, some 22, some 23, some 24, some 25, some 26, some 27, some 28, some 29, some 30, some 31, some 32, some 33, some 34, some 35, some 36, some 37, some 38, some 39, some 40, some 41, some 42, some 43, some 44, some 45, some 46, some 47] [] rfl rfl rfl ?_ X_fc61
  refine Tr.k [2, 3, 5, 47] ?_
  refine Tr.cT rfl ?_
  have hR := und_1 (r := r) (S := S) (Or.inl hB)
  refine Tr.w hcx [] _ [] rfl rfl rfl ?_ X_fc61
  exact Tr.ret F_fc61
 skip
 by_cases b2 : ((4096 : Nat) : Int) < z
 ·
  have hB : BadU f z l := Or.inr (Or.inl (by omega))
  have hy := True.intro
  refine Tr.w hcx [] [some 16, some 17, some 18, some 19, some 20, some 21, some 22, some 23, some 24, some 25, some 26, some 27, some 28, some 29, some 30, some 31, some 32, some 33, some 34, some 35, some 36, some 37, some 38, some 39, some 40, some 41, some 42, some 43, some 44, some 45, some 46, some 47] [] rfl rfl rfl ?_ X_fc61
  refine Tr.k [2, 3, 5, 47] ?_
  refine Tr.cT rfl ?_
  have hR := und_1 (r := r) (S := S) (Or.inl hB)
  refine Tr.w hcx [] _ [] rfl rfl rfl ?_ X_fc61
  exact Tr.ret F_fc61
 skip
 by_cases b3 : f < ((0 : Nat) : Int)
 ·
  have hB : BadU f z l := Or.inr (Or.inr (Or.inl (by omega)))
  have hy := True.intro
  refine Tr.w hcx [] [some 16, some 17, some 18, some 19, some 20, some 21, some 22, some 23, some 24, some 25, some 26, some 27, some 28, some 29, some 30, some 31, some 32, some 33, some 34, some 35, some 36, some 37, some 38, some 39, some 40, some 41, some 42, some 43, some 44, some 45, some 46, some 47] [] rfl rfl rfl ?_ X_fc61
  refine Tr.k [2, 3, 5, 47] ?_
  refine Tr.cT rfl ?_
  have hR := und_1 (r := r) (S := S) (Or.inl hB)
  refine Tr.w hcx [] _ [] rfl rfl rfl ?_ X_fc61
  exact Tr.ret F_fc61
 skip
 by_cases b4 : z < f
 ·
  have hB : BadU f z l := Or.inr (Or.inr (Or.inr (Or.inl b4)))
  have hy := True.intro
  refine Tr.w hcx [] [some 16, some 17, some 18, some 19, some 20, some 21, some 22, some 23, some 24, some 25, some 26, some 27, some 28, some 29, some 30, some 31, some 32, some 33, some 34, some 35, some 36, some 37, some 38, some 39, some 40, some 41, some 42, some 43, some 44, some 45, some 46, some 47] [] rfl rfl rfl ?_ X_fc61
  refine Tr.k [2, 3, 5, 47] ?_
  refine Tr.cT rfl ?_
  have hR := und_1 (r := r) (S := S) (Or.inl hB)
  refine Tr.w hcx [] _ [] rfl rfl rfl ?_ X_fc61
  exact Tr.ret F_fc61
 rw [wrap_i64 _ (by omega) (by omega)] at hW
 by_cases b5 : z < W
 ·
  have hB : BadU f z l := Or.inr (Or.inr (Or.inr (Or.inr (Or.inl (by omega)))))
  have hy := True.intro
  refine Tr.w hcx [] [some 16, some 17, some 18, some 19, some 20, some 21, some 22, some 23, some 24, some 25, some 26, some 27, some 28, some 29, some 30, some 31, some 32, some 33, some 34, some 35, some 36, some 37, some 38, some 39, some 40, some 41, some 42, some 43, some 44, some 45, some 46, some 47] [] rfl rfl rfl ?_ X_fc61
  refine Tr.k [2, 3, 5, 47] ?_
  refine Tr.cT rfl ?_
  have hR := und_1 (r := r) (S := S) (Or.inl hB)
  refine Tr.w hcx [] _ [] rfl rfl rfl ?_ X_fc61
  exact Tr.ret F_fc61
 skip
 by_cases b6 : valT l = 0
 ·
  have hB : ¬ BadU f z l := fun q => by
    unfold BadU at q; omega
  have hok := valT_ok (l := l) (by omega)
  have hy := True.intro
  refine Tr.w hcx [] [some 16, some 17, some 18, some 19, some 20, some 21, some 22, some 23, some 24, some 25, some 26, some 27, some 28, some 29, some 30, some 31, some 32, some 33, some 34, some 35, some 36, some 37, some 38, some 39, some 40, some 41, some 42, some 43, some 44, some 45, some 46, some 47] [] rfl rfl rfl ?_ X_fc61
  refine Tr.k [2, 3, 5, 47] ?_
  refine Tr.cF rfl ?_
  refine Tr.skip ?_
  refine hK1 _ ?_
  refine Tr.seqK fun K2 hK2 => ?_
  obtain ⟨z, rfl⟩ : ∃ n : Nat, z = (n : Int) := ⟨z.toNat, by omega⟩
  obtain ⟨f, rfl⟩ : ∃ n : Nat, f = (n : Int) := ⟨f.toNat, by omega⟩
  have hW2 : W = ((f + l.length : Nat) : Int) := by omega
  have hll := hok.1
  refine Tr.w hcx [] _ [] rfl rfl rfl ?_ X_fc61
  refine Tr.cD rfl (fun hc50 => ?_) (fun hc50 => ?_)
  ·
   have hR := und_z (r := r) (S := S) hB (by omega)
   have e50 := h50 0 (List.replicate 16 0) (by omega) rfl
   by_cases c1 : S.length = 0
   ·
    have hy := And.intro @e50 @eq23
    refine Tr.wD hcx hMOR [1000060] [some 51, some 52, some 53, some 54, some 55, some 56, some 57, some 58, some 59, some 60, some 4] [] rfl rfl rfl rfl ?_ Y_fc61
    exact Tr.ret F_fc61
   have hy := And.intro @e50 @eq23
   refine Tr.wD hcx hMOR [1000060] [some 51, some 52, some 53, some 54, some 55, some 56, some 57, some 58, some 59, some 60, some 4] [] rfl rfl rfl rfl ?_ Y_fc61
   exact Tr.ret F_fc61
  refine Tr.skip ?_
  refine hK2 _ ?_
  refine Tr.seqK fun K3 hK3 => ?_
  refine Tr.w hcx [] _ [] rfl rfl rfl ?_ X_fc61
  refine Tr.cD rfl (fun hc64 => ?_) (fun hc64 => ?_)
  ·
   have hR := und_1 (r := r) (S := S) (f := f) (z := z) (l := l) (Or.inr ⟨by omega, by omega⟩)
   refine Tr.w hcx [] _ [] rfl rfl rfl ?_ X_fc61
   exact Tr.ret F_fc61
  refine Tr.skip ?_
  refine hK3 _ ?_
  refine Tr.w hcx [] _ [none, none] rfl rfl rfl ?_ X_fc61
  refine Tr.w hcx [] _ [none] rfl rfl rfl ?_ X_fc61
  refine Tr.w hcx [] _ [] rfl rfl rfl ?_ X_fc61
  subst hW2
  simp only [int_nI']
  refine Tr.k [2, 3, 6, 7, 8] ?_
  refine Tr.f1 hcx 0 [.val (nI f), .val (nI z), sl eC .no l, sl dC .no S] ?_
  refine Tr.f1 hcx 2 [.val (nI (f + l.length))] ?_
  refine Tr.f2 hcx 5 12 93 [.bp 4 0, .kp [.val (nI f), .val (nI z), sl eC .no l, sl dC .no S], .kp [.val (nI (f + l.length))], .bp 3 0] ?_
  refine Tr.m1 hcx [4, 3, 1] ?_
  have e93 := hq93 [some (cl bC r), none] l f z S (true, S) 12 0 z (OkH.cons (okB_cl _) (OkH.cons rfl OkH.nil)) hok (by omega) hS (by omega)
  have hR := und_n (r := r) (S := S) hB (by omega) (by omega)
  obtain ⟨X, hX⟩ : ∃ X, X = unO l f 12 0 z (true, S) := ⟨_, rfl⟩
  have hXl : X.1.length = 16 := by rw [hX]; exact unO_len _ _ _ _ _ _
  rw [← hX] at e93 hR
  have hx1 := hXl
  simp only [List.cons_append, List.nil_append] at e93
  have e50 := h50 z X.1 (by omega) hXl
  have ep : ∀ x y : Nat, pu 93 [.val (nI x), .val (nI y), .bp 0 0, .kp [.val (nI f), .val (nI z), sl eC .no l, sl dC .no S], .kp [.val (nI (f + l.length))], .bp 1 0, atG 93 [.bp 0 0, .kp [.val (nI f), .val (nI z), sl eC .no l, sl dC .no S], .kp [.val (nI (f + l.length))], .bp 1 0] 12] = none := fun x y => hnr 93 _ rfl
  have hy := And.intro @e93 @ep
  refine Tr.w hcx [] _ [none] rfl rfl rfl ?_ X_fc61
  refine Tr.k [2, 3, 6, 7, 9] ?_
  by_cases c2 : X.2.1 = true
  ·
   skip
   by_cases c3 : X.2.2.length = 0
   ·
    have hy := And.intro @e50 @eq23
    refine Tr.wD hcx hMOR [1000085] [some 72, some 73, some 74, some 75, some 76, some 77, some 78, some 79, some 80, some 81, some 82, some 83, some 84, some 85, some 4] [] rfl rfl rfl rfl ?_ Y_fc61
    exact Tr.ret F_fc61
   have hy := And.intro @e50 @eq23
   refine Tr.wD hcx hMOR [1000085] [some 72, some 73, some 74, some 75, some 76, some 77, some 78, some 79, some 80, some 81, some 82, some 83, some 84, some 85, some 4] [] rfl rfl rfl rfl ?_ Y_fc61
   exact Tr.ret F_fc61
  replace c2 := Bool.eq_false_iff.2 c2
  have hy := And.intro @e50 @eq23
  refine Tr.wD hcx hMOR [1000085] [some 72, some 73, some 74, some 75, some 76, some 77, some 78, some 79, some 80, some 81, some 82, some 83, some 84, some 85, some 4] [] rfl rfl rfl rfl ?_ Y_fc61
  exact Tr.ret F_fc61
 have hB : BadU f z l := Or.inr (Or.inr (Or.inr (Or.inr (Or.inr b6))))
 have hy := True.intro
 refine Tr.w hcx [] [some 16, some 17, some 18, some 19, some 20, some 21, some 22, some 23, some 24, some 25, some 26, some 27, some 28, some 29, some 30, some 31, some 32, some 33, some 34, some 35, some 36, some 37, some 38, some 39, some 40, some 41, some 42, some 43, some 44, some 45, some 46, some 47] [] rfl rfl rfl ?_ X_fc61
 refine Tr.k [2, 3, 5, 47] ?_
 refine Tr.cT rfl ?_
 have hR := und_1 (r := r) (S := S) (Or.inl hB)
 refine Tr.w hcx [] _ [] rfl rfl rfl ?_ X_fc61
 exact Tr.ret F_fc61
end Go.Sx
namespace Go.Sx
open Go.RowKit Go.Proofs
set_option maxRecDepth 100000
set_option maxHeartbeats 8000000
section
variable {r k x y : List UInt8} {f z : Int} {l : List Leaf} {S : List Dig} {i a b : Nat}
theorem chk_1 (h : undT r f z l S = false) : chkT r k f z l S = ([], false, 17) := by unfold chkT; rw [if_neg (by rw [h]; simp)]
theorem chk_2 (hi : fromT l k = i) (h : undT r f z l S = true) (h2 : i < l.length) (h3 : (gt l i).1 = k) : chkT r k f z l S = ((gt l i).2, true, 0) := by subst hi; unfold chkT; rw [if_pos h, if_pos ⟨h2, h3⟩]
theorem chk_3 (hi : fromT l k = i) (h : undT r f z l S = true) (h2 : ¬ (i < l.length ∧ (gt l i).1 = k)) (h3 : (0 < i ∨ f = 0) ∧ (i < l.length ∨ f + l.length = z)) : chkT r k f z l S = ([], false, 0) := by subst hi; unfold chkT; rw [if_pos h, if_neg h2, if_pos h3]
theorem chk_4 (hi : fromT l k = i) (h : undT r f z l S = true) (h2 : ¬ (i < l.length ∧ (gt l i).1 = k)) (h3 : ¬ ((0 < i ∨ f = 0) ∧ (i < l.length ∨ f + l.length = z))) : chkT r k f z l S = ([], false, 17) := by subst hi; unfold chkT; rw [if_pos h, if_neg h2, if_neg h3]
theorem crg_1 (h : bl y x = true) : crgT r x y f z l S = ([], 5) := if_pos h
theorem crg_2 (h : bl y x = false) (h2 : undT r f z l S = false) : crgT r x y f z l S = ([], 17) := by unfold crgT; rw [if_neg (by rw [h]; simp), if_neg (by rw [h2]; simp)]
theorem crg_3 (hx : fromT l x = a) (hy : fromT l y = b) (h : bl y x = false) (h2 : undT r f z l S = true) (h3 : (0 < f ∧ a = 0) ∨ (f + l.length < z ∧ b = l.length)) : crgT r x y f z l S = ([], 17) := by subst hx hy; unfold crgT; rw [if_neg (by rw [h]; simp), if_pos h2, if_pos h3]
theorem crg_4 (hx : fromT l x = a) (hy : fromT l y = b) (h : bl y x = false) (h2 : undT r f z l S = true) (h3 : ¬ ((0 < f ∧ a = 0) ∨ (f + l.length < z ∧ b = l.length))) : crgT r x y f z l S = ((l.drop a).take (b - a), 0) := by subst hx hy; unfold crgT; rw [if_neg (by rw [h]; simp), if_pos h2, if_neg h3]
end
theorem X_fc29 {p : Prop} (e : p := by intro KZ hZ; simp -implicitDefEqProofs (maxSteps := 2000000) (disch := first | omega | (simp only [go_sem, lA, lD, lT, hr] <;> omega) | decide) only [go_sem, ↓reduceIte, Nat.reduceEqDiff, reduceCtorEq, Nat.reduceLT, Nat.reduceBEq, Nat.reduceAdd, int_nI', e61, b1, b2, b3, b4, b5, b6, hy]; with_reducible exact hZ) : p := e
theorem F_fc29 {p : Prop} (e : p := by simp -implicitDefEqProofs (disch := first | omega | (simp only [go_sem, lA, lD, lT, hr] <;> omega) | decide) only [go_sem, ↓reduceIte, Nat.reduceEqDiff, reduceCtorEq]; all_goals (rw [hR])) : p := e
theorem fc29 {gl : Nat → C} {M : Nat} {pu : Nat → List C → Option C}  (hcx : CxOK (cxP gl M pu))  (h61 : ∀ (r : List UInt8) (f z : Int) (l : List Leaf) (S : List Dig), r.length = 16 → (-9223372036854775808 ≤ f ∧ f ≤ 9223372036854775807) → (-9223372036854775808 ≤ z ∧ z ≤ 9223372036854775807) → LB l → S.length ≤ 1000000 → pu 61 [.agg [.val (.int .i64 f), .val (.int .i64 z), sl eC .no l, sl dC .no S], .agg (cl bC r)] = some (.val (.bool (undT r f z l S)))) (h56 : ∀ (l : List Leaf) (k : List UInt8), Srt l → l.length ≤ 1000000 → pu 56 [sl eC .no l, .val (str k)] = some (.val (nI (fromT l k)))) (r k : List UInt8) (f z : Int) (l : List Leaf) (S : List Dig) (hr : r.length = 16) (hf : -9223372036854775808 ≤ f ∧ f ≤ 9223372036854775807) (hz : -9223372036854775808 ≤ z ∧ z ≤ 9223372036854775807) (hl : LB l) (hS : S.length ≤ 1000000) : FC Tryd.prog gl 29 [.agg (cl bC r), .val (str k), .agg [.val (.int .i64 f), .val (.int .i64 z), sl eC .no l, sl dC .no S]] [] (.tup [.val (str (chkT r k f z l S).1), .val (.bool (chkT r k f z l S).2.1), .val (nI (chkT r k f z l S).2.2)]) [] := by
 replace hcx := hcx.reN (M := 66)
 refine FC.ofA (cx := cxP gl 66 pu) (rs := [.tmp 6, .tmp 7, .tmp 8]) rfl Tryd.func29 rfl rfl rfl (by simp only [List.length_cons, List.length_nil]; decide) (by simp only [go_sem]) ?_
 simp only [ini, go_sem]
 have b1 := True.intro
 have b2 := True.intro
 have b3 := True.intro
 have b4 := True.intro
 have b5 := True.intro
 have b6 := True.intro
 have hy := True.intro
 have e61 := h61 r f z l S hr hf hz hl hS
 refine Tr.w hcx [] _ [none, none] rfl rfl rfl ?_ X_fc29
 refine Tr.seqK fun K1 hK1 => ?_
 by_cases b1 : undT r f z l S = true
 ·
  have hU := und_srt b1
  have hsr := valT_srt hU.1
  obtain ⟨z, rfl⟩ : ∃ n : Nat, z = (n : Int) := ⟨z.toNat, by omega⟩
  obtain ⟨f, rfl⟩ : ∃ n : Nat, f = (n : Int) := ⟨f.toNat, by omega⟩
  replace e61 : pu 61 [.agg [.val (nI f), .val (nI z), sl eC .no l, sl dC .no S], .agg (cl bC r)] = _ := e61
  have hy := @e61
  refine Tr.w hcx [] _ [] rfl rfl rfl ?_ X_fc29
  refine Tr.cF rfl ?_
  refine Tr.skip ?_
  refine hK1 _ ?_
  have e56 := h56 l k hsr (by omega)
  have hfl := from_le l k
  obtain ⟨i, hi⟩ : ∃ i, fromT l k = i := ⟨_, rfl⟩
  rw [hi] at e56 hfl
  have hy := @e56
  refine Tr.w hcx [1000017] _ [] rfl rfl rfl ?_ X_fc29
  refine Tr.k [1, 5, 9] ?_
  refine Tr.seqK fun K2 hK2 => ?_
  refine Tr.blk ?_
  by_cases b2 : i < l.length
  ·
   by_cases b3 : (gt l i).1 = k
   ·
    have hy := True.intro
    refine Tr.w hcx [1000033] [some 19, some 20, some 21, some 22, some 23, some 24, some 25, some 26, some 27, some 28, some 29, some 30, some 31, some 32, some 33, some 18] [] rfl rfl rfl ?_ X_fc29
    refine Tr.cT rfl ?_
    have hR := chk_2 hi b1 b2 b3
    refine Tr.w hcx [1000039] _ [] rfl rfl rfl ?_ X_fc29
    refine Tr.k [6, 7, 8] ?_
    exact Tr.ret F_fc29
   have hy := True.intro
   refine Tr.w hcx [1000033] [some 19, some 20, some 21, some 22, some 23, some 24, some 25, some 26, some 27, some 28, some 29, some 30, some 31, some 32, some 33, some 18] [] rfl rfl rfl ?_ X_fc29
   refine Tr.cF rfl ?_
   by_cases b4 : 0 < i
   ·
    refine Tr.w hcx [1000065] [some 41, some 42, some 43, some 44, some 45, some 46, some 47, some 48, some 49, some 50, some 51, some 52, some 53, some 54, some 55, some 56, some 57, some 58, some 59, some 60, some 61, some 62, some 63, some 64, some 65, some 40] [] rfl rfl rfl ?_ X_fc29
    refine Tr.k [40] ?_
    refine Tr.cT rfl ?_
    have hR := chk_3 hi b1 (fun h => b3 h.2) ⟨Or.inl b4, Or.inl b2⟩
    refine Tr.w hcx [] _ [] rfl rfl rfl ?_ X_fc29
    exact Tr.ret F_fc29
   by_cases b5 : f = 0
   ·
    have b5o := b5
    replace b5 := eq_true b5
    refine Tr.w hcx [1000065] [some 41, some 42, some 43, some 44, some 45, some 46, some 47, some 48, some 49, some 50, some 51, some 52, some 53, some 54, some 55, some 56, some 57, some 58, some 59, some 60, some 61, some 62, some 63, some 64, some 65, some 40] [] rfl rfl rfl ?_ X_fc29
    refine Tr.k [40] ?_
    refine Tr.cT rfl ?_
    have hR := chk_3 hi b1 (fun h => b3 h.2) ⟨Or.inr (by omega), Or.inl b2⟩
    refine Tr.w hcx [] _ [] rfl rfl rfl ?_ X_fc29
    exact Tr.ret F_fc29
   have b5o := b5
   replace b5 := eq_false b5
   refine Tr.w hcx [1000065] [some 41, some 42, some 43, some 44, some 45, some 46, some 47, some 48, some 49, some 50, some 51, some 52, some 53, some 54, some 55, some 56, some 57, some 58, some 59, some 60, some 61, some 62, some 63, some 64, some 65, some 40] [] rfl rfl rfl ?_ X_fc29
   refine Tr.k [40] ?_
   refine Tr.cF rfl ?_
   refine Tr.skip ?_
   refine hK2 _ ?_
   have hR := chk_4 hi b1 (fun h => b3 h.2) (by omega)
   refine Tr.w hcx [] _ [] rfl rfl rfl ?_ X_fc29
   exact Tr.ret F_fc29
  have hy := True.intro
  refine Tr.w hcx [1000033] [some 19, some 20, some 21, some 22, some 23, some 24, some 25, some 26, some 27, some 28, some 29, some 30, some 31, some 32, some 33, some 18] [] rfl rfl rfl ?_ X_fc29
  refine Tr.cF rfl ?_
  by_cases b4 : 0 < i
  ·
   by_cases b6 : f + l.length = z
   ·
    have b6o := b6
    replace b6 := eq_true b6
    refine Tr.w hcx [1000065] [some 41, some 42, some 43, some 44, some 45, some 46, some 47, some 48, some 49, some 50, some 51, some 52, some 53, some 54, some 55, some 56, some 57, some 58, some 59, some 60, some 61, some 62, some 63, some 64, some 65, some 40] [] rfl rfl rfl ?_ X_fc29
    refine Tr.k [40] ?_
    refine Tr.cT rfl ?_
    have hR := chk_3 hi b1 (fun h => b2 h.1) ⟨Or.inl b4, Or.inr (by omega)⟩
    refine Tr.w hcx [] _ [] rfl rfl rfl ?_ X_fc29
    exact Tr.ret F_fc29
   have b6o := b6
   replace b6 := eq_false b6
   refine Tr.w hcx [1000065] [some 41, some 42, some 43, some 44, some 45, some 46, some 47, some 48, some 49, some 50, some 51, some 52, some 53, some 54, some 55, some 56, some 57, some 58, some 59, some 60, some 61, some 62, some 63, some 64, some 65, some 40] [] rfl rfl rfl ?_ X_fc29
   refine Tr.k [40] ?_
   refine Tr.cF rfl ?_
   refine Tr.skip ?_
   refine hK2 _ ?_
   have hR := chk_4 hi b1 (fun h => b2 h.1) (by omega)
   refine Tr.w hcx [] _ [] rfl rfl rfl ?_ X_fc29
   exact Tr.ret F_fc29
  by_cases b5 : f = 0
  ·
   have b5o := b5
   replace b5 := eq_true b5
   by_cases b6 : f + l.length = z
   ·
    have b6o := b6
    replace b6 := eq_true b6
    refine Tr.w hcx [1000065] [some 41, some 42, some 43, some 44, some 45, some 46, some 47, some 48, some 49, some 50, some 51, some 52, some 53, some 54, some 55, some 56, some 57, some 58, some 59, some 60, some 61, some 62, some 63, some 64, some 65, some 40] [] rfl rfl rfl ?_ X_fc29
    refine Tr.k [40] ?_
    refine Tr.cT rfl ?_
    have hR := chk_3 hi b1 (fun h => b2 h.1) ⟨Or.inr (by omega), Or.inr (by omega)⟩
    refine Tr.w hcx [] _ [] rfl rfl rfl ?_ X_fc29
    exact Tr.ret F_fc29
   have b6o := b6
   replace b6 := eq_false b6
   refine Tr.w hcx [1000065] [some 41, some 42, some 43, some 44, some 45, some 46, some 47, some 48, some 49, some 50, some 51, some 52, some 53, some 54, some 55, some 56, some 57, some 58, some 59, some 60, some 61, some 62, some 63, some 64, some 65, some 40] [] rfl rfl rfl ?_ X_fc29
   refine Tr.k [40] ?_
   refine Tr.cF rfl ?_
   refine Tr.skip ?_
   refine hK2 _ ?_
   have hR := chk_4 hi b1 (fun h => b2 h.1) (by omega)
   refine Tr.w hcx [] _ [] rfl rfl rfl ?_ X_fc29
   exact Tr.ret F_fc29
  have b5o := b5
  replace b5 := eq_false b5
  refine Tr.w hcx [1000065] [some 41, some 42, some 43, some 44, some 45, some 46, some 47, some 48, some 49, some 50, some 51, some 52, some 53, some 54, some 55, some 56, some 57, some 58, some 59, some 60, some 61, some 62, some 63, some 64, some 65, some 40] [] rfl rfl rfl ?_ X_fc29
  refine Tr.k [40] ?_
  refine Tr.cF rfl ?_
  refine Tr.skip ?_
  refine hK2 _ ?_
  have hR := chk_4 hi b1 (fun h => b2 h.1) (by omega)
  refine Tr.w hcx [] _ [] rfl rfl rfl ?_ X_fc29
  exact Tr.ret F_fc29
 replace b1 := Bool.eq_false_iff.2 b1
 have hy := @e61
 refine Tr.w hcx [] _ [] rfl rfl rfl ?_ X_fc29
 refine Tr.cT rfl ?_
 have hR := chk_1 (k := k) b1
 have hy := True.intro
 refine Tr.w hcx [] _ [] rfl rfl rfl ?_ X_fc29
 exact Tr.ret F_fc29
theorem X_fc32 {p : Prop} (e : p := by intro KZ hZ; simp -implicitDefEqProofs (disch := first | omega | (simp only [go_sem, lA, lD, lT, hr] <;> omega) | decide) only [go_sem, ↓reduceIte, Nat.reduceEqDiff, reduceCtorEq, Nat.reduceLT, Nat.reduceBEq, Nat.reduceAdd, int_nI', e61, b0, b1, b2, b3, b4, b5, hy]; with_reducible exact hZ) : p := e
theorem Y_fc32 {p : Prop} (e : p := by intro KZ hZ; simp -implicitDefEqProofs (disch := first | omega | (simp only [go_sem, lA, lD, lT, hr] <;> omega) | decide) only [go_sem, ↓reduceIte, Nat.reduceEqDiff, reduceCtorEq, Nat.reduceLT, Nat.reduceBEq, Nat.reduceAdd, int_nI', e61, b0, b1, b2, b3, b4, b5, hy]; with_reducible refine And.intro ?_ hZ; first | exact rfl | decide) : p := e
theorem F_fc32 {p : Prop} (e : p := by simp -implicitDefEqProofs (disch := first | omega | (simp only [go_sem, lA, lD, lT, hr] <;> omega) | decide) only [go_sem, ↓reduceIte, Nat.reduceEqDiff, reduceCtorEq]; all_goals (first | (rw [hR]; done))) : p := e
theorem fc32 {gl : Nat → C} {M : Nat} {pu : Nat → List C → Option C}  (hcx : CxOK (cxP gl M pu))  (h61 : ∀ (r : List UInt8) (f z : Int) (l : List Leaf) (S : List Dig), r.length = 16 → (-9223372036854775808 ≤ f ∧ f ≤ 9223372036854775807) → (-9223372036854775808 ≤ z ∧ z ≤ 9223372036854775807) → LB l → S.length ≤ 1000000 → pu 61 [.agg [.val (.int .i64 f), .val (.int .i64 z), sl eC .no l, sl dC .no S], .agg (cl bC r)] = some (.val (.bool (undT r f z l S)))) (h56 : ∀ (l : List Leaf) (k : List UInt8), Srt l → l.length ≤ 1000000 → pu 56 [sl eC .no l, .val (str k)] = some (.val (nI (fromT l k)))) (h63 : ∀ l : List Leaf, l.length ≤ 1000000 → pu 63 [sl eC .no l] = some (sl eC (.own 2) l)) (r x y : List UInt8) (f z : Int) (l : List Leaf) (S : List Dig) (hr : r.length = 16) (hf : -9223372036854775808 ≤ f ∧ f ≤ 9223372036854775807) (hz : -9223372036854775808 ≤ z ∧ z ≤ 9223372036854775807) (hl : LB l) (hS : S.length ≤ 1000000) : FC Tryd.prog gl 32 [.agg (cl bC r), .val (str x), .val (str y), .agg [.val (.int .i64 f), .val (.int .i64 z), sl eC .no l, sl dC .no S]] [] (.tup [sl eC .no (crgT r x y f z l S).1, .val (nI (crgT r x y f z l S).2)]) [] := by
 replace hcx := hcx.reN (M := 58)
 refine FC.ofA (cx := cxP gl 58 pu) (rs := [.tmp 8, .tmp 9]) rfl Tryd.func32 rfl rfl rfl (by simp only [List.length_cons, List.length_nil]; decide) (by simp only [go_sem]) ?_
 simp only [ini, go_sem]
 have b0 := True.intro
 have b1 := True.intro
 have b2 := True.intro
 have b3 := True.intro
 have b4 := True.intro
 have b5 := True.intro
 have hy := True.intro
 have e61 := h61 r f z l S hr hf hz hl hS
 refine Tr.w hcx [] _ [none, none] rfl rfl rfl ?_ X_fc32
 refine Tr.seqK fun K1 hK1 => ?_
 by_cases b0 : bl y x = true
 ·
  have hR := crg_1 (r := r) (f := f) (z := z) (l := l) (S := S) b0
  refine Tr.w hcx [] _ [] rfl rfl rfl ?_ X_fc32
  refine Tr.cT rfl ?_
  refine Tr.w hcx [] _ [] rfl rfl rfl ?_ X_fc32
  refine Tr.live [(8, sl eC .no []), (9, .val (nI 5))] LT ?_
  exact Tr.ret F_fc32
 replace b0 := Bool.eq_false_iff.2 b0
 refine Tr.w hcx [] _ [] rfl rfl rfl ?_ X_fc32
 refine Tr.cF rfl ?_
 refine Tr.skip ?_
 refine hK1 _ ?_
 refine Tr.seqK fun K2 hK2 => ?_
 by_cases b1 : undT r f z l S = true
 ·
  have hU := und_srt b1
  have hsr := valT_srt hU.1
  obtain ⟨z, rfl⟩ : ∃ n : Nat, z = (n : Int) := ⟨z.toNat, by omega⟩
  obtain ⟨f, rfl⟩ : ∃ n : Nat, f = (n : Int) := ⟨f.toNat, by omega⟩
  replace e61 : pu 61 [.agg [.val (nI f), .val (nI z), sl eC .no l, sl dC .no S], .agg (cl bC r)] = _ := e61
  have hy := @e61
  refine Tr.w hcx [] _ [] rfl rfl rfl ?_ X_fc32
  refine Tr.cF rfl ?_
  refine Tr.skip ?_
  refine hK2 _ ?_
  refine Tr.k [1, 2, 7] ?_
  have e56x := h56 l x hsr (by omega)
  have e56y := h56 l y hsr (by omega)
  have hfx := from_le l x
  have hfy := from_le l y
  have hxy := from_mono hsr b0
  obtain ⟨i, hi⟩ : ∃ i, fromT l x = i := ⟨_, rfl⟩
  obtain ⟨j, hj⟩ : ∃ j, fromT l y = j := ⟨_, rfl⟩
  rw [hi] at e56x hfx hxy
  rw [hj] at e56y hfy hxy
  have hy := And.intro @e56x @e56y
  refine Tr.wD hcx hMO [1000023, 1000027, 1000030] _ [] rfl rfl rfl rfl ?_ Y_fc32
  refine Tr.k [7, 10, 11, 12] ?_
  refine Tr.seqK fun K3 hK3 => ?_
  by_cases b2 : 0 < f
  ·
   by_cases b3 : i = 0
   ·
    have hy := True.intro
    refine Tr.w hcx [] [some 31, some 32, some 33, some 34, some 35, some 36, some 37, some 38, some 39, some 40, some 41, some 42, some 43, some 44, some 45, some 46, some 47, some 48, some 49, some 50, some 51] [] rfl rfl rfl ?_ X_fc32
    refine Tr.cT rfl ?_
    have hR := crg_3 hi hj b0 b1 (by omega)
    refine Tr.w hcx [] _ [] rfl rfl rfl ?_ X_fc32
    refine Tr.k [8, 9] ?_
    refine Tr.live [(8, sl eC .no []), (9, .val (nI 17))] LT ?_
    exact Tr.ret F_fc32
   by_cases b4 : f + l.length < z
   ·
    by_cases b5 : j = l.length
    ·
     have hy := True.intro
     refine Tr.w hcx [] [some 31, some 32, some 33, some 34, some 35, some 36, some 37, some 38, some 39, some 40, some 41, some 42, some 43, some 44, some 45, some 46, some 47, some 48, some 49, some 50, some 51] [] rfl rfl rfl ?_ X_fc32
     refine Tr.cT rfl ?_
     have hR := crg_3 hi hj b0 b1 (by omega)
     refine Tr.w hcx [] _ [] rfl rfl rfl ?_ X_fc32
     refine Tr.k [8, 9] ?_
     refine Tr.live [(8, sl eC .no []), (9, .val (nI 17))] LT ?_
     exact Tr.ret F_fc32
    have hy := True.intro
    refine Tr.w hcx [] [some 31, some 32, some 33, some 34, some 35, some 36, some 37, some 38, some 39, some 40, some 41, some 42, some 43, some 44, some 45, some 46, some 47, some 48, some 49, some 50, some 51] [] rfl rfl rfl ?_ X_fc32
    refine Tr.cF rfl ?_
    refine Tr.skip ?_
    refine hK3 _ ?_
    refine Tr.k [7, 10, 11] ?_
    have hR := crg_4 hi hj b0 b1 (by omega)
    have e63 := h63 ((l.drop i).take (j - i)) (by rw [List.length_take, List.length_drop]; omega)
    have hy := @e63
    refine Tr.w hcx [1000057] _ [] rfl rfl rfl ?_ X_fc32
    exact Tr.ret F_fc32
   have hy := True.intro
   refine Tr.w hcx [] [some 31, some 32, some 33, some 34, some 35, some 36, some 37, some 38, some 39, some 40, some 41, some 42, some 43, some 44, some 45, some 46, some 47, some 48, some 49, some 50, some 51] [] rfl rfl rfl ?_ X_fc32
   refine Tr.cF rfl ?_
   refine Tr.skip ?_
   refine hK3 _ ?_
   refine Tr.k [7, 10, 11] ?_
   have hR := crg_4 hi hj b0 b1 (by omega)
   have e63 := h63 ((l.drop i).take (j - i)) (by rw [List.length_take, List.length_drop]; omega)
   have hy := @e63
   refine Tr.w hcx [1000057] _ [] rfl rfl rfl ?_ X_fc32
   exact Tr.ret F_fc32
  by_cases b4 : f + l.length < z
  ·
   by_cases b5 : j = l.length
   ·
    have hy := True.intro
    refine Tr.w hcx [] [some 31, some 32, some 33, some 34, some 35, some 36, some 37, some 38, some 39, some 40, some 41, some 42, some 43, some 44, some 45, some 46, some 47, some 48, some 49, some 50, some 51] [] rfl rfl rfl ?_ X_fc32
    refine Tr.cT rfl ?_
    have hR := crg_3 hi hj b0 b1 (by omega)
    refine Tr.w hcx [] _ [] rfl rfl rfl ?_ X_fc32
    refine Tr.k [8, 9] ?_
    refine Tr.live [(8, sl eC .no []), (9, .val (nI 17))] LT ?_
    exact Tr.ret F_fc32
   have hy := True.intro
   refine Tr.w hcx [] [some 31, some 32, some 33, some 34, some 35, some 36, some 37, some 38, some 39, some 40, some 41, some 42, some 43, some 44, some 45, some 46, some 47, some 48, some 49, some 50, some 51] [] rfl rfl rfl ?_ X_fc32
   refine Tr.cF rfl ?_
   refine Tr.skip ?_
   refine hK3 _ ?_
   refine Tr.k [7, 10, 11] ?_
   have hR := crg_4 hi hj b0 b1 (by omega)
   have e63 := h63 ((l.drop i).take (j - i)) (by rw [List.length_take, List.length_drop]; omega)
   have hy := @e63
   refine Tr.w hcx [1000057] _ [] rfl rfl rfl ?_ X_fc32
   exact Tr.ret F_fc32
  have hy := True.intro
  refine Tr.w hcx [] [some 31, some 32, some 33, some 34, some 35, some 36, some 37, some 38, some 39, some 40, some 41, some 42, some 43, some 44, some 45, some 46, some 47, some 48, some 49, some 50, some 51] [] rfl rfl rfl ?_ X_fc32
  refine Tr.cF rfl ?_
  refine Tr.skip ?_
  refine hK3 _ ?_
  refine Tr.k [7, 10, 11] ?_
  have hR := crg_4 hi hj b0 b1 (by omega)
  have e63 := h63 ((l.drop i).take (j - i)) (by rw [List.length_take, List.length_drop]; omega)
  have hy := @e63
  refine Tr.w hcx [1000057] _ [] rfl rfl rfl ?_ X_fc32
  exact Tr.ret F_fc32
 replace b1 := Bool.eq_false_iff.2 b1
 have hy := @e61
 refine Tr.w hcx [] _ [] rfl rfl rfl ?_ X_fc32
 refine Tr.cT rfl ?_
 have hR := crg_2 b0 b1
 have hy := True.intro
 refine Tr.w hcx [] _ [] rfl rfl rfl ?_ X_fc32
 refine Tr.live [(8, sl eC .no []), (9, .val (nI 17))] LT ?_
 exact Tr.ret F_fc32
end Go.Sx
namespace Go.Sx
open Go.RowKit Go.Proofs
theorem row_shw {l : List Leaf} {f e : Nat} (he : f < e) (hel : e ≤ l.length) (S : List Dig) : ∀ d a b T u, d ≤ 12 → a < b → b ≤ l.length → b - a ≤ 2 ^ d → (∃ pre post, S = pre ++ (sdsT l f e d a b ++ post) ∧ pre.length = u) →
    (rowR ((l.drop f).take (e - f)) f S d a b (T, u, false)).1 = rowD l d a b ∧ (rowR ((l.drop f).take (e - f)) f S d a b (T, u, false)).2.2 = (u + (sdsT l f e d a b).length, false)
  | 0, a, b, T, u, hd, h1, h2, h3, h4 => by
    have hl : ((l.drop f).take (e - f)).length = e - f := by rw [List.length_take, List.length_drop]; omega
    obtain ⟨pre, post, rfl, rfl⟩ := h4
    by_cases h : b ≤ f ∨ e ≤ a
    · rw [rowR_s (by rw [hl]; omega), sds_s h]
      have e1 : ¬ (pre ++ ([rowG l a b] ++ post)).length ≤ (T, pre.length, false).2.1 := by simp
      rw [sidR_2 e1]
      have e2 : gt (pre ++ ([rowG l a b] ++ post)) pre.length = rowG l a b := by simp [gt, List.getD]
      simp only [e2, List.length_singleton, and_true]
      exact rowD_st l 12 0 a b (Nat.le_trans h3 (by decide)) h3
    · have h3' : b - a ≤ 1 := h3
      rw [rowR_l (by rw [hl]; omega) h3', sds_l h h3', rowD_1 h3', lefR, gt_sub l f (e - f) (a - f) (by omega) (by omega), show f + (a - f) = a by omega]
      exact ⟨rfl, rfl⟩
  | d + 1, a, b, T, u, hd, h1, h2, h3, h4 => by
    have hl : ((l.drop f).take (e - f)).length = e - f := by rw [List.length_take, List.length_drop]; omega
    obtain ⟨pre, post, rfl, rfl⟩ := h4
    by_cases h : b ≤ f ∨ e ≤ a
    · rw [rowR_s (by rw [hl]; omega), sds_s h]
      have e1 : ¬ (pre ++ ([rowG l a b] ++ post)).length ≤ (T, pre.length, false).2.1 := by simp
      rw [sidR_2 e1]
      have e2 : gt (pre ++ ([rowG l a b] ++ post)) pre.length = rowG l a b := by simp [gt, List.getD]
      simp only [e2, List.length_singleton, and_true]
      exact rowD_st l 12 (d + 1) a b (Nat.le_trans h3 (Nat.pow_le_pow_right (by omega) hd)) h3
    · by_cases h3' : b - a ≤ 1
      · rw [rowR_l (by rw [hl]; omega) h3', sds_l h h3', rowD_1 h3', lefR, gt_sub l f (e - f) (a - f) (by omega) (by omega), show f + (a - f) = a by omega]
        exact ⟨rfl, rfl⟩
      · have hh := half_lt (n := b - a) (by omega)
        have hh2 := half_le (by omega) h3
        rw [rowR_n (by rw [hl]; omega) h3', rowD_2 h3']
        rw [sds_n h h3']
        have g1 := row_shw he hel (pre ++ (sdsT l f e (d + 1) a b ++ post)) d a (a + halfT (b - a)) T pre.length (by omega) (by omega) (by omega) (by omega) ⟨pre, sdsT l f e d (a + halfT (b - a)) b ++ post, by rw [sds_n h h3', List.append_assoc], rfl⟩
        rw [sds_n h h3'] at g1
        generalize rowR ((l.drop f).take (e - f)) f (pre ++ (sdsT l f e d a (a + halfT (b - a)) ++ sdsT l f e d (a + halfT (b - a)) b ++ post)) d a (a + halfT (b - a)) (T, pre.length, false) = X at g1 ⊢
        obtain ⟨x, T1, u1, s1⟩ := X
        simp only [Prod.mk.injEq] at g1
        obtain ⟨rfl, rfl, rfl⟩ := g1
        have g2 := row_shw he hel (pre ++ (sdsT l f e d a (a + halfT (b - a)) ++ sdsT l f e d (a + halfT (b - a)) b ++ post)) d (a + halfT (b - a)) b T1 (pre.length + (sdsT l f e d a (a + halfT (b - a))).length) (by omega) (by omega) (by omega) (by omega) ⟨pre ++ sdsT l f e d a (a + halfT (b - a)), post, by simp only [List.append_assoc], by rw [List.length_append]⟩
        simp only [nodR]
        rw [g2.1, g2.2]
        exact ⟨rfl, by rw [List.length_append, Nat.add_assoc]⟩
theorem und_shw {l : List Leaf} {f e : Nat} (hv : valT l = 0) (hfe : f ≤ e) (hel : e ≤ l.length) (h0 : l.length = 0 ∨ f < e) : undT (rotL l) (f : Int) (l.length : Int) ((l.drop f).take (e - f)) (shdT l f e) = true := by
  have hok := valT_ok (l := l) (by omega)
  have hll := hok.1
  have hl : ((l.drop f).take (e - f)).length = e - f := by rw [List.length_take, List.length_drop]; omega
  have hv2 : valT ((l.drop f).take (e - f)) = 0 := by
    have hs := valT_srt hv
    unfold valT
    rw [if_neg, if_pos]
    · have key : ∀ n, n ≤ ((l.drop f).take (e - f)).length → incT ((l.drop f).take (e - f)) n = true := fun n => by
        induction n with
        | zero => intro _; rfl
        | succ n ih =>
          intro hn
          refine incT_S (ih (by omega)) ?_
          by_cases e0 : n = 0
          · exact Or.inl e0
          · right
            rw [gt_sub l f (e - f) (n - 1) (by omega) (by omega), gt_sub l f (e - f) n (by omega) (by omega)]
            exact hs _ _ (by omega) (by omega)
      exact key _ (Nat.le_refl _)
    · intro h
      rcases h with h | h
      · omega
      · rw [List.any_eq_true] at h
        obtain ⟨x, hx, hb⟩ := h
        have hx2 : x ∈ l := List.mem_of_mem_drop (List.mem_of_mem_take hx)
        have : l.any bigE = true := List.any_eq_true.2 ⟨x, hx2, hb⟩
        rw [valT_4 (Or.inr this)] at hv; cases hv
  have hB : ¬ BadU (f : Int) (l.length : Int) ((l.drop f).take (e - f)) := by
    unfold BadU; rw [hv2, hl]; omega
  by_cases e0 : l.length = 0
  · rw [und_z hB (by omega), shd_0 e0]
    have : rotT 0 (List.replicate 16 0) = rotL l := rotL_0 e0 _
    rw [this]; simp
  · have hfe2 : f < e := by omega
    unfold undT
    rw [if_neg (fun q => q.elim hB (fun q => by rw [hl] at q; omega)), show ((f : Nat) : Int).toNat = f from rfl, show ((l.length : Nat) : Int).toNat = l.length from rfl, rooR_n e0, shd_n e0]
    have g := row_shw hfe2 hel (sdsT l f e 12 0 l.length) 12 0 l.length [] 0 (Nat.le_refl _) (by omega) (Nat.le_refl _) (by omega) ⟨[], [], by simp, rfl⟩
    simp only [g.1, g.2, Nat.zero_add, decide_true, Bool.and_true, Bool.not_false]
    have e2 : ofT 4 [wint ((l.length : Nat) : Int), rowD l 12 0 l.length] = rotL l := by unfold rotL rotT; rw [if_neg e0]; rfl
    rw [e2]; simp
def fiv : List Leaf := [([97], [49]), ([99], [50]), ([100], [51]), ([102], [52]), ([103], [53])]
theorem fiv_v : valT fiv = 0 := by decide +kernel
def fC : List Leaf := [([99], [50])]
def fE : List Leaf := [([100], [51]), ([102], [52])]
def fH : List Leaf := [([103], [53])]
def fR : List Leaf := [([97], [49]), ([99], [50]), ([100], [51]), ([102], [52])]
def fQ : List Leaf := [([99], [50]), ([100], [51])]
theorem prv_c : prvT fiv [99] = ((1, 5, fC, shdT fiv 1 2), 0) := by rw [prv_2 (i := 1) (by decide +kernel) fiv_v (by decide) (by decide)]; rfl
theorem prv_e : prvT fiv [101] = ((2, 5, fE, shdT fiv 2 4), 0) := by rw [prv_3 (i := 3) (by decide +kernel) fiv_v (by decide)]; rfl
theorem prv_h : prvT fiv [104] = ((4, 5, fH, shdT fiv 4 5), 0) := by rw [prv_3 (i := 5) (by decide +kernel) fiv_v (by decide)]; rfl
theorem rng_r : rngT fiv [99] [102] = ((0, 5, fR, shdT fiv 0 4), 0) := by
  rw [rng_3 fiv_v (by decide +kernel), show fromT fiv [99] = 1 by decide +kernel, show fromT fiv [102] = 3 by decide +kernel]; rfl
theorem shd_c : (shdT fiv 1 2).length = 3 := rfl
theorem shd_e : (shdT fiv 2 4).length = 2 := rfl
theorem shd_h : (shdT fiv 4 5).length = 1 := rfl
theorem shd_r : (shdT fiv 0 4).length = 1 := rfl
theorem und_c : undT (rotL fiv) 1 5 fC (shdT fiv 1 2) = true := und_shw (l := fiv) (f := 1) (e := 2) fiv_v (by decide) (by decide) (by decide)
theorem und_e : undT (rotL fiv) 2 5 fE (shdT fiv 2 4) = true := und_shw (l := fiv) (f := 2) (e := 4) fiv_v (by decide) (by decide) (by decide)
theorem und_r : undT (rotL fiv) 0 5 fR (shdT fiv 0 4) = true := und_shw (l := fiv) (f := 0) (e := 4) fiv_v (by decide) (by decide) (by decide)
theorem chk_c : chkT (rotL fiv) [99] 1 5 fC (shdT fiv 1 2) = ([50], true, 0) := chk_2 (i := 0) (by decide +kernel) und_c (by decide) (by decide)
theorem chk_e : chkT (rotL fiv) [101] 2 5 fE (shdT fiv 2 4) = ([], false, 0) := chk_3 (i := 1) (by decide +kernel) und_e (by decide) (by decide)
theorem chk_d : chkT (rotL fiv) [100] 2 5 fE (shdT fiv 2 4) = ([51], true, 0) := chk_2 (i := 0) (by decide +kernel) und_e (by decide) (by decide)
theorem chk_x : chkT (rotL fiv) [99] 2 5 fE (shdT fiv 2 4) = ([], false, 17) := chk_4 (i := 0) (by decide +kernel) und_e (by decide) (by decide)
theorem crg_r : crgT (rotL fiv) [99] [102] 0 5 fR (shdT fiv 0 4) = (fQ, 0) := crg_4 (a := 1) (b := 3) (by decide +kernel) (by decide +kernel) (by decide +kernel) und_r (by decide)
theorem fiv_lb : LB fiv := ⟨by decide, fun i hi => by
  have h5 : i < 5 := hi
  rcases i with _ | _ | _ | _ | _ | i
  · decide
  · decide
  · decide
  · decide
  · decide
  · omega⟩
end Go.Sx
namespace Go.Sx
open Go.RowKit Go.Proofs
set_option maxRecDepth 100000
set_option maxHeartbeats 8000000
theorem fiv_mk : bsA (some ⟨.struct #[Field.mk "Key" 9 0 false "" "" 0, Field.mk "Value" 9 1 false "" "" 16], 2, 32, [str [], str []]⟩) 5 [(0, .agg [.val (str [97]), .val (str [49])]), (1, .agg [.val (str [99]), .val (str [50])]), (2, .agg [.val (str [100]), .val (str [51])]), (3, .agg [.val (str [102]), .val (str [52])]), (4, .agg [.val (str [103]), .val (str [53])])] = some (vp (sl eC .full fiv)) := rfl
theorem hxQ0 : (gt fQ 0).1 = [99] := rfl
theorem hxQ1 : (gt fQ 1).2 = [51] := rfl
theorem hxQl : fQ.length = 2 := rfl
theorem hC : fC.length = 1 := rfl
theorem hE : fE.length = 2 := rfl
theorem hR4 : fR.length = 4 := rfl
theorem X_fc55 {p : Prop} (e : p := by intro KZ hZ; simp -implicitDefEqProofs (disch := first | omega | (simp only [go_sem, lA, lD, lT] <;> omega) | decide) only [go_sem, ↓reduceIte, Nat.reduceEqDiff, reduceCtorEq, Nat.reduceLT, Nat.reduceBEq, Nat.reduceAdd, fiv_mk, hy]; with_reducible exact hZ) : p := e
theorem F_fc55 {p : Prop} (e : p := by simp -implicitDefEqProofs (disch := first | omega | (simp only [go_sem, lA, lD, lT] <;> omega) | decide) only [go_sem, ↓reduceIte, Nat.reduceEqDiff, reduceCtorEq]; all_goals (rfl)) : p := e
theorem fc55 {gl : Nat → C} {M : Nat} {pu : Nat → List C → Option C}  (hcx : CxOK (cxP gl M pu))   : FC Tryd.prog gl 55 ([] : List C) [] (sl eC .full fiv) [] := by
 replace hcx := hcx.reN (M := 7)
 refine FC.ofA (cx := cxP gl 7 pu) (rs := [.tmp 0]) rfl Tryd.func55 rfl rfl rfl (by simp only [List.length_cons, List.length_nil]; decide) (by simp only [go_sem]) ?_
 simp only [ini, go_sem]
 have hy := True.intro
 refine Tr.w hcx [] _ [] rfl rfl rfl ?_ X_fc55
 refine Tr.w hcx [1000006] _ [] rfl rfl rfl ?_ X_fc55
 exact Tr.ret F_fc55
theorem X_fc19 {p : Prop} (e : p := by intro KZ hZ; simp -implicitDefEqProofs (maxSteps := 2000000) (disch := first | omega | (simp only [go_sem, lA, lD, lT, hrl, q1, q2, q3, q4, q5, q6, q7, q10] <;> omega) | decide) only [go_sem, ↓reduceIte, Nat.reduceEqDiff, reduceCtorEq, Nat.reduceLT, Nat.reduceBEq, Nat.reduceAdd, eq_self, decide_true, decide_false, not_true_eq_false, not_false_eq_true, h55, e12, e22c, e22e, e22h, e24, k1, k2, k3, k4, k5, q1, q2, q3, q4, q5, q6, q7, hy]; with_reducible exact hZ) : p := e
theorem F_fc19 {p : Prop} (e : p := by simp -implicitDefEqProofs (disch := first | omega | (simp only [go_sem, lA, lD, lT, hrl, q1, q2, q3, q4, q5, q6, q7, q10] <;> omega) | decide) only [go_sem, ↓reduceIte, Nat.reduceEqDiff, reduceCtorEq]; all_goals (rfl)) : p := e
theorem fc19 {gl : Nat → C} {M : Nat} {pu : Nat → List C → Option C}  (hcx : CxOK (cxP gl M pu))  (h12 : ∀ l : List Leaf, LB l → pu 12 [sl eC .no l] = some (.tup [.agg (cl bC (rooT l).1), .val (nI (rooT l).2)])) (h22 : ∀ (l : List Leaf) (k : List UInt8), LB l → pu 22 [sl eC .no l, .val (str k)] = some (.tup [.agg [.val (nI (prvT l k).1.1), .val (nI (prvT l k).1.2.1), sl eC .no (prvT l k).1.2.2.1, sl dC .no (prvT l k).1.2.2.2], .val (nI (prvT l k).2)])) (h24 : ∀ (l : List Leaf) (x y : List UInt8), LB l → pu 24 [sl eC .no l, .val (str x), .val (str y)] = some (.tup [.agg [.val (nI (rngT l x y).1.1), .val (nI (rngT l x y).1.2.1), sl eC .no (rngT l x y).1.2.2.1, sl dC .no (rngT l x y).1.2.2.2], .val (nI (rngT l x y).2)])) (h29 : ∀ (r : List UInt8) (k : List UInt8) (f z : Int) (l : List Leaf) (S : List Dig), r.length = 16 → (-9223372036854775808 ≤ f ∧ f ≤ 9223372036854775807) → (-9223372036854775808 ≤ z ∧ z ≤ 9223372036854775807) → LB l → S.length ≤ 1000000 → pu 29 [.agg (cl bC r), .val (str k), .agg [.val (.int .i64 f), .val (.int .i64 z), sl eC .no l, sl dC .no S]] = some (.tup [.val (str (chkT r k f z l S).1), .val (.bool (chkT r k f z l S).2.1), .val (nI (chkT r k f z l S).2.2)])) (h32 : ∀ (r x y : List UInt8) (f z : Int) (l : List Leaf) (S : List Dig), r.length = 16 → (-9223372036854775808 ≤ f ∧ f ≤ 9223372036854775807) → (-9223372036854775808 ≤ z ∧ z ≤ 9223372036854775807) → LB l → S.length ≤ 1000000 → pu 32 [.agg (cl bC r), .val (str x), .val (str y), .agg [.val (.int .i64 f), .val (.int .i64 z), sl eC .no l, sl dC .no S]] = some (.tup [sl eC .no (crgT r x y f z l S).1, .val (nI (crgT r x y f z l S).2)])) (h55 : pu 55 [] = some (sl eC .full fiv))  : FC Tryd.prog gl 19 ([] : List C) [] (.val (.bool true)) [] := by
 replace hcx := hcx.reN (M := 219)
 refine FC.ofA (cx := cxP gl 219 pu) (rs := [.tmp 0]) rfl Tryd.func19 rfl rfl rfl (by simp only [List.length_cons, List.length_nil]; decide) (by simp only [go_sem]) ?_
 simp only [ini, go_sem]
 have hy := True.intro
 have e12 : pu 12 [sl eC .no fiv] = some (.tup [.agg (cl bC (rotL fiv)), .val (nI 0)]) := (h12 fiv fiv_lb).trans (by rw [rooT_ok fiv_v])
 have e22c : pu 22 [sl eC .no fiv, .val (str [99])] = some (.tup [.agg [.val (nI 1), .val (nI 5), sl eC .no fC, sl dC .no (shdT fiv 1 2)], .val (nI 0)]) := (h22 fiv [99] fiv_lb).trans (by rw [prv_c])
 have e22e : pu 22 [sl eC .no fiv, .val (str [101])] = some (.tup [.agg [.val (nI 2), .val (nI 5), sl eC .no fE, sl dC .no (shdT fiv 2 4)], .val (nI 0)]) := (h22 fiv [101] fiv_lb).trans (by rw [prv_e])
 have e22h : pu 22 [sl eC .no fiv, .val (str [104])] = some (.tup [.agg [.val (nI 4), .val (nI 5), sl eC .no fH, sl dC .no (shdT fiv 4 5)], .val (nI 0)]) := (h22 fiv [104] fiv_lb).trans (by rw [prv_h])
 have e24 : pu 24 [sl eC .no fiv, .val (str [99]), .val (str [102])] = some (.tup [.agg [.val (nI 0), .val (nI 5), sl eC .no fR, sl dC .no (shdT fiv 0 4)], .val (nI 0)]) := (h24 fiv [99] [102] fiv_lb).trans (by rw [rng_r])
 have lbC : LB fC := ⟨by decide, fun i hi => by
   have h5 : i < 1 := hi
   rcases i with _ | i
   · decide
   · omega⟩
 have lbE : LB fE := ⟨by decide, fun i hi => by
   have h5 : i < 2 := hi
   rcases i with _ | _ | i
   · decide
   · decide
   · omega⟩
 have lbR : LB fR := ⟨by decide, fun i hi => by
   have h5 : i < 4 := hi
   rcases i with _ | _ | _ | _ | i
   · decide
   · decide
   · decide
   · decide
   · omega⟩
 have k1 : pu 29 [.agg (cl bC (rotL fiv)), .val (str [99]), .agg [.val (nI 1), .val (nI 5), sl eC .no fC, sl dC .no (shdT fiv 1 2)]] = some (.tup [.val (str [50]), .val (.bool true), .val (nI 0)]) := (h29 (rotL fiv) [99] ((1 : Nat) : Int) ((5 : Nat) : Int) fC (shdT fiv 1 2) (rotL_len _) (by omega) (by omega) lbC (by decide)).trans (by rw [show ((1 : Nat) : Int) = 1 from rfl, show ((5 : Nat) : Int) = 5 from rfl, chk_c])
 have k2 : pu 29 [.agg (cl bC (rotL fiv)), .val (str [101]), .agg [.val (nI 2), .val (nI 5), sl eC .no fE, sl dC .no (shdT fiv 2 4)]] = some (.tup [.val (str []), .val (.bool false), .val (nI 0)]) := (h29 (rotL fiv) [101] ((2 : Nat) : Int) ((5 : Nat) : Int) fE (shdT fiv 2 4) (rotL_len _) (by omega) (by omega) lbE (by decide)).trans (by rw [show ((2 : Nat) : Int) = 2 from rfl, show ((5 : Nat) : Int) = 5 from rfl, chk_e])
 have k3 : pu 29 [.agg (cl bC (rotL fiv)), .val (str [100]), .agg [.val (nI 2), .val (nI 5), sl eC .no fE, sl dC .no (shdT fiv 2 4)]] = some (.tup [.val (str [51]), .val (.bool true), .val (nI 0)]) := (h29 (rotL fiv) [100] ((2 : Nat) : Int) ((5 : Nat) : Int) fE (shdT fiv 2 4) (rotL_len _) (by omega) (by omega) lbE (by decide)).trans (by rw [show ((2 : Nat) : Int) = 2 from rfl, show ((5 : Nat) : Int) = 5 from rfl, chk_d])
 have k4 : pu 29 [.agg (cl bC (rotL fiv)), .val (str [99]), .agg [.val (nI 2), .val (nI 5), sl eC .no fE, sl dC .no (shdT fiv 2 4)]] = some (.tup [.val (str []), .val (.bool false), .val (nI 17)]) := (h29 (rotL fiv) [99] ((2 : Nat) : Int) ((5 : Nat) : Int) fE (shdT fiv 2 4) (rotL_len _) (by omega) (by omega) lbE (by decide)).trans (by rw [show ((2 : Nat) : Int) = 2 from rfl, show ((5 : Nat) : Int) = 5 from rfl, chk_x])
 have k5 : pu 32 [.agg (cl bC (rotL fiv)), .val (str [99]), .val (str [102]), .agg [.val (nI 0), .val (nI 5), sl eC .no fR, sl dC .no (shdT fiv 0 4)]] = some (.tup [sl eC .no fQ, .val (nI 0)]) := (h32 (rotL fiv) [99] [102] ((0 : Nat) : Int) ((5 : Nat) : Int) fR (shdT fiv 0 4) (rotL_len _) (by omega) (by omega) lbR (by decide)).trans (by rw [show ((0 : Nat) : Int) = 0 from rfl, show ((5 : Nat) : Int) = 5 from rfl, crg_r])
 have hrl := rotL_len fiv
 have q1 := shd_c
 have q2 := shd_e
 have q3 := shd_h
 have q4 := shd_r
 generalize shdT fiv 1 2 = SC at *
 generalize shdT fiv 2 4 = SE at *
 generalize shdT fiv 4 5 = SH at *
 generalize shdT fiv 0 4 = SR at *
 generalize rotL fiv = R at *
 have q5 := hC
 have q6 := hE
 have q7 := hR4
 have q8 := hxQ0
 have q9 := hxQ1
 have q10 := hxQl
 generalize fC = LC at *
 generalize fE = LE at *
 generalize fR = LR at *
 generalize fQ = LQ at *
 have x0 : ∀ u y z, ixL (some ⟨u, 2, y, z⟩) (some 0) 2 (cl eC LQ) = some (vp (.kp ((cl eC LQ).drop (0 * 2)))) := fun u y z => by
   have := ixL_some eC u y z 0 LQ (by omega)
   rw [q10] at this; exact this
 have x1 : ∀ u y z, ixL (some ⟨u, 2, y, z⟩) (some 1) 2 (cl eC LQ) = some (vp (.kp ((cl eC LQ).drop (1 * 2)))) := fun u y z => by
   have := ixL_some eC u y z 1 LQ (by omega)
   rw [q10] at this; exact this
 have x0a := fk41_0 LQ 0 (by omega)
 have x0b := rdc_e0 LQ 0 (by omega)
 have x1a := fk41_1 LQ 1 (by omega)
 have x1b := rdc_e1 LQ 1 (by omega)
 rw [q8] at x0b
 rw [q9] at x1b
 generalize (cl eC LQ).drop (0 * 2) = K0 at *
 generalize (cl eC LQ).drop (1 * 2) = K1 at *
 generalize (cl eC LQ).drop (1 * 2 + 1) = K2 at *
 refine Tr.w hcx [] _ [] rfl rfl rfl ?_ X_fc19
 refine Tr.w hcx [1000026] _ [] rfl rfl rfl ?_ X_fc19
 refine Tr.w hcx [1000031] _ [none] rfl rfl rfl ?_ X_fc19
 refine Tr.k [1, 2, 3] ?_
 refine Tr.w hcx [1000036] _ [none] rfl rfl rfl ?_ X_fc19
 refine Tr.k [1, 2, 3, 4, 5] ?_
 refine Tr.w hcx [1000041] _ [none] rfl rfl rfl ?_ X_fc19
 refine Tr.k [1, 2, 3, 4, 5, 6, 7] ?_
 refine Tr.w hcx [1000046] _ [none] rfl rfl rfl ?_ X_fc19
 refine Tr.k [1, 2, 3, 4, 5, 6, 7, 8, 9] ?_
 refine Tr.w hcx [1000051] _ [none] rfl rfl rfl ?_ X_fc19
 refine Tr.k [2, 3, 4, 5, 6, 7, 8, 9, 10, 11] ?_
 refine Tr.seqK fun K1 hK1 => ?_
 refine Tr.w hcx [] [some 52, some 53, some 54, some 55, some 56, some 57, some 58, some 59, some 60, some 61, some 62, some 63, some 64, some 65, some 66, some 67, some 68, some 69] [] rfl rfl rfl ?_ X_fc19
 refine Tr.k [2, 4, 6, 8, 10, 69] ?_
 refine Tr.cF rfl ?_
 refine Tr.skip ?_
 refine hK1 _ ?_
 refine Tr.k [2, 4, 6, 8, 10] ?_
 refine Tr.seqK fun K2 hK2 => ?_
 refine Tr.w hcx [] [some 70, some 71, some 72, some 73, some 74, some 75, some 76, some 77, some 78, some 79, some 80, some 81, some 82, some 83, some 84, some 85, some 86, some 87, some 88, some 89, some 90, some 91, some 92, some 93, some 94, some 95, some 96, some 97, some 98, some 99, some 100, some 101, some 102, some 103, some 104, some 105, some 106, some 107, some 108, some 109, some 110, some 111, some 112, some 113, some 114, some 115, some 116, some 117, some 118, some 119, some 120, some 121, some 122, some 123, some 124, some 125, some 126, some 127, some 128, some 129] [] rfl rfl rfl ?_ X_fc19
 refine Tr.k [2, 4, 6, 10, 129] ?_
 refine Tr.cF rfl ?_
 refine Tr.skip ?_
 refine hK2 _ ?_
 refine Tr.k [2, 4, 6, 10] ?_
 refine Tr.w hcx [1000134, 1000135, 1000136] _ [] rfl rfl rfl ?_ X_fc19
 refine Tr.k [2, 6, 10, 12, 13, 14] ?_
 refine Tr.w hcx [1000141, 1000142, 1000143] _ [] rfl rfl rfl ?_ X_fc19
 refine Tr.k [2, 6, 10, 12, 13, 14, 16, 17] ?_
 refine Tr.w hcx [1000148, 1000149, 1000150] _ [] rfl rfl rfl ?_ X_fc19
 refine Tr.k [2, 6, 10, 12, 13, 14, 16, 17, 18, 19, 20] ?_
 refine Tr.w hcx [1000155, 1000156, 1000157] _ [] rfl rfl rfl ?_ X_fc19
 refine Tr.k [2, 10, 12, 13, 14, 16, 17, 18, 19, 20, 23] ?_
 refine Tr.w hcx [1000162, 1000163] _ [] rfl rfl rfl ?_ X_fc19
 refine Tr.k [12, 13, 14, 16, 17, 18, 19, 20, 23, 24, 25] ?_
 have hy := And.intro @x0 (And.intro @x1 (And.intro @x0a (And.intro @x0b (And.intro @x1a (And.intro @x1b @q10)))))
 refine Tr.w hcx [1000218] [some 164, some 165, some 166, some 167, some 168, some 169, some 170, some 171, some 172, some 173, some 174, some 175, some 176, some 177, some 178, some 179, some 180, some 181, some 182, some 183, some 184, some 185, some 186, some 187, some 188, some 189, some 190, some 191, some 192, some 193, some 194, some 195, some 196, some 197, some 198, some 199, some 200, some 201, some 202, some 203, some 204, some 205, some 206, some 207, some 208, some 209, some 210, some 211, some 212, some 213, some 214, some 215, some 216, some 217, some 218, some 0] [] rfl rfl rfl ?_ X_fc19
 refine Tr.k [0] ?_
 exact Tr.ret F_fc19
end Go.Sx
namespace Go.Sx
open Go.RowKit Go.Proofs
set_option maxRecDepth 100000
set_option maxHeartbeats 8000000
end Go.Sx
namespace Go.Sx
open Go.RowKit Go.Proofs
theorem lvs_lb (l : List Int) : (lvsT l).length ≤ 11 ∧ ∀ i, i < (lvsT l).length → (gt (lvsT l) i).1.length ≤ 2 ∧ (gt (lvsT l) i).2.length ≤ 3 := by
  have hN := lvsN_le l
  have key : ∀ n i, i < n → (gt (lvsR l n).1 i).1.length ≤ 2 ∧ (gt (lvsR l n).1 i).2.length ≤ 3 := fun n => by
    induction n with
    | zero => intro i h; omega
    | succ n ih =>
      intro i h
      have hl := lvsR_len l n
      simp only [lvsR]
      by_cases e : i < n
      · rw [gt_left _ _ _ (by omega)]; exact ih i e
      · have e : i = n := by omega
        subst e
        rw [gt_mid _ _ _ _ hl]
        refine ⟨(keyT_len _).2, ?_⟩
        have h5 := atI_lt l (2 * i + 1) (m := 5) (by omega)
        generalize atI l (2 * i + 1) 5 = k at h5
        show (gt vals5 k).length ≤ 3
        rcases k with _ | _ | _ | _ | _ | k
        · decide
        · decide
        · decide
        · decide
        · decide
        · omega
  unfold lvsT
  rw [lvsR_len]
  exact ⟨hN, fun i hi => key _ i hi⟩
theorem LB.ofSmall {l : List Leaf} (h : l.length ≤ 1000000 ∧ ∀ i, i < l.length → (gt l i).1.length ≤ 1000000 ∧ (gt l i).2.length ≤ 1000000) : LB l := ⟨by omega, fun i hi => by have := h.2 i hi; omega⟩
theorem mvCs_lcl {α : Type} (ρ : List Nat) (f : α → List C) [h : Fla f] : ∀ l : List (List α), mvCs ρ (cl (lC f) l) = cl (lC f) l
  | [] => by show mvCs ρ [] = []; simp only [mvCs]
  | x :: l => by
    show mvCs ρ (sl f .no x :: cl (lC f) l) = sl f .no x :: cl (lC f) l
    simp only [mvCs, mvC_sl, mvCs_lcl ρ f l]
theorem mvC_lsl {α : Type} (ρ : List Nat) (f : α → List C) [h : Fla f] (r : Rt) (l : List (List α)) : mvC ρ (sl (lC f) r l) = sl (lC f) r l := by
  show mvC ρ (.sl r l.length (cl (lC f) l)) = .sl r l.length (cl (lC f) l)
  simp only [mvC, mvCs_lcl]
end Go.Sx
namespace Go.Sx
open Go.RowKit Go.Proofs
set_option maxRecDepth 100000
set_option maxHeartbeats 8000000
end Go.Sx
