/-
  Package breaks: certificates that are bent.
-/
import Derived.Test.YtljjjkmiegeocaaPau
set_option linter.unusedSimpArgs false
set_option linter.unusedVariables false
namespace Go.Sx
open Go.RowKit Go.Proofs
theorem liv_b (K : List Int) : liveC (some (cl iC K)) = some (cl iC K) := by
  cases K with
  | nil => rfl
  | cons a K => rfl
theorem bsA_i0 (u : TypeDesc) (y : Nat) : bsA (some ⟨u, 1, y, [nI 0]⟩) 0 [] = some (vp (sl iC .full [])) := by
  rw [bsA_one u y 0 (nI 0) _ rfl (by decide)]; rfl
attribute [go_sem high] bsA_i0
theorem apFP_some (cs : List C) (h : Hp) : apFP (some cs) h = (5, h.length) := rfl
attribute [go_sem] apFP_some
theorem tdiv_b (p : Int) (k : Nat) (h : -9223372036854775808 ≤ p ∧ p ≤ 9223372036854775807) (hk : 1 < k) : -9223372036854775808 ≤ p.tdiv (k : Int) ∧ p.tdiv (k : Int) ≤ 9223372036854775807 := by
  have h1 := Int.natAbs_tdiv p (k : Int)
  have h2 : p.natAbs / (k : Int).natAbs ≤ p.natAbs / 2 := Nat.div_le_div_left (by omega) (by decide)
  rw [show p.natAbs / (k : Int).natAbs = p.natAbs.div (k : Int).natAbs from rfl, ← h1] at h2
  generalize p.tdiv (k : Int) = q at *
  omega
theorem benD_eq (p : Int) : ((aroundI (p.tdiv ((16 : Nat) : Int)) 7 : Nat) : Int) - ((3 : Nat) : Int) = benD p := rfl
section
variable {cx : Cx} {apps : List Nat} {dsts : List (Option Nat)} {l : List Oper} {id' : Nat} {d : Option Nat} {e : List (Nat × C)} {h : Hp} {fs : List FP} {K : List FP → St → Prop}
theorem stAB_in (b n m : Nat) (xs ys : List Int) (hm : m = ys.length) (hn : n + m ≤ xs.length ∧ (n ≠ 0 ∨ m = 0)) :
    stAB cx apps dsts l id' d e h fs K b n 1 m (cl iC ys) (some (cl iC xs)) = run cx apps dsts l id' (mkE d (.gv b (n + m) 1) e) (h.set b (some (cl iC (xs.take n ++ ys ++ xs.drop (n + m))))) ((4, 0) :: fs) K := by
  unfold stAB
  simp only []
  have hl := cl_len (f := iC) xs
  have hly := cl_len (f := iC) ys
  rw [if_pos ⟨by omega, hn.2⟩]
  have e1 : splice (cl iC xs) (n * 1) ((cl iC ys).map C.noR) = cl iC (xs.take n ++ ys ++ xs.drop (n + m)) := by
    rw [cl_noR, splice, hly, cl_app, cl_app, hm]
    have h1 := cl_take (f := iC) xs n
    have h2 := cl_drop (f := iC) xs (n + ys.length)
    rw [Nat.mul_one] at h1 h2
    simp only [Nat.mul_one]
    rw [h1, h2]
  rw [e1]
theorem stAB_mv (b m : Nat) (xs ys : List Int) (hm : m = ys.length) (hn : 0 < m ∧ 0 < xs.length) :
    stAB cx apps dsts l id' d e h fs K b 0 1 m (cl iC ys) (some (cl iC xs)) = run cx apps dsts l id' (mkE d (.gv h.length (0 + m) 1) e) (h.set b (some deadC) ++ [some (cl iC ys)]) ((4, 0) :: fs) K := by
  unfold stAB
  simp only []
  have hl := cl_len (f := iC) xs
  rw [if_neg (by omega), if_neg (by omega), cl_noR]
  simp only [↓reduceIte]
end
def svB (u : TypeDesc) (y n off m : Nat) (z : List Value) : Option (List C) → Option (List C)
  | none => none
  | some cells => if off + m * 1 ≤ cells.length ∧ decide ((((cells.drop off).take (m * 1)).map C.noR).length = m * 1 ∧ 0 < 1 ∧ z.length = 1 ∧ (n + m) * y ≤ 140737488355328 ∧ n + m ≤ 9223372036854775807 ∧ z.all (·.oneCell') = true) = true then some (((cells.drop off).take (m * 1)).map C.noR) else none
def svG (u : TypeDesc) (y n b' off m : Nat) (z : List Value) (h : Hp) : Option (List C) := svB u y n off m z (h.at b')
theorem gwQ_sv (u : TypeDesc) (y : Nat) (z : List Value) (b n b' off m : Nat) : gwQ (some ⟨u, 1, y, z⟩) (.gv b n 1) (.sv b' off m) = some (.ap (some (b, n)) 1 m (svG u y n b' off m z)) := by
  have h : svG u y n b' off m z = fun h : Hp => (h.at b').bind fun cells => if off + m * 1 ≤ cells.length ∧ decide ((((cells.drop off).take (m * 1)).map C.noR).length = m * 1 ∧ 0 < 1 ∧ z.length = 1 ∧ (n + m) * y ≤ 140737488355328 ∧ n + m ≤ 9223372036854775807 ∧ z.all (·.oneCell') = true) = true then some (((cells.drop off).take (m * 1)).map C.noR) else none := by
    funext h; unfold svG svB; cases h.at b' <;> rfl
  rw [h]; simp only [gwQ, if_true]
theorem svG_eq (u : TypeDesc) (y n b' off m : Nat) (z : List Value) (h : Hp) : svG u y n b' off m z h = svB u y n off m z (h.at b') := rfl
theorem svB_cl (u : TypeDesc) (y n off m : Nat) (v : Value) (l : List Int) (hv : v.oneCell' = true) (h : off + m ≤ l.length ∧ (n + m) * y ≤ 140737488355328 ∧ n + m ≤ 9223372036854775807) : svB u y n off m [v] (some (cl iC l)) = some (cl iC ((l.drop off).take m)) := by
  have hl := cl_len (f := iC) l
  have h1 := cl_take (f := iC) (l.drop off) m
  have h2 := cl_drop (f := iC) l off
  have h3 := cl_len (f := iC) ((l.drop off).take m)
  have h4 : ((l.drop off).take m).length = m := by rw [List.length_take, List.length_drop]; omega
  rw [Nat.mul_one] at h1 h2
  unfold svB
  simp only [Nat.mul_one]
  rw [h2, h1, cl_noR, if_pos]
  exact ⟨by omega, decide_eq_true ⟨by omega, by omega, rfl, h.2.1, h.2.2, by simp [hv]⟩⟩
theorem fzGv_take (l : List Int) (n : Nat) (h : n ≤ l.length) : fzGv (cl iC l) n 1 = sl iC .no (l.take n) := by
  have hl := cl_len (f := iC) l
  have h1 := cl_take (f := iC) l n
  rw [Nat.mul_one] at h1 hl
  unfold fzGv
  rw [Nat.mul_one, if_pos (by omega), h1]
  unfold sl
  rw [List.length_take, Nat.min_eq_left h]
theorem fzCs_dd (ok : Nat → Bool) (b : Nat) (ys : List C) : fzCs ok b ys deadC = deadC := by simp only [deadC, fzCs, fzC]
theorem tk1 (E X : List Int) (i : Nat) (h : i < E.length) : List.take (i + (E.length - (i + 1))) (List.take i E ++ List.drop (i + 1) E ++ X) = List.take i E ++ List.drop (i + 1) E := by
  rw [List.take_append_of_le_length (by simp; omega), List.take_of_length_le (by simp; omega)]
theorem tk0 (E X : List Int) : List.take (E.length - 1) (List.drop 1 E ++ X) = List.drop 1 E := by
  rw [List.take_append_of_le_length (by simp), List.take_of_length_le (by simp)]
theorem i_addw (P : Program) (t : TypeId) (x y : Int) : binPlan P .add t (.val (.int .i64 x)) (.val (.int .i64 y)) = some (vp (.val (.int .i64 (wr (x + y))))) := by rw [bin_int]; rfl
theorem i_mulw (P : Program) (t : TypeId) (x : Int) (y : Nat) : binPlan P .mul t (.val (.int .i64 x)) (.val (nI y)) = some (vp (.val (.int .i64 (wr (x * (y : Int)))))) := by rw [nI, bin_int]; rfl
set_option maxRecDepth 100000 in
set_option maxHeartbeats 8000000 in
theorem fc20 {gl : Nat → C} {M : Nat} {pu : Nat → List C → Option C}  (hcx : CxOK (cxP gl M pu)) (h30 : ∀ (n : Int) (m : Nat), -9223372036854775808 ≤ n ∧ n ≤ 9223372036854775807 ∧ 0 < m ∧ m ≤ 9223372036854775807 → pu 30 [.val (.int .i64 n), .val (nI m)] = some (.val (nI (aroundI n m)))) (E L K : List Int) (h p : Int) (hE : LI E) (hL : LI L) (hK : LI K) (hE2 : E.length ≤ 1000000) (hL2 : L.length ≤ 1000000) (hK2 : K.length ≤ 1000000) (hh : -9223372036854775808 ≤ h ∧ h ≤ 9223372036854775807) (hp : -9223372036854775808 ≤ p ∧ p ≤ 9223372036854775807) : FC Try.prog gl 20 [.agg [sl iC .no E, sl iC .no L, sl iC .no K], .val (.int .i64 h), .val (.int .i64 p)] [] (.agg [sl iC .no (bentT E L K h p).1, sl iC .no (bentT E L K h p).2.1, sl iC .no (bentT E L K h p).2.2]) [] := by
 replace hcx := hcx.reN (M := 152)
 refine FC.ofA (cx := cxP gl 152 pu) (rs := [.cell 6 32]) rfl Try.func20 rfl rfl rfl (by simp only [List.length_cons, List.length_nil]; decide) (by simp only [go_sem]) ?_
 simp only [ini, go_sem]
 have hE1 := hE.1
 have hL1 := hL.1
 have hK1 := hK.1
 have hw8 := around_lt h (m := 8) (by decide)
 have hw7 := around_lt (p.tdiv ((16 : Nat) : Int)) (m := 7) (by decide)
 have htd := tdiv_b p 16 hp (by decide)
 have hwb := around_lt p (m := max L.length 1) (by omega)
 refine Tr.seqK fun K1 hK1 => ?_
 refine Tr.rg hcx [] _ [none, none] rfl rfl rfl ?_
 simp -implicitDefEqProofs (maxSteps := 2000000) (disch := first | omega | (simp only [go_sem, List.length_append, List.length_drop, List.length_take] <;> omega) | decide) only [go_sem, ↓reduceIte, Nat.reduceEqDiff, reduceCtorEq, Nat.reduceLT, Nat.reduceBEq, Nat.reduceAdd, Nat.reduceSub, Nat.reduceMul, Nat.reduceMod, h30]
 refine hK1 _ ?_
 clear hK1 K1
 refine Tr.kp [1, 2, 3, 6] ?_
 simp only [pk_cons, pk_nil, ↓A_cons, ↓reduceIte, Nat.reduceEqDiff]
 refine Tr.seqK fun K2 hK2 => ?_
 by_cases q0 : aroundI h 8 = 0
 ·
  have q0o := q0
  replace q0 := eq_true q0
  refine Tr.rgDG hcx hMO [13] [10, 14, 18] _ [none] rfl rfl rfl rfl ?_
  simp -implicitDefEqProofs (maxSteps := 2000000) (disch := first | omega | (simp only [go_sem, List.length_append, List.length_drop, List.length_take] <;> omega) | decide) only [go_sem, ↓reduceIte, Nat.reduceEqDiff, reduceCtorEq, Nat.reduceLT, Nat.reduceBEq, Nat.reduceAdd, Nat.reduceSub, Nat.reduceMul, Nat.reduceMod, h30, q0]
  with_reducible refine And.intro ?_ ?_
  · exact rfl
  refine hK2 _ ?_
  clear hK2 K2
  refine Tr.kp [1, 2, 3, 6, 7] ?_
  simp only [pk_cons, pk_nil, ↓A_cons, ↓reduceIte, Nat.reduceEqDiff]
  refine Tr.seqK fun K3 hK3 => ?_
  refine Tr.rg hcx [1000028] _ [] rfl rfl rfl ?_
  simp -implicitDefEqProofs (maxSteps := 2000000) (disch := first | omega | (simp only [go_sem, List.length_append, List.length_drop, List.length_take] <;> omega) | decide) only [go_sem, ↓reduceIte, Nat.reduceEqDiff, reduceCtorEq, Nat.reduceLT, Nat.reduceBEq, Nat.reduceAdd, Nat.reduceSub, Nat.reduceMul, Nat.reduceMod, h30, q0]
  refine hK3 _ ?_
  clear hK3 K3
  refine Tr.kp [1, 2, 6, 7, 8] ?_
  simp only [pk_cons, pk_nil, ↓A_cons, ↓reduceIte, Nat.reduceEqDiff]
  refine Tr.seqK fun K4 hK4 => ?_
  refine Tr.rg hcx [1000032] _ [] rfl rfl rfl ?_
  simp -implicitDefEqProofs (maxSteps := 2000000) (disch := first | omega | (simp only [go_sem, List.length_append, List.length_drop, List.length_take] <;> omega) | decide) only [go_sem, ↓reduceIte, Nat.reduceEqDiff, reduceCtorEq, Nat.reduceLT, Nat.reduceBEq, Nat.reduceAdd, Nat.reduceSub, Nat.reduceMul, Nat.reduceMod, h30, q0, n_subG, benD_eq]
  refine hK4 _ ?_
  clear hK4 K4
  refine Tr.kp [1, 2, 6, 7, 8, 9] ?_
  simp only [pk_cons, pk_nil, ↓A_cons, ↓reduceIte, Nat.reduceEqDiff]
  refine Tr.seqK fun K5 hK5 => ?_
  refine Tr.seqK fun K6 hK6 => ?_
  refine Tr.rg hcx [] _ [] rfl rfl rfl ?_
  simp -implicitDefEqProofs (maxSteps := 2000000) (disch := first | omega | (simp only [go_sem, List.length_append, List.length_drop, List.length_take] <;> omega) | decide) only [go_sem, ↓reduceIte, Nat.reduceEqDiff, reduceCtorEq, Nat.reduceLT, Nat.reduceBEq, Nat.reduceAdd, Nat.reduceSub, Nat.reduceMul, Nat.reduceMod, h30, q0]
  refine hK6 _ ?_
  clear hK6 K6
  refine Tr.kp [2, 6, 7, 8, 9, 34] ?_
  simp only [pk_cons, pk_nil, ↓A_cons, ↓reduceIte, Nat.reduceEqDiff]
  refine Tr.blk ?_
  refine Tr.seqK fun K7 hK7 => ?_
  refine Tr.rg hcx [1000047] _ [] rfl rfl rfl ?_
  simp -implicitDefEqProofs (maxSteps := 2000000) (disch := first | omega | (simp only [go_sem, List.length_append, List.length_drop, List.length_take] <;> omega) | decide) only [go_sem, ↓reduceIte, Nat.reduceEqDiff, reduceCtorEq, Nat.reduceLT, Nat.reduceBEq, Nat.reduceAdd, Nat.reduceSub, Nat.reduceMul, Nat.reduceMod, h30, q0]
  refine hK7 _ ?_
  clear hK7 K7
  refine Tr.kp [2, 6, 7, 8, 9, 34, 46] ?_
  simp only [pk_cons, pk_nil, ↓A_cons, ↓reduceIte, Nat.reduceEqDiff]
  refine Tr.condG fun KT KF hT hF => ?_
  simp only [ev_tmp, ev_const, ↓A_cons, ↓reduceIte, Nat.reduceEqDiff, reduceCtorEq, condG_bool, GB_true, GB_false, decide_eq_true_eq]
  refine hT ?_
  clear hT hF KT KF
  refine Tr.seqK fun K8 hK8 => ?_
  refine Tr.rg hcx [] _ [] rfl rfl rfl ?_
  simp -implicitDefEqProofs (maxSteps := 2000000) (disch := first | omega | (simp only [go_sem, List.length_append, List.length_drop, List.length_take] <;> omega) | decide) only [go_sem, ↓reduceIte, Nat.reduceEqDiff, reduceCtorEq, Nat.reduceLT, Nat.reduceBEq, Nat.reduceAdd, Nat.reduceSub, Nat.reduceMul, Nat.reduceMod, h30, q0]
  refine hK8 _ ?_
  clear hK8 K8
  refine Tr.kp [2, 6, 7, 9, 51] ?_
  simp only [pk_cons, pk_nil, ↓A_cons, ↓reduceIte, Nat.reduceEqDiff]
  refine Tr.condG fun KT KF hT hF => ?_
  simp only [ev_tmp, ev_const, ↓A_cons, ↓reduceIte, Nat.reduceEqDiff, reduceCtorEq, condG_bool, GB_true, GB_false, decide_eq_true_eq]
  refine GB.dec (fun hc51 => hT ?_) (fun hc51 => hF ?_)
  ·
   clear hT hF KT KF
   have hae := around_lt p (m := E.length) hc51
   refine Tr.rgD hcx hMO [] _ [] rfl rfl rfl rfl ?_
   simp -implicitDefEqProofs (maxSteps := 2000000) (disch := first | omega | (simp only [go_sem, List.length_append, List.length_drop, List.length_take] <;> omega) | decide) only [go_sem, ↓reduceIte, Nat.reduceEqDiff, reduceCtorEq, Nat.reduceLT, Nat.reduceBEq, Nat.reduceAdd, Nat.reduceSub, Nat.reduceMul, Nat.reduceMod, h30, q0, i_addw]
   with_reducible refine And.intro ?_ ?_
   · exact rfl
   refine hK5 _ ?_
   clear hK5 K5
   refine Tr.kp [6, 7] ?_
   simp only [pk_cons, pk_nil, ↓A_cons, ↓reduceIte, Nat.reduceEqDiff]
   refine Tr.seqK fun K9 hK9 => ?_
   refine Tr.rg hcx [] _ [] rfl rfl rfl ?_
   simp -implicitDefEqProofs (maxSteps := 2000000) (disch := first | omega | (simp only [go_sem, List.length_append, List.length_drop, List.length_take] <;> omega) | decide) only [go_sem, ↓reduceIte, Nat.reduceEqDiff, reduceCtorEq, Nat.reduceLT, Nat.reduceBEq, Nat.reduceAdd, Nat.reduceSub, Nat.reduceMul, Nat.reduceMod, h30, q0]
   refine hK9 _ ?_
   clear hK9 K9
   refine Tr.kp [6] ?_
   simp only [pk_cons, pk_nil, ↓A_cons, ↓reduceIte, Nat.reduceEqDiff]
   refine Tr.fzA hcx 3 _ (by simp only [go_sem]; rfl) (Nat.zero_le _) (fun j hj => absurd hj (Nat.not_lt_zero j)) ?_
   simp -implicitDefEqProofs (disch := first | omega | (simp only [List.length_set, List.length_append, List.length_take, List.length_drop, List.length_singleton, List.length_cons, List.length_nil] <;> omega)) only [mapE_cons, mapE_nil, fzY_cl, fzH, List.map_cons, List.map_nil, Option.map_some, Option.map_none, fzCs_cons, fzCs_nil, fzCs_cl, fzC_sl, fzC_val, fzC_bp, fzC_sv, fzC_gv, fzC_agg, okF_eq, at_cons0, at_consS, liv_b, live_gv, live_tsl, live_dead, fzCs_dd, bne_self_eq_false, Bool.and_false, List.set_cons_succ, List.set_cons_zero, ↓reduceIte, Nat.reduceEqDiff, Option.isSome_some, Option.isSome_none, Bool.true_and, reduceCtorEq, Nat.reduceBNe, fzGv_cl]
   refine Tr.ret ?_
   simp -implicitDefEqProofs (disch := first | omega | (simp only [go_sem, List.length_append, List.length_drop, List.length_take] <;> omega) | decide) only [go_sem, ↓reduceIte, Nat.reduceEqDiff, reduceCtorEq]
   all_goals (first | (rw [tk0]; simp only [bentT, benB, *, ↓reduceIte]; rfl) | (rw [tk1 _ _ _ (by omega)]; simp only [bentT, benB, *, ↓reduceIte]; rfl) | (simp only [bentT, benB, *, ↓reduceIte]; done) | (simp only [bentT, benB, *, ↓reduceIte]; rfl) | (simp (disch := omega) [bentT, benB, tk0, tk1, *]; done))
  ·
   clear hT hF KT KF
   refine Tr.skip ?_
   refine hK5 _ ?_
   clear hK5 K5
   refine Tr.kp [6, 7] ?_
   simp only [pk_cons, pk_nil, ↓A_cons, ↓reduceIte, Nat.reduceEqDiff]
   refine Tr.seqK fun K10 hK10 => ?_
   refine Tr.rg hcx [] _ [] rfl rfl rfl ?_
   simp -implicitDefEqProofs (maxSteps := 2000000) (disch := first | omega | (simp only [go_sem, List.length_append, List.length_drop, List.length_take] <;> omega) | decide) only [go_sem, ↓reduceIte, Nat.reduceEqDiff, reduceCtorEq, Nat.reduceLT, Nat.reduceBEq, Nat.reduceAdd, Nat.reduceSub, Nat.reduceMul, Nat.reduceMod, h30, q0]
   refine hK10 _ ?_
   clear hK10 K10
   refine Tr.kp [6] ?_
   simp only [pk_cons, pk_nil, ↓A_cons, ↓reduceIte, Nat.reduceEqDiff]
   refine Tr.fzA hcx 3 _ (by simp only [go_sem]; rfl) (Nat.zero_le _) (fun j hj => absurd hj (Nat.not_lt_zero j)) ?_
   simp -implicitDefEqProofs (disch := first | omega | (simp only [List.length_set, List.length_append, List.length_take, List.length_drop, List.length_singleton, List.length_cons, List.length_nil] <;> omega)) only [mapE_cons, mapE_nil, fzY_cl, fzH, List.map_cons, List.map_nil, Option.map_some, Option.map_none, fzCs_cons, fzCs_nil, fzCs_cl, fzC_sl, fzC_val, fzC_bp, fzC_sv, fzC_gv, fzC_agg, okF_eq, at_cons0, at_consS, liv_b, live_gv, live_tsl, live_dead, fzCs_dd, bne_self_eq_false, Bool.and_false, List.set_cons_succ, List.set_cons_zero, ↓reduceIte, Nat.reduceEqDiff, Option.isSome_some, Option.isSome_none, Bool.true_and, reduceCtorEq, Nat.reduceBNe, fzGv_cl]
   refine Tr.ret ?_
   simp -implicitDefEqProofs (disch := first | omega | (simp only [go_sem, List.length_append, List.length_drop, List.length_take] <;> omega) | decide) only [go_sem, ↓reduceIte, Nat.reduceEqDiff, reduceCtorEq]
   all_goals (first | (rw [tk0]; simp only [bentT, benB, *, ↓reduceIte]; rfl) | (rw [tk1 _ _ _ (by omega)]; simp only [bentT, benB, *, ↓reduceIte]; rfl) | (simp only [bentT, benB, *, ↓reduceIte]; done) | (simp only [bentT, benB, *, ↓reduceIte]; rfl) | (simp (disch := omega) [bentT, benB, tk0, tk1, *]; done))
 ·
  have q0o := q0
  replace q0 := eq_false q0
  by_cases q1 : aroundI h 8 = 1
  ·
   have q1o := q1
   replace q1 := eq_true q1
   refine Tr.rgDG hcx hMO [13] [10, 14, 18] _ [none] rfl rfl rfl rfl ?_
   simp -implicitDefEqProofs (maxSteps := 2000000) (disch := first | omega | (simp only [go_sem, List.length_append, List.length_drop, List.length_take] <;> omega) | decide) only [go_sem, ↓reduceIte, Nat.reduceEqDiff, reduceCtorEq, Nat.reduceLT, Nat.reduceBEq, Nat.reduceAdd, Nat.reduceSub, Nat.reduceMul, Nat.reduceMod, h30, q0, q1]
   with_reducible refine And.intro ?_ ?_
   · exact rfl
   refine hK2 _ ?_
   clear hK2 K2
   refine Tr.kp [1, 2, 3, 6, 7] ?_
   simp only [pk_cons, pk_nil, ↓A_cons, ↓reduceIte, Nat.reduceEqDiff]
   refine Tr.seqK fun K11 hK11 => ?_
   refine Tr.rg hcx [1000028] _ [] rfl rfl rfl ?_
   simp -implicitDefEqProofs (maxSteps := 2000000) (disch := first | omega | (simp only [go_sem, List.length_append, List.length_drop, List.length_take] <;> omega) | decide) only [go_sem, ↓reduceIte, Nat.reduceEqDiff, reduceCtorEq, Nat.reduceLT, Nat.reduceBEq, Nat.reduceAdd, Nat.reduceSub, Nat.reduceMul, Nat.reduceMod, h30, q0, q1]
   refine hK11 _ ?_
   clear hK11 K11
   refine Tr.kp [1, 2, 6, 7, 8] ?_
   simp only [pk_cons, pk_nil, ↓A_cons, ↓reduceIte, Nat.reduceEqDiff]
   refine Tr.seqK fun K12 hK12 => ?_
   refine Tr.rg hcx [1000032] _ [] rfl rfl rfl ?_
   simp -implicitDefEqProofs (maxSteps := 2000000) (disch := first | omega | (simp only [go_sem, List.length_append, List.length_drop, List.length_take] <;> omega) | decide) only [go_sem, ↓reduceIte, Nat.reduceEqDiff, reduceCtorEq, Nat.reduceLT, Nat.reduceBEq, Nat.reduceAdd, Nat.reduceSub, Nat.reduceMul, Nat.reduceMod, h30, q0, q1, n_subG, benD_eq]
   refine hK12 _ ?_
   clear hK12 K12
   refine Tr.kp [1, 2, 6, 7, 8, 9] ?_
   simp only [pk_cons, pk_nil, ↓A_cons, ↓reduceIte, Nat.reduceEqDiff]
   refine Tr.seqK fun K13 hK13 => ?_
   refine Tr.seqK fun K14 hK14 => ?_
   refine Tr.rg hcx [] _ [] rfl rfl rfl ?_
   simp -implicitDefEqProofs (maxSteps := 2000000) (disch := first | omega | (simp only [go_sem, List.length_append, List.length_drop, List.length_take] <;> omega) | decide) only [go_sem, ↓reduceIte, Nat.reduceEqDiff, reduceCtorEq, Nat.reduceLT, Nat.reduceBEq, Nat.reduceAdd, Nat.reduceSub, Nat.reduceMul, Nat.reduceMod, h30, q0, q1]
   refine hK14 _ ?_
   clear hK14 K14
   refine Tr.kp [2, 6, 7, 8, 9, 34] ?_
   simp only [pk_cons, pk_nil, ↓A_cons, ↓reduceIte, Nat.reduceEqDiff]
   refine Tr.blk ?_
   refine Tr.seqK fun K15 hK15 => ?_
   refine Tr.rg hcx [1000047] _ [] rfl rfl rfl ?_
   simp -implicitDefEqProofs (maxSteps := 2000000) (disch := first | omega | (simp only [go_sem, List.length_append, List.length_drop, List.length_take] <;> omega) | decide) only [go_sem, ↓reduceIte, Nat.reduceEqDiff, reduceCtorEq, Nat.reduceLT, Nat.reduceBEq, Nat.reduceAdd, Nat.reduceSub, Nat.reduceMul, Nat.reduceMod, h30, q0, q1]
   refine hK15 _ ?_
   clear hK15 K15
   refine Tr.kp [2, 6, 7, 8, 9, 34, 46] ?_
   simp only [pk_cons, pk_nil, ↓A_cons, ↓reduceIte, Nat.reduceEqDiff]
   refine Tr.condG fun KT KF hT hF => ?_
   simp only [ev_tmp, ev_const, ↓A_cons, ↓reduceIte, Nat.reduceEqDiff, reduceCtorEq, condG_bool, GB_true, GB_false, decide_eq_true_eq]
   refine hF ?_
   clear hT hF KT KF
   refine Tr.seqK fun K16 hK16 => ?_
   refine Tr.rg hcx [1000065] _ [] rfl rfl rfl ?_
   simp -implicitDefEqProofs (maxSteps := 2000000) (disch := first | omega | (simp only [go_sem, List.length_append, List.length_drop, List.length_take] <;> omega) | decide) only [go_sem, ↓reduceIte, Nat.reduceEqDiff, reduceCtorEq, Nat.reduceLT, Nat.reduceBEq, Nat.reduceAdd, Nat.reduceSub, Nat.reduceMul, Nat.reduceMod, h30, q0, q1]
   refine hK16 _ ?_
   clear hK16 K16
   refine Tr.kp [2, 6, 7, 8, 9, 34, 64] ?_
   simp only [pk_cons, pk_nil, ↓A_cons, ↓reduceIte, Nat.reduceEqDiff]
   refine Tr.condG fun KT KF hT hF => ?_
   simp only [ev_tmp, ev_const, ↓A_cons, ↓reduceIte, Nat.reduceEqDiff, reduceCtorEq, condG_bool, GB_true, GB_false, decide_eq_true_eq]
   refine hT ?_
   clear hT hF KT KF
   refine Tr.seqK fun K17 hK17 => ?_
   refine Tr.rg hcx [] _ [] rfl rfl rfl ?_
   simp -implicitDefEqProofs (maxSteps := 2000000) (disch := first | omega | (simp only [go_sem, List.length_append, List.length_drop, List.length_take] <;> omega) | decide) only [go_sem, ↓reduceIte, Nat.reduceEqDiff, reduceCtorEq, Nat.reduceLT, Nat.reduceBEq, Nat.reduceAdd, Nat.reduceSub, Nat.reduceMul, Nat.reduceMod, h30, q0, q1]
   refine hK17 _ ?_
   clear hK17 K17
   refine Tr.kp [2, 6, 7, 69] ?_
   simp only [pk_cons, pk_nil, ↓A_cons, ↓reduceIte, Nat.reduceEqDiff]
   refine Tr.condG fun KT KF hT hF => ?_
   simp only [ev_tmp, ev_const, ↓A_cons, ↓reduceIte, Nat.reduceEqDiff, reduceCtorEq, condG_bool, GB_true, GB_false, decide_eq_true_eq]
   refine GB.dec (fun hc69 => hT ?_) (fun hc69 => hF ?_)
   ·
    clear hT hF KT KF
    by_cases z0 : aroundI p E.length = 0
    ·
     by_cases z1 : 1 < E.length
     ·
      have hae := around_lt p (m := E.length) hc69
      refine Tr.rgDG hcx hMO [87] [77] _ [] rfl rfl rfl rfl ?_
      simp -implicitDefEqProofs (maxSteps := 2000000) (disch := first | omega | (simp only [go_sem, List.length_append, List.length_drop, List.length_take] <;> omega) | decide) only [go_sem, ↓reduceIte, Nat.reduceEqDiff, reduceCtorEq, Nat.reduceLT, Nat.reduceBEq, Nat.reduceAdd, Nat.reduceSub, Nat.reduceMul, Nat.reduceMod, h30, q0, q1, z0, z1, stAB_in, stAB_mv, gwQ_sv, svG_eq, svB_cl]
      with_reducible refine And.intro ?_ ?_
      · exact rfl
      refine hK13 _ ?_
      clear hK13 K13
      refine Tr.kp [6, 7] ?_
      simp only [pk_cons, pk_nil, ↓A_cons, ↓reduceIte, Nat.reduceEqDiff]
      refine Tr.seqK fun K18 hK18 => ?_
      refine Tr.rg hcx [] _ [] rfl rfl rfl ?_
      simp -implicitDefEqProofs (maxSteps := 2000000) (disch := first | omega | (simp only [go_sem, List.length_append, List.length_drop, List.length_take] <;> omega) | decide) only [go_sem, ↓reduceIte, Nat.reduceEqDiff, reduceCtorEq, Nat.reduceLT, Nat.reduceBEq, Nat.reduceAdd, Nat.reduceSub, Nat.reduceMul, Nat.reduceMod, h30, q0, q1, z0, z1]
      refine hK18 _ ?_
      clear hK18 K18
      refine Tr.kp [6] ?_
      simp only [pk_cons, pk_nil, ↓A_cons, ↓reduceIte, Nat.reduceEqDiff]
      refine Tr.fzA hcx 4 _ (by simp only [go_sem]; rfl) (Nat.zero_le _) (fun j hj => absurd hj (Nat.not_lt_zero j)) ?_
      simp -implicitDefEqProofs (disch := first | omega | (simp only [List.length_set, List.length_append, List.length_take, List.length_drop, List.length_singleton, List.length_cons, List.length_nil] <;> omega)) only [mapE_cons, mapE_nil, fzY_cl, fzH, List.map_cons, List.map_nil, Option.map_some, Option.map_none, fzCs_cons, fzCs_nil, fzCs_cl, fzC_sl, fzC_val, fzC_bp, fzC_sv, fzC_gv, fzC_agg, okF_eq, at_cons0, at_consS, liv_b, live_gv, live_tsl, live_dead, fzCs_dd, bne_self_eq_false, Bool.and_false, List.set_cons_succ, List.set_cons_zero, ↓reduceIte, Nat.reduceEqDiff, Option.isSome_some, Option.isSome_none, Bool.true_and, reduceCtorEq, Nat.reduceBNe, fzGv_cl]
      refine Tr.ret ?_
      simp -implicitDefEqProofs (disch := first | omega | (simp only [go_sem, List.length_append, List.length_drop, List.length_take] <;> omega) | decide) only [go_sem, ↓reduceIte, Nat.reduceEqDiff, reduceCtorEq]
      all_goals (first | (rw [tk0]; simp only [bentT, benB, *, ↓reduceIte]; rfl) | (rw [tk1 _ _ _ (by omega)]; simp only [bentT, benB, *, ↓reduceIte]; rfl) | (simp only [bentT, benB, *, ↓reduceIte]; done) | (simp only [bentT, benB, *, ↓reduceIte]; rfl) | (simp (disch := omega) [bentT, benB, tk0, tk1, *]; done))
     ·
      have hae := around_lt p (m := E.length) hc69
      refine Tr.rgDG hcx hMO [87] [77] _ [] rfl rfl rfl rfl ?_
      simp -implicitDefEqProofs (maxSteps := 2000000) (disch := first | omega | (simp only [go_sem, List.length_append, List.length_drop, List.length_take] <;> omega) | decide) only [go_sem, ↓reduceIte, Nat.reduceEqDiff, reduceCtorEq, Nat.reduceLT, Nat.reduceBEq, Nat.reduceAdd, Nat.reduceSub, Nat.reduceMul, Nat.reduceMod, h30, q0, q1, z0, z1, stAB_in, stAB_mv, gwQ_sv, svG_eq, svB_cl]
      with_reducible refine And.intro ?_ ?_
      · exact rfl
      refine hK13 _ ?_
      clear hK13 K13
      refine Tr.kp [6, 7] ?_
      simp only [pk_cons, pk_nil, ↓A_cons, ↓reduceIte, Nat.reduceEqDiff]
      refine Tr.seqK fun K19 hK19 => ?_
      refine Tr.rg hcx [] _ [] rfl rfl rfl ?_
      simp -implicitDefEqProofs (maxSteps := 2000000) (disch := first | omega | (simp only [go_sem, List.length_append, List.length_drop, List.length_take] <;> omega) | decide) only [go_sem, ↓reduceIte, Nat.reduceEqDiff, reduceCtorEq, Nat.reduceLT, Nat.reduceBEq, Nat.reduceAdd, Nat.reduceSub, Nat.reduceMul, Nat.reduceMod, h30, q0, q1, z0, z1]
      refine hK19 _ ?_
      clear hK19 K19
      refine Tr.kp [6] ?_
      simp only [pk_cons, pk_nil, ↓A_cons, ↓reduceIte, Nat.reduceEqDiff]
      refine Tr.fzA hcx 3 _ (by simp only [go_sem]; rfl) (Nat.zero_le _) (fun j hj => absurd hj (Nat.not_lt_zero j)) ?_
      simp -implicitDefEqProofs (disch := first | omega | (simp only [List.length_set, List.length_append, List.length_take, List.length_drop, List.length_singleton, List.length_cons, List.length_nil] <;> omega)) only [mapE_cons, mapE_nil, fzY_cl, fzH, List.map_cons, List.map_nil, Option.map_some, Option.map_none, fzCs_cons, fzCs_nil, fzCs_cl, fzC_sl, fzC_val, fzC_bp, fzC_sv, fzC_gv, fzC_agg, okF_eq, at_cons0, at_consS, liv_b, live_gv, live_tsl, live_dead, fzCs_dd, bne_self_eq_false, Bool.and_false, List.set_cons_succ, List.set_cons_zero, ↓reduceIte, Nat.reduceEqDiff, Option.isSome_some, Option.isSome_none, Bool.true_and, reduceCtorEq, Nat.reduceBNe, fzGv_take]
      refine Tr.ret ?_
      simp -implicitDefEqProofs (disch := first | omega | (simp only [go_sem, List.length_append, List.length_drop, List.length_take] <;> omega) | decide) only [go_sem, ↓reduceIte, Nat.reduceEqDiff, reduceCtorEq]
      all_goals (first | (rw [tk0]; simp only [bentT, benB, *, ↓reduceIte]; rfl) | (rw [tk1 _ _ _ (by omega)]; simp only [bentT, benB, *, ↓reduceIte]; rfl) | (simp only [bentT, benB, *, ↓reduceIte]; done) | (simp only [bentT, benB, *, ↓reduceIte]; rfl) | (simp (disch := omega) [bentT, benB, tk0, tk1, *]; done))
    ·
     have hae := around_lt p (m := E.length) hc69
     refine Tr.rgDG hcx hMO [87] [77] _ [] rfl rfl rfl rfl ?_
     simp -implicitDefEqProofs (maxSteps := 2000000) (disch := first | omega | (simp only [go_sem, List.length_append, List.length_drop, List.length_take] <;> omega) | decide) only [go_sem, ↓reduceIte, Nat.reduceEqDiff, reduceCtorEq, Nat.reduceLT, Nat.reduceBEq, Nat.reduceAdd, Nat.reduceSub, Nat.reduceMul, Nat.reduceMod, h30, q0, q1, z0, stAB_in, stAB_mv, gwQ_sv, svG_eq, svB_cl]
     with_reducible refine And.intro ?_ ?_
     · exact rfl
     refine hK13 _ ?_
     clear hK13 K13
     refine Tr.kp [6, 7] ?_
     simp only [pk_cons, pk_nil, ↓A_cons, ↓reduceIte, Nat.reduceEqDiff]
     refine Tr.seqK fun K20 hK20 => ?_
     refine Tr.rg hcx [] _ [] rfl rfl rfl ?_
     simp -implicitDefEqProofs (maxSteps := 2000000) (disch := first | omega | (simp only [go_sem, List.length_append, List.length_drop, List.length_take] <;> omega) | decide) only [go_sem, ↓reduceIte, Nat.reduceEqDiff, reduceCtorEq, Nat.reduceLT, Nat.reduceBEq, Nat.reduceAdd, Nat.reduceSub, Nat.reduceMul, Nat.reduceMod, h30, q0, q1, z0]
     refine hK20 _ ?_
     clear hK20 K20
     refine Tr.kp [6] ?_
     simp only [pk_cons, pk_nil, ↓A_cons, ↓reduceIte, Nat.reduceEqDiff]
     refine Tr.fzA hcx 3 _ (by simp only [go_sem]; rfl) (Nat.zero_le _) (fun j hj => absurd hj (Nat.not_lt_zero j)) ?_
     simp -implicitDefEqProofs (disch := first | omega | (simp only [List.length_set, List.length_append, List.length_take, List.length_drop, List.length_singleton, List.length_cons, List.length_nil] <;> omega)) only [mapE_cons, mapE_nil, fzY_cl, fzH, List.map_cons, List.map_nil, Option.map_some, Option.map_none, fzCs_cons, fzCs_nil, fzCs_cl, fzC_sl, fzC_val, fzC_bp, fzC_sv, fzC_gv, fzC_agg, okF_eq, at_cons0, at_consS, liv_b, live_gv, live_tsl, live_dead, fzCs_dd, bne_self_eq_false, Bool.and_false, List.set_cons_succ, List.set_cons_zero, ↓reduceIte, Nat.reduceEqDiff, Option.isSome_some, Option.isSome_none, Bool.true_and, reduceCtorEq, Nat.reduceBNe, fzGv_take]
     refine Tr.ret ?_
     simp -implicitDefEqProofs (disch := first | omega | (simp only [go_sem, List.length_append, List.length_drop, List.length_take] <;> omega) | decide) only [go_sem, ↓reduceIte, Nat.reduceEqDiff, reduceCtorEq]
     all_goals (first | (rw [tk0]; simp only [bentT, benB, *, ↓reduceIte]; rfl) | (rw [tk1 _ _ _ (by omega)]; simp only [bentT, benB, *, ↓reduceIte]; rfl) | (simp only [bentT, benB, *, ↓reduceIte]; done) | (simp only [bentT, benB, *, ↓reduceIte]; rfl) | (simp (disch := omega) [bentT, benB, tk0, tk1, *]; done))
   ·
    clear hT hF KT KF
    refine Tr.skip ?_
    refine hK13 _ ?_
    clear hK13 K13
    refine Tr.kp [6, 7] ?_
    simp only [pk_cons, pk_nil, ↓A_cons, ↓reduceIte, Nat.reduceEqDiff]
    refine Tr.seqK fun K21 hK21 => ?_
    refine Tr.rg hcx [] _ [] rfl rfl rfl ?_
    simp -implicitDefEqProofs (maxSteps := 2000000) (disch := first | omega | (simp only [go_sem, List.length_append, List.length_drop, List.length_take] <;> omega) | decide) only [go_sem, ↓reduceIte, Nat.reduceEqDiff, reduceCtorEq, Nat.reduceLT, Nat.reduceBEq, Nat.reduceAdd, Nat.reduceSub, Nat.reduceMul, Nat.reduceMod, h30, q0, q1]
    refine hK21 _ ?_
    clear hK21 K21
    refine Tr.kp [6] ?_
    simp only [pk_cons, pk_nil, ↓A_cons, ↓reduceIte, Nat.reduceEqDiff]
    refine Tr.fzA hcx 3 _ (by simp only [go_sem]; rfl) (Nat.zero_le _) (fun j hj => absurd hj (Nat.not_lt_zero j)) ?_
    simp -implicitDefEqProofs (disch := first | omega | (simp only [List.length_set, List.length_append, List.length_take, List.length_drop, List.length_singleton, List.length_cons, List.length_nil] <;> omega)) only [mapE_cons, mapE_nil, fzY_cl, fzH, List.map_cons, List.map_nil, Option.map_some, Option.map_none, fzCs_cons, fzCs_nil, fzCs_cl, fzC_sl, fzC_val, fzC_bp, fzC_sv, fzC_gv, fzC_agg, okF_eq, at_cons0, at_consS, liv_b, live_gv, live_tsl, live_dead, fzCs_dd, bne_self_eq_false, Bool.and_false, List.set_cons_succ, List.set_cons_zero, ↓reduceIte, Nat.reduceEqDiff, Option.isSome_some, Option.isSome_none, Bool.true_and, reduceCtorEq, Nat.reduceBNe, fzGv_take]
    refine Tr.ret ?_
    simp -implicitDefEqProofs (disch := first | omega | (simp only [go_sem, List.length_append, List.length_drop, List.length_take] <;> omega) | decide) only [go_sem, ↓reduceIte, Nat.reduceEqDiff, reduceCtorEq]
    all_goals (first | (rw [tk0]; simp only [bentT, benB, *, ↓reduceIte]; rfl) | (rw [tk1 _ _ _ (by omega)]; simp only [bentT, benB, *, ↓reduceIte]; rfl) | (simp only [bentT, benB, *, ↓reduceIte]; done) | (simp only [bentT, benB, *, ↓reduceIte]; rfl) | (simp (disch := omega) [bentT, benB, tk0, tk1, *]; done))
  ·
   have q1o := q1
   replace q1 := eq_false q1
   by_cases q2 : aroundI h 8 = 2
   ·
    have q2o := q2
    replace q2 := eq_true q2
    refine Tr.rgDG hcx hMO [13] [10, 14, 18] _ [none] rfl rfl rfl rfl ?_
    simp -implicitDefEqProofs (maxSteps := 2000000) (disch := first | omega | (simp only [go_sem, List.length_append, List.length_drop, List.length_take] <;> omega) | decide) only [go_sem, ↓reduceIte, Nat.reduceEqDiff, reduceCtorEq, Nat.reduceLT, Nat.reduceBEq, Nat.reduceAdd, Nat.reduceSub, Nat.reduceMul, Nat.reduceMod, h30, q0, q1, q2]
    with_reducible refine And.intro ?_ ?_
    · exact rfl
    refine hK2 _ ?_
    clear hK2 K2
    refine Tr.kp [1, 2, 3, 6, 7] ?_
    simp only [pk_cons, pk_nil, ↓A_cons, ↓reduceIte, Nat.reduceEqDiff]
    refine Tr.seqK fun K22 hK22 => ?_
    refine Tr.rg hcx [1000028] _ [] rfl rfl rfl ?_
    simp -implicitDefEqProofs (maxSteps := 2000000) (disch := first | omega | (simp only [go_sem, List.length_append, List.length_drop, List.length_take] <;> omega) | decide) only [go_sem, ↓reduceIte, Nat.reduceEqDiff, reduceCtorEq, Nat.reduceLT, Nat.reduceBEq, Nat.reduceAdd, Nat.reduceSub, Nat.reduceMul, Nat.reduceMod, h30, q0, q1, q2]
    refine hK22 _ ?_
    clear hK22 K22
    refine Tr.kp [1, 2, 6, 7, 8] ?_
    simp only [pk_cons, pk_nil, ↓A_cons, ↓reduceIte, Nat.reduceEqDiff]
    refine Tr.seqK fun K23 hK23 => ?_
    refine Tr.rg hcx [1000032] _ [] rfl rfl rfl ?_
    simp -implicitDefEqProofs (maxSteps := 2000000) (disch := first | omega | (simp only [go_sem, List.length_append, List.length_drop, List.length_take] <;> omega) | decide) only [go_sem, ↓reduceIte, Nat.reduceEqDiff, reduceCtorEq, Nat.reduceLT, Nat.reduceBEq, Nat.reduceAdd, Nat.reduceSub, Nat.reduceMul, Nat.reduceMod, h30, q0, q1, q2, n_subG, benD_eq]
    refine hK23 _ ?_
    clear hK23 K23
    refine Tr.kp [1, 2, 6, 7, 8, 9] ?_
    simp only [pk_cons, pk_nil, ↓A_cons, ↓reduceIte, Nat.reduceEqDiff]
    refine Tr.seqK fun K24 hK24 => ?_
    refine Tr.seqK fun K25 hK25 => ?_
    refine Tr.rg hcx [] _ [] rfl rfl rfl ?_
    simp -implicitDefEqProofs (maxSteps := 2000000) (disch := first | omega | (simp only [go_sem, List.length_append, List.length_drop, List.length_take] <;> omega) | decide) only [go_sem, ↓reduceIte, Nat.reduceEqDiff, reduceCtorEq, Nat.reduceLT, Nat.reduceBEq, Nat.reduceAdd, Nat.reduceSub, Nat.reduceMul, Nat.reduceMod, h30, q0, q1, q2]
    refine hK25 _ ?_
    clear hK25 K25
    refine Tr.kp [2, 6, 7, 8, 9, 34] ?_
    simp only [pk_cons, pk_nil, ↓A_cons, ↓reduceIte, Nat.reduceEqDiff]
    refine Tr.blk ?_
    refine Tr.seqK fun K26 hK26 => ?_
    refine Tr.rg hcx [1000047] _ [] rfl rfl rfl ?_
    simp -implicitDefEqProofs (maxSteps := 2000000) (disch := first | omega | (simp only [go_sem, List.length_append, List.length_drop, List.length_take] <;> omega) | decide) only [go_sem, ↓reduceIte, Nat.reduceEqDiff, reduceCtorEq, Nat.reduceLT, Nat.reduceBEq, Nat.reduceAdd, Nat.reduceSub, Nat.reduceMul, Nat.reduceMod, h30, q0, q1, q2]
    refine hK26 _ ?_
    clear hK26 K26
    refine Tr.kp [2, 6, 7, 8, 9, 34, 46] ?_
    simp only [pk_cons, pk_nil, ↓A_cons, ↓reduceIte, Nat.reduceEqDiff]
    refine Tr.condG fun KT KF hT hF => ?_
    simp only [ev_tmp, ev_const, ↓A_cons, ↓reduceIte, Nat.reduceEqDiff, reduceCtorEq, condG_bool, GB_true, GB_false, decide_eq_true_eq]
    refine hF ?_
    clear hT hF KT KF
    refine Tr.seqK fun K27 hK27 => ?_
    refine Tr.rg hcx [1000065] _ [] rfl rfl rfl ?_
    simp -implicitDefEqProofs (maxSteps := 2000000) (disch := first | omega | (simp only [go_sem, List.length_append, List.length_drop, List.length_take] <;> omega) | decide) only [go_sem, ↓reduceIte, Nat.reduceEqDiff, reduceCtorEq, Nat.reduceLT, Nat.reduceBEq, Nat.reduceAdd, Nat.reduceSub, Nat.reduceMul, Nat.reduceMod, h30, q0, q1, q2]
    refine hK27 _ ?_
    clear hK27 K27
    refine Tr.kp [2, 6, 7, 8, 9, 34, 64] ?_
    simp only [pk_cons, pk_nil, ↓A_cons, ↓reduceIte, Nat.reduceEqDiff]
    refine Tr.condG fun KT KF hT hF => ?_
    simp only [ev_tmp, ev_const, ↓A_cons, ↓reduceIte, Nat.reduceEqDiff, reduceCtorEq, condG_bool, GB_true, GB_false, decide_eq_true_eq]
    refine hF ?_
    clear hT hF KT KF
    refine Tr.seqK fun K28 hK28 => ?_
    refine Tr.rg hcx [1000090] _ [] rfl rfl rfl ?_
    simp -implicitDefEqProofs (maxSteps := 2000000) (disch := first | omega | (simp only [go_sem, List.length_append, List.length_drop, List.length_take] <;> omega) | decide) only [go_sem, ↓reduceIte, Nat.reduceEqDiff, reduceCtorEq, Nat.reduceLT, Nat.reduceBEq, Nat.reduceAdd, Nat.reduceSub, Nat.reduceMul, Nat.reduceMod, h30, q0, q1, q2]
    refine hK28 _ ?_
    clear hK28 K28
    refine Tr.kp [2, 6, 7, 8, 9, 34, 89] ?_
    simp only [pk_cons, pk_nil, ↓A_cons, ↓reduceIte, Nat.reduceEqDiff]
    refine Tr.condG fun KT KF hT hF => ?_
    simp only [ev_tmp, ev_const, ↓A_cons, ↓reduceIte, Nat.reduceEqDiff, reduceCtorEq, condG_bool, GB_true, GB_false, decide_eq_true_eq]
    refine hT ?_
    clear hT hF KT KF
    refine Tr.rgG hcx [95] [92] _ [] rfl rfl rfl ?_
    simp -implicitDefEqProofs (maxSteps := 2000000) (disch := first | omega | (simp only [go_sem, List.length_append, List.length_drop, List.length_take] <;> omega) | decide) only [go_sem, ↓reduceIte, Nat.reduceEqDiff, reduceCtorEq, Nat.reduceLT, Nat.reduceBEq, Nat.reduceAdd, Nat.reduceSub, Nat.reduceMul, Nat.reduceMod, h30, q0, q1, q2]
    refine hK24 _ ?_
    clear hK24 K24
    refine Tr.kp [6, 7] ?_
    simp only [pk_cons, pk_nil, ↓A_cons, ↓reduceIte, Nat.reduceEqDiff]
    refine Tr.seqK fun K29 hK29 => ?_
    refine Tr.rg hcx [] _ [] rfl rfl rfl ?_
    simp -implicitDefEqProofs (maxSteps := 2000000) (disch := first | omega | (simp only [go_sem, List.length_append, List.length_drop, List.length_take] <;> omega) | decide) only [go_sem, ↓reduceIte, Nat.reduceEqDiff, reduceCtorEq, Nat.reduceLT, Nat.reduceBEq, Nat.reduceAdd, Nat.reduceSub, Nat.reduceMul, Nat.reduceMod, h30, q0, q1, q2]
    refine hK29 _ ?_
    clear hK29 K29
    refine Tr.kp [6] ?_
    simp only [pk_cons, pk_nil, ↓A_cons, ↓reduceIte, Nat.reduceEqDiff]
    refine Tr.fzA hcx 4 _ (by simp only [go_sem]; rfl) (Nat.zero_le _) (fun j hj => absurd hj (Nat.not_lt_zero j)) ?_
    simp -implicitDefEqProofs (disch := first | omega | (simp only [List.length_set, List.length_append, List.length_take, List.length_drop, List.length_singleton, List.length_cons, List.length_nil] <;> omega)) only [mapE_cons, mapE_nil, fzY_cl, fzH, List.map_cons, List.map_nil, Option.map_some, Option.map_none, fzCs_cons, fzCs_nil, fzCs_cl, fzC_sl, fzC_val, fzC_bp, fzC_sv, fzC_gv, fzC_agg, okF_eq, at_cons0, at_consS, liv_b, live_gv, live_tsl, live_dead, fzCs_dd, bne_self_eq_false, Bool.and_false, List.set_cons_succ, List.set_cons_zero, ↓reduceIte, Nat.reduceEqDiff, Option.isSome_some, Option.isSome_none, Bool.true_and, reduceCtorEq, Nat.reduceBNe, fzGv_cl]
    refine Tr.ret ?_
    simp -implicitDefEqProofs (disch := first | omega | (simp only [go_sem, List.length_append, List.length_drop, List.length_take] <;> omega) | decide) only [go_sem, ↓reduceIte, Nat.reduceEqDiff, reduceCtorEq]
    all_goals (first | (rw [tk0]; simp only [bentT, benB, *, ↓reduceIte]; rfl) | (rw [tk1 _ _ _ (by omega)]; simp only [bentT, benB, *, ↓reduceIte]; rfl) | (simp only [bentT, benB, *, ↓reduceIte]; done) | (simp only [bentT, benB, *, ↓reduceIte]; rfl) | (simp (disch := omega) [bentT, benB, tk0, tk1, *]; done))
   ·
    have q2o := q2
    replace q2 := eq_false q2
    by_cases q3 : aroundI h 8 = 3
    ·
     have q3o := q3
     replace q3 := eq_true q3
     refine Tr.rgDG hcx hMO [17] [10, 14, 18] _ [none] rfl rfl rfl rfl ?_
     simp -implicitDefEqProofs (maxSteps := 2000000) (disch := first | omega | (simp only [go_sem, List.length_append, List.length_drop, List.length_take] <;> omega) | decide) only [go_sem, ↓reduceIte, Nat.reduceEqDiff, reduceCtorEq, Nat.reduceLT, Nat.reduceBEq, Nat.reduceAdd, Nat.reduceSub, Nat.reduceMul, Nat.reduceMod, h30, q0, q1, q2, q3]
     with_reducible refine And.intro ?_ ?_
     · exact rfl
     refine hK2 _ ?_
     clear hK2 K2
     refine Tr.kp [1, 2, 3, 6, 7] ?_
     simp only [pk_cons, pk_nil, ↓A_cons, ↓reduceIte, Nat.reduceEqDiff]
     refine Tr.seqK fun K30 hK30 => ?_
     refine Tr.rg hcx [1000028] _ [] rfl rfl rfl ?_
     simp -implicitDefEqProofs (maxSteps := 2000000) (disch := first | omega | (simp only [go_sem, List.length_append, List.length_drop, List.length_take] <;> omega) | decide) only [go_sem, ↓reduceIte, Nat.reduceEqDiff, reduceCtorEq, Nat.reduceLT, Nat.reduceBEq, Nat.reduceAdd, Nat.reduceSub, Nat.reduceMul, Nat.reduceMod, h30, q0, q1, q2, q3]
     refine hK30 _ ?_
     clear hK30 K30
     refine Tr.kp [1, 2, 6, 7, 8] ?_
     simp only [pk_cons, pk_nil, ↓A_cons, ↓reduceIte, Nat.reduceEqDiff]
     refine Tr.seqK fun K31 hK31 => ?_
     refine Tr.rg hcx [1000032] _ [] rfl rfl rfl ?_
     simp -implicitDefEqProofs (maxSteps := 2000000) (disch := first | omega | (simp only [go_sem, List.length_append, List.length_drop, List.length_take] <;> omega) | decide) only [go_sem, ↓reduceIte, Nat.reduceEqDiff, reduceCtorEq, Nat.reduceLT, Nat.reduceBEq, Nat.reduceAdd, Nat.reduceSub, Nat.reduceMul, Nat.reduceMod, h30, q0, q1, q2, q3, n_subG, benD_eq]
     refine hK31 _ ?_
     clear hK31 K31
     refine Tr.kp [1, 2, 6, 7, 8, 9] ?_
     simp only [pk_cons, pk_nil, ↓A_cons, ↓reduceIte, Nat.reduceEqDiff]
     refine Tr.seqK fun K32 hK32 => ?_
     refine Tr.seqK fun K33 hK33 => ?_
     refine Tr.rg hcx [] _ [] rfl rfl rfl ?_
     simp -implicitDefEqProofs (maxSteps := 2000000) (disch := first | omega | (simp only [go_sem, List.length_append, List.length_drop, List.length_take] <;> omega) | decide) only [go_sem, ↓reduceIte, Nat.reduceEqDiff, reduceCtorEq, Nat.reduceLT, Nat.reduceBEq, Nat.reduceAdd, Nat.reduceSub, Nat.reduceMul, Nat.reduceMod, h30, q0, q1, q2, q3]
     refine hK33 _ ?_
     clear hK33 K33
     refine Tr.kp [2, 6, 7, 8, 9, 34] ?_
     simp only [pk_cons, pk_nil, ↓A_cons, ↓reduceIte, Nat.reduceEqDiff]
     refine Tr.blk ?_
     refine Tr.seqK fun K34 hK34 => ?_
     refine Tr.rg hcx [1000047] _ [] rfl rfl rfl ?_
     simp -implicitDefEqProofs (maxSteps := 2000000) (disch := first | omega | (simp only [go_sem, List.length_append, List.length_drop, List.length_take] <;> omega) | decide) only [go_sem, ↓reduceIte, Nat.reduceEqDiff, reduceCtorEq, Nat.reduceLT, Nat.reduceBEq, Nat.reduceAdd, Nat.reduceSub, Nat.reduceMul, Nat.reduceMod, h30, q0, q1, q2, q3]
     refine hK34 _ ?_
     clear hK34 K34
     refine Tr.kp [2, 6, 7, 8, 9, 34, 46] ?_
     simp only [pk_cons, pk_nil, ↓A_cons, ↓reduceIte, Nat.reduceEqDiff]
     refine Tr.condG fun KT KF hT hF => ?_
     simp only [ev_tmp, ev_const, ↓A_cons, ↓reduceIte, Nat.reduceEqDiff, reduceCtorEq, condG_bool, GB_true, GB_false, decide_eq_true_eq]
     refine hF ?_
     clear hT hF KT KF
     refine Tr.seqK fun K35 hK35 => ?_
     refine Tr.rg hcx [1000065] _ [] rfl rfl rfl ?_
     simp -implicitDefEqProofs (maxSteps := 2000000) (disch := first | omega | (simp only [go_sem, List.length_append, List.length_drop, List.length_take] <;> omega) | decide) only [go_sem, ↓reduceIte, Nat.reduceEqDiff, reduceCtorEq, Nat.reduceLT, Nat.reduceBEq, Nat.reduceAdd, Nat.reduceSub, Nat.reduceMul, Nat.reduceMod, h30, q0, q1, q2, q3]
     refine hK35 _ ?_
     clear hK35 K35
     refine Tr.kp [2, 6, 7, 8, 9, 34, 64] ?_
     simp only [pk_cons, pk_nil, ↓A_cons, ↓reduceIte, Nat.reduceEqDiff]
     refine Tr.condG fun KT KF hT hF => ?_
     simp only [ev_tmp, ev_const, ↓A_cons, ↓reduceIte, Nat.reduceEqDiff, reduceCtorEq, condG_bool, GB_true, GB_false, decide_eq_true_eq]
     refine hF ?_
     clear hT hF KT KF
     refine Tr.seqK fun K36 hK36 => ?_
     refine Tr.rg hcx [1000090] _ [] rfl rfl rfl ?_
     simp -implicitDefEqProofs (maxSteps := 2000000) (disch := first | omega | (simp only [go_sem, List.length_append, List.length_drop, List.length_take] <;> omega) | decide) only [go_sem, ↓reduceIte, Nat.reduceEqDiff, reduceCtorEq, Nat.reduceLT, Nat.reduceBEq, Nat.reduceAdd, Nat.reduceSub, Nat.reduceMul, Nat.reduceMod, h30, q0, q1, q2, q3]
     refine hK36 _ ?_
     clear hK36 K36
     refine Tr.kp [2, 6, 7, 8, 9, 34, 89] ?_
     simp only [pk_cons, pk_nil, ↓A_cons, ↓reduceIte, Nat.reduceEqDiff]
     refine Tr.condG fun KT KF hT hF => ?_
     simp only [ev_tmp, ev_const, ↓A_cons, ↓reduceIte, Nat.reduceEqDiff, reduceCtorEq, condG_bool, GB_true, GB_false, decide_eq_true_eq]
     refine hF ?_
     clear hT hF KT KF
     refine Tr.seqK fun K37 hK37 => ?_
     refine Tr.rg hcx [1000098] _ [] rfl rfl rfl ?_
     simp -implicitDefEqProofs (maxSteps := 2000000) (disch := first | omega | (simp only [go_sem, List.length_append, List.length_drop, List.length_take] <;> omega) | decide) only [go_sem, ↓reduceIte, Nat.reduceEqDiff, reduceCtorEq, Nat.reduceLT, Nat.reduceBEq, Nat.reduceAdd, Nat.reduceSub, Nat.reduceMul, Nat.reduceMod, h30, q0, q1, q2, q3]
     refine hK37 _ ?_
     clear hK37 K37
     refine Tr.kp [2, 6, 7, 8, 9, 34, 97] ?_
     simp only [pk_cons, pk_nil, ↓A_cons, ↓reduceIte, Nat.reduceEqDiff]
     refine Tr.condG fun KT KF hT hF => ?_
     simp only [ev_tmp, ev_const, ↓A_cons, ↓reduceIte, Nat.reduceEqDiff, reduceCtorEq, condG_bool, GB_true, GB_false, decide_eq_true_eq]
     refine hT ?_
     clear hT hF KT KF
     refine Tr.seqK fun K38 hK38 => ?_
     refine Tr.rg hcx [] _ [] rfl rfl rfl ?_
     simp -implicitDefEqProofs (maxSteps := 2000000) (disch := first | omega | (simp only [go_sem, List.length_append, List.length_drop, List.length_take] <;> omega) | decide) only [go_sem, ↓reduceIte, Nat.reduceEqDiff, reduceCtorEq, Nat.reduceLT, Nat.reduceBEq, Nat.reduceAdd, Nat.reduceSub, Nat.reduceMul, Nat.reduceMod, h30, q0, q1, q2, q3]
     refine hK38 _ ?_
     clear hK38 K38
     refine Tr.kp [6, 7, 8, 9, 103] ?_
     simp only [pk_cons, pk_nil, ↓A_cons, ↓reduceIte, Nat.reduceEqDiff]
     refine Tr.condG fun KT KF hT hF => ?_
     simp only [ev_tmp, ev_const, ↓A_cons, ↓reduceIte, Nat.reduceEqDiff, reduceCtorEq, condG_bool, GB_true, GB_false, decide_eq_true_eq]
     refine GB.dec (fun hc103 => hT ?_) (fun hc103 => hF ?_)
     ·
      clear hT hF KT KF
      have hbb := hc103
      refine Tr.rgD hcx hMO [] _ [] rfl rfl rfl rfl ?_
      simp -implicitDefEqProofs (maxSteps := 2000000) (disch := first | omega | (simp only [go_sem, List.length_append, List.length_drop, List.length_take] <;> omega) | decide) only [go_sem, ↓reduceIte, Nat.reduceEqDiff, reduceCtorEq, Nat.reduceLT, Nat.reduceBEq, Nat.reduceAdd, Nat.reduceSub, Nat.reduceMul, Nat.reduceMod, h30, q0, q1, q2, q3, i_addw]
      with_reducible refine And.intro ?_ ?_
      · exact rfl
      refine hK32 _ ?_
      clear hK32 K32
      refine Tr.kp [6, 7] ?_
      simp only [pk_cons, pk_nil, ↓A_cons, ↓reduceIte, Nat.reduceEqDiff]
      refine Tr.seqK fun K39 hK39 => ?_
      refine Tr.rg hcx [] _ [] rfl rfl rfl ?_
      simp -implicitDefEqProofs (maxSteps := 2000000) (disch := first | omega | (simp only [go_sem, List.length_append, List.length_drop, List.length_take] <;> omega) | decide) only [go_sem, ↓reduceIte, Nat.reduceEqDiff, reduceCtorEq, Nat.reduceLT, Nat.reduceBEq, Nat.reduceAdd, Nat.reduceSub, Nat.reduceMul, Nat.reduceMod, h30, q0, q1, q2, q3]
      refine hK39 _ ?_
      clear hK39 K39
      refine Tr.kp [6] ?_
      simp only [pk_cons, pk_nil, ↓A_cons, ↓reduceIte, Nat.reduceEqDiff]
      refine Tr.fzA hcx 3 _ (by simp only [go_sem]; rfl) (Nat.zero_le _) (fun j hj => absurd hj (Nat.not_lt_zero j)) ?_
      simp -implicitDefEqProofs (disch := first | omega | (simp only [List.length_set, List.length_append, List.length_take, List.length_drop, List.length_singleton, List.length_cons, List.length_nil] <;> omega)) only [mapE_cons, mapE_nil, fzY_cl, fzH, List.map_cons, List.map_nil, Option.map_some, Option.map_none, fzCs_cons, fzCs_nil, fzCs_cl, fzC_sl, fzC_val, fzC_bp, fzC_sv, fzC_gv, fzC_agg, okF_eq, at_cons0, at_consS, liv_b, live_gv, live_tsl, live_dead, fzCs_dd, bne_self_eq_false, Bool.and_false, List.set_cons_succ, List.set_cons_zero, ↓reduceIte, Nat.reduceEqDiff, Option.isSome_some, Option.isSome_none, Bool.true_and, reduceCtorEq, Nat.reduceBNe, fzGv_cl]
      refine Tr.ret ?_
      simp -implicitDefEqProofs (disch := first | omega | (simp only [go_sem, List.length_append, List.length_drop, List.length_take] <;> omega) | decide) only [go_sem, ↓reduceIte, Nat.reduceEqDiff, reduceCtorEq]
      all_goals (first | (rw [tk0]; simp only [bentT, benB, *, ↓reduceIte]; rfl) | (rw [tk1 _ _ _ (by omega)]; simp only [bentT, benB, *, ↓reduceIte]; rfl) | (simp only [bentT, benB, *, ↓reduceIte]; done) | (simp only [bentT, benB, *, ↓reduceIte]; rfl) | (simp (disch := omega) [bentT, benB, tk0, tk1, *]; done))
     ·
      clear hT hF KT KF
      refine Tr.skip ?_
      refine hK32 _ ?_
      clear hK32 K32
      refine Tr.kp [6, 7] ?_
      simp only [pk_cons, pk_nil, ↓A_cons, ↓reduceIte, Nat.reduceEqDiff]
      refine Tr.seqK fun K40 hK40 => ?_
      refine Tr.rg hcx [] _ [] rfl rfl rfl ?_
      simp -implicitDefEqProofs (maxSteps := 2000000) (disch := first | omega | (simp only [go_sem, List.length_append, List.length_drop, List.length_take] <;> omega) | decide) only [go_sem, ↓reduceIte, Nat.reduceEqDiff, reduceCtorEq, Nat.reduceLT, Nat.reduceBEq, Nat.reduceAdd, Nat.reduceSub, Nat.reduceMul, Nat.reduceMod, h30, q0, q1, q2, q3]
      refine hK40 _ ?_
      clear hK40 K40
      refine Tr.kp [6] ?_
      simp only [pk_cons, pk_nil, ↓A_cons, ↓reduceIte, Nat.reduceEqDiff]
      refine Tr.fzA hcx 3 _ (by simp only [go_sem]; rfl) (Nat.zero_le _) (fun j hj => absurd hj (Nat.not_lt_zero j)) ?_
      simp -implicitDefEqProofs (disch := first | omega | (simp only [List.length_set, List.length_append, List.length_take, List.length_drop, List.length_singleton, List.length_cons, List.length_nil] <;> omega)) only [mapE_cons, mapE_nil, fzY_cl, fzH, List.map_cons, List.map_nil, Option.map_some, Option.map_none, fzCs_cons, fzCs_nil, fzCs_cl, fzC_sl, fzC_val, fzC_bp, fzC_sv, fzC_gv, fzC_agg, okF_eq, at_cons0, at_consS, liv_b, live_gv, live_tsl, live_dead, fzCs_dd, bne_self_eq_false, Bool.and_false, List.set_cons_succ, List.set_cons_zero, ↓reduceIte, Nat.reduceEqDiff, Option.isSome_some, Option.isSome_none, Bool.true_and, reduceCtorEq, Nat.reduceBNe, fzGv_cl]
      refine Tr.ret ?_
      simp -implicitDefEqProofs (disch := first | omega | (simp only [go_sem, List.length_append, List.length_drop, List.length_take] <;> omega) | decide) only [go_sem, ↓reduceIte, Nat.reduceEqDiff, reduceCtorEq]
      all_goals (first | (rw [tk0]; simp only [bentT, benB, *, ↓reduceIte]; rfl) | (rw [tk1 _ _ _ (by omega)]; simp only [bentT, benB, *, ↓reduceIte]; rfl) | (simp only [bentT, benB, *, ↓reduceIte]; done) | (simp only [bentT, benB, *, ↓reduceIte]; rfl) | (simp (disch := omega) [bentT, benB, tk0, tk1, *]; done))
    ·
     have q3o := q3
     replace q3 := eq_false q3
     by_cases q4 : aroundI h 8 = 4
     ·
      have q4o := q4
      replace q4 := eq_true q4
      refine Tr.rgDG hcx hMO [21] [10, 14, 18] _ [none] rfl rfl rfl rfl ?_
      simp -implicitDefEqProofs (maxSteps := 2000000) (disch := first | omega | (simp only [go_sem, List.length_append, List.length_drop, List.length_take] <;> omega) | decide) only [go_sem, ↓reduceIte, Nat.reduceEqDiff, reduceCtorEq, Nat.reduceLT, Nat.reduceBEq, Nat.reduceAdd, Nat.reduceSub, Nat.reduceMul, Nat.reduceMod, h30, q0, q1, q2, q3, q4]
      with_reducible refine And.intro ?_ ?_
      · exact rfl
      refine hK2 _ ?_
      clear hK2 K2
      refine Tr.kp [1, 2, 3, 6, 7] ?_
      simp only [pk_cons, pk_nil, ↓A_cons, ↓reduceIte, Nat.reduceEqDiff]
      refine Tr.seqK fun K41 hK41 => ?_
      refine Tr.rg hcx [1000028] _ [] rfl rfl rfl ?_
      simp -implicitDefEqProofs (maxSteps := 2000000) (disch := first | omega | (simp only [go_sem, List.length_append, List.length_drop, List.length_take] <;> omega) | decide) only [go_sem, ↓reduceIte, Nat.reduceEqDiff, reduceCtorEq, Nat.reduceLT, Nat.reduceBEq, Nat.reduceAdd, Nat.reduceSub, Nat.reduceMul, Nat.reduceMod, h30, q0, q1, q2, q3, q4]
      refine hK41 _ ?_
      clear hK41 K41
      refine Tr.kp [1, 2, 6, 7, 8] ?_
      simp only [pk_cons, pk_nil, ↓A_cons, ↓reduceIte, Nat.reduceEqDiff]
      refine Tr.seqK fun K42 hK42 => ?_
      refine Tr.rg hcx [1000032] _ [] rfl rfl rfl ?_
      simp -implicitDefEqProofs (maxSteps := 2000000) (disch := first | omega | (simp only [go_sem, List.length_append, List.length_drop, List.length_take] <;> omega) | decide) only [go_sem, ↓reduceIte, Nat.reduceEqDiff, reduceCtorEq, Nat.reduceLT, Nat.reduceBEq, Nat.reduceAdd, Nat.reduceSub, Nat.reduceMul, Nat.reduceMod, h30, q0, q1, q2, q3, q4, n_subG, benD_eq]
      refine hK42 _ ?_
      clear hK42 K42
      refine Tr.kp [1, 2, 6, 7, 8, 9] ?_
      simp only [pk_cons, pk_nil, ↓A_cons, ↓reduceIte, Nat.reduceEqDiff]
      refine Tr.seqK fun K43 hK43 => ?_
      refine Tr.seqK fun K44 hK44 => ?_
      refine Tr.rg hcx [] _ [] rfl rfl rfl ?_
      simp -implicitDefEqProofs (maxSteps := 2000000) (disch := first | omega | (simp only [go_sem, List.length_append, List.length_drop, List.length_take] <;> omega) | decide) only [go_sem, ↓reduceIte, Nat.reduceEqDiff, reduceCtorEq, Nat.reduceLT, Nat.reduceBEq, Nat.reduceAdd, Nat.reduceSub, Nat.reduceMul, Nat.reduceMod, h30, q0, q1, q2, q3, q4]
      refine hK44 _ ?_
      clear hK44 K44
      refine Tr.kp [2, 6, 7, 8, 9, 34] ?_
      simp only [pk_cons, pk_nil, ↓A_cons, ↓reduceIte, Nat.reduceEqDiff]
      refine Tr.blk ?_
      refine Tr.seqK fun K45 hK45 => ?_
      refine Tr.rg hcx [1000047] _ [] rfl rfl rfl ?_
      simp -implicitDefEqProofs (maxSteps := 2000000) (disch := first | omega | (simp only [go_sem, List.length_append, List.length_drop, List.length_take] <;> omega) | decide) only [go_sem, ↓reduceIte, Nat.reduceEqDiff, reduceCtorEq, Nat.reduceLT, Nat.reduceBEq, Nat.reduceAdd, Nat.reduceSub, Nat.reduceMul, Nat.reduceMod, h30, q0, q1, q2, q3, q4]
      refine hK45 _ ?_
      clear hK45 K45
      refine Tr.kp [2, 6, 7, 8, 9, 34, 46] ?_
      simp only [pk_cons, pk_nil, ↓A_cons, ↓reduceIte, Nat.reduceEqDiff]
      refine Tr.condG fun KT KF hT hF => ?_
      simp only [ev_tmp, ev_const, ↓A_cons, ↓reduceIte, Nat.reduceEqDiff, reduceCtorEq, condG_bool, GB_true, GB_false, decide_eq_true_eq]
      refine hF ?_
      clear hT hF KT KF
      refine Tr.seqK fun K46 hK46 => ?_
      refine Tr.rg hcx [1000065] _ [] rfl rfl rfl ?_
      simp -implicitDefEqProofs (maxSteps := 2000000) (disch := first | omega | (simp only [go_sem, List.length_append, List.length_drop, List.length_take] <;> omega) | decide) only [go_sem, ↓reduceIte, Nat.reduceEqDiff, reduceCtorEq, Nat.reduceLT, Nat.reduceBEq, Nat.reduceAdd, Nat.reduceSub, Nat.reduceMul, Nat.reduceMod, h30, q0, q1, q2, q3, q4]
      refine hK46 _ ?_
      clear hK46 K46
      refine Tr.kp [2, 6, 7, 8, 9, 34, 64] ?_
      simp only [pk_cons, pk_nil, ↓A_cons, ↓reduceIte, Nat.reduceEqDiff]
      refine Tr.condG fun KT KF hT hF => ?_
      simp only [ev_tmp, ev_const, ↓A_cons, ↓reduceIte, Nat.reduceEqDiff, reduceCtorEq, condG_bool, GB_true, GB_false, decide_eq_true_eq]
      refine hF ?_
      clear hT hF KT KF
      refine Tr.seqK fun K47 hK47 => ?_
      refine Tr.rg hcx [1000090] _ [] rfl rfl rfl ?_
      simp -implicitDefEqProofs (maxSteps := 2000000) (disch := first | omega | (simp only [go_sem, List.length_append, List.length_drop, List.length_take] <;> omega) | decide) only [go_sem, ↓reduceIte, Nat.reduceEqDiff, reduceCtorEq, Nat.reduceLT, Nat.reduceBEq, Nat.reduceAdd, Nat.reduceSub, Nat.reduceMul, Nat.reduceMod, h30, q0, q1, q2, q3, q4]
      refine hK47 _ ?_
      clear hK47 K47
      refine Tr.kp [2, 6, 7, 8, 9, 34, 89] ?_
      simp only [pk_cons, pk_nil, ↓A_cons, ↓reduceIte, Nat.reduceEqDiff]
      refine Tr.condG fun KT KF hT hF => ?_
      simp only [ev_tmp, ev_const, ↓A_cons, ↓reduceIte, Nat.reduceEqDiff, reduceCtorEq, condG_bool, GB_true, GB_false, decide_eq_true_eq]
      refine hF ?_
      clear hT hF KT KF
      refine Tr.seqK fun K48 hK48 => ?_
      refine Tr.rg hcx [1000098] _ [] rfl rfl rfl ?_
      simp -implicitDefEqProofs (maxSteps := 2000000) (disch := first | omega | (simp only [go_sem, List.length_append, List.length_drop, List.length_take] <;> omega) | decide) only [go_sem, ↓reduceIte, Nat.reduceEqDiff, reduceCtorEq, Nat.reduceLT, Nat.reduceBEq, Nat.reduceAdd, Nat.reduceSub, Nat.reduceMul, Nat.reduceMod, h30, q0, q1, q2, q3, q4]
      refine hK48 _ ?_
      clear hK48 K48
      refine Tr.kp [2, 6, 7, 8, 9, 34, 97] ?_
      simp only [pk_cons, pk_nil, ↓A_cons, ↓reduceIte, Nat.reduceEqDiff]
      refine Tr.condG fun KT KF hT hF => ?_
      simp only [ev_tmp, ev_const, ↓A_cons, ↓reduceIte, Nat.reduceEqDiff, reduceCtorEq, condG_bool, GB_true, GB_false, decide_eq_true_eq]
      refine hF ?_
      clear hT hF KT KF
      refine Tr.seqK fun K49 hK49 => ?_
      refine Tr.rg hcx [1000116] _ [] rfl rfl rfl ?_
      simp -implicitDefEqProofs (maxSteps := 2000000) (disch := first | omega | (simp only [go_sem, List.length_append, List.length_drop, List.length_take] <;> omega) | decide) only [go_sem, ↓reduceIte, Nat.reduceEqDiff, reduceCtorEq, Nat.reduceLT, Nat.reduceBEq, Nat.reduceAdd, Nat.reduceSub, Nat.reduceMul, Nat.reduceMod, h30, q0, q1, q2, q3, q4]
      refine hK49 _ ?_
      clear hK49 K49
      refine Tr.kp [2, 6, 7, 8, 9, 34, 115] ?_
      simp only [pk_cons, pk_nil, ↓A_cons, ↓reduceIte, Nat.reduceEqDiff]
      refine Tr.condG fun KT KF hT hF => ?_
      simp only [ev_tmp, ev_const, ↓A_cons, ↓reduceIte, Nat.reduceEqDiff, reduceCtorEq, condG_bool, GB_true, GB_false, decide_eq_true_eq]
      refine hT ?_
      clear hT hF KT KF
      refine Tr.seqK fun K50 hK50 => ?_
      refine Tr.rg hcx [] _ [] rfl rfl rfl ?_
      simp -implicitDefEqProofs (maxSteps := 2000000) (disch := first | omega | (simp only [go_sem, List.length_append, List.length_drop, List.length_take] <;> omega) | decide) only [go_sem, ↓reduceIte, Nat.reduceEqDiff, reduceCtorEq, Nat.reduceLT, Nat.reduceBEq, Nat.reduceAdd, Nat.reduceSub, Nat.reduceMul, Nat.reduceMod, h30, q0, q1, q2, q3, q4]
      refine hK50 _ ?_
      clear hK50 K50
      refine Tr.kp [6, 7, 8, 9, 121] ?_
      simp only [pk_cons, pk_nil, ↓A_cons, ↓reduceIte, Nat.reduceEqDiff]
      refine Tr.condG fun KT KF hT hF => ?_
      simp only [ev_tmp, ev_const, ↓A_cons, ↓reduceIte, Nat.reduceEqDiff, reduceCtorEq, condG_bool, GB_true, GB_false, decide_eq_true_eq]
      refine GB.dec (fun hc121 => hT ?_) (fun hc121 => hF ?_)
      ·
       clear hT hF KT KF
       have hbb := hc121
       refine Tr.rgD hcx hMO [] _ [] rfl rfl rfl rfl ?_
       simp -implicitDefEqProofs (maxSteps := 2000000) (disch := first | omega | (simp only [go_sem, List.length_append, List.length_drop, List.length_take] <;> omega) | decide) only [go_sem, ↓reduceIte, Nat.reduceEqDiff, reduceCtorEq, Nat.reduceLT, Nat.reduceBEq, Nat.reduceAdd, Nat.reduceSub, Nat.reduceMul, Nat.reduceMod, h30, q0, q1, q2, q3, q4, i_addw]
       with_reducible refine And.intro ?_ ?_
       · exact rfl
       refine hK43 _ ?_
       clear hK43 K43
       refine Tr.kp [6, 7] ?_
       simp only [pk_cons, pk_nil, ↓A_cons, ↓reduceIte, Nat.reduceEqDiff]
       refine Tr.seqK fun K51 hK51 => ?_
       refine Tr.rg hcx [] _ [] rfl rfl rfl ?_
       simp -implicitDefEqProofs (maxSteps := 2000000) (disch := first | omega | (simp only [go_sem, List.length_append, List.length_drop, List.length_take] <;> omega) | decide) only [go_sem, ↓reduceIte, Nat.reduceEqDiff, reduceCtorEq, Nat.reduceLT, Nat.reduceBEq, Nat.reduceAdd, Nat.reduceSub, Nat.reduceMul, Nat.reduceMod, h30, q0, q1, q2, q3, q4]
       refine hK51 _ ?_
       clear hK51 K51
       refine Tr.kp [6] ?_
       simp only [pk_cons, pk_nil, ↓A_cons, ↓reduceIte, Nat.reduceEqDiff]
       refine Tr.fzA hcx 3 _ (by simp only [go_sem]; rfl) (Nat.zero_le _) (fun j hj => absurd hj (Nat.not_lt_zero j)) ?_
       simp -implicitDefEqProofs (disch := first | omega | (simp only [List.length_set, List.length_append, List.length_take, List.length_drop, List.length_singleton, List.length_cons, List.length_nil] <;> omega)) only [mapE_cons, mapE_nil, fzY_cl, fzH, List.map_cons, List.map_nil, Option.map_some, Option.map_none, fzCs_cons, fzCs_nil, fzCs_cl, fzC_sl, fzC_val, fzC_bp, fzC_sv, fzC_gv, fzC_agg, okF_eq, at_cons0, at_consS, liv_b, live_gv, live_tsl, live_dead, fzCs_dd, bne_self_eq_false, Bool.and_false, List.set_cons_succ, List.set_cons_zero, ↓reduceIte, Nat.reduceEqDiff, Option.isSome_some, Option.isSome_none, Bool.true_and, reduceCtorEq, Nat.reduceBNe, fzGv_cl]
       refine Tr.ret ?_
       simp -implicitDefEqProofs (disch := first | omega | (simp only [go_sem, List.length_append, List.length_drop, List.length_take] <;> omega) | decide) only [go_sem, ↓reduceIte, Nat.reduceEqDiff, reduceCtorEq]
       all_goals (first | (rw [tk0]; simp only [bentT, benB, *, ↓reduceIte]; rfl) | (rw [tk1 _ _ _ (by omega)]; simp only [bentT, benB, *, ↓reduceIte]; rfl) | (simp only [bentT, benB, *, ↓reduceIte]; done) | (simp only [bentT, benB, *, ↓reduceIte]; rfl) | (simp (disch := omega) [bentT, benB, tk0, tk1, *]; done))
      ·
       clear hT hF KT KF
       refine Tr.skip ?_
       refine hK43 _ ?_
       clear hK43 K43
       refine Tr.kp [6, 7] ?_
       simp only [pk_cons, pk_nil, ↓A_cons, ↓reduceIte, Nat.reduceEqDiff]
       refine Tr.seqK fun K52 hK52 => ?_
       refine Tr.rg hcx [] _ [] rfl rfl rfl ?_
       simp -implicitDefEqProofs (maxSteps := 2000000) (disch := first | omega | (simp only [go_sem, List.length_append, List.length_drop, List.length_take] <;> omega) | decide) only [go_sem, ↓reduceIte, Nat.reduceEqDiff, reduceCtorEq, Nat.reduceLT, Nat.reduceBEq, Nat.reduceAdd, Nat.reduceSub, Nat.reduceMul, Nat.reduceMod, h30, q0, q1, q2, q3, q4]
       refine hK52 _ ?_
       clear hK52 K52
       refine Tr.kp [6] ?_
       simp only [pk_cons, pk_nil, ↓A_cons, ↓reduceIte, Nat.reduceEqDiff]
       refine Tr.fzA hcx 3 _ (by simp only [go_sem]; rfl) (Nat.zero_le _) (fun j hj => absurd hj (Nat.not_lt_zero j)) ?_
       simp -implicitDefEqProofs (disch := first | omega | (simp only [List.length_set, List.length_append, List.length_take, List.length_drop, List.length_singleton, List.length_cons, List.length_nil] <;> omega)) only [mapE_cons, mapE_nil, fzY_cl, fzH, List.map_cons, List.map_nil, Option.map_some, Option.map_none, fzCs_cons, fzCs_nil, fzCs_cl, fzC_sl, fzC_val, fzC_bp, fzC_sv, fzC_gv, fzC_agg, okF_eq, at_cons0, at_consS, liv_b, live_gv, live_tsl, live_dead, fzCs_dd, bne_self_eq_false, Bool.and_false, List.set_cons_succ, List.set_cons_zero, ↓reduceIte, Nat.reduceEqDiff, Option.isSome_some, Option.isSome_none, Bool.true_and, reduceCtorEq, Nat.reduceBNe, fzGv_cl]
       refine Tr.ret ?_
       simp -implicitDefEqProofs (disch := first | omega | (simp only [go_sem, List.length_append, List.length_drop, List.length_take] <;> omega) | decide) only [go_sem, ↓reduceIte, Nat.reduceEqDiff, reduceCtorEq]
       all_goals (first | (rw [tk0]; simp only [bentT, benB, *, ↓reduceIte]; rfl) | (rw [tk1 _ _ _ (by omega)]; simp only [bentT, benB, *, ↓reduceIte]; rfl) | (simp only [bentT, benB, *, ↓reduceIte]; done) | (simp only [bentT, benB, *, ↓reduceIte]; rfl) | (simp (disch := omega) [bentT, benB, tk0, tk1, *]; done))
     ·
      have q4o := q4
      replace q4 := eq_false q4
      by_cases q5 : aroundI h 8 = 5
      ·
       have q5o := q5
       replace q5 := eq_true q5
       refine Tr.rgDG hcx hMO [17] [10, 14, 18] _ [none] rfl rfl rfl rfl ?_
       simp -implicitDefEqProofs (maxSteps := 2000000) (disch := first | omega | (simp only [go_sem, List.length_append, List.length_drop, List.length_take] <;> omega) | decide) only [go_sem, ↓reduceIte, Nat.reduceEqDiff, reduceCtorEq, Nat.reduceLT, Nat.reduceBEq, Nat.reduceAdd, Nat.reduceSub, Nat.reduceMul, Nat.reduceMod, h30, q0, q1, q2, q3, q4, q5]
       with_reducible refine And.intro ?_ ?_
       · exact rfl
       refine hK2 _ ?_
       clear hK2 K2
       refine Tr.kp [1, 2, 3, 6, 7] ?_
       simp only [pk_cons, pk_nil, ↓A_cons, ↓reduceIte, Nat.reduceEqDiff]
       refine Tr.seqK fun K53 hK53 => ?_
       refine Tr.rg hcx [1000028] _ [] rfl rfl rfl ?_
       simp -implicitDefEqProofs (maxSteps := 2000000) (disch := first | omega | (simp only [go_sem, List.length_append, List.length_drop, List.length_take] <;> omega) | decide) only [go_sem, ↓reduceIte, Nat.reduceEqDiff, reduceCtorEq, Nat.reduceLT, Nat.reduceBEq, Nat.reduceAdd, Nat.reduceSub, Nat.reduceMul, Nat.reduceMod, h30, q0, q1, q2, q3, q4, q5]
       refine hK53 _ ?_
       clear hK53 K53
       refine Tr.kp [1, 2, 6, 7, 8] ?_
       simp only [pk_cons, pk_nil, ↓A_cons, ↓reduceIte, Nat.reduceEqDiff]
       refine Tr.seqK fun K54 hK54 => ?_
       refine Tr.rg hcx [1000032] _ [] rfl rfl rfl ?_
       simp -implicitDefEqProofs (maxSteps := 2000000) (disch := first | omega | (simp only [go_sem, List.length_append, List.length_drop, List.length_take] <;> omega) | decide) only [go_sem, ↓reduceIte, Nat.reduceEqDiff, reduceCtorEq, Nat.reduceLT, Nat.reduceBEq, Nat.reduceAdd, Nat.reduceSub, Nat.reduceMul, Nat.reduceMod, h30, q0, q1, q2, q3, q4, q5, n_subG, benD_eq]
       refine hK54 _ ?_
       clear hK54 K54
       refine Tr.kp [1, 2, 6, 7, 8, 9] ?_
       simp only [pk_cons, pk_nil, ↓A_cons, ↓reduceIte, Nat.reduceEqDiff]
       refine Tr.seqK fun K55 hK55 => ?_
       refine Tr.seqK fun K56 hK56 => ?_
       refine Tr.rg hcx [] _ [] rfl rfl rfl ?_
       simp -implicitDefEqProofs (maxSteps := 2000000) (disch := first | omega | (simp only [go_sem, List.length_append, List.length_drop, List.length_take] <;> omega) | decide) only [go_sem, ↓reduceIte, Nat.reduceEqDiff, reduceCtorEq, Nat.reduceLT, Nat.reduceBEq, Nat.reduceAdd, Nat.reduceSub, Nat.reduceMul, Nat.reduceMod, h30, q0, q1, q2, q3, q4, q5]
       refine hK56 _ ?_
       clear hK56 K56
       refine Tr.kp [2, 6, 7, 8, 9, 34] ?_
       simp only [pk_cons, pk_nil, ↓A_cons, ↓reduceIte, Nat.reduceEqDiff]
       refine Tr.blk ?_
       refine Tr.seqK fun K57 hK57 => ?_
       refine Tr.rg hcx [1000047] _ [] rfl rfl rfl ?_
       simp -implicitDefEqProofs (maxSteps := 2000000) (disch := first | omega | (simp only [go_sem, List.length_append, List.length_drop, List.length_take] <;> omega) | decide) only [go_sem, ↓reduceIte, Nat.reduceEqDiff, reduceCtorEq, Nat.reduceLT, Nat.reduceBEq, Nat.reduceAdd, Nat.reduceSub, Nat.reduceMul, Nat.reduceMod, h30, q0, q1, q2, q3, q4, q5]
       refine hK57 _ ?_
       clear hK57 K57
       refine Tr.kp [2, 6, 7, 8, 9, 34, 46] ?_
       simp only [pk_cons, pk_nil, ↓A_cons, ↓reduceIte, Nat.reduceEqDiff]
       refine Tr.condG fun KT KF hT hF => ?_
       simp only [ev_tmp, ev_const, ↓A_cons, ↓reduceIte, Nat.reduceEqDiff, reduceCtorEq, condG_bool, GB_true, GB_false, decide_eq_true_eq]
       refine hF ?_
       clear hT hF KT KF
       refine Tr.seqK fun K58 hK58 => ?_
       refine Tr.rg hcx [1000065] _ [] rfl rfl rfl ?_
       simp -implicitDefEqProofs (maxSteps := 2000000) (disch := first | omega | (simp only [go_sem, List.length_append, List.length_drop, List.length_take] <;> omega) | decide) only [go_sem, ↓reduceIte, Nat.reduceEqDiff, reduceCtorEq, Nat.reduceLT, Nat.reduceBEq, Nat.reduceAdd, Nat.reduceSub, Nat.reduceMul, Nat.reduceMod, h30, q0, q1, q2, q3, q4, q5]
       refine hK58 _ ?_
       clear hK58 K58
       refine Tr.kp [2, 6, 7, 8, 9, 34, 64] ?_
       simp only [pk_cons, pk_nil, ↓A_cons, ↓reduceIte, Nat.reduceEqDiff]
       refine Tr.condG fun KT KF hT hF => ?_
       simp only [ev_tmp, ev_const, ↓A_cons, ↓reduceIte, Nat.reduceEqDiff, reduceCtorEq, condG_bool, GB_true, GB_false, decide_eq_true_eq]
       refine hF ?_
       clear hT hF KT KF
       refine Tr.seqK fun K59 hK59 => ?_
       refine Tr.rg hcx [1000090] _ [] rfl rfl rfl ?_
       simp -implicitDefEqProofs (maxSteps := 2000000) (disch := first | omega | (simp only [go_sem, List.length_append, List.length_drop, List.length_take] <;> omega) | decide) only [go_sem, ↓reduceIte, Nat.reduceEqDiff, reduceCtorEq, Nat.reduceLT, Nat.reduceBEq, Nat.reduceAdd, Nat.reduceSub, Nat.reduceMul, Nat.reduceMod, h30, q0, q1, q2, q3, q4, q5]
       refine hK59 _ ?_
       clear hK59 K59
       refine Tr.kp [2, 6, 7, 8, 9, 34, 89] ?_
       simp only [pk_cons, pk_nil, ↓A_cons, ↓reduceIte, Nat.reduceEqDiff]
       refine Tr.condG fun KT KF hT hF => ?_
       simp only [ev_tmp, ev_const, ↓A_cons, ↓reduceIte, Nat.reduceEqDiff, reduceCtorEq, condG_bool, GB_true, GB_false, decide_eq_true_eq]
       refine hF ?_
       clear hT hF KT KF
       refine Tr.seqK fun K60 hK60 => ?_
       refine Tr.rg hcx [1000098] _ [] rfl rfl rfl ?_
       simp -implicitDefEqProofs (maxSteps := 2000000) (disch := first | omega | (simp only [go_sem, List.length_append, List.length_drop, List.length_take] <;> omega) | decide) only [go_sem, ↓reduceIte, Nat.reduceEqDiff, reduceCtorEq, Nat.reduceLT, Nat.reduceBEq, Nat.reduceAdd, Nat.reduceSub, Nat.reduceMul, Nat.reduceMod, h30, q0, q1, q2, q3, q4, q5]
       refine hK60 _ ?_
       clear hK60 K60
       refine Tr.kp [2, 6, 7, 8, 9, 34, 97] ?_
       simp only [pk_cons, pk_nil, ↓A_cons, ↓reduceIte, Nat.reduceEqDiff]
       refine Tr.condG fun KT KF hT hF => ?_
       simp only [ev_tmp, ev_const, ↓A_cons, ↓reduceIte, Nat.reduceEqDiff, reduceCtorEq, condG_bool, GB_true, GB_false, decide_eq_true_eq]
       refine hF ?_
       clear hT hF KT KF
       refine Tr.seqK fun K61 hK61 => ?_
       refine Tr.rg hcx [1000116] _ [] rfl rfl rfl ?_
       simp -implicitDefEqProofs (maxSteps := 2000000) (disch := first | omega | (simp only [go_sem, List.length_append, List.length_drop, List.length_take] <;> omega) | decide) only [go_sem, ↓reduceIte, Nat.reduceEqDiff, reduceCtorEq, Nat.reduceLT, Nat.reduceBEq, Nat.reduceAdd, Nat.reduceSub, Nat.reduceMul, Nat.reduceMod, h30, q0, q1, q2, q3, q4, q5]
       refine hK61 _ ?_
       clear hK61 K61
       refine Tr.kp [2, 6, 7, 8, 9, 34, 115] ?_
       simp only [pk_cons, pk_nil, ↓A_cons, ↓reduceIte, Nat.reduceEqDiff]
       refine Tr.condG fun KT KF hT hF => ?_
       simp only [ev_tmp, ev_const, ↓A_cons, ↓reduceIte, Nat.reduceEqDiff, reduceCtorEq, condG_bool, GB_true, GB_false, decide_eq_true_eq]
       refine hF ?_
       clear hT hF KT KF
       refine Tr.seqK fun K62 hK62 => ?_
       refine Tr.rg hcx [1000134] _ [] rfl rfl rfl ?_
       simp -implicitDefEqProofs (maxSteps := 2000000) (disch := first | omega | (simp only [go_sem, List.length_append, List.length_drop, List.length_take] <;> omega) | decide) only [go_sem, ↓reduceIte, Nat.reduceEqDiff, reduceCtorEq, Nat.reduceLT, Nat.reduceBEq, Nat.reduceAdd, Nat.reduceSub, Nat.reduceMul, Nat.reduceMod, h30, q0, q1, q2, q3, q4, q5]
       refine hK62 _ ?_
       clear hK62 K62
       refine Tr.kp [2, 6, 7, 8, 9, 34, 133] ?_
       simp only [pk_cons, pk_nil, ↓A_cons, ↓reduceIte, Nat.reduceEqDiff]
       refine Tr.condG fun KT KF hT hF => ?_
       simp only [ev_tmp, ev_const, ↓A_cons, ↓reduceIte, Nat.reduceEqDiff, reduceCtorEq, condG_bool, GB_true, GB_false, decide_eq_true_eq]
       refine hT ?_
       clear hT hF KT KF
       refine Tr.rgG hcx [139] [136] _ [] rfl rfl rfl ?_
       simp -implicitDefEqProofs (maxSteps := 2000000) (disch := first | omega | (simp only [go_sem, List.length_append, List.length_drop, List.length_take] <;> omega) | decide) only [go_sem, ↓reduceIte, Nat.reduceEqDiff, reduceCtorEq, Nat.reduceLT, Nat.reduceBEq, Nat.reduceAdd, Nat.reduceSub, Nat.reduceMul, Nat.reduceMod, h30, q0, q1, q2, q3, q4, q5]
       refine hK55 _ ?_
       clear hK55 K55
       refine Tr.kp [6, 7] ?_
       simp only [pk_cons, pk_nil, ↓A_cons, ↓reduceIte, Nat.reduceEqDiff]
       refine Tr.seqK fun K63 hK63 => ?_
       refine Tr.rg hcx [] _ [] rfl rfl rfl ?_
       simp -implicitDefEqProofs (maxSteps := 2000000) (disch := first | omega | (simp only [go_sem, List.length_append, List.length_drop, List.length_take] <;> omega) | decide) only [go_sem, ↓reduceIte, Nat.reduceEqDiff, reduceCtorEq, Nat.reduceLT, Nat.reduceBEq, Nat.reduceAdd, Nat.reduceSub, Nat.reduceMul, Nat.reduceMod, h30, q0, q1, q2, q3, q4, q5]
       refine hK63 _ ?_
       clear hK63 K63
       refine Tr.kp [6] ?_
       simp only [pk_cons, pk_nil, ↓A_cons, ↓reduceIte, Nat.reduceEqDiff]
       refine Tr.fzA hcx 4 _ (by simp only [go_sem]; rfl) (Nat.zero_le _) (fun j hj => absurd hj (Nat.not_lt_zero j)) ?_
       simp -implicitDefEqProofs (disch := first | omega | (simp only [List.length_set, List.length_append, List.length_take, List.length_drop, List.length_singleton, List.length_cons, List.length_nil] <;> omega)) only [mapE_cons, mapE_nil, fzY_cl, fzH, List.map_cons, List.map_nil, Option.map_some, Option.map_none, fzCs_cons, fzCs_nil, fzCs_cl, fzC_sl, fzC_val, fzC_bp, fzC_sv, fzC_gv, fzC_agg, okF_eq, at_cons0, at_consS, liv_b, live_gv, live_tsl, live_dead, fzCs_dd, bne_self_eq_false, Bool.and_false, List.set_cons_succ, List.set_cons_zero, ↓reduceIte, Nat.reduceEqDiff, Option.isSome_some, Option.isSome_none, Bool.true_and, reduceCtorEq, Nat.reduceBNe, fzGv_cl]
       refine Tr.ret ?_
       simp -implicitDefEqProofs (disch := first | omega | (simp only [go_sem, List.length_append, List.length_drop, List.length_take] <;> omega) | decide) only [go_sem, ↓reduceIte, Nat.reduceEqDiff, reduceCtorEq]
       all_goals (first | (rw [tk0]; simp only [bentT, benB, *, ↓reduceIte]; rfl) | (rw [tk1 _ _ _ (by omega)]; simp only [bentT, benB, *, ↓reduceIte]; rfl) | (simp only [bentT, benB, *, ↓reduceIte]; done) | (simp only [bentT, benB, *, ↓reduceIte]; rfl) | (simp (disch := omega) [bentT, benB, tk0, tk1, *]; done))
      ·
       have q5o := q5
       replace q5 := eq_false q5
       by_cases q6 : aroundI h 8 = 6
       ·
        have q6o := q6
        replace q6 := eq_true q6
        refine Tr.rgD hcx hMO [10, 14, 18] _ [none] rfl rfl rfl rfl ?_
        simp -implicitDefEqProofs (maxSteps := 2000000) (disch := first | omega | (simp only [go_sem, List.length_append, List.length_drop, List.length_take] <;> omega) | decide) only [go_sem, ↓reduceIte, Nat.reduceEqDiff, reduceCtorEq, Nat.reduceLT, Nat.reduceBEq, Nat.reduceAdd, Nat.reduceSub, Nat.reduceMul, Nat.reduceMod, h30, q0, q1, q2, q3, q4, q5, q6]
        with_reducible refine And.intro ?_ ?_
        · exact rfl
        refine hK2 _ ?_
        clear hK2 K2
        refine Tr.kp [1, 2, 3, 6, 7] ?_
        simp only [pk_cons, pk_nil, ↓A_cons, ↓reduceIte, Nat.reduceEqDiff]
        refine Tr.seqK fun K64 hK64 => ?_
        refine Tr.rg hcx [1000028] _ [] rfl rfl rfl ?_
        simp -implicitDefEqProofs (maxSteps := 2000000) (disch := first | omega | (simp only [go_sem, List.length_append, List.length_drop, List.length_take] <;> omega) | decide) only [go_sem, ↓reduceIte, Nat.reduceEqDiff, reduceCtorEq, Nat.reduceLT, Nat.reduceBEq, Nat.reduceAdd, Nat.reduceSub, Nat.reduceMul, Nat.reduceMod, h30, q0, q1, q2, q3, q4, q5, q6]
        refine hK64 _ ?_
        clear hK64 K64
        refine Tr.kp [1, 2, 6, 7, 8] ?_
        simp only [pk_cons, pk_nil, ↓A_cons, ↓reduceIte, Nat.reduceEqDiff]
        refine Tr.seqK fun K65 hK65 => ?_
        refine Tr.rg hcx [1000032] _ [] rfl rfl rfl ?_
        simp -implicitDefEqProofs (maxSteps := 2000000) (disch := first | omega | (simp only [go_sem, List.length_append, List.length_drop, List.length_take] <;> omega) | decide) only [go_sem, ↓reduceIte, Nat.reduceEqDiff, reduceCtorEq, Nat.reduceLT, Nat.reduceBEq, Nat.reduceAdd, Nat.reduceSub, Nat.reduceMul, Nat.reduceMod, h30, q0, q1, q2, q3, q4, q5, q6, n_subG, benD_eq]
        refine hK65 _ ?_
        clear hK65 K65
        refine Tr.kp [1, 2, 6, 7, 8, 9] ?_
        simp only [pk_cons, pk_nil, ↓A_cons, ↓reduceIte, Nat.reduceEqDiff]
        refine Tr.seqK fun K66 hK66 => ?_
        refine Tr.seqK fun K67 hK67 => ?_
        refine Tr.rg hcx [] _ [] rfl rfl rfl ?_
        simp -implicitDefEqProofs (maxSteps := 2000000) (disch := first | omega | (simp only [go_sem, List.length_append, List.length_drop, List.length_take] <;> omega) | decide) only [go_sem, ↓reduceIte, Nat.reduceEqDiff, reduceCtorEq, Nat.reduceLT, Nat.reduceBEq, Nat.reduceAdd, Nat.reduceSub, Nat.reduceMul, Nat.reduceMod, h30, q0, q1, q2, q3, q4, q5, q6]
        refine hK67 _ ?_
        clear hK67 K67
        refine Tr.kp [2, 6, 7, 8, 9, 34] ?_
        simp only [pk_cons, pk_nil, ↓A_cons, ↓reduceIte, Nat.reduceEqDiff]
        refine Tr.blk ?_
        refine Tr.seqK fun K68 hK68 => ?_
        refine Tr.rg hcx [1000047] _ [] rfl rfl rfl ?_
        simp -implicitDefEqProofs (maxSteps := 2000000) (disch := first | omega | (simp only [go_sem, List.length_append, List.length_drop, List.length_take] <;> omega) | decide) only [go_sem, ↓reduceIte, Nat.reduceEqDiff, reduceCtorEq, Nat.reduceLT, Nat.reduceBEq, Nat.reduceAdd, Nat.reduceSub, Nat.reduceMul, Nat.reduceMod, h30, q0, q1, q2, q3, q4, q5, q6]
        refine hK68 _ ?_
        clear hK68 K68
        refine Tr.kp [2, 6, 7, 8, 9, 34, 46] ?_
        simp only [pk_cons, pk_nil, ↓A_cons, ↓reduceIte, Nat.reduceEqDiff]
        refine Tr.condG fun KT KF hT hF => ?_
        simp only [ev_tmp, ev_const, ↓A_cons, ↓reduceIte, Nat.reduceEqDiff, reduceCtorEq, condG_bool, GB_true, GB_false, decide_eq_true_eq]
        refine hF ?_
        clear hT hF KT KF
        refine Tr.seqK fun K69 hK69 => ?_
        refine Tr.rg hcx [1000065] _ [] rfl rfl rfl ?_
        simp -implicitDefEqProofs (maxSteps := 2000000) (disch := first | omega | (simp only [go_sem, List.length_append, List.length_drop, List.length_take] <;> omega) | decide) only [go_sem, ↓reduceIte, Nat.reduceEqDiff, reduceCtorEq, Nat.reduceLT, Nat.reduceBEq, Nat.reduceAdd, Nat.reduceSub, Nat.reduceMul, Nat.reduceMod, h30, q0, q1, q2, q3, q4, q5, q6]
        refine hK69 _ ?_
        clear hK69 K69
        refine Tr.kp [2, 6, 7, 8, 9, 34, 64] ?_
        simp only [pk_cons, pk_nil, ↓A_cons, ↓reduceIte, Nat.reduceEqDiff]
        refine Tr.condG fun KT KF hT hF => ?_
        simp only [ev_tmp, ev_const, ↓A_cons, ↓reduceIte, Nat.reduceEqDiff, reduceCtorEq, condG_bool, GB_true, GB_false, decide_eq_true_eq]
        refine hF ?_
        clear hT hF KT KF
        refine Tr.seqK fun K70 hK70 => ?_
        refine Tr.rg hcx [1000090] _ [] rfl rfl rfl ?_
        simp -implicitDefEqProofs (maxSteps := 2000000) (disch := first | omega | (simp only [go_sem, List.length_append, List.length_drop, List.length_take] <;> omega) | decide) only [go_sem, ↓reduceIte, Nat.reduceEqDiff, reduceCtorEq, Nat.reduceLT, Nat.reduceBEq, Nat.reduceAdd, Nat.reduceSub, Nat.reduceMul, Nat.reduceMod, h30, q0, q1, q2, q3, q4, q5, q6]
        refine hK70 _ ?_
        clear hK70 K70
        refine Tr.kp [2, 6, 7, 8, 9, 34, 89] ?_
        simp only [pk_cons, pk_nil, ↓A_cons, ↓reduceIte, Nat.reduceEqDiff]
        refine Tr.condG fun KT KF hT hF => ?_
        simp only [ev_tmp, ev_const, ↓A_cons, ↓reduceIte, Nat.reduceEqDiff, reduceCtorEq, condG_bool, GB_true, GB_false, decide_eq_true_eq]
        refine hF ?_
        clear hT hF KT KF
        refine Tr.seqK fun K71 hK71 => ?_
        refine Tr.rg hcx [1000098] _ [] rfl rfl rfl ?_
        simp -implicitDefEqProofs (maxSteps := 2000000) (disch := first | omega | (simp only [go_sem, List.length_append, List.length_drop, List.length_take] <;> omega) | decide) only [go_sem, ↓reduceIte, Nat.reduceEqDiff, reduceCtorEq, Nat.reduceLT, Nat.reduceBEq, Nat.reduceAdd, Nat.reduceSub, Nat.reduceMul, Nat.reduceMod, h30, q0, q1, q2, q3, q4, q5, q6]
        refine hK71 _ ?_
        clear hK71 K71
        refine Tr.kp [2, 6, 7, 8, 9, 34, 97] ?_
        simp only [pk_cons, pk_nil, ↓A_cons, ↓reduceIte, Nat.reduceEqDiff]
        refine Tr.condG fun KT KF hT hF => ?_
        simp only [ev_tmp, ev_const, ↓A_cons, ↓reduceIte, Nat.reduceEqDiff, reduceCtorEq, condG_bool, GB_true, GB_false, decide_eq_true_eq]
        refine hF ?_
        clear hT hF KT KF
        refine Tr.seqK fun K72 hK72 => ?_
        refine Tr.rg hcx [1000116] _ [] rfl rfl rfl ?_
        simp -implicitDefEqProofs (maxSteps := 2000000) (disch := first | omega | (simp only [go_sem, List.length_append, List.length_drop, List.length_take] <;> omega) | decide) only [go_sem, ↓reduceIte, Nat.reduceEqDiff, reduceCtorEq, Nat.reduceLT, Nat.reduceBEq, Nat.reduceAdd, Nat.reduceSub, Nat.reduceMul, Nat.reduceMod, h30, q0, q1, q2, q3, q4, q5, q6]
        refine hK72 _ ?_
        clear hK72 K72
        refine Tr.kp [2, 6, 7, 8, 9, 34, 115] ?_
        simp only [pk_cons, pk_nil, ↓A_cons, ↓reduceIte, Nat.reduceEqDiff]
        refine Tr.condG fun KT KF hT hF => ?_
        simp only [ev_tmp, ev_const, ↓A_cons, ↓reduceIte, Nat.reduceEqDiff, reduceCtorEq, condG_bool, GB_true, GB_false, decide_eq_true_eq]
        refine hF ?_
        clear hT hF KT KF
        refine Tr.seqK fun K73 hK73 => ?_
        refine Tr.rg hcx [1000134] _ [] rfl rfl rfl ?_
        simp -implicitDefEqProofs (maxSteps := 2000000) (disch := first | omega | (simp only [go_sem, List.length_append, List.length_drop, List.length_take] <;> omega) | decide) only [go_sem, ↓reduceIte, Nat.reduceEqDiff, reduceCtorEq, Nat.reduceLT, Nat.reduceBEq, Nat.reduceAdd, Nat.reduceSub, Nat.reduceMul, Nat.reduceMod, h30, q0, q1, q2, q3, q4, q5, q6]
        refine hK73 _ ?_
        clear hK73 K73
        refine Tr.kp [2, 6, 7, 8, 9, 34, 133] ?_
        simp only [pk_cons, pk_nil, ↓A_cons, ↓reduceIte, Nat.reduceEqDiff]
        refine Tr.condG fun KT KF hT hF => ?_
        simp only [ev_tmp, ev_const, ↓A_cons, ↓reduceIte, Nat.reduceEqDiff, reduceCtorEq, condG_bool, GB_true, GB_false, decide_eq_true_eq]
        refine hF ?_
        clear hT hF KT KF
        refine Tr.seqK fun K74 hK74 => ?_
        refine Tr.rg hcx [1000142] _ [] rfl rfl rfl ?_
        simp -implicitDefEqProofs (maxSteps := 2000000) (disch := first | omega | (simp only [go_sem, List.length_append, List.length_drop, List.length_take] <;> omega) | decide) only [go_sem, ↓reduceIte, Nat.reduceEqDiff, reduceCtorEq, Nat.reduceLT, Nat.reduceBEq, Nat.reduceAdd, Nat.reduceSub, Nat.reduceMul, Nat.reduceMod, h30, q0, q1, q2, q3, q4, q5, q6]
        refine hK74 _ ?_
        clear hK74 K74
        refine Tr.kp [2, 6, 7, 8, 141] ?_
        simp only [pk_cons, pk_nil, ↓A_cons, ↓reduceIte, Nat.reduceEqDiff]
        refine Tr.condG fun KT KF hT hF => ?_
        simp only [ev_tmp, ev_const, ↓A_cons, ↓reduceIte, Nat.reduceEqDiff, reduceCtorEq, condG_bool, GB_true, GB_false, decide_eq_true_eq]
        refine hT ?_
        clear hT hF KT KF
        refine Tr.seqK fun K75 hK75 => ?_
        refine Tr.rg hcx [] _ [] rfl rfl rfl ?_
        simp -implicitDefEqProofs (maxSteps := 2000000) (disch := first | omega | (simp only [go_sem, List.length_append, List.length_drop, List.length_take] <;> omega) | decide) only [go_sem, ↓reduceIte, Nat.reduceEqDiff, reduceCtorEq, Nat.reduceLT, Nat.reduceBEq, Nat.reduceAdd, Nat.reduceSub, Nat.reduceMul, Nat.reduceMod, h30, q0, q1, q2, q3, q4, q5, q6]
        refine hK75 _ ?_
        clear hK75 K75
        refine Tr.kp [6, 7, 146] ?_
        simp only [pk_cons, pk_nil, ↓A_cons, ↓reduceIte, Nat.reduceEqDiff]
        refine Tr.condG fun KT KF hT hF => ?_
        simp only [ev_tmp, ev_const, ↓A_cons, ↓reduceIte, Nat.reduceEqDiff, reduceCtorEq, condG_bool, GB_true, GB_false, decide_eq_true_eq]
        refine GB.dec (fun hc146 => hT ?_) (fun hc146 => hF ?_)
        ·
         clear hT hF KT KF
         refine Tr.rg hcx [] _ [] rfl rfl rfl ?_
         simp -implicitDefEqProofs (maxSteps := 2000000) (disch := first | omega | (simp only [go_sem, List.length_append, List.length_drop, List.length_take] <;> omega) | decide) only [go_sem, ↓reduceIte, Nat.reduceEqDiff, reduceCtorEq, Nat.reduceLT, Nat.reduceBEq, Nat.reduceAdd, Nat.reduceSub, Nat.reduceMul, Nat.reduceMod, h30, q0, q1, q2, q3, q4, q5, q6]
         refine hK66 _ ?_
         clear hK66 K66
         refine Tr.kp [6, 7] ?_
         simp only [pk_cons, pk_nil, ↓A_cons, ↓reduceIte, Nat.reduceEqDiff]
         refine Tr.seqK fun K76 hK76 => ?_
         refine Tr.rg hcx [] _ [] rfl rfl rfl ?_
         simp -implicitDefEqProofs (maxSteps := 2000000) (disch := first | omega | (simp only [go_sem, List.length_append, List.length_drop, List.length_take] <;> omega) | decide) only [go_sem, ↓reduceIte, Nat.reduceEqDiff, reduceCtorEq, Nat.reduceLT, Nat.reduceBEq, Nat.reduceAdd, Nat.reduceSub, Nat.reduceMul, Nat.reduceMod, h30, q0, q1, q2, q3, q4, q5, q6]
         refine hK76 _ ?_
         clear hK76 K76
         refine Tr.kp [6] ?_
         simp only [pk_cons, pk_nil, ↓A_cons, ↓reduceIte, Nat.reduceEqDiff]
         refine Tr.ret ?_
         simp -implicitDefEqProofs (disch := first | omega | (simp only [go_sem, List.length_append, List.length_drop, List.length_take] <;> omega) | decide) only [go_sem, ↓reduceIte, Nat.reduceEqDiff, reduceCtorEq]
         all_goals (first | (rw [tk0]; simp only [bentT, benB, *, ↓reduceIte]; rfl) | (rw [tk1 _ _ _ (by omega)]; simp only [bentT, benB, *, ↓reduceIte]; rfl) | (simp only [bentT, benB, *, ↓reduceIte]; done) | (simp only [bentT, benB, *, ↓reduceIte]; rfl) | (simp (disch := omega) [bentT, benB, tk0, tk1, *]; done))
        ·
         clear hT hF KT KF
         refine Tr.skip ?_
         refine hK66 _ ?_
         clear hK66 K66
         refine Tr.kp [6, 7] ?_
         simp only [pk_cons, pk_nil, ↓A_cons, ↓reduceIte, Nat.reduceEqDiff]
         refine Tr.seqK fun K77 hK77 => ?_
         refine Tr.rg hcx [] _ [] rfl rfl rfl ?_
         simp -implicitDefEqProofs (maxSteps := 2000000) (disch := first | omega | (simp only [go_sem, List.length_append, List.length_drop, List.length_take] <;> omega) | decide) only [go_sem, ↓reduceIte, Nat.reduceEqDiff, reduceCtorEq, Nat.reduceLT, Nat.reduceBEq, Nat.reduceAdd, Nat.reduceSub, Nat.reduceMul, Nat.reduceMod, h30, q0, q1, q2, q3, q4, q5, q6]
         refine hK77 _ ?_
         clear hK77 K77
         refine Tr.kp [6] ?_
         simp only [pk_cons, pk_nil, ↓A_cons, ↓reduceIte, Nat.reduceEqDiff]
         refine Tr.ret ?_
         simp -implicitDefEqProofs (disch := first | omega | (simp only [go_sem, List.length_append, List.length_drop, List.length_take] <;> omega) | decide) only [go_sem, ↓reduceIte, Nat.reduceEqDiff, reduceCtorEq]
         all_goals (first | (rw [tk0]; simp only [bentT, benB, *, ↓reduceIte]; rfl) | (rw [tk1 _ _ _ (by omega)]; simp only [bentT, benB, *, ↓reduceIte]; rfl) | (simp only [bentT, benB, *, ↓reduceIte]; done) | (simp only [bentT, benB, *, ↓reduceIte]; rfl) | (simp (disch := omega) [bentT, benB, tk0, tk1, *]; done))
       ·
        have q6o := q6
        replace q6 := eq_false q6
        refine Tr.rgDG hcx hMO [21] [10, 14, 18] _ [none] rfl rfl rfl rfl ?_
        simp -implicitDefEqProofs (maxSteps := 2000000) (disch := first | omega | (simp only [go_sem, List.length_append, List.length_drop, List.length_take] <;> omega) | decide) only [go_sem, ↓reduceIte, Nat.reduceEqDiff, reduceCtorEq, Nat.reduceLT, Nat.reduceBEq, Nat.reduceAdd, Nat.reduceSub, Nat.reduceMul, Nat.reduceMod, h30, q0, q1, q2, q3, q4, q5, q6]
        with_reducible refine And.intro ?_ ?_
        · exact rfl
        refine hK2 _ ?_
        clear hK2 K2
        refine Tr.kp [1, 2, 3, 6, 7] ?_
        simp only [pk_cons, pk_nil, ↓A_cons, ↓reduceIte, Nat.reduceEqDiff]
        refine Tr.seqK fun K78 hK78 => ?_
        refine Tr.rg hcx [1000028] _ [] rfl rfl rfl ?_
        simp -implicitDefEqProofs (maxSteps := 2000000) (disch := first | omega | (simp only [go_sem, List.length_append, List.length_drop, List.length_take] <;> omega) | decide) only [go_sem, ↓reduceIte, Nat.reduceEqDiff, reduceCtorEq, Nat.reduceLT, Nat.reduceBEq, Nat.reduceAdd, Nat.reduceSub, Nat.reduceMul, Nat.reduceMod, h30, q0, q1, q2, q3, q4, q5, q6]
        refine hK78 _ ?_
        clear hK78 K78
        refine Tr.kp [1, 2, 6, 7, 8] ?_
        simp only [pk_cons, pk_nil, ↓A_cons, ↓reduceIte, Nat.reduceEqDiff]
        refine Tr.seqK fun K79 hK79 => ?_
        refine Tr.rg hcx [1000032] _ [] rfl rfl rfl ?_
        simp -implicitDefEqProofs (maxSteps := 2000000) (disch := first | omega | (simp only [go_sem, List.length_append, List.length_drop, List.length_take] <;> omega) | decide) only [go_sem, ↓reduceIte, Nat.reduceEqDiff, reduceCtorEq, Nat.reduceLT, Nat.reduceBEq, Nat.reduceAdd, Nat.reduceSub, Nat.reduceMul, Nat.reduceMod, h30, q0, q1, q2, q3, q4, q5, q6, n_subG, benD_eq]
        refine hK79 _ ?_
        clear hK79 K79
        refine Tr.kp [1, 2, 6, 7, 8, 9] ?_
        simp only [pk_cons, pk_nil, ↓A_cons, ↓reduceIte, Nat.reduceEqDiff]
        refine Tr.seqK fun K80 hK80 => ?_
        refine Tr.seqK fun K81 hK81 => ?_
        refine Tr.rg hcx [] _ [] rfl rfl rfl ?_
        simp -implicitDefEqProofs (maxSteps := 2000000) (disch := first | omega | (simp only [go_sem, List.length_append, List.length_drop, List.length_take] <;> omega) | decide) only [go_sem, ↓reduceIte, Nat.reduceEqDiff, reduceCtorEq, Nat.reduceLT, Nat.reduceBEq, Nat.reduceAdd, Nat.reduceSub, Nat.reduceMul, Nat.reduceMod, h30, q0, q1, q2, q3, q4, q5, q6]
        refine hK81 _ ?_
        clear hK81 K81
        refine Tr.kp [2, 6, 7, 8, 9, 34] ?_
        simp only [pk_cons, pk_nil, ↓A_cons, ↓reduceIte, Nat.reduceEqDiff]
        refine Tr.blk ?_
        refine Tr.seqK fun K82 hK82 => ?_
        refine Tr.rg hcx [1000047] _ [] rfl rfl rfl ?_
        simp -implicitDefEqProofs (maxSteps := 2000000) (disch := first | omega | (simp only [go_sem, List.length_append, List.length_drop, List.length_take] <;> omega) | decide) only [go_sem, ↓reduceIte, Nat.reduceEqDiff, reduceCtorEq, Nat.reduceLT, Nat.reduceBEq, Nat.reduceAdd, Nat.reduceSub, Nat.reduceMul, Nat.reduceMod, h30, q0, q1, q2, q3, q4, q5, q6]
        refine hK82 _ ?_
        clear hK82 K82
        refine Tr.kp [2, 6, 7, 8, 9, 34, 46] ?_
        simp only [pk_cons, pk_nil, ↓A_cons, ↓reduceIte, Nat.reduceEqDiff]
        refine Tr.condG fun KT KF hT hF => ?_
        simp only [ev_tmp, ev_const, ↓A_cons, ↓reduceIte, Nat.reduceEqDiff, reduceCtorEq, condG_bool, GB_true, GB_false, decide_eq_true_eq]
        refine hF ?_
        clear hT hF KT KF
        refine Tr.seqK fun K83 hK83 => ?_
        refine Tr.rg hcx [1000065] _ [] rfl rfl rfl ?_
        simp -implicitDefEqProofs (maxSteps := 2000000) (disch := first | omega | (simp only [go_sem, List.length_append, List.length_drop, List.length_take] <;> omega) | decide) only [go_sem, ↓reduceIte, Nat.reduceEqDiff, reduceCtorEq, Nat.reduceLT, Nat.reduceBEq, Nat.reduceAdd, Nat.reduceSub, Nat.reduceMul, Nat.reduceMod, h30, q0, q1, q2, q3, q4, q5, q6]
        refine hK83 _ ?_
        clear hK83 K83
        refine Tr.kp [2, 6, 7, 8, 9, 34, 64] ?_
        simp only [pk_cons, pk_nil, ↓A_cons, ↓reduceIte, Nat.reduceEqDiff]
        refine Tr.condG fun KT KF hT hF => ?_
        simp only [ev_tmp, ev_const, ↓A_cons, ↓reduceIte, Nat.reduceEqDiff, reduceCtorEq, condG_bool, GB_true, GB_false, decide_eq_true_eq]
        refine hF ?_
        clear hT hF KT KF
        refine Tr.seqK fun K84 hK84 => ?_
        refine Tr.rg hcx [1000090] _ [] rfl rfl rfl ?_
        simp -implicitDefEqProofs (maxSteps := 2000000) (disch := first | omega | (simp only [go_sem, List.length_append, List.length_drop, List.length_take] <;> omega) | decide) only [go_sem, ↓reduceIte, Nat.reduceEqDiff, reduceCtorEq, Nat.reduceLT, Nat.reduceBEq, Nat.reduceAdd, Nat.reduceSub, Nat.reduceMul, Nat.reduceMod, h30, q0, q1, q2, q3, q4, q5, q6]
        refine hK84 _ ?_
        clear hK84 K84
        refine Tr.kp [2, 6, 7, 8, 9, 34, 89] ?_
        simp only [pk_cons, pk_nil, ↓A_cons, ↓reduceIte, Nat.reduceEqDiff]
        refine Tr.condG fun KT KF hT hF => ?_
        simp only [ev_tmp, ev_const, ↓A_cons, ↓reduceIte, Nat.reduceEqDiff, reduceCtorEq, condG_bool, GB_true, GB_false, decide_eq_true_eq]
        refine hF ?_
        clear hT hF KT KF
        refine Tr.seqK fun K85 hK85 => ?_
        refine Tr.rg hcx [1000098] _ [] rfl rfl rfl ?_
        simp -implicitDefEqProofs (maxSteps := 2000000) (disch := first | omega | (simp only [go_sem, List.length_append, List.length_drop, List.length_take] <;> omega) | decide) only [go_sem, ↓reduceIte, Nat.reduceEqDiff, reduceCtorEq, Nat.reduceLT, Nat.reduceBEq, Nat.reduceAdd, Nat.reduceSub, Nat.reduceMul, Nat.reduceMod, h30, q0, q1, q2, q3, q4, q5, q6]
        refine hK85 _ ?_
        clear hK85 K85
        refine Tr.kp [2, 6, 7, 8, 9, 34, 97] ?_
        simp only [pk_cons, pk_nil, ↓A_cons, ↓reduceIte, Nat.reduceEqDiff]
        refine Tr.condG fun KT KF hT hF => ?_
        simp only [ev_tmp, ev_const, ↓A_cons, ↓reduceIte, Nat.reduceEqDiff, reduceCtorEq, condG_bool, GB_true, GB_false, decide_eq_true_eq]
        refine hF ?_
        clear hT hF KT KF
        refine Tr.seqK fun K86 hK86 => ?_
        refine Tr.rg hcx [1000116] _ [] rfl rfl rfl ?_
        simp -implicitDefEqProofs (maxSteps := 2000000) (disch := first | omega | (simp only [go_sem, List.length_append, List.length_drop, List.length_take] <;> omega) | decide) only [go_sem, ↓reduceIte, Nat.reduceEqDiff, reduceCtorEq, Nat.reduceLT, Nat.reduceBEq, Nat.reduceAdd, Nat.reduceSub, Nat.reduceMul, Nat.reduceMod, h30, q0, q1, q2, q3, q4, q5, q6]
        refine hK86 _ ?_
        clear hK86 K86
        refine Tr.kp [2, 6, 7, 8, 9, 34, 115] ?_
        simp only [pk_cons, pk_nil, ↓A_cons, ↓reduceIte, Nat.reduceEqDiff]
        refine Tr.condG fun KT KF hT hF => ?_
        simp only [ev_tmp, ev_const, ↓A_cons, ↓reduceIte, Nat.reduceEqDiff, reduceCtorEq, condG_bool, GB_true, GB_false, decide_eq_true_eq]
        refine hF ?_
        clear hT hF KT KF
        refine Tr.seqK fun K87 hK87 => ?_
        refine Tr.rg hcx [1000134] _ [] rfl rfl rfl ?_
        simp -implicitDefEqProofs (maxSteps := 2000000) (disch := first | omega | (simp only [go_sem, List.length_append, List.length_drop, List.length_take] <;> omega) | decide) only [go_sem, ↓reduceIte, Nat.reduceEqDiff, reduceCtorEq, Nat.reduceLT, Nat.reduceBEq, Nat.reduceAdd, Nat.reduceSub, Nat.reduceMul, Nat.reduceMod, h30, q0, q1, q2, q3, q4, q5, q6]
        refine hK87 _ ?_
        clear hK87 K87
        refine Tr.kp [2, 6, 7, 8, 9, 34, 133] ?_
        simp only [pk_cons, pk_nil, ↓A_cons, ↓reduceIte, Nat.reduceEqDiff]
        refine Tr.condG fun KT KF hT hF => ?_
        simp only [ev_tmp, ev_const, ↓A_cons, ↓reduceIte, Nat.reduceEqDiff, reduceCtorEq, condG_bool, GB_true, GB_false, decide_eq_true_eq]
        refine hF ?_
        clear hT hF KT KF
        refine Tr.seqK fun K88 hK88 => ?_
        refine Tr.rg hcx [1000142] _ [] rfl rfl rfl ?_
        simp -implicitDefEqProofs (maxSteps := 2000000) (disch := first | omega | (simp only [go_sem, List.length_append, List.length_drop, List.length_take] <;> omega) | decide) only [go_sem, ↓reduceIte, Nat.reduceEqDiff, reduceCtorEq, Nat.reduceLT, Nat.reduceBEq, Nat.reduceAdd, Nat.reduceSub, Nat.reduceMul, Nat.reduceMod, h30, q0, q1, q2, q3, q4, q5, q6]
        refine hK88 _ ?_
        clear hK88 K88
        refine Tr.kp [2, 6, 7, 8, 141] ?_
        simp only [pk_cons, pk_nil, ↓A_cons, ↓reduceIte, Nat.reduceEqDiff]
        refine Tr.condG fun KT KF hT hF => ?_
        simp only [ev_tmp, ev_const, ↓A_cons, ↓reduceIte, Nat.reduceEqDiff, reduceCtorEq, condG_bool, GB_true, GB_false, decide_eq_true_eq]
        refine hF ?_
        clear hT hF KT KF
        refine Tr.seqK fun K89 hK89 => ?_
        refine Tr.rg hcx [] _ [] rfl rfl rfl ?_
        simp -implicitDefEqProofs (maxSteps := 2000000) (disch := first | omega | (simp only [go_sem, List.length_append, List.length_drop, List.length_take] <;> omega) | decide) only [go_sem, ↓reduceIte, Nat.reduceEqDiff, reduceCtorEq, Nat.reduceLT, Nat.reduceBEq, Nat.reduceAdd, Nat.reduceSub, Nat.reduceMul, Nat.reduceMod, h30, q0, q1, q2, q3, q4, q5, q6]
        refine hK89 _ ?_
        clear hK89 K89
        refine Tr.kp [2, 6, 7, 8, 39] ?_
        simp only [pk_cons, pk_nil, ↓A_cons, ↓reduceIte, Nat.reduceEqDiff]
        refine Tr.condG fun KT KF hT hF => ?_
        simp only [ev_tmp, ev_const, ↓A_cons, ↓reduceIte, Nat.reduceEqDiff, reduceCtorEq, condG_bool, GB_true, GB_false, decide_eq_true_eq]
        refine GB.dec (fun hc39 => hT ?_) (fun hc39 => hF ?_)
        ·
         clear hT hF KT KF
         have hbb := hc39
         refine Tr.rg hcx [] _ [] rfl rfl rfl ?_
         simp -implicitDefEqProofs (maxSteps := 2000000) (disch := first | omega | (simp only [go_sem, List.length_append, List.length_drop, List.length_take] <;> omega) | decide) only [go_sem, ↓reduceIte, Nat.reduceEqDiff, reduceCtorEq, Nat.reduceLT, Nat.reduceBEq, Nat.reduceAdd, Nat.reduceSub, Nat.reduceMul, Nat.reduceMod, h30, q0, q1, q2, q3, q4, q5, q6, i_mulw]
         refine hK80 _ ?_
         clear hK80 K80
         refine Tr.kp [6, 7] ?_
         simp only [pk_cons, pk_nil, ↓A_cons, ↓reduceIte, Nat.reduceEqDiff]
         refine Tr.seqK fun K90 hK90 => ?_
         refine Tr.rg hcx [] _ [] rfl rfl rfl ?_
         simp -implicitDefEqProofs (maxSteps := 2000000) (disch := first | omega | (simp only [go_sem, List.length_append, List.length_drop, List.length_take] <;> omega) | decide) only [go_sem, ↓reduceIte, Nat.reduceEqDiff, reduceCtorEq, Nat.reduceLT, Nat.reduceBEq, Nat.reduceAdd, Nat.reduceSub, Nat.reduceMul, Nat.reduceMod, h30, q0, q1, q2, q3, q4, q5, q6]
         refine hK90 _ ?_
         clear hK90 K90
         refine Tr.kp [6] ?_
         simp only [pk_cons, pk_nil, ↓A_cons, ↓reduceIte, Nat.reduceEqDiff]
         refine Tr.fzA hcx 3 _ (by simp only [go_sem]; rfl) (Nat.zero_le _) (fun j hj => absurd hj (Nat.not_lt_zero j)) ?_
         simp -implicitDefEqProofs (disch := first | omega | (simp only [List.length_set, List.length_append, List.length_take, List.length_drop, List.length_singleton, List.length_cons, List.length_nil] <;> omega)) only [mapE_cons, mapE_nil, fzY_cl, fzH, List.map_cons, List.map_nil, Option.map_some, Option.map_none, fzCs_cons, fzCs_nil, fzCs_cl, fzC_sl, fzC_val, fzC_bp, fzC_sv, fzC_gv, fzC_agg, okF_eq, at_cons0, at_consS, liv_b, live_gv, live_tsl, live_dead, fzCs_dd, bne_self_eq_false, Bool.and_false, List.set_cons_succ, List.set_cons_zero, ↓reduceIte, Nat.reduceEqDiff, Option.isSome_some, Option.isSome_none, Bool.true_and, reduceCtorEq, Nat.reduceBNe, fzGv_cl]
         refine Tr.ret ?_
         simp -implicitDefEqProofs (disch := first | omega | (simp only [go_sem, List.length_append, List.length_drop, List.length_take] <;> omega) | decide) only [go_sem, ↓reduceIte, Nat.reduceEqDiff, reduceCtorEq]
         all_goals (first | (rw [tk0]; simp only [bentT, benB, *, ↓reduceIte]; rfl) | (rw [tk1 _ _ _ (by omega)]; simp only [bentT, benB, *, ↓reduceIte]; rfl) | (simp only [bentT, benB, *, ↓reduceIte]; done) | (simp only [bentT, benB, *, ↓reduceIte]; rfl) | (simp (disch := omega) [bentT, benB, tk0, tk1, *]; done))
        ·
         clear hT hF KT KF
         refine Tr.skip ?_
         refine hK80 _ ?_
         clear hK80 K80
         refine Tr.kp [6, 7] ?_
         simp only [pk_cons, pk_nil, ↓A_cons, ↓reduceIte, Nat.reduceEqDiff]
         refine Tr.seqK fun K91 hK91 => ?_
         refine Tr.rg hcx [] _ [] rfl rfl rfl ?_
         simp -implicitDefEqProofs (maxSteps := 2000000) (disch := first | omega | (simp only [go_sem, List.length_append, List.length_drop, List.length_take] <;> omega) | decide) only [go_sem, ↓reduceIte, Nat.reduceEqDiff, reduceCtorEq, Nat.reduceLT, Nat.reduceBEq, Nat.reduceAdd, Nat.reduceSub, Nat.reduceMul, Nat.reduceMod, h30, q0, q1, q2, q3, q4, q5, q6]
         refine hK91 _ ?_
         clear hK91 K91
         refine Tr.kp [6] ?_
         simp only [pk_cons, pk_nil, ↓A_cons, ↓reduceIte, Nat.reduceEqDiff]
         refine Tr.fzA hcx 3 _ (by simp only [go_sem]; rfl) (Nat.zero_le _) (fun j hj => absurd hj (Nat.not_lt_zero j)) ?_
         simp -implicitDefEqProofs (disch := first | omega | (simp only [List.length_set, List.length_append, List.length_take, List.length_drop, List.length_singleton, List.length_cons, List.length_nil] <;> omega)) only [mapE_cons, mapE_nil, fzY_cl, fzH, List.map_cons, List.map_nil, Option.map_some, Option.map_none, fzCs_cons, fzCs_nil, fzCs_cl, fzC_sl, fzC_val, fzC_bp, fzC_sv, fzC_gv, fzC_agg, okF_eq, at_cons0, at_consS, liv_b, live_gv, live_tsl, live_dead, fzCs_dd, bne_self_eq_false, Bool.and_false, List.set_cons_succ, List.set_cons_zero, ↓reduceIte, Nat.reduceEqDiff, Option.isSome_some, Option.isSome_none, Bool.true_and, reduceCtorEq, Nat.reduceBNe, fzGv_cl]
         refine Tr.ret ?_
         simp -implicitDefEqProofs (disch := first | omega | (simp only [go_sem, List.length_append, List.length_drop, List.length_take] <;> omega) | decide) only [go_sem, ↓reduceIte, Nat.reduceEqDiff, reduceCtorEq]
         all_goals (first | (rw [tk0]; simp only [bentT, benB, *, ↓reduceIte]; rfl) | (rw [tk1 _ _ _ (by omega)]; simp only [bentT, benB, *, ↓reduceIte]; rfl) | (simp only [bentT, benB, *, ↓reduceIte]; done) | (simp only [bentT, benB, *, ↓reduceIte]; rfl) | (simp (disch := omega) [bentT, benB, tk0, tk1, *]; done))
end Go.Sx
