/-
  Package sign: leaves. And what follows.
-/
import Derived.Test.YthjamgmeehjfmaaDoorPat
set_option linter.unusedSimpArgs false
set_option linter.unusedVariables false
namespace Go.Sx
open Go.RowKit Go.Proofs
set_option maxRecDepth 100000
set_option maxHeartbeats 8000000
theorem lay1str' (a : List UInt8) : lay1s 1 (cl sC [[]]) [(0, C.val (str a))] = some (vp (sl sC .full [a])) := rfl
/-- The boxes ahead of the leaf's result. -/
def leafH (V : Nat → List UInt8) (a : Nat) : Hp := if a = 0 then [some (cl bC (List.replicate 16 0)), some [.val (.pointer none), .val (.slice none 0 0)]] else [some (cl bC (List.replicate 16 0)), some [.bt 1 54 2, .gv 2 (16 * a) (1, 5)], some (cl bC (catV V a))]
theorem leafH_0 {V : Nat → List UInt8} {a : Nat} (h : a = 0) : leafH V a = [some (cl bC (List.replicate 16 0)), some [.val (.pointer none), .val (.slice none 0 0)]] := if_pos h
theorem leafH_S {V : Nat → List UInt8} {a : Nat} (h : a ≠ 0) : leafH V a = [some (cl bC (List.replicate 16 0)), some [.bt 1 54 2, .gv 2 (16 * a) (1, 5)], some (cl bC (catV V a))] := if_neg h
theorem okN : ∀ o ∈ [(none : Option (List C))], okBox o = true := by intro o ho; simp only [List.mem_singleton] at ho; subst ho; rfl
theorem okZ : ∀ o ∈ [some (cl bC (List.replicate 16 0))], okBox o = true := by intro o ho; simp only [List.mem_singleton] at ho; subst ho; rfl
theorem X_fc25f {p : Prop} (e : p := by intro KZ hZ; simp -implicitDefEqProofs (disch := first | omega | (simp only [go_sem, lA, lD, lT] <;> omega) | decide) only [go_sem, ↓reduceIte, Nat.reduceEqDiff, reduceCtorEq, Nat.reduceLT, Nat.reduceBEq, Nat.reduceAdd, hy]; exact hZ) : p := e
theorem F_fc25f {p : Prop} (e : p := by simp -implicitDefEqProofs (disch := first | omega | (simp only [go_sem, lA, lD, lT] <;> omega) | decide) only [go_sem, ↓reduceIte, Nat.reduceEqDiff, reduceCtorEq]; all_goals (rfl)) : p := e
theorem fc25f {gl : Nat → C} {M : Nat} {pu : Nat → List C → Option C} {hp : Nat → List C → Hp → Option (C × Hp)} (hcx : CxOK (cxQ gl M pu hp))  (hq47 : ∀ (f : Bool) (x : C) (rest : Hp), x.noOwn → hp 47 [.bt 0 54 2] (some [bld0 f, x] :: rest) = some (.tup [], some [.bt 0 54 2, x] :: rest)) (hnr : ∀ (g : Nat) (xs : List C), noRefs 0 xs = false → pu g xs = none) (p : List UInt8) (hp0 : 0 < p.length) (hp1 : p.length ≤ 1000000000) : FC Tryd.prog gl 25 [.bt 0 54 2, .sv 1 0 p.length] [some [.val (.pointer none), .val (.slice none 0 0)], some (cl bC p)] (.tup [.val (nI p.length), .val .nilIface]) [some [.bt 0 54 2, .gv 2 p.length (1, 5)], some (cl bC p), some (cl bC p)] := by
 replace hcx := hcx.reN (M := 19)
 refine FC.ofH (cx := cxQ gl 19 pu hp) (rs := [.tmp 4, .tmp 5]) rfl Tryd.func25 rfl rfl rfl (by simp only [List.length_cons, List.length_nil]; decide)  ?_
 simp only [ini, go_sem]
 have hy := True.intro
 have en47 : pu 47 [.bt 0 54 2] = none := hnr 47 _ rfl
 have e47 := hq47 true (.val (.slice none 0 0)) [some (cl bC p)] trivial
 have e47 : hp 47 [.bt 0 54 2] [some [.val (.pointer none), .val (.slice none 0 0)], some (cl bC p)] = _ := e47
 refine Tr.w hcx [] _ [] rfl rfl rfl ?_ X_fc25f
 have hy := And.intro @en47 @e47
 refine Tr.w hcx [] _ [] rfl rfl rfl ?_ X_fc25f
 have hy := True.intro
 refine Tr.wG hcx [14] [12] _ [] rfl rfl rfl ?_ X_fc25f
 refine Tr.w hcx [1000018] _ [] rfl rfl rfl ?_ X_fc25f
 exact Tr.ret F_fc25f
theorem X_fc25u {p : Prop} (e : p := by intro KZ hZ; simp -implicitDefEqProofs (disch := first | omega | (simp only [go_sem, lA, lD, lT] <;> omega) | decide) only [go_sem, ↓reduceIte, Nat.reduceEqDiff, reduceCtorEq, Nat.reduceLT, Nat.reduceBEq, Nat.reduceAdd, hy]; exact hZ) : p := e
theorem F_fc25u {p : Prop} (e : p := by simp -implicitDefEqProofs (disch := first | omega | (simp only [go_sem, lA, lD, lT] <;> omega) | decide) only [go_sem, ↓reduceIte, Nat.reduceEqDiff, reduceCtorEq]; all_goals (rfl)) : p := e
theorem fc25u {gl : Nat → C} {M : Nat} {pu : Nat → List C → Option C} {hp : Nat → List C → Hp → Option (C × Hp)} (hcx : CxOK (cxQ gl M pu hp))  (hq47 : ∀ (f : Bool) (x : C) (rest : Hp), x.noOwn → hp 47 [.bt 0 54 2] (some [bld0 f, x] :: rest) = some (.tup [], some [.bt 0 54 2, x] :: rest)) (hnr : ∀ (g : Nat) (xs : List C), noRefs 0 xs = false → pu g xs = none) (l p : List UInt8) (hp0 : 0 < p.length) (hp1 : p.length ≤ 1000000000) (hl1 : l.length ≤ 1000000000) : FC Tryd.prog gl 25 [.bt 0 54 2, .sv 2 0 p.length] [some [.bt 0 54 2, .gv 1 l.length (1, 5)], some (cl bC l), some (cl bC p)] (.tup [.val (nI p.length), .val .nilIface]) [some [.bt 0 54 2, .gv 3 (l ++ p).length (1, 5)], some deadC, some (cl bC p), some (cl bC (l ++ p))] := by
 replace hcx := hcx.reN (M := 19)
 refine FC.ofH (cx := cxQ gl 19 pu hp) (rs := [.tmp 4, .tmp 5]) rfl Tryd.func25 rfl rfl rfl (by simp only [List.length_cons, List.length_nil]; decide)  ?_
 simp only [ini, go_sem]
 have hy := True.intro
 have en47 : pu 47 [.bt 0 54 2] = none := hnr 47 _ rfl
 have e47 := hq47 false (.gv 1 l.length (1, 5)) [some (cl bC l), some (cl bC p)] trivial
 have e47 : hp 47 [.bt 0 54 2] [some [.bt 0 54 2, .gv 1 l.length (1, 5)], some (cl bC l), some (cl bC p)] = _ := e47
 refine Tr.w hcx [] _ [] rfl rfl rfl ?_ X_fc25u
 have hy := And.intro @en47 @e47
 refine Tr.w hcx [] _ [] rfl rfl rfl ?_ X_fc25u
 have hy := True.intro
 refine Tr.wG hcx [14] [12] _ [] rfl rfl rfl ?_ X_fc25u
 refine Tr.w hcx [1000018] _ [] rfl rfl rfl ?_ X_fc25u
 exact Tr.ret F_fc25u
theorem X_fc38 {p : Prop} (e : p := by intro KZ hZ; simp -implicitDefEqProofs (disch := first | omega | (simp only [go_sem, lA, lD, lT, ofT_len] <;> omega) | decide) only [go_sem, ↓reduceIte, Nat.reduceEqDiff, reduceCtorEq, Nat.reduceLT, Nat.reduceBEq, Nat.reduceAdd, Nat.reduceMul, z0, hy]; exact hZ) : p := e
theorem F_fc38 {p : Prop} (e : p := by simp -implicitDefEqProofs (disch := first | omega | (simp only [go_sem, lA, lD, lT, ofT_len] <;> omega) | decide) only [go_sem, ↓reduceIte, Nat.reduceEqDiff, reduceCtorEq]; all_goals (rfl)) : p := e
theorem fc38 {gl : Nat → C} {M : Nat} {pu : Nat → List C → Option C} {hp : Nat → List C → Hp → Option (C × Hp)} (hcx : CxOK (cxQ gl M pu hp))  (hq25f : ∀ (pre : Hp) (p : List UInt8), (∀ o ∈ pre, okBox o = true) → 0 < p.length ∧ p.length ≤ 1000000000 → hp 25 [.bt pre.length 54 2, .sv (pre.length + 1) 0 p.length] (pre ++ [some [.val (.pointer none), .val (.slice none 0 0)], some (cl bC p)]) = some (.tup [.val (nI p.length), .val .nilIface], pre ++ [some [.bt pre.length 54 2, .gv (pre.length + 2) p.length (1, 5)], some (cl bC p), some (cl bC p)])) (hq25u : ∀ (pre : Hp) (l p : List UInt8), (∀ o ∈ pre, okBox o = true) → 0 < p.length ∧ p.length ≤ 1000000000 ∧ l.length ≤ 1000000000 → hp 25 [.bt pre.length 54 2, .sv (pre.length + 2) 0 p.length] (pre ++ [some [.bt pre.length 54 2, .gv (pre.length + 1) l.length (1, 5)], some (cl bC l), some (cl bC p)]) = some (.tup [.val (nI p.length), .val .nilIface], pre ++ [some [.bt pre.length 54 2, .gv (pre.length + 3) (l ++ p).length (1, 5)], some deadC, some (cl bC p), some (cl bC (l ++ p))])) (hq25n : ∀ (b k m : Nat), ∃ r, hp 25 [.bt b 54 2, .sv k 0 m] [] = some r) (hq29 : ∀ (pre suf : Hp) (l : List UInt8), (∀ o ∈ pre, okBox o = true) → (∀ o ∈ suf, okBox o = true) → l ≠ [] ∧ l.length ≤ 1000000000 → hp 29 [.bt pre.length 54 2] (pre ++ ([some [.bt pre.length 54 2, .gv (pre.length + 1) l.length (1, 5)], some (cl bC l)] ++ suf)) = some (.val (str l), pre ++ ([some deadC, some deadC] ++ suf))) (h34 : ∀ (tag : Int) (parts : List (List UInt8)), (inp tag parts).length < 1099511627776 → pu 34 [.val (.int .i64 tag), sl sC .no parts] = some (.agg (cl bC ((sha (inp tag parts)).take 16)))) (hnr : ∀ (g : Nat) (xs : List C), noRefs 0 xs = false → pu g xs = none) (n : Nat) (caps : List C) (V : Nat → List UInt8) (hV : ∀ c, c < 68 → pu n (.val (nI c) :: caps) = some (.agg (cl bC (V c)))) (hl : ∀ c, c < 68 → (V c).length = 16) (hcaps : noRefs 0 caps = true) : FC Tryd.prog gl 38 [.fn n caps] [] (.agg (cl bC (leafV V))) [] := by
 replace hcx := hcx.reN (M := 23)
 refine FC.ofA (cx := cxQ gl 23 pu hp) (rs := [.cell 2 23]) rfl Tryd.func38 rfl rfl rfl (by simp only [List.length_cons, List.length_nil]; decide) (by simp only [go_sem]) ?_
 simp only [ini, go_sem]
 have z0 := True.intro
 have hy := True.intro
 have hmv := fun ρ => mvCs_nr ρ caps hcaps
 refine Tr.w hcx [] _ [none] rfl rfl rfl ?_ X_fc38
 refine Tr.wG hcx [3] [] _ [none] rfl rfl rfl ?_ X_fc38
 refine Tr.seqK fun K1 hK1 => ?_
 refine Tr.w hcx [] _ [] rfl rfl rfl ?_ X_fc38
 refine Tr.k [0, 2, 3, 7] ?_
 refine Tr.blk ?_
 refine Tr.loopM hcx (α := Nat) (fun a => [(0, ?v0_1), (2, ?v2_1), (3, ?v3_1), (7, .val (nI a))]) (fun a => (leafH V a)) (fun a => a ≤ 68) (fun a => 68 - a) (0) (Nat.zero_le _) ?le_1 ?hh_1 ?bd_1
 case hh_1 => exact (leafH_0 rfl).symm
 case le_1 => exact LT
 rintro c hc
 by_cases z0 : c = 0
 ·
  rw [leafH_0 z0]
  have z0o := z0
  clear z0
  have z0 := True.intro
  have hc8 : c < 68 := by omega
  have hlc := hl c hc8
  have eV := hV c hc8
  have hcl : (catV V c).length = 16 * c := catV_len' c fun k hk => hl k (by omega)
  first
    | (have e25 : hp 25 [.bt 1 54 2, .sv 2 0 16] [some (cl bC (List.replicate 16 0)), some [.val (.pointer none), .val (.slice none 0 0)], some (cl bC (V c))] = some (.tup [.val (nI 16), .val .nilIface], [some (cl bC (List.replicate 16 0)), some [.bt 1 54 2, .gv 3 16 (1, 5)], some (cl bC (V c)), some (cl bC (V c))]) := by
         have h := hq25f [some (cl bC (List.replicate 16 0))] (V c) okZ (by omega)
         rw [hlc] at h; exact h)
  have en25 : pu 25 [.bt 1 54 2, .sv 2 0 16] = none := hnr 25 _ rfl
  have en25b : pu 25 [.bt 1 54 2, .sv 3 0 16] = none := hnr 25 _ rfl
  obtain ⟨r2, en2⟩ := hq25n 1 2 16
  obtain ⟨r3, en3⟩ := hq25n 1 3 16
  have e25u : hp 25 [.bt 1 54 2, .sv 3 0 16] [some (cl bC (List.replicate 16 0)), some [.bt 1 54 2, .gv 2 (16 * c) (1, 5)], some (cl bC (catV V c)), some (cl bC (V c))] = some (.tup [.val (nI 16), .val .nilIface], [some (cl bC (List.replicate 16 0)), some [.bt 1 54 2, .gv 4 (16 * (c + 1)) (1, 5)], some deadC, some (cl bC (V c)), some (cl bC (catV V (c + 1)))]) := by
    have h := hq25u [some (cl bC (List.replicate 16 0))] (catV V c) (V c) okZ (by omega)
    rw [show (catV V c ++ V c).length = 16 * (c + 1) by rw [List.length_append]; omega, hcl, hlc] at h; exact h
  refine Tr.w hcx [] _ [] rfl rfl rfl ?_ X_fc38
  refine Tr.seqK fun K2 hK2 => ?_
  refine Tr.cT rfl ?_
  refine Tr.skip ?_
  refine hK2 _ ?_
  refine Tr.seqK fun K3 hK3 => ?_
  refine Tr.blk ?_
  refine Tr.w hcx [1000009] _ [] rfl rfl rfl ?_ X_fc38
  have hy := @eV
  refine Tr.w hcx [] _ [none] rfl rfl rfl ?_ X_fc38
  have hy := And.intro @en25 (And.intro @en25b (And.intro @en2 (And.intro @en3 (And.intro @e25 @e25u))))
  refine Tr.v hcx [] _ [] rfl rfl rfl ?_ X_fc38
  refine hK3 _ ?_
  have hy := True.intro
  refine Tr.v hcx [] _ [] rfl rfl rfl ?_ X_fc38
  first
  | ((refine ⟨[0, 1, 3], ⟨by decide, by decide, by decide⟩, c + 1, ⟨by omega, O1⟩, ?_, by simp only [mvH_eq, mvHa_nil, mvHa_cons, hget_0, hget_S, Option.map_some, Option.map_none, mvCs_cl, mvCs_f, mvCs_nil, mvCs_cons, mvC_val, mvC_top, mvC_sl, mvC_gv, mvC_sv, mvC_bp, mvC_agg, mvC_kp, mvGv_some, mvGv_none, mvSv_some, mvSv_none, mvBp_some, mvBp_none, loc_nil, loc_cons, ↓reduceIte, Nat.reduceEqDiff, reduceCtorEq, Nat.reduceAdd, Nat.zero_add, Nat.one_ne_zero, Nat.zero_ne_one, mvC_fn, mvC_bt, mvBt_some, mvBt_none, mvC_mp, mvMp_some, mvMp_none]; first | (rw [leafH_S (Nat.succ_ne_zero c), show catV V (c + 1) = V c by rw [z0o]; rfl, show 16 * (c + 1) = 16 by omega]; done) | (rw [leafH_S (Nat.succ_ne_zero c)]; done)⟩); (simp only [Le_nil, Le_cons, ↓A_cons, CLe_refl, CLe_top, CLe_full, CLe_nil, CLe_own, and_true, true_and, mvH_eq, mvHa_nil, mvHa_cons, hget_0, hget_S, Option.map_some, Option.map_none, mvCs_cl, mvCs_f, mvCs_nil, mvCs_cons, mvC_val, mvC_top, mvC_sl, mvC_gv, mvC_sv, mvC_bp, mvC_agg, mvC_kp, mvGv_some, mvGv_none, mvSv_some, mvSv_none, mvBp_some, mvBp_none, loc_nil, loc_cons, ↓reduceIte, Nat.reduceEqDiff, reduceCtorEq, Nat.reduceAdd, Nat.zero_add, Nat.one_ne_zero, Nat.zero_ne_one, mvC_fn, mvC_bt, mvBt_some, mvBt_none, mvC_mp, mvMp_some, mvMp_none]; all_goals (repeat' first | exact CLe.refl _ | exact True.intro | (with_reducible refine And.intro ?_ ?_))); (all_goals first | exact CLe.refl _ | (rw [hmv]; exact CLe.refl _)); (done))
 rw [leafH_S z0]
 have z0o := z0
 clear z0
 have z0 := True.intro
 refine Tr.w hcx [] _ [] rfl rfl rfl ?_ X_fc38
 refine Tr.seqK fun K4 hK4 => ?_
 refine Tr.cD rfl (fun hc8 => ?_) (fun hc8 => ?_)
 ·
  have hlc := hl c hc8
  have eV := hV c hc8
  have hcl : (catV V c).length = 16 * c := catV_len' c fun k hk => hl k (by omega)
  first
    | (have e25 : hp 25 [.bt 1 54 2, .sv 2 0 16] [some (cl bC (List.replicate 16 0)), some [.val (.pointer none), .val (.slice none 0 0)], some (cl bC (V c))] = some (.tup [.val (nI 16), .val .nilIface], [some (cl bC (List.replicate 16 0)), some [.bt 1 54 2, .gv 3 16 (1, 5)], some (cl bC (V c)), some (cl bC (V c))]) := by
         have h := hq25f [some (cl bC (List.replicate 16 0))] (V c) okZ (by omega)
         rw [hlc] at h; exact h)
  have en25 : pu 25 [.bt 1 54 2, .sv 2 0 16] = none := hnr 25 _ rfl
  have en25b : pu 25 [.bt 1 54 2, .sv 3 0 16] = none := hnr 25 _ rfl
  obtain ⟨r2, en2⟩ := hq25n 1 2 16
  obtain ⟨r3, en3⟩ := hq25n 1 3 16
  have e25u : hp 25 [.bt 1 54 2, .sv 3 0 16] [some (cl bC (List.replicate 16 0)), some [.bt 1 54 2, .gv 2 (16 * c) (1, 5)], some (cl bC (catV V c)), some (cl bC (V c))] = some (.tup [.val (nI 16), .val .nilIface], [some (cl bC (List.replicate 16 0)), some [.bt 1 54 2, .gv 4 (16 * (c + 1)) (1, 5)], some deadC, some (cl bC (V c)), some (cl bC (catV V (c + 1)))]) := by
    have h := hq25u [some (cl bC (List.replicate 16 0))] (catV V c) (V c) okZ (by omega)
    rw [show (catV V c ++ V c).length = 16 * (c + 1) by rw [List.length_append]; omega, hcl, hlc] at h; exact h
  refine Tr.skip ?_
  refine hK4 _ ?_
  refine Tr.seqK fun K5 hK5 => ?_
  refine Tr.blk ?_
  refine Tr.w hcx [1000009] _ [] rfl rfl rfl ?_ X_fc38
  have hy := @eV
  refine Tr.w hcx [] _ [none] rfl rfl rfl ?_ X_fc38
  have hy := And.intro @en25 (And.intro @en25b (And.intro @en2 (And.intro @en3 (And.intro @e25 @e25u))))
  refine Tr.v hcx [] _ [] rfl rfl rfl ?_ X_fc38
  refine hK5 _ ?_
  have hy := True.intro
  refine Tr.v hcx [] _ [] rfl rfl rfl ?_ X_fc38
  first
  | ((refine ⟨[0, 1, 4], ⟨by decide, by decide, by decide⟩, c + 1, ⟨by omega, O1⟩, ?_, by simp only [mvH_eq, mvHa_nil, mvHa_cons, hget_0, hget_S, Option.map_some, Option.map_none, mvCs_cl, mvCs_f, mvCs_nil, mvCs_cons, mvC_val, mvC_top, mvC_sl, mvC_gv, mvC_sv, mvC_bp, mvC_agg, mvC_kp, mvGv_some, mvGv_none, mvSv_some, mvSv_none, mvBp_some, mvBp_none, loc_nil, loc_cons, ↓reduceIte, Nat.reduceEqDiff, reduceCtorEq, Nat.reduceAdd, Nat.zero_add, Nat.one_ne_zero, Nat.zero_ne_one, mvC_fn, mvC_bt, mvBt_some, mvBt_none, mvC_mp, mvMp_some, mvMp_none]; first | (rw [leafH_S (Nat.succ_ne_zero c), show catV V (c + 1) = V c by rw [z0o]; rfl, show 16 * (c + 1) = 16 by omega]; done) | (rw [leafH_S (Nat.succ_ne_zero c)]; done)⟩); (simp only [Le_nil, Le_cons, ↓A_cons, CLe_refl, CLe_top, CLe_full, CLe_nil, CLe_own, and_true, true_and, mvH_eq, mvHa_nil, mvHa_cons, hget_0, hget_S, Option.map_some, Option.map_none, mvCs_cl, mvCs_f, mvCs_nil, mvCs_cons, mvC_val, mvC_top, mvC_sl, mvC_gv, mvC_sv, mvC_bp, mvC_agg, mvC_kp, mvGv_some, mvGv_none, mvSv_some, mvSv_none, mvBp_some, mvBp_none, loc_nil, loc_cons, ↓reduceIte, Nat.reduceEqDiff, reduceCtorEq, Nat.reduceAdd, Nat.zero_add, Nat.one_ne_zero, Nat.zero_ne_one, mvC_fn, mvC_bt, mvBt_some, mvBt_none, mvC_mp, mvMp_some, mvMp_none]; all_goals (repeat' first | exact CLe.refl _ | exact True.intro | (with_reducible refine And.intro ?_ ?_))); (all_goals first | exact CLe.refl _ | (rw [hmv]; exact CLe.refl _)); (done))
 obtain rfl : c = 68 := by omega
 have hcl : (catV V 68).length = 16 * 68 := catV_len' 68 fun k hk => hl k (by omega)
 have en29 : pu 29 [.bt 1 54 2] = none := hnr 29 _ rfl
 have e29 : hp 29 [.bt 1 54 2] [some (cl bC (List.replicate 16 0)), some [.bt 1 54 2, .gv 2 1088 (1, 5)], some (cl bC (catV V 68)), none] = some (.val (str (catV V 68)), [some (cl bC (List.replicate 16 0)), some deadC, some deadC, none]) := by
   have h := hq29 [some (cl bC (List.replicate 16 0))] [none] (catV V 68) okZ okN ⟨(by intro e; rw [e] at hcl; cases hcl), by omega⟩
   rw [hcl] at h; exact h
 have e4 : pu 34 [.val (nI 2), sl sC .no [catV V 68]] = some (.agg (cl bC (ofT 2 [catV V 68]))) := h34 2 _ (inp_len1 _ _ (by omega))
 have hl2 := ofT_len 2 [catV V 68]
 have e6 : pu 34 [.val (nI 3), sl sC .no [ofT 2 [catV V 68]]] = some (.agg (cl bC (leafV V))) := h34 3 _ (inp_len1 _ _ (by omega))
 have ta := t16 hl2
 refine Tr.exit ?_
 refine hK1 _ ?_
 have hy := And.intro @en29 (And.intro @e29 (And.intro @e4 @lay1str'))
 refine Tr.w hcx [] _ [none] rfl rfl rfl ?_ X_fc38
 have hy := And.intro @e6 (And.intro @lay1str' @ta)
 refine Tr.w hcx [] _ [] rfl rfl rfl ?_ X_fc38
 exact Tr.ret F_fc38
end Go.Sx
namespace Go.Sx
open Go.RowKit
def EndsT (cx : Cx) (rs : List ResultVar) (c : C) (k : Nat) (h' : Hp) : Ex → St → Prop
  | .exit _, _ => False
  | _, st => resL cx st rs = some c ∧ st.h.take k = h'
theorem EndsT_r (cx : Cx) (rs : List ResultVar) (c : C) (k : Nat) (h' : Hp) (st : St) : EndsT cx rs c k h' .ret st = (resL cx st rs = some c ∧ st.h.take k = h') := rfl
def nrH (k : Nat) : Hp → Bool
  | [] => true
  | none :: l => nrH k l
  | some cells :: l => noRefs k cells && nrH k l
theorem nrH_get (k : Nat) : ∀ (h : Hp), nrH k h = true → ∀ (b : Nat) (cells : List C), h[b]? = some (some cells) → noRefs k cells = true
  | [], _, b, cells, hb => by simp at hb
  | o :: l, h, 0, cells, hb => by
    simp at hb; subst hb
    simp only [nrH, Bool.and_eq_true] at h; exact h.1
  | o :: l, h, b + 1, cells, hb => by
    refine nrH_get k l ?_ b cells (by simpa using hb)
    cases o with
    | none => exact h
    | some c => simp only [nrH, Bool.and_eq_true] at h; exact h.2
theorem nrH_nil (k : Nat) : nrH k [] = true := rfl
theorem nrH_some (k : Nat) (cells : List C) (l : Hp) : nrH k (some cells :: l) = (noRefs k cells && nrH k l) := rfl
theorem nrH_mem {k : Nat} {h : Hp} (hh : nrH k h = true) : ∀ o ∈ h, ∀ cells, o = some cells → noRefs k cells = true := fun o ho cells e => by
  subst e
  obtain ⟨b, hb⟩ := List.getElem?_of_mem ho
  exact nrH_get k h hh b cells hb
theorem FC.ofT {cx : Cx} {f : Nat} {fn : Func} {code : Code} {args : List C} {h h' : Hp} {c : C} {rs : List ResultVar} (hN : cx.N = fn.ntmps) (hf : cx.P.funcs[f]? = some fn) (hn : (fn.name == "runtime.NumGoroutine") = false) (hb : fn.body = some code)
    (hrs : fn.results = rs.toArray) (hlen : args.length ≤ fn.ntmps) (hc : noRef h.length c = true) (hh : nrH h.length h' = true) (hT : Tr cx h.length code ⟨A (ini 0 args), h⟩ (EndsT cx rs c h.length h')) : FC cx.P cx.gl f args h c h' := by
  refine FC.of hN hf hn hb hlen ?_
  refine Tr.weaken (fun t => CLe.init args t) (hT.mono fun x st q => ?_)
  have key : resL cx st rs = some c ∧ st.h.take h.length = h' → results cx fn st = some c ∧ ((st.h.take h.length = h' ∧ noRef h.length c = true ∧ ∀ (b : Nat) cells, b < h.length → st.h[b]? = some (some cells) → noRefs h.length cells = true) ∨ st.h = h') := fun q => by
    refine ⟨?_, .inl ⟨q.2, hc, fun b cells hb hx => nrH_get _ _ hh b cells ?_⟩⟩
    · rw [← q.1]
      unfold results
      rw [hrs]
      rcases rs with _ | ⟨r, _ | ⟨r2, rs⟩⟩ <;> rfl
    · rw [← q.2, List.getElem?_take, if_pos hb]; exact hx
  cases x with
  | exit k => exact q
  | normal => exact key q
  | ret => exact key q
attribute [go_sem] EndsT_r nrH_nil nrH_some
end Go.Sx
namespace Go.Sx
open Go.RowKit
section
variable {cx : Cx} {n : Nat} {st : St} {Q : Ex → St → Prop} {G : Gh} {w : World} {h : Hp} {b : Nat} {cells : List C}
mutual
theorem fzC_repY (H : WorldOK G h w) (hb : h.at b = some cells) {ys : List C} (hys : ∀ blk, G.μ b = some blk → RepK (fzG G w b cells.length) blk 0 ys) : ∀ (c : C) (v : Value), Rep G c v → Rep (fzG G w b cells.length) (fzC (okF h b) b ys c) v
  | .top, _, _ => by simp [fzC, Rep]
  | .val u, v, r => by simpa [fzC, Rep] using r
  | .sl r n xs, v, x => by
    simp only [fzC, Rep] at x ⊢
    obtain ⟨a, cap, h1, h2, h3, h4, h5⟩ := x
    refine ⟨a, cap, h1, h2, h3, h4, ?_⟩
    rcases h5 with h5 | ⟨blk, off, ha, hk⟩
    · left; rw [h5]; rfl
    · exact .inr ⟨blk, off, ha, fzC_repKY H hb hys xs blk off hk⟩
  | .sv b' off n, v, x => by
    simp only [fzC]
    split
    · rename_i e
      subst e
      split
      · rename_i hle
        simp only [Rep] at x ⊢
        obtain ⟨a, cap, h1, h2, h3, h4⟩ := x
        refine ⟨a, cap, h1, h2, h3, by simp, ?_⟩
        by_cases hn : n = 0
        · left; subst hn; simp
        · right
          obtain ⟨blk, q1, q2⟩ := h4 hn
          refine ⟨blk, off, q2, ?_⟩
          have := (hys _ q1).drop off
          rw [Nat.zero_add] at this
          exact this.take n
      · simp [Rep]
    · split
      · rename_i hok
        simp only [Rep] at x ⊢
        obtain ⟨a, cap, h1, h2, h3, h4⟩ := x
        exact ⟨a, cap, h1, h2, h3, fun hz => by obtain ⟨blk, q1, q2⟩ := h4 hz; exact ⟨blk, fz_μ H hb hok q1, q2⟩⟩
      · simp [Rep]
  | .gv b' m s, v, x => by
    simp only [fzC]
    split
    · rename_i e
      subst e
      split
      · rename_i hle
        simp only [Rep] at x ⊢
        obtain ⟨a, cap, h1, h2, h3, h4⟩ := x
        refine ⟨a, cap, h1, h2, h3, by simp, ?_⟩
        rcases h4 with ⟨rfl, _⟩ | ⟨blk, q1, q2, q3⟩
        · left; simp
        · right
          exact ⟨blk, 0, q2, (hys _ q1).take _⟩
      · simp [Rep]
    · split
      · rename_i hok
        simp only [Rep] at x ⊢
        obtain ⟨a, cap, h1, h2, h3, h4⟩ := x
        refine ⟨a, cap, h1, h2, h3, ?_⟩
        rcases h4 with h4 | ⟨blk, q1, q2, q3⟩
        · exact .inl h4
        · exact .inr ⟨blk, fz_μ H hb hok q1, q2, fz_σ H hb hok q3⟩
      · simp [Rep]
  | .mp b', v, x => by
    simp only [fzC]
    split
    · simp [Rep]
    · split
      · rename_i hok
        simp only [Rep] at x ⊢
        obtain ⟨blk, h1, h2⟩ := x
        exact ⟨blk, fz_μ H hb hok h1, h2⟩
      · simp [Rep]
  | .bt b' t n, v, x => by
    simp only [fzC]
    split
    · simp [Rep]
    · split
      · rename_i hok
        simp only [Rep] at x ⊢
        obtain ⟨blk, h1, h2, h3⟩ := x
        exact ⟨blk, fz_μ H hb hok h1, h2, fz_σ H hb hok h3⟩
      · simp [Rep]
  | .bp b' off, v, x => by
    simp only [fzC]
    split
    · rename_i e
      subst e
      simp only [Rep] at x ⊢
      obtain ⟨blk, h1, h2⟩ := x
      refine ⟨blk, off, h2, ?_⟩
      have := (hys _ h1).drop off
      rwa [Nat.zero_add] at this
    · split
      · rename_i hok
        simp only [Rep] at x ⊢
        obtain ⟨blk, h1, h2⟩ := x
        exact ⟨blk, fz_μ H hb hok h1, h2⟩
      · simp [Rep]
  | .kp xs, v, x => by
    simp only [fzC, Rep] at x ⊢
    obtain ⟨blk, off, h1, h2⟩ := x
    exact ⟨blk, off, h1, fzC_repKY H hb hys xs blk off h2⟩
  | .agg xs, v, x => by
    simp only [fzC, Rep] at x ⊢
    obtain ⟨vs, h1, h2, h3⟩ := x
    exact ⟨vs, h1, fzC_repLY H hb hys xs _ h2, h3⟩
  | .tup xs, v, x => by
    simp only [fzC, Rep] at x ⊢
    obtain ⟨vs, h1, h2⟩ := x
    exact ⟨vs, h1, fzC_repLY H hb hys xs _ h2⟩
  | .fn f xs, v, x => by
    simp only [fzC, Rep] at x ⊢
    obtain ⟨vs, h1, h2⟩ := x
    exact ⟨vs, h1, fzC_repLY H hb hys xs _ h2⟩
theorem fzC_repLY (H : WorldOK G h w) (hb : h.at b = some cells) {ys : List C} (hys : ∀ blk, G.μ b = some blk → RepK (fzG G w b cells.length) blk 0 ys) : ∀ (xs : List C) (vs : List Value), RepL G xs vs → RepL (fzG G w b cells.length) (fzCs (okF h b) b ys xs) vs
  | [], vs, r => by simpa [fzCs, RepL] using r
  | x :: xs, vs, r => by
    simp only [fzCs, RepL] at r ⊢
    obtain ⟨v, vs', h1, h2, h3⟩ := r
    exact ⟨v, vs', h1, fzC_repY H hb hys x v h2, fzC_repLY H hb hys xs vs' h3⟩
theorem fzC_repKY (H : WorldOK G h w) (hb : h.at b = some cells) {ys : List C} (hys : ∀ blk, G.μ b = some blk → RepK (fzG G w b cells.length) blk 0 ys) : ∀ (xs : List C) (blk off : Nat), RepK G blk off xs → RepK (fzG G w b cells.length) blk off (fzCs (okF h b) b ys xs)
  | [], _, _, _ => by simp [fzCs, RepK]
  | x :: xs, blk, off, r => by
    simp only [fzCs, RepK] at r ⊢
    obtain ⟨⟨u, h1, h2, h3⟩, h4⟩ := r
    exact ⟨⟨u, (fz_le H _).K _ _ _ h1, h2, fzC_repY H hb hys x u h3⟩, fzC_repKY H hb hys xs blk (off + 1) h4⟩
end
theorem fzC_mrepY (H : WorldOK G h w) (hb : h.at b = some cells) {ys : List C} (hys : ∀ blk, G.μ b = some blk → RepK (fzG G w b cells.length) blk 0 ys) : ∀ (l : List C) (es : List MapEntry), MRep G l es → MRep (fzG G w b cells.length) (fzCs (okF h b) b ys l) es
  | [], _, r => by simpa [MRep, fzCs] using r
  | [_], _, r => by simp [MRep] at r
  | k :: v :: l, es, r => by
    simp only [MRep, fzCs] at r ⊢
    obtain ⟨e, es', h1, h2, h3, h4⟩ := r
    exact ⟨e, es', h1, fzC_repY H hb hys k _ h2, fzC_repY H hb hys v _ h3, fzC_mrepY H hb hys l es' h4⟩
theorem WorldOK.fzY (H : WorldOK G h w) (hb : h.at b = some cells) {ys : List C} (hys : ∀ blk, G.μ b = some blk → RepK (fzG G w b cells.length) blk 0 ys) : WorldOK (fzG G w b cells.length) (fzH (okF h b) b ys h) w := by
  have hlen := Hp.at_lt hb
  have hμ : ∀ {j blk}, (fzG G w b cells.length).μ j = some blk → G.μ j = some blk ∧ j ≠ b ∧ G.μ b ≠ some blk := fun {j blk} x => by
    simp only [fzG] at x
    split at x
    · cases x
    · rename_i hne
      refine ⟨x, fun e => hne (.inl e), fun e => hne (.inr ⟨blk, e, x⟩)⟩
  refine ⟨fun blk off u hk => ?_, fun j c' hj => ?_, fun j blk hm => ?_, fun j j' c c' blk hj hj' hm hm' => ?_, fun j blk hm => ?_, H.tlt, fun j c' off s m xs blk v hj hc hm hv => ?_, fun j z hz => ?_, fun j l hj => ?_, fun j j' l l' blk x x' y y' => ?_⟩
  · simp only [fzG] at hk
    split at hk
    · exact hk
    · exact H.known blk off u hk
  · obtain ⟨hne, c0, h2, rfl⟩ := fzH_at hb hj
    have hok : okF h b j = true := by simp [okF, h2, hne]
    rcases H.box j c0 h2 with ⟨hE, hE2⟩ | ⟨blk, cs, e, q1, q2, q3, q4, q5⟩
    · refine .inl ⟨by rw [hE]; rfl, ?_⟩
      simp only [fzG]
      split
      · rfl
      · exact hE2
    · have hl : (fzCs (okF h b) b ys c0).length = c0.length := by rw [fzCs_map]; simp
      exact .inr ⟨blk, cs, e, fz_μ H hb hok q1, q2, by rw [hl]; exact q3, by rw [hl]; exact fzC_repLY H hb hys _ _ q4, q5⟩
  · obtain ⟨h1, h2, h3⟩ := hμ hm
    obtain ⟨⟨c, hc⟩, hl⟩ := H.dom j blk h1
    refine ⟨⟨fzCs (okF h b) b ys c, ?_⟩, hl⟩
    unfold fzH
    rw [List.getElem?_set, if_neg (Ne.symm h2), List.getElem?_map, hc]; rfl
  · obtain ⟨h1, _, _⟩ := hμ hm
    obtain ⟨h1', _, _⟩ := hμ hm'
    obtain ⟨_, c0, g2, _⟩ := fzH_at hb hj
    obtain ⟨_, c0', g2', _⟩ := fzH_at hb hj'
    exact H.inj j j' _ _ blk g2 g2' h1 h1'
  · obtain ⟨h1, h2, h3⟩ := hμ hm
    obtain ⟨s1, s2⟩ := H.sep j blk h1
    refine ⟨fun o => ?_, s2⟩
    simp only [fzG]
    rw [if_neg (fun x => h3 x.1)]
    exact s1 o
  · obtain ⟨h1, _, _⟩ := hμ hm
    obtain ⟨_, c0, g2, rfl⟩ := fzH_at hb hj
    rw [fzCs_map, List.getElem?_map] at hc
    cases hq : c0[off]? with
    | none => rw [hq] at hc; cases hc
    | some y =>
      rw [hq] at hc
      simp only [Option.map_some, Option.some.injEq] at hc
      obtain ⟨zs, rfl⟩ := fzC_own hc
      exact (H.own j c0 off s m zs blk v g2 hq h1 hv).fz
  · simp only [fzG] at hz ⊢
    split at hz
    · cases hz
    · rename_i hne
      obtain ⟨blk, cs, e, fr, q1, q2, q3⟩ := H.siz j z hz
      exact ⟨blk, cs, e, fr, by rw [if_neg hne]; exact q1, q2, q3⟩
  · obtain ⟨n1, l0, n2, rfl⟩ := fzH_mp hlen hj
    obtain ⟨blk, es, clk, q1, q2, q3⟩ := H.mpo j l0 n2
    have hok : okF h b j = true := by simp [okF, n2, n1]
    exact ⟨blk, es, clk, fz_μ H hb hok q1, q2, fzC_mrepY H hb hys l0 _ q3⟩
  · obtain ⟨n1, l0, n2, rfl⟩ := fzH_mp hlen x
    obtain ⟨n1', l0', n2', rfl⟩ := fzH_mp hlen x'
    exact H.mpi j j' _ _ blk n2 n2' (hμ y).1 (hμ y').1
/-- The cells, as they stand for good, with what they say of themselves m deep. -/
def fzYn (h : Hp) (b : Nat) (cells : List C) : Nat → List C
  | 0 => fzY h b cells
  | m + 1 => (fzCs (okF h b) b (fzYn h b cells m) cells).map C.noR
theorem fzYn_row (H : WorldOK G h w) (hb : h.at b = some cells) : ∀ (m : Nat) (blk : Nat), G.μ b = some blk → RepK (fzG G w b cells.length) blk 0 (fzYn h b cells m)
  | 0, blk, hm => fz_row H hb hm
  | m + 1, blk, hm => by
    have ih := fzYn_row H hb m
    obtain ⟨cs, e, ⟨fr, q2, _⟩, q0, q3, q4⟩ := H.bx hb hm
    have hl : (fzYn h b cells (m + 1)).length = cells.length := by simp [fzYn, fzCs_map]
    refine RepK.of_get fun i x hx => ?_
    have hil : i < cells.length := by have := (List.getElem?_eq_some_iff.1 hx).1; rwa [hl] at this
    simp only [fzYn] at hx
    rw [fzCs_map, List.map_map, List.getElem?_map] at hx
    cases hc : cells[i]? with
    | none => rw [hc] at hx; cases hx
    | some y =>
      rw [hc] at hx
      simp only [Option.map_some, Option.some.injEq, Function.comp] at hx
      subst hx
      obtain ⟨u, hu, hr⟩ := q3.get i y hc
      rw [List.getElem?_take, if_pos hil] at hu
      refine ⟨u, ?_, q4 u (List.mem_of_getElem? hu), (fzC_repY H hb ih y u hr).noR⟩
      simp only [fzG, Nat.zero_add]
      rw [if_pos ⟨hm, hil⟩]
      exact cell_of q2 _ _ hu
theorem Tr.fzN (hcx : CxOK cx) {c : Code} (b m : Nat) {cells : List C} (hb : st.h.at b = some cells) (hnb : n ≤ b) (hn : ∀ j, j < n → ((st.h.at j).isSome || (st.h.mp j).isSome) = true ∨ st.h[j]? = some none)
    (K : Tr cx n c ⟨fun t => fzC (okF st.h b) b (fzYn st.h b cells m) (st.env t), fzH (okF st.h b) b (fzYn st.h b cells m) st.h⟩ Q) : Tr cx n c st Q := fun G w a S R hR =>
  K (fzG G w b cells.length) w a ⟨S.defers, S.size, S.pre.ok.fzY hb (fzYn_row S.pre.ok hb m), ⟨fun t => fzC_repY S.pre.ok hb (fzYn_row S.pre.ok hb m) _ _ (S.pre.env.1 t), fun t s m' xs e => by
      obtain ⟨ys, hy⟩ := fzC_own e
      exact (S.pre.env.2 t s m' ys hy).fz⟩, fun g => (noRef_rep _ _ (hcx.glo g) (S.pre.glob g)).mono (fz_le S.pre.ok _)⟩ R
    fun x s G' w' a' q S' F => hR x s G' w' a' q S' ((frmN_fz S.pre.ok hb hnb hn _).trans F)
end
theorem Tr.fzNA {cx : Cx} {n : Nat} {Q : Ex → St → Prop} {e : List (Nat × C)} {h : Hp} (hcx : CxOK cx) {c : Code} (b m : Nat) (cells : List C) (hb : h.at b = some cells) (hnb : n ≤ b) (hn : ∀ j, j < n → ((h.at j).isSome || (h.mp j).isSome) = true ∨ h[j]? = some none)
    (K : Tr cx n c ⟨A (mapE (fzC (okF h b) b (fzYn h b cells m)) e), fzH (okF h b) b (fzYn h b cells m) h⟩ Q) : Tr cx n c ⟨A e, h⟩ Q := by
  refine Tr.fzN hcx b m hb hnb hn ?_
  rw [mapE_A _ (by simp only [fzC])]
  exact K
end Go.Sx
namespace Go.Sx
open Go.RowKit Go.Proofs
set_option maxRecDepth 100000
set_option maxHeartbeats 8000000
/-- The variable of the recursive function, as deep as it is needed. -/
def atK (q : Nat) (seed : List UInt8) : Nat → C
  | 0 => .top
  | d + 1 => .kp [.fn 44 [.kp [.mp q], .kp [.val (str seed)], atK q seed d]]
theorem atK_S (q : Nat) (seed : List UInt8) (d : Nat) : atK q seed (d + 1) = .kp [.fn 44 [.kp [.mp q], .kp [.val (str seed)], atK q seed d]] := rfl
theorem atK_bk (n q : Nat) (seed : List UInt8) : ∀ d, bkC (n + ·) (atK q seed d) = atK (n + q) seed d
  | 0 => rfl
  | d + 1 => by simp only [atK, bkC, bkCs, atK_bk n q seed d]
theorem atK_nr (k q : Nat) (seed : List UInt8) (h : q < k) : ∀ d, noRef k (atK q seed d) = true
  | 0 => rfl
  | d + 1 => by simp [atK, noRef, noRefs, atK_nr k q seed h d, h]
theorem atK_noR (q : Nat) (seed : List UInt8) (d : Nat) : (atK q seed d).noR = atK q seed d := by cases d <;> rfl
theorem atK_mv (q j : Nat) (ρ : List Nat) (seed : List UInt8) (h : loc ρ 0 q = some j) : ∀ d, mvC ρ (atK q seed d) = atK j seed d
  | 0 => by simp only [atK, mvC]
  | d + 1 => by simp only [atK, mvC, mvCs, h, atK_mv q j ρ seed h d]
theorem atK_fz (q b : Nat) (ok : Nat → Bool) (ys : List C) (seed : List UInt8) (h : ok q = true) (hb : q ≠ b) : ∀ d, fzC ok b ys (atK q seed d) = atK q seed d
  | 0 => by simp only [atK, fzC]
  | d + 1 => by simp only [atK, fzC, fzCs, h, hb, if_true, if_false, atK_fz q b ok ys seed h hb d]
attribute [go_sem] atK_noR
theorem X_fc22n {p : Prop} (e : p := by intro KZ hZ; simp -implicitDefEqProofs (disch := first | omega | (simp only [go_sem, lA, lD, lT] <;> omega) | decide) only [go_sem, ↓reduceIte, Nat.reduceEqDiff, reduceCtorEq, Nat.reduceLT, Nat.reduceBEq, Nat.reduceAdd, hy]; exact hZ) : p := e
theorem F_fc22n {p : Prop} (e : p := by simp -implicitDefEqProofs (disch := first | omega | (simp only [go_sem, lA, lD, lT] <;> omega) | decide) only [go_sem, ↓reduceIte, Nat.reduceEqDiff, reduceCtorEq]; all_goals (rfl)) : p := e
theorem fc22n {gl : Nat → C} {M : Nat} {pu : Nat → List C → Option C} {hp : Nat → List C → Hp → Option (C × Hp)} (hcx : CxOK (cxQ gl M pu hp))  (seed : List UInt8) : FC Tryd.prog gl 22 [.val (str seed)] [] (.fn 44 [.kp [.mp 0], .kp [.val (str seed)], atK 0 seed 8]) [some (mapC [])] := by
 replace hcx := hcx.reN (M := 8)
 refine FC.ofH (cx := cxQ gl 8 pu hp) (rs := [.tmp 2]) rfl Tryd.func22 rfl rfl rfl (by simp only [List.length_cons, List.length_nil]; decide)  ?_
 simp only [ini, go_sem]
 have hy := True.intro
 refine Tr.w hcx [] _ [none] rfl rfl rfl ?_ X_fc22n
 refine Tr.k [1] ?_
 refine Tr.w hcx [] _ [none] rfl rfl rfl ?_ X_fc22n
 refine Tr.k [1, 3] ?_
 refine Tr.w hcx [] _ [none] rfl rfl rfl ?_ X_fc22n
 refine Tr.k [1, 3, 4] ?_
 refine Tr.w hcx [] _ [] rfl rfl rfl ?_ X_fc22n
 refine Tr.k [4] ?_
 refine Tr.w hcx [1000007] _ [] rfl rfl rfl ?_ X_fc22n
 refine Tr.k [2] ?_
 refine Tr.fzA hcx 0 _ rfl (Nat.zero_le _) (fun j hj => absurd hj (Nat.not_lt_zero j)) ?_
 show Tr _ 0 _ ⟨A [(2, .fn 44 [.bp 1 0, .kp [.val (str seed)], .bp 3 0])], [some deadC, some [.mp 2], some (mapC []), some [.fn 44 [.bp 1 0, .kp [.val (str seed)], .bp 3 0]]]⟩ _
 refine Tr.fzA hcx 1 _ rfl (Nat.zero_le _) (fun j hj => absurd hj (Nat.not_lt_zero j)) ?_
 show Tr _ 0 _ ⟨A [(2, .fn 44 [.kp [.mp 2], .kp [.val (str seed)], .bp 3 0])], [some deadC, some deadC, some (mapC []), some [.fn 44 [.kp [.mp 2], .kp [.val (str seed)], .bp 3 0]]]⟩ _
 refine Tr.fzNA hcx 3 7 _ rfl (Nat.zero_le _) (fun j hj => absurd hj (Nat.not_lt_zero j)) ?_
 show Tr _ 0 _ ⟨A [(2, .fn 44 [.kp [.mp 2], .kp [.val (str seed)], atK 2 seed 8])], [some deadC, some deadC, some (mapC []), some deadC]⟩ _
 refine Tr.mvA hcx [2] ⟨by decide, by decide, fun j hj => absurd hj (Nat.not_lt_zero j)⟩ ?_
 show Tr _ 0 _ ⟨A [(2, .fn 44 [.kp [.mp 0], .kp [.val (str seed)], atK 0 seed 8])], [some (mapC [])]⟩ _
 exact Tr.ret F_fc22n
end Go.Sx
namespace Go.Sx
open Go.RowKit Go.Proofs
def keyT (x : Nat × Nat) : Value := .agg #[nI x.1, nI x.2]
def ents (seed : List UInt8) : List (Nat × Nat) → List C
  | [] => []
  | x :: M => .val (keyT x) :: .agg (cl bC (treeT seed x.1 x.2)) :: ents seed M
theorem ents_app (seed : List UInt8) : ∀ (M N : List (Nat × Nat)), ents seed (M ++ N) = ents seed M ++ ents seed N
  | [], _ => rfl
  | x :: M, N => by simp only [List.cons_append, ents, ents_app seed M N]
theorem ents_flat (seed : List UInt8) (k : Nat) : ∀ M, noRefs k (ents seed M) = true
  | [] => rfl
  | x :: M => by simp only [ents, noRefs, noRef, ents_flat seed k M, noRefs_cl, Bool.and_self]
theorem vq_key (x y : Nat × Nat) : vq (keyT x) (keyT y) = some (decide (x = y)) := by
  obtain ⟨a, b⟩ := x
  obtain ⟨a', b'⟩ := y
  show vqs [nI a, nI b] [nI a', nI b'] = _
  unfold nI
  by_cases h1 : a = a'
  · subst h1
    by_cases h2 : b = b'
    · subst h2; simp [vqs, vq1]
    · have : ((b : Int) == (b' : Int)) = false := by simp; exact fun e => h2 (by exact_mod_cast e)
      simp [vqs, vq1, this, h2]
  · have : ((a : Int) == (a' : Int)) = false := by simp; exact fun e => h1 (by exact_mod_cast e)
    simp [vqs, vq1, this, h1]
def BdK (x : Nat × Nat) : Prop := x.1 < 1000000 ∧ x.2 < 1000000
theorem km_key {x : Nat × Nat} (h : BdK x) : kmS 28 (keyT x) = true := by
  obtain ⟨a, b⟩ := x
  obtain ⟨h1, h2⟩ := h
  simp only at h1 h2
  show (true && decide ((0 : Int) ≤ (a : Int) ∧ (a : Int) < 1000000 ∧ (0 : Int) ≤ (b : Int) ∧ (b : Int) < 1000000)) = true
  simp only [Bool.true_and, decide_eq_true_eq]
  omega
/-- A list of keys as it may stand in the memo. -/
def OkM (M : List (Nat × Nat)) : Prop := M.Nodup ∧ ∀ x ∈ M, BdK x
theorem okM_nil : OkM [] := ⟨List.nodup_nil, fun x h => by cases h⟩
theorem OkM.tail {y : Nat × Nat} {M : List (Nat × Nat)} (h : OkM (y :: M)) : OkM M := ⟨(List.nodup_cons.1 h.1).2, fun x hx => h.2 x (List.mem_cons_of_mem _ hx)⟩
theorem mfind_none {cx : Cx} (hk : cx.km = kmS) (seed : List UInt8) (x : Nat × Nat) : ∀ (M : List (Nat × Nat)) (i : Nat), OkM M → x ∉ M → mfind cx 28 (keyT x) (ents seed M) i = some none
  | [], _, _, _ => rfl
  | y :: M, i, hM, h => by
    simp only [List.mem_cons, not_or] at h
    simp only [ents, mfind, hk, km_key (hM.2 y (List.mem_cons_self ..)), if_true, vq_key, decide_eq_false h.1]
    exact mfind_none hk seed x M (i + 1) hM.tail h.2
theorem mfind_some {cx : Cx} (hk : cx.km = kmS) (seed : List UInt8) (x : Nat × Nat) : ∀ (M : List (Nat × Nat)) (i : Nat), x ∈ M → OkM M → ∃ j, mfind cx 28 (keyT x) (ents seed M) i = some (some (j, .agg (cl bC (treeT seed x.1 x.2))))
  | [], _, h, _ => by simp at h
  | y :: M, i, h, nd => by
    obtain ⟨n1, n2⟩ := List.nodup_cons.1 nd.1
    have hy := km_key (nd.2 y (List.mem_cons_self ..))
    by_cases e : x = y
    · subst e
      simp only [ents, mfind, hk, hy, if_true, vq_key, decide_true, mfind_none hk seed x M (i + 1) nd.tail n1]
      exact ⟨i, rfl⟩
    · simp only [ents, mfind, hk, hy, if_true, vq_key, decide_eq_false e]
      exact mfind_some hk seed x M (i + 1) (by simpa [e] using h) nd.tail
/-- The keys in the order in which the nodes are computed. -/
def vis : Nat → Nat → List (Nat × Nat) → List (Nat × Nat)
  | 0, k, M => if (0, k) ∈ M then M else M ++ [(0, k)]
  | l + 1, k, M => if (l + 1, k) ∈ M then M else vis l (2 * k + 1) (vis l (2 * k) M) ++ [(l + 1, k)]
theorem vis_mem : ∀ (l k : Nat) (M : List (Nat × Nat)) (x : Nat × Nat), x ∈ vis l k M → x ∈ M ∨ x.1 ≤ l
  | 0, k, M, x, h => by
    simp only [vis] at h
    split at h
    · exact .inl h
    · simp only [List.mem_append, List.mem_singleton] at h
      rcases h with h | h
      · exact .inl h
      · right; subst h; exact Nat.le_refl _
  | l + 1, k, M, x, h => by
    simp only [vis] at h
    split at h
    · exact .inl h
    · simp only [List.mem_append, List.mem_singleton] at h
      rcases h with h | h
      · rcases vis_mem l _ _ x h with h | h
        · rcases vis_mem l _ _ x h with h | h
          · exact .inl h
          · right; omega
        · right; omega
      · right; subst h; exact Nat.le_refl _
theorem vis_new (l k : Nat) (M : List (Nat × Nat)) (h : (l + 1, k) ∉ M) : (l + 1, k) ∉ vis l (2 * k + 1) (vis l (2 * k) M) := fun e => by
  rcases vis_mem l _ _ _ e with e | e
  · rcases vis_mem l _ _ _ e with e | e
    · exact h e
    · simp at e; omega
  · simp at e; omega
theorem vis_nodup : ∀ (l k : Nat) (M : List (Nat × Nat)), M.Nodup → (vis l k M).Nodup
  | 0, k, M, h => by
    simp only [vis]
    split
    · exact h
    · rename_i hn
      exact List.nodup_append.2 ⟨h, by simp, fun a ha b hb => by simp at hb; subst hb; exact fun e => hn (e ▸ ha)⟩
  | l + 1, k, M, h => by
    simp only [vis]
    split
    · exact h
    · rename_i hn
      refine List.nodup_append.2 ⟨vis_nodup l _ _ (vis_nodup l _ _ h), by simp, fun a ha b hb => ?_⟩
      simp at hb; subst hb
      exact fun e => vis_new l k M hn (e ▸ ha)
theorem pow_halfT {k l : Nat} (h : (k + 1) * 2 ^ (l + 1) ≤ 1000000) : (2 * k + 1 + 1) * 2 ^ l ≤ 1000000 := by
  have e : (k + 1) * (2 ^ l * 2) = (2 * k + 1 + 1) * 2 ^ l := by
    rw [Nat.mul_comm (2 ^ l) 2, ← Nat.mul_assoc]; congr 1; omega
  rw [Nat.pow_succ, e] at h; exact h
theorem bd_lk {l k : Nat} (h : (k + 1) * 2 ^ l ≤ 1000000) : BdK (l, k) := by
  have h1 : 1 ≤ 2 ^ l := Nat.one_le_two_pow
  have h2 : (k + 1) * 1 ≤ (k + 1) * 2 ^ l := Nat.mul_le_mul_left _ h1
  have h3 : 1 * 2 ^ l ≤ (k + 1) * 2 ^ l := Nat.mul_le_mul_right _ (by omega)
  have h4 : l < 2 ^ l := Nat.lt_two_pow_self
  exact ⟨by simp only; omega, by simp only; omega⟩
theorem vis_bd : ∀ (l k : Nat) (M : List (Nat × Nat)), (k + 1) * 2 ^ l ≤ 1000000 → (∀ x ∈ M, BdK x) → ∀ x ∈ vis l k M, BdK x
  | 0, k, M, hk, h, x, hx => by
    simp only [vis] at hx
    split at hx
    · exact h x hx
    · simp only [List.mem_append, List.mem_singleton] at hx
      rcases hx with hx | hx
      · exact h x hx
      · subst hx; exact bd_lk hk
  | l + 1, k, M, hk, h, x, hx => by
    simp only [vis] at hx
    split at hx
    · exact h x hx
    · simp only [List.mem_append, List.mem_singleton] at hx
      have h2 := pow_halfT hk
      have h1 : (2 * k + 1) * 2 ^ l ≤ 1000000 := Nat.le_trans (Nat.mul_le_mul_right (2 ^ l) (Nat.le_succ (2 * k + 1))) h2
      rcases hx with hx | hx
      · exact vis_bd l _ _ h2 (vis_bd l _ _ h1 h) x hx
      · subst hx; exact bd_lk hk
theorem vis_ok {l k : Nat} {M : List (Nat × Nat)} (hk : (k + 1) * 2 ^ l ≤ 1000000) (h : OkM M) : OkM (vis l k M) := ⟨vis_nodup l k M h.1, vis_bd l k M hk h.2⟩
theorem ents_nr (seed : List UInt8) (k : Nat) (M : List (Nat × Nat)) : noRefs k (mapC (ents seed M)) = true := by
  simp only [mapC, noRefs, noRef, ents_flat, Bool.and_self]
theorem ents_fl (seed : List UInt8) : ∀ M, flats (ents seed M) = true
  | [] => rfl
  | x :: M => by simp only [ents, flats, flat, ents_fl seed M, flats_cl, Bool.and_self]
theorem mapC_fl (seed : List UInt8) (M : List (Nat × Nat)) : flats (mapC (ents seed M)) = true := by
  simp only [mapC, flats, flat, ents_fl, Bool.and_self]
theorem rowT_nr (seed : List UInt8) (M : List (Nat × Nat)) : nrH 1 [some (mapC (ents seed M))] = true := by
  simp only [nrH, ents_nr, Bool.true_and]
theorem refBox_atK (q : Nat) (seed : List UInt8) (d : Nat) (l : List C) : refBox (atK q seed d :: l) = refBox l := by cases d <;> rfl
attribute [go_sem] refBox_atK
theorem lt1_eq : ∀ j, j < 1 → [0, 2][j]? = some j := fun j hj => by
  obtain rfl : j = 0 := by omega
  rfl
theorem Tr.kfix {cx : Cx} (hcx : CxOK cx) {c : Code} {Q : Ex → St → Prop} {a0 : Value} {k : Value} {seed : List UInt8} {d : Nat} {M : List (Nat × Nat)} {z : List UInt8} (hz : z.length = 16)
    (H : Tr cx 1 c ⟨A [(0, .val a0), (2, .kp [.mp 0]), (3, .kp [.val (str seed)]), (4, atK 0 seed d), (6, .kp [.val k]), (7, .bp 1 0)], [some (mapC (ents seed M)), some (cl bC z)]⟩ Q) :
    Tr cx 1 c ⟨A [(0, .val a0), (2, .kp [.mp 0]), (3, .kp [.val (str seed)]), (4, atK 0 seed d), (6, .bp 1 0), (7, .bp 2 0)], [some (mapC (ents seed M)), some [.val k], some (cl bC z)]⟩ Q := by
  refine Tr.fzA hcx 1 [.val k] rfl (Nat.le_refl _) (fun j hj => .inl (by obtain rfl : j = 0 := by omega
                                                                         rfl)) ?_
  have e4 := fun ys => atK_fz 0 1 (okF [some (mapC (ents seed M)), some [.val k], some (cl bC z)] 1) ys seed rfl (by decide) d
  have e5 := fun ys => fzCs_flat (okF [some (mapC (ents seed M)), some [.val k], some (cl bC z)] 1) 1 ys (mapC (ents seed M)) (mapC_fl seed M)
  have e6 := fun ys => fzCs_flat (okF [some (mapC (ents seed M)), some [.val k], some (cl bC z)] 1) 1 ys (cl bC z) (flats_cl bC z)
  have hok2 : okF [some (mapC (ents seed M)), some [.val k], some (cl bC z)] 1 2 = true := by
    cases z with
    | nil => cases hz
    | cons x z => rfl
  have e7 : ∀ ys, fzC (okF [some (mapC (ents seed M)), some [.val k], some (cl bC z)] 1) 1 ys (.bp 2 0) = .bp 2 0 := fun ys => by
    simp only [fzC, hok2, if_true]; rfl
  simp only [mapE_cons, mapE_nil, e4, e7, fzH, List.map_cons, List.map_nil, Option.map_some, e5, e6]
  show Tr cx 1 c ⟨A [(0, .val a0), (2, .kp [.mp 0]), (3, .kp [.val (str seed)]), (4, atK 0 seed d), (6, .kp [.val k]), (7, .bp 2 0)], [some (mapC (ents seed M)), some deadC, some (cl bC z)]⟩ Q
  refine Tr.mvA hcx [0, 2] ⟨by decide, by decide, lt1_eq⟩ ?_
  have m4 := atK_mv 0 0 [0, 2] seed rfl d
  have m5 := mvCs_flat [0, 2] (mapC (ents seed M)) (mapC_fl seed M)
  have m6 := mvCs_flat [0, 2] (cl bC z) (flats_cl bC z)
  simp only [mapE_cons, mapE_nil, m4, mvH, List.map_cons, List.map_nil]
  show Tr cx 1 c ⟨A [(0, .val a0), (2, .kp [.mp 0]), (3, .kp [.val (str seed)]), (4, atK 0 seed d), (6, .kp [.val k]), (7, .bp 1 0)], [some (mvCs [0, 2] (mapC (ents seed M))), some (mvCs [0, 2] (cl bC z))]⟩ Q
  rw [m5, m6]
  exact H
theorem look_T {cx : Cx} (hP : cx.P = Tryd.prog) (hk : cx.km = kmS) {seed : List UInt8} {x : Nat × Nat} {M : List (Nat × Nat)} {h : Hp} {b : Nat} (hb : h.mp b = some (ents seed M)) (hm : x ∈ M) (nd : OkM M) :
    mlookF cx 73 b (keyT x) true h = some (.tup [.agg (cl bC (treeT seed x.1 x.2)), .val (.bool true)], h) := by
  obtain ⟨j, hj⟩ := mfind_some hk seed x M 0 hm nd
  exact mlookF_T (by rw [hP]; exact mk73) (by rw [hk]; exact km_key (nd.2 x hm)) hb hj
theorem look_F {cx : Cx} (hP : cx.P = Tryd.prog) (hk : cx.km = kmS) {seed : List UInt8} {x : Nat × Nat} {M : List (Nat × Nat)} {h : Hp} {b : Nat} (hb : h.mp b = some (ents seed M)) (hm : x ∉ M) (nd : OkM M) (hx : BdK x) :
    mlookF cx 73 b (keyT x) true h = some (.tup [.agg (cl bC (List.replicate 16 0)), .val (.bool false)], h) :=
  mlookF_F (by rw [hP]; exact mk73) (by rw [hk]; exact km_key hx) hb (mfind_none hk seed x M 0 nd hm) (by rw [hP]; exact zv23)
theorem put_F {cx : Cx} (hP : cx.P = Tryd.prog) (hk : cx.km = kmS) {seed : List UInt8} {x : Nat × Nat} {M : List (Nat × Nat)} {h : Hp} {b : Nat} (hb : h.mp b = some (ents seed M)) (hm : x ∉ M) (nd : OkM M) (hx : BdK x) :
    mputF cx 73 b (keyT x) (.agg (cl bC (treeT seed x.1 x.2))) h = some (.val undef, h.set b (some (mapC (ents seed (M ++ [x]))))) := by
  rw [mputF_new (by rw [hP]; exact mk73) (by rw [hk]; exact km_key hx) hb (mfind_none hk seed x M 0 nd hm), ents_app]; rfl
theorem mlp_key (cx : Cx) (b l k : Nat) : mlookPlan cx 73 (.mp b) (.agg (cl nC [l, k])) true = some (.mo (mlookF cx 73 b (keyT (l, k)) true)) := mlook_eq cx 73 b _ _ true rfl
theorem mpp_key (cx : Cx) (b l k : Nat) (x : C) : mputPlan cx 73 (.mp b) (.agg (cl nC [l, k])) x = some (.mo (mputF cx 73 b (keyT (l, k)) x)) := mput_eq cx 73 b _ x _ rfl
theorem lay1_key (a b : Nat) : lay1 (cl nC (List.replicate 2 0)) [(0, C.val (nI a)), (1, C.val (nI b))] = some (vp (.agg (cl nC [a, b]))) := rfl
attribute [go_sem] mlp_key mpp_key lay1_key
end Go.Sx
namespace Go.Sx
open Go.RowKit Go.Proofs
set_option maxRecDepth 100000
set_option maxHeartbeats 8000000
theorem okS (c1 c2 c3 : List UInt8) : ∀ o ∈ [some (cl bC c1), some (cl bC c2), some (cl bC c3)], okBox o = true := by
  have e : ∀ l : List UInt8, okBox (some (cl bC l)) = true := fun l => by cases l <;> rfl
  intro o ho
  simp only [List.mem_cons, List.not_mem_nil, or_false] at ho
  rcases ho with rfl | rfl | rfl
  · exact e _
  · exact e _
  · exact e _
theorem X_fc44z {p : Prop} (e : p := by intro KZ hZ; simp -implicitDefEqProofs (disch := first | omega | (simp only [go_sem, lA, lD, lT, htl, treeT_len, leafT_len, nodT_len] <;> omega) | decide) only [go_sem, ↓reduceIte, Nat.reduceEqDiff, reduceCtorEq, Nat.reduceLT, Nat.reduceBEq, Nat.reduceAdd, m, hy]; exact hZ) : p := e
theorem F_fc44z {p : Prop} (e : p := by simp -implicitDefEqProofs (disch := first | omega | (simp only [go_sem, lA, lD, lT, htl, treeT_len, leafT_len, nodT_len] <;> omega) | decide) only [go_sem, ↓reduceIte, Nat.reduceEqDiff, reduceCtorEq]; all_goals (first | (rw [hv]; done) | (refine ⟨rfl, ?_⟩; rw [hv]; done))) : p := e
theorem fc44z {gl : Nat → C} {M0 : Nat} {pu : Nat → List C → Option C} {hp : Nat → List C → Hp → Option (C × Hp)} (hcx : CxOK (cxQ gl M0 pu hp)) (seed : List UInt8) (d k : Nat) (M : List (Nat × Nat)) (nd : OkM M) (hk : k < 1000000) (hs : seed.length ≤ 1000000)  (hnr : ∀ (g : Nat) (xs : List C), noRefs 0 xs = false → pu g xs = none) (h38 : ∀ (seed : List UInt8) (k : Nat), seed.length ≤ 1000000 → k < 1000000 → pu 38 [.fn 45 [.kp [.val (nI k)], .kp [.val (str seed)]]] = some (.agg (cl bC (leafT seed k)))) : FC Tryd.prog gl 44 [.val (nI 0), .val (nI k), .kp [.mp 0], .kp [.val (str seed)], atK 0 seed d] [some (mapC (ents seed (M)))] (.agg (cl bC (treeT seed 0 k))) [some (mapC (ents seed (vis 0 k M)))] := by
 replace hcx := hcx.reN (M := 45)
 refine FC.ofT (cx := cxQ gl 45 pu hp) (rs := [.cell 7 23]) rfl Tryd.func44 rfl rfl rfl (by simp only [List.length_cons, List.length_nil]; decide) (by simp only [go_sem]) (rowT_nr seed _) ?_
 simp only [ini, go_sem]
 have m := True.intro
 have hy := True.intro
 have htl := True.intro
 refine Tr.w hcx [] _ [none, none] rfl rfl rfl ?_ X_fc44z
 refine Tr.k [0, 2, 3, 4, 6, 7] ?_
 refine Tr.seqK fun K1 hK1 => ?_
 by_cases m : (0, k) ∈ M
 ·
  have m0 := m
  replace m := eq_true m
  have hbd : BdK (0, k) := bd_lk (by omega)
  refine Tr.kfix hcx (by decide) ?_
  have el := look_T (cx := (⟨Tryd.prog, 45, gl, pu, hp, fun _ => false, kmS⟩ : Cx)) rfl rfl (seed := seed) (x := (0, k)) (M := M) (h := [some (mapC (ents seed (M))), some (cl bC (List.replicate 16 0)), none]) (b := 0) rfl m0 nd
  have hv : vis 0 k M = M := if_pos m0
  have htl := treeT_len seed 0 k
  have hy := @el
  refine Tr.w hcx [1000018] _ [none] rfl rfl rfl ?_ X_fc44z
  refine Tr.k [0, 2, 3, 4, 6, 7, 8, 9] ?_
  have hy := True.intro
  refine Tr.w hcx [] _ [] rfl rfl rfl ?_ X_fc44z
  refine Tr.k [0, 2, 3, 4, 6, 7, 8, 19] ?_
  refine Tr.cT rfl ?_
  refine Tr.w hcx [] _ [] rfl rfl rfl ?_ X_fc44z
  refine Tr.k [7] ?_
  exact Tr.ret F_fc44z
 have m0 := m
 replace m := eq_false m
 have hbd : BdK (0, k) := bd_lk (by omega)
 refine Tr.kfix hcx (by decide) ?_
 have el := look_F (cx := (⟨Tryd.prog, 45, gl, pu, hp, fun _ => false, kmS⟩ : Cx)) rfl rfl (seed := seed) (x := (0, k)) (M := M) (h := [some (mapC (ents seed (M))), some (cl bC (List.replicate 16 0)), none]) (b := 0) rfl m0 nd hbd
 have htl := treeT_len seed 0 k
 have hv : vis 0 k M = M ++ [(0, k)] := if_neg m0
 have hvl : (leafT seed k).length = 16 := treeT_len seed 0 k
 have hy := @el
 refine Tr.w hcx [1000018] _ [none] rfl rfl rfl ?_ X_fc44z
 refine Tr.k [0, 2, 3, 4, 6, 7, 8, 9] ?_
 have hy := True.intro
 refine Tr.w hcx [] _ [] rfl rfl rfl ?_ X_fc44z
 refine Tr.k [0, 2, 3, 4, 6, 7, 8, 19] ?_
 refine Tr.cF rfl ?_
 refine Tr.skip ?_
 refine hK1 _ ?_
 refine Tr.k [0, 2, 3, 4, 6, 7] ?_
 refine Tr.w hcx [] _ [none] rfl rfl rfl ?_ X_fc44z
 refine Tr.k [0, 2, 3, 4, 6, 7, 10] ?_
 refine Tr.seqK fun K2 hK2 => ?_
 refine Tr.w hcx [] _ [] rfl rfl rfl ?_ X_fc44z
 refine Tr.k [0, 2, 3, 4, 6, 7, 10, 22] ?_
 refine Tr.cT rfl ?_
 have e38 := h38 seed k hs hk
 have hy := @e38
 refine Tr.v hcx [] _ [] rfl rfl rfl ?_ X_fc44z
 refine hK2 _ ?_
 refine Tr.k [0, 2, 6, 7, 10] ?_
 refine Tr.seqK fun K3 hK3 => ?_
 have hnd2 := nd
 have hn2 : (0, k) ∉ M := m0
 have ep : mputF (⟨Tryd.prog, 45, gl, pu, hp, fun _ => false, kmS⟩ : Cx) 73 0 (keyT (0, k)) (.agg (cl bC (leafT seed k))) [some (mapC (ents seed (M))), some (cl bC (List.replicate 16 0)), some (cl bC (List.replicate 16 0)), some (cl bC (leafT seed k))] = some (.val undef, [some (mapC (ents seed (M ++ [(0, k)]))), some (cl bC (List.replicate 16 0)), some (cl bC (List.replicate 16 0)), some (cl bC (leafT seed k))]) := put_F (cx := (⟨Tryd.prog, 45, gl, pu, hp, fun _ => false, kmS⟩ : Cx)) rfl rfl (seed := seed) (x := (0, k)) (M := M) (h := [some (mapC (ents seed (M))), some (cl bC (List.replicate 16 0)), some (cl bC (List.replicate 16 0)), some (cl bC (leafT seed k))]) (b := 0) rfl hn2 hnd2 hbd
 refine Tr.rg hcx [] _ [] rfl rfl rfl ?_
 simp -implicitDefEqProofs (disch := first | omega | (simp only [go_sem, lA, lD, lT, htl, treeT_len, leafT_len, nodT_len] <;> omega) | decide) only [go_sem, ↓reduceIte, Nat.reduceEqDiff, reduceCtorEq, Nat.reduceLT, Nat.reduceBEq, Nat.reduceAdd, m, ep]
 refine hK3 _ ?_
 refine Tr.k [7, 10] ?_
 have hy := True.intro
 refine Tr.w hcx [] _ [] rfl rfl rfl ?_ X_fc44z
 refine Tr.k [7] ?_
 exact Tr.ret F_fc44z
theorem X_fc44s {p : Prop} (e : p := by intro KZ hZ; simp -implicitDefEqProofs (disch := first | omega | (simp only [go_sem, lA, lD, lT, htl, treeT_len, leafT_len, nodT_len] <;> omega) | decide) only [go_sem, ↓reduceIte, Nat.reduceEqDiff, reduceCtorEq, Nat.reduceLT, Nat.reduceBEq, Nat.reduceAdd, Nat.add_one_ne_zero, Nat.succ_ne_zero, Nat.add_sub_cancel, m, hy]; exact hZ) : p := e
theorem Y_fc44s {p : Prop} (e : p := by intro KZ hZ; simp -implicitDefEqProofs (disch := first | omega | (simp only [go_sem, lA, lD, lT, htl, treeT_len, leafT_len, nodT_len] <;> omega) | decide) only [go_sem, ↓reduceIte, Nat.reduceEqDiff, reduceCtorEq, Nat.reduceLT, Nat.reduceBEq, Nat.reduceAdd, Nat.add_one_ne_zero, Nat.succ_ne_zero, Nat.add_sub_cancel, m, hy]; refine And.intro ?_ hZ; exact rfl) : p := e
theorem F_fc44s {p : Prop} (e : p := by simp -implicitDefEqProofs (disch := first | omega | (simp only [go_sem, lA, lD, lT, htl, treeT_len, leafT_len, nodT_len] <;> omega) | decide) only [go_sem, ↓reduceIte, Nat.reduceEqDiff, reduceCtorEq]; all_goals (first | (rw [hv]; done) | (refine ⟨rfl, ?_⟩; rw [hv]; done))) : p := e
theorem fc44s {gl : Nat → C} {M0 : Nat} {pu : Nat → List C → Option C} {hp : Nat → List C → Hp → Option (C × Hp)} (hcx : CxOK (cxQ gl M0 pu hp)) (seed : List UInt8) (l : Nat) (d k : Nat) (M : List (Nat × Nat)) (nd : OkM M) (hk : (k + 1) * 2 ^ (l + 1) ≤ 1000000 ∧ l < 20) (hs : seed.length ≤ 1000000)  (hnr : ∀ (g : Nat) (xs : List C), noRefs 0 xs = false → pu g xs = none) (hq44 : ∀ (M : List (Nat × Nat)) (k : Nat) (suf : Hp), OkM M → (k + 1) * 2 ^ l ≤ 1000000 → (∀ o ∈ suf, okBox o = true) → hp 44 [.val (nI l), .val (nI k), .kp [.mp 0], .kp [.val (str seed)], atK 0 seed d] ([some (mapC (ents seed (M)))] ++ suf) = some (.agg (cl bC (treeT seed l k)), [some (mapC (ents seed (vis l k M)))] ++ suf)) (h40 : ∀ a b : List UInt8, a.length = 16 → b.length = 16 → pu 40 [.agg (cl bC a), .agg (cl bC b)] = some (.agg (cl bC (nodT a b)))) : FC Tryd.prog gl 44 [.val (nI (l + 1)), .val (nI k), .kp [.mp 0], .kp [.val (str seed)], atK 0 seed (d + 1)] [some (mapC (ents seed (M)))] (.agg (cl bC (treeT seed (l + 1) k))) [some (mapC (ents seed (vis (l + 1) k M)))] := by
 replace hcx := hcx.reN (M := 45)
 refine FC.ofT (cx := cxQ gl 45 pu hp) (rs := [.cell 7 23]) rfl Tryd.func44 rfl rfl rfl (by simp only [List.length_cons, List.length_nil]; decide) (by simp only [go_sem]) (rowT_nr seed _) ?_
 simp only [ini, go_sem]
 have m := True.intro
 have hy := True.intro
 have htl := True.intro
 refine Tr.w hcx [] _ [none, none] rfl rfl rfl ?_ X_fc44s
 refine Tr.k [0, 2, 3, 4, 6, 7] ?_
 refine Tr.seqK fun K1 hK1 => ?_
 by_cases m : (l + 1, k) ∈ M
 ·
  have m0 := m
  replace m := eq_true m
  have hbd : BdK (l + 1, k) := bd_lk hk.1
  refine Tr.kfix hcx (by decide) ?_
  have el := look_T (cx := (⟨Tryd.prog, 45, gl, pu, hp, fun _ => false, kmS⟩ : Cx)) rfl rfl (seed := seed) (x := (l + 1, k)) (M := M) (h := [some (mapC (ents seed (M))), some (cl bC (List.replicate 16 0)), none]) (b := 0) rfl m0 nd
  have hv : vis (l + 1) k M = M := if_pos m0
  have htl := treeT_len seed (l + 1) k
  have hy := @el
  refine Tr.w hcx [1000018] _ [none] rfl rfl rfl ?_ X_fc44s
  refine Tr.k [0, 2, 3, 4, 6, 7, 8, 9] ?_
  have hy := True.intro
  refine Tr.w hcx [] _ [] rfl rfl rfl ?_ X_fc44s
  refine Tr.k [0, 2, 3, 4, 6, 7, 8, 19] ?_
  refine Tr.cT rfl ?_
  refine Tr.w hcx [] _ [] rfl rfl rfl ?_ X_fc44s
  refine Tr.k [7] ?_
  exact Tr.ret F_fc44s
 have m0 := m
 replace m := eq_false m
 have hbd : BdK (l + 1, k) := bd_lk hk.1
 refine Tr.kfix hcx (by decide) ?_
 have el := look_F (cx := (⟨Tryd.prog, 45, gl, pu, hp, fun _ => false, kmS⟩ : Cx)) rfl rfl (seed := seed) (x := (l + 1, k)) (M := M) (h := [some (mapC (ents seed (M))), some (cl bC (List.replicate 16 0)), none]) (b := 0) rfl m0 nd hbd
 have htl := treeT_len seed (l + 1) k
 have hv : vis (l + 1) k M = vis l (2 * k + 1) (vis l (2 * k) M) ++ [(l + 1, k)] := if_neg m0
 have hvl : ((nodT (treeT seed l (2 * k)) (treeT seed l (2 * k + 1)))).length = 16 := treeT_len seed (l + 1) k
 have hy := @el
 refine Tr.w hcx [1000018] _ [none] rfl rfl rfl ?_ X_fc44s
 refine Tr.k [0, 2, 3, 4, 6, 7, 8, 9] ?_
 have hy := True.intro
 refine Tr.w hcx [] _ [] rfl rfl rfl ?_ X_fc44s
 refine Tr.k [0, 2, 3, 4, 6, 7, 8, 19] ?_
 refine Tr.cF rfl ?_
 refine Tr.skip ?_
 refine hK1 _ ?_
 refine Tr.k [0, 2, 3, 4, 6, 7] ?_
 refine Tr.w hcx [] _ [none] rfl rfl rfl ?_ X_fc44s
 refine Tr.k [0, 2, 3, 4, 6, 7, 10] ?_
 refine Tr.seqK fun K2 hK2 => ?_
 refine Tr.w hcx [] _ [] rfl rfl rfl ?_ X_fc44s
 refine Tr.k [0, 2, 3, 4, 6, 7, 10, 22] ?_
 refine Tr.cF rfl ?_
 have hp1 : (2 * k + 1) * 2 ^ l ≤ 1000000 := Nat.le_trans (Nat.mul_le_mul_right (2 ^ l) (Nat.le_succ (2 * k + 1))) (pow_halfT hk.1)
 have hp2 : (2 * k + 1 + 1) * 2 ^ l ≤ 1000000 := pow_halfT hk.1
 have hk64 : k < 1000000 := by have := hk.1; have h1 : 1 ≤ 2 ^ (l + 1) := Nat.one_le_two_pow; have h2 : (k + 1) * 1 ≤ (k + 1) * 2 ^ (l + 1) := Nat.mul_le_mul_left _ h1; omega
 have hl20 := hk.2
 have e44a := hq44 M (2 * k) [some (cl bC (List.replicate 16 0)), some (cl bC (List.replicate 16 0)), some (cl bC (List.replicate 16 0))] nd hp1 (okS _ _ _)
 have e44b := hq44 (vis l (2 * k) M) (2 * k + 1) [some (cl bC (List.replicate 16 0)), some (cl bC (List.replicate 16 0)), some (cl bC (List.replicate 16 0))] (vis_ok hp1 nd) hp2 (okS _ _ _)
 simp only [List.cons_append, List.nil_append] at e44a e44b
 have en44 : ∀ j, pu 44 [.val (nI l), .val (nI j), .kp [.mp 0], .kp [.val (str seed)], atK 0 seed d] = none := fun j => hnr 44 _ rfl
 have e40 := h40 _ _ (treeT_len seed l (2 * k)) (treeT_len seed l (2 * k + 1))
 have hy := And.intro @atK_S (And.intro @e44a (And.intro @e44b (And.intro @en44 @e40)))
 refine Tr.vD hcx hMOQ [] _ [] rfl rfl rfl rfl ?_ Y_fc44s
 refine hK2 _ ?_
 refine Tr.k [0, 2, 6, 7, 10] ?_
 refine Tr.seqK fun K3 hK3 => ?_
 have hnd2 : OkM (vis l (2 * k + 1) (vis l (2 * k) M)) := vis_ok (pow_halfT hk.1) (vis_ok (Nat.le_trans (Nat.mul_le_mul_right (2 ^ l) (Nat.le_succ (2 * k + 1))) (pow_halfT hk.1)) nd)
 have hn2 : (l + 1, k) ∉ vis l (2 * k + 1) (vis l (2 * k) M) := vis_new l k M m0
 have ep : mputF (⟨Tryd.prog, 45, gl, pu, hp, fun _ => false, kmS⟩ : Cx) 73 0 (keyT (l + 1, k)) (.agg (cl bC ((nodT (treeT seed l (2 * k)) (treeT seed l (2 * k + 1)))))) [some (mapC (ents seed (vis l (2 * k + 1) (vis l (2 * k) M)))), some (cl bC (List.replicate 16 0)), some (cl bC (List.replicate 16 0)), some (cl bC ((nodT (treeT seed l (2 * k)) (treeT seed l (2 * k + 1)))))] = some (.val undef, [some (mapC (ents seed (vis l (2 * k + 1) (vis l (2 * k) M) ++ [(l + 1, k)]))), some (cl bC (List.replicate 16 0)), some (cl bC (List.replicate 16 0)), some (cl bC ((nodT (treeT seed l (2 * k)) (treeT seed l (2 * k + 1)))))]) := put_F (cx := (⟨Tryd.prog, 45, gl, pu, hp, fun _ => false, kmS⟩ : Cx)) rfl rfl (seed := seed) (x := (l + 1, k)) (M := vis l (2 * k + 1) (vis l (2 * k) M)) (h := [some (mapC (ents seed (vis l (2 * k + 1) (vis l (2 * k) M)))), some (cl bC (List.replicate 16 0)), some (cl bC (List.replicate 16 0)), some (cl bC ((nodT (treeT seed l (2 * k)) (treeT seed l (2 * k + 1)))))]) (b := 0) rfl hn2 hnd2 hbd
 refine Tr.rg hcx [] _ [] rfl rfl rfl ?_
 simp -implicitDefEqProofs (disch := first | omega | (simp only [go_sem, lA, lD, lT, htl, treeT_len, leafT_len, nodT_len] <;> omega) | decide) only [go_sem, ↓reduceIte, Nat.reduceEqDiff, reduceCtorEq, Nat.reduceLT, Nat.reduceBEq, Nat.reduceAdd, m, ep]
 refine hK3 _ ?_
 refine Tr.k [7, 10] ?_
 have hy := True.intro
 refine Tr.w hcx [] _ [] rfl rfl rfl ?_ X_fc44s
 refine Tr.k [7] ?_
 exact Tr.ret F_fc44s
end Go.Sx
