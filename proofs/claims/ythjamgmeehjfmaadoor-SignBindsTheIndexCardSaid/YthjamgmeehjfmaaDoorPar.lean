/-
  Package sign: the specification's leaves. And what follows.
-/
import Derived.Test.YthjamgmeehjfmaaDoorPaq
import Derived.Test.YthjamgmeehjfmaaDoorPam
set_option linter.unusedSimpArgs false
set_option linter.unusedVariables false
namespace Go.Sx
open Go.RowKit Go.Proofs
set_option maxRecDepth 100000
set_option maxHeartbeats 8000000
theorem lay1str (a : List UInt8) : lay1s 1 (cl sC [[]]) [(0, C.val (str a))] = some (vp (sl sC .full [a])) := rfl
theorem X_fc46 {p : Prop} (e : p := by intro KZ hZ; simp -implicitDefEqProofs (disch := first | omega | (simp only [go_sem, lA, lD, lT, hcl, ofT_len] <;> omega) | decide) only [go_sem, ↓reduceIte, Nat.reduceEqDiff, reduceCtorEq, Nat.reduceLT, Nat.reduceBEq, Nat.reduceAdd, hy]; exact hZ) : p := e
theorem F_fc46 {p : Prop} (e : p := by simp -implicitDefEqProofs (disch := first | omega | (simp only [go_sem, lA, lD, lT, hcl, ofT_len] <;> omega) | decide) only [go_sem, ↓reduceIte, Nat.reduceEqDiff, reduceCtorEq]; all_goals (rfl)) : p := e
theorem fc46 {gl : Nat → C} {M : Nat} {pu : Nat → List C → Option C}  (hcx : CxOK (cxP gl M pu))  (h33 : ∀ (seed : List UInt8) (i c : Nat), seed.length ≤ 1000000 → i < 1000000 ∧ c < 1000000 → pu 33 [.val (str seed), .val (nI i), .val (nI c)] = some (.agg (cl bC (staT seed i c)))) (h32 : ∀ (i c f t : Nat) (v : List UInt8), v.length = 16 → i < 1000000 ∧ c < 1000000 ∧ f < 1000000 ∧ t < 1000000 → pu 32 [.val (nI i), .val (nI c), .val (nI f), .val (nI t), .agg (cl bC v)] = some (.agg (cl bC (advT i c f v (t - f))))) (h31 : ∀ h : List UInt8, h.length = 16 → pu 31 [.agg (cl bC h)] = some (.val (str h))) (h35 : ∀ (tag : Int) (parts : List (List UInt8)), (inp tag parts).length < 1099511627776 → pu 35 [.val (.int .i64 tag), sl sC .no parts] = some (.agg (cl bC (ofT tag parts)))) (seed : List UInt8) (i : Nat) (hs : seed.length ≤ 1000000) (hb : i < 1000000) : FC Tryd.prog gl 46 [.val (str seed), .val (nI i)] [] (.agg (cl bC (leafT seed i))) [] := by
 replace hcx := hcx.reN (M := 29)
 refine FC.ofA (cx := cxP gl 29 pu) (rs := [.cell 4 23]) rfl Tryd.func46 rfl rfl rfl (by simp only [List.length_cons, List.length_nil]; decide) (by simp only [go_sem]) ?_
 simp only [ini, go_sem]
 have hy := True.intro
 have hcl := fun n => catV_len (topT_len seed i) n
 have hln := ofT_len
 refine Tr.w hcx [] _ [none] rfl rfl rfl ?_ X_fc46
 refine Tr.w hcx [] _ [] rfl rfl rfl ?_ X_fc46
 refine Tr.seqK fun K1 hK1 => ?_
 refine Tr.w hcx [] _ [] rfl rfl rfl ?_ X_fc46
 refine Tr.k [0, 1, 4, 5, 6] ?_
 refine Tr.blk ?_
 refine Tr.loopI (α := Nat) (fun a => [(0, ?v0_1), (1, ?v1_1), (4, ?v4_1), (5, .val (str (catV (topT seed i) a))), (6, .val (nI a))]) (fun a => [some (cl bC (List.replicate 16 0))]) (fun a => a ≤ 68) (fun a => 68 - a) (0) (Nat.zero_le _) ?le_1 ?hh_1 ?bd_1
 case hh_1 => exact rfl
 case le_1 => exact LT
 rintro c hc
 refine Tr.seqK fun K2 hK2 => ?_
 refine Tr.w hcx [] _ [] rfl rfl rfl ?_ X_fc46
 refine Tr.cD rfl (fun hc9 => ?_) (fun hc9 => ?_)
 ·
  have e1 := h33 seed i c hs ⟨hb, by omega⟩
  have e2 : pu 32 [.val (nI i), .val (nI c), .val (nI 0), .val (nI 3), .agg (cl bC (staT seed i c))] = some (.agg (cl bC (topT seed i c))) := h32 i c 0 3 _ (staT_len seed i c) ⟨hb, by omega, by omega, by omega⟩
  have e3 := h31 _ (topT_len seed i c)
  have hlc := hcl c
  have hlt := topT_len seed i c
  refine Tr.skip ?_
  refine hK2 _ ?_
  refine Tr.seqK fun K3 hK3 => ?_
  refine Tr.blk ?_
  have hy := And.intro @e1 (And.intro @e2 @e3)
  refine Tr.v hcx [1000021] _ [] rfl rfl rfl ?_ X_fc46
  refine hK3 _ ?_
  have hy := True.intro
  refine Tr.v hcx [1000011] _ [] rfl rfl rfl ?_ X_fc46
  exact ⟨c + 1, ⟨by omega, O1⟩, LT, rfl⟩
 obtain rfl : c = 68 := by omega
 have hlc := hcl 68
 have e4 : pu 35 [.val (nI 2), sl sC .no [catV (topT seed i) 68]] = some (.agg (cl bC (ofT 2 [catV (topT seed i) 68]))) := h35 2 _ (inp_len1 _ _ (by omega))
 have e5 := h31 _ (ofT_len 2 [catV (topT seed i) 68])
 have hl2 := ofT_len 2 [catV (topT seed i) 68]
 have e6 : pu 35 [.val (nI 3), sl sC .no [ofT 2 [catV (topT seed i) 68]]] = some (.agg (cl bC (leafT seed i))) := h35 3 _ (inp_len1 _ _ (by omega))
 have hl3 := leafT_len seed i
 refine Tr.exit ?_
 refine hK1 _ ?_
 have hy := And.intro @e4 @lay1str
 refine Tr.w hcx [] _ [none] rfl rfl rfl ?_ X_fc46
 have hy := And.intro @e5 (And.intro @e6 @lay1str)
 refine Tr.w hcx [] _ [] rfl rfl rfl ?_ X_fc46
 exact Tr.ret F_fc46
end Go.Sx
namespace Go.Sx
open Go.RowKit Go.Proofs
set_option maxRecDepth 100000
set_option maxHeartbeats 8000000
def treeD (seed : List UInt8) (l k : Nat) : Dig := ⟨treeT seed l k, treeT_len seed l k⟩
def rowD (seed : List UInt8) (l n : Nat) : List Dig := (List.range n).map (treeD seed l)
theorem rowD_len (seed : List UInt8) (l n : Nat) : (rowD seed l n).length = n := by simp [rowD]
theorem rowD_S (seed : List UInt8) (l n : Nat) : rowD seed l (n + 1) = rowD seed l n ++ [treeD seed l n] := by unfold rowD; rw [List.range_succ, List.map_append]; rfl
theorem rowD_gt (seed : List UInt8) (l n k : Nat) (h : k < n) : gt (rowD seed l n) k = treeD seed l k := by
  simp [rowD, gt, List.getD, List.getElem?_eq_getElem, h]
def lvl (seed : List UInt8) (h n : Nat) : List (List Dig) := (List.range n).map fun l => rowD seed l (2 ^ (h - l))
theorem lvl_len (seed : List UInt8) (h n : Nat) : (lvl seed h n).length = n := by simp [lvl]
theorem lvl_S (seed : List UInt8) (h n : Nat) : lvl seed h (n + 1) = lvl seed h n ++ [rowD seed n (2 ^ (h - n))] := by unfold lvl; rw [List.range_succ, List.map_append]; rfl
theorem lvl_gt (seed : List UInt8) (h n l : Nat) (hl : l < n) : gt (lvl seed h n) l = rowD seed l (2 ^ (h - l)) := by
  simp [lvl, gt, List.getD, List.getElem?_eq_getElem, hl]
theorem i_shl (P : Program) (t : TypeId) (x n : Nat) (h : x * 2 ^ n < 9223372036854775808) (hn : n ≤ 64) : binPlan P .shl t (.val (nI x)) (.val (nI n)) = some (vp (.val (nI (x * 2 ^ n)))) := by
  rw [nI, nI, bin_int]
  have e : sbin .shl (.int .i64 (x : Int)) (.int .i64 (n : Int)) = some (.int .i64 (IntKind.wrap .i64 ((x : Int) * 2 ^ (min n 64)))) := by
    show (if (n : Int) < 0 then none else _) = _
    rw [if_neg (by omega)]
    rfl
  have ep : (x : Int) * 2 ^ n = ((x * 2 ^ n : Nat) : Int) := by rw [Int.natCast_mul, Int.natCast_pow]; rfl
  rw [e, Nat.min_eq_left hn, ep, wrap_i64 _ (by omega) (by omega)]; rfl
theorem noRefs_lD (k : Nat) : ∀ l : List (List Dig), noRefs k (cl (lC dC) l) = true
  | [] => rfl
  | a :: l => by
    rw [cl_cons]
    show (noRef k (sl dC .no a) && noRefs k (cl (lC dC) l)) = true
    rw [noRefs_lD k l, noRef_sl]; rfl
theorem noRef_lD (k : Nat) (r : Rt) (l : List (List Dig)) : noRef k (sl (lC dC) r l) = true := noRefs_lD k l
attribute [local go_sem high] noRef_lD
theorem pow_half {h l : Nat} (hl : l < h) : 2 ^ (h - l) = 2 * 2 ^ (h - (l + 1)) := by
  rw [show h - l = (h - (l + 1)) + 1 by omega, Nat.pow_succ, Nat.mul_comm]
theorem pow_64 {h : Nat} (hh : h ≤ 6) : ∀ l, 2 ^ (h - l) ≤ 64 := fun l => Nat.pow_le_pow_right (by decide) (show h - l ≤ 6 by omega)
theorem pow_pos2 (n : Nat) : 0 < 2 ^ n := Nat.pow_pos (by decide)
theorem X_fc24 {p : Prop} (e : p := by intro KZ hZ; simp -implicitDefEqProofs (disch := first | omega | (simp only [go_sem, lA, lD, lT, rowD_len, lvl_len, leafT_len, nodT_len] <;> omega) | decide) only [go_sem, ↓reduceIte, Nat.reduceEqDiff, reduceCtorEq, Nat.reduceLT, Nat.reduceBEq, Nat.reduceAdd, i_shl, Nat.one_mul, hy]; exact hZ) : p := e
theorem Y_fc24 {p : Prop} (e : p := by intro KZ hZ; simp -implicitDefEqProofs (disch := first | omega | (simp only [go_sem, lA, lD, lT, rowD_len, lvl_len, leafT_len, nodT_len] <;> omega) | decide) only [go_sem, ↓reduceIte, Nat.reduceEqDiff, reduceCtorEq, Nat.reduceLT, Nat.reduceBEq, Nat.reduceAdd, i_shl, Nat.one_mul, hy]; refine And.intro ?_ hZ; exact rfl) : p := e
theorem F_fc24 {p : Prop} (e : p := by simp -implicitDefEqProofs (disch := first | omega | (simp only [go_sem, lA, lD, lT, rowD_len, lvl_len, leafT_len, nodT_len] <;> omega) | decide) only [go_sem, ↓reduceIte, Nat.reduceEqDiff, reduceCtorEq]; all_goals (rfl)) : p := e
theorem fc24 {gl : Nat → C} {M : Nat} {pu : Nat → List C → Option C}  (hcx : CxOK (cxP gl M pu))  (h46 : ∀ (seed : List UInt8) (i : Nat), seed.length ≤ 1000000 → i < 1000000 → pu 46 [.val (str seed), .val (nI i)] = some (.agg (cl bC (leafT seed i)))) (h43 : ∀ a b : List UInt8, a.length = 16 → b.length = 16 → pu 43 [.agg (cl bC a), .agg (cl bC b)] = some (.agg (cl bC (nodT a b)))) (seed : List UInt8) (h : Nat) (hs : seed.length ≤ 1000000) (hh : h ≤ 6) : FC Tryd.prog gl 24 [.val (str seed), .val (nI h)] [] (sl (lC dC) (.own 1) (lvl seed h (h + 1))) [] := by
 replace hcx := hcx.reN (M := 64)
 refine FC.ofA (cx := cxP gl 64 pu) (rs := [.tmp 4]) rfl Tryd.func24 rfl rfl rfl (by simp only [List.length_cons, List.length_nil]; decide) (by simp only [go_sem]) ?_
 simp only [ini, go_sem]
 have hy := True.intro
 have hp := pow_64 hh
 have hp0 := hp 0
 rw [Nat.sub_zero] at hp0
 have hpp := pow_pos2 h
 refine Tr.w hcx [] _ [] rfl rfl rfl ?_ X_fc24
 refine Tr.w hcx [] _ [] rfl rfl rfl ?_ X_fc24
 refine Tr.seqK fun K1 hK1 => ?_
 refine Tr.w hcx [] _ [] rfl rfl rfl ?_ X_fc24
 refine Tr.k [0, 1, 5, 6] ?_
 refine Tr.blk ?_
 refine Tr.loopI (α := Nat) (fun a => [(0, ?v0_1), (1, ?v1_1), (5, sl dC (.own 16) (rowD seed 0 a)), (6, .val (nI a))]) (fun a => ?h_1) (fun a => a ≤ 2 ^ h) (fun a => 2 ^ h - a) (0) (Nat.zero_le _) ?le_1 ?hh_1 ?bd_1
 case hh_1 => exact rfl
 case le_1 => (simp only [Le_nil, Le_cons, ↓A_cons, ↓reduceIte, Nat.reduceEqDiff, CLe_refl, CLe_top, CLe_full, CLe_nil, CLe_own, and_true, true_and]; all_goals (repeat' first | exact CLe.refl _ | exact True.intro | (refine CLe_sln ?_; first | rfl | (simp only [List.take_zero]; done)) | exact CLe_nI (by omega) | exact CLe_int (by omega) | exact CLe_inI (by omega) | exact CLe_nIi (by omega) | with_reducible apply And.intro)); all_goals first | exact CLe.refl _ | exact CLe_sln rfl
 rintro i hi
 refine Tr.seqK fun K2 hK2 => ?_
 refine Tr.w hcx [] _ [] rfl rfl rfl ?_ X_fc24
 refine Tr.cD rfl (fun hc14 => ?_) (fun hc14 => ?_)
 ·
  have e1 := h46 seed i hs (by omega)
  have hlf := leafT_len seed i
  refine Tr.skip ?_
  refine hK2 _ ?_
  refine Tr.seqK fun K3 hK3 => ?_
  refine Tr.blk ?_
  have hy := @e1
  refine Tr.v hcx [17, 1000022] _ [] rfl rfl rfl ?_ X_fc24
  refine hK3 _ ?_
  have hy := True.intro
  refine Tr.v hcx [1000016] _ [] rfl rfl rfl ?_ X_fc24
  refine ⟨i + 1, ⟨by omega, O1⟩, ?_, rfl⟩
  (simp only [Le_nil, Le_cons, ↓A_cons, ↓reduceIte, Nat.reduceEqDiff, CLe_refl, CLe_top, CLe_full, CLe_nil, CLe_own, and_true, true_and]; all_goals (repeat' first | exact CLe.refl _ | exact True.intro | (refine CLe_sln ?_; first | rfl | (simp only [List.take_zero]; done)) | exact CLe_nI (by omega) | exact CLe_int (by omega) | exact CLe_inI (by omega) | exact CLe_nIi (by omega) | with_reducible apply And.intro))
  all_goals first | exact CLe.refl _ | (rw [rowD_S]; exact CLe.refl _)
 obtain rfl : i = 2 ^ h := by omega
 refine Tr.exit ?_
 refine hK1 _ ?_
 refine Tr.w hcx [1000024] _ [] rfl rfl rfl ?_ X_fc24
 refine Tr.seqK fun K4 hK4 => ?_
 refine Tr.w hcx [] _ [] rfl rfl rfl ?_ X_fc24
 refine Tr.k [1, 7, 8] ?_
 refine Tr.blk ?_
 refine Tr.loopI (α := Nat) (fun a => [(1, ?v1_2), (7, sl (lC dC) (.own 1) (lvl seed h (a + 1))), (8, .val (nI a))]) (fun a => ?h_2) (fun a => a ≤ h) (fun a => h - a) (0) (Nat.zero_le _) ?le_2 ?hh_2 ?bd_2
 case hh_2 => exact rfl
 case le_2 => (simp only [Le_nil, Le_cons, ↓A_cons, ↓reduceIte, Nat.reduceEqDiff, CLe_refl, CLe_top, CLe_full, CLe_nil, CLe_own, and_true, true_and]; all_goals (repeat' first | exact CLe.refl _ | exact True.intro | (refine CLe_sln ?_; first | rfl | (simp only [List.take_zero]; done)) | exact CLe_nI (by omega) | exact CLe_int (by omega) | exact CLe_inI (by omega) | exact CLe_nIi (by omega) | with_reducible apply And.intro)); all_goals first | exact CLe.refl _ | exact CLe_slf rfl
 rintro l hl
 refine Tr.seqK fun K5 hK5 => ?_
 refine Tr.w hcx [] _ [] rfl rfl rfl ?_ X_fc24
 refine Tr.cD rfl (fun hc27 => ?_) (fun hc27 => ?_)
 ·
  have hgl := lvl_gt seed h (l + 1) l (by omega)
  have hpl := hp l
  have hph := pow_half hc27
  have hpn := pow_pos2 (h - (l + 1))
  refine Tr.skip ?_
  refine hK5 _ ?_
  refine Tr.seqK fun K6 hK6 => ?_
  refine Tr.blk ?_
  refine Tr.w hcx [] _ [] rfl rfl rfl ?_ X_fc24
  refine Tr.seqK fun K7 hK7 => ?_
  refine Tr.w hcx [] _ [] rfl rfl rfl ?_ X_fc24
  refine Tr.k [1, 7, 8, 9, 10] ?_
  refine Tr.blk ?_
  refine Tr.loopI (α := Nat) (fun a => [(1, ?v1_3), (7, ?v7_3), (8, ?v8_3), (9, sl dC (.own 16) (rowD seed (l + 1) a)), (10, .val (nI (2 * a)))]) (fun a => ?h_3) (fun a => a ≤ 2 ^ (h - (l + 1))) (fun a => 2 ^ (h - (l + 1)) - a) (0) (Nat.zero_le _) ?le_3 ?hh_3 ?bd_3
  case hh_3 => exact rfl
  case le_3 => (simp only [Le_nil, Le_cons, ↓A_cons, ↓reduceIte, Nat.reduceEqDiff, CLe_refl, CLe_top, CLe_full, CLe_nil, CLe_own, and_true, true_and]; all_goals (repeat' first | exact CLe.refl _ | exact True.intro | (refine CLe_sln ?_; first | rfl | (simp only [List.take_zero]; done)) | exact CLe_nI (by omega) | exact CLe_int (by omega) | exact CLe_inI (by omega) | exact CLe_nIi (by omega) | with_reducible apply And.intro)); all_goals first | exact CLe.refl _ | exact CLe_sln rfl
  rintro m hm
  refine Tr.seqK fun K8 hK8 => ?_
  have hy := @hgl
  refine Tr.w hcx [] _ [] rfl rfl rfl ?_ X_fc24
  refine Tr.cD rfl (fun hc37 => ?_) (fun hc37 => ?_)
  ·
   rw [rowD_len] at hc37
   have e2 := h43 (treeT seed l (2 * m)) (treeT seed l (2 * m + 1)) (treeT_len _ _ _) (treeT_len _ _ _)
   have hg1 := rowD_gt seed l (2 ^ (h - l)) (2 * m) (by omega)
   have hg2 := rowD_gt seed l (2 ^ (h - l)) (2 * m + 1) (by omega)
   have hln := treeT_len seed (l + 1) m
   have htd : ∀ k, (treeD seed l k).1 = treeT seed l k := fun k => rfl
   refine Tr.skip ?_
   refine hK8 _ ?_
   refine Tr.k [1, 7, 8, 9, 10] ?_
   refine Tr.seqK fun K9 hK9 => ?_
   refine Tr.blk ?_
   have hy := And.intro @hgl (And.intro @hg1 (And.intro @hg2 (And.intro @htd @e2)))
   refine Tr.vD hcx hMO [40, 1000058] _ [] rfl rfl rfl rfl ?_ Y_fc24
   refine hK9 _ ?_
   refine Tr.k [1, 7, 8, 9, 10] ?_
   have hy := True.intro
   refine Tr.v hcx [1000039] _ [] rfl rfl rfl ?_ X_fc24
   refine ⟨m + 1, ⟨by omega, O1⟩, ?_, rfl⟩
   (simp only [Le_nil, Le_cons, ↓A_cons, ↓reduceIte, Nat.reduceEqDiff, CLe_refl, CLe_top, CLe_full, CLe_nil, CLe_own, and_true, true_and]; all_goals (repeat' first | exact CLe.refl _ | exact True.intro | (refine CLe_sln ?_; first | rfl | (simp only [List.take_zero]; done)) | exact CLe_nI (by omega) | exact CLe_int (by omega) | exact CLe_inI (by omega) | exact CLe_nIi (by omega) | with_reducible apply And.intro))
   all_goals first | exact CLe.refl _ | (rw [rowD_S]; exact CLe.refl _)
  rw [rowD_len] at hc37
  obtain rfl : m = 2 ^ (h - (l + 1)) := by omega
  refine Tr.exit ?_
  refine hK7 _ ?_
  have hy := True.intro
  refine Tr.v hcx [59, 1000062] _ [] rfl rfl rfl ?_ X_fc24
  refine hK6 _ ?_
  refine Tr.v hcx [1000029] _ [] rfl rfl rfl ?_ X_fc24
  refine ⟨l + 1, ⟨by omega, O1⟩, ?_, rfl⟩
  (simp only [Le_nil, Le_cons, ↓A_cons, ↓reduceIte, Nat.reduceEqDiff, CLe_refl, CLe_top, CLe_full, CLe_nil, CLe_own, and_true, true_and]; all_goals (repeat' first | exact CLe.refl _ | exact True.intro | (refine CLe_sln ?_; first | rfl | (simp only [List.take_zero]; done)) | exact CLe_nI (by omega) | exact CLe_int (by omega) | exact CLe_inI (by omega) | exact CLe_nIi (by omega) | with_reducible apply And.intro))
  all_goals first | exact CLe.refl _ | (rw [lvl_S seed h (l + 1)]; exact CLe.refl _)
 obtain rfl : l = h := by omega
 refine Tr.exit ?_
 refine hK4 _ ?_
 refine Tr.w hcx [1000063] _ [] rfl rfl rfl ?_ X_fc24
 exact Tr.ret F_fc24
end Go.Sx
namespace Go.Sx
open Go.RowKit Go.Proofs
def Fit (seed : List UInt8) (h : Int) : Prop := seed.length = 32 ∧ 0 ≤ h ∧ h ≤ 6
instance (seed : List UInt8) (h : Int) : Decidable (Fit seed h) := inferInstanceAs (Decidable (seed.length = 32 ∧ 0 ≤ h ∧ h ≤ 6))
def pubT (seed : List UInt8) (h : Int) : List UInt8 × Nat := if Fit seed h then (treeT seed h.toNat 0, 0) else (List.replicate 16 0, 1)
theorem pub_T {seed : List UInt8} {k : Nat} (h : Fit seed (k : Int)) : pubT seed (k : Int) = (treeT seed k 0, 0) := if_pos h
theorem pub_F {seed : List UInt8} {h : Int} (hf : ¬ Fit seed h) : pubT seed h = (List.replicate 16 0, 1) := if_neg hf
def sgR (seed : List UInt8) (i : Nat) (D : List Nat) : Nat → List UInt8
  | 0 => wint (i : Int)
  | n + 1 => sgR seed i D n ++ advT i n 0 (staT seed i n) (gt D n)
theorem sgR_len (seed : List UInt8) (i : Nat) (D : List Nat) : ∀ n, (sgR seed i D n).length = (wint (i : Int)).length + 16 * n
  | 0 => rfl
  | n + 1 => by rw [sgR, List.length_append, sgR_len seed i D n, advT_len _ _ _ (staT_len _ _ _)]; omega
def sib (j : Nat) : Nat := if j % 2 = 1 then j - 1 else j + 1
theorem sib_lt {j p : Nat} (h : j < 2 * p) : sib j < 2 * p := by unfold sib; split <;> omega
def auR (seed : List UInt8) (i : Nat) (S : List UInt8) : Nat → List UInt8
  | 0 => S
  | l + 1 => auR seed i S l ++ treeT seed l (sib (i / 2 ^ l))
theorem auR_len (seed : List UInt8) (i : Nat) (S : List UInt8) : ∀ n, (auR seed i S n).length = S.length + 16 * n
  | 0 => rfl
  | n + 1 => by rw [auR, List.length_append, auR_len seed i S n, treeT_len]; omega
def sigT (seed : List UInt8) (h i : Nat) (m : List UInt8) : List UInt8 := auR seed i (sgR seed i (digT (msgT (treeT seed h 0) (i : Int) m)) 68) h
def signT (seed : List UInt8) (h x : Int) (m : List UInt8) : List UInt8 × Nat :=
  if ¬ Fit seed h then ([], 1) else if x < 0 ∨ ((2 ^ h.toNat : Nat) : Int) ≤ x then ([], 20) else if 1048576 < m.length then ([], 4) else (sigT seed h.toNat x.toNat m, 0)
theorem sign_1 {seed : List UInt8} {h x : Int} {m : List UInt8} (hf : ¬ Fit seed h) : signT seed h x m = ([], 1) := if_pos hf
theorem sign_20 {seed : List UInt8} {k : Nat} {x : Int} {m : List UInt8} (hf : Fit seed (k : Int)) (hx : x < 0 ∨ ((2 ^ k : Nat) : Int) ≤ x) : signT seed (k : Int) x m = ([], 20) := by
  unfold signT; rw [if_neg (fun h => h hf), Int.toNat_natCast, if_pos hx]
theorem sign_4 {seed : List UInt8} {k i : Nat} {m : List UInt8} (hf : Fit seed (k : Int)) (hx : i < 2 ^ k) (hm : 1048576 < m.length) : signT seed (k : Int) (i : Int) m = ([], 4) := by
  unfold signT; rw [if_neg (fun h => h hf), Int.toNat_natCast, if_neg (by omega), if_pos hm]
theorem sign_0 {seed : List UInt8} {k i : Nat} {m : List UInt8} (hf : Fit seed (k : Int)) (hx : i < 2 ^ k) (hm : ¬ 1048576 < m.length) : signT seed (k : Int) (i : Int) m = (sigT seed k i m, 0) := by
  unfold signT; rw [if_neg (fun h => h hf), Int.toNat_natCast, if_neg (by omega), if_neg hm]; rfl
theorem digT_lt (d : List UInt8) (c : Nat) (h : c < 68) : gt (digT d) c < 4 := by
  have hm : gt (digT d) c ∈ digT d := by
    have hl : c < (digT d).length := by rw [digT_len]; exact h
    have e : gt (digT d) c = (digT d)[c] := by simp [gt, List.getD, List.getElem?_eq_getElem hl]
    rw [e]; exact List.getElem_mem hl
  generalize gt (digT d) c = x at *
  unfold digT at hm
  rw [List.mem_append] at hm
  rcases hm with hm | hm
  · obtain ⟨i, _, rfl⟩ := List.mem_map.1 hm; exact dg_lt d i
  · simp only [tl, List.mem_cons, List.not_mem_nil, or_false] at hm
    rcases hm with rfl | rfl | rfl | rfl <;> exact Nat.mod_lt _ (by decide)
end Go.Sx
namespace Go.Sx
open Go.RowKit Go.Proofs
set_option maxRecDepth 100000
set_option maxHeartbeats 8000000
attribute [local go_sem high] noRef_lD
theorem X_fc13 {p : Prop} (e : p := by intro KZ hZ; simp -implicitDefEqProofs (disch := first | omega | (simp only [go_sem, lA, lD, lT, lvl_len, rowD_len, treeT_len] <;> omega) | decide) only [go_sem, ↓reduceIte, Nat.reduceEqDiff, reduceCtorEq, Nat.reduceLT, Nat.reduceBEq, Nat.reduceAdd, b0, hy]; exact hZ) : p := e
theorem F_fc13 {p : Prop} (e : p := by simp -implicitDefEqProofs (disch := first | omega | (simp only [go_sem, lA, lD, lT, lvl_len, rowD_len, treeT_len] <;> omega) | decide) only [go_sem, ↓reduceIte, Nat.reduceEqDiff, reduceCtorEq]; all_goals (first | (rw [pub_T b0]) | (rw [pub_F b0]))) : p := e
theorem fc13 {gl : Nat → C} {M : Nat} {pu : Nat → List C → Option C}  (hcx : CxOK (cxP gl M pu))  (h23 : ∀ (seed : List UInt8) (h : Int), seed.length ≤ 1000000 → pu 23 [.val (str seed), .val (.int .i64 h)] = some (.val (.bool (decide (Fit seed h))))) (h24 : ∀ (seed : List UInt8) (h : Nat), seed.length ≤ 1000000 → h ≤ 6 → pu 24 [.val (str seed), .val (nI h)] = some (sl (lC dC) (.own 1) (lvl seed h (h + 1)))) (seed : List UInt8) (h : Int) (hs : seed.length ≤ 1000000) : FC Tryd.prog gl 13 [.val (str seed), .val (.int .i64 h)] [] (.tup [.agg (cl bC (pubT seed h).1), .val (nI (pubT seed h).2)]) [] := by
 replace hcx := hcx.reN (M := 21)
 refine FC.ofA (cx := cxP gl 21 pu) (rs := [.cell 4 23, .tmp 5]) rfl Tryd.func13 rfl rfl rfl (by simp only [List.length_cons, List.length_nil]; decide) (by simp only [go_sem]) ?_
 simp only [ini, go_sem]
 have b0 := True.intro
 have hy := True.intro
 have e23 := h23 seed h hs
 refine Tr.w hcx [] _ [none] rfl rfl rfl ?_ X_fc13
 by_cases b0 : Fit seed h
 ·
  obtain ⟨k, rfl⟩ : ∃ k : Nat, h = (k : Int) := ⟨h.toNat, by have := b0.2.1; omega⟩
  replace e23 : pu 23 [.val (str seed), .val (nI k)] = some (.val (.bool (decide (Fit seed (k : Int))))) := e23
  have hk6 : k ≤ 6 := by have := b0.2.2; omega
  have e24 := h24 seed k hs hk6
  have hg1 := lvl_gt seed k (k + 1) k (by omega)
  have hg2 : gt (rowD seed k (2 ^ (k - k))) 0 = treeD seed k 0 := rowD_gt _ _ _ _ (pow_pos2 _)
  have htd : ∀ l j, (treeD seed l j).1 = treeT seed l j := fun l j => rfl
  have hg3 : rda (cl dC (rowD seed k (2 ^ (k - k)))) 0 16 = some (.agg (cl bC (treeT seed k 0))) := by
    have q := rda_dropE (f := dC) (rowD seed k (2 ^ (k - k))) 0 (by rw [rowD_len]; exact pow_pos2 _)
    rw [hg2, Nat.zero_mul, List.drop_zero] at q; exact q
  have hpl := pow_pos2 (k - k)
  have htl := fun l j => treeT_len seed l j
  have hy := @e23
  refine Tr.w hcx [1000009] _ [] rfl rfl rfl ?_ X_fc13
  refine Tr.seqK fun K1 hK1 => ?_
  have hy := True.intro
  refine Tr.w hcx [] _ [] rfl rfl rfl ?_ X_fc13
  refine Tr.cF rfl ?_
  refine Tr.skip ?_
  refine hK1 _ ?_
  have hy := And.intro @e24 (And.intro @hg1 @hg3)
  refine Tr.w hcx [] _ [] rfl rfl rfl ?_ X_fc13
  exact Tr.ret F_fc13
 skip
 have hy := @e23
 refine Tr.w hcx [1000009] _ [] rfl rfl rfl ?_ X_fc13
 refine Tr.seqK fun K2 hK2 => ?_
 have hy := True.intro
 refine Tr.w hcx [] _ [] rfl rfl rfl ?_ X_fc13
 refine Tr.cT rfl ?_
 refine Tr.w hcx [] _ [] rfl rfl rfl ?_ X_fc13
 exact Tr.ret F_fc13
end Go.Sx
namespace Go.Sx
open Go.RowKit Go.Proofs
set_option maxRecDepth 100000
set_option maxHeartbeats 8000000
attribute [local go_sem high] noRef_lD
theorem X_fc15 {p : Prop} (e : p := by intro KZ hZ; simp -implicitDefEqProofs (disch := first | omega | (simp only [go_sem, lA, lD, lT, lvl_len, rowD_len, treeT_len, advT_len, staT_len, sgR_len, auR_len, hDl] <;> omega) | decide) only [go_sem, ↓reduceIte, Nat.reduceEqDiff, reduceCtorEq, Nat.reduceLT, Nat.reduceBEq, Nat.reduceAdd, Nat.one_mul, b0, b1, b2, y0, hy]; exact hZ) : p := e
theorem Y_fc15 {p : Prop} (e : p := by intro KZ hZ; simp -implicitDefEqProofs (disch := first | omega | (simp only [go_sem, lA, lD, lT, lvl_len, rowD_len, treeT_len, advT_len, staT_len, sgR_len, auR_len, hDl] <;> omega) | decide) only [go_sem, ↓reduceIte, Nat.reduceEqDiff, reduceCtorEq, Nat.reduceLT, Nat.reduceBEq, Nat.reduceAdd, Nat.one_mul, b0, b1, b2, y0, hy]; refine And.intro ?_ hZ; exact rfl) : p := e
theorem F_fc15 {p : Prop} (e : p := by simp -implicitDefEqProofs (disch := first | omega | (simp only [go_sem, lA, lD, lT, lvl_len, rowD_len, treeT_len, advT_len, staT_len, sgR_len, auR_len, hDl] <;> omega) | decide) only [go_sem, ↓reduceIte, Nat.reduceEqDiff, reduceCtorEq]; all_goals (first | (rw [sign_1 b0]) | (rw [sign_20 b0 (by first | exact Or.inl b1 | exact Or.inr b2)]) | (rw [sign_4 b0 hik hc33]) | (rw [sign_0 b0 hik (by omega), sigT, ← hD]))) : p := e
theorem fc15 {gl : Nat → C} {M : Nat} {pu : Nat → List C → Option C}  (hcx : CxOK (cxP gl M pu))  (h23 : ∀ (seed : List UInt8) (h : Int), seed.length ≤ 1000000 → pu 23 [.val (str seed), .val (.int .i64 h)] = some (.val (.bool (decide (Fit seed h))))) (h24 : ∀ (seed : List UInt8) (h : Nat), seed.length ≤ 1000000 → h ≤ 6 → pu 24 [.val (str seed), .val (nI h)] = some (sl (lC dC) (.own 1) (lvl seed h (h + 1)))) (h17 : ∀ (p : List UInt8) (i : Int) (m : List UInt8), p.length = 16 → (-9223372036854775808 ≤ i ∧ i ≤ 9223372036854775807) → m.length ≤ 1048576 → pu 17 [.agg (cl bC p), .val (.int .i64 i), .val (str m)] = some (.agg (cl bC (msgT p i m)))) (h11 : ∀ d : List UInt8, d.length = 16 → pu 11 [.agg (cl bC d)] = some (sl nC (.own 1) (digT d))) (h30 : ∀ n : Int, -9223372036854775808 ≤ n ∧ n ≤ 9223372036854775807 → pu 30 [.val (.int .i64 n)] = some (sl bC (.own 1) (wint n))) (h33 : ∀ (seed : List UInt8) (i c : Nat), seed.length ≤ 1000000 → i < 1000000 ∧ c < 1000000 → pu 33 [.val (str seed), .val (nI i), .val (nI c)] = some (.agg (cl bC (staT seed i c)))) (h32 : ∀ (i c f t : Nat) (v : List UInt8), v.length = 16 → i < 1000000 ∧ c < 1000000 ∧ f < 1000000 ∧ t < 1000000 → pu 32 [.val (nI i), .val (nI c), .val (nI f), .val (nI t), .agg (cl bC v)] = some (.agg (cl bC (advT i c f v (t - f))))) (h31 : ∀ h : List UInt8, h.length = 16 → pu 31 [.agg (cl bC h)] = some (.val (str h))) (seed : List UInt8) (h x : Int) (m : List UInt8) (hs : seed.length ≤ 1000000) (hx : -9223372036854775808 ≤ x ∧ x ≤ 9223372036854775807) (hm : m.length ≤ 1000000000) : FC Tryd.prog gl 15 [.val (str seed), .val (.int .i64 h), .val (.int .i64 x), .val (str m)] [] (.tup [.val (str (signT seed h x m).1), .val (nI (signT seed h x m).2)]) [] := by
 replace hcx := hcx.reN (M := 94)
 refine FC.ofA (cx := cxP gl 94 pu) (rs := [.tmp 8, .tmp 9]) rfl Tryd.func15 rfl rfl rfl (by simp only [List.length_cons, List.length_nil]; decide) (by simp only [go_sem]) ?_
 simp only [ini, go_sem]
 have b0 := True.intro
 have b1 := True.intro
 have b2 := True.intro
 have y0 := True.intro
 have hy := True.intro
 have e23 := h23 seed h hs
 have hDl := True.intro
 have hi0 := True.intro
 have hi2 := True.intro
 refine Tr.w hcx [] _ [] rfl rfl rfl ?_ X_fc15
 by_cases b0 : Fit seed h
 ·
  obtain ⟨k, rfl⟩ : ∃ k : Nat, h = (k : Int) := ⟨h.toNat, by have := b0.2.1; omega⟩
  replace e23 : pu 23 [.val (str seed), .val (nI k)] = some (.val (.bool (decide (Fit seed (k : Int))))) := e23
  have hk6 : k ≤ 6 := by have := b0.2.2; omega
  have e24 := h24 seed k hs hk6
  have hg1 := lvl_gt seed k (k + 1) k (by omega)
  have hg2 : gt (rowD seed k (2 ^ (k - k))) 0 = treeD seed k 0 := rowD_gt _ _ _ _ (pow_pos2 _)
  have htd : ∀ l j, (treeD seed l j).1 = treeT seed l j := fun l j => rfl
  have hg3 : rda (cl dC (rowD seed k (2 ^ (k - k)))) 0 16 = some (.agg (cl bC (treeT seed k 0))) := by
    have q := rda_dropE (f := dC) (rowD seed k (2 ^ (k - k))) 0 (by rw [rowD_len]; exact pow_pos2 _)
    rw [hg2, Nat.zero_mul, List.drop_zero] at q; exact q
  have hpl := pow_pos2 (k - k)
  have htl := fun l j => treeT_len seed l j
  have hp64 := pow_64 hk6 0
  rw [Nat.sub_zero] at hp64
  have hy := @e23
  refine Tr.w hcx [1000020] _ [] rfl rfl rfl ?_ X_fc15
  refine Tr.seqK fun K1 hK1 => ?_
  have hy := True.intro
  refine Tr.w hcx [] _ [] rfl rfl rfl ?_ X_fc15
  refine Tr.cF rfl ?_
  refine Tr.skip ?_
  refine hK1 _ ?_
  refine Tr.seqK fun K2 hK2 => ?_
  by_cases b1 : x < ((0 : Nat) : Int)
  ·
   have hy := And.intro @i_shl (And.intro @hi0 @hi2)
   refine Tr.w hcx [] [some 23, some 24, some 25, some 26, some 27, some 28, some 29, some 30] [] rfl rfl rfl ?_ X_fc15
   refine Tr.cT rfl ?_
   have hy := True.intro
   refine Tr.w hcx [] _ [] rfl rfl rfl ?_ X_fc15
   exact Tr.ret F_fc15
  by_cases b2 : ((2 ^ k : Nat) : Int) ≤ x
  ·
   skip
   have hy := And.intro @i_shl (And.intro @hi0 @hi2)
   refine Tr.w hcx [] [some 23, some 24, some 25, some 26, some 27, some 28, some 29, some 30] [] rfl rfl rfl ?_ X_fc15
   refine Tr.cT rfl ?_
   have hy := True.intro
   refine Tr.w hcx [] _ [] rfl rfl rfl ?_ X_fc15
   exact Tr.ret F_fc15
  obtain ⟨i, rfl⟩ : ∃ i : Nat, x = (i : Int) := ⟨x.toNat, by omega⟩
  have hik : i < 2 ^ k := by omega
  have hi0 : (i < 0) = False := by simp
  have hi2 : (2 ^ k ≤ i) = False := eq_false (by omega)
  have hwl := wintn_len i (by omega)
  have hi64 : i < 64 := by omega
  have hy := And.intro @i_shl (And.intro @hi0 @hi2)
  refine Tr.w hcx [] [some 23, some 24, some 25, some 26, some 27, some 28, some 29, some 30] [] rfl rfl rfl ?_ X_fc15
  refine Tr.cF rfl ?_
  refine Tr.skip ?_
  refine hK2 _ ?_
  refine Tr.seqK fun K3 hK3 => ?_
  have hy := True.intro
  refine Tr.w hcx [] _ [] rfl rfl rfl ?_ X_fc15
  refine Tr.cD rfl (fun hc33 => ?_) (fun hc33 => ?_)
  ·
   refine Tr.w hcx [] _ [] rfl rfl rfl ?_ X_fc15
   exact Tr.ret F_fc15
  have hml : m.length ≤ 1048576 := by omega
  have e17 : pu 17 [.agg (cl bC (treeT seed k 0)), .val (nI i), .val (str m)] = some (.agg (cl bC (msgT (treeT seed k 0) (i : Int) m))) := h17 _ (i : Int) m (treeT_len _ _ _) (by omega) hml
  have hmsl := msgT_len (treeT seed k 0) (i : Int) m
  have e11 := h11 _ hmsl
  have e30 : pu 30 [.val (nI i)] = some (sl bC (.own 1) (wint (i : Int))) := h30 (i : Int) (by omega)
  obtain ⟨D, hD⟩ : ∃ D, D = (digT (msgT (treeT seed k 0) (i : Int) m)) := ⟨_, rfl⟩
  rw [← hD] at e11
  have hDl : D.length = 68 := by rw [hD]; exact digT_len _
  have hD4 : ∀ c, c < 68 → gt D c < 4 := fun c hc => by rw [hD]; exact digT_lt _ c hc
  have hsl := sgR_len seed i D
  have hsl68 := hsl 68
  have hal := auR_len seed i (sgR seed i D 68)
  refine Tr.skip ?_
  refine hK3 _ ?_
  refine Tr.k [0, 1, 2, 3] ?_
  have hy := @e24
  refine Tr.w hcx [1000036] _ [] rfl rfl rfl ?_ X_fc15
  have hy := And.intro @hg1 (And.intro @hg3 (And.intro @e17 @e11))
  refine Tr.w hcx [1000046] _ [] rfl rfl rfl ?_ X_fc15
  have hy := @e30
  refine Tr.w hcx [1000049] _ [] rfl rfl rfl ?_ X_fc15
  refine Tr.seqK fun K4 hK4 => ?_
  have hy := True.intro
  refine Tr.w hcx [] _ [] rfl rfl rfl ?_ X_fc15
  refine Tr.k [0, 1, 2, 11, 12, 13, 14] ?_
  refine Tr.blk ?_
  refine Tr.loopI (α := Nat) (fun a => [(0, ?v0_1), (1, ?v1_1), (2, ?v2_1), (11, ?v11_1), (12, ?v12_1), (13, .val (str (sgR seed i D a))), (14, .val (nI a))]) (fun a => ?h_1) (fun a => a ≤ 68) (fun a => 68 - a) (0) (Nat.zero_le _) ?le_1 ?hh_1 ?bd_1
  case hh_1 => exact rfl
  case le_1 => exact LT
  rintro c hc
  refine Tr.seqK fun K5 hK5 => ?_
  refine Tr.w hcx [] _ [] rfl rfl rfl ?_ X_fc15
  refine Tr.cD rfl (fun hc51 => ?_) (fun hc51 => ?_)
  ·
   have hd4 := hD4 c hc51
   have e33 := h33 seed i c hs ⟨by omega, by omega⟩
   have e32 : pu 32 [.val (nI i), .val (nI c), .val (nI 0), .val (nI (gt D c)), .agg (cl bC (staT seed i c))] = some (.agg (cl bC (advT i c 0 (staT seed i c) (gt D c)))) := h32 i c 0 (gt D c) _ (staT_len _ _ _) ⟨by omega, by omega, by omega, by omega⟩
   have hadl := advT_len i c 0 (staT_len seed i c) (gt D c)
   have e31 := h31 _ hadl
   have hslc := hsl c
   refine Tr.skip ?_
   refine hK5 _ ?_
   refine Tr.seqK fun K6 hK6 => ?_
   refine Tr.blk ?_
   have hy := And.intro @e33 (And.intro @e32 @e31)
   refine Tr.vD hcx hMO [1000067] _ [] rfl rfl rfl rfl ?_ Y_fc15
   refine hK6 _ ?_
   refine Tr.k [0, 1, 2, 11, 12, 13, 14] ?_
   have hy := True.intro
   refine Tr.v hcx [1000053] _ [] rfl rfl rfl ?_ X_fc15
   exact ⟨c + 1, ⟨by omega, O1⟩, LT, rfl⟩
  obtain rfl : c = 68 := by omega
  refine Tr.exit ?_
  refine hK4 _ ?_
  refine Tr.w hcx [1000068] _ [] rfl rfl rfl ?_ X_fc15
  refine Tr.seqK fun K7 hK7 => ?_
  refine Tr.w hcx [] _ [] rfl rfl rfl ?_ X_fc15
  refine Tr.k [1, 11, 13, 15, 16] ?_
  refine Tr.blk ?_
  refine Tr.loopI (α := Nat) (fun a => [(1, ?v1_2), (11, ?v11_2), (13, .val (str (auR seed i (sgR seed i D 68) a))), (15, .val (nI (i / 2 ^ a))), (16, .val (nI a))]) (fun a => ?h_2) (fun a => a ≤ k) (fun a => k - a) (0) (Nat.zero_le _) ?le_2 ?hh_2 ?bd_2
  case hh_2 => exact rfl
  case le_2 => (simp only [Le_nil, Le_cons, ↓A_cons, ↓reduceIte, Nat.reduceEqDiff, CLe_refl, CLe_top, CLe_full, CLe_nil, CLe_own, and_true, true_and]; all_goals (repeat' first | exact CLe.refl _ | exact True.intro | (refine CLe_sln ?_; first | rfl | (simp only [List.take_zero]; done)) | exact CLe_nI (by omega) | exact CLe_int (by omega) | exact CLe_inI (by omega) | exact CLe_nIi (by omega) | with_reducible apply And.intro)); all_goals first | exact CLe.refl _ | (rw [Nat.pow_zero, Nat.div_one]; exact CLe.refl _)
  rintro l hl
  refine Tr.seqK fun K8 hK8 => ?_
  refine Tr.w hcx [] _ [] rfl rfl rfl ?_ X_fc15
  refine Tr.cD rfl (fun hc71 => ?_) (fun hc71 => ?_)
  ·
   have hgl := lvl_gt seed k (k + 1) l (by omega)
   have hjl : i / 2 ^ l < 2 ^ (k - l) := by
     rw [Nat.div_lt_iff_lt_mul (pow_pos2 l), ← Nat.pow_add, show k - l + l = k by omega]; exact hik
   have hph := pow_half hc71
   have hall := hal l
   have hpkl := pow_64 hk6 l
   have hsbl := sib_lt (j := i / 2 ^ l) (p := 2 ^ (k - (l + 1))) (by omega)
   refine Tr.skip ?_
   refine hK8 _ ?_
   refine Tr.seqK fun K9 hK9 => ?_
   refine Tr.blk ?_
   refine Tr.w hcx [1000075] _ [] rfl rfl rfl ?_ X_fc15
   refine Tr.seqK fun K10 hK10 => ?_
   by_cases y0 : i / 2 ^ l % 2 = 1
   ·
    have hsb : sib (i / 2 ^ l) = i / 2 ^ l - 1 := if_pos y0
    have hj1 : 0 < i / 2 ^ l := Nat.pos_of_ne_zero fun e => by rw [e] at y0; cases y0
    have hgd := rowD_gt seed l (2 ^ (k - l)) (i / 2 ^ l - 1) (by omega)
    have e31 := h31 _ (treeT_len seed l (i / 2 ^ l - 1))
    refine Tr.w hcx [] _ [] rfl rfl rfl ?_ X_fc15
    refine Tr.cT rfl ?_
    refine Tr.v hcx [1000080] _ [] rfl rfl rfl ?_ X_fc15
    refine hK10 _ ?_
    refine Tr.k [1, 11, 13, 15, 16, 17] ?_
    have hy := And.intro @hgl (And.intro @hgd (And.intro @htd @e31))
    refine Tr.w hcx [1000090] _ [] rfl rfl rfl ?_ X_fc15
    have hy := True.intro
    refine Tr.v hcx [1000092] _ [] rfl rfl rfl ?_ X_fc15
    refine hK9 _ ?_
    refine Tr.v hcx [1000073] _ [] rfl rfl rfl ?_ X_fc15
    refine ⟨l + 1, ⟨by omega, O1⟩, ?_, rfl⟩
    (simp only [Le_nil, Le_cons, ↓A_cons, ↓reduceIte, Nat.reduceEqDiff, CLe_refl, CLe_top, CLe_full, CLe_nil, CLe_own, and_true, true_and]; all_goals (repeat' first | exact CLe.refl _ | exact True.intro | (refine CLe_sln ?_; first | rfl | (simp only [List.take_zero]; done)) | exact CLe_nI (by omega) | exact CLe_int (by omega) | exact CLe_inI (by omega) | exact CLe_nIi (by omega) | with_reducible apply And.intro))
    all_goals first | exact CLe.refl _ | (rw [Nat.div_div_eq_div_mul, ← Nat.pow_succ]; exact CLe.refl _) | (rw [auR, hsb]; exact CLe.refl _)
   have hsb : sib (i / 2 ^ l) = i / 2 ^ l + 1 := if_neg y0
   have hgd := rowD_gt seed l (2 ^ (k - l)) (i / 2 ^ l + 1) (by omega)
   have e31 := h31 _ (treeT_len seed l (i / 2 ^ l + 1))
   refine Tr.w hcx [] _ [] rfl rfl rfl ?_ X_fc15
   refine Tr.cF rfl ?_
   refine Tr.skip ?_
   refine hK10 _ ?_
   have hy := And.intro @hgl (And.intro @hgd (And.intro @htd @e31))
   refine Tr.w hcx [1000090] _ [] rfl rfl rfl ?_ X_fc15
   refine Tr.k [1, 11, 13, 15, 16] ?_
   have hy := True.intro
   refine Tr.v hcx [1000092] _ [] rfl rfl rfl ?_ X_fc15
   refine hK9 _ ?_
   refine Tr.v hcx [1000073] _ [] rfl rfl rfl ?_ X_fc15
   refine ⟨l + 1, ⟨by omega, O1⟩, ?_, rfl⟩
   (simp only [Le_nil, Le_cons, ↓A_cons, ↓reduceIte, Nat.reduceEqDiff, CLe_refl, CLe_top, CLe_full, CLe_nil, CLe_own, and_true, true_and]; all_goals (repeat' first | exact CLe.refl _ | exact True.intro | (refine CLe_sln ?_; first | rfl | (simp only [List.take_zero]; done)) | exact CLe_nI (by omega) | exact CLe_int (by omega) | exact CLe_inI (by omega) | exact CLe_nIi (by omega) | with_reducible apply And.intro))
   all_goals first | exact CLe.refl _ | (rw [Nat.div_div_eq_div_mul, ← Nat.pow_succ]; exact CLe.refl _) | (rw [auR, hsb]; exact CLe.refl _)
  obtain rfl : l = k := by omega
  refine Tr.exit ?_
  refine hK7 _ ?_
  refine Tr.w hcx [1000093] _ [] rfl rfl rfl ?_ X_fc15
  exact Tr.ret F_fc15
 skip
 have hy := @e23
 refine Tr.w hcx [1000020] _ [] rfl rfl rfl ?_ X_fc15
 refine Tr.seqK fun K11 hK11 => ?_
 have hy := True.intro
 refine Tr.w hcx [] _ [] rfl rfl rfl ?_ X_fc15
 refine Tr.cT rfl ?_
 refine Tr.w hcx [] _ [] rfl rfl rfl ?_ X_fc15
 exact Tr.ret F_fc15
end Go.Sx
namespace Go.Sx
open Go.RowKit Go.Proofs
def at16 (r : List UInt8) (c : Nat) : List UInt8 := (r.drop (16 * c)).take 16
theorem at16_len {r : List UInt8} {c : Nat} (h : 16 * c + 16 ≤ r.length) : (at16 r c).length = 16 := by
  unfold at16; rw [List.length_take, List.length_drop]; omega
/-- The end of a chain that begins at a digit. -/
def endV (i : Nat) (D : List Nat) (r : List UInt8) (c : Nat) : List UInt8 := advT i c (gt D c) (at16 r c) (3 - gt D c)
theorem endV_len {i : Nat} {D : List Nat} {r : List UInt8} {c : Nat} (h : 16 * c + 16 ≤ r.length) : (endV i D r c).length = 16 := advT_len _ _ _ (at16_len h) _
theorem catV_len' {f : Nat → List UInt8} : ∀ n, (∀ c, c < n → (f c).length = 16) → (catV f n).length = 16 * n
  | 0, _ => rfl
  | n + 1, h => by rw [catV, List.length_append, catV_len' n (fun c hc => h c (by omega)), h n (by omega)]; omega
def upR (i : Nat) (r : List UInt8) (v : List UInt8) : Nat → List UInt8
  | 0 => v
  | l + 1 => if i / 2 ^ l % 2 = 1 then nodT (at16 r (68 + l)) (upR i r v l) else nodT (upR i r v l) (at16 r (68 + l))
theorem upR_len (i : Nat) (r : List UInt8) {v : List UInt8} (h : v.length = 16) : ∀ l, (upR i r v l).length = 16
  | 0 => h
  | l + 1 => by rw [upR]; split <;> exact nodT_len _ _
theorem up_T {i l : Nat} {r v : List UInt8} (h : i / 2 ^ l % 2 = 1) : upR i r v (l + 1) = nodT (at16 r (68 + l)) (upR i r v l) := if_pos h
theorem up_F {i l : Nat} {r v : List UInt8} (h : ¬ i / 2 ^ l % 2 = 1) : upR i r v (l + 1) = nodT (upR i r v l) (at16 r (68 + l)) := if_neg h
def rootV (p : List UInt8) (h i : Nat) (m r : List UInt8) : List UInt8 := upR i r (leafV (endV i (digT (msgT p (i : Int) m)) r)) h
def verT (p : List UInt8) (h : Int) (m sg : List UInt8) : Int × Nat :=
  if ¬ (0 ≤ h ∧ h ≤ 6) then (0, 1) else if 1048576 < m.length then (0, 4) else if (getI sg).2.2 ≠ 0 then (0, (getI sg).2.2) else
  if (getI sg).1 < 0 ∨ ((2 ^ h.toNat : Nat) : Int) ≤ (getI sg).1 ∨ ¬ (sg.drop (getI sg).2.1).length = (68 + h.toNat) * 16 then (0, 2) else
  if rootV p h.toNat (getI sg).1.toNat m (sg.drop (getI sg).2.1) = p then ((getI sg).1, 0) else (0, 19)
section
variable {p m sg : List UInt8} {x : Int} {k n e : Nat}
theorem ver_1 {h : Int} (hh : ¬ (0 ≤ h ∧ h ≤ 6)) : verT p h m sg = (0, 1) := if_pos hh
theorem ver_4 (hk : k ≤ 6) (hm : 1048576 < m.length) : verT p (k : Int) m sg = (0, 4) := by
  unfold verT; rw [if_neg (by omega), if_pos hm]
theorem ver_e (hk : k ≤ 6) (hm : ¬ 1048576 < m.length) (hg : getI sg = (x, n, e)) (he : ¬ e = 0) : verT p (k : Int) m sg = (0, e) := by
  unfold verT; rw [if_neg (by omega), if_neg hm, hg, if_pos he]
theorem ver_2 (hk : k ≤ 6) (hm : ¬ 1048576 < m.length) (hg : getI sg = (x, n, 0)) (hx : x < 0 ∨ ((2 ^ k : Nat) : Int) ≤ x ∨ ¬ (sg.drop n).length = (68 + k) * 16) : verT p (k : Int) m sg = (0, 2) := by
  unfold verT; rw [if_neg (by omega), if_neg hm, hg, if_neg (by simp), Int.toNat_natCast, if_pos hx]
theorem ver_z {i : Nat} (hk : k ≤ 6) (hm : ¬ 1048576 < m.length) (hg : getI sg = ((i : Int), n, 0)) (hx : i < 2 ^ k) (hl : (sg.drop n).length = (68 + k) * 16) : verT p (k : Int) m sg = if rootV p k i m (sg.drop n) = p then ((i : Int), 0) else (0, 19) := by
  unfold verT; rw [if_neg (by omega), if_neg hm, hg, if_neg (by simp), Int.toNat_natCast, if_neg (by simp only []; omega), Int.toNat_natCast]
end
end Go.Sx
namespace Go.Sx
open Go.RowKit Go.Proofs
set_option maxRecDepth 100000
set_option maxHeartbeats 8000000
theorem X_fc19 {p : Prop} (e : p := by intro KZ hZ; simp -implicitDefEqProofs (disch := first | omega | (simp only [go_sem, lA, lD, lT, hp, hDl, ofT_len, nodT_len] <;> omega) | decide) only [go_sem, ↓reduceIte, Nat.reduceEqDiff, reduceCtorEq, Nat.reduceLT, Nat.reduceBEq, Nat.reduceAdd, Nat.one_mul, b1, b2, b3, b4, b5, b6, y0, z0, hy]; exact hZ) : p := e
theorem Y_fc19 {p : Prop} (e : p := by intro KZ hZ; simp -implicitDefEqProofs (disch := first | omega | (simp only [go_sem, lA, lD, lT, hp, hDl, ofT_len, nodT_len] <;> omega) | decide) only [go_sem, ↓reduceIte, Nat.reduceEqDiff, reduceCtorEq, Nat.reduceLT, Nat.reduceBEq, Nat.reduceAdd, Nat.one_mul, b1, b2, b3, b4, b5, b6, y0, z0, hy]; refine And.intro ?_ hZ; exact rfl) : p := e
theorem F_fc19 {p : Prop} (e : p := by simp -implicitDefEqProofs (disch := first | omega | (simp only [go_sem, lA, lD, lT, hp, hDl, ofT_len, nodT_len] <;> omega) | decide) only [go_sem, ↓reduceIte, Nat.reduceEqDiff, reduceCtorEq]; all_goals (first | (rw [ver_1 (by omega)]; rfl) | (rw [ver_4 hk6 (by omega)]; rfl) | (rw [ver_e hk6 (by omega) hg b3]; rfl) | (rw [ver_2 hk6 (by omega) hg (by first | exact Or.inl b4 | exact Or.inr (Or.inl b5) | exact Or.inr (Or.inr b6))]; rfl) | (rw [ver_z hk6 (by omega) hg hik b6o, rootV, ← hD, if_pos z0]; rfl) | (rw [ver_z hk6 (by omega) hg hik b6o, rootV, ← hD, if_neg z0]; rfl))) : p := e
theorem fc19 {gl : Nat → C} {M : Nat} {pu : Nat → List C → Option C}  (hcx : CxOK (cxP gl M pu))  (h41 : ∀ b : List UInt8, b.length < 9223372036854775807 → pu 41 [sl bC .no b] = some (.tup [.val (.int .i64 (getI b).1), .val (nI (getI b).2.1), .val (nI (getI b).2.2)])) (h17 : ∀ (p : List UInt8) (i : Int) (m : List UInt8), p.length = 16 → (-9223372036854775808 ≤ i ∧ i ≤ 9223372036854775807) → m.length ≤ 1048576 → pu 17 [.agg (cl bC p), .val (.int .i64 i), .val (str m)] = some (.agg (cl bC (msgT p i m)))) (h11 : ∀ d : List UInt8, d.length = 16 → pu 11 [.agg (cl bC d)] = some (sl nC (.own 1) (digT d))) (h42 : ∀ s : List UInt8, 16 ≤ s.length ∧ s.length ≤ 1000000 → pu 42 [.val (str s)] = some (.agg (cl bC (s.take 16)))) (h32 : ∀ (i c f t : Nat) (v : List UInt8), v.length = 16 → i < 1000000 ∧ c < 1000000 ∧ f < 1000000 ∧ t < 1000000 → pu 32 [.val (nI i), .val (nI c), .val (nI f), .val (nI t), .agg (cl bC v)] = some (.agg (cl bC (advT i c f v (t - f))))) (h31 : ∀ h : List UInt8, h.length = 16 → pu 31 [.agg (cl bC h)] = some (.val (str h))) (h35 : ∀ (tag : Int) (parts : List (List UInt8)), (inp tag parts).length < 1099511627776 → pu 35 [.val (.int .i64 tag), sl sC .no parts] = some (.agg (cl bC (ofT tag parts)))) (h43 : ∀ a b : List UInt8, a.length = 16 → b.length = 16 → pu 43 [.agg (cl bC a), .agg (cl bC b)] = some (.agg (cl bC (nodT a b)))) (p : List UInt8) (h : Int) (m sg : List UInt8) (hp : p.length = 16) (hh : -9223372036854775808 ≤ h ∧ h ≤ 9223372036854775807) (hm : m.length ≤ 1000000000) (hsg : sg.length ≤ 900000) : FC Tryd.prog gl 19 [.agg (cl bC p), .val (.int .i64 h), .val (str m), .val (str sg)] [] (.tup [.val (.int .i64 (verT p h m sg).1), .val (nI (verT p h m sg).2)]) [] := by
 replace hcx := hcx.reN (M := 118)
 refine FC.ofA (cx := cxP gl 118 pu) (rs := [.tmp 8, .tmp 9]) rfl Tryd.func19 rfl rfl rfl (by simp only [List.length_cons, List.length_nil]; decide) (by simp only [go_sem]) ?_
 simp only [ini, go_sem]
 have b1 := True.intro
 have b2 := True.intro
 have b3 := True.intro
 have b4 := True.intro
 have b5 := True.intro
 have b6 := True.intro
 have y0 := True.intro
 have z0 := True.intro
 have hy := True.intro
 have e41 := h41 sg (by omega)
 have hbd := getI_bd sg
 obtain ⟨x, n, e, hg⟩ : ∃ x n e, getI sg = (x, n, e) := ⟨_, _, _, rfl⟩
 rw [hg] at e41 hbd
 simp only [] at e41 hbd
 have hk0 := True.intro
 have hk7 := True.intro
 have hi0 := True.intro
 have hi2 := True.intro
 have hDl := True.intro
 refine Tr.w hcx [] _ [none] rfl rfl rfl ?_ X_fc19
 refine Tr.seqK fun K1 hK1 => ?_
 by_cases b1 : h < ((0 : Nat) : Int)
 ·
  have hy := And.intro @hk0 @hk7
  refine Tr.w hcx [] [some 22, some 23, some 24, some 25, some 26, some 27] [] rfl rfl rfl ?_ X_fc19
  refine Tr.cT rfl ?_
  have hy := True.intro
  refine Tr.w hcx [] _ [] rfl rfl rfl ?_ X_fc19
  exact Tr.ret F_fc19
 by_cases b2 : ((6 : Nat) : Int) < h
 ·
  skip
  have hy := And.intro @hk0 @hk7
  refine Tr.w hcx [] [some 22, some 23, some 24, some 25, some 26, some 27] [] rfl rfl rfl ?_ X_fc19
  refine Tr.cT rfl ?_
  have hy := True.intro
  refine Tr.w hcx [] _ [] rfl rfl rfl ?_ X_fc19
  exact Tr.ret F_fc19
 obtain ⟨k, rfl⟩ : ∃ k : Nat, h = (k : Int) := ⟨h.toNat, by omega⟩
 have hk6 : k ≤ 6 := by omega
 have hk0 : (k < 0) = False := by simp
 have hk7 : (6 < k) = False := eq_false (by omega)
 have hp64 := pow_64 hk6 0
 rw [Nat.sub_zero] at hp64
 have hy := And.intro @hk0 @hk7
 refine Tr.w hcx [] [some 22, some 23, some 24, some 25, some 26, some 27] [] rfl rfl rfl ?_ X_fc19
 refine Tr.cF rfl ?_
 refine Tr.skip ?_
 refine hK1 _ ?_
 refine Tr.seqK fun K2 hK2 => ?_
 have hy := True.intro
 refine Tr.w hcx [] _ [] rfl rfl rfl ?_ X_fc19
 refine Tr.cD rfl (fun hc30 => ?_) (fun hc30 => ?_)
 ·
  refine Tr.w hcx [] _ [] rfl rfl rfl ?_ X_fc19
  exact Tr.ret F_fc19
 refine Tr.skip ?_
 refine hK2 _ ?_
 have hy := @e41
 refine Tr.w hcx [1000035, 1000036, 1000037] _ [] rfl rfl rfl ?_ X_fc19
 refine Tr.k [1, 2, 3, 4, 10, 11, 12] ?_
 refine Tr.seqK fun K3 hK3 => ?_
 by_cases b3 : e = 0
 ·
  subst b3
  have b3 := True.intro
  have hy := True.intro
  refine Tr.w hcx [] _ [] rfl rfl rfl ?_ X_fc19
  refine Tr.cF rfl ?_
  refine Tr.skip ?_
  refine hK3 _ ?_
  have hnl : (sg.drop n).length = sg.length - n := List.length_drop ..
  have hnn := hbd.1
  refine Tr.w hcx [1000043] _ [] rfl rfl rfl ?_ X_fc19
  refine Tr.k [1, 2, 4, 10, 13] ?_
  refine Tr.seqK fun K4 hK4 => ?_
  by_cases b4 : x < ((0 : Nat) : Int)
  ·
   have hy := And.intro @i_shl (And.intro @hi0 @hi2)
   refine Tr.w hcx [] [some 44, some 45, some 46, some 47, some 48, some 49, some 50, some 51, some 52, some 53, some 54, some 55, some 56, some 57, some 58, some 59] [] rfl rfl rfl ?_ X_fc19
   refine Tr.cT rfl ?_
   have hy := True.intro
   refine Tr.w hcx [] _ [] rfl rfl rfl ?_ X_fc19
   exact Tr.ret F_fc19
  by_cases b5 : ((2 ^ k : Nat) : Int) ≤ x
  ·
   skip
   have hy := And.intro @i_shl (And.intro @hi0 @hi2)
   refine Tr.w hcx [] [some 44, some 45, some 46, some 47, some 48, some 49, some 50, some 51, some 52, some 53, some 54, some 55, some 56, some 57, some 58, some 59] [] rfl rfl rfl ?_ X_fc19
   refine Tr.cT rfl ?_
   have hy := True.intro
   refine Tr.w hcx [] _ [] rfl rfl rfl ?_ X_fc19
   exact Tr.ret F_fc19
  obtain ⟨i, rfl⟩ : ∃ i : Nat, x = (i : Int) := ⟨x.toNat, by omega⟩
  have hik : i < 2 ^ k := by omega
  have hi0 : (i < 0) = False := by simp
  have hi2 : (2 ^ k ≤ i) = False := eq_false (by omega)
  have hi64 : i < 64 := by omega
  by_cases b6 : (sg.drop n).length = (68 + k) * 16
  ·
   have b6o := b6
   have hml : m.length ≤ 1048576 := by omega
   have e17 : pu 17 [.agg (cl bC p), .val (nI i), .val (str m)] = some (.agg (cl bC (msgT p (i : Int) m))) := h17 _ (i : Int) m hp (by omega) hml
   have hmsl := msgT_len p (i : Int) m
   have e11 := h11 _ hmsl
   obtain ⟨D, hD⟩ : ∃ D, D = digT (msgT p (i : Int) m) := ⟨_, rfl⟩
   rw [← hD] at e11
   have hDl : D.length = 68 := by rw [hD]; exact digT_len _
   have hD4 : ∀ c, c < 68 → gt D c < 4 := fun c hc => by rw [hD]; exact digT_lt _ c hc
   have hat : ∀ c, c < 68 + k → (at16 (sg.drop n) c).length = 16 := fun c hc => at16_len (by omega)
   have hev : ∀ c, c < 68 → (endV i D (sg.drop n) c).length = 16 := fun c hc => endV_len (by omega)
   have hcv : ∀ a, a ≤ 68 → (catV (endV i D (sg.drop n)) a).length = 16 * a := fun a ha => catV_len' a fun c hc => hev c (by omega)
   have hlv := leafV_len (endV i D (sg.drop n))
   have hup := fun l => upR_len i (sg.drop n) hlv l
   have hnk := hnl
   have hy := And.intro @i_shl (And.intro @hi0 @hi2)
   refine Tr.w hcx [] [some 44, some 45, some 46, some 47, some 48, some 49, some 50, some 51, some 52, some 53, some 54, some 55, some 56, some 57, some 58, some 59] [] rfl rfl rfl ?_ X_fc19
   refine Tr.cF rfl ?_
   refine Tr.skip ?_
   refine hK4 _ ?_
   refine Tr.k [1, 2, 4, 10, 13] ?_
   have hy := And.intro @e17 @e11
   refine Tr.w hcx [1000064] _ [] rfl rfl rfl ?_ X_fc19
   have hy := True.intro
   refine Tr.w hcx [] _ [] rfl rfl rfl ?_ X_fc19
   refine Tr.seqK fun K5 hK5 => ?_
   refine Tr.w hcx [] _ [] rfl rfl rfl ?_ X_fc19
   refine Tr.k [1, 4, 10, 13, 14, 15, 16] ?_
   refine Tr.blk ?_
   refine Tr.loopI (α := Nat) (fun a => [(1, ?v1_1), (4, ?v4_1), (10, ?v10_1), (13, ?v13_1), (14, ?v14_1), (15, .val (str (catV (endV i D (sg.drop n)) a))), (16, .val (nI a))]) (fun a => [some (cl bC p)]) (fun a => a ≤ 68) (fun a => 68 - a) (0) (Nat.zero_le _) ?le_1 ?hh_1 ?bd_1
   case hh_1 => exact rfl
   case le_1 => exact LT
   rintro c hc
   refine Tr.seqK fun K6 hK6 => ?_
   refine Tr.w hcx [] _ [] rfl rfl rfl ?_ X_fc19
   refine Tr.cD rfl (fun hc66 => ?_) (fun hc66 => ?_)
   ·
    have tk : List.take ((68 + k) * 16 - 16 * c) (List.drop (16 * c) (sg.drop n)) = List.drop (16 * c) (sg.drop n) := List.take_of_length_le (by rw [List.length_drop]; omega)
    have hd4 := hD4 c hc66
    have ha := hat c (by omega)
    have hevc := hev c hc66
    have hcvc := hcv c (by omega)
    have e42 : pu 42 [.val (str (List.drop (16 * c) (sg.drop n)))] = some (.agg (cl bC (at16 (sg.drop n) c))) := h42 _ ⟨by rw [List.length_drop]; omega, by rw [List.length_drop]; omega⟩
    have e32 : pu 32 [.val (nI i), .val (nI c), .val (nI (gt D c)), .val (nI 3), .agg (cl bC (at16 (sg.drop n) c))] = some (.agg (cl bC (endV i D (sg.drop n) c))) := h32 i c (gt D c) 3 _ ha ⟨by omega, by omega, by omega, by omega⟩
    have e31 := h31 _ hevc
    refine Tr.skip ?_
    refine hK6 _ ?_
    refine Tr.seqK fun K7 hK7 => ?_
    refine Tr.blk ?_
    have hy := And.intro @tk (And.intro @e42 (And.intro @e32 @e31))
    refine Tr.vD hcx hMO [1000083] _ [] rfl rfl rfl rfl ?_ Y_fc19
    refine hK7 _ ?_
    refine Tr.k [1, 4, 10, 13, 14, 15, 16] ?_
    have hy := True.intro
    refine Tr.v hcx [1000068] _ [] rfl rfl rfl ?_ X_fc19
    exact ⟨c + 1, ⟨by omega, O1⟩, LT, rfl⟩
   obtain rfl : c = 68 := by omega
   have hc68 := hcv 68 (Nat.le_refl _)
   have e4 : pu 35 [.val (nI 2), sl sC .no [catV (endV i D (sg.drop n)) 68]] = some (.agg (cl bC (ofT 2 [catV (endV i D (sg.drop n)) 68]))) := h35 2 _ (inp_len1 _ _ (by omega))
   have e5 := h31 _ (ofT_len 2 [catV (endV i D (sg.drop n)) 68])
   have hl2 := ofT_len 2 [catV (endV i D (sg.drop n)) 68]
   have e6 : pu 35 [.val (nI 3), sl sC .no [ofT 2 [catV (endV i D (sg.drop n)) 68]]] = some (.agg (cl bC (leafV (endV i D (sg.drop n))))) := h35 3 _ (inp_len1 _ _ (by omega))
   refine Tr.exit ?_
   refine hK5 _ ?_
   have hy := And.intro @e4 @lay1str
   refine Tr.w hcx [] _ [none] rfl rfl rfl ?_ X_fc19
   have hy := And.intro @e5 (And.intro @e6 @lay1str)
   refine Tr.w hcx [] _ [none] rfl rfl rfl ?_ X_fc19
   have hy := True.intro
   refine Tr.w hcx [1000091] _ [] rfl rfl rfl ?_ X_fc19
   refine Tr.seqK fun K8 hK8 => ?_
   refine Tr.w hcx [] _ [] rfl rfl rfl ?_ X_fc19
   refine Tr.k [1, 4, 10, 13, 18, 19, 20] ?_
   refine Tr.blk ?_
   refine Tr.loopI (α := Nat) (fun a => [(1, ?v1_2), (4, ?v4_2), (10, ?v10_2), (13, ?v13_2), (18, ?v18_2), (19, .val (nI (i / 2 ^ a))), (20, .val (nI a))]) (fun a => [some (cl bC p), some (cl bC (ofT 2 [catV (endV i D (sg.drop n)) 68])), some (cl bC (upR i (sg.drop n) (leafV (endV i D (sg.drop n))) a))]) (fun a => a ≤ k) (fun a => k - a) (0) (Nat.zero_le _) ?le_2 ?hh_2 ?bd_2
   case hh_2 => exact rfl
   case le_2 => (simp only [Le_nil, Le_cons, ↓A_cons, ↓reduceIte, Nat.reduceEqDiff, CLe_refl, CLe_top, CLe_full, CLe_nil, CLe_own, and_true, true_and]; all_goals (repeat' first | exact CLe.refl _ | exact True.intro | (refine CLe_sln ?_; first | rfl | (simp only [List.take_zero]; done)) | exact CLe_nI (by omega) | exact CLe_int (by omega) | exact CLe_inI (by omega) | exact CLe_nIi (by omega) | with_reducible apply And.intro)); all_goals first | exact CLe.refl _ | (rw [Nat.pow_zero, Nat.div_one]; exact CLe.refl _)
   rintro l hl
   refine Tr.seqK fun K9 hK9 => ?_
   refine Tr.w hcx [] _ [] rfl rfl rfl ?_ X_fc19
   refine Tr.cD rfl (fun hc94 => ?_) (fun hc94 => ?_)
   ·
    have hil : i / 2 ^ l ≤ i := Nat.div_le_self _ _
    have tk : List.take ((68 + k) * 16 - 16 * (68 + l)) (List.drop (16 * (68 + l)) (sg.drop n)) = List.drop (16 * (68 + l)) (sg.drop n) := List.take_of_length_le (by rw [List.length_drop]; omega)
    have ha := hat (68 + l) (by omega)
    have hul := hup l
    have e42 : pu 42 [.val (str (List.drop (16 * (68 + l)) (sg.drop n)))] = some (.agg (cl bC (at16 (sg.drop n) (68 + l)))) := h42 _ ⟨by rw [List.length_drop]; omega, by rw [List.length_drop]; omega⟩
    have e43 := h43 _ _ ha hul
    have e43b := h43 _ _ hul ha
    refine Tr.skip ?_
    refine hK9 _ ?_
    refine Tr.seqK fun K10 hK10 => ?_
    refine Tr.blk ?_
    have hy := And.intro @tk @e42
    refine Tr.w hcx [] _ [none] rfl rfl rfl ?_ X_fc19
    refine Tr.seqK fun K11 hK11 => ?_
    by_cases y0 : i / 2 ^ l % 2 = 1
    ·
     have hy := True.intro
     refine Tr.w hcx [] _ [] rfl rfl rfl ?_ X_fc19
     refine Tr.cT rfl ?_
     have hy := @e43
     refine Tr.v hcx [] _ [] rfl rfl rfl ?_ X_fc19
     refine hK11 _ ?_
     have hy := True.intro
     refine Tr.v hcx [1000113] _ [] rfl rfl rfl ?_ X_fc19
     refine hK10 _ ?_
     refine Tr.k [1, 4, 10, 13, 18, 19, 20] ?_
     refine Tr.cutA hcx 3 (by decide) ?_ ?_ ?_
     · simp only [noRefE_nil, noRefE_cons, go_sem, Bool.true_and] <;> decide
     · simp only [List.take_succ_cons, List.take_zero, noRefH_nil, noRefH_none, noRefH_some, go_sem, Bool.true_and] <;> decide
     simp only [List.take_succ_cons, List.take_zero]
     refine Tr.v hcx [1000096] _ [] rfl rfl rfl ?_ X_fc19
     refine ⟨l + 1, ⟨by omega, O1⟩, ?_, by dsimp only; first | rw [up_T y0] | rw [up_F y0] <;> rfl⟩
     (simp only [Le_nil, Le_cons, ↓A_cons, ↓reduceIte, Nat.reduceEqDiff, CLe_refl, CLe_top, CLe_full, CLe_nil, CLe_own, and_true, true_and]; all_goals (repeat' first | exact CLe.refl _ | exact True.intro | (refine CLe_sln ?_; first | rfl | (simp only [List.take_zero]; done)) | exact CLe_nI (by omega) | exact CLe_int (by omega) | exact CLe_inI (by omega) | exact CLe_nIi (by omega) | with_reducible apply And.intro))
     all_goals first | exact CLe.refl _ | (rw [Nat.div_div_eq_div_mul, ← Nat.pow_succ]; exact CLe.refl _)
    have hy := True.intro
    refine Tr.w hcx [] _ [] rfl rfl rfl ?_ X_fc19
    refine Tr.cF rfl ?_
    have hy := @e43b
    refine Tr.v hcx [] _ [] rfl rfl rfl ?_ X_fc19
    refine hK11 _ ?_
    have hy := True.intro
    refine Tr.v hcx [1000113] _ [] rfl rfl rfl ?_ X_fc19
    refine hK10 _ ?_
    refine Tr.k [1, 4, 10, 13, 18, 19, 20] ?_
    refine Tr.cutA hcx 3 (by decide) ?_ ?_ ?_
    · simp only [noRefE_nil, noRefE_cons, go_sem, Bool.true_and] <;> decide
    · simp only [List.take_succ_cons, List.take_zero, noRefH_nil, noRefH_none, noRefH_some, go_sem, Bool.true_and] <;> decide
    simp only [List.take_succ_cons, List.take_zero]
    refine Tr.v hcx [1000096] _ [] rfl rfl rfl ?_ X_fc19
    refine ⟨l + 1, ⟨by omega, O1⟩, ?_, by dsimp only; first | rw [up_T y0] | rw [up_F y0] <;> rfl⟩
    (simp only [Le_nil, Le_cons, ↓A_cons, ↓reduceIte, Nat.reduceEqDiff, CLe_refl, CLe_top, CLe_full, CLe_nil, CLe_own, and_true, true_and]; all_goals (repeat' first | exact CLe.refl _ | exact True.intro | (refine CLe_sln ?_; first | rfl | (simp only [List.take_zero]; done)) | exact CLe_nI (by omega) | exact CLe_int (by omega) | exact CLe_inI (by omega) | exact CLe_nIi (by omega) | with_reducible apply And.intro))
    all_goals first | exact CLe.refl _ | (rw [Nat.div_div_eq_div_mul, ← Nat.pow_succ]; exact CLe.refl _)
   obtain rfl : l = k := by omega
   have hul := hup l
   refine Tr.exit ?_
   refine hK8 _ ?_
   refine Tr.seqK fun K12 hK12 => ?_
   by_cases z0 : upR i (sg.drop n) (leafV (endV i D (sg.drop n))) l = p
   ·
    have hy := @eq23
    refine Tr.w hcx [] _ [] rfl rfl rfl ?_ X_fc19
    refine Tr.cF rfl ?_
    refine Tr.skip ?_
    refine hK12 _ ?_
    have hy := True.intro
    refine Tr.w hcx [1000117] _ [] rfl rfl rfl ?_ X_fc19
    exact Tr.ret F_fc19
   have hy := @eq23
   refine Tr.w hcx [] _ [] rfl rfl rfl ?_ X_fc19
   refine Tr.cT rfl ?_
   have hy := True.intro
   refine Tr.w hcx [] _ [] rfl rfl rfl ?_ X_fc19
   exact Tr.ret F_fc19
  skip
  have hy := And.intro @i_shl (And.intro @hi0 @hi2)
  refine Tr.w hcx [] [some 44, some 45, some 46, some 47, some 48, some 49, some 50, some 51, some 52, some 53, some 54, some 55, some 56, some 57, some 58, some 59] [] rfl rfl rfl ?_ X_fc19
  refine Tr.cT rfl ?_
  have hy := True.intro
  refine Tr.w hcx [] _ [] rfl rfl rfl ?_ X_fc19
  exact Tr.ret F_fc19
 skip
 have hy := True.intro
 refine Tr.w hcx [] _ [] rfl rfl rfl ?_ X_fc19
 refine Tr.cT rfl ?_
 refine Tr.w hcx [1000040] _ [] rfl rfl rfl ?_ X_fc19
 exact Tr.ret F_fc19
end Go.Sx
namespace Go.Sx
open Go.RowKit Go.Proofs
set_option maxRecDepth 100000
set_option maxHeartbeats 8000000
theorem at16_eq (r : List UInt8) (k : Nat) : List.take ((k + 1) * 16 - k * 16) (List.drop (k * 16) r) = at16 r k := by
  unfold at16; rw [show (k + 1) * 16 - k * 16 = 16 by omega, Nat.mul_comm]
theorem X_fc37 {p : Prop} (e : p := by intro KZ hZ; simp -implicitDefEqProofs (disch := first | omega | (simp only [go_sem, lA, lD, lT, ha] <;> omega) | decide) only [go_sem, ↓reduceIte, Nat.reduceEqDiff, reduceCtorEq, Nat.reduceLT, Nat.reduceBEq, Nat.reduceAdd, at16_eq, hy]; exact hZ) : p := e
theorem F_fc37 {p : Prop} (e : p := by simp -implicitDefEqProofs (disch := first | omega | (simp only [go_sem, lA, lD, lT, ha] <;> omega) | decide) only [go_sem, ↓reduceIte, Nat.reduceEqDiff, reduceCtorEq]; all_goals (rfl)) : p := e
theorem fc37 {gl : Nat → C} {M : Nat} {pu : Nat → List C → Option C}  (hcx : CxOK (cxP gl M pu))  (k : Nat) (r : List UInt8) (hk : 16 * k + 16 ≤ r.length ∧ r.length ≤ 1000000) : FC Tryd.prog gl 37 [.val (nI k), .kp [sl bC .no r]] [] (.agg (cl bC (at16 r k))) [] := by
 replace hcx := hcx.reN (M := 13)
 refine FC.ofA (cx := cxP gl 13 pu) (rs := [.cell 3 23]) rfl Tryd.func37 rfl rfl rfl (by simp only [List.length_cons, List.length_nil]; decide) (by simp only [go_sem]) ?_
 simp only [ini, go_sem]
 have hy := True.intro
 have ha := at16_len hk.1
 refine Tr.w hcx [] _ [none] rfl rfl rfl ?_ X_fc37
 refine Tr.w hcx [] _ [] rfl rfl rfl ?_ X_fc37
 exact Tr.ret F_fc37
theorem X_fc45 {p : Prop} (e : p := by intro KZ hZ; simp -implicitDefEqProofs (disch := first | omega | (simp only [go_sem, lA, lD, lT, htl] <;> omega) | decide) only [go_sem, ↓reduceIte, Nat.reduceEqDiff, reduceCtorEq, Nat.reduceLT, Nat.reduceBEq, Nat.reduceAdd, e28, e27, hy]; exact hZ) : p := e
theorem Y_fc45 {p : Prop} (e : p := by intro KZ hZ; simp -implicitDefEqProofs (disch := first | omega | (simp only [go_sem, lA, lD, lT, htl] <;> omega) | decide) only [go_sem, ↓reduceIte, Nat.reduceEqDiff, reduceCtorEq, Nat.reduceLT, Nat.reduceBEq, Nat.reduceAdd, e28, e27, hy]; refine And.intro ?_ hZ; exact rfl) : p := e
theorem F_fc45 {p : Prop} (e : p := by simp -implicitDefEqProofs (disch := first | omega | (simp only [go_sem, lA, lD, lT, htl] <;> omega) | decide) only [go_sem, ↓reduceIte, Nat.reduceEqDiff, reduceCtorEq]; all_goals (rfl)) : p := e
theorem fc45 {gl : Nat → C} {M : Nat} {pu : Nat → List C → Option C}  (hcx : CxOK (cxP gl M pu))  (h28 : ∀ (seed : List UInt8) (i c : Nat), seed.length ≤ 1000000 → i < 1000000 ∧ c < 1000000 → pu 28 [.val (str seed), .val (nI i), .val (nI c)] = some (.agg (cl bC (staT seed i c)))) (h27 : ∀ (i c f t : Nat) (v : List UInt8), v.length = 16 → i < 1000000 ∧ c < 1000000 ∧ f < 1000000 ∧ t < 1000000 → pu 27 [.val (nI i), .val (nI c), .val (nI f), .val (nI t), .agg (cl bC v)] = some (.agg (cl bC (advT i c f v (t - f))))) (c i : Nat) (seed : List UInt8) (hb : i < 1000000 ∧ c < 68) (hs : seed.length ≤ 1000000) : FC Tryd.prog gl 45 [.val (nI c), .kp [.val (nI i)], .kp [.val (str seed)]] [] (.agg (cl bC (topT seed i c))) [] := by
 replace hcx := hcx.reN (M := 12)
 refine FC.ofA (cx := cxP gl 12 pu) (rs := [.cell 4 23]) rfl Tryd.func45 rfl rfl rfl (by simp only [List.length_cons, List.length_nil]; decide) (by simp only [go_sem]) ?_
 simp only [ini, go_sem]
 have hy := True.intro
 have e28 := h28 seed i c hs ⟨hb.1, by omega⟩
 have e27 : pu 27 [.val (nI i), .val (nI c), .val (nI 0), .val (nI 3), .agg (cl bC (staT seed i c))] = some (.agg (cl bC (topT seed i c))) := h27 i c 0 3 _ (staT_len seed i c) ⟨hb.1, by omega, by omega, by omega⟩
 have htl := topT_len seed i c
 refine Tr.w hcx [] _ [none] rfl rfl rfl ?_ X_fc45
 refine Tr.wD hcx hMO [] _ [] rfl rfl rfl rfl ?_ Y_fc45
 exact Tr.ret F_fc45
end Go.Sx
namespace Go.Sx
open Go.RowKit
section
variable (a1 b1 : Nat) (z1 : List Value)
theorem ldB_fn (x y : Array TypeId) (v : Bool) (b o : Nat) : ldB false (some ⟨.func x y v, a1, b1, z1⟩) b o = some (.rd b fun cells => rdc cells o) := rfl
theorem ldK_fn (x y : Array TypeId) (v : Bool) (xs : List C) : ldK (some ⟨.func x y v, a1, b1, z1⟩) xs = (rdc xs 0).map vp := rfl
theorem ldK_map (k e : TypeId) (xs : List C) : ldK (some ⟨.map k e, a1, b1, z1⟩) xs = (rdc xs 0).map vp := rfl
end
section
variable (cx : Cx) (apps : List Nat) (dsts : List (Option Nat)) (l : List Oper) (id id' : Nat) (d : Option Nat) (e : List (Nat × C)) (h : Hp) (fs : List FP) (K : List FP → St → Prop) (ty : TypeId) (pos : String) (aft : Array Edge)
theorem run_mkm (t : TypeId) : run cx apps dsts (⟨d, .makeMap t none, ty, pos, aft, none⟩ :: l) id e h fs K = AN (dOK cx.N d) (stV cx apps dsts l id id d e h fs K (mnewPlan cx.P t)) :=
  run_gen cx apps dsts l id id d e h fs K ty pos aft (.makeMap t none) (mnewPlan cx.P t) (by first | rfl | (cases d <;> rfl)) rfl
theorem run_look (t : TypeId) (x y : Operand) (ok : Bool) : run cx apps dsts (⟨d, .lookup t x y ok, ty, pos, aft, none⟩ :: l) id e h fs K = AN (dOK cx.N d) (stV cx apps dsts l id id d e h fs K (mlookPlan cx t (on cx e x) (on cx e y) ok)) :=
  run_gen cx apps dsts l id id d e h fs K ty pos aft (.lookup t x y ok) (mlookPlan cx t (on cx e x) (on cx e y) ok) (by first | rfl | (cases d <;> rfl)) rfl
theorem run_mput (t : TypeId) (m k x : Operand) : run cx apps dsts (⟨d, .mapUpdate t m k x, ty, pos, aft, none⟩ :: l) id e h fs K = AN (dOK cx.N d) (stV cx apps dsts l id id d e h fs K (mputPlan cx t (on cx e m) (on cx e k) (on cx e x))) :=
  run_gen cx apps dsts l id id d e h fs K ty pos aft (.mapUpdate t m k x) (mputPlan cx t (on cx e m) (on cx e k) (on cx e x)) (by first | rfl | (cases d <;> rfl)) rfl
theorem stV_mo (f : Hp → Option (C × Hp)) : stV cx apps dsts l id id' d e h fs K (some (.mo f)) = stC cx apps dsts l id' d e fs K (f h) := by
  unfold stV stC act1D
  simp only [actH]
  cases f h with
  | none => rfl
  | some c => simp only [Option.map_some, killS_none, A_mkE]; rfl
theorem stC_mnew : stC cx apps dsts l id' d e fs K (mnewF h) = run cx apps dsts l id' (mkE d (.mp h.length) e) (h ++ [some (mapC [])]) ((4, 0) :: fs) K := rfl
end
theorem mnew_eq {P : Program} {t kt et : TypeId} (hk : mapKT P t = some (kt, et)) : mnewPlan P t = some (.mo mnewF) := by unfold mnewPlan; rw [hk]; rfl
theorem mlook_eq (cx : Cx) (t : TypeId) (b : Nat) (k : C) (u : Value) (ok : Bool) (hq : valQ k = some u) : mlookPlan cx t (.mp b) k ok = some (.mo (mlookF cx t b u ok)) := by unfold mlookPlan; rw [hq]
theorem mput_eq (cx : Cx) (t : TypeId) (b : Nat) (k x : C) (u : Value) (hq : valQ k = some u) : mputPlan cx t (.mp b) k x = some (.mo (mputF cx t b u x)) := by unfold mputPlan; rw [hq]
/-- Looked up: there, or not. -/
theorem mlookF_T {cx : Cx} {t kt et : TypeId} {b i : Nat} {u : Value} {v : C} {ents : List C} {h : Hp} (hk : mapKT cx.P t = some (kt, et)) (hm : cx.km kt u = true) (hb : h.mp b = some ents) (hf : mfind cx kt u ents 0 = some (some (i, v))) :
    mlookF cx t b u true h = some (.tup [v.noR, .val (.bool true)], h) := by
  unfold mlookF; rw [hk]; simp only [hm, hb, hf, if_true, Option.bind_some]; rfl
theorem mlookF_F {cx : Cx} {t kt et : TypeId} {b : Nat} {u : Value} {z : C} {ents : List C} {h : Hp} (hk : mapKT cx.P t = some (kt, et)) (hm : cx.km kt u = true) (hb : h.mp b = some ents) (hf : mfind cx kt u ents 0 = some none) (hz : zvC cx.P et = some z) :
    mlookF cx t b u true h = some (.tup [z, .val (.bool false)], h) := by
  unfold mlookF; rw [hk]; simp only [hm, hb, hf, if_true, Option.bind_some]
  unfold mlookR; rw [hz]; rfl
theorem mputF_new {cx : Cx} {t kt et : TypeId} {b : Nat} {u : Value} {x : C} {ents : List C} {h : Hp} (hk : mapKT cx.P t = some (kt, et)) (hm : cx.km kt u = true) (hb : h.mp b = some ents) (hf : mfind cx kt u ents 0 = some none) :
    mputF cx t b u x h = some (.val undef, h.set b (some (mapC (ents ++ [.val u, x])))) := by
  unfold mputF; rw [hk]; simp only [hm, hb, hf, if_true, Option.bind_some, Option.map_some]; rfl
attribute [go_sem] ldB_fn ldK_fn ldK_map run_mkm run_look run_mput stV_mo stC_mnew
end Go.Sx
namespace Go.Sx
open Go.RowKit Go.Proofs
set_option maxRecDepth 100000
set_option maxHeartbeats 8000000
theorem td69 : td Tryd.prog 69 = some ⟨.func #[3] #[23] false, 1, 8, [.nilFunc]⟩ := by kernel_rfl
theorem td45 : td Tryd.prog 45 = some ⟨.func #[3, 3] #[23] false, 1, 8, [.nilFunc]⟩ := by kernel_rfl
attribute [go_sem] td69 td45
theorem X_fc39 {p : Prop} (e : p := by intro KZ hZ; simp -implicitDefEqProofs (disch := first | omega | (simp only [go_sem, lA, lD, lT, htl, hD, ha] <;> omega) | decide) only [go_sem, ↓reduceIte, Nat.reduceEqDiff, reduceCtorEq, Nat.reduceLT, Nat.reduceBEq, Nat.reduceAdd, e37, e27, hy]; exact hZ) : p := e
theorem Y_fc39 {p : Prop} (e : p := by intro KZ hZ; simp -implicitDefEqProofs (disch := first | omega | (simp only [go_sem, lA, lD, lT, htl, hD, ha] <;> omega) | decide) only [go_sem, ↓reduceIte, Nat.reduceEqDiff, reduceCtorEq, Nat.reduceLT, Nat.reduceBEq, Nat.reduceAdd, e37, e27, hy]; refine And.intro ?_ hZ; exact rfl) : p := e
theorem F_fc39 {p : Prop} (e : p := by simp -implicitDefEqProofs (disch := first | omega | (simp only [go_sem, lA, lD, lT, htl, hD, ha] <;> omega) | decide) only [go_sem, ↓reduceIte, Nat.reduceEqDiff, reduceCtorEq]; all_goals (rfl)) : p := e
theorem fc39 {gl : Nat → C} {M : Nat} {pu : Nat → List C → Option C}  (hcx : CxOK (cxP gl M pu))  (h37 : ∀ (k : Nat) (r : List UInt8), 16 * k + 16 ≤ r.length ∧ r.length ≤ 1000000 → pu 37 [.val (nI k), .kp [sl bC .no r]] = some (.agg (cl bC (at16 r k)))) (h27 : ∀ (i c f t : Nat) (v : List UInt8), v.length = 16 → i < 1000000 ∧ c < 1000000 ∧ f < 1000000 ∧ t < 1000000 → pu 27 [.val (nI i), .val (nI c), .val (nI f), .val (nI t), .agg (cl bC v)] = some (.agg (cl bC (advT i c f v (t - f))))) (c i : Nat) (D : List Nat) (r : List UInt8) (hb : i < 1000000 ∧ c < 68) (hD : D.length = 68) (hD4 : gt D c < 4) (hr : 16 * c + 16 ≤ r.length ∧ r.length ≤ 1000000) : FC Tryd.prog gl 39 [.val (nI c), .kp [.val (nI i)], .kp [sl nC .no D], .kp [.fn 37 [.kp [sl bC .no r]]]] [] (.agg (cl bC (endV i D r c))) [] := by
 replace hcx := hcx.reN (M := 16)
 refine FC.ofA (cx := cxP gl 16 pu) (rs := [.cell 5 23]) rfl Tryd.func39 rfl rfl rfl (by simp only [List.length_cons, List.length_nil]; decide) (by simp only [go_sem]) ?_
 simp only [ini, go_sem]
 have hy := True.intro
 have e37 := h37 c r hr
 have ha := at16_len hr.1
 have e27 : pu 27 [.val (nI i), .val (nI c), .val (nI (gt D c)), .val (nI 3), .agg (cl bC (at16 r c))] = some (.agg (cl bC (endV i D r c))) := h27 i c (gt D c) 3 _ ha ⟨hb.1, by omega, by omega, by omega⟩
 have htl := endV_len (i := i) (D := D) hr.1
 refine Tr.w hcx [] _ [none] rfl rfl rfl ?_ X_fc39
 refine Tr.wD hcx hMO [] _ [] rfl rfl rfl rfl ?_ Y_fc39
 exact Tr.ret F_fc39
end Go.Sx
namespace Go.Sx
open Go.RowKit Go.Proofs
theorem td73 : td Tryd.prog 73 = some ⟨.map 28 23, 1, 8, [.map none]⟩ := by kernel_rfl
theorem mk73 : mapKT Tryd.prog 73 = some (28, 23) := by unfold mapKT; rw [td73]
theorem zv23 : zvC Tryd.prog 23 = some (.agg (cl bC (List.replicate 16 0))) := by kernel_rfl
theorem mnew73 : mnewPlan Tryd.prog 73 = some (.mo mnewF) := mnew_eq mk73
theorem oc_map (m : Option Nat) : (Value.map m).oneCell' = true := rfl
theorem oc_nf : (Value.nilFunc).oneCell' = true := rfl
attribute [go_sem] td73 mnew73 oc_map oc_nf
end Go.Sx
