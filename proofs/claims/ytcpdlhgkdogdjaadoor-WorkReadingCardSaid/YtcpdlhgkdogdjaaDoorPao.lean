/-
   And what follows.
-/
import Derived.DeepKeys4
import Derived.MapViews
import Derived.Test.YtcpdlhgkdogdjaaDoorPan
import Derived.Test.YtcpdlhgkdogdjaaDoorPam
import Derived.Test.YtcpdlhgkdogdjaaDoorPal
set_option linter.unusedSimpArgs false
set_option linter.unusedVariables false
namespace Go.Sx
open Go.RowKit Go.Proofs
set_option maxRecDepth 100000
set_option maxHeartbeats 8000000
def LI (l : List Int) : Prop := l.length ≤ 9223372036854775807 ∧ ∀ i,i < l.length → -9223372036854775808 ≤ gt l i ∧ gt l i ≤ 9223372036854775807
theorem capC_T {c : UInt8} (h1 : UInt8.ofNat 97 ≤ c) (h2 : c ≤ UInt8.ofNat 122) : c - UInt8.ofNat 97 + UInt8.ofNat 65 = capC c := by
  unfold capC; exact (if_pos (c := 97 ≤ c ∧ c ≤ 122) ⟨h1,h2⟩).symm
theorem capC_F {c : UInt8} (h : ¬ (UInt8.ofNat 97 ≤ c ∧ c ≤ UInt8.ofNat 122)) : c = capC c := by
  unfold capC; exact (if_neg h).symm
theorem capT_set {w : List UInt8} (h : 0 < w.length) : w.set 0 (capC (gt w 0)) = capT w := by
  cases w with
  | nil => simp at h
  | cons c r => rfl
theorem capT_F {w : List UInt8} (h : ¬ (UInt8.ofNat 97 ≤ gt w 0 ∧ gt w 0 ≤ UInt8.ofNat 122)) : w = capT w := by
  cases w with
  | nil => rfl
  | cons c r => exact congrArg (fun z => z :: r) (capC_F h)
theorem capT_len (w : List UInt8) : (capT w).length = w.length := by cases w <;> rfl
theorem str_cong {x y : List UInt8} (h : x = y) : (some (C.val (str x))) = some (C.val (str y)) := by rw [h]
theorem wl_len (i : Nat) : (gt wlist i).length ≤ 4 := by
  by_cases h : i < 9
  · have := gt_all wlist (fun c => decide (c.length ≤ 4)) (by decide) i h
    simpa using this
  · have e : gt wlist i = [] := by
      unfold gt List.getD; rw [List.getElem?_eq_none (by show 9 ≤ i; omega)]; rfl
    rw [e]; decide
theorem wlist_mk : sl sC .full ((((((((((List.replicate 9 []).set 0 [97,110,110,97]).set 1 [114,111,109,101]).set 2 [107,105,110,103]).set 3 [116,104,101]).set 4 [111,102]).set 5 [111,100,101]).set 6 [108,121,114,101]).set 7 [120]).set 8 [49,50]) = sl sC .full wlist := rfl
theorem wlist_ln : wlist.length = 9 := rfl
theorem textR_T (l : List Int) (k i : Nat) (h : 0 < i) : textR l k (i + 1) = textR l k i ++ [32] ++ uniT (atI l (k + 1 + i) 108) := by rw [textR,if_pos h]
theorem textR_F (l : List Int) (k i : Nat) (h : ¬ 0 < i) : textR l k (i + 1) = textR l k i ++ uniT (atI l (k + 1 + i) 108) := by rw [textR,if_neg h]
theorem dres_len (w : List UInt8) (n : Nat) : (dresT w n).length ≤ w.length + 2 := by
  unfold dresT
  repeat' split
  all_goals (try simp only [List.length_append,List.length_cons,List.length_nil,capT_len])
  all_goals omega
theorem X_fc19 {p : Prop} (e : p := by intro KZ hZ; simp -implicitDefEqProofs (disch := first | omega | (simp only [go_sem,lA,lD,lT] <;> omega) | decide) only [go_sem,↓reduceIte,Nat.reduceEqDiff,reduceCtorEq,Nat.reduceLT,Nat.reduceBEq,Nat.reduceAdd,hy]; with_reducible exact hZ) : p := e
theorem F_fc19 {p : Prop} (e : p := by simp -implicitDefEqProofs (disch := first | omega | (simp only [go_sem,lA,lD,lT] <;> omega) | decide) only [go_sem,↓reduceIte,Nat.reduceEqDiff,reduceCtorEq]; all_goals (exact congrArg (fun z => some (C.val (.int .i64 z))) (by rw [around_int]; first | (rw [if_pos (by omega)]; rfl) | rw [if_neg (by omega)]))) : p := e
theorem fc19 {gl : Nat → C} {M : Nat} {pu : Nat → List C → Option C} (hcx : CxOK (cxP gl M pu)) (n : Int) (m : Nat) (hn : -9223372036854775808 ≤ n ∧ n ≤ 9223372036854775807 ∧ 0 < m ∧ m ≤ 9223372036854775807) : FC Tryd.prog gl 19 [.val (.int .i64 n),.val (nI m)] [] (.val (nI (aroundI n m))) [] := by
 replace hcx := hcx.reN (M := 13)
 refine FC.ofA (cx := cxP gl 13 pu) (rs := [.tmp 4]) rfl Tryd.func19 rfl rfl rfl (by simp only [List.length_cons,List.length_nil]; decide) (by simp only [go_sem]) ?_
 simp only [ini,go_sem]
 have hy := True.intro
 refine Tr.w hcx [] _ [] rfl rfl rfl ?_ X_fc19
 refine Tr.seqK fun K1 hK1 => ?_
 refine Tr.w hcx [] _ [] rfl rfl rfl ?_ X_fc19
 refine Tr.cD rfl (fun hc6 => ?_) (fun hc6 => ?_)
 ·
  refine Tr.v hcx [1000009] _ [] rfl rfl rfl ?_ X_fc19
  refine hK1 _ ?_
  refine Tr.w hcx [1000012] _ [] rfl rfl rfl ?_ X_fc19
  exact Tr.ret F_fc19
 refine Tr.skip ?_
 refine hK1 _ ?_
 refine Tr.w hcx [1000012] _ [] rfl rfl rfl ?_ X_fc19
 exact Tr.ret F_fc19
theorem X_fc65 {p : Prop} (e : p := by intro KZ hZ; simp -implicitDefEqProofs (disch := first | omega | (simp only [go_sem,lA,lD,lT] <;> omega) | decide) only [go_sem,↓reduceIte,Nat.reduceEqDiff,reduceCtorEq,Nat.reduceLT,Nat.reduceBEq,Nat.reduceAdd,h19,Nat.not_lt_zero,hy]; with_reducible exact hZ) : p := e
theorem F_fc65 {p : Prop} (e : p := by simp -implicitDefEqProofs (disch := first | omega | (simp only [go_sem,lA,lD,lT] <;> omega) | decide) only [go_sem,↓reduceIte,Nat.reduceEqDiff,reduceCtorEq]; all_goals (exact congrArg (fun z => some (C.val (nI z))) (by unfold atI; first | rw [if_pos hc14] | rw [if_neg hc14]))) : p := e
theorem fc65 {gl : Nat → C} {M : Nat} {pu : Nat → List C → Option C} (hcx : CxOK (cxP gl M pu)) (h19 : ∀ (n : Int) (m : Nat),-9223372036854775808 ≤ n ∧ n ≤ 9223372036854775807 ∧ 0 < m ∧ m ≤ 9223372036854775807 → pu 19 [.val (.int .i64 n),.val (nI m)] = some (.val (nI (aroundI n m)))) (l : List Int) (i m : Nat) (hl : LI l) (hi : i ≤ 1000000) (hm : 0 < m ∧ m ≤ 9223372036854775807) : FC Tryd.prog gl 65 [sl iC .no l,.val (nI i),.val (nI m)] [] (.val (nI (atI l i m))) [] := by
 replace hcx := hcx.reN (M := 21)
 refine FC.ofA (cx := cxP gl 21 pu) (rs := [.tmp 6]) rfl Tryd.func65 rfl rfl rfl (by simp only [List.length_cons,List.length_nil]; decide) (by simp only [go_sem]) ?_
 simp only [ini,go_sem]
 have hy := True.intro
 have hl1 := hl.1
 refine Tr.w hcx [] _ [] rfl rfl rfl ?_ X_fc65
 refine Tr.seqK fun K1 hK1 => ?_
 refine Tr.w hcx [] [some 7,some 8,some 9,some 10,some 11,some 12,some 13,some 14] [] rfl rfl rfl ?_ X_fc65
 refine Tr.cD rfl (fun hc14 => ?_) (fun hc14 => ?_)
 ·
  refine Tr.w hcx [] _ [] rfl rfl rfl ?_ X_fc65
  exact Tr.ret F_fc65
 have hb1 := hl.2 i (by omega)
 refine Tr.skip ?_
 refine hK1 _ ?_
 refine Tr.w hcx [1000020] _ [] rfl rfl rfl ?_ X_fc65
 exact Tr.ret F_fc65
theorem X_fc121 {p : Prop} (e : p := by intro KZ hZ; simp -implicitDefEqProofs (disch := first | omega | (simp only [go_sem,lA,lD,lT] <;> omega) | decide) only [go_sem,↓reduceIte,Nat.reduceEqDiff,reduceCtorEq,Nat.reduceLT,Nat.reduceBEq,Nat.reduceAdd,Nat.zero_add,Nat.mul_one,Nat.zero_mul,b1,b2,b3,hy]; with_reducible exact hZ) : p := e
theorem F_fc121 {p : Prop} (e : p := by simp -implicitDefEqProofs (disch := first | omega | (simp only [go_sem,lA,lD,lT] <;> omega) | decide) only [go_sem,↓reduceIte,Nat.reduceEqDiff,reduceCtorEq]; all_goals (first | exact str_cong (by rw [capC_T b2 b3,capT_set b1,List.take_of_length_le (by rw [capT_len]; exact Nat.le_refl _)]) | exact str_cong (by rw [← capT_F (by intro hh; first | exact b2 hh.1 | exact b3 hh.2),List.take_length]) | exact str_cong (by cases w with | nil => rfl | cons c r => exact absurd (Nat.succ_pos _) b1))) : p := e
theorem fc121 {gl : Nat → C} {M : Nat} {pu : Nat → List C → Option C} (hcx : CxOK (cxP gl M pu)) (w : List UInt8) (hw : w.length ≤ 1000000) : FC Tryd.prog gl 121 [.val (str w)] [] (.val (str (capT w))) [] := by
 replace hcx := hcx.reN (M := 30)
 refine FC.ofA (cx := cxP gl 30 pu) (rs := [.tmp 2]) rfl Tryd.func121 rfl rfl rfl (by simp only [List.length_cons,List.length_nil]; decide) (by simp only [go_sem]) ?_
 simp only [ini,go_sem]
 have b1 := True.intro
 have b2 := True.intro
 have b3 := True.intro
 have hy := True.intro
 refine Tr.w hcx [] _ [] rfl rfl rfl ?_ X_fc121
 refine Tr.wG hcx [5] [1000005] _ [] rfl rfl rfl ?_ X_fc121
 refine Tr.seqK fun K1 hK1 => ?_
 by_cases b1 : 0 < w.length
 ·
  by_cases b2 : UInt8.ofNat 97 ≤ gt w 0
  ·
   by_cases b3 : gt w 0 ≤ UInt8.ofNat 122
   ·
    refine Tr.w hcx [] [some 6,some 7,some 8,some 9,some 10,some 11,some 12,some 13,some 14,some 15,some 16,some 17,some 18,some 19,some 20] [] rfl rfl rfl ?_ X_fc121
    refine Tr.cT rfl ?_
    refine Tr.v hcx [] _ [] rfl rfl rfl ?_ X_fc121
    refine hK1 _ ?_
    refine Tr.k [3] ?_
    refine Tr.w hcx [1000029] _ [] rfl rfl rfl ?_ X_fc121
    exact Tr.ret F_fc121
   refine Tr.w hcx [] [some 6,some 7,some 8,some 9,some 10,some 11,some 12,some 13,some 14,some 15,some 16,some 17,some 18,some 19,some 20] [] rfl rfl rfl ?_ X_fc121
   refine Tr.cF rfl ?_
   refine Tr.skip ?_
   refine hK1 _ ?_
   refine Tr.w hcx [1000029] _ [] rfl rfl rfl ?_ X_fc121
   exact Tr.ret F_fc121
  refine Tr.w hcx [] [some 6,some 7,some 8,some 9,some 10,some 11,some 12,some 13,some 14,some 15,some 16,some 17,some 18,some 19,some 20] [] rfl rfl rfl ?_ X_fc121
  refine Tr.cF rfl ?_
  refine Tr.skip ?_
  refine hK1 _ ?_
  refine Tr.w hcx [1000029] _ [] rfl rfl rfl ?_ X_fc121
  exact Tr.ret F_fc121
 refine Tr.w hcx [] [some 6,some 7,some 8,some 9,some 10,some 11,some 12,some 13,some 14,some 15,some 16,some 17,some 18,some 19,some 20] [] rfl rfl rfl ?_ X_fc121
 refine Tr.cF rfl ?_
 refine Tr.skip ?_
 refine hK1 _ ?_
 refine Tr.w hcx [1000029] _ [] rfl rfl rfl ?_ X_fc121
 exact Tr.ret F_fc121
theorem X_fc101 {p : Prop} (e : p := by intro KZ hZ; simp -implicitDefEqProofs (disch := first | omega | (simp only [go_sem,lA,lD,lT,capT_len] <;> omega) | decide) only [go_sem,↓reduceIte,Nat.reduceEqDiff,reduceCtorEq,Nat.reduceLT,Nat.reduceBEq,Nat.reduceAdd,h121,hy]; with_reducible exact hZ) : p := e
theorem F_fc101 {p : Prop} (e : p := by simp -implicitDefEqProofs (disch := first | omega | (simp only [go_sem,lA,lD,lT,capT_len] <;> omega) | decide) only [go_sem,↓reduceIte,Nat.reduceEqDiff,reduceCtorEq]; all_goals (exact str_cong (by unfold dresT; simp_all))) : p := e
theorem fc101 {gl : Nat → C} {M : Nat} {pu : Nat → List C → Option C} (hcx : CxOK (cxP gl M pu)) (h121 : ∀ w : List UInt8,w.length ≤ 1000000 → pu 121 [.val (str w)] = some (.val (str (capT w)))) (w : List UInt8) (n : Nat) (hw : w.length ≤ 1000000) (hn : n ≤ 1000000) : FC Tryd.prog gl 101 [.val (str w),.val (nI n)] [] (.val (str (dresT w n))) [] := by
 replace hcx := hcx.reN (M := 33)
 refine FC.ofA (cx := cxP gl 33 pu) (rs := [.tmp 4]) rfl Tryd.func101 rfl rfl rfl (by simp only [List.length_cons,List.length_nil]; decide) (by simp only [go_sem]) ?_
 simp only [ini,go_sem]
 have hy := True.intro
 refine Tr.w hcx [] _ [] rfl rfl rfl ?_ X_fc101
 refine Tr.seqK fun K1 hK1 => ?_
 refine Tr.w hcx [] _ [] rfl rfl rfl ?_ X_fc101
 refine Tr.blk ?_
 refine Tr.w hcx [1000007] _ [] rfl rfl rfl ?_ X_fc101
 refine Tr.cD rfl (fun hc6 => ?_) (fun hc6 => ?_)
 ·
  refine Tr.w hcx [1000009] _ [] rfl rfl rfl ?_ X_fc101
  exact Tr.ret F_fc101
 refine Tr.w hcx [1000011] _ [] rfl rfl rfl ?_ X_fc101
 refine Tr.cD rfl (fun hc10 => ?_) (fun hc10 => ?_)
 ·
  refine Tr.w hcx [1000013] _ [] rfl rfl rfl ?_ X_fc101
  exact Tr.ret F_fc101
 refine Tr.w hcx [1000015] _ [] rfl rfl rfl ?_ X_fc101
 refine Tr.cD rfl (fun hc14 => ?_) (fun hc14 => ?_)
 ·
  refine Tr.w hcx [1000017] _ [] rfl rfl rfl ?_ X_fc101
  exact Tr.ret F_fc101
 refine Tr.w hcx [1000019] _ [] rfl rfl rfl ?_ X_fc101
 refine Tr.cD rfl (fun hc18 => ?_) (fun hc18 => ?_)
 ·
  refine Tr.w hcx [1000022] _ [] rfl rfl rfl ?_ X_fc101
  exact Tr.ret F_fc101
 refine Tr.w hcx [1000024] _ [] rfl rfl rfl ?_ X_fc101
 refine Tr.cD rfl (fun hc23 => ?_) (fun hc23 => ?_)
 ·
  refine Tr.w hcx [1000027] _ [] rfl rfl rfl ?_ X_fc101
  exact Tr.ret F_fc101
 refine Tr.w hcx [1000029] _ [] rfl rfl rfl ?_ X_fc101
 refine Tr.cD rfl (fun hc28 => ?_) (fun hc28 => ?_)
 ·
  refine Tr.w hcx [1000031] _ [] rfl rfl rfl ?_ X_fc101
  exact Tr.ret F_fc101
 refine Tr.skip ?_
 refine hK1 _ ?_
 refine Tr.w hcx [1000032] _ [] rfl rfl rfl ?_ X_fc101
 exact Tr.ret F_fc101
theorem X_fc66 {p : Prop} (e : p := by intro KZ hZ; simp -implicitDefEqProofs (disch := first | omega | (simp only [go_sem,lA,lD,lT,hb1,wlist_ln] <;> omega) | decide) only [go_sem,↓reduceIte,Nat.reduceEqDiff,reduceCtorEq,Nat.reduceLT,Nat.reduceBEq,Nat.reduceAdd,h65',h101,wlist_mk,hy]; with_reducible exact hZ) : p := e
theorem F_fc66 {p : Prop} (e : p := by simp -implicitDefEqProofs (disch := first | omega | (simp only [go_sem,lA,lD,lT,hb1,wlist_ln] <;> omega) | decide) only [go_sem,↓reduceIte,Nat.reduceEqDiff,reduceCtorEq]; all_goals (rfl)) : p := e
theorem fc66 {gl : Nat → C} {M : Nat} {pu : Nat → List C → Option C} (hcx : CxOK (cxP gl M pu)) (h65 : ∀ (l : List Int) (i m : Nat),LI l → i ≤ 1000000 ∧ 0 < m ∧ m ≤ 9223372036854775807 → pu 65 [sl iC .no l,.val (nI i),.val (nI m)] = some (.val (nI (atI l i m)))) (h101 : ∀ (w : List UInt8) (n : Nat),w.length ≤ 1000000 ∧ n ≤ 1000000 → pu 101 [.val (str w),.val (nI n)] = some (.val (str (dresT w n)))) (l : List Int) (k : Nat) (hl : LI l) (hk : k ≤ 1000) : FC Tryd.prog gl 66 [sl iC .no l,.val (nI k)] [] (.val (str (textT l k))) [] := by
 replace hcx := hcx.reN (M := 41)
 refine FC.ofA (cx := cxP gl 41 pu) (rs := [.tmp 4]) rfl Tryd.func66 rfl rfl rfl (by simp only [List.length_cons,List.length_nil]; decide) (by simp only [go_sem]) ?_
 simp only [ini,go_sem]
 have hy := True.intro
 have h65' := fun i m => h65 l i m hl
 have hb0 := atI_lt l k (m := 9) (by decide)
 have hb1 := True.intro
 refine Tr.w hcx [] _ [] rfl rfl rfl ?_ X_fc66
 refine Tr.w hcx [1000010] _ [] rfl rfl rfl ?_ X_fc66
 refine Tr.w hcx [] _ [] rfl rfl rfl ?_ X_fc66
 refine Tr.seqK fun K1 hK1 => ?_
 refine Tr.w hcx [] _ [] rfl rfl rfl ?_ X_fc66
 refine Tr.k [0,1,5,6,7] ?_
 refine Tr.blk ?_
 refine Tr.loopI (α := Nat) (fun a => [(0,?v0_1),(1,?v1_1),(5,?v5_1),(6,.val (str (textR l k a))),(7,.val (nI a))]) (fun a => ?h_1) (fun a => a ≤ 1 + atI l k 9) (fun a => 1 + atI l k 9 - a) (0) ?_ ?le_1 ?hh_1 ?bd_1
 case hh_1 => exact rfl
 case le_1 => exact LT
 · omega
 rintro i hi
 have hb1 := textR_len l k i
 have hb2 := atI_lt l (k + 1 + i) (m := 108) (by decide)
 have hb3 := wl_len (atI l (k + 1 + i) 108 % 9)
 have hb4 := dres_len (gt wlist (atI l (k + 1 + i) 108 % 9)) (atI l (k + 1 + i) 108 / 9)
 have hb5 := Nat.mod_lt (atI l (k + 1 + i) 108) (show 9 > 0 by decide)
 refine Tr.seqK fun K2 hK2 => ?_
 refine Tr.w hcx [] _ [] rfl rfl rfl ?_ X_fc66
 refine Tr.cD rfl (fun hc16 => ?_) (fun hc16 => ?_)
 ·
  refine Tr.skip ?_
  refine hK2 _ ?_
  refine Tr.seqK fun K3 hK3 => ?_
  refine Tr.blk ?_
  refine Tr.w hcx [1000024] _ [] rfl rfl rfl ?_ X_fc66
  refine Tr.k [0,1,5,6,7,8] ?_
  refine Tr.w hcx [1000032] _ [] rfl rfl rfl ?_ X_fc66
  refine Tr.seqK fun K4 hK4 => ?_
  refine Tr.w hcx [] _ [] rfl rfl rfl ?_ X_fc66
  refine Tr.cD rfl (fun hc34 => ?_) (fun hc34 => ?_)
  ·
   refine Tr.v hcx [1000036] _ [] rfl rfl rfl ?_ X_fc66
   refine hK4 _ ?_
   refine Tr.v hcx [1000039] _ [] rfl rfl rfl ?_ X_fc66
   refine hK3 _ ?_
   refine Tr.k [0,1,5,6,7] ?_
   refine Tr.v hcx [1000018] _ [] rfl rfl rfl ?_ X_fc66
   refine ⟨i + 1,⟨by omega,O1⟩,?_,rfl⟩
   (simp only [Le_nil,Le_cons,↓A_cons,↓reduceIte,Nat.reduceEqDiff,CLe_refl,CLe_top,CLe_full,CLe_nil,CLe_own,and_true,true_and]; all_goals (repeat' first | exact CLe.refl _ | exact True.intro | (refine CLe_sln ?_; first | rfl | (simp only [List.take_zero]; done)) | exact CLe_nI (by omega) | exact CLe_int (by omega) | exact CLe_inI (by omega) | exact CLe_nIi (by omega) | with_reducible apply And.intro))
   all_goals first | (rw [textR_T l k i hc34]; exact CLe.refl _) | (rw [textR_F l k i hc34]; exact CLe.refl _)
  refine Tr.skip ?_
  refine hK4 _ ?_
  refine Tr.v hcx [1000039] _ [] rfl rfl rfl ?_ X_fc66
  refine hK3 _ ?_
  refine Tr.v hcx [1000018] _ [] rfl rfl rfl ?_ X_fc66
  refine ⟨i + 1,⟨by omega,O1⟩,?_,rfl⟩
  (simp only [Le_nil,Le_cons,↓A_cons,↓reduceIte,Nat.reduceEqDiff,CLe_refl,CLe_top,CLe_full,CLe_nil,CLe_own,and_true,true_and]; all_goals (repeat' first | exact CLe.refl _ | exact True.intro | (refine CLe_sln ?_; first | rfl | (simp only [List.take_zero]; done)) | exact CLe_nI (by omega) | exact CLe_int (by omega) | exact CLe_inI (by omega) | exact CLe_nIi (by omega) | with_reducible apply And.intro))
  all_goals first | (rw [textR_T l k i hc34]; exact CLe.refl _) | (rw [textR_F l k i hc34]; exact CLe.refl _)
 obtain rfl : i = 1 + atI l k 9 := by omega
 refine Tr.exit ?_
 refine hK1 _ ?_
 refine Tr.w hcx [1000040] _ [] rfl rfl rfl ?_ X_fc66
 exact Tr.ret F_fc66
end Go.Sx
namespace Go.Sx
open Go.RowKit Go.Proofs
theorem fm_len {β : Type} (F : Nat → List β) (v : Nat) : ((List.range (v + 1)).flatMap F).length = ((List.range v).flatMap F).length + (F v).length := by
  rw [List.range_succ,List.flatMap_append,List.length_append]; simp
theorem fm_le {β : Type} (F : Nat → List β) (v : Nat) : ∀ d,((List.range v).flatMap F).length ≤ ((List.range (v + d)).flatMap F).length
  | 0 => Nat.le_refl _
  | d + 1 => Nat.le_trans (fm_le F v d) (by rw [← Nat.add_assoc,fm_len]; omega)
theorem fm_get {β : Type} [Inhabited β] (F : Nat → List β) (v j : Nat) (hj : j < (F v).length) : ∀ d,gt ((List.range (v + 1 + d)).flatMap F) (((List.range v).flatMap F).length + j) = gt (F v) j
  | 0 => by
    rw [Nat.add_zero,List.range_succ,List.flatMap_append]
    simp only [gt,List.getD]
    rw [List.getElem?_append_right (by omega),Nat.add_sub_cancel_left]; simp
  | d + 1 => by
    rw [← Nat.add_assoc,List.range_succ,List.flatMap_append]
    have h := fm_get F v j hj d
    have h1 := fm_le F (v + 1) d
    rw [fm_len] at h1
    simp only [gt,List.getD] at h ⊢
    rw [List.getElem?_append_left (by omega)]; exact h
theorem fm_gtn {β : Type} [Inhabited β] (F : Nat → List β) (n v j : Nat) (hv : v < n) (hj : j < (F v).length) : gt ((List.range n).flatMap F) (((List.range v).flatMap F).length + j) = gt (F v) j ∧ ((List.range v).flatMap F).length + j < ((List.range n).flatMap F).length := by
  obtain ⟨d,rfl⟩ : ∃ d,n = v + 1 + d := ⟨n - (v + 1),by omega⟩
  refine ⟨fm_get F v j hj d,?_⟩
  have := fm_le F (v + 1) d
  rw [fm_len] at this; omega
abbrev Rd := (Nat × Nat × Nat) × Psg
def rdA (v a : Nat) (l : List Psg) : List Rd := (List.range l.length).map fun i => ((v,a,i),gt l i)
def rdV (v : Nat) (l : Vol) : List Rd := (List.range l.length).flatMap fun a => rdA v a (gt l a).2
def rdW (w : Wrk) : List Rd := (List.range w.length).flatMap fun v => rdV v (gt w v)
def oA (v : Nat) (l : Vol) (a : Nat) : Nat := ((List.range a).flatMap fun a => rdA v a (gt l a).2).length
def oV (w : Wrk) (v : Nat) : Nat := ((List.range v).flatMap fun v => rdV v (gt w v)).length
theorem rdA_len (v a : Nat) (l : List Psg) : (rdA v a l).length = l.length := by simp [rdA]
theorem rdA_gt (v a : Nat) (l : List Psg) (i : Nat) (h : i < l.length) : gt (rdA v a l) i = ((v,a,i),gt l i) := by
  simp [rdA,gt,List.getD,List.getElem?_map,List.getElem?_range h]
theorem oA_0 (v : Nat) (l : Vol) : oA v l 0 = 0 := rfl
theorem oA_S (v : Nat) (l : Vol) (a : Nat) : oA v l (a + 1) = oA v l a + (gt l a).2.length := by unfold oA; rw [fm_len,rdA_len]
theorem oA_n (v : Nat) (l : Vol) : oA v l l.length = (rdV v l).length := rfl
theorem oV_S (w : Wrk) (v : Nat) : oV w (v + 1) = oV w v + (rdV v (gt w v)).length := by unfold oV; rw [fm_len]
theorem oV_n (w : Wrk) : oV w w.length = (rdW w).length := rfl
theorem rdW_gt (w : Wrk) (v a i : Nat) (hv : v < w.length) (ha : a < (gt w v).length) (hi : i < (gt (gt w v) a).2.length) :
    gt (rdW w) (oV w v + (oA v (gt w v) a + i)) = ((v,a,i),gt (gt (gt w v) a).2 i) ∧ oV w v + (oA v (gt w v) a + i) < (rdW w).length := by
  have h1 := fm_gtn (fun a => rdA v a (gt (gt w v) a).2) (gt w v).length a i ha (by rw [rdA_len]; exact hi)
  have h2 := fm_gtn (fun v => rdV v (gt w v)) w.length v (oA v (gt w v) a + i) hv h1.2
  refine ⟨h2.1.trans (h1.1.trans (rdA_gt _ _ _ _ hi)),h2.2⟩
end Go.Sx
namespace Go.Sx
open Go.RowKit Go.Proofs
set_option maxRecDepth 100000
set_option maxHeartbeats 8000000
theorem X_it93 {p : Prop} (e : p := by intro KZ hZ; simp -implicitDefEqProofs (disch := first | omega | (simp only [go_sem,lA,lD,lT] <;> omega) | decide) only [go_sem,↓reduceIte,Nat.reduceEqDiff,reduceCtorEq,Nat.reduceLT,Nat.reduceBEq,Nat.reduceAdd,ss,List.append_nil]; with_reducible exact hZ) : p := e
theorem E_it93 {p : Prop} (e : p := by intro c k KZ hZ; simp -implicitDefEqProofs (disch := first | omega | decide) only [go_sem,↓reduceIte,Nat.reduceEqDiff,reduceCtorEq,Nat.reduceLT,Nat.reduceBEq,Nat.reduceAdd]; with_reducible exact hZ) : p := e
theorem K_it93 {p : Prop} (e : p := by intro RZ hZ; simp only [pk_cons,pk_nil,↓A_cons,↓reduceIte,Nat.reduceEqDiff,reduceCtorEq]; exact hZ) : p := e
theorem FZ {p : Prop} (e : p := by (repeat' (first | exact True.intro | (refine ⟨rfl,.inl ⟨rfl,by first | rfl | exact noRef_sl _ _ _ _⟩,?_⟩) | (refine ⟨rfl,.inr ⟨_,rfl,rfl⟩,?_⟩)))) : p := e
def xsW (w : Wrk) (i : Nat) : List C := [.agg [.val (nI (gt (rdW w) i).1.1),.val (nI (gt (rdW w) i).1.2.1),.val (nI (gt (rdW w) i).1.2.2)],.agg (pC (gt (rdW w) i).2)]
def WB (w : Wrk) : Prop := w.length < 1099511627776 ∧ (∀ v,v < w.length → (gt w v).length < 1099511627776) ∧ ∀ v a,v < w.length → a < (gt w v).length → (gt (gt w v) a).2.length < 1099511627776
theorem it93 {gl : Nat → C} {M : Nat} {pu : Nat → List C → Option C} (hcx : CxOK (cxP gl M pu)) (w : Wrk) (hw : WB w) :
    ItrB Tryd.prog gl 93 [.kp [sl vC .no w]] (rdW w).length (xsW w) RowN := by
  replace hcx := hcx.reN (M := 44)
  refine ItrB.of (cx := cxP gl 44 pu) rfl Tryd.func93 rfl rfl rfl (by simp only [List.length_cons,List.length_nil]; decide) ?_
  intro n l0 rec G I B h Y hY hst h0 hR
  have ss := True.intro
  have hw1 := hw.1
  simp only [ini,go_sem]
  refine TrY.w hcx [] _ [] rfl rfl rfl ?_ X_it93
  refine TrY.block ?_
  refine TrY.loop (fun m s => ∃ v,v ≤ w.length ∧ m = w.length - v ∧ I (oV w v) s.h ∧ Le s.env [(0,.val (.func (.yield l0) #[] #[])),(10,sl vC .no w),(11,.val (nI w.length)),(12,.val (nI v))]) w.length ⟨0,Nat.zero_le _,rfl,h0,LT⟩ ?_
  rintro m s ⟨v,hv,rfl,hIv,hle⟩
  refine TrY.live _ hle ?_
  generalize s.h = k at hIv ⊢
  refine TrY.w hcx [] _ [] rfl rfl rfl ?_ X_it93
  by_cases hc : v < w.length
  · refine TrY.seq (TrY.cond (b := true) (by rw [ev_tmp]; exact congrArg (fun b => C.val (.bool b)) (decide_eq_true hc)) ?_)
    refine TrY.lift (Tr.skip (Q := fun x s' => x = .normal ∧ s' = _) ⟨rfl,rfl⟩) ?_
    rintro x s' ⟨rfl,rfl⟩
    refine ⟨fun _ => ?_,fun c => absurd rfl c⟩
    refine TrY.k [0,10,11,12] ?_ K_it93
    refine TrY.seq (TrY.block ?_)
    have hk := hR _ k hIv
    obtain ⟨V,hV⟩ : ∃ V,gt w v = V := ⟨_,rfl⟩
    have hVl := hw.2.1 v hc
    rw [hV] at hVl
    have ss := hV
    refine TrY.w hcx [1000014] _ [none] rfl rfl rfl ?_ X_it93
    refine TrY.w hcx [] _ [] rfl rfl rfl ?_ X_it93
    refine TrY.k [0,3,10,11,12,18,19,20] ?_ K_it93
    refine TrY.dr1 hcx hk (noRefs_f vC 0 V) (live_vC V) (by simp only [List.all_cons,List.all_nil,noRef_val,noRef_sl,Bool.and_self]) ?_
    refine TrY.block ?_
    refine TrY.loop (fun m s => ∃ a,a ≤ V.length ∧ m = V.length - a ∧ I (oV w v + oA v V a) s.h ∧ Le s.env [(0,.val (.func (.yield l0) #[] #[])),(3,.val (nI v)),(10,sl vC .no w),(11,.val (nI w.length)),(12,.val (nI v)),(18,sl aC .no V),(19,.val (nI V.length)),(20,.val (nI a))]) V.length ⟨0,Nat.zero_le _,rfl,by rw [oA_0]; exact hIv,LT⟩ ?_
    rintro m s ⟨a,ha,rfl,hIa,hle⟩
    refine TrY.live _ hle ?_
    generalize s.h = k2 at hIa ⊢
    refine TrY.w hcx [] _ [] rfl rfl rfl ?_ X_it93
    by_cases hca : a < V.length
    · refine TrY.seq (TrY.cond (b := true) (by rw [ev_tmp]; exact congrArg (fun b => C.val (.bool b)) (decide_eq_true hca)) ?_)
      refine TrY.lift (Tr.skip (Q := fun x s' => x = .normal ∧ s' = _) ⟨rfl,rfl⟩) ?_
      rintro x s' ⟨rfl,rfl⟩
      refine ⟨fun _ => ?_,fun c => absurd rfl c⟩
      refine TrY.k [0,3,10,11,12,18,19,20] ?_ K_it93
      refine TrY.seq (TrY.block ?_)
      have hk2 := hR _ k2 hIa
      obtain ⟨L,hL⟩ : ∃ L,(gt V a).2 = L := ⟨_,rfl⟩
      have hLl := hw.2.2 v a hc (by rw [hV]; exact hca)
      rw [hV,hL] at hLl
      have ss := And.intro hV hL
      refine TrY.w hcx [1000022] _ [none] rfl rfl rfl ?_ X_it93
      refine TrY.w hcx [] _ [] rfl rfl rfl ?_ X_it93
      refine TrY.k [0,3,5,10,11,12,18,19,20,26,27,28] ?_ K_it93
      refine TrY.dr1 hcx hk2 (noRefs_f aC 0 (gt V a)) (live_aC (gt V a)) (by simp only [List.all_cons,List.all_nil,noRef_val,noRef_sl,Bool.and_self]) ?_
      refine TrY.block ?_
      refine TrY.loop (fun m s => ∃ i,i ≤ L.length ∧ m = L.length - i ∧ I (oV w v + (oA v V a + i)) s.h ∧ Le s.env [(0,.val (.func (.yield l0) #[] #[])),(3,.val (nI v)),(5,.val (nI a)),(10,sl vC .no w),(11,.val (nI w.length)),(12,.val (nI v)),(18,sl aC .no V),(19,.val (nI V.length)),(20,.val (nI a)),(26,sl pC .no L),(27,.val (nI L.length)),(28,.val (nI i))]) L.length ⟨0,Nat.zero_le _,rfl,hIa,LT⟩ ?_
      rintro m s ⟨i,hi,rfl,hIi,hle⟩
      refine TrY.live _ hle ?_
      generalize s.h = k3 at hIi ⊢
      refine TrY.w hcx [] _ [] rfl rfl rfl ?_ X_it93
      by_cases hci : i < L.length
      · refine TrY.seq (TrY.cond (b := true) (by rw [ev_tmp]; exact congrArg (fun b => C.val (.bool b)) (decide_eq_true hci)) ?_)
        refine TrY.lift (Tr.skip (Q := fun x s' => x = .normal ∧ s' = _) ⟨rfl,rfl⟩) ?_
        rintro x s' ⟨rfl,rfl⟩
        refine ⟨fun _ => ?_,fun c => absurd rfl c⟩
        refine TrY.k [0,3,5,10,11,12,18,19,20,26,27,28] ?_ K_it93
        refine TrY.seq (TrY.block ?_)
        have hk3 := hR _ k3 hIi
        have hg := rdW_gt w v a i hc (by rw [hV]; exact hca) (by rw [hV,hL]; exact hci)
        rw [hV,hL] at hg
        refine TrY.w hcx [1000030] _ [none] rfl rfl rfl ?_ X_it93
        refine TrY.k [0,3,5,7,8,10,11,12,18,19,20,26,27,28] ?_ K_it93
        refine TrY.fz1 hcx [(0,.val (.func (.yield l0) #[] #[])),(3,.val (nI v)),(5,.val (nI a)),(7,.val (nI i)),(8,.kp (pC (gt L i))),(10,sl vC .no w),(11,.val (nI w.length)),(12,.val (nI v)),(18,sl aC .no V),(19,.val (nI V.length)),(20,.val (nI a)),(26,sl pC .no L),(27,.val (nI L.length)),(28,.val (nI i))] (pC (gt L i)) hk3 (noRefs_f pC 0 (gt L i)) (live_pC _) rfl FZ ?_
        refine TrY.yw hcx hY 6 rfl (show 39 < 44 by decide) rfl [] _ rfl rfl (fun post hp => hst _ k3 post hg.2 hIi hp) X_it93 rfl ?_ E_it93 ?_ ?_
        · unfold xsW; rw [hg.1]; rfl
        · intro k4 hk4
          refine TrY.cond (b := false) rfl ?_
          refine TrY.lift (Tr.skip (Q := fun x s' => x = .normal ∧ s' = _) ⟨rfl,rfl⟩) ?_
          rintro x s' ⟨rfl,rfl⟩
          refine ⟨fun _ => ?_,fun c => absurd rfl c⟩
          refine TrY.k [0,3,5,10,11,12,18,19,20,26,27,28] ?_ K_it93
          refine TrY.v hcx [] _ [] rfl rfl rfl ?_ X_it93
          exact ⟨rfl,L.length - (i + 1),by omega,i + 1,by omega,rfl,hk4,LT⟩
        · intro j k4 hk4
          exact Tr.cT rfl (Tr.ret hk4)
      · refine TrY.seq (TrY.cond (b := false) (by rw [ev_tmp]; exact congrArg (fun b => C.val (.bool b)) (decide_eq_false hci)) ?_)
        refine TrY.lift (Tr.exit (Q := fun x s' => x = .exit 4 ∧ s' = _) ⟨rfl,rfl⟩) ?_
        rintro x s' ⟨rfl,rfl⟩
        obtain rfl : i = L.length := by omega
        refine ⟨fun _ => ?_,fun c => absurd rfl c⟩
        refine TrY.k [0,3,10,11,12,18,19,20] ?_ K_it93
        refine TrY.v hcx [] _ [] rfl rfl rfl ?_ X_it93
        exact ⟨rfl,V.length - (a + 1),by omega,a + 1,by omega,rfl,by rw [oA_S,hL]; exact hIi,LT⟩
    · refine TrY.seq (TrY.cond (b := false) (by rw [ev_tmp]; exact congrArg (fun b => C.val (.bool b)) (decide_eq_false hca)) ?_)
      refine TrY.lift (Tr.exit (Q := fun x s' => x = .exit 2 ∧ s' = _) ⟨rfl,rfl⟩) ?_
      rintro x s' ⟨rfl,rfl⟩
      obtain rfl : a = V.length := by omega
      refine ⟨fun _ => ?_,fun c => absurd rfl c⟩
      refine TrY.k [0,10,11,12] ?_ K_it93
      refine TrY.v hcx [] _ [] rfl rfl rfl ?_ X_it93
      exact ⟨rfl,w.length - (v + 1),by omega,v + 1,by omega,rfl,by rw [oV_S,hV,← oA_n]; exact hIa,LT⟩
  · refine TrY.seq (TrY.cond (b := false) (by rw [ev_tmp]; exact congrArg (fun b => C.val (.bool b)) (decide_eq_false hc)) ?_)
    refine TrY.lift (Tr.exit (Q := fun x s' => x = .exit 0 ∧ s' = _) ⟨rfl,rfl⟩) ?_
    rintro x s' ⟨rfl,rfl⟩
    obtain rfl : v = w.length := by omega
    rw [oV_n] at hIv
    exact hIv
theorem RowN.c {n : Nat} {h : Hp} {l : List C} (H : RowN n h) (h1 : noRefs 0 l = true) (h2 : liveC (some l) = some l) : RowN (n + 1) (some l :: h) :=
  ⟨by simp [H.len],by rw [noRefH_some,h1,H.nr]; rfl,fun j hj => by
    cases j with
    | zero => left; rw [at_cons0,h2]; rfl
    | succ j =>
      have := H.lv j (by omega)
      rw [at_consS,mp_consS]
      simpa using this⟩
noncomputable def cxPT (gl : Nat → C) (M : Nat) (pu : Nat → List C → Option C) : Cx := { cxP gl M pu with top := false }
section
variable {gl : Nat → C} {M : Nat} {pu : Nat → List C → Option C}
theorem cxPT_P : (cxPT gl M pu).P = Tryd.prog := rfl
theorem cxPT_N : (cxPT gl M pu).N = M := rfl
theorem cxPT_pu : (cxPT gl M pu).pu = pu := rfl
theorem cxPT_gr (d : Option Nat) : isG (cxPT gl M pu) d = false := by cases d <;> rfl
theorem hMOT : (cxPT gl M pu).P.follows .mixedOrders = true := hMO (gl := gl) (M := M) (pu := pu)
theorem Tr.rfR {n : Nat} {Q : Ex → St → Prop} {g f m : Nat} {ps : List Nat} {assign body : Code} {e : List (Nat × C)} {h : Hp} {caps : List C} (N : Nat) (xs : Nat → List C) (H : Nat → Hp) (hg : A e g = .fn f caps) (hI : ItrB Tryd.prog gl f caps N xs RowN ∧ ∀ i,RowN m (H i))
    (hx : ∀ i,i < N → (xs i).length = ps.length) (hp : ∀ p ∈ ps,p < M) (h0 : h = H 0)
    (hb : ∀ i,i < N → Tr (cxPT gl M pu) (H i).length assign ⟨A (bindL ps (xs i) (nrE e)),H i⟩ fun x s => x = .normal ∧ Tr (cxPT gl M pu) (H i).length body s (RoundQ (H i).length (fun k => k = H (i + 1)) fun x h' => Q x ⟨A e,h'⟩))
    (hd : Q .normal ⟨A e,H N⟩) : Tr (cxP gl M pu) n (.rangeFunc (.tmp g) ps.toArray assign body) ⟨A e,h⟩ Q :=
  Tr.rfB (cx := cxP gl M pu) rfl N xs H hg hI.1 m hI.2 hx hp h0 hb hd
end
attribute [go_sem] cxPT_P cxPT_N cxPT_pu cxPT_gr
end Go.Sx
namespace Go.Sx
open Go.RowKit Go.Proofs
set_option maxRecDepth 100000
set_option maxHeartbeats 8000000
theorem Tr.slv {cx : Cx} {n : Nat} {c : Code} {Q : Ex → St → Prop} {e : List (Nat × C)} {h : Hp} (p : Nat) {r : Rt} (hp : A e p = .sl r 0 []) (H : ∀ a cap,cap ≤ maxLen → Tr cx n c ⟨A ((p,.val (.slice a 0 cap)) :: e),h⟩ Q) : Tr cx n c ⟨A e,h⟩ Q := by
  intro r' hr G w a S R hR
  have hv := S.pre.env.1 p
  simp only [] at hv
  rw [hp] at hv
  simp only [Rep] at hv
  obtain ⟨a',cap,hv,_,h2,_⟩ := hv
  refine H a' cap h2 r' hr G w a ⟨S.defers,S.size,⟨S.pre.ok,⟨fun t => ?_,fun t s m xs q => ?_⟩,S.pre.glob⟩⟩ R hR
  · simp only [A]
    split
    · rename_i e1; subst e1; exact rep_val.2 hv
    · exact S.pre.env.1 t
  · simp only [A] at q
    split at q
    · cases q
    · exact S.pre.env.2 t s m xs q
theorem slv_le {α : Type} (f : α → List C) {a : Option Addr} {cap : Nat} (h : cap ≤ maxLen) : CLe (.val (.slice a 0 cap)) (sl f .no []) :=
  ⟨fun G v q => by
    rw [rep_val] at q; subst q
    show ∃ a' c',_
    exact ⟨a,cap,rfl,Nat.zero_le _,h,(fun x => by cases x),.inl rfl⟩,fun s m xs q => by cases q⟩
theorem eq_vv35 (op : BinOp) (a : Option Addr) (n cap : Nat) : binPlan Tryd.prog op 35 (.val (.slice a n cap)) (.val (.slice none 0 0)) = eqR op (decide (a.isNone = true)) := by
  rw [Bool.decide_eq_true]
  have hg : Tryd.prog.eqGuardType Tryd.prog.depth 35 = false := by kernel_rfl
  have he : eqC Tryd.prog 9 35 (.val (.slice a n cap)) (.val (.slice none 0 0)) = some a.isNone := by
    unfold eqC; rw [td35]; cases a <;> rfl
  show eqPlan Tryd.prog op 35 _ _ = _
  unfold eqPlan
  rw [if_pos ⟨.inr (.inl ⟨rfl,rfl⟩),hg⟩]
  unfold eqR
  cases op <;> simp [he,vp,Plan.pure]
theorem bsA_iD0 (u : TypeDesc) (y : Nat) : bsA (some ⟨u,3,y,[nI 0,nI 0,nI 0]⟩) 0 [] = some (vp (sl iD .full [])) := rfl
theorem eq_sn35 (op : BinOp) (x : ID) (l : List ID) : binPlan Tryd.prog op 35 (sl iD .no (x :: l)) (.val (.slice none 0 0)) = eqR op false :=
  eq_sn op (x := sl iD .no (x :: l)) rfl (fun v e => by cases e) td35 (by kernel_rfl)
theorem X_fc53 {p : Prop} (e : p := by intro KZ hZ; simp -implicitDefEqProofs (disch := first | omega | (simp only [go_sem,lA,lD,lT] <;> omega) | decide) only [go_sem,↓reduceIte,Nat.reduceEqDiff,reduceCtorEq,Nat.reduceLT,Nat.reduceBEq,Nat.reduceAdd,hy]; with_reducible exact hZ) : p := e
theorem F_fc53 {p : Prop} (e : p := by simp -implicitDefEqProofs (disch := first | omega | (simp only [go_sem,lA,lD,lT] <;> omega) | decide) only [go_sem,↓reduceIte,Nat.reduceEqDiff,reduceCtorEq]) : p := e
theorem fc53 {gl : Nat → C} {M : Nat} {pu : Nat → List C → Option C} (hcx : CxOK (cxP gl M pu)) (w : Wrk) : FC Tryd.prog gl 53 [.agg [sl vC .no w]] [] (.fn 93 [.kp [sl vC .no w]]) [] := by
 replace hcx := hcx.reN (M := 4)
 refine FC.ofA (cx := cxP gl 4 pu) (rs := [.tmp 2]) rfl Tryd.func53 rfl rfl rfl (by simp only [List.length_cons,List.length_nil]; decide) (by simp only [go_sem]) ?_
 simp only [ini,go_sem]
 have hy := True.intro
 refine Tr.w hcx [] _ [none] rfl rfl rfl ?_ X_fc53
 refine Tr.w hcx [1000003] _ [] rfl rfl rfl ?_ X_fc53
 refine Tr.f1 hcx 0 [sl vC .no w] ?_
 exact Tr.ret F_fc53
theorem X_fc102n {p : Prop} (e : p := by intro KZ hZ; simp -implicitDefEqProofs (disch := first | omega | (simp only [go_sem,lA,lD,lT] <;> omega) | decide) only [go_sem,↓reduceIte,Nat.reduceEqDiff,reduceCtorEq,Nat.reduceLT,Nat.reduceBEq,Nat.reduceAdd,eq_vv35,bsA_iD0,hy]; with_reducible exact hZ) : p := e
theorem F_fc102n {p : Prop} (e : p := by simp -implicitDefEqProofs (disch := first | omega | (simp only [go_sem,lA,lD,lT] <;> omega) | decide) only [go_sem,↓reduceIte,Nat.reduceEqDiff,reduceCtorEq]; all_goals (rfl)) : p := e
theorem fc102n {gl : Nat → C} {M : Nat} {pu : Nat → List C → Option C} (hcx : CxOK (cxP gl M pu)) : FC Tryd.prog gl 102 [sl iD .no []] [] (sl iD .no []) [] := by
 replace hcx := hcx.reN (M := 8)
 refine FC.ofA (cx := cxP gl 8 pu) (rs := [.tmp 2]) rfl Tryd.func102 rfl rfl rfl (by simp only [List.length_cons,List.length_nil]; decide) (by simp only [go_sem]) ?_
 simp only [ini,go_sem]
 have hy := True.intro
 refine Tr.w hcx [] _ [] rfl rfl rfl ?_ X_fc102n
 refine Tr.seqK fun K1 hK1 => ?_
 refine Tr.slv 0 rfl ?_
 intro a cap hcap
 refine Tr.w hcx [] _ [] rfl rfl rfl ?_ X_fc102n
 refine Tr.cD rfl (fun hc4 => ?_) (fun hc4 => ?_)
 ·
  refine Tr.w hcx [] _ [] rfl rfl rfl ?_ X_fc102n
  refine Tr.live [(2,sl iD .no ([]))] (by simp only [Le_cons,Le_nil,↓A_cons,↓reduceIte,Nat.reduceEqDiff,and_true]; first | exact CLe.nil _ | exact CLe.noR (sl iD (.own 3) ([]))) ?_
  exact Tr.ret F_fc102n
 refine Tr.skip ?_
 refine hK1 _ ?_
 refine Tr.live [(0,sl iD .no [])] (by simp only [Le_cons,Le_nil,↓A_cons,↓reduceIte,Nat.reduceEqDiff,and_true]; exact slv_le iD hcap) ?_
 refine Tr.w hcx [5,1000007] _ [] rfl rfl rfl ?_ X_fc102n
 refine Tr.live [(2,sl iD .no ([]))] (by simp only [Le_cons,Le_nil,↓A_cons,↓reduceIte,Nat.reduceEqDiff,and_true]; first | exact CLe.nil _ | exact CLe.noR (sl iD (.own 3) ([]))) ?_
 exact Tr.ret F_fc102n
theorem X_fc102s {p : Prop} (e : p := by intro KZ hZ; simp -implicitDefEqProofs (disch := first | omega | (simp only [go_sem,lA,lD,lT] <;> omega) | decide) only [go_sem,↓reduceIte,Nat.reduceEqDiff,reduceCtorEq,Nat.reduceLT,Nat.reduceBEq,Nat.reduceAdd,eq_sn35,bsA_iD0,hy]; with_reducible exact hZ) : p := e
theorem F_fc102s {p : Prop} (e : p := by simp -implicitDefEqProofs (disch := first | omega | (simp only [go_sem,lA,lD,lT] <;> omega) | decide) only [go_sem,↓reduceIte,Nat.reduceEqDiff,reduceCtorEq]; all_goals (rfl)) : p := e
theorem fc102s {gl : Nat → C} {M : Nat} {pu : Nat → List C → Option C} (hcx : CxOK (cxP gl M pu)) (x : ID) (l : List ID) (hl : l.length < 1000000) : FC Tryd.prog gl 102 [sl iD .no (x :: l)] [] (sl iD .no (x :: l)) [] := by
 replace hcx := hcx.reN (M := 8)
 refine FC.ofA (cx := cxP gl 8 pu) (rs := [.tmp 2]) rfl Tryd.func102 rfl rfl rfl (by simp only [List.length_cons,List.length_nil]; decide) (by simp only [go_sem]) ?_
 simp only [ini,go_sem]
 have hy := True.intro
 refine Tr.w hcx [] _ [] rfl rfl rfl ?_ X_fc102s
 refine Tr.seqK fun K1 hK1 => ?_
 refine Tr.w hcx [] _ [] rfl rfl rfl ?_ X_fc102s
 refine Tr.cF rfl ?_
 refine Tr.skip ?_
 refine hK1 _ ?_
 refine Tr.w hcx [5,1000007] _ [] rfl rfl rfl ?_ X_fc102s
 refine Tr.live [(2,sl iD .no (x :: l))] (by simp only [Le_cons,Le_nil,↓A_cons,↓reduceIte,Nat.reduceEqDiff,and_true]; first | exact CLe.nil _ | exact CLe.noR (sl iD (.own 3) (x :: l))) ?_
 exact Tr.ret F_fc102s
end Go.Sx
namespace Go.Sx
open Go.RowKit Go.Proofs
set_option maxRecDepth 100000
set_option maxHeartbeats 8000000
theorem wrs_pC6 (x : Psg) : wrs (pC x) 6 (sl iD .no x.2.2.2.2) = some (pC x,.val undef) := rfl
theorem bsA_pC (u : TypeDesc) (y : Nat) (x : Psg) : bsA (some ⟨u,7,y,[nI 0,nI 0,nI 0,nI 0,nI 0,str [],.slice none 0 0]⟩) 1 [(0,.agg (pC x))] = some (vp (sl pC .full [x])) := rfl
theorem bsA_iD (u : TypeDesc) (y : Nat) (x : ID) : bsA (some ⟨u,3,y,[nI 0,nI 0,nI 0]⟩) 1 [(0,.agg (iD x))] = some (vp (sl iD .full [x])) := rfl
theorem RoundQ.c {k : Nat} {I1 : Hp → Prop} {Q : Ex → Hp → Prop} {s : St} (h : I1 (s.h.take k)) (hb : ∀ (b : Nat) cells,b < k → s.h[b]? = some (some cells) → noRefs k cells = true := by
    first
    | (rintro (_ | b) cells hb hq
       · (cases hq; first | (simp only [noRefs_cons,noRefs_nil,noRef_sl,noRef_val,noRefs_f,noRefs_cl,Bool.and_self]; done) | (simp only [go_sem]; done))
       · omega)
    | (rintro (_ | _ | b) cells hb hq
       · (cases hq; first | (simp only [noRefs_cons,noRefs_nil,noRef_sl,noRef_val,noRefs_f,noRefs_cl,Bool.and_self]; done) | (simp only [go_sem]; done))
       · (cases hq; first | (simp only [noRefs_cons,noRefs_nil,noRef_sl,noRef_val,noRefs_f,noRefs_cl,Bool.and_self]; done) | (simp only [go_sem]; done))
       · omega)) : RoundQ k I1 Q .normal s := .inl ⟨h,hb⟩
attribute [go_sem high] wrs_pC6
attribute [go_sem] bsA_pC bsA_iD bsA_iD0 xsW
theorem fc102 {gl : Nat → C} {M : Nat} {pu : Nat → List C → Option C} (hcx : CxOK (cxP gl M pu)) (l : List ID) (hl : l.length ≤ 1000000) : FC Tryd.prog gl 102 [sl iD .no l] [] (sl iD .no l) [] := by
  cases l with
  | nil => exact fc102n hcx
  | cons x l => exact fc102s hcx x l (by simp only [List.length_cons] at hl; omega)
def alW (w : Wrk) : List Psg := (rdW w).map (·.2)
theorem alW_len (w : Wrk) : (alW w).length = (rdW w).length := by simp [alW]
theorem alW_gt (w : Wrk) (i : Nat) (h : i < (rdW w).length) : gt (alW w) i = (gt (rdW w) i).2 := by simp [alW,gt,List.getD,List.getElem?_eq_getElem h]
theorem take_sn {α : Type} [Inhabited α] (l : List α) (i : Nat) (h : i < l.length) : l.take i ++ [gt l i] = l.take (i + 1) := by
  rw [List.take_add_one,List.getElem?_eq_getElem h]; simp [gt,List.getD,List.getElem?_eq_getElem h]
def WS (w : Wrk) : Prop := WB w ∧ (rdW w).length ≤ 100000 ∧ ∀ i,i < (rdW w).length → (gt (rdW w) i).2.2.2.2.2.length ≤ 1000000
theorem X_fc68 {p : Prop} (e : p := by intro KZ hZ; simp -implicitDefEqProofs (disch := first | omega | (simp only [go_sem,lA,lD,lT] <;> omega) | decide) only [go_sem,↓reduceIte,Nat.reduceEqDiff,reduceCtorEq,Nat.reduceLT,Nat.reduceBEq,Nat.reduceAdd,e102,hy]; with_reducible exact hZ) : p := e
theorem F_fc68 {p : Prop} (e : p := by simp -implicitDefEqProofs (disch := first | omega | (simp only [go_sem,lA,lD,lT] <;> omega) | decide) only [go_sem,↓reduceIte,Nat.reduceEqDiff,reduceCtorEq]; all_goals (rfl)) : p := e
theorem fc68 {gl : Nat → C} {M : Nat} {pu : Nat → List C → Option C} (hcx : CxOK (cxP gl M pu)) (h102 : ∀ l : List ID,l.length ≤ 1000000 → pu 102 [sl iD .no l] = some (sl iD .no l)) (p : Psg) (hp : p.2.2.2.2.length ≤ 1000000) : FC Tryd.prog gl 68 [.agg (pC p)] [] (.agg (pC p)) [] := by
 replace hcx := hcx.reN (M := 8)
 refine FC.ofA (cx := cxP gl 8 pu) (rs := [.cell 2 37]) rfl Tryd.func68 rfl rfl rfl (by simp only [List.length_cons,List.length_nil]; decide) (by simp only [go_sem]) ?_
 simp only [ini,go_sem]
 have hy := True.intro
 have e102 := h102 _ hp
 refine Tr.w hcx [] _ [none,none] rfl rfl rfl ?_ X_fc68
 refine Tr.w hcx [] _ [] rfl rfl rfl ?_ X_fc68
 refine Tr.w hcx [] _ [] rfl rfl rfl ?_ X_fc68
 exact Tr.ret F_fc68
theorem X_fc24 {p : Prop} (e : p := by intro KZ hZ; simp -implicitDefEqProofs (disch := first | omega | (simp only [go_sem,lA,lD,lT,hT] <;> omega) | decide) only [go_sem,↓reduceIte,Nat.reduceEqDiff,reduceCtorEq,Nat.reduceLT,Nat.reduceBEq,Nat.reduceAdd,h53,hy]; with_reducible exact hZ) : p := e
theorem Y_fc24 {p : Prop} (e : p := by intro KZ hZ; simp -implicitDefEqProofs (disch := first | omega | (simp only [go_sem,lA,lD,lT,hT] <;> omega) | decide) only [go_sem,↓reduceIte,Nat.reduceEqDiff,reduceCtorEq,Nat.reduceLT,Nat.reduceBEq,Nat.reduceAdd,h53,hy]; with_reducible refine And.intro ?_ hZ; first | exact rfl | decide) : p := e
theorem F_fc24 {p : Prop} (e : p := by simp -implicitDefEqProofs (disch := first | omega | (simp only [go_sem,lA,lD,lT,hT] <;> omega) | decide) only [go_sem,↓reduceIte,Nat.reduceEqDiff,reduceCtorEq]; all_goals (rfl)) : p := e
theorem fc24 {gl : Nat → C} {M : Nat} {pu : Nat → List C → Option C} (hcx : CxOK (cxP gl M pu)) (h53 : ∀ w : Wrk,pu 53 [.agg [sl vC .no w]] = some (.fn 93 [.kp [sl vC .no w]])) (h68 : ∀ p : Psg,p.2.2.2.2.length ≤ 1000000 → pu 68 [.agg (pC p)] = some (.agg (pC p))) (w : Wrk) (hw : WS w) : FC Tryd.prog gl 24 [.agg [sl vC .no w]] [] (sl pC .no (alW w)) [] := by
 replace hcx := hcx.reN (M := 16)
 refine FC.ofA (cx := cxP gl 16 pu) (rs := [.tmp 2]) rfl Tryd.func24 rfl rfl rfl (by simp only [List.length_cons,List.length_nil]; decide) (by simp only [go_sem]) ?_
 simp only [ini,go_sem]
 have hy := True.intro
 have hT := True.intro
 have hal := alW_len w
 have hw2 := hw.2.1
 refine Tr.w hcx [] _ [none] rfl rfl rfl ?_ X_fc24
 refine Tr.w hcx [] _ [none] rfl rfl rfl ?_ X_fc24
 refine Tr.seqK fun K1 hK1 => ?_
 refine Tr.w hcx [] _ [] rfl rfl rfl ?_ X_fc24
 refine Tr.blk ?_
 refine Tr.k [3,7] ?_
 refine Tr.m1 hcx [1] ?_
 refine Tr.bxc 0 0 (sl pC (.own 7) []) _ rfl rfl (CLe_sln rfl) rfl ?_
 simp only [List.set_cons_zero]
 refine Tr.rfR ((rdW w).length) (xsW w) (fun i => [some [sl pC (.own 7) ((alW w).take i)]]) rfl (⟨it93 hcx w hw.1,fun i => RowN.nil.c (by simp only [noRefs_cons,noRefs_nil,noRef_sl,Bool.and_self]) rfl⟩) (fun i hi => rfl) (by decide) (rfl) ?rb_1 ?rd_1
 case rb_1 =>
  intro i hi
  replace hcx := hcx.rnd
  have hMO := @hMOT
  simp only [go_sem]
  have hT : ((alW w).take i).length ≤ i := by rw [List.length_take]; omega
  have e68 := h68 _ (hw.2.2 i hi)
  have ep := alW_gt w i hi
  rw [← ep] at e68
  rw [← ep]
  refine Tr.v hcx [] _ [none] rfl rfl rfl ?_ X_fc24
  refine ⟨rfl,?_⟩
  refine Tr.k [3,5] ?_
  refine Tr.blk ?_
  have hy := @e68
  refine Tr.vD hcx hMO [10] _ [] rfl rfl rfl rfl ?_ Y_fc24
  exact RoundQ.c (by rw [← take_sn _ i (by omega)]; rfl)
 case rd_1 =>
  refine hK1 _ ?_
  rw [List.take_of_length_le (show (alW w).length ≤ (rdW w).length by omega)]
  refine Tr.w hcx [1000015] _ [] rfl rfl rfl ?_ X_fc24
  exact Tr.ret F_fc24
end Go.Sx
namespace Go.Sx
open Go.RowKit Go.Proofs
set_option maxRecDepth 100000
set_option maxHeartbeats 8000000
theorem Tr.rfF {gl : Nat → C} {M : Nat} {pu : Nat → List C → Option C} {n : Nat} {Q : Ex → St → Prop} {g f m : Nat} {ps : List Nat} {assign body : Code} {e : List (Nat × C)} {h : Hp} {caps : List C} (N : Nat) (xs : Nat → List C) (H : Nat → Hp) (F : Nat → Prop) (hg : A e g = .fn f caps) (hI : ItrB Tryd.prog gl f caps N xs RowN ∧ ∀ i,RowN m (H i))
    (hx : ∀ i,i < N → (xs i).length = ps.length) (hp : ∀ p ∈ ps,p < M) (h0 : h = H 0) (hF : F 0)
    (hb : ∀ i,i < N → F i → Tr (cxPT gl M pu) (H i).length assign ⟨A (bindL ps (xs i) (nrE e)),H i⟩ fun x s => x = .normal ∧ Tr (cxPT gl M pu) (H i).length body s (RoundQ (H i).length (fun k => k = H (i + 1) ∧ F (i + 1)) fun x h' => Q x ⟨A e,h'⟩))
    (hd : F N → Q .normal ⟨A e,H N⟩) : Tr (cxP gl M pu) n (.rangeFunc (.tmp g) ps.toArray assign body) ⟨A e,h⟩ Q :=
  Tr.rfI (cx := cxP gl M pu) rfl (fun i k => k = H i ∧ F i) hg (hI.1 m _ fun i k hk => by rw [hk.1]; exact hI.2 i) hx hp ⟨h0,hF⟩ (fun i k hi hk => by obtain ⟨rfl,hk⟩ := hk; rw [nrE_eq,bindL_eq]; exact hb i hi hk) (fun k hk => by obtain ⟨rfl,hk⟩ := hk; exact hd hk)
theorem eq_iD (op : BinOp) (a b : ID) : binPlan Tryd.prog op 34 (.agg (iD a)) (.agg (iD b)) = eqR op (decide (a = b)) := by
  have hg : Tryd.prog.eqGuardType Tryd.prog.depth 34 = false := by kernel_rfl
  have hs : Tryd.prog.stoodInHeld 34 = false := by kernel_rfl
  have hi : ∀ x y : Int,eqC Tryd.prog 8 3 (.val (.int .i64 x)) (.val (.int .i64 y)) = some (decide (x = y)) := fun x y => eqC_int Tryd.prog 7 td3 x y
  have he : eqC Tryd.prog 9 34 (.agg (iD a)) (.agg (iD b)) = some (decide (a = b)) := by
    obtain ⟨a1,a2,a3⟩ := a
    obtain ⟨b1,b2,b3⟩ := b
    unfold eqC
    rw [td34]
    simp only [hs,C.agg?,iD,eqFs,td3]
    have g : ∀ (xs : List C) (o : Nat),getAt ⟨.int .i64,1,8,[.int .i64 0]⟩ xs o = rdc xs o := fun _ _ => rfl
    have r0 : ∀ a b c : Value,rdc [.val a,.val b,.val c] 0 = some (.val a) := fun _ _ _ => rfl
    have r1 : ∀ a b c : Value,rdc [.val a,.val b,.val c] 1 = some (.val b) := fun _ _ _ => rfl
    have r2 : ∀ a b c : Value,rdc [.val a,.val b,.val c] 2 = some (.val c) := fun _ _ _ => rfl
    rw [if_neg (by decide)]
    simp only [g,r0,r1,r2,hi,ne_eq,String.reduceEq,not_false_eq_true,if_true]
    by_cases e1 : a1 = b1 <;> by_cases e2 : a2 = b2 <;> by_cases e3 : a3 = b3 <;> simp [e1,e2,e3]
  show eqPlan Tryd.prog op 34 _ _ = _
  unfold eqPlan
  rw [if_pos ⟨.inl ⟨rfl,rfl⟩,hg⟩]
  unfold eqR
  cases op <;> simp [he,vp,Plan.pure]
def fnd (w : Wrk) (id : ID) : (Nat × Nat × Nat) × Bool := match (rdW w).find? (fun r => decide (r.2.1 = id)) with
  | some r => (r.1,true)
  | none => ((0,0,0),false)
theorem fnd_T {w : Wrk} {id : ID} {i : Nat} (hi : i < (rdW w).length) (hn : ∀ j,j < i → ¬ (gt (rdW w) j).2.1 = id) (h : (gt (rdW w) i).2.1 = id) : fnd w id = ((gt (rdW w) i).1,true) := by
  have e : ∀ j (hj : j < (rdW w).length),gt (rdW w) j = (rdW w)[j] := fun j hj => by simp [gt,List.getD,List.getElem?_eq_getElem hj]
  have : (rdW w).find? (fun r => decide (r.2.1 = id)) = some (gt (rdW w) i) := by
    rw [List.find?_eq_some_iff_getElem]
    refine ⟨by simpa using h,i,hi,(e i hi).symm,fun j hj => ?_⟩
    have := hn j hj
    rw [e j (by omega)] at this
    simpa using this
  unfold fnd; rw [this]
theorem fnd_F {w : Wrk} {id : ID} (hn : ∀ j,j < (rdW w).length → ¬ (gt (rdW w) j).2.1 = id) : fnd w id = ((0,0,0),false) := by
  have : (rdW w).find? (fun r => decide (r.2.1 = id)) = none := by
    rw [List.find?_eq_none]
    intro r hr
    obtain ⟨j,hj,rfl⟩ := List.getElem_of_mem hr
    have := hn j hj
    rw [show gt (rdW w) j = (rdW w)[j] by simp [gt,List.getD,List.getElem?_eq_getElem hj]] at this
    simpa using this
  unfold fnd; rw [this]
theorem X_fc32 {p : Prop} (e : p := by intro KZ hZ; simp -implicitDefEqProofs (disch := first | omega | (simp only [go_sem,lA,lD,lT] <;> omega) | decide) only [go_sem,↓reduceIte,Nat.reduceEqDiff,reduceCtorEq,Nat.reduceLT,Nat.reduceBEq,Nat.reduceAdd,h53,eq_iD,c1,hy]; with_reducible exact hZ) : p := e
theorem F_fc32 {p : Prop} (e : p := by simp -implicitDefEqProofs (disch := first | omega | (simp only [go_sem,lA,lD,lT] <;> omega) | decide) only [go_sem,↓reduceIte,Nat.reduceEqDiff,reduceCtorEq]; all_goals (first | (rw [hR]; done) | (rw [hR]; rfl))) : p := e
theorem fc32 {gl : Nat → C} {M : Nat} {pu : Nat → List C → Option C} (hcx : CxOK (cxP gl M pu)) (h53 : ∀ w : Wrk,pu 53 [.agg [sl vC .no w]] = some (.fn 93 [.kp [sl vC .no w]])) (w : Wrk) (id : ID) (hw : WB w) : FC Tryd.prog gl 32 [.agg [sl vC .no w],.agg (iD id)] [] (.tup [.agg [.val (nI (fnd w id).1.1),.val (nI (fnd w id).1.2.1),.val (nI (fnd w id).1.2.2)],.val (.bool (fnd w id).2)]) [] := by
 replace hcx := hcx.reN (M := 18)
 refine FC.ofA (cx := cxP gl 18 pu) (rs := [.cell 4 60,.cell 5 4]) rfl Tryd.func32 rfl rfl rfl (by simp only [List.length_cons,List.length_nil]; decide) (by simp only [go_sem]) ?_
 simp only [ini,go_sem]
 have c1 := True.intro
 have hy := True.intro
 refine Tr.w hcx [] _ [none,none,none,none] rfl rfl rfl ?_ X_fc32
 refine Tr.seqK fun K1 hK1 => ?_
 refine Tr.w hcx [] _ [] rfl rfl rfl ?_ X_fc32
 refine Tr.blk ?_
 refine Tr.f1 hcx 1 (iD id) ?_
 refine Tr.k [3,4,5,9] ?_
 refine Tr.m1 hcx [2,3] ?_
 refine Tr.rfF ((rdW w).length) (xsW w) (fun i => [some [.val (nI 0),.val (nI 0),.val (nI 0)],some [.val (.bool false)]]) (fun i => ∀ j,j < i → ¬ (gt (rdW w) j).2.1 = id) rfl (⟨it93 hcx w hw,fun i => (RowN.nil.c rfl rfl).c rfl rfl⟩) (fun i hi => rfl) (by decide) (rfl) (fun j hj => by omega) ?rb_1 ?rd_1
 case rb_1 =>
  intro i hi hF
  replace hcx := hcx.rnd
  have hMO := @hMOT
  simp only [go_sem]
  refine Tr.w hcx [] _ [none] rfl rfl rfl ?_ X_fc32
  refine Tr.v hcx [] _ [none] rfl rfl rfl ?_ X_fc32
  refine ⟨rfl,?_⟩
  refine Tr.k [3,4,5,6,7] ?_
  refine Tr.blk ?_
  by_cases c1 : (gt (rdW w) i).2.1 = id
  ·
   have hR := fnd_T hi hF c1
   refine Tr.w hcx [] _ [] rfl rfl rfl ?_ X_fc32
   refine Tr.cT rfl ?_
   refine Tr.w hcx [] _ [] rfl rfl rfl ?_ X_fc32
   exact Tr.ret (RoundQ.r F_fc32)
  skip
  refine Tr.w hcx [] _ [] rfl rfl rfl ?_ X_fc32
  refine Tr.cF rfl ?_
  refine Tr.skip ?_
  exact RoundQ.c (⟨rfl,fun j hj => (Nat.lt_succ_iff_lt_or_eq.1 hj).elim (hF j) (fun e => by subst e; simpa using c1)⟩)
 case rd_1 =>
  intro hF
  have hR := fnd_F hF
  refine hK1 _ ?_
  refine Tr.w hcx [] _ [] rfl rfl rfl ?_ X_fc32
  exact Tr.ret F_fc32
end Go.Sx
namespace Go.Sx
open Go.RowKit Go.Proofs
set_option maxRecDepth 100000
set_option maxHeartbeats 8000000
theorem X_fc34g {p : Prop} (e : p := by intro KZ hZ; simp -implicitDefEqProofs (disch := first | omega | (simp only [go_sem,lA,lD,lT,hw1,hvl,hal] <;> omega) | decide) only [go_sem,↓reduceIte,Nat.reduceEqDiff,reduceCtorEq,Nat.reduceLT,Nat.reduceBEq,Nat.reduceAdd,Nat.not_lt_zero,hv1,ha1,hi1,hV,hL,e68,hy]; with_reducible exact hZ) : p := e
theorem Y_fc34g {p : Prop} (e : p := by intro KZ hZ; simp -implicitDefEqProofs (disch := first | omega | (simp only [go_sem,lA,lD,lT,hw1,hvl,hal] <;> omega) | decide) only [go_sem,↓reduceIte,Nat.reduceEqDiff,reduceCtorEq,Nat.reduceLT,Nat.reduceBEq,Nat.reduceAdd,Nat.not_lt_zero,hv1,ha1,hi1,hV,hL,e68,hy]; with_reducible refine And.intro ?_ hZ; first | exact rfl | decide) : p := e
theorem F_fc34g {p : Prop} (e : p := by simp -implicitDefEqProofs (disch := first | omega | (simp only [go_sem,lA,lD,lT,hw1,hvl,hal] <;> omega) | decide) only [go_sem,↓reduceIte,Nat.reduceEqDiff,reduceCtorEq]; all_goals (rfl)) : p := e
theorem fc34g {gl : Nat → C} {M : Nat} {pu : Nat → List C → Option C} (hcx : CxOK (cxP gl M pu)) (h68 : ∀ p : Psg,p.2.2.2.2.length ≤ 1000000 → pu 68 [.agg (pC p)] = some (.agg (pC p))) (w : Wrk) (v a i : Nat) (hv : v < w.length) (ha : a < (gt w v).length) (hi : i < (gt (gt w v) a).2.length) (hp : (gt (gt (gt w v) a).2 i).2.2.2.2.length ≤ 1000000) (hw : WB w) : FC Tryd.prog gl 34 [.agg [sl vC .no w],.agg [.val (nI v),.val (nI a),.val (nI i)]] [] (.tup [.agg (pC (gt (gt (gt w v) a).2 i)),.val (.bool true)]) [] := by
 replace hcx := hcx.reN (M := 67)
 refine FC.ofA (cx := cxP gl 67 pu) (rs := [.cell 4 37,.tmp 5]) rfl Tryd.func34 rfl rfl rfl (by simp only [List.length_cons,List.length_nil]; decide) (by simp only [go_sem]) ?_
 simp only [ini,go_sem]
 have hy := True.intro
 have hv1 : (w.length ≤ v) = False := eq_false (by omega)
 have hw1 := hw.1
 have hvl := hw.2.1 v hv
 have hal := hw.2.2 v a hv ha
 have e68 := h68 _ hp
 obtain ⟨V,hV⟩ : ∃ V,gt w v = V := ⟨_,rfl⟩
 rw [hV] at ha hi hvl hal e68
 rw [hV]
 obtain ⟨L,hL⟩ : ∃ L,(gt V a).2 = L := ⟨_,rfl⟩
 rw [hL] at hi hal e68
 rw [hL]
 have ha1 : (V.length ≤ a) = False := eq_false (by omega)
 have hi1 : (L.length ≤ i) = False := eq_false (by omega)
 refine Tr.w hcx [] _ [none,none,none] rfl rfl rfl ?_ X_fc34g
 refine Tr.seqK fun K1 hK1 => ?_
 refine Tr.w hcx [] [some 7,some 8,some 9,some 10,some 11,some 12,some 13,some 14,some 15,some 16,some 17] [] rfl rfl rfl ?_ X_fc34g
 refine Tr.cF rfl ?_
 refine Tr.skip ?_
 refine hK1 _ ?_
 refine Tr.w hcx [] _ [none] rfl rfl rfl ?_ X_fc34g
 refine Tr.k [3,4,6] ?_
 refine Tr.seqK fun K2 hK2 => ?_
 refine Tr.wD hcx hMO [] [some 25,some 26,some 27,some 28,some 29,some 30,some 31,some 32,some 33,some 34,some 35,some 36,some 37,some 38,some 39,some 40,some 41,some 42,some 43,some 44,some 45,some 46,some 47,some 48,some 49,some 50,some 51,some 52,some 53] [] rfl rfl rfl rfl ?_ Y_fc34g
 refine Tr.k [3,4,6,53] ?_
 refine Tr.cF rfl ?_
 refine Tr.skip ?_
 refine hK2 _ ?_
 refine Tr.wD hcx hMO [] _ [] rfl rfl rfl rfl ?_ Y_fc34g
 exact Tr.ret F_fc34g
end Go.Sx
namespace Go.Sx
open Go.RowKit Go.Proofs
def I64 (x : Int) : Prop := -9223372036854775808 ≤ x ∧ x ≤ 9223372036854775807
instance (x : Int) : Decidable (I64 x) := by unfold I64; exact inferInstance
def IdOk (x : ID) : Prop := I64 x.1 ∧ I64 x.2.1 ∧ I64 x.2.2
instance (x : ID) : Decidable (IdOk x) := by unfold IdOk; exact inferInstance
def kmW (t : TypeId) (u : Value) : Bool := t == 34 && (match u with
  | .agg vs => (match vs.toList with
    | [.int .i64 a,.int .i64 b,.int .i64 c] => decide (IdOk (a,b,c))
    | _ => false)
  | _ => false)
def keyI (x : ID) : Value := .agg #[.int .i64 x.1,.int .i64 x.2.1,.int .i64 x.2.2]
theorem km_keyI {x : ID} (h : IdOk x) : kmW 34 (keyI x) = true := by
  obtain ⟨a,b,c⟩ := x
  show (true && decide (IdOk (a,b,c))) = true
  rw [Bool.true_and]; exact decide_eq_true h
theorem wk_laid : laidOutB Tryd.prog = true := by kernel_rfl
theorem wk_row : (34 : TypeId) < Tryd.prog.types.size := of_decide_eq_true (by kernel_rfl)
theorem wk_u34 : Tryd.prog.underlying 34 = some (.struct #[Field.mk "By" 3 0 false "" "" 0, Field.mk "Seq" 3 1 false "" "" 8, Field.mk "K" 3 2 false "" "" 16]) := by kernel_rfl
theorem wk_u3 : Tryd.prog.underlying 3 = some (.int .i64) := by kernel_rfl
theorem wk_c34 : Tryd.prog.cellsOf 34 = 3 := by kernel_rfl
theorem wk_c3 : Tryd.prog.cellsOf 3 = 1 := by kernel_rfl
theorem wk_k34 : Tryd.prog.keyType 34 = true := by kernel_rfl
theorem wk_at34 : Tryd.prog.keyTypeAt 2 34 = true := by kernel_rfl
theorem wk_law : WideMaps.KeyLaw Tryd.prog 34 := deep_law_laid wk_laid (m := 2) (Nat.le_of_ble_eq_true rfl) wk_row wk_at34 (by rw [wk_u34])
theorem keyOf_G {P : Program} (hsz : 34 < P.types.size) (u34 : P.underlying 34 = some (.struct #[Field.mk "By" 3 0 false "" "" 0, Field.mk "Seq" 3 1 false "" "" 8, Field.mk "K" 3 2 false "" "" 16])) (u3 : P.underlying 3 = some (.int .i64)) (c34 : P.cellsOf 34 = 3) (c3 : P.cellsOf 3 = 1) (k34 : P.keyType 34 = true)
    (a b c : Int) (h : IdOk (a,b,c)) : ∃ l,Go.keyOf P 34 (.agg #[.int .i64 a,.int .i64 b,.int .i64 c]) = some l := by
  obtain ⟨n,hn⟩ : ∃ n,P.types.size + 1 = n + 2 := ⟨P.types.size - 1,by omega⟩
  have hmin : IntKind.i64.min = -9223372036854775808 := by decide
  have hmax : IntKind.i64.max = 9223372036854775807 := by decide
  have hw : ∀ x : Int,I64 x → (Lit.int .i64 x).wf = true := fun x hx => by
    unfold I64 at hx
    simp only [Lit.wf,hmin,hmax,Bool.and_eq_true,decide_eq_true_eq]; omega
  have hk : P.keyLits (n + 2) 34 [.int .i64 a,.int .i64 b,.int .i64 c] = some [.int .i64 a,.int .i64 b,.int .i64 c] := by
    simp [Program.keyLits,u34,u3,c34,c3,hw a h.1,hw b h.2.1,hw c h.2.2]
  refine ⟨Lit.string (keyBytes [.int .i64 a,.int .i64 b,.int .i64 c]),?_⟩
  unfold Go.keyOf
  rw [u34]
  have hf : (Value.agg #[.int .i64 a,.int .i64 b,.int .i64 c]).formed P 34 = true := by simp [Value.formed,u34,c34]
  simp only [k34,hf,Bool.and_self,if_true,hn]
  have hc : (Value.agg #[.int .i64 a,.int .i64 b,.int .i64 c]).cells.toList = [.int .i64 a,.int .i64 b,.int .i64 c] := rfl
  rw [hc,hk]; rfl
theorem km_okW (k : TypeId) (u : Value) (h : kmW k u = true) : Go.Maps.Keyed Tryd.prog k ∧ ∃ l,Go.keyOf Tryd.prog k u = some l := by
  unfold kmW at h
  simp only [Bool.and_eq_true,beq_iff_eq] at h
  obtain ⟨rfl,h⟩ := h
  refine ⟨Go.Maps.Keyed.of_law wk_law,?_⟩
  split at h
  · rename_i vs
    split at h
    · rename_i a b c hl
      have hv : vs = #[.int .i64 a,.int .i64 b,.int .i64 c] := by apply Array.ext'; rw [hl]
      subst hv
      exact keyOf_G wk_row wk_u34 wk_u3 wk_c34 wk_c3 wk_k34 a b c (of_decide_eq_true h)
    · cases h
  · cases h
def entI : List ID → List C
  | [] => []
  | x :: M => .val (keyI x) :: .val (.bool true) :: entI M
theorem entI_app : ∀ (M N : List ID),entI (M ++ N) = entI M ++ entI N
  | [],_ => rfl
  | x :: M,N => by simp only [List.cons_append,entI,entI_app M N]
theorem entI_nr (k : Nat) : ∀ M,noRefs k (entI M) = true
  | [] => rfl
  | x :: M => by simp only [entI,noRefs,noRef,entI_nr k M,Bool.and_self]
theorem vq_keyI (x y : ID) : vq (keyI x) (keyI y) = some (decide (x = y)) := by
  obtain ⟨a,b,c⟩ := x
  obtain ⟨a',b',c'⟩ := y
  show vqs [.int .i64 a,.int .i64 b,.int .i64 c] [.int .i64 a',.int .i64 b',.int .i64 c'] = _
  have k : ∀ x y : Int,(x == y) = decide (x = y) := fun x y => by by_cases h : x = y <;> simp [h]
  by_cases h1 : a = a' <;> by_cases h2 : b = b' <;> by_cases h3 : c = c' <;> simp [vqs,vq1,k,h1,h2,h3]
def OkI (M : List ID) : Prop := M.Nodup ∧ ∀ x ∈ M,IdOk x
theorem OkI.tail {y : ID} {M : List ID} (h : OkI (y :: M)) : OkI M := ⟨(List.nodup_cons.1 h.1).2,fun x hx => h.2 x (List.mem_cons_of_mem _ hx)⟩
theorem mfindI_none {cx : Cx} (hk : cx.km = kmW) (x : ID) : ∀ (M : List ID) (i : Nat),OkI M → x ∉ M → mfind cx 34 (keyI x) (entI M) i = some none
  | [],_,_,_ => rfl
  | y :: M,i,hM,h => by
    simp only [List.mem_cons,not_or] at h
    simp only [entI,mfind,hk,km_keyI (hM.2 y (List.mem_cons_self ..)),if_true,vq_keyI,decide_eq_false h.1]
    exact mfindI_none hk x M (i + 1) hM.tail h.2
theorem mfindI_some {cx : Cx} (hk : cx.km = kmW) (x : ID) : ∀ (M : List ID) (i : Nat),x ∈ M → OkI M → ∃ j,mfind cx 34 (keyI x) (entI M) i = some (some (i + j,.val (.bool true))) ∧ M[j]? = some x
  | [],_,h,_ => by simp at h
  | y :: M,i,h,nd => by
    obtain ⟨n1,n2⟩ := List.nodup_cons.1 nd.1
    have hy := km_keyI (nd.2 y (List.mem_cons_self ..))
    by_cases e : x = y
    · subst e
      simp only [entI,mfind,hk,hy,if_true,vq_keyI,decide_true,mfindI_none hk x M (i + 1) nd.tail n1]
      exact ⟨0,rfl,rfl⟩
    · simp only [entI,mfind,hk,hy,if_true,vq_keyI,decide_eq_false e]
      obtain ⟨j,h1,h2⟩ := mfindI_some hk x M (i + 1) (by simpa [e] using h) nd.tail
      refine ⟨j + 1,?_,by simpa using h2⟩
      rw [h1,show i + 1 + j = i + (j + 1) from by omega]
end Go.Sx
namespace Go.Sx
open Go.RowKit Go.Proofs
theorem kt92 : mapKT Tryd.prog 92 = some (34,4) := by kernel_rfl
def insI (M : List ID) (x : ID) : List ID := if x ∈ M then M else M ++ [x]
theorem entI_get : ∀ (M : List ID) (j : Nat) (x : ID),M[j]? = some x → (entI M).set (2 * j + 1) (.val (.bool true)) = entI M ∧ (entI M).take (2 * j) ++ (entI M).drop (2 * j + 2) = entI (M.eraseIdx j)
  | [],j,x,h => by simp at h
  | y :: M,0,x,h => by simp [entI]
  | y :: M,j + 1,x,h => by
    obtain ⟨h1,h2⟩ := entI_get M j x (by simpa using h)
    rw [show 2 * (j + 1) + 1 = 2 * j + 1 + 1 + 1 from by omega,show 2 * (j + 1) = 2 * j + 1 + 1 from by omega,show 2 * j + 1 + 1 + 2 = 2 * j + 2 + 1 + 1 from by omega]
    simp only [entI,List.set_cons_succ,List.take_succ_cons,List.drop_succ_cons,List.cons_append,List.eraseIdx_cons_succ,h1,h2,and_self]
theorem zv4 : zvC Tryd.prog 4 = some (.val (.bool false)) := by kernel_rfl
theorem erase_idx : ∀ {M : List ID},M.Nodup → ∀ {j : Nat} {x : ID},M[j]? = some x → M.eraseIdx j = M.erase x
  | [],_,j,x,h => by simp at h
  | y :: M,nd,0,x,h => by
    simp at h; subst h
    rw [List.erase_cons_head,List.eraseIdx_cons_zero]
  | y :: M,nd,j + 1,x,h => by
    have h : M[j]? = some x := by simpa using h
    obtain ⟨n1,n2⟩ := List.nodup_cons.1 nd
    have hx : x ∈ M := List.mem_of_getElem? h
    have hne : y ≠ x := fun e => n1 (e ▸ hx)
    rw [List.eraseIdx_cons_succ,List.erase_cons_tail (by simpa using hne),erase_idx n2 h]
section
variable {cx : Cx} (hP : cx.P = Tryd.prog) (hk : cx.km = kmW) {b : Nat} {h : Hp} {M : List ID} (hm : h.mp b = some (entI M)) (hM : OkI M) {x : ID} (hx : IdOk x)
include hP hk hm hM hx
theorem put_I : mputF cx 92 b (keyI x) (.val (.bool true)) h = some (.val undef,h.set b (some (mapC (entI (insI M x))))) := by
  unfold mputF
  rw [hP,kt92]
  simp only [hk,km_keyI hx,if_true,hm,Option.bind_some]
  by_cases e : x ∈ M
  · obtain ⟨j,h1,h2⟩ := mfindI_some hk x M 0 e hM
    rw [h1,Option.map_some]
    unfold mputR insI
    simp only [Nat.zero_add,(entI_get M j x h2).1,if_pos e]
  · rw [mfindI_none hk x M 0 hM e,Option.map_some]
    unfold mputR insI
    simp only [if_neg e,entI_app]
    rfl
theorem del_I : mdelF cx 92 b (keyI x) h = some (.val (.tuple #[]),h.set b (some (mapC (entI (M.erase x))))) := by
  unfold mdelF
  rw [hP,kt92]
  simp only [hk,km_keyI hx,if_true,hm,Option.bind_some]
  by_cases e : x ∈ M
  · obtain ⟨j,h1,h2⟩ := mfindI_some hk x M 0 e hM
    rw [h1,Option.map_some]
    unfold mdelR
    simp only [Nat.zero_add,(entI_get M j x h2).2,erase_idx hM.1 h2]
  · rw [mfindI_none hk x M 0 hM e,Option.map_some]
    unfold mdelR
    simp only [List.erase_of_not_mem e]
theorem look_I : mlookF cx 92 b (keyI x) false h = some (.val (.bool (decide (x ∈ M))),h) := by
  unfold mlookF
  rw [hP,kt92]
  simp only [hk,km_keyI hx,if_true,hm,Option.bind_some]
  by_cases e : x ∈ M
  · obtain ⟨j,h1,h2⟩ := mfindI_some hk x M 0 e hM
    rw [h1,Option.bind_some]
    unfold mlookR
    rw [decide_eq_true e]; rfl
  · rw [mfindI_none hk x M 0 hM e,Option.bind_some]
    unfold mlookR
    rw [decide_eq_false e]
    simp only [hP,zv4,Option.map_some]; rfl
end
theorem OkI.nil : OkI [] := ⟨List.nodup_nil,fun x h => by cases h⟩
theorem OkI.ins {M : List ID} (hM : OkI M) {x : ID} (hx : IdOk x) : OkI (insI M x) := by
  unfold insI
  split
  · exact hM
  · rename_i e
    refine ⟨List.nodup_append.2 ⟨hM.1,by simp,fun a ha b hb => ?_⟩,fun y hy => ?_⟩
    · simp at hb; subst hb; exact fun q => e (q ▸ ha)
    · rcases List.mem_append.1 hy with hy | hy
      · exact hM.2 y hy
      · simp at hy; subst hy; exact hx
theorem OkI.del {M : List ID} (hM : OkI M) (x : ID) : OkI (M.erase x) := ⟨hM.1.erase x,fun y hy => hM.2 y (List.mem_of_mem_erase hy)⟩
end Go.Sx
