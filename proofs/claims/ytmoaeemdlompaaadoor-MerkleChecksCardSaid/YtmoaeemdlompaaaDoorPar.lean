/-
   And what follows.
-/
import Derived.Test.YtmoaeemdlompaaaDoorPaq
import Derived.Test.YtmoaeemdlompaaaDoorPap
set_option linter.unusedSimpArgs false
set_option linter.unusedVariables false
namespace Go.Sx
open Go.RowKit Go.Proofs
set_option maxRecDepth 100000
set_option maxHeartbeats 8000000
def cntT (l : List Leaf) (k : List UInt8) (i : Nat) : Nat := ((l.take i).filter fun x => bl x.1 k).length
def fromT (l : List Leaf) (k : List UInt8) : Nat := cntT l k l.length
theorem cnt_T {l : List Leaf} {k : List UInt8} {i : Nat} (h : i < l.length) (hb : bl (gt l i).1 k = true) : cntT l k (i + 1) = cntT l k i + 1 := by
  unfold cntT; rw [take_snoc l i h,List.filter_append]; simp [hb]
theorem cnt_F {l : List Leaf} {k : List UInt8} {i : Nat} (h : i < l.length) (hb : bl (gt l i).1 k = false) : cntT l k (i + 1) = cntT l k i := by
  unfold cntT; rw [take_snoc l i h,List.filter_append]; simp [hb]
theorem cntL (l : List Leaf) (k : List UInt8) (i : Nat) : cntT l k i ≤ i := by
  unfold cntT
  have h1 := List.length_filter_le (fun x : Leaf => bl x.1 k) (l.take i)
  have h2 := List.length_take_le i l
  omega
def hasT (l : List Leaf) (k : List UInt8) : Option Nat := l.findIdx? fun x => decide (x.1 = k)
def hasI (l : List Leaf) (k : List UInt8) : Int := ((hasT l k).map fun n => ((n : Nat) : Int)).getD (-1)
theorem has_T {l : List Leaf} {k : List UInt8} {i : Nat} (h : i < l.length) (h0 : ∀ j < i,(gt l j).1 ≠ k) (hb : (gt l i).1 = k) : hasT l k = some i := by
  have e : ∀ j (hj : j < l.length),gt l j = l[j] := fun j hj => by simp [gt,List.getD,List.getElem?_eq_getElem hj]
  unfold hasT
  rw [List.findIdx?_eq_some_iff_getElem]
  refine ⟨h,by rw [← e i h]; simp [hb],fun j hj => ?_⟩
  rw [← e j (by omega)]; simp [h0 j hj]
theorem has_F {l : List Leaf} {k : List UInt8} (h0 : ∀ j < l.length,(gt l j).1 ≠ k) : hasT l k = none := by
  have e : ∀ j (hj : j < l.length),gt l j = l[j] := fun j hj => by simp [gt,List.getD,List.getElem?_eq_getElem hj]
  unfold hasT
  rw [List.findIdx?_eq_none_iff]
  intro x hx
  obtain ⟨j,hj,rfl⟩ := List.mem_iff_getElem.1 hx
  rw [← e j hj]; simp [h0 j hj]
theorem hasI_T {l : List Leaf} {k : List UInt8} {i : Nat} (h : i < l.length) (h0 : ∀ j < i,(gt l j).1 ≠ k) (hb : (gt l i).1 = k) : C.val (nI i) = C.val (.int .i64 (hasI l k)) := by unfold hasI; rw [has_T h h0 hb]; rfl
theorem hasI_F {l : List Leaf} {k : List UInt8} (h0 : ∀ j < l.length,(gt l j).1 ≠ k) : C.val (.int .i64 (-1)) = C.val (.int .i64 (hasI l k)) := by unfold hasI; rw [has_F h0]; rfl
theorem lt_S {l : List Leaf} {k : List UInt8} {i : Nat} (h : ∀ j < i,(gt l j).1 ≠ k) (hb : ¬ (gt l i).1 = k) : ∀ j < i + 1,(gt l j).1 ≠ k := fun j hj => by
  by_cases e : j = i
  · rw [e]; exact hb
  · exact h j (by omega)
def insT (l : List Leaf) (a b : List UInt8) (i : Nat) : List Leaf := (l.take i).filter fun x => !bl x.1 a && bl x.1 b
theorem ins_T {l : List Leaf} {a b : List UInt8} {i : Nat} (h : i < l.length) (h1 : bl (gt l i).1 a = false) (h2 : bl (gt l i).1 b = true) : insT l a b i ++ [gt l i] = insT l a b (i + 1) := by
  unfold insT; rw [take_snoc l i h,List.filter_append]; simp [h1,h2]
theorem ins_F {l : List Leaf} {a b : List UInt8} {i : Nat} (h : i < l.length) (h1 : bl (gt l i).1 a = true ∨ bl (gt l i).1 b = false) : insT l a b i = insT l a b (i + 1) := by
  unfold insT; rw [take_snoc l i h,List.filter_append]; rcases h1 with h1 | h1 <;> simp [h1]
theorem ins_len (l : List Leaf) (a b : List UInt8) (i : Nat) : (insT l a b i).length ≤ i := by
  have h1 := List.length_filter_le (fun x : Leaf => !bl x.1 a && bl x.1 b) (l.take i)
  have h2 := List.length_take_le i l
  unfold insT; omega
theorem lf_ne1 {x y : Leaf} (h : ¬ x.1 = y.1) : ¬ x = y := fun e => h (by rw [e])
theorem lf_ne2 {x y : Leaf} (h : ¬ x.2 = y.2) : ¬ x = y := fun e => h (by rw [e])
theorem lf_eq {x y : Leaf} (h : x.1 = y.1) (h2 : x.2 = y.2) : x = y := Prod.ext h h2
theorem lvsN_S {l : List Int} {i : Nat} (h1 : 2 * i < l.length) (h2 : i < 11) : i < lvsN l := by unfold lvsN; omega
theorem lvsN_e {l : List Int} {i : Nat} (h : i ≤ lvsN l) (h1 : ¬ (2 * i < l.length ∧ i < 11)) : i = lvsN l := by unfold lvsN at h ⊢; omega
theorem lvsN_le (l : List Int) : lvsN l ≤ 11 := by unfold lvsN; omega
theorem vals_mk : sl sC .full ((((((List.replicate 5 ([] : List UInt8)).set 0 []).set 1 [49]).set 2 [50]).set 3 [97,32,98]).set 4 [49,50]) = sl sC .full vals5 := rfl
theorem vals_ln : vals5.length = 5 := rfl
theorem X_fc58 {p : Prop} (e : p := by intro KZ hZ; simp -implicitDefEqProofs (disch := first | omega | (simp only [go_sem,lA,lD,lT,hle] <;> omega) | decide) only [go_sem,↓reduceIte,Nat.reduceEqDiff,reduceCtorEq,Nat.reduceLT,Nat.reduceBEq,Nat.reduceAdd,b1,hy]; with_reducible exact hZ) : p := e
theorem F_fc58 {p : Prop} (e : p := by simp -implicitDefEqProofs (disch := first | omega | (simp only [go_sem,lA,lD,lT,hle] <;> omega) | decide) only [go_sem,↓reduceIte,Nat.reduceEqDiff,reduceCtorEq]; all_goals (rfl)) : p := e
theorem fc58 {gl : Nat → C} {M : Nat} {pu : Nat → List C → Option C} (hcx : CxOK (cxP gl M pu)) (l : List Leaf) (k : List UInt8) (hl : l.length ≤ 1000000) : FC Tryd.prog gl 58 [sl eC .no l,.val (str k)] [] (.val (nI (fromT l k))) [] := by
 replace hcx := hcx.reN (M := 23)
 refine FC.ofA (cx := cxP gl 23 pu) (rs := [.tmp 4]) rfl Tryd.func58 rfl rfl rfl (by simp only [List.length_cons,List.length_nil]; decide) (by simp only [go_sem]) ?_
 simp only [ini,go_sem]
 have b1 := True.intro
 have hy := True.intro
 have hle := cntL l k
 refine Tr.w hcx [] _ [] rfl rfl rfl ?_ X_fc58
 refine Tr.w hcx [] _ [] rfl rfl rfl ?_ X_fc58
 refine Tr.seqK fun K1 hK1 => ?_
 refine Tr.w hcx [] _ [] rfl rfl rfl ?_ X_fc58
 refine Tr.k [0,1,5,6] ?_
 refine Tr.blk ?_
 refine Tr.loopI (α := Nat) (fun a => [(0,?v0_1),(1,?v1_1),(5,.val (nI (cntT l k a))),(6,.val (nI a))]) (fun a => ?h_1) (fun a => a ≤ l.length) (fun a => l.length - a) (0) (Nat.zero_le _) ?le_1 ?hh_1 ?bd_1
 case hh_1 => exact rfl
 case le_1 => exact LT
 rintro i hi
 refine Tr.seqK fun K2 hK2 => ?_
 refine Tr.w hcx [] _ [] rfl rfl rfl ?_ X_fc58
 refine Tr.cD rfl (fun hc10 => ?_) (fun hc10 => ?_)
 ·
  have hli := hle i
  refine Tr.skip ?_
  refine hK2 _ ?_
  refine Tr.seqK fun K3 hK3 => ?_
  refine Tr.blk ?_
  by_cases b1 : bl (gt l i).1 k = true
  ·
   have hb := b1
   refine Tr.w hcx [] _ [] rfl rfl rfl ?_ X_fc58
   refine Tr.cT rfl ?_
   refine Tr.v hcx [1000021] _ [] rfl rfl rfl ?_ X_fc58
   refine hK3 _ ?_
   refine Tr.v hcx [1000012] _ [] rfl rfl rfl ?_ X_fc58
   refine ⟨i + 1,⟨by omega,O1⟩,?_,rfl⟩
   (simp only [Le_nil,Le_cons,↓A_cons,↓reduceIte,Nat.reduceEqDiff,CLe_refl,CLe_top,CLe_full,CLe_nil,CLe_own,and_true,true_and]; all_goals (repeat' first | exact CLe.refl _ | exact True.intro | (refine CLe_sln ?_; first | rfl | (simp only [List.take_zero]; done)) | exact CLe_nI (by omega) | exact CLe_int (by omega) | exact CLe_inI (by omega) | exact CLe_nIi (by omega) | with_reducible apply And.intro))
   all_goals (refine CLe_nI ?_; first | (rw [cnt_T hc10 hb]; done) | (rw [cnt_F hc10 hb]; done))
  replace b1 := Bool.eq_false_iff.2 b1
  have hb := b1
  refine Tr.w hcx [] _ [] rfl rfl rfl ?_ X_fc58
  refine Tr.cF rfl ?_
  refine Tr.skip ?_
  refine hK3 _ ?_
  refine Tr.v hcx [1000012] _ [] rfl rfl rfl ?_ X_fc58
  refine ⟨i + 1,⟨by omega,O1⟩,?_,rfl⟩
  (simp only [Le_nil,Le_cons,↓A_cons,↓reduceIte,Nat.reduceEqDiff,CLe_refl,CLe_top,CLe_full,CLe_nil,CLe_own,and_true,true_and]; all_goals (repeat' first | exact CLe.refl _ | exact True.intro | (refine CLe_sln ?_; first | rfl | (simp only [List.take_zero]; done)) | exact CLe_nI (by omega) | exact CLe_int (by omega) | exact CLe_inI (by omega) | exact CLe_nIi (by omega) | with_reducible apply And.intro))
  all_goals (refine CLe_nI ?_; first | (rw [cnt_T hc10 hb]; done) | (rw [cnt_F hc10 hb]; done))
 obtain rfl : i = l.length := by omega
 refine Tr.exit ?_
 refine hK1 _ ?_
 refine Tr.w hcx [1000022] _ [] rfl rfl rfl ?_ X_fc58
 exact Tr.ret F_fc58
theorem X_fc35 {p : Prop} (e : p := by intro KZ hZ; simp -implicitDefEqProofs (disch := first | omega | (simp only [go_sem,lA,lD,lT] <;> omega) | decide) only [go_sem,↓reduceIte,Nat.reduceEqDiff,reduceCtorEq,Nat.reduceLT,Nat.reduceBEq,Nat.reduceAdd,hy]; with_reducible exact hZ) : p := e
theorem F_fc35 {p : Prop} (e : p := by simp -implicitDefEqProofs (disch := first | omega | (simp only [go_sem,lA,lD,lT] <;> omega) | decide) only [go_sem,↓reduceIte,Nat.reduceEqDiff,reduceCtorEq]; all_goals (first | exact congrArg some (hasI_T hc9 hi.2 hc18) | exact congrArg some (hasI_F fun j hj => hi.2 j (by omega)))) : p := e
theorem fc35 {gl : Nat → C} {M : Nat} {pu : Nat → List C → Option C} (hcx : CxOK (cxP gl M pu)) (l : List Leaf) (k : List UInt8) (hl : l.length ≤ 1000000) : FC Tryd.prog gl 35 [sl eC .no l,.val (str k)] [] (.val (.int .i64 (hasI l k))) [] := by
 replace hcx := hcx.reN (M := 20)
 refine FC.ofA (cx := cxP gl 20 pu) (rs := [.tmp 4]) rfl Tryd.func35 rfl rfl rfl (by simp only [List.length_cons,List.length_nil]; decide) (by simp only [go_sem]) ?_
 simp only [ini,go_sem]
 have hy := True.intro
 refine Tr.w hcx [] _ [] rfl rfl rfl ?_ X_fc35
 refine Tr.seqK fun K1 hK1 => ?_
 refine Tr.w hcx [] _ [] rfl rfl rfl ?_ X_fc35
 refine Tr.k [0,1,5] ?_
 refine Tr.blk ?_
 refine Tr.loopI (α := Nat) (fun a => [(0,?v0_1),(1,?v1_1),(5,.val (nI a))]) (fun a => ?h_1) (fun a => a ≤ l.length ∧ ∀ j < a,(gt l j).1 ≠ k) (fun a => l.length - a) (0) ⟨Nat.zero_le _,fun j hj => absurd hj (Nat.not_lt_zero j)⟩ ?le_1 ?hh_1 ?bd_1
 case hh_1 => exact rfl
 case le_1 => exact LT
 rintro i hi
 refine Tr.seqK fun K2 hK2 => ?_
 refine Tr.w hcx [] _ [] rfl rfl rfl ?_ X_fc35
 refine Tr.cD rfl (fun hc9 => ?_) (fun hc9 => ?_)
 ·
  refine Tr.skip ?_
  refine hK2 _ ?_
  refine Tr.seqK fun K3 hK3 => ?_
  refine Tr.blk ?_
  refine Tr.w hcx [] _ [] rfl rfl rfl ?_ X_fc35
  refine Tr.cD rfl (fun hc18 => ?_) (fun hc18 => ?_)
  ·
   refine Tr.w hcx [1000019] _ [] rfl rfl rfl ?_ X_fc35
   exact Tr.ret F_fc35
  refine Tr.skip ?_
  refine hK3 _ ?_
  refine Tr.v hcx [1000011] _ [] rfl rfl rfl ?_ X_fc35
  exact ⟨i + 1,⟨⟨by omega,lt_S hi.2 hc18⟩,O1⟩,LT,rfl⟩
 refine Tr.exit ?_
 refine hK1 _ ?_
 refine Tr.w hcx [] _ [] rfl rfl rfl ?_ X_fc35
 exact Tr.ret F_fc35
theorem X_fc34 {p : Prop} (e : p := by intro KZ hZ; simp -implicitDefEqProofs (disch := first | omega | (simp only [go_sem,lA,lD,lT] <;> omega) | decide) only [go_sem,↓reduceIte,Nat.reduceEqDiff,reduceCtorEq,Nat.reduceLT,Nat.reduceBEq,Nat.reduceAdd,eq_self,decide_true,decide_false,not_true_eq_false,not_false_eq_true,b1,b2,hy]; with_reducible exact hZ) : p := e
theorem Y_fc34 {p : Prop} (e : p := by intro KZ hZ; simp -implicitDefEqProofs (disch := first | omega | (simp only [go_sem,lA,lD,lT] <;> omega) | decide) only [go_sem,↓reduceIte,Nat.reduceEqDiff,reduceCtorEq,Nat.reduceLT,Nat.reduceBEq,Nat.reduceAdd,eq_self,decide_true,decide_false,not_true_eq_false,not_false_eq_true,b1,b2,hy]; with_reducible refine And.intro ?_ hZ; first | exact rfl | decide) : p := e
theorem F_fc34 {p : Prop} (e : p := by simp -implicitDefEqProofs (disch := first | omega | (simp only [go_sem,lA,lD,lT] <;> omega) | decide) only [go_sem,↓reduceIte,Nat.reduceEqDiff,reduceCtorEq]; all_goals (first | (rw [dec_len hc10]; done) | (rw [dec_ne (i := i) (lf_ne1 b1)]; done) | (rw [dec_ne (i := i) (lf_ne2 b2)]; done) | (rw [dec_eq hc14 hq hi.2]; done))) : p := e
theorem fc34 {gl : Nat → C} {M : Nat} {pu : Nat → List C → Option C} (hcx : CxOK (cxP gl M pu)) (x y : List Leaf) (hx : x.length ≤ 1000000) (hy0 : y.length ≤ 1000000) : FC Tryd.prog gl 34 [sl eC .no x,sl eC .no y] [] (.val (.bool (decide (x = y)))) [] := by
 replace hcx := hcx.reN (M := 41)
 refine FC.ofA (cx := cxP gl 41 pu) (rs := [.tmp 4]) rfl Tryd.func34 rfl rfl rfl (by simp only [List.length_cons,List.length_nil]; decide) (by simp only [go_sem]) ?_
 simp only [ini,go_sem]
 have b1 := True.intro
 have b2 := True.intro
 have hy := True.intro
 refine Tr.w hcx [] _ [] rfl rfl rfl ?_ X_fc34
 refine Tr.seqK fun K1 hK1 => ?_
 refine Tr.w hcx [] _ [] rfl rfl rfl ?_ X_fc34
 refine Tr.cD rfl (fun hc10 => ?_) (fun hc10 => ?_)
 ·
  refine Tr.w hcx [] _ [] rfl rfl rfl ?_ X_fc34
  exact Tr.ret F_fc34
 have hq : x.length = y.length := by omega
 refine Tr.skip ?_
 refine hK1 _ ?_
 refine Tr.seqK fun K2 hK2 => ?_
 refine Tr.w hcx [] _ [] rfl rfl rfl ?_ X_fc34
 refine Tr.k [0,1,5] ?_
 refine Tr.blk ?_
 refine Tr.loopI (α := Nat) (fun a => [(0,?v0_1),(1,?v1_1),(5,.val (nI a))]) (fun a => ?h_1) (fun a => a ≤ x.length ∧ x.take a = y.take a) (fun a => x.length - a) (0) ⟨Nat.zero_le _,rfl⟩ ?le_1 ?hh_1 ?bd_1
 case hh_1 => exact rfl
 case le_1 => exact LT
 rintro i hi
 refine Tr.seqK fun K3 hK3 => ?_
 refine Tr.w hcx [] _ [] rfl rfl rfl ?_ X_fc34
 refine Tr.cD rfl (fun hc14 => ?_) (fun hc14 => ?_)
 ·
  refine Tr.skip ?_
  refine hK3 _ ?_
  refine Tr.k [0,1,5] ?_
  refine Tr.seqK fun K4 hK4 => ?_
  refine Tr.blk ?_
  by_cases b1 : (gt x i).1 = (gt y i).1
  ·
   by_cases b2 : (gt x i).2 = (gt y i).2
   ·
    refine Tr.wD hcx hMO [] [some 17,some 18,some 19,some 20,some 21,some 22,some 23,some 24,some 25,some 26,some 27,some 28,some 29,some 30,some 31,some 32,some 33,some 34,some 35,some 36,some 37,some 38,some 39,some 40] [] rfl rfl rfl rfl ?_ Y_fc34
    refine Tr.k [0,1,5,40] ?_
    refine Tr.cF rfl ?_
    refine Tr.skip ?_
    refine hK4 _ ?_
    refine Tr.v hcx [1000016] _ [] rfl rfl rfl ?_ X_fc34
    exact ⟨i + 1,⟨⟨by omega,take_next2 hc14 hq hi.2 (lf_eq b1 b2)⟩,O1⟩,LT,rfl⟩
   refine Tr.wD hcx hMO [] [some 17,some 18,some 19,some 20,some 21,some 22,some 23,some 24,some 25,some 26,some 27,some 28,some 29,some 30,some 31,some 32,some 33,some 34,some 35,some 36,some 37,some 38,some 39,some 40] [] rfl rfl rfl rfl ?_ Y_fc34
   refine Tr.k [0,1,5,40] ?_
   refine Tr.cT rfl ?_
   refine Tr.w hcx [] _ [] rfl rfl rfl ?_ X_fc34
   exact Tr.ret F_fc34
  refine Tr.wD hcx hMO [] [some 17,some 18,some 19,some 20,some 21,some 22,some 23,some 24,some 25,some 26,some 27,some 28,some 29,some 30,some 31,some 32,some 33,some 34,some 35,some 36,some 37,some 38,some 39,some 40] [] rfl rfl rfl rfl ?_ Y_fc34
  refine Tr.k [0,1,5,40] ?_
  refine Tr.cT rfl ?_
  refine Tr.w hcx [] _ [] rfl rfl rfl ?_ X_fc34
  exact Tr.ret F_fc34
 refine Tr.exit ?_
 refine hK2 _ ?_
 refine Tr.w hcx [] _ [] rfl rfl rfl ?_ X_fc34
 exact Tr.ret F_fc34
theorem X_fc36 {p : Prop} (e : p := by intro KZ hZ; simp -implicitDefEqProofs (disch := first | omega | (simp only [go_sem,lA,lD,lT,hle] <;> omega) | decide) only [go_sem,↓reduceIte,Nat.reduceEqDiff,reduceCtorEq,Nat.reduceLT,Nat.reduceBEq,Nat.reduceAdd,b1,b2,hy]; with_reducible exact hZ) : p := e
theorem F_fc36 {p : Prop} (e : p := by simp -implicitDefEqProofs (disch := first | omega | (simp only [go_sem,lA,lD,lT,hle] <;> omega) | decide) only [go_sem,↓reduceIte,Nat.reduceEqDiff,reduceCtorEq]; all_goals (rfl)) : p := e
theorem fc36 {gl : Nat → C} {M : Nat} {pu : Nat → List C → Option C} (hcx : CxOK (cxP gl M pu)) (l : List Leaf) (x y : List UInt8) (hl : l.length ≤ 1000000) : FC Tryd.prog gl 36 [sl eC .no l,.val (str x),.val (str y)] [] (sl eC (.own 2) (insT l x y l.length)) [] := by
 replace hcx := hcx.reN (M := 39)
 refine FC.ofA (cx := cxP gl 39 pu) (rs := [.tmp 6]) rfl Tryd.func36 rfl rfl rfl (by simp only [List.length_cons,List.length_nil]; decide) (by simp only [go_sem]) ?_
 simp only [ini,go_sem]
 have b1 := True.intro
 have b2 := True.intro
 have hy := True.intro
 have hle := ins_len l x y
 refine Tr.w hcx [] _ [] rfl rfl rfl ?_ X_fc36
 refine Tr.w hcx [] _ [] rfl rfl rfl ?_ X_fc36
 refine Tr.seqK fun K1 hK1 => ?_
 refine Tr.w hcx [] _ [] rfl rfl rfl ?_ X_fc36
 refine Tr.k [0,1,2,7,8] ?_
 refine Tr.blk ?_
 refine Tr.loopI (α := Nat) (fun a => [(0,?v0_1),(1,?v1_1),(2,?v2_1),(7,sl eC (.own 2) (insT l x y a)),(8,.val (nI a))]) (fun a => ?h_1) (fun a => a ≤ l.length) (fun a => l.length - a) (0) (Nat.zero_le _) ?le_1 ?hh_1 ?bd_1
 case hh_1 => exact rfl
 case le_1 => exact LT
 rintro i hi
 refine Tr.seqK fun K2 hK2 => ?_
 refine Tr.w hcx [] _ [] rfl rfl rfl ?_ X_fc36
 refine Tr.cD rfl (fun hc12 => ?_) (fun hc12 => ?_)
 ·
  have hli := hle i
  refine Tr.skip ?_
  refine hK2 _ ?_
  refine Tr.seqK fun K3 hK3 => ?_
  refine Tr.blk ?_
  by_cases b1 : bl (gt l i).1 x = true
  ·
   skip
   refine Tr.w hcx [] [some 15,some 16,some 17,some 18,some 19,some 20,some 21,some 22,some 23,some 24,some 25,some 26,some 27,some 28,some 29,some 30] [] rfl rfl rfl ?_ X_fc36
   refine Tr.cF rfl ?_
   refine Tr.skip ?_
   refine hK3 _ ?_
   refine Tr.k [0,1,2,7,8] ?_
   refine Tr.v hcx [1000014] _ [] rfl rfl rfl ?_ X_fc36
   refine ⟨i + 1,⟨by omega,O1⟩,?_,rfl⟩
   (simp only [Le_nil,Le_cons,↓A_cons,↓reduceIte,Nat.reduceEqDiff,CLe_refl,CLe_top,CLe_full,CLe_nil,CLe_own,and_true,true_and]; all_goals (repeat' first | exact CLe.refl _ | exact True.intro | (refine CLe_sln ?_; first | rfl | (simp only [List.take_zero]; done)) | exact CLe_nI (by omega) | exact CLe_int (by omega) | exact CLe_inI (by omega) | exact CLe_nIi (by omega) | with_reducible apply And.intro))
   all_goals (refine CLe_sl ?_; first | exact ins_T hc12 b1 b2 | exact ins_F hc12 (Or.inl b1) | exact ins_F hc12 (Or.inr b2))
  replace b1 := Bool.eq_false_iff.2 b1
  by_cases b2 : bl (gt l i).1 y = true
  ·
   skip
   refine Tr.w hcx [] [some 15,some 16,some 17,some 18,some 19,some 20,some 21,some 22,some 23,some 24,some 25,some 26,some 27,some 28,some 29,some 30] [] rfl rfl rfl ?_ X_fc36
   refine Tr.cT rfl ?_
   refine Tr.v hcx [31,1000037] _ [] rfl rfl rfl ?_ X_fc36
   refine hK3 _ ?_
   refine Tr.k [0,1,2,7,8] ?_
   refine Tr.v hcx [1000014] _ [] rfl rfl rfl ?_ X_fc36
   refine ⟨i + 1,⟨by omega,O1⟩,?_,rfl⟩
   (simp only [Le_nil,Le_cons,↓A_cons,↓reduceIte,Nat.reduceEqDiff,CLe_refl,CLe_top,CLe_full,CLe_nil,CLe_own,and_true,true_and]; all_goals (repeat' first | exact CLe.refl _ | exact True.intro | (refine CLe_sln ?_; first | rfl | (simp only [List.take_zero]; done)) | exact CLe_nI (by omega) | exact CLe_int (by omega) | exact CLe_inI (by omega) | exact CLe_nIi (by omega) | with_reducible apply And.intro))
   all_goals (refine CLe_sl ?_; first | exact ins_T hc12 b1 b2 | exact ins_F hc12 (Or.inl b1) | exact ins_F hc12 (Or.inr b2))
  replace b2 := Bool.eq_false_iff.2 b2
  refine Tr.w hcx [] [some 15,some 16,some 17,some 18,some 19,some 20,some 21,some 22,some 23,some 24,some 25,some 26,some 27,some 28,some 29,some 30] [] rfl rfl rfl ?_ X_fc36
  refine Tr.cF rfl ?_
  refine Tr.skip ?_
  refine hK3 _ ?_
  refine Tr.k [0,1,2,7,8] ?_
  refine Tr.v hcx [1000014] _ [] rfl rfl rfl ?_ X_fc36
  refine ⟨i + 1,⟨by omega,O1⟩,?_,rfl⟩
  (simp only [Le_nil,Le_cons,↓A_cons,↓reduceIte,Nat.reduceEqDiff,CLe_refl,CLe_top,CLe_full,CLe_nil,CLe_own,and_true,true_and]; all_goals (repeat' first | exact CLe.refl _ | exact True.intro | (refine CLe_sln ?_; first | rfl | (simp only [List.take_zero]; done)) | exact CLe_nI (by omega) | exact CLe_int (by omega) | exact CLe_inI (by omega) | exact CLe_nIi (by omega) | with_reducible apply And.intro))
  all_goals (refine CLe_sl ?_; first | exact ins_T hc12 b1 b2 | exact ins_F hc12 (Or.inl b1) | exact ins_F hc12 (Or.inr b2))
 obtain rfl : i = l.length := by omega
 refine Tr.exit ?_
 refine hK1 _ ?_
 refine Tr.w hcx [1000038] _ [] rfl rfl rfl ?_ X_fc36
 exact Tr.ret F_fc36
theorem X_fc20 {p : Prop} (e : p := by intro KZ hZ; simp -implicitDefEqProofs (disch := first | omega | (simp only [go_sem,lA,lD,lT] <;> omega) | decide) only [go_sem,↓reduceIte,Nat.reduceEqDiff,reduceCtorEq,Nat.reduceLT,Nat.reduceBEq,Nat.reduceAdd,e17,hy]; with_reducible exact hZ) : p := e
theorem F_fc20 {p : Prop} (e : p := by simp -implicitDefEqProofs (disch := first | omega | (simp only [go_sem,lA,lD,lT] <;> omega) | decide) only [go_sem,↓reduceIte,Nat.reduceEqDiff,reduceCtorEq]; all_goals (first | exact str_cong (key_1 hk0 hc15).symm | exact str_cong (key_2 hk0 hc15 hc25).symm | exact str_cong (key_3 hk0 hc39).symm | exact str_cong (key_4 hk0 hc15 hc25 hc39).symm)) : p := e
theorem fc20 {gl : Nat → C} {M : Nat} {pu : Nat → List C → Option C} (hcx : CxOK (cxP gl M pu)) (h17 : ∀ (n : Int) (m : Nat),-9223372036854775808 ≤ n ∧ n ≤ 9223372036854775807 ∧ 0 < m ∧ m ≤ 9223372036854775807 → pu 17 [.val (.int .i64 n),.val (nI m)] = some (.val (nI (aroundI n m)))) (h49 : ∀ n : Nat,n ≤ 1000000000000 → pu 49 [.val (nI n)] = some (.val (str (keyT n)))) (l : List Leaf) (n : Int) (hl : l.length ≤ 1000000) (hk : ∀ i,i < l.length → (gt l i).1.length < 1000000) (hn : -9223372036854775808 ≤ n ∧ n ≤ 9223372036854775807) : FC Tryd.prog gl 20 [sl eC .no l,.val (.int .i64 n)] [] (.val (str (kyT l n))) [] := by
 replace hcx := hcx.reN (M := 42)
 refine FC.ofA (cx := cxP gl 42 pu) (rs := [.tmp 4]) rfl Tryd.func20 rfl rfl rfl (by simp only [List.length_cons,List.length_nil]; decide) (by simp only [go_sem]) ?_
 simp only [ini,go_sem]
 have hy := True.intro
 have e17 : pu 17 [.val (.int .i64 n),.val (nI (3 * l.length + 5))] = some (.val (nI (aroundI n (3 * l.length + 5)))) := h17 n _ ⟨hn.1,hn.2,by omega,by omega⟩
 have hlt := around_lt n (m := 3 * l.length + 5) (by omega)
 obtain ⟨k,hk0⟩ : ∃ k,aroundI n (3 * l.length + 5) = k := ⟨_,rfl⟩
 rw [hk0] at e17 hlt
 refine Tr.w hcx [] _ [] rfl rfl rfl ?_ X_fc20
 refine Tr.w hcx [1000011] _ [] rfl rfl rfl ?_ X_fc20
 refine Tr.seqK fun K1 hK1 => ?_
 refine Tr.w hcx [] _ [] rfl rfl rfl ?_ X_fc20
 refine Tr.cD rfl (fun hc15 => ?_) (fun hc15 => ?_)
 ·
  refine Tr.w hcx [1000020] _ [] rfl rfl rfl ?_ X_fc20
  exact Tr.ret F_fc20
 refine Tr.skip ?_
 refine hK1 _ ?_
 refine Tr.seqK fun K2 hK2 => ?_
 refine Tr.w hcx [] _ [] rfl rfl rfl ?_ X_fc20
 refine Tr.cD rfl (fun hc25 => ?_) (fun hc25 => ?_)
 ·
  have hkk := hk (k - l.length) (by omega)
  refine Tr.w hcx [1000034] _ [] rfl rfl rfl ?_ X_fc20
  refine Tr.k [4] ?_
  exact Tr.ret F_fc20
 refine Tr.skip ?_
 refine hK2 _ ?_
 refine Tr.seqK fun K3 hK3 => ?_
 refine Tr.w hcx [] _ [] rfl rfl rfl ?_ X_fc20
 refine Tr.cD rfl (fun hc39 => ?_) (fun hc39 => ?_)
 ·
  refine Tr.w hcx [] _ [] rfl rfl rfl ?_ X_fc20
  exact Tr.ret F_fc20
 refine Tr.skip ?_
 refine hK3 _ ?_
 refine Tr.k [5] ?_
 have e49 := h49 k (by omega)
 have hy := @e49
 refine Tr.w hcx [1000041] _ [] rfl rfl rfl ?_ X_fc20
 exact Tr.ret F_fc20
theorem X_fc10 {p : Prop} (e : p := by intro KZ hZ; simp -implicitDefEqProofs (disch := first | omega | (simp only [go_sem,lA,lD,lT,lvsR_len,vals_ln] <;> omega) | decide) only [go_sem,↓reduceIte,Nat.reduceEqDiff,reduceCtorEq,Nat.reduceLT,Nat.reduceBEq,Nat.reduceAdd,b1,b2,hy]; with_reducible exact hZ) : p := e
theorem F_fc10 {p : Prop} (e : p := by simp -implicitDefEqProofs (disch := first | omega | (simp only [go_sem,lA,lD,lT,lvsR_len,vals_ln] <;> omega) | decide) only [go_sem,↓reduceIte,Nat.reduceEqDiff,reduceCtorEq]; all_goals (rw [lvsT,← hiE])) : p := e
theorem fc10 {gl : Nat → C} {M : Nat} {pu : Nat → List C → Option C} (hcx : CxOK (cxP gl M pu)) (h48 : ∀ (l : List Int) (i m : Nat),LI l → i ≤ 1000000 → 0 < m ∧ m ≤ 9223372036854775807 → pu 48 [sl iC .no l,.val (nI i),.val (nI m)] = some (.val (nI (atI l i m)))) (h49 : ∀ n : Nat,n ≤ 1000000000000 → pu 49 [.val (nI n)] = some (.val (str (keyT n)))) (l : List Int) (hl : LI l) : FC Tryd.prog gl 10 [sl iC .no l] [] (sl eC (.own 2) (lvsT l)) [] := by
 replace hcx := hcx.reN (M := 39)
 refine FC.ofA (cx := cxP gl 39 pu) (rs := [.tmp 2]) rfl Tryd.func10 rfl rfl rfl (by simp only [List.length_cons,List.length_nil]; decide) (by simp only [go_sem]) ?_
 simp only [ini,go_sem]
 have b1 := True.intro
 have b2 := True.intro
 have hy := True.intro
 have hl1 := hl.1
 have hN := lvsN_le l
 refine Tr.w hcx [] _ [] rfl rfl rfl ?_ X_fc10
 refine Tr.w hcx [] _ [] rfl rfl rfl ?_ X_fc10
 refine Tr.w hcx [] _ [] rfl rfl rfl ?_ X_fc10
 refine Tr.seqK fun K1 hK1 => ?_
 refine Tr.w hcx [] _ [] rfl rfl rfl ?_ X_fc10
 refine Tr.k [0,3,4,5] ?_
 refine Tr.blk ?_
 refine Tr.loopI (α := Nat) (fun a => [(0,?v0_1),(3,sl eC (.own 2) (lvsR l a).1),(4,.val (.int .i64 (((lvsR l a).2 : Int) - 1))),(5,.val (nI a))]) (fun a => ?h_1) (fun a => a ≤ lvsN l) (fun a => lvsN l - a) (0) (Nat.zero_le _) ?le_1 ?hh_1 ?bd_1
 case hh_1 => exact rfl
 case le_1 => (simp only [Le_nil,Le_cons,↓A_cons,↓reduceIte,Nat.reduceEqDiff,CLe_refl,CLe_top,CLe_full,CLe_nil,CLe_own,and_true,true_and]; all_goals (repeat' first | exact CLe.refl _ | exact True.intro | (refine CLe_sln ?_; first | rfl | (simp only [List.take_zero]; done)) | exact CLe_nI (by omega) | exact CLe_int (by omega) | exact CLe_inI (by omega) | exact CLe_nIi (by omega) | with_reducible apply And.intro)); all_goals exact CLe_int (by simp [lvsR])
 rintro i hi
 refine Tr.seqK fun K2 hK2 => ?_
 by_cases b1 : 2 * i < l.length
 ·
  by_cases b2 : i < 11
  ·
   have hiN := lvsN_S b1 b2
   refine Tr.w hcx [] [some 6,some 7,some 8,some 9,some 10,some 11,some 12,some 13,some 14] [] rfl rfl rfl ?_ X_fc10
   refine Tr.cT rfl ?_
   refine Tr.skip ?_
   refine hK2 _ ?_
   refine Tr.seqK fun K3 hK3 => ?_
   refine Tr.blk ?_
   have e48 := h48 l (2 * i) 3 hl (by omega) (by omega)
   have e48b := h48 l (2 * i + 1) 5 hl (by omega) (by omega)
   have hat := lvsR_at l i
   have ha3 := atI_lt l (2 * i) (m := 3) (by omega)
   have ha5 := atI_lt l (2 * i + 1) (m := 5) (by omega)
   have e49 : pu 49 [.val (.int .i64 (((lvsR l i).2 : Int) - 1 + ((1 : Nat) : Int) + ((atI l (2 * i) 3 : Nat) : Int)))] = some (.val (str (keyT ((lvsR l i).2 + atI l (2 * i) 3)))) := by
     rw [show (((lvsR l i).2 : Int) - 1 + ((1 : Nat) : Int) + ((atI l (2 * i) 3 : Nat) : Int)) = (((lvsR l i).2 + atI l (2 * i) 3 : Nat) : Int) by omega]
     exact h49 _ (by omega)
   have hy := @e48
   refine Tr.w hcx [1000023] _ [] rfl rfl rfl ?_ X_fc10
   refine Tr.k [0,3,4,5] ?_
   have hy := And.intro @e49 (And.intro @e48b @vals_mk)
   refine Tr.v hcx [24,1000037] _ [] rfl rfl rfl ?_ X_fc10
   refine hK3 _ ?_
   have hy := True.intro
   refine Tr.v hcx [1000016] _ [] rfl rfl rfl ?_ X_fc10
   refine ⟨i + 1,⟨by omega,O1⟩,?_,rfl⟩
   (simp only [Le_nil,Le_cons,↓A_cons,↓reduceIte,Nat.reduceEqDiff,CLe_refl,CLe_top,CLe_full,CLe_nil,CLe_own,and_true,true_and]; all_goals (repeat' first | exact CLe.refl _ | exact True.intro | (refine CLe_sln ?_; first | rfl | (simp only [List.take_zero]; done)) | exact CLe_nI (by omega) | exact CLe_int (by omega) | exact CLe_inI (by omega) | exact CLe_nIi (by omega) | with_reducible apply And.intro))
   all_goals first | (refine CLe_sl ?_; rfl) | (refine CLe_int ?_; simp only [lvsR]; omega)
  skip
  refine Tr.w hcx [] [some 6,some 7,some 8,some 9,some 10,some 11,some 12,some 13,some 14] [] rfl rfl rfl ?_ X_fc10
  refine Tr.cF rfl ?_
  refine Tr.exit ?_
  refine hK1 _ ?_
  have hiE := lvsN_e hi (by omega)
  refine Tr.w hcx [1000038] _ [] rfl rfl rfl ?_ X_fc10
  exact Tr.ret F_fc10
 refine Tr.w hcx [] [some 6,some 7,some 8,some 9,some 10,some 11,some 12,some 13,some 14] [] rfl rfl rfl ?_ X_fc10
 refine Tr.cF rfl ?_
 refine Tr.exit ?_
 refine hK1 _ ?_
 have hiE := lvsN_e hi (by omega)
 refine Tr.w hcx [1000038] _ [] rfl rfl rfl ?_ X_fc10
 exact Tr.ret F_fc10
end Go.Sx
namespace Go.Sx
open Go.RowKit
def atG (f : Nat) (pre : List C) : Nat → C
  | 0 => .top
  | d + 1 => .kp [.fn f (pre ++ [atG f pre d])]
theorem atG_noR (f : Nat) (pre : List C) (d : Nat) : (atG f pre d).noR = atG f pre d := by cases d <;> rfl
theorem noRefs_apx (k : Nat) (x : C) : ∀ l : List C,noRefs k (l ++ [x]) = (noRefs k l && noRef k x)
  | [] => by simp [noRefs]
  | y :: l => by simp only [List.cons_append,noRefs,noRefs_apx k x l,Bool.and_assoc]
theorem atG_nr (k f : Nat) (pre : List C) (h : noRefs k pre = true) : ∀ d,noRef k (atG f pre d) = true
  | 0 => rfl
  | d + 1 => by simp only [atG,noRef,noRefs,noRefs_apx,h,atG_nr k f pre h d,Bool.and_self]
theorem bkCs_app (r : Nat → Nat) (x : C) : ∀ l : List C,bkCs r (l ++ [x]) = bkCs r l ++ [bkC r x]
  | [] => by simp [bkCs]
  | y :: l => by simp only [List.cons_append,bkCs,bkCs_app r x l]
theorem atG_bk (r : Nat → Nat) (f : Nat) (pre : List C) : ∀ d,bkC r (atG f pre d) = atG f (bkCs r pre) d
  | 0 => by simp only [atG,bkC]
  | d + 1 => by simp only [atG,bkC,bkCs,bkCs_app,atG_bk r f pre d]
theorem mvCs_app (ρ : List Nat) (x : C) : ∀ l : List C,mvCs ρ (l ++ [x]) = mvCs ρ l ++ [mvC ρ x]
  | [] => by simp [mvCs]
  | y :: l => by simp only [List.cons_append,mvCs,mvCs_app ρ x l]
theorem atG_mv (ρ : List Nat) (f : Nat) (pre : List C) : ∀ d,mvC ρ (atG f pre d) = atG f (mvCs ρ pre) d
  | 0 => by simp only [atG,mvC]
  | d + 1 => by simp only [atG,mvC,mvCs,mvCs_app,atG_mv ρ f pre d]
theorem fzCs_app (ok : Nat → Bool) (b : Nat) (ys : List C) (x : C) : ∀ l : List C,fzCs ok b ys (l ++ [x]) = fzCs ok b ys l ++ [fzC ok b ys x]
  | [] => by simp [fzCs]
  | y :: l => by simp only [List.cons_append,fzCs,fzCs_app ok b ys x l]
theorem scrs_app (ok : Nat → Bool) (x : C) : ∀ l : List C,scrs ok (l ++ [x]) = scrs ok l ++ [scr ok x]
  | [] => by simp [scrs]
  | y :: l => by simp only [List.cons_append,scrs,scrs_app ok x l]
theorem atG_fz (ok : Nat → Bool) (b : Nat) (ys : List C) (f : Nat) (pre : List C) : ∀ d,fzC ok b ys (atG f pre d) = atG f (fzCs ok b ys pre) d
  | 0 => by simp only [atG,fzC]
  | d + 1 => by simp only [atG,fzC,fzCs,fzCs_app,atG_fz ok b ys f pre d]
theorem fzYn_self (h : Hp) (b f : Nat) (pre : List C) (h1 : scrs (okF h b) pre = pre) (h2 : ∀ ys,fzCs (okF h b) b ys pre = pre) : ∀ m,fzYn h b [.fn f (pre ++ [.bp b 0])] m = [.fn f (pre ++ [atG f pre m])]
  | 0 => by
    have e : okF h b b = false := by simp [okF]
    simp only [fzYn,fzY,scrs,scr,scrs_app,h1,e,Bool.false_eq_true,if_false]; rfl
  | m + 1 => by
    simp only [fzYn,fzCs,fzC,fzCs_app,h2,fzYn_self h b f pre h1 h2 m,if_true,List.drop_zero,List.map_cons,List.map_nil]
    rfl
section
variable (ok : Nat → Bool) (b : Nat) (ys : List C)
theorem fzC_sv (b' o n : Nat) : fzC ok b ys (.sv b' o n) = if b' = b then (if o + n ≤ ys.length then .sl .no n ((ys.drop o).take n) else .top) else if ok b' = true then .sv b' o n else .top := by simp only [fzC]
theorem fzC_bp (b' o : Nat) : fzC ok b ys (.bp b' o) = if b' = b then .kp (ys.drop o) else if ok b' = true then .bp b' o else .top := by simp only [fzC]
theorem fzC_mp (b' : Nat) : fzC ok b ys (.mp b') = if b' = b then .top else if ok b' = true then .mp b' else .top := by simp only [fzC]
theorem fzC_bt (b' t n : Nat) : fzC ok b ys (.bt b' t n) = if b' = b then .top else if ok b' = true then .bt b' t n else .top := by simp only [fzC]
theorem scr_sv (b o n : Nat) : scr ok (.sv b o n) = if ok b = true then .sv b o n else .top := by simp only [scr]
theorem scr_gv (b n : Nat) (s : Nat × Nat) : scr ok (.gv b n s) = if ok b = true then .gv b n s else .top := by simp only [scr]
theorem scr_bp (b o : Nat) : scr ok (.bp b o) = if ok b = true then .bp b o else .top := by simp only [scr]
theorem scr_mp (b : Nat) : scr ok (.mp b) = if ok b = true then .mp b else .top := by simp only [scr]
theorem scr_bt (b t n : Nat) : scr ok (.bt b t n) = if ok b = true then .bt b t n else .top := by simp only [scr]
theorem scr_kp (xs : List C) : scr ok (.kp xs) = .kp (scrs ok xs) := by simp only [scr]
theorem scr_agg (xs : List C) : scr ok (.agg xs) = .agg (scrs ok xs) := by simp only [scr]
theorem scr_fn (f : Nat) (xs : List C) : scr ok (.fn f xs) = .fn f (scrs ok xs) := by simp only [scr]
theorem scr_top : scr ok .top = .top := by simp only [scr]
theorem scr_val (v : Value) : scr ok (.val v) = .val v := by simp only [scr]
theorem scrs_nil : scrs ok [] = [] := by simp only [scrs]
theorem scrs_cons (x : C) (xs : List C) : scrs ok (x :: xs) = scr ok x :: scrs ok xs := by simp only [scrs]
theorem scrs_cl {α : Type} (f : α → List C) [h : Fla f] (l : List α) : scrs ok (cl f l) = cl f l := scrs_flat ok _ (flats_cl f l)
theorem scr_sl {α : Type} (f : α → List C) [h : Fla f] (r : Rt) (l : List α) : scr ok (sl f r l) = sl f r l := by unfold sl; simp only [scr,scrs_cl]
theorem fzH_eq (h : Hp) : fzH ok b ys h = (h.map fun o => o.map (fzCs ok b ys)).set b (some deadC) := rfl
theorem fzY_eq (h : Hp) (cells : List C) : fzY h b cells = (scrs (okF h b) cells).map C.noR := rfl
end
section
variable {cx : Cx} {Q : Ex → St → Prop} {e : List (Nat × C)} {h : Hp} {c : Code}
theorem Tr.f1 (hcx : CxOK cx) (b : Nat) (cells : List C) {e' : List (Nat × C)} {h' : Hp} (H : Tr cx 0 c ⟨A e',h'⟩ Q)
    (hb : h.at b = some cells := by simp only [go_sem])
    (E : ∀ K : List (Nat × C) → Hp → Prop,K e' h' → K (mapE (fzC (okF h b) b (fzY h b cells)) e) (fzH (okF h b) b (fzY h b cells) h) := by
      intro KZ hZ
      simp -implicitDefEqProofs only [go_sem,fzY_eq,fzY_cl,fzH_eq,mapE_nil,mapE_cons,fzC_val,fzC_top,fzC_agg,fzC_tup,fzC_kp,fzC_fn,fzC_sl,fzC_sv,fzC_bp,fzC_mp,fzC_bt,fzC_gv,fzCs_nil,fzCs_cons,fzCs_cl,scr_sv,scr_gv,scr_bp,scr_mp,scr_bt,scr_kp,scr_agg,scr_fn,scr_top,scr_val,scr_sl,scrs_nil,scrs_cons,scrs_cl,atG_fz,okF_eq,Option.isSome_some,Option.isSome_none,Nat.reduceBNe,Bool.true_and,Bool.and_true,Bool.false_and,Bool.true_or,Bool.false_or,↓reduceIte,Nat.reduceEqDiff,reduceCtorEq,Nat.zero_ne_one,Nat.one_ne_zero]
      with_reducible exact hZ) : Tr cx 0 c ⟨A e,h⟩ Q :=
  Tr.fzA hcx b cells hb (Nat.zero_le _) (fun j hj => absurd hj (Nat.not_lt_zero j)) (E (fun x y => Tr cx 0 c ⟨A x,y⟩ Q) H)
theorem Tr.f2 (hcx : CxOK cx) (b m f : Nat) (pre : List C) {e' : List (Nat × C)} {h' : Hp} (H : Tr cx 0 c ⟨A e',h'⟩ Q)
    (hb : h.at b = some [.fn f (pre ++ [.bp b 0])] := by simp only [go_sem])
    (h1 : scrs (okF h b) pre = pre := by simp -implicitDefEqProofs only [go_sem,scr_sv,scr_gv,scr_bp,scr_mp,scr_bt,scr_kp,scr_agg,scr_fn,scr_top,scr_val,scr_sl,scrs_nil,scrs_cons,scrs_cl,okF_eq,Option.isSome_some,Nat.reduceBNe,Bool.true_and,Bool.true_or,↓reduceIte,Nat.reduceEqDiff,reduceCtorEq])
    (h2 : ∀ ys,fzCs (okF h b) b ys pre = pre := by intro ys; simp -implicitDefEqProofs only [go_sem,fzC_val,fzC_top,fzC_agg,fzC_tup,fzC_kp,fzC_fn,fzC_sl,fzC_sv,fzC_bp,fzC_mp,fzC_bt,fzC_gv,fzCs_nil,fzCs_cons,fzCs_cl,okF_eq,Option.isSome_some,Nat.reduceBNe,Bool.true_and,Bool.true_or,↓reduceIte,Nat.reduceEqDiff,reduceCtorEq])
    (E : ∀ K : List (Nat × C) → Hp → Prop,K e' h' → K (mapE (fzC (okF h b) b [.fn f (pre ++ [atG f pre m])]) e) (fzH (okF h b) b [.fn f (pre ++ [atG f pre m])] h) := by
      intro KZ hZ
      simp -implicitDefEqProofs only [go_sem,fzH_eq,mapE_nil,mapE_cons,fzC_val,fzC_top,fzC_agg,fzC_tup,fzC_kp,fzC_fn,fzC_sl,fzC_sv,fzC_bp,fzC_mp,fzC_bt,fzC_gv,fzCs_nil,fzCs_cons,fzCs_cl,atG_fz,okF_eq,Option.isSome_some,Option.isSome_none,Nat.reduceBNe,Bool.true_and,Bool.and_true,Bool.false_and,Bool.true_or,Bool.false_or,↓reduceIte,Nat.reduceEqDiff,reduceCtorEq,Nat.zero_ne_one,Nat.one_ne_zero]
      with_reducible exact hZ) : Tr cx 0 c ⟨A e,h⟩ Q :=
  Tr.fzNA hcx b m _ hb (Nat.zero_le _) (fun j hj => absurd hj (Nat.not_lt_zero j)) (by rw [fzYn_self h b f pre h1 h2 m]; exact E (fun x y => Tr cx 0 c ⟨A x,y⟩ Q) H)
end
theorem eq_vn {P : Program} {t e : TypeId} {s y : Nat} {z : List Value} (op : BinOp) (a : Option Addr) (n c : Nat) (h : td P t = some ⟨.slice e,s,y,z⟩) (hg : P.eqGuardType P.depth t = false) : binPlan P op t (.val (.slice a n c)) (.val (.slice none 0 0)) = eqR op a.isNone := by
  have he : eqC P 9 t (.val (.slice a n c)) (.val (.slice none 0 0)) = some a.isNone := by
    unfold eqC; rw [h]
    show nilE (some a.isNone) (some true) = _
    cases a <;> rfl
  show eqPlan P op t _ _ = _
  unfold eqPlan
  rw [if_pos ⟨.inr (.inl ⟨rfl,rfl⟩),hg⟩]
  unfold eqR
  cases op <;> simp [he,vp,Plan.pure]
theorem RepL.pick {G : Gh} {x : C} : ∀ {pre post : List C} {vs : List Value},RepL G (pre ++ x :: post) vs → ∃ v,Rep G x v ∧ RepL G (pre ++ .val v :: post) vs
  | [],post,vs,h => by
    simp only [List.nil_append,RepL] at h ⊢
    obtain ⟨v,vs',rfl,h1,h2⟩ := h
    exact ⟨v,h1,v,vs',rfl,rep_val.2 rfl,h2⟩
  | p :: pre,post,vs,h => by
    simp only [List.cons_append,RepL] at h ⊢
    obtain ⟨v,vs',rfl,h1,h2⟩ := h
    obtain ⟨u,g1,g2⟩ := RepL.pick h2
    exact ⟨u,g1,v,vs',rfl,h1,g2⟩
theorem FC.ofNil {P : Program} {gl : Nat → C} {f : Nat} {pre post : List C} {h h' : Hp} {c : C} {r : Rt} (he : Entered P f) (H : ∀ (a : Option Addr) (cap : Nat),cap ≤ maxLen → FC P gl f (pre ++ .val (.slice a 0 cap) :: post) h c h') : FC P gl f (pre ++ .sl r 0 [] :: post) h c h' := by
  refine ⟨he,fun G w vs W hT hg hr => ?_⟩
  obtain ⟨v,h1⟩ : ∃ v,Rep G (.sl r 0 []) v ∧ RepL G (pre ++ .val v :: post) vs.toList := RepL.pick hr
  obtain ⟨q,hl⟩ := h1
  simp only [Rep] at q
  obtain ⟨a,cap,rfl,_,h3,_,_⟩ := q
  exact (H a cap h3).2 G w vs W hT hg hl
theorem CLe.ofVal (a : Option Addr) (cap : Nat) (h : cap ≤ maxLen) : CLe (.val (.slice a 0 cap)) (.sl .no 0 []) :=
  ⟨fun G v q => by rw [rep_val] at q; simp only [Rep]; exact ⟨a,cap,q,Nat.zero_le _,h,fun e => (by cases e),by simp⟩,fun s n xs e => by cases e⟩
theorem oneB_atG (b f : Nat) (pre : List C) (d : Nat) (l : List C) : oneB b (atG f pre d :: l) = oneB b l := by cases d <;> rfl
attribute [go_sem] atG_noR oneB_atG
end Go.Sx
namespace Go.Sx
open Go.RowKit Go.Proofs
set_option maxRecDepth 100000
set_option maxHeartbeats 8000000
theorem atD_S (l : List Leaf) (d : Nat) : atG 79 [.kp [sl eC .no l]] (d + 1) = .kp [.fn 79 [.kp [sl eC .no l],atG 79 [.kp [sl eC .no l]] d]] := rfl
def OkL (l : List Leaf) : Prop := l.length ≤ 4096 ∧ ∀ i,i < l.length → (gt l i).1.length ≤ 65536 ∧ (gt l i).2.length ≤ 65536
theorem valT_ok {l : List Leaf} (h : ¬ valT l = 4) : OkL l := by
  unfold valT at h
  split at h
  · exact absurd rfl h
  · rename_i hn
    refine ⟨by omega,fun i hi => ?_⟩
    have : bigE (gt l i) = false := Bool.eq_false_iff.2 fun e => hn (Or.inr (any_at hi e))
    simp [bigE] at this; omega
theorem rowD_1 {l : List Leaf} {d a b : Nat} (h : b - a ≤ 1) : rowD l d a b = lefT (gt l a) := by
  cases d with
  | zero => rfl
  | succ d => unfold rowD; rw [if_pos h]
theorem rowD_2 {l : List Leaf} {d a b : Nat} (h : ¬ b - a ≤ 1) : rowD l (d + 1) a b = nodT (rowD l d a (a + halfT (b - a))) (rowD l d (a + halfT (b - a)) b) := by
  rw [rowD,if_neg h]
def rotL (l : List Leaf) : List UInt8 := rotT l.length (digT l)
theorem rotL_len (l : List Leaf) : (rotL l).length = 16 := rotT_len _ _
def rooT (l : List Leaf) : List UInt8 × Nat := if valT l = 0 then (rotL l,0) else (List.replicate 16 0,valT l)
theorem rooT_no {l : List Leaf} (h : ¬ valT l = 0) : rooT l = (List.replicate 16 0,valT l) := if_neg h
theorem rooT_ok {l : List Leaf} (h : valT l = 0) : rooT l = (rotL l,0) := if_pos h
theorem rotL_0 {l : List Leaf} (h : l.length = 0) (d : List UInt8) : rotT 0 d = rotL l := by unfold rotL; rw [h]; rfl
theorem X_fc79z {p : Prop} (e : p := by intro KZ hZ; simp -implicitDefEqProofs (disch := first | omega | (simp only [go_sem,lA,lD,lT,lefT_len] <;> omega) | decide) only [go_sem,↓reduceIte,Nat.reduceEqDiff,reduceCtorEq,Nat.reduceLT,Nat.reduceBEq,Nat.reduceAdd,hy]; with_reducible exact hZ) : p := e
theorem F_fc79z {p : Prop} (e : p := by simp -implicitDefEqProofs (disch := first | omega | (simp only [go_sem,lA,lD,lT,lefT_len] <;> omega) | decide) only [go_sem,↓reduceIte,Nat.reduceEqDiff,reduceCtorEq]; all_goals (rw [rowD_1 hab.2.2])) : p := e
theorem fc79z {gl : Nat → C} {M : Nat} {pu : Nat → List C → Option C} (hcx : CxOK (cxP gl M pu)) (h80 : ∀ x : Leaf,x.1.length ≤ 65536 ∧ x.2.length ≤ 65536 → pu 80 [.agg (eC x)] = some (.agg (cl bC (lefT x)))) (l : List Leaf) (d a b : Nat) (hl : OkL l) (hab : a < b ∧ b ≤ l.length ∧ b - a ≤ 1) : FC Tryd.prog gl 79 [.val (nI a),.val (nI b),.kp [sl eC .no l],atG 79 [.kp [sl eC .no l]] d] [] (.agg (cl bC (rowD l d a b))) [] := by
 replace hcx := hcx.reN (M := 29)
 refine FC.ofA (cx := cxP gl 29 pu) (rs := [.cell 6 29]) rfl Tryd.func79 rfl rfl rfl (by simp only [List.length_cons,List.length_nil]; decide) (by simp only [go_sem]) ?_
 simp only [ini,go_sem]
 have hy := True.intro
 have h11 : b - a = 1 := by omega
 have hll := hl.1
 have e80 := h80 (gt l a) (hl.2 a (by omega))
 refine Tr.w hcx [] _ [none] rfl rfl rfl ?_ X_fc79z
 refine Tr.seqK fun K1 hK1 => ?_
 have hy := @h11
 refine Tr.w hcx [] _ [] rfl rfl rfl ?_ X_fc79z
 refine Tr.cT rfl ?_
 have hy := @e80
 refine Tr.w hcx [] _ [] rfl rfl rfl ?_ X_fc79z
 exact Tr.ret F_fc79z
theorem X_fc79s {p : Prop} (e : p := by intro KZ hZ; simp -implicitDefEqProofs (disch := first | omega | (simp only [go_sem,lA,lD,lT,rowD_len,nodT_len] <;> omega) | decide) only [go_sem,↓reduceIte,Nat.reduceEqDiff,reduceCtorEq,Nat.reduceLT,Nat.reduceBEq,Nat.reduceAdd,hy]; with_reducible exact hZ) : p := e
theorem Y_fc79s {p : Prop} (e : p := by intro KZ hZ; simp -implicitDefEqProofs (disch := first | omega | (simp only [go_sem,lA,lD,lT,rowD_len,nodT_len] <;> omega) | decide) only [go_sem,↓reduceIte,Nat.reduceEqDiff,reduceCtorEq,Nat.reduceLT,Nat.reduceBEq,Nat.reduceAdd,hy]; refine And.intro ?_ hZ; exact rfl) : p := e
theorem F_fc79s {p : Prop} (e : p := by simp -implicitDefEqProofs (disch := first | omega | (simp only [go_sem,lA,lD,lT,rowD_len,nodT_len] <;> omega) | decide) only [go_sem,↓reduceIte,Nat.reduceEqDiff,reduceCtorEq]; all_goals (rw [rowD_2 (by omega)])) : p := e
theorem fc79s {gl : Nat → C} {M : Nat} {pu : Nat → List C → Option C} (hcx : CxOK (cxP gl M pu)) (h81 : ∀ x y : Nat,x ≤ y ∧ y ≤ 4611686018427387000 → pu 81 [.val (nI x),.val (nI y)] = some (.val (nI (x + halfT (y - x))))) (h82 : ∀ a b : List UInt8,a.length = 16 → b.length = 16 → pu 82 [.agg (cl bC a),.agg (cl bC b)] = some (.agg (cl bC (nodT a b)))) (l : List Leaf) (d a b : Nat) (hl : OkL l) (hab : a < b ∧ b ≤ l.length ∧ b - a ≤ 2 ^ (d + 1) ∧ 1 < b - a) (h79 : ∀ (a b : Nat),a < b ∧ b ≤ l.length ∧ b - a ≤ 2 ^ d → pu 79 [.val (nI a),.val (nI b),.kp [sl eC .no l],atG 79 [.kp [sl eC .no l]] d] = some (.agg (cl bC (rowD l d a b)))) : FC Tryd.prog gl 79 [.val (nI a),.val (nI b),.kp [sl eC .no l],atG 79 [.kp [sl eC .no l]] (d + 1)] [] (.agg (cl bC (rowD l (d + 1) a b))) [] := by
 replace hcx := hcx.reN (M := 29)
 refine FC.ofA (cx := cxP gl 29 pu) (rs := [.cell 6 29]) rfl Tryd.func79 rfl rfl rfl (by simp only [List.length_cons,List.length_nil]; decide) (by simp only [go_sem]) ?_
 simp only [ini,go_sem]
 have hy := True.intro
 have h11 : (b - a = 1) = False := eq_false (by omega)
 have hll := hl.1
 have e81 := h81 a b (by omega)
 have hh := half_lt (n := b - a) (by omega)
 have hh2 := half_le (by omega) hab.2.2.1
 have e1 := h79 a (a + halfT (b - a)) (by omega)
 have e2 := h79 (a + halfT (b - a)) b (by omega)
 have e82 := h82 _ _ (rowD_len l d a (a + halfT (b - a))) (rowD_len l d (a + halfT (b - a)) b)
 refine Tr.w hcx [] _ [none] rfl rfl rfl ?_ X_fc79s
 refine Tr.seqK fun K1 hK1 => ?_
 have hy := @h11
 refine Tr.w hcx [] _ [] rfl rfl rfl ?_ X_fc79s
 refine Tr.cF rfl ?_
 refine Tr.skip ?_
 refine hK1 _ ?_
 have hy := @e81
 refine Tr.w hcx [1000019] _ [] rfl rfl rfl ?_ X_fc79s
 have hy := And.intro @atD_S (And.intro @e1 (And.intro @e2 @e82))
 refine Tr.wD hcx hMO [] _ [] rfl rfl rfl rfl ?_ Y_fc79s
 exact Tr.ret F_fc79s
theorem X_fc51 {p : Prop} (e : p := by intro KZ hZ; simp -implicitDefEqProofs (disch := first | omega | (simp only [go_sem,lA,lD,lT,rowD_len] <;> omega) | decide) only [go_sem,↓reduceIte,Nat.reduceEqDiff,reduceCtorEq,Nat.reduceLT,Nat.reduceBEq,Nat.reduceAdd,hy]; with_reducible exact hZ) : p := e
theorem F_fc51 {p : Prop} (e : p := by simp -implicitDefEqProofs (disch := first | omega | (simp only [go_sem,lA,lD,lT,rowD_len] <;> omega) | decide) only [go_sem,↓reduceIte,Nat.reduceEqDiff,reduceCtorEq]; all_goals (rfl)) : p := e
theorem fc51 {gl : Nat → C} {M : Nat} {pu : Nat → List C → Option C} (hcx : CxOK (cxP gl M pu)) (h79 : ∀ (l : List Leaf) (d a b : Nat),OkL l → a < b ∧ b ≤ l.length ∧ b - a ≤ 2 ^ d → pu 79 [.val (nI a),.val (nI b),.kp [sl eC .no l],atG 79 [.kp [sl eC .no l]] d] = some (.agg (cl bC (rowD l d a b)))) (l : List Leaf) (hl : OkL l) (h0 : 0 < l.length) : FC Tryd.prog gl 51 [sl eC .no l] [] (.agg (cl bC (digT l))) [] := by
 replace hcx := hcx.reN (M := 9)
 refine FC.ofA (cx := cxP gl 9 pu) (rs := [.cell 2 29]) rfl Tryd.func51 rfl rfl rfl (by simp only [List.length_cons,List.length_nil]; decide) (by simp only [go_sem]) ?_
 simp only [ini,go_sem]
 have hy := True.intro
 have hll := hl.1
 have e79 := h79 l 12 0 l.length hl (by omega)
 refine Tr.w hcx [] _ [none,none] rfl rfl rfl ?_ X_fc51
 refine Tr.w hcx [] _ [none] rfl rfl rfl ?_ X_fc51
 refine Tr.w hcx [] _ [] rfl rfl rfl ?_ X_fc51
 refine Tr.k [1,2,3] ?_
 refine Tr.f1 hcx 0 [sl eC .no l] ?_
 refine Tr.f2 hcx 2 12 79 [.kp [sl eC .no l]] ?_
 have hy := @e79
 refine Tr.w hcx [] _ [] rfl rfl rfl ?_ X_fc51
 exact Tr.ret F_fc51
theorem X_fc12 {p : Prop} (e : p := by intro KZ hZ; simp -implicitDefEqProofs (disch := first | omega | (simp only [go_sem,lA,lD,lT,rotT_len,digT_len] <;> omega) | decide) only [go_sem,↓reduceIte,Nat.reduceEqDiff,reduceCtorEq,Nat.reduceLT,Nat.reduceBEq,Nat.reduceAdd,b1,hy]; with_reducible exact hZ) : p := e
theorem F_fc12 {p : Prop} (e : p := by simp -implicitDefEqProofs (disch := first | omega | (simp only [go_sem,lA,lD,lT,rotT_len,digT_len] <;> omega) | decide) only [go_sem,↓reduceIte,Nat.reduceEqDiff,reduceCtorEq]; all_goals (first | (rw [rooT_no b1]; done) | (rw [rooT_ok b1,rotL_0 hc13]; done) | (rw [rooT_ok b1]; rfl))) : p := e
theorem fc12 {gl : Nat → C} {M : Nat} {pu : Nat → List C → Option C} (hcx : CxOK (cxP gl M pu)) (h15 : ∀ l : List Leaf,LB l → pu 15 [sl eC .no l] = some (.val (nI (valT l)))) (h50 : ∀ (n : Nat) (d : List UInt8),n ≤ 4096 → d.length = 16 → pu 50 [.val (nI n),.agg (cl bC d)] = some (.agg (cl bC (rotT n d)))) (h51 : ∀ l : List Leaf,OkL l → 0 < l.length → pu 51 [sl eC .no l] = some (.agg (cl bC (digT l)))) (l : List Leaf) (hl : LB l) : FC Tryd.prog gl 12 [sl eC .no l] [] (.tup [.agg (cl bC (rooT l).1),.val (nI (rooT l).2)]) [] := by
 replace hcx := hcx.reN (M := 21)
 refine FC.ofA (cx := cxP gl 21 pu) (rs := [.cell 2 29,.tmp 3]) rfl Tryd.func12 rfl rfl rfl (by simp only [List.length_cons,List.length_nil]; decide) (by simp only [go_sem]) ?_
 simp only [ini,go_sem]
 have b1 := True.intro
 have hy := True.intro
 have e15 := h15 l hl
 refine Tr.w hcx [] _ [none] rfl rfl rfl ?_ X_fc12
 refine Tr.seqK fun K1 hK1 => ?_
 have hy := @e15
 refine Tr.w hcx [1000006] _ [] rfl rfl rfl ?_ X_fc12
 by_cases b1 : valT l = 0
 ·
  have hok := valT_ok (l := l) (by omega)
  have hll := hok.1
  have e0 := h50 0 (List.replicate 16 0) (by omega) rfl
  have e1 := h50 l.length (digT l) hll (digT_len l)
  have hy := True.intro
  refine Tr.w hcx [] _ [] rfl rfl rfl ?_ X_fc12
  refine Tr.cF rfl ?_
  refine Tr.skip ?_
  refine hK1 _ ?_
  refine Tr.seqK fun K2 hK2 => ?_
  refine Tr.w hcx [] _ [] rfl rfl rfl ?_ X_fc12
  refine Tr.cD rfl (fun hc13 => ?_) (fun hc13 => ?_)
  ·
   have hl0 := hc13
   have hy := @e0
   refine Tr.w hcx [] _ [] rfl rfl rfl ?_ X_fc12
   exact Tr.ret F_fc12
  have e51 := h51 l hok (by omega)
  refine Tr.skip ?_
  refine hK2 _ ?_
  have hy := And.intro @e51 @e1
  refine Tr.w hcx [] _ [] rfl rfl rfl ?_ X_fc12
  exact Tr.ret F_fc12
 skip
 have hy := True.intro
 refine Tr.w hcx [] _ [] rfl rfl rfl ?_ X_fc12
 refine Tr.cT rfl ?_
 refine Tr.w hcx [1000010] _ [] rfl rfl rfl ?_ X_fc12
 exact Tr.ret F_fc12
end Go.Sx
namespace Go.Sx
open Go.RowKit
mutual
theorem bk_inv (n : Nat) : ∀ x : C,bkC (fun i => i - n) (bkC (n + ·) x) = x
  | .sv b o m => by simp only [bkC,Nat.add_sub_cancel_left]
  | .gv b m s => by simp only [bkC,Nat.add_sub_cancel_left]
  | .bp b o => by simp only [bkC,Nat.add_sub_cancel_left]
  | .mp b => by simp only [bkC,Nat.add_sub_cancel_left]
  | .bt b t m => by simp only [bkC,Nat.add_sub_cancel_left]
  | .sl r m xs => by simp only [bkC,bks_inv n xs]
  | .kp xs => by simp only [bkC,bks_inv n xs]
  | .agg xs => by simp only [bkC,bks_inv n xs]
  | .tup xs => by simp only [bkC,bks_inv n xs]
  | .fn f xs => by simp only [bkC,bks_inv n xs]
  | .top => by simp only [bkC]
  | .val v => by simp only [bkC]
theorem bks_inv (n : Nat) : ∀ l : List C,bkCs (fun i => i - n) (bkCs (n + ·) l) = l
  | [] => by simp only [bkCs]
  | x :: l => by simp only [bkCs,bk_inv n x,bks_inv n l]
end
theorem bks_cancel {n : Nat} {l m : List C} (h : bkCs (n + ·) l = bkCs (n + ·) m) : l = m := by
  rw [← bks_inv n l,h,bks_inv]
theorem shH_cancel (n : Nat) : ∀ {h k : Hp},shH n h = shH n k → h = k
  | [],[],_ => rfl
  | [],o :: k,e => by simp [shH] at e
  | o :: h,[],e => by simp [shH] at e
  | o :: h,p :: k,e => by
    simp only [shH_cons,List.cons.injEq] at e
    rw [shH_cancel n e.2]
    congr 1
    cases o with
    | none => cases p with
      | none => rfl
      | some q => simp at e
    | some r => cases p with
      | none => simp at e
      | some q => simp only [Option.map_some,Option.some.injEq] at e; rw [bks_cancel e.1]
theorem bks_get (r : Nat → Nat) : ∀ (l : List C) (j : Nat),(bkCs r l)[j]? = (l[j]?).map (bkC r)
  | [],j => by simp [bkCs]
  | x :: l,0 => by simp [bkCs]
  | x :: l,j + 1 => by simp [bkCs,bks_get r l j]
theorem RepL.of_mem {G : Gh} : ∀ {l : List C} {vs : List Value} {x : C},x ∈ l → RepL G l vs → ∃ v,Rep G x v
  | [],_,_,h,_ => by cases h
  | y :: l,vs,x,h,r => by
    simp only [RepL] at r
    obtain ⟨v,vs',_,h1,h2⟩ := r
    rcases List.mem_cons.1 h with rfl | h
    · exact ⟨v,h1⟩
    · exact RepL.of_mem h h2
theorem FC.neverB {P : Program} {gl : Nat → C} {f : Nat} {args : List C} {c : C} {h' : Hp} (he : Entered P f) (b o : Nat) (ha : C.bp b o ∈ args) : FC P gl f args [] c h' := by
  refine ⟨he,fun G w vs W _ _ hr => ?_⟩
  obtain ⟨v,hv⟩ := RepL.of_mem ha hr
  simp only [Rep] at hv
  obtain ⟨blk,h1,_⟩ := hv
  obtain ⟨⟨c,hc⟩,_⟩ := W.dom b blk h1
  cases hc
def OkH (h : Hp) : Prop := ∀ o ∈ h,okBox o = true
structure Small (P : Program) (gl : Nat → C) (f : Nat) (α : Type) where
  k : Nat
  j : Nat
  args : α → List C
  X : α → Hp
  r : α → C
  Y : α → Hp
  k0 : 0 < k
  hk : ∀ a,(X a).length = k
  hy : ∀ a,(Y a).length = k
  al : ∀ a,∀ o ∈ X a,((liveC o).isSome || (mpL o).isSome) = true
  nr : ∀ a,noRefs k (args a) = true
  nx : ∀ a,nrH k (X a) = true
  at0 : ∀ a,∃ o,(args a)[j]? = some (.bp 0 o)
  inj : ∀ a b,args a = args b → X a = X b → r a = r b ∧ Y a = Y b
  fc : ∀ a,FC P gl f (args a) (X a) (r a) (Y a)
section
variable {P : Program} {gl : Nat → C} {f : Nat} {α : Type}
inductive SmD (α : Type) where
  | n (a : α) (pre suf : Hp) (h1 : OkH pre) (h2 : OkH suf)
  | e (xs : List C) (h : ∃ b o,C.bp b o ∈ xs)
def Small.enc (S : Small P gl f α) : SmD α → List C × Hp
  | .n a pre suf _ _ => (bkCs (pre.length + ·) (S.args a),pre ++ (shH pre.length (S.X a) ++ suf))
  | .e xs _ => (xs,[])
def Small.out (S : Small P gl f α) : SmD α → C × Hp
  | .n a pre suf _ _ => (bkC (midR pre.length S.k suf.length) (S.r a),pre ++ ((S.Y a).map (Option.map (bkCs (midR pre.length S.k suf.length))) ++ suf))
  | .e _ _ => (.top,[])
theorem shH_len (n : Nat) (h : Hp) : (shH n h).length = h.length := by simp [shH]
theorem Small.ij (S : Small P gl f α) (x y : SmD α) (h : S.enc x = S.enc y) : S.out x = S.out y := by
  cases x with
  | n a pre suf h1 h2 =>
    cases y with
    | n b pre' suf' h1' h2' =>
      simp only [Small.enc,Prod.mk.injEq] at h
      obtain ⟨e1,e2⟩ := h
      have hp : pre.length = pre'.length := by
        obtain ⟨o,ho⟩ := S.at0 a
        obtain ⟨o',ho'⟩ := S.at0 b
        have g1 := bks_get (pre.length + ·) (S.args a) S.j
        have g2 := bks_get (pre'.length + ·) (S.args b) S.j
        rw [e1,g2,ho,ho'] at g1
        simp only [Option.map_some,bkC,Option.some.injEq,C.bp.injEq,Nat.add_zero] at g1
        exact g1.1.symm
      obtain ⟨e3,e4⟩ := List.append_inj e2 hp
      subst e3
      obtain ⟨e5,e6⟩ := List.append_inj e4 (by rw [shH_len,shH_len,S.hk,S.hk])
      obtain ⟨q1,q2⟩ := S.inj a b (bks_cancel e1) (shH_cancel _ e5)
      subst e6
      simp only [Small.out,q1,q2]
    | e xs hx =>
      exfalso
      simp only [Small.enc,Prod.mk.injEq] at h
      have := congrArg List.length h.2
      simp only [List.length_append,shH_len,S.hk,List.length_nil] at this
      have := S.k0; omega
  | e xs hx =>
    cases y with
    | n b pre' suf' h1' h2' =>
      exfalso
      simp only [Small.enc,Prod.mk.injEq] at h
      have := congrArg List.length h.2
      simp only [List.length_append,shH_len,S.hk,List.length_nil] at this
      have := S.k0; omega
    | e ys hy => rfl
noncomputable def Small.tab (S : Small P gl f α) (hp : Nat → List C → Hp → Option (C × Hp)) : Nat → List C → Hp → Option (C × Hp) := extH hp f (tabH S.enc S.out)
theorem CxOK.sm {km : TypeId → Value → Bool} {pu : Nat → List C → Option C} {hp : Nat → List C → Hp → Option (C × Hp)} {N M : Nat} (hcx : CxOK ⟨P,N,gl,pu,hp,fun _ => false,km⟩) (he : Entered P f) (S : Small P gl f α) :
    CxOK ⟨P,M,gl,pu,S.tab hp,fun _ => false,km⟩ := CxOK.extH hcx fun a => by
  cases a with
  | n a pre suf h1 h2 =>
    have h := FC.mid (S.fc a) pre suf h1 h2 (S.al a) (by rw [S.hk]; exact S.nr a) (by rw [S.hk]; exact nrH_mem (S.nx a)) (by rw [S.hk,S.hy]; exact Nat.le_refl _) hcx.glo
    rw [S.hk,List.take_of_length_le (by rw [S.hy]; exact Nat.le_refl _),List.drop_of_length_le (by rw [S.hy]; exact Nat.le_refl _),List.map_nil,List.append_nil] at h
    exact h
  | e xs hx =>
    obtain ⟨b,o,hx⟩ := hx
    exact FC.neverB he b o hx
theorem Small.look (S : Small P gl f α) (hp : Nat → List C → Hp → Option (C × Hp)) (a : α) (pre suf : Hp) (h1 : OkH pre) (h2 : OkH suf) :
    S.tab hp f (bkCs (pre.length + ·) (S.args a)) (pre ++ (shH pre.length (S.X a) ++ suf)) = some (bkC (midR pre.length S.k suf.length) (S.r a),pre ++ ((S.Y a).map (Option.map (bkCs (midR pre.length S.k suf.length))) ++ suf)) :=
  (extH_hit _ _).trans (tabH_enc S.ij (.n a pre suf h1 h2))
theorem Small.never (S : Small P gl f α) (hp : Nat → List C → Hp → Option (C × Hp)) (xs : List C) (h : ∃ b o,C.bp b o ∈ xs) : S.tab hp f xs [] = some (.top,[]) :=
  (extH_hit _ _).trans (tabH_enc S.ij (.e xs h))
theorem Small.miss (S : Small P gl f α) (hp : Nat → List C → Hp → Option (C × Hp)) {g : Nat} (h : g ≠ f) (xs : List C) (k : Hp) : S.tab hp g xs k = hp g xs k := extH_miss h xs k
end
theorem OkH.nil : OkH [] := fun o h => by cases h
theorem OkH.cons {o : Option (List C)} {h : Hp} (h1 : okBox o = true) (h2 : OkH h) : OkH (o :: h) := fun p hp => by
  rcases List.mem_cons.1 hp with rfl | hp
  · exact h1
  · exact h2 p hp
mutual
theorem bk_flat (r : Nat → Nat) : ∀ c : C,flat c = true → bkC r c = c
  | .val _,_ => by simp only [bkC]
  | .agg xs,h => by simp only [flat] at h; simp only [bkC,bks_flat r xs h]
  | .tup xs,h => by simp only [flat] at h; simp only [bkC,bks_flat r xs h]
  | .top,h => by simp [flat] at h
  | .sl _ _ _,h => by simp [flat] at h
  | .sv _ _ _,h => by simp [flat] at h
  | .gv _ _ _,h => by simp [flat] at h
  | .bp _ _,h => by simp [flat] at h
  | .bt _ _ _,h => by simp [flat] at h
  | .mp _,h => by simp [flat] at h
  | .kp _,h => by simp [flat] at h
  | .fn _ _,h => by simp [flat] at h
theorem bks_flat (r : Nat → Nat) : ∀ l : List C,flats l = true → bkCs r l = l
  | [],_ => by simp only [bkCs]
  | x :: xs,h => by simp only [flats,Bool.and_eq_true] at h; simp only [bkCs,bk_flat r x h.1,bks_flat r xs h.2]
end
theorem bks_cl (r : Nat → Nat) {α : Type} (f : α → List C) [h : Fla f] (l : List α) : bkCs r (cl f l) = cl f l := bks_flat r _ (flats_cl f l)
theorem bk_sl (r : Nat → Nat) {α : Type} (f : α → List C) [h : Fla f] (q : Rt) (l : List α) : bkC r (sl f q l) = sl f q l := by unfold sl; simp only [bkC,bks_cl]
end Go.Sx
namespace Go.Sx
open Go.RowKit Go.Proofs
set_option maxRecDepth 100000
set_option maxHeartbeats 8000000
noncomputable def cxR (gl : Nat → C) (M : Nat) (pu : Nat → List C → Option C) (hp : Nat → List C → Hp → Option (C × Hp)) : Cx := ⟨Tryd.prog,M,gl,pu,hp,fun _ => false,fun _ _ => false⟩
section
variable {gl : Nat → C} {M : Nat} {pu : Nat → List C → Option C} {hp : Nat → List C → Hp → Option (C × Hp)}
theorem cxR_P : (cxR gl M pu hp).P = Tryd.prog := rfl
theorem cxR_N : (cxR gl M pu hp).N = M := rfl
theorem cxR_pu : (cxR gl M pu hp).pu = pu := rfl
theorem cxR_hp : (cxR gl M pu hp).hp = hp := rfl
theorem cxR_gr (d : Option Nat) : isG (cxR gl M pu hp) d = false := by cases d <;> rfl
end
theorem hMOR {gl : Nat → C} {M : Nat} {pu : Nat → List C → Option C} {hp : Nat → List C → Hp → Option (C × Hp)} : (cxR gl M pu hp).P.follows .mixedOrders = true := hMO (gl := gl) (M := M) (pu := pu)
attribute [go_sem] cxR_P cxR_N cxR_pu cxR_hp cxR_gr
abbrev TS := List (List UInt8) × Nat × Bool
def sidR (S : List Dig) (st : TS) : List UInt8 × TS := if S.length ≤ st.2.1 then (List.replicate 16 0,(st.1,st.2.1,true)) else ((gt S st.2.1).1,(st.1,st.2.1 + 1,st.2.2))
def lefR (x : Leaf) (st : TS) : List UInt8 × TS := (lefT x,(st.1 ++ [inp 3 [x.1,x.2]],st.2))
def nodR (x : List UInt8) (y : List UInt8 × TS) : List UInt8 × TS := (nodT x y.1,(y.2.1 ++ [inp 4 [x,y.1]],y.2.2))
def rowR (l : List Leaf) (f : Nat) (S : List Dig) : Nat → Nat → Nat → TS → List UInt8 × TS
  | 0,a,b,st => if b ≤ f ∨ f + l.length ≤ a then sidR S st else lefR (gt l (a - f)) st
  | d + 1,a,b,st => if b ≤ f ∨ f + l.length ≤ a then sidR S st else if b - a ≤ 1 then lefR (gt l (a - f)) st
      else nodR (rowR l f S d a (a + halfT (b - a)) st).1 (rowR l f S d (a + halfT (b - a)) b (rowR l f S d a (a + halfT (b - a)) st).2)
section
variable {l : List Leaf} {f : Nat} {S : List Dig} {d a b : Nat} {st : TS}
theorem rowR_s (h : b ≤ f ∨ f + l.length ≤ a) : rowR l f S d a b st = sidR S st := by cases d <;> simp only [rowR,if_pos h]
theorem rowR_l (h : ¬ (b ≤ f ∨ f + l.length ≤ a)) (h2 : b - a ≤ 1) : rowR l f S d a b st = lefR (gt l (a - f)) st := by cases d <;> simp only [rowR,if_neg h,if_pos h2]
theorem rowR_n (h : ¬ (b ≤ f ∨ f + l.length ≤ a)) (h2 : ¬ b - a ≤ 1) : rowR l f S (d + 1) a b st = nodR (rowR l f S d a (a + halfT (b - a)) st).1 (rowR l f S d (a + halfT (b - a)) b (rowR l f S d a (a + halfT (b - a)) st).2) := by simp only [rowR,if_neg h,if_neg h2]
theorem sidR_1 (h : S.length ≤ st.2.1) : sidR S st = (List.replicate 16 0,(st.1,st.2.1,true)) := if_pos h
theorem sidR_2 (h : ¬ S.length ≤ st.2.1) : sidR S st = ((gt S st.2.1).1,(st.1,st.2.1 + 1,st.2.2)) := if_neg h
theorem sidR_len : (sidR S st).1.length = 16 := by unfold sidR; split; rfl; exact (gt S st.2.1).2
end
theorem rowR_len (l : List Leaf) (f : Nat) (S : List Dig) : ∀ d a b st,(rowR l f S d a b st).1.length = 16
  | 0,a,b,st => by unfold rowR; split; exact sidR_len; exact lefT_len _
  | d + 1,a,b,st => by
    unfold rowR; split
    · exact sidR_len
    · split
      · exact lefT_len _
      · exact nodT_len _ _
theorem rowR_bd (l : List Leaf) (f : Nat) (S : List Dig) : ∀ d a b st,(rowR l f S d a b st).2.1.length + 1 ≤ st.1.length + 2 ^ (d + 1) ∧ (rowR l f S d a b st).2.2.1 ≤ max st.2.1 S.length ∧ (st.2.1 ≤ (rowR l f S d a b st).2.2.1)
  | 0,a,b,st => by
    unfold rowR; split
    · unfold sidR; split <;> (simp only []; omega)
    · simp only [lefR,List.length_append,List.length_singleton]; omega
  | d + 1,a,b,st => by
    have e : 2 ^ (d + 1 + 1) = 2 * 2 ^ (d + 1) := by rw [Nat.pow_succ]; omega
    have hp := Nat.two_pow_pos (d + 1)
    unfold rowR; split
    · unfold sidR; split <;> (simp only []; omega)
    · split
      · simp only [lefR,List.length_append,List.length_singleton]; omega
      · have h1 := rowR_bd l f S d a (a + halfT (b - a)) st
        have h2 := rowR_bd l f S d (a + halfT (b - a)) b (rowR l f S d a (a + halfT (b - a)) st).2
        simp only [nodR,List.length_append,List.length_singleton]
        omega
def rooR (l : List Leaf) (f : Nat) (S : List Dig) (n : Nat) (st : TS) : List UInt8 × TS :=
  if n = 0 then (ofT 4 [wint ((0 : Nat) : Int)],(st.1 ++ [inp 4 [wint ((0 : Nat) : Int)]],st.2))
  else let x := rowR l f S 12 0 n st; (ofT 4 [wint ((n : Nat) : Int),x.1],(x.2.1 ++ [inp 4 [wint ((n : Nat) : Int),x.1]],x.2.2))
theorem rooR_0 {l : List Leaf} {f : Nat} {S : List Dig} {st : TS} {n : Nat} (h : n = 0) : rooR l f S n st = (ofT 4 [wint ((n : Nat) : Int)],(st.1 ++ [inp 4 [wint ((n : Nat) : Int)]],st.2)) := by subst h; exact if_pos rfl
theorem rooR_n {l : List Leaf} {f : Nat} {S : List Dig} {st : TS} {n : Nat} (h : ¬ n = 0) : rooR l f S n st = (ofT 4 [wint ((n : Nat) : Int),(rowR l f S 12 0 n st).1],((rowR l f S 12 0 n st).2.1 ++ [inp 4 [wint ((n : Nat) : Int),(rowR l f S 12 0 n st).1]],(rowR l f S 12 0 n st).2.2)) := if_neg h
theorem rooR_len (l : List Leaf) (f : Nat) (S : List Dig) (n : Nat) (st : TS) : (rooR l f S n st).1.length = 16 := by unfold rooR; split <;> exact ofT_len _ _
def LZ (l : List Leaf) : Prop := l.length ≤ 5000 ∧ ∀ i,i < l.length → (gt l i).1.length < 1000000 ∧ (gt l i).2.length < 1000000
theorem OkL.lz {l : List Leaf} (h : OkL l) : LZ l := ⟨by have := h.1; omega,fun i hi => by have := h.2 i hi; omega⟩
theorem tre_nr (T : List (List UInt8)) (S : List Dig) (u : Nat) (sh : Bool) : nrH 1 [some [sl sC (.own 1) T,sl dC .no S,.val (nI u),.val (.bool sh)]] = true := by simp only [nrH_some,nrH_nil,go_sem,Bool.and_self]
theorem X_fc86 {p : Prop} (e : p := by intro KZ hZ; simp -implicitDefEqProofs (disch := first | omega | (simp only [go_sem,lA,lD,lT,ofT_len,hsl] <;> omega) | decide) only [go_sem,↓reduceIte,Nat.reduceEqDiff,reduceCtorEq,Nat.reduceLT,Nat.reduceBEq,Nat.reduceAdd,e65,e64,hy]; with_reducible exact hZ) : p := e
theorem Y_fc86 {p : Prop} (e : p := by intro KZ hZ; simp -implicitDefEqProofs (disch := first | omega | (simp only [go_sem,lA,lD,lT,ofT_len,hsl] <;> omega) | decide) only [go_sem,↓reduceIte,Nat.reduceEqDiff,reduceCtorEq,Nat.reduceLT,Nat.reduceBEq,Nat.reduceAdd,e65,e64,hy]; with_reducible refine And.intro ?_ hZ; first | exact rfl | decide) : p := e
theorem F_fc86 {p : Prop} (e : p := by simp -implicitDefEqProofs (disch := first | omega | (simp only [go_sem,lA,lD,lT,ofT_len,hsl] <;> omega) | decide) only [go_sem,↓reduceIte,Nat.reduceEqDiff,reduceCtorEq]; all_goals (rfl)) : p := e
theorem fc86 {gl : Nat → C} {M : Nat} {pu : Nat → List C → Option C} {hp : Nat → List C → Hp → Option (C × Hp)} (hcx : CxOK (cxR gl M pu hp)) (h65 : ∀ (tag : Int) (parts : List (List UInt8)),(inp tag parts).length < 1099511627776 → pu 65 [.val (.int .i64 tag),sl sC .no parts] = some (sl bC (.own 1) (inp tag parts))) (h64 : ∀ b : List UInt8,b.length < 35184372088832 → pu 64 [sl bC .no b] = some (.agg (cl bC ((sha b).take 16)))) (T : List (List UInt8)) (S : List Dig) (u : Nat) (sh : Bool) (tag : Int) (parts : List (List UInt8)) (hT : T.length ≤ 1000000) (hi : (inp tag parts).length < 1099511627776) : FC Tryd.prog gl 86 [.bp 0 0,.val (.int .i64 tag),sl sC .no parts] [some [sl sC (.own 1) (T),sl dC .no S,.val (nI (u)),.val (.bool (sh))]] (.agg (cl bC (ofT tag parts))) [some [sl sC (.own 1) (T ++ [inp tag parts]),sl dC .no S,.val (nI (u)),.val (.bool (sh))]] := by
 replace hcx := hcx.reN (M := 24)
 refine FC.ofT (cx := cxR gl 24 pu hp) (rs := [.cell 6 29]) rfl Tryd.func86 rfl rfl rfl (by simp only [List.length_cons,List.length_nil]; decide) (by simp only [go_sem]) (tre_nr _ _ _ _) ?_
 simp only [ini,go_sem]
 have hy := True.intro
 have e65 := h65 tag parts hi
 have e64 : pu 64 [sl bC .no (inp tag parts)] = some (.agg (cl bC (ofT tag parts))) := h64 _ (by omega)
 have hsl : ((sha (inp tag parts)).take 16).length = 16 := ofT_len tag parts
 refine Tr.w hcx [] _ [none] rfl rfl rfl ?_ X_fc86
 refine Tr.w hcx [1000010] _ [] rfl rfl rfl ?_ X_fc86
 refine Tr.wD hcx hMOR [15] _ [] rfl rfl rfl rfl ?_ Y_fc86
 refine Tr.w hcx [] _ [] rfl rfl rfl ?_ X_fc86
 exact Tr.ret F_fc86
end Go.Sx
