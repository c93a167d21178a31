/-
   And what follows.
-/
import Derived.Test.YtcpdlhgkdogdjaaDoorPap
set_option linter.unusedSimpArgs false
set_option linter.unusedVariables false
namespace Go.Sx
open Go.RowKit Go.Proofs
set_option maxRecDepth 100000
set_option maxHeartbeats 8000000
theorem bsA_iDn (y : Nat) (a b c : Nat) : bsA (some ⟨.struct #[Field.mk "By" 3 0 false "" "" 0, Field.mk "Seq" 3 1 false "" "" 8, Field.mk "K" 3 2 false "" "" 16], 3, y, [nI 0, nI 0, nI 0]⟩) 1 [(0, .agg [.val (nI a), .val (nI b), .val (nI c)])] = some (vp (sl iD .full [((a : Int), (b : Int), (c : Int))])) := rfl
attribute [go_sem high] bsA_iDn
def idI (w : Wrk) (m : List Int) (i : Nat) : ID := if aroundI (gt m (2 * i)) ((alW w).length + 2) < (alW w).length then (gt (alW w) (aroundI (gt m (2 * i)) ((alW w).length + 2))).1 else ((atI m (2 * i + 1) 3 : Int),(atI m (2 * i + 1) 10 : Int),0)
def idN (m : List Int) : Nat := min ((m.length + 1) / 2) 12
def idsW (w : Wrk) (m : List Int) : List ID := (List.range (idN m)).map (idI w m)
def idP (w : Wrk) (m : List Int) (a : Nat) : List ID := (List.range a).map (idI w m)
theorem idP_S (w : Wrk) (m : List Int) (a : Nat) : idP w m (a + 1) = idP w m a ++ [idI w m a] := by unfold idP; rw [List.range_succ,List.map_append]; rfl
theorem idP_len (w : Wrk) (m : List Int) (a : Nat) : (idP w m a).length = a := by simp [idP]
theorem idI_T {w : Wrk} {m : List Int} {i : Nat} (h : aroundI (gt m (2 * i)) ((alW w).length + 2) < (alW w).length) : idI w m i = (gt (alW w) (aroundI (gt m (2 * i)) ((alW w).length + 2))).1 := if_pos h
theorem idI_F {w : Wrk} {m : List Int} {i : Nat} (h : ¬ aroundI (gt m (2 * i)) ((alW w).length + 2) < (alW w).length) : idI w m i = ((atI m (2 * i + 1) 3 : Int),(atI m (2 * i + 1) 10 : Int),0) := if_neg h
def formT : List Nat := [0,0,0,1,3,0,2,1]
def manyT : List Nat := [0,0,0,0,1,2]
def refI (l : List Int) (a i : Nat) : ID := if atI l (a + 3 + i) 9 = 8 then (-1,0,0) else (0,(atI l (a + 3 + i) 9 : Int),0)
def refP (l : List Int) (a n : Nat) : List ID := (List.range n).map (refI l a)
theorem refP_S (l : List Int) (a n : Nat) : refP l a (n + 1) = refP l a n ++ [refI l a n] := by unfold refP; rw [List.range_succ,List.map_append]; rfl
theorem refP_len (l : List Int) (a n : Nat) : (refP l a n).length = n := by simp [refP]
def txtP (l : List Int) (a : Nat) : Nat → List UInt8
  | 0 => textT l (a + 2)
  | n + 1 => txtP l a n ++ [32,64]
theorem txtP_len (l : List Int) (a : Nat) : ∀ n,(txtP l a n).length ≤ 72 + 2 * n
  | 0 => (textT_ok l (a + 2)).2.1
  | n + 1 => by
    have := txtP_len l a n
    simp only [txtP,List.length_append,List.length_cons,List.length_nil]; omega
def oneN (l : List Int) (a : Nat) : Nat := gt manyT (atI l (a + 1) 6)
theorem oneN_le (l : List Int) (a : Nat) : oneN l a ≤ 2 := by
  have h := atI_lt l (a + 1) (m := 6) (by decide)
  have := gt_all manyT (fun n => decide (n ≤ 2)) (by decide) _ h
  simpa [oneN] using this
def oneP (l : List Int) (a : Nat) (id : ID) : Psg := (id,((gt formT (atI l a 8) : Nat) : Int),((atI l (a + 1) 8 / 3 : Nat) : Int),txtP l a (oneN l a),refP l a (oneN l a))
theorem lay1s_n (n : Nat) (l : List Nat) (i : Nat) (x : Nat) (r : List (Nat × C)) (h : i < l.length) : lay1s n (cl nC l) ((i,.val (nI x)) :: r) = lay1s n (cl nC (l.set i x)) r := by
  have e := cl_set (f := nC) l i x h
  rw [Nat.mul_one] at e
  have e2 : splice (cl nC l) i [.val (nI x)] = cl nC (l.set i x) := e
  show (if [C.val (nI x)].length = 1 ∧ i + 1 ≤ (cl nC l).length then lay1s n (splice (cl nC l) i [.val (nI x)]) r else none) = _
  rw [if_pos ⟨rfl,by rw [cl_len (f := nC)]; omega⟩,e2]
attribute [go_sem] lay1s_n
theorem layQ_iD7 (pl : List (Nat × Nat)) (x : ID) (a b c d e f g : C) (r : List (Nat × C)) : layQ pl (some (0,3)) (some (iD x)) [a,b,c,d,e,f,g] r = layS pl [.val (.int .i64 x.1),.val (.int .i64 x.2.1),.val (.int .i64 x.2.2),d,e,f,g] r := rfl
attribute [go_sem high] layQ_iD7
theorem formT_mk : sl nC .full (((((((((List.replicate 8 0).set 0 0).set 1 0).set 2 0).set 3 1).set 4 3).set 5 0).set 6 2).set 7 1) = sl nC .full formT := rfl
theorem formT_ln : formT.length = 8 := rfl
theorem manyT_mk : sl nC .full (((((((List.replicate 6 0).set 0 0).set 1 0).set 2 0).set 3 0).set 4 1).set 5 2) = sl nC .full manyT := rfl
theorem manyT_ln : manyT.length = 6 := rfl
theorem bsA_iDm (y : Nat) (a : Int) (b c : Nat) : bsA (some ⟨.struct #[Field.mk "By" 3 0 false "" "" 0, Field.mk "Seq" 3 1 false "" "" 8, Field.mk "K" 3 2 false "" "" 16], 3, y, [nI 0, nI 0, nI 0]⟩) 1 [(0, .agg [.val (.int .i64 a), .val (nI b), .val (nI c)])] = some (vp (sl iD .full [(a, (b : Int), (c : Int))])) := rfl
attribute [go_sem high] bsA_iDm
theorem refI_T {l : List Int} {a i : Nat} (h : atI l (a + 3 + i) 9 = 8) : refI l a i = (-1,0,0) := if_pos h
theorem refI_F {l : List Int} {a i : Nat} (h : ¬ atI l (a + 3 + i) 9 = 8) : refI l a i = (0,(atI l (a + 3 + i) 9 : Int),0) := if_neg h
theorem X_fc67 {p : Prop} (e : p := by intro KZ hZ; simp -implicitDefEqProofs (disch := first | omega | (simp only [go_sem,lA,lD,lT] <;> omega) | decide) only [go_sem,↓reduceIte,Nat.reduceEqDiff,reduceCtorEq,Nat.reduceLT,Nat.reduceBEq,Nat.reduceAdd,hy]; with_reducible exact hZ) : p := e
theorem F_fc67 {p : Prop} (e : p := by simp -implicitDefEqProofs (disch := first | omega | (simp only [go_sem,lA,lD,lT] <;> omega) | decide) only [go_sem,↓reduceIte,Nat.reduceEqDiff,reduceCtorEq]) : p := e
theorem fc67 {gl : Nat → C} {M : Nat} {pu : Nat → List C → Option C} (hcx : CxOK (cxP gl M pu)) : FC Tryd.prog gl 67 [] [] (.agg [.val (.int .i64 (-1)),.val (nI 0),.val (nI 0)]) [] := by
 replace hcx := hcx.reN (M := 2)
 refine FC.ofA (cx := cxP gl 2 pu) (rs := [.cell 0 34]) rfl Tryd.func67 rfl rfl rfl (by simp only [List.length_cons,List.length_nil]; decide) (by simp only [go_sem]) ?_
 simp only [ini,go_sem]
 have hy := True.intro
 refine Tr.w hcx [] _ [none] rfl rfl rfl ?_ X_fc67
 refine Tr.w hcx [] _ [] rfl rfl rfl ?_ X_fc67
 exact Tr.ret F_fc67
theorem X_fc22 {p : Prop} (e : p := by intro KZ hZ; simp -implicitDefEqProofs (disch := first | omega | (simp only [go_sem,lA,lD,lT,hL] <;> omega) | decide) only [go_sem,↓reduceIte,Nat.reduceEqDiff,reduceCtorEq,Nat.reduceLT,Nat.reduceBEq,Nat.reduceAdd,e14,h19,e65,c1,c2,hy]; with_reducible exact hZ) : p := e
theorem F_fc22 {p : Prop} (e : p := by simp -implicitDefEqProofs (disch := first | omega | (simp only [go_sem,lA,lD,lT,hL] <;> omega) | decide) only [go_sem,↓reduceIte,Nat.reduceEqDiff,reduceCtorEq]; all_goals (rfl)) : p := e
theorem fc22 {gl : Nat → C} {M : Nat} {pu : Nat → List C → Option C} (hcx : CxOK (cxP gl M pu)) (h14 : ∀ w : Wrk,WS w → pu 14 [.agg [sl vC .no w]] = some (sl pC (.own 7) (alW w))) (h19 : ∀ (n : Int) (m : Nat),-9223372036854775808 ≤ n ∧ n ≤ 9223372036854775807 ∧ 0 < m ∧ m ≤ 9223372036854775807 → pu 19 [.val (.int .i64 n),.val (nI m)] = some (.val (nI (aroundI n m)))) (h65 : ∀ (l : List Int) (i m : Nat),LI l → i ≤ 1000000 ∧ 0 < m ∧ m ≤ 9223372036854775807 → pu 65 [sl iC .no l,.val (nI i),.val (nI m)] = some (.val (nI (atI l i m)))) (w : Wrk) (m : List Int) (hw : WS w) (hm : LI m) : FC Tryd.prog gl 22 [.agg [sl vC .no w],sl iC .no m] [] (sl iD (.own 3) (idsW w m)) [] := by
 replace hcx := hcx.reN (M := 58)
 refine FC.ofA (cx := cxP gl 58 pu) (rs := [.tmp 4]) rfl Tryd.func22 rfl rfl rfl (by simp only [List.length_cons,List.length_nil]; decide) (by simp only [go_sem]) ?_
 simp only [ini,go_sem]
 have c1 := True.intro
 have c2 := True.intro
 have hy := True.intro
 have e14 := h14 w hw
 have e65 := fun i k h => h65 m i k hm h
 have hL : (alW w).length ≤ 100000 := by rw [alW_len]; exact hw.2.1
 have hN : idN m = min ((m.length + 1) / 2) 12 := rfl
 have hm1 := hm.1
 refine Tr.w hcx [] _ [none] rfl rfl rfl ?_ X_fc22
 refine Tr.w hcx [1000010] _ [] rfl rfl rfl ?_ X_fc22
 refine Tr.w hcx [] _ [] rfl rfl rfl ?_ X_fc22
 refine Tr.seqK fun K1 hK1 => ?_
 refine Tr.w hcx [] _ [] rfl rfl rfl ?_ X_fc22
 refine Tr.k [1,5,6,7] ?_
 refine Tr.blk ?_
 refine Tr.loopI (α := Nat) (fun a => [(1,?v1_1),(5,?v5_1),(6,sl iD (.own 3) (idP w m a)),(7,.val (nI a))]) (fun a => [some [sl vC .no w]]) (fun a => a ≤ idN m) (fun a => 12 - a) (0) (Nat.zero_le _) ?le_1 ?hh_1 ?bd_1
 case hh_1 => exact rfl
 case le_1 => exact LT
 rintro i hi
 have hP := idP_len w m i
 refine Tr.seqK fun K2 hK2 => ?_
 by_cases c1 : 2 * i < m.length
 ·
  by_cases c2 : i < 12
  ·
   have hb := hm.2 (2 * i) c1
   have hk := around_lt (gt m (2 * i)) (m := (alW w).length + 2) (by omega)
   refine Tr.w hcx [] [some 11,some 12,some 13,some 14,some 15,some 16,some 17,some 18,some 19] [] rfl rfl rfl ?_ X_fc22
   refine Tr.cT rfl ?_
   refine Tr.skip ?_
   refine hK2 _ ?_
   refine Tr.seqK fun K3 hK3 => ?_
   refine Tr.blk ?_
   refine Tr.w hcx [1000030] _ [] rfl rfl rfl ?_ X_fc22
   refine Tr.k [1,5,6,7,8] ?_
   refine Tr.w hcx [] _ [] rfl rfl rfl ?_ X_fc22
   refine Tr.cD rfl (fun hc34 => ?_) (fun hc34 => ?_)
   ·
    refine Tr.v hcx [35,1000042] _ [] rfl rfl rfl ?_ X_fc22
    refine hK3 _ ?_
    refine Tr.v hcx [1000021] _ [] rfl rfl rfl ?_ X_fc22
    refine ⟨i + 1,⟨(by omega),O1⟩,?_,rfl⟩
    (simp only [Le_nil,Le_cons,↓A_cons,↓reduceIte,Nat.reduceEqDiff,CLe_refl,CLe_top,CLe_full,CLe_nil,CLe_own,and_true,true_and]; all_goals (repeat' first | exact CLe.refl _ | exact True.intro | (refine CLe_sln ?_; first | rfl | (simp only [List.take_zero]; done)) | exact CLe_nI (by omega) | exact CLe_int (by omega) | exact CLe_inI (by omega) | exact CLe_nIi (by omega) | with_reducible apply And.intro))
    all_goals (first | (rw [idP_S,idI_T hc34]; exact CLe.refl _) | (rw [idP_S,idI_F hc34]; exact CLe.refl _) | exact CLe.refl _)
   refine Tr.v hcx [43,1000056] _ [] rfl rfl rfl ?_ X_fc22
   refine hK3 _ ?_
   refine Tr.k [1,5,6,7] ?_
   refine Tr.v hcx [1000021] _ [] rfl rfl rfl ?_ X_fc22
   refine ⟨i + 1,⟨(by omega),O1⟩,?_,rfl⟩
   (simp only [Le_nil,Le_cons,↓A_cons,↓reduceIte,Nat.reduceEqDiff,CLe_refl,CLe_top,CLe_full,CLe_nil,CLe_own,and_true,true_and]; all_goals (repeat' first | exact CLe.refl _ | exact True.intro | (refine CLe_sln ?_; first | rfl | (simp only [List.take_zero]; done)) | exact CLe_nI (by omega) | exact CLe_int (by omega) | exact CLe_inI (by omega) | exact CLe_nIi (by omega) | with_reducible apply And.intro))
   all_goals (first | (rw [idP_S,idI_T hc34]; exact CLe.refl _) | (rw [idP_S,idI_F hc34]; exact CLe.refl _) | exact CLe.refl _)
  skip
  refine Tr.w hcx [] [some 11,some 12,some 13,some 14,some 15,some 16,some 17,some 18,some 19] [] rfl rfl rfl ?_ X_fc22
  refine Tr.cF rfl ?_
  refine Tr.exit ?_
  refine hK1 _ ?_
  obtain rfl : i = idN m := by omega
  refine Tr.w hcx [1000057] _ [] rfl rfl rfl ?_ X_fc22
  exact Tr.ret F_fc22
 have c2 := True.intro
 refine Tr.w hcx [] [some 11,some 12,some 13,some 14,some 15,some 16,some 17,some 18,some 19] [] rfl rfl rfl ?_ X_fc22
 refine Tr.cF rfl ?_
 refine Tr.exit ?_
 refine hK1 _ ?_
 obtain rfl : i = idN m := by omega
 refine Tr.w hcx [1000057] _ [] rfl rfl rfl ?_ X_fc22
 exact Tr.ret F_fc22
theorem X_fc21 {p : Prop} (e : p := by intro KZ hZ; simp -implicitDefEqProofs (maxSteps := 2000000) (disch := first | omega | (simp only [go_sem,lA,lD,lT,formT_ln,manyT_ln] <;> omega) | decide) only [go_sem,↓reduceIte,Nat.reduceEqDiff,reduceCtorEq,Nat.reduceLT,Nat.reduceBEq,Nat.reduceAdd,h67,e65,e66,formT_mk,manyT_mk,hy]; with_reducible exact hZ) : p := e
theorem Y_fc21 {p : Prop} (e : p := by intro KZ hZ; simp -implicitDefEqProofs (maxSteps := 2000000) (disch := first | omega | (simp only [go_sem,lA,lD,lT,formT_ln,manyT_ln] <;> omega) | decide) only [go_sem,↓reduceIte,Nat.reduceEqDiff,reduceCtorEq,Nat.reduceLT,Nat.reduceBEq,Nat.reduceAdd,h67,e65,e66,formT_mk,manyT_mk,hy]; with_reducible refine And.intro ?_ hZ; first | exact rfl | decide) : p := e
theorem F_fc21 {p : Prop} (e : p := by simp -implicitDefEqProofs (disch := first | omega | (simp only [go_sem,lA,lD,lT,formT_ln,manyT_ln] <;> omega) | decide) only [go_sem,↓reduceIte,Nat.reduceEqDiff,reduceCtorEq]; all_goals (rfl)) : p := e
theorem fc21 {gl : Nat → C} {M : Nat} {pu : Nat → List C → Option C} (hcx : CxOK (cxP gl M pu)) (h65 : ∀ (l : List Int) (i m : Nat),LI l → i ≤ 1000000 ∧ 0 < m ∧ m ≤ 9223372036854775807 → pu 65 [sl iC .no l,.val (nI i),.val (nI m)] = some (.val (nI (atI l i m)))) (h66 : ∀ (l : List Int) (k : Nat),LI l → k ≤ 1000 → pu 66 [sl iC .no l,.val (nI k)] = some (.val (str (textT l k)))) (h67 : pu 67 [] = some (.agg [.val (.int .i64 (-1)),.val (nI 0),.val (nI 0)])) (l : List Int) (k : Nat) (id : ID) (hl : LI l) (hk : k ≤ 900) : FC Tryd.prog gl 21 [sl iC .no l,.val (nI k),.agg (iD id)] [] (.agg (pC (oneP l k id))) [] := by
 replace hcx := hcx.reN (M := 62)
 refine FC.ofA (cx := cxP gl 62 pu) (rs := [.cell 6 37]) rfl Tryd.func21 rfl rfl rfl (by simp only [List.length_cons,List.length_nil]; decide) (by simp only [go_sem]) ?_
 simp only [ini,go_sem]
 have hy := True.intro
 have e65 := fun i m h => h65 l i m hl h
 have e66 := fun k h => h66 l k hl h
 have hA := atI_lt l k (m := 8) (by decide)
 have hB := atI_lt l (k + 1) (m := 6) (by decide)
 have hB8 := atI_lt l (k + 1) (m := 8) (by decide)
 have hN := oneN_le l k
 unfold oneN at hN
 have hl1 := hl.1
 refine Tr.w hcx [] _ [none,none] rfl rfl rfl ?_ X_fc21
 refine Tr.wD hcx hMO [] _ [none] rfl rfl rfl rfl ?_ Y_fc21
 refine Tr.k [0,1,6,7] ?_
 refine Tr.w hcx [1000034] _ [] rfl rfl rfl ?_ X_fc21
 refine Tr.seqK fun K1 hK1 => ?_
 refine Tr.w hcx [] _ [] rfl rfl rfl ?_ X_fc21
 refine Tr.k [0,1,6,7,8,9] ?_
 refine Tr.blk ?_
 refine Tr.k [0,1,6,7,8,9] ?_
 refine Tr.m1 hcx [1,2] ?_
 refine Tr.bxc 1 6 (sl iD (.own 3) []) _ rfl rfl (CLe_sln rfl) rfl ?_
 simp only [List.set_cons_succ,List.set_cons_zero]
 refine Tr.loopI (α := Nat) (fun a => [(0,?v0_1),(1,?v1_1),(6,?v6_1),(7,?v7_1),(8,?v8_1),(9,.val (nI a))]) (fun a => [some [.val (nI 0),.val (nI 0),.val (nI 0),.val (nI 0),.val (nI 0),.val (str []),.val (.slice none 0 0)],some [.val (.int .i64 id.1),.val (.int .i64 id.2.1),.val (.int .i64 id.2.2),.val (nI (gt formT (atI l k 8))),.val (nI (atI l (k + 1) 8 / 3)),.val (str (txtP l k a)),sl iD (.own 3) (refP l k a)]]) (fun a => a ≤ gt manyT (atI l (k + 1) 6)) (fun a => gt manyT (atI l (k + 1) 6) - a) (0) (Nat.zero_le _) ?le_1 ?hh_1 ?bd_1
 case hh_1 => exact rfl
 case le_1 => exact LT
 rintro i hi
 have hP := refP_len l k i
 have hT := txtP_len l k i
 refine Tr.seqK fun K2 hK2 => ?_
 refine Tr.w hcx [] _ [] rfl rfl rfl ?_ X_fc21
 refine Tr.cD rfl (fun hc37 => ?_) (fun hc37 => ?_)
 ·
  refine Tr.skip ?_
  refine hK2 _ ?_
  refine Tr.seqK fun K3 hK3 => ?_
  refine Tr.blk ?_
  refine Tr.w hcx [] _ [] rfl rfl rfl ?_ X_fc21
  refine Tr.w hcx [] _ [none] rfl rfl rfl ?_ X_fc21
  refine Tr.seqK fun K4 hK4 => ?_
  refine Tr.w hcx [] _ [] rfl rfl rfl ?_ X_fc21
  refine Tr.cD rfl (fun hc53 => ?_) (fun hc53 => ?_)
  ·
   refine Tr.v hcx [] _ [] rfl rfl rfl ?_ X_fc21
   refine hK4 _ ?_
   refine Tr.k [0,1,6,7,8,9,10] ?_
   refine Tr.v hcx [56] _ [] rfl rfl rfl ?_ X_fc21
   refine hK3 _ ?_
   refine Tr.k [0,1,6,7,8,9] ?_
   refine Tr.m1 hcx [0,1] ?_
   refine Tr.v hcx [1000039] _ [] rfl rfl rfl ?_ X_fc21
   exact ⟨i + 1,⟨(by omega),O1⟩,LT,by first | (simp only [refP_S,refI_T hc53]; rfl) | (simp only [refP_S,refI_F hc53]; rfl)⟩
  refine Tr.skip ?_
  refine hK4 _ ?_
  refine Tr.k [0,1,6,7,8,9,10] ?_
  refine Tr.v hcx [56] _ [] rfl rfl rfl ?_ X_fc21
  refine hK3 _ ?_
  refine Tr.k [0,1,6,7,8,9] ?_
  refine Tr.m1 hcx [0,1] ?_
  refine Tr.v hcx [1000039] _ [] rfl rfl rfl ?_ X_fc21
  exact ⟨i + 1,⟨(by omega),O1⟩,LT,by first | (simp only [refP_S,refI_T hc53]; rfl) | (simp only [refP_S,refI_F hc53]; rfl)⟩
 obtain rfl : i = gt manyT (atI l (k + 1) 6) := by omega
 refine Tr.exit ?_
 refine hK1 _ ?_
 refine Tr.w hcx [] _ [] rfl rfl rfl ?_ X_fc21
 exact Tr.ret F_fc21
end Go.Sx
namespace Go.Sx
open Go.RowKit Go.Proofs
set_option maxRecDepth 100000
set_option maxHeartbeats 8000000
theorem bsA_aC1 (u : TypeDesc) (y : Nat) (t : List UInt8) (l : List Psg) : bsA (some ⟨u,2,y,[str [],.slice none 0 0]⟩) 1 [(0,.agg [.val (str t),sl pC .no l])] = some (vp (sl aC .full [(t,l)])) := rfl
theorem bsA_vC1 (u : TypeDesc) (y : Nat) (l : Vol) : bsA (some ⟨u,1,y,[.slice none 0 0]⟩) 1 [(0,.agg [sl aC .no l])] = some (vp (sl vC .full [l])) := rfl
theorem wrc_pC3n (x : Psg) (n : Nat) : wrc (pC x) 3 [.val (nI n)] = some (pC (x.1,(n : Int),x.2.2),.val undef) := rfl
attribute [go_sem high] bsA_aC1 bsA_vC1 wrc_pC3n
def psF (p : Psg) (j : Nat) (ps : List Psg) : Psg := if p.2.1 = ((1 : Nat) : Int) ∧ (j = 0 ∨ (gt ps (j - 1)).2.1 = ((2 : Nat) : Int)) then (p.1,((0 : Nat) : Int),p.2.2) else p
def psP (l : List Int) (n : Nat) : Nat → List Psg
  | 0 => []
  | j + 1 => psP l n j ++ [psF (oneP l (9 + 4 * (n + j)) (((0 : Nat) : Int),((n + j : Nat) : Int),((0 : Nat) : Int))) j (psP l n j)]
theorem psP_len (l : List Int) (n : Nat) : ∀ j,(psP l n j).length = j
  | 0 => rfl
  | j + 1 => by simp [psP,psP_len l n j]
def cntP (l : List Int) (i k n : Nat) : Nat := min (1 + atI l (5 + 2 * i + k) 3) (8 - n)
def arP (l : List Int) (i n : Nat) : Nat → List Art × Nat
  | 0 => ([],n)
  | k + 1 => ((arP l i n k).1 ++ [(textT l (3 + i + k),psP l (arP l i n k).2 (cntP l i k (arP l i n k).2))],(arP l i n k).2 + cntP l i k (arP l i n k).2)
theorem arP_len (l : List Int) (i n : Nat) : ∀ k,(arP l i n k).1.length = k
  | 0 => rfl
  | k + 1 => by simp [arP,arP_len l i n k]
theorem arP_le (l : List Int) (i n : Nat) (h : n ≤ 8) : ∀ k,(arP l i n k).2 ≤ 8
  | 0 => h
  | k + 1 => by
    have := arP_le l i n h k
    simp only [arP,cntP]; omega
def voP (l : List Int) : Nat → List Vol × Nat
  | 0 => ([],0)
  | i + 1 => ((voP l i).1 ++ [(arP l i (voP l i).2 (1 + atI l (1 + i) 2)).1],(arP l i (voP l i).2 (1 + atI l (1 + i) 2)).2)
theorem voP_len (l : List Int) : ∀ i,(voP l i).1.length = i
  | 0 => rfl
  | i + 1 => by simp [voP,voP_len l i]
theorem voP_le (l : List Int) : ∀ i,(voP l i).2 ≤ 8
  | 0 => Nat.zero_le _
  | i + 1 => arP_le l i _ (voP_le l i) _
def wkW (l : List Int) : Wrk := (voP l (1 + atI l 0 4 / 3)).1
theorem psF_T {p : Psg} {j : Nat} {ps : List Psg} (h : p.2.1 = ((1 : Nat) : Int)) (h2 : j = 0 ∨ (gt ps (j - 1)).2.1 = ((2 : Nat) : Int)) : psF p j ps = (p.1,((0 : Nat) : Int),p.2.2) := if_pos ⟨h,h2⟩
theorem psF_F {p : Psg} {j : Nat} {ps : List Psg} (h : ¬ (p.2.1 = ((1 : Nat) : Int) ∧ (j = 0 ∨ (gt ps (j - 1)).2.1 = ((2 : Nat) : Int)))) : psF p j ps = p := if_neg h
theorem max0 (n : Nat) : max n 0 = n := Nat.max_eq_left (Nat.zero_le n)
theorem X_fc18 {p : Prop} (e : p := by intro KZ hZ; simp -implicitDefEqProofs (maxSteps := 2000000) (disch := first | omega | (simp only [go_sem,lA,lD,lT,hx1,hx2,hx3,hx4,hx5,hx6] <;> omega) | decide) only [go_sem,↓reduceIte,Nat.reduceEqDiff,reduceCtorEq,Nat.reduceLT,Nat.reduceBEq,Nat.reduceAdd,e65,e66,e21,hPx,max0,c4,c5,c1,c2,c3,hy]; with_reducible exact hZ) : p := e
theorem F_fc18 {p : Prop} (e : p := by simp -implicitDefEqProofs (disch := first | omega | (simp only [go_sem,lA,lD,lT,hx1,hx2,hx3,hx4,hx5,hx6] <;> omega) | decide) only [go_sem,↓reduceIte,Nat.reduceEqDiff,reduceCtorEq]; all_goals (rfl)) : p := e
theorem fc18 {gl : Nat → C} {M : Nat} {pu : Nat → List C → Option C} (hcx : CxOK (cxP gl M pu)) (h65 : ∀ (l : List Int) (i m : Nat),LI l → i ≤ 1000000 ∧ 0 < m ∧ m ≤ 9223372036854775807 → pu 65 [sl iC .no l,.val (nI i),.val (nI m)] = some (.val (nI (atI l i m)))) (h66 : ∀ (l : List Int) (k : Nat),LI l → k ≤ 1000 → pu 66 [sl iC .no l,.val (nI k)] = some (.val (str (textT l k)))) (h21 : ∀ (l : List Int) (k : Nat) (id : ID),LI l → k ≤ 900 → pu 21 [sl iC .no l,.val (nI k),.agg (iD id)] = some (.agg (pC (oneP l k id)))) (l : List Int) (hl : LI l) : FC Tryd.prog gl 18 [sl iC .no l] [] (.agg [sl vC .no (wkW l)]) [] := by
 replace hcx := hcx.reN (M := 104)
 refine FC.ofA (cx := cxP gl 104 pu) (rs := [.cell 2 29]) rfl Tryd.func18 rfl rfl rfl (by simp only [List.length_cons,List.length_nil]; decide) (by simp only [go_sem]) ?_
 simp only [ini,go_sem]
 have c4 := True.intro
 have c5 := True.intro
 have c1 := True.intro
 have c2 := True.intro
 have c3 := True.intro
 have hy := True.intro
 have e65 := fun i m h => h65 l i m hl h
 have e66 := fun k h => h66 l k hl h
 have e21 : ∀ k n : Nat,k ≤ 900 → pu 21 [sl iC .no l,.val (nI k),.agg [.val (nI 0),.val (nI n),.val (nI 0)]] = some (.agg (pC (oneP l k (((0 : Nat) : Int),(n : Int),((0 : Nat) : Int))))) := fun k n h => h21 l k (((0 : Nat) : Int),(n : Int),((0 : Nat) : Int)) hl h
 have hA := atI_lt l 0 (m := 4) (by decide)
 have hx1 := True.intro
 have hx2 := True.intro
 have hx3 := True.intro
 have hx4 := True.intro
 have hx5 := True.intro
 have hx6 := True.intro
 have hPx := True.intro
 refine Tr.w hcx [] _ [none] rfl rfl rfl ?_ X_fc18
 refine Tr.w hcx [] _ [none] rfl rfl rfl ?_ X_fc18
 refine Tr.w hcx [] _ [] rfl rfl rfl ?_ X_fc18
 refine Tr.w hcx [1000017] _ [] rfl rfl rfl ?_ X_fc18
 refine Tr.seqK fun K1 hK1 => ?_
 refine Tr.w hcx [] _ [] rfl rfl rfl ?_ X_fc18
 refine Tr.k [0,2,3,4,5,6] ?_
 refine Tr.blk ?_
 refine Tr.bxc 1 0 (sl vC (.own 1) []) _ rfl rfl (CLe_sln rfl) rfl ?_
 simp only [List.set_cons_succ,List.set_cons_zero]
 refine Tr.loopI (α := Nat) (fun a => [(0,?v0_1),(2,?v2_1),(3,?v3_1),(4,.val (nI (voP l a).2)),(5,?v5_1),(6,.val (nI a))]) (fun a => [some [.val (.slice none 0 0)],some [sl vC (.own 1) (voP l a).1]]) (fun a => a ≤ 1 + atI l 0 4 / 3) (fun a => 1 + atI l 0 4 / 3 - a) (0) (Nat.zero_le _) ?le_1 ?hh_1 ?bd_1
 case hh_1 => exact rfl
 case le_1 => exact LT
 rintro i hi
 have hx1 := voP_len l i
 have hx2 := voP_le l i
 have hB := atI_lt l (1 + i) (m := 2) (by decide)
 refine Tr.seqK fun K2 hK2 => ?_
 refine Tr.w hcx [] _ [] rfl rfl rfl ?_ X_fc18
 refine Tr.cD rfl (fun hc20 => ?_) (fun hc20 => ?_)
 ·
  refine Tr.skip ?_
  refine hK2 _ ?_
  refine Tr.seqK fun K3 hK3 => ?_
  refine Tr.blk ?_
  refine Tr.w hcx [] _ [none] rfl rfl rfl ?_ X_fc18
  refine Tr.w hcx [1000027] _ [] rfl rfl rfl ?_ X_fc18
  refine Tr.seqK fun K4 hK4 => ?_
  refine Tr.w hcx [] _ [] rfl rfl rfl ?_ X_fc18
  refine Tr.k [0,2,3,4,5,6,7,8,9] ?_
  refine Tr.blk ?_
  refine Tr.bxc 2 0 (sl aC (.own 2) []) _ rfl rfl (CLe_sln rfl) rfl ?_
  simp only [List.set_cons_succ,List.set_cons_zero]
  refine Tr.loopI (α := Nat) (fun a => [(0,?v0_2),(2,?v2_2),(3,?v3_2),(4,.val (nI (arP l i (voP l i).2 a).2)),(5,?v5_2),(6,?v6_2),(7,?v7_2),(8,?v8_2),(9,.val (nI a))]) (fun a => [some [.val (.slice none 0 0)],some [sl vC (.own 1) (voP l i).1],some [sl aC (.own 2) (arP l i (voP l i).2 a).1]]) (fun a => a ≤ 1 + atI l (1 + i) 2) (fun a => 1 + atI l (1 + i) 2 - a) (0) (Nat.zero_le _) ?le_2 ?hh_2 ?bd_2
  case hh_2 => exact rfl
  case le_2 => exact LT
  rintro k hk
  have hx3 := arP_len l i (voP l i).2 k
  have hx4 := arP_le l i (voP l i).2 hx2 k
  have hC := atI_lt l (5 + 2 * i + k) (m := 3) (by decide)
  refine Tr.seqK fun K5 hK5 => ?_
  refine Tr.w hcx [] _ [] rfl rfl rfl ?_ X_fc18
  refine Tr.cD rfl (fun hc30 => ?_) (fun hc30 => ?_)
  ·
   refine Tr.skip ?_
   refine hK5 _ ?_
   refine Tr.seqK fun K6 hK6 => ?_
   refine Tr.blk ?_
   refine Tr.w hcx [] _ [none] rfl rfl rfl ?_ X_fc18
   refine Tr.k [0,2,3,4,5,6,7,8,9,10] ?_
   refine Tr.w hcx [1000047] _ [] rfl rfl rfl ?_ X_fc18
   refine Tr.seqK fun K7 hK7 => ?_
   refine Tr.w hcx [] _ [] rfl rfl rfl ?_ X_fc18
   refine Tr.k [0,2,3,4,5,6,7,8,9,10,11,12] ?_
   refine Tr.blk ?_
   have hN : cntP l i k (arP l i (voP l i).2 k).2 = min (1 + atI l (5 + 2 * i + k) 3) (8 - (arP l i (voP l i).2 k).2) := rfl
   refine Tr.bxc 3 1 (sl pC (.own 7) []) _ rfl rfl (CLe_sln rfl) rfl ?_
   simp only [List.set_cons_succ,List.set_cons_zero]
   refine Tr.loopI (α := Nat) (fun a => [(0,?v0_3),(2,?v2_3),(3,?v3_3),(4,.val (nI ((arP l i (voP l i).2 k).2 + a))),(5,?v5_3),(6,?v6_3),(7,?v7_3),(8,?v8_3),(9,?v9_3),(10,?v10_3),(11,?v11_3),(12,.val (nI a))]) (fun a => [some [.val (.slice none 0 0)],some [sl vC (.own 1) (voP l i).1],some [sl aC (.own 2) (arP l i (voP l i).2 k).1],some [.val (str (textT l (3 + i + k))),sl pC (.own 7) (psP l (arP l i (voP l i).2 k).2 a)]]) (fun a => a ≤ cntP l i k (arP l i (voP l i).2 k).2) (fun a => cntP l i k (arP l i (voP l i).2 k).2 - a) (0) (Nat.zero_le _) ?le_3 ?hh_3 ?bd_3
   case hh_3 => exact rfl
   case le_3 => exact LT
   rintro j hj
   have hx5 := psP_len l (arP l i (voP l i).2 k).2 j
   obtain ⟨n,hn⟩ : ∃ n,(arP l i (voP l i).2 k).2 = n := ⟨_,rfl⟩
   refine Tr.seqK fun K8 hK8 => ?_
   by_cases c4 : j < 1 + atI l (5 + 2 * i + k) 3
   ·
    by_cases c5 : (arP l i (voP l i).2 k).2 + j < 8
    ·
     skip
     refine Tr.w hcx [] [some 48,some 49,some 50,some 51,some 52,some 53,some 54] [] rfl rfl rfl ?_ X_fc18
     refine Tr.cT rfl ?_
     refine Tr.skip ?_
     refine hK8 _ ?_
     refine Tr.k [0,2,3,4,5,6,7,8,9,10,11,12] ?_
     refine Tr.seqK fun K9 hK9 => ?_
     refine Tr.blk ?_
     obtain ⟨P,hPP⟩ : ∃ P,oneP l (9 + 4 * ((arP l i (voP l i).2 k).2 + j)) (((0 : Nat) : Int),(((arP l i (voP l i).2 k).2 + j : Nat) : Int),((0 : Nat) : Int)) = P := ⟨_,rfl⟩
     have hPx := hPP
     refine Tr.w hcx [] _ [none] rfl rfl rfl ?_ X_fc18
     refine Tr.k [0,2,3,4,5,6,7,8,9,10,11,12,13] ?_
     refine Tr.seqK fun K10 hK10 => ?_
     by_cases c1 : P.2.1 = ((1 : Nat) : Int)
     ·
      have c1o := c1
      replace c1 := eq_true c1
      by_cases c2 : j = 0
      ·
       have c2o := c2
       replace c2 := eq_true c2
       refine Tr.w hcx [] [some 64,some 65,some 66,some 67,some 68,some 69,some 70,some 71,some 72,some 73,some 74,some 75,some 76,some 77,some 78,some 79,some 80,some 81] [] rfl rfl rfl ?_ X_fc18
       refine Tr.k [0,2,3,4,5,6,7,8,9,10,11,12,13,81] ?_
       refine Tr.cT rfl ?_
       refine Tr.v hcx [] _ [] rfl rfl rfl ?_ X_fc18
       refine hK10 _ ?_
       refine Tr.w hcx [84] _ [] rfl rfl rfl ?_ X_fc18
       refine Tr.v hcx [1000090] _ [] rfl rfl rfl ?_ X_fc18
       refine hK9 _ ?_
       refine Tr.k [0,2,3,4,5,6,7,8,9,10,11,12] ?_
       refine Tr.k [0,2,3,4,5,6,7,8,9,10,11,12] ?_
       refine Tr.m1 hcx [0,1,2,3] ?_
       refine Tr.v hcx [1000056] _ [] rfl rfl rfl ?_ X_fc18
       exact ⟨j + 1,⟨(by omega),O1⟩,LT,by simp only [psP,hPP]; rw [psF_T c1o (by first | exact .inl c2o | exact .inr c3o)] <;> rfl⟩
      have c2o := c2
      replace c2 := eq_false c2
      by_cases c3 : (gt (psP l (arP l i (voP l i).2 k).2 j) (j - 1)).2.1 = ((2 : Nat) : Int)
      ·
       have c3o := c3
       replace c3 := eq_true c3
       refine Tr.w hcx [] [some 64,some 65,some 66,some 67,some 68,some 69,some 70,some 71,some 72,some 73,some 74,some 75,some 76,some 77,some 78,some 79,some 80,some 81] [] rfl rfl rfl ?_ X_fc18
       refine Tr.k [0,2,3,4,5,6,7,8,9,10,11,12,13,81] ?_
       refine Tr.cT rfl ?_
       refine Tr.v hcx [] _ [] rfl rfl rfl ?_ X_fc18
       refine hK10 _ ?_
       refine Tr.w hcx [84] _ [] rfl rfl rfl ?_ X_fc18
       refine Tr.v hcx [1000090] _ [] rfl rfl rfl ?_ X_fc18
       refine hK9 _ ?_
       refine Tr.k [0,2,3,4,5,6,7,8,9,10,11,12] ?_
       refine Tr.k [0,2,3,4,5,6,7,8,9,10,11,12] ?_
       refine Tr.m1 hcx [0,1,2,3] ?_
       refine Tr.v hcx [1000056] _ [] rfl rfl rfl ?_ X_fc18
       exact ⟨j + 1,⟨(by omega),O1⟩,LT,by simp only [psP,hPP]; rw [psF_T c1o (by first | exact .inl c2o | exact .inr c3o)] <;> rfl⟩
      have c3o := c3
      replace c3 := eq_false c3
      refine Tr.w hcx [] [some 64,some 65,some 66,some 67,some 68,some 69,some 70,some 71,some 72,some 73,some 74,some 75,some 76,some 77,some 78,some 79,some 80,some 81] [] rfl rfl rfl ?_ X_fc18
      refine Tr.k [0,2,3,4,5,6,7,8,9,10,11,12,13,81] ?_
      refine Tr.cF rfl ?_
      refine Tr.skip ?_
      refine hK10 _ ?_
      refine Tr.w hcx [84] _ [] rfl rfl rfl ?_ X_fc18
      refine Tr.v hcx [1000090] _ [] rfl rfl rfl ?_ X_fc18
      refine hK9 _ ?_
      refine Tr.k [0,2,3,4,5,6,7,8,9,10,11,12] ?_
      refine Tr.m1 hcx [0,1,2,3] ?_
      refine Tr.v hcx [1000056] _ [] rfl rfl rfl ?_ X_fc18
      exact ⟨j + 1,⟨(by omega),O1⟩,LT,by simp only [psP,hPP]; rw [psF_F (p := P) (j := j) (by rintro ⟨q1,q2⟩; first | exact c1o q1 | exact q2.elim c2o c3o)] <;> rfl⟩
     have c1o := c1
     replace c1 := eq_false c1
     refine Tr.w hcx [] [some 64,some 65,some 66,some 67,some 68,some 69,some 70,some 71,some 72,some 73,some 74,some 75,some 76,some 77,some 78,some 79,some 80,some 81] [] rfl rfl rfl ?_ X_fc18
     refine Tr.k [0,2,3,4,5,6,7,8,9,10,11,12,13,81] ?_
     refine Tr.cF rfl ?_
     refine Tr.skip ?_
     refine hK10 _ ?_
     refine Tr.w hcx [84] _ [] rfl rfl rfl ?_ X_fc18
     refine Tr.v hcx [1000090] _ [] rfl rfl rfl ?_ X_fc18
     refine hK9 _ ?_
     refine Tr.k [0,2,3,4,5,6,7,8,9,10,11,12] ?_
     refine Tr.m1 hcx [0,1,2,3] ?_
     refine Tr.v hcx [1000056] _ [] rfl rfl rfl ?_ X_fc18
     exact ⟨j + 1,⟨(by omega),O1⟩,LT,by simp only [psP,hPP]; rw [psF_F (p := P) (j := j) (by rintro ⟨q1,q2⟩; first | exact c1o q1 | exact q2.elim c2o c3o)] <;> rfl⟩
    skip
    refine Tr.w hcx [] [some 48,some 49,some 50,some 51,some 52,some 53,some 54] [] rfl rfl rfl ?_ X_fc18
    refine Tr.cF rfl ?_
    refine Tr.exit ?_
    refine hK7 _ ?_
    obtain rfl : j = cntP l i k (arP l i (voP l i).2 k).2 := by omega
    refine Tr.v hcx [92] _ [] rfl rfl rfl ?_ X_fc18
    refine hK6 _ ?_
    refine Tr.k [0,2,3,4,5,6,7,8,9] ?_
    refine Tr.k [0,2,3,4,5,6,7,8,9] ?_
    refine Tr.m1 hcx [0,1,2] ?_
    refine Tr.v hcx [1000032] _ [] rfl rfl rfl ?_ X_fc18
    exact ⟨k + 1,⟨(by omega),O1⟩,LT,rfl⟩
   have c5 := True.intro
   refine Tr.w hcx [] [some 48,some 49,some 50,some 51,some 52,some 53,some 54] [] rfl rfl rfl ?_ X_fc18
   refine Tr.cF rfl ?_
   refine Tr.exit ?_
   refine hK7 _ ?_
   obtain rfl : j = cntP l i k (arP l i (voP l i).2 k).2 := by omega
   refine Tr.v hcx [92] _ [] rfl rfl rfl ?_ X_fc18
   refine hK6 _ ?_
   refine Tr.k [0,2,3,4,5,6,7,8,9] ?_
   refine Tr.k [0,2,3,4,5,6,7,8,9] ?_
   refine Tr.m1 hcx [0,1,2] ?_
   refine Tr.v hcx [1000032] _ [] rfl rfl rfl ?_ X_fc18
   exact ⟨k + 1,⟨(by omega),O1⟩,LT,rfl⟩
  refine Tr.exit ?_
  refine hK4 _ ?_
  obtain rfl : k = 1 + atI l (1 + i) 2 := by omega
  refine Tr.v hcx [98] _ [] rfl rfl rfl ?_ X_fc18
  refine hK3 _ ?_
  refine Tr.k [0,2,3,4,5,6] ?_
  refine Tr.m1 hcx [0,1] ?_
  refine Tr.v hcx [1000022] _ [] rfl rfl rfl ?_ X_fc18
  exact ⟨i + 1,⟨(by omega),O1⟩,LT,rfl⟩
 refine Tr.exit ?_
 refine hK1 _ ?_
 obtain rfl : i = 1 + atI l 0 4 / 3 := by omega
 refine Tr.w hcx [] _ [] rfl rfl rfl ?_ X_fc18
 exact Tr.ret F_fc18
end Go.Sx
namespace Go.Sx
open Go.RowKit Go.Proofs
set_option maxRecDepth 100000
set_option maxHeartbeats 8000000
def okI (x : ID) : Bool := decide (0 ≤ x.1 ∧ x.1 < 6 ∧ 0 ≤ x.2.1 ∧ x.2.1 ≤ 63 ∧ 0 ≤ x.2.2 ∧ x.2.2 < 1024)
def okR (x : ID) : Bool := decide (x = (-1,0,0)) || okI x
def ordP (p : Psg) : Bool := okI p.1 && decide (0 ≤ p.2.1 ∧ p.2.1 < 4 ∧ 0 ≤ p.2.2.1 ∧ p.2.2.1 < 4) && decide (validE p.2.2.2.1 = 0) && decide ((marksT p.2.2.2.1).length = p.2.2.2.2.length) && p.2.2.2.2.all okR
def titA (s : List UInt8) : Bool := decide (validE s = 0) && decide ((marksT s).length = 0)
theorem all_gt {α : Type} [Inhabited α] {l : List α} {p : α → Bool} (h : ∀ j,j < l.length → p (gt l j) = true) : l.all p = true := by
  rw [List.all_eq_true]
  intro x hx
  obtain ⟨j,hj,rfl⟩ := List.getElem_of_mem hx
  have := h j hj
  simpa [gt,List.getD,List.getElem?_eq_getElem hj] using this
theorem all_gtF {α : Type} [Inhabited α] {l : List α} {p : α → Bool} {j : Nat} (hj : j < l.length) (h : p (gt l j) = false) : l.all p = false := by
  rw [List.all_eq_false]
  exact ⟨_,List.getElem_mem hj,by simpa [gt,List.getD,List.getElem?_eq_getElem hj] using h⟩
theorem marks_len (s : List UInt8) : (marksT s).length ≤ s.length := Nat.le_trans (ofK_len 3 (toks s)) (toks_len s)
theorem ordP_0 {p : Psg} (h : okI p.1 = false) : ordP p = false := by unfold ordP; rw [h]; rfl
theorem ordP_n {p : Psg} (h : ¬ (0 ≤ p.2.1 ∧ p.2.1 < 4 ∧ 0 ≤ p.2.2.1 ∧ p.2.2.1 < 4)) : ordP p = false := by unfold ordP; rw [decide_eq_false h]; simp
theorem ordP_5 {p : Psg} (h : ¬ validE p.2.2.2.1 = 0) : ordP p = false := by unfold ordP; rw [decide_eq_false h]; simp
theorem ordP_6 {p : Psg} (h : ¬ (marksT p.2.2.2.1).length = p.2.2.2.2.length) : ordP p = false := by unfold ordP; rw [decide_eq_false h]; simp
theorem ordP_7 {p : Psg} (h : p.2.2.2.2.all okR = false) : ordP p = false := by unfold ordP; rw [h]; simp
theorem ordP_T {p : Psg} (h0 : okI p.1 = true) (h : 0 ≤ p.2.1 ∧ p.2.1 < 4 ∧ 0 ≤ p.2.2.1 ∧ p.2.2.1 < 4) (h5 : validE p.2.2.2.1 = 0) (h6 : (marksT p.2.2.2.1).length = p.2.2.2.2.length) (h7 : p.2.2.2.2.all okR = true) : ordP p = true := by
  unfold ordP; rw [h0,decide_eq_true h,decide_eq_true h5,decide_eq_true h6,h7]; rfl
theorem okR_1 {x : ID} (h : x = (-1,0,0)) : okR x = true := by unfold okR; rw [decide_eq_true h]; rfl
theorem okR_2 {x : ID} (h : okI x = true) : okR x = true := by unfold okR; rw [h]; simp
theorem okR_F {x : ID} (h : ¬ x = (-1,0,0)) (h2 : okI x = false) : okR x = false := by unfold okR; rw [decide_eq_false h,h2]; rfl
theorem X_fc94 {p : Prop} (e : p := by intro KZ hZ; simp -implicitDefEqProofs (disch := first | omega | (simp only [go_sem,lA,lD,lT] <;> omega) | decide) only [go_sem,↓reduceIte,Nat.reduceEqDiff,reduceCtorEq,Nat.reduceLT,Nat.reduceBEq,Nat.reduceAdd,c1,c2,c3,c4,c5,c6,hy]; with_reducible exact hZ) : p := e
theorem F_fc94 {p : Prop} (e : p := by simp -implicitDefEqProofs (disch := first | omega | (simp only [go_sem,lA,lD,lT] <;> omega) | decide) only [go_sem,↓reduceIte,Nat.reduceEqDiff,reduceCtorEq]; all_goals (exact congrArg (fun z => some (C.val (.bool z))) (by unfold okI; first | (symm; rw [decide_eq_true_iff]; omega) | (symm; rw [decide_eq_false_iff_not]; omega)))) : p := e
theorem fc94 {gl : Nat → C} {M : Nat} {pu : Nat → List C → Option C} (hcx : CxOK (cxP gl M pu)) (x : ID) : FC Tryd.prog gl 94 [.agg (iD x)] [] (.val (.bool (okI x))) [] := by
 replace hcx := hcx.reN (M := 31)
 refine FC.ofA (cx := cxP gl 31 pu) (rs := [.tmp 2]) rfl Tryd.func94 rfl rfl rfl (by simp only [List.length_cons,List.length_nil]; decide) (by simp only [go_sem]) ?_
 simp only [ini,go_sem]
 have c1 := True.intro
 have c2 := True.intro
 have c3 := True.intro
 have c4 := True.intro
 have c5 := True.intro
 have c6 := True.intro
 have hy := True.intro
 refine Tr.w hcx [] _ [none] rfl rfl rfl ?_ X_fc94
 refine Tr.k [1] ?_
 by_cases c1 : ((0 : Nat) : Int) ≤ x.1
 ·
  have c1o := c1
  replace c1 := eq_true c1
  by_cases c2 : x.1 < ((6 : Nat) : Int)
  ·
   have c2o := c2
   replace c2 := eq_true c2
   by_cases c3 : ((0 : Nat) : Int) ≤ x.2.1
   ·
    have c3o := c3
    replace c3 := eq_true c3
    by_cases c4 : x.2.1 ≤ ((63 : Nat) : Int)
    ·
     have c4o := c4
     replace c4 := eq_true c4
     by_cases c5 : ((0 : Nat) : Int) ≤ x.2.2
     ·
      have c5o := c5
      replace c5 := eq_true c5
      by_cases c6 : x.2.2 < ((1024 : Nat) : Int)
      ·
       have c6o := c6
       replace c6 := eq_true c6
       skip
       refine Tr.w hcx [1000030] [some 3,some 4,some 5,some 6,some 7,some 8,some 9,some 10,some 11,some 12,some 13,some 14,some 15,some 16,some 17,some 18,some 19,some 20,some 21,some 22,some 23,some 24,some 25,some 26,some 27,some 28,some 29,some 30,some 2] [] rfl rfl rfl ?_ X_fc94
       refine Tr.k [2] ?_
       exact Tr.ret F_fc94
      have c6o := c6
      replace c6 := eq_false c6
      skip
      refine Tr.w hcx [1000030] [some 3,some 4,some 5,some 6,some 7,some 8,some 9,some 10,some 11,some 12,some 13,some 14,some 15,some 16,some 17,some 18,some 19,some 20,some 21,some 22,some 23,some 24,some 25,some 26,some 27,some 28,some 29,some 30,some 2] [] rfl rfl rfl ?_ X_fc94
      refine Tr.k [2] ?_
      exact Tr.ret F_fc94
     have c5o := c5
     replace c5 := eq_false c5
     have c6 := True.intro
     refine Tr.w hcx [1000030] [some 3,some 4,some 5,some 6,some 7,some 8,some 9,some 10,some 11,some 12,some 13,some 14,some 15,some 16,some 17,some 18,some 19,some 20,some 21,some 22,some 23,some 24,some 25,some 26,some 27,some 28,some 29,some 30,some 2] [] rfl rfl rfl ?_ X_fc94
     refine Tr.k [2] ?_
     exact Tr.ret F_fc94
    have c4o := c4
    replace c4 := eq_false c4
    have c5 := True.intro
    have c6 := True.intro
    refine Tr.w hcx [1000030] [some 3,some 4,some 5,some 6,some 7,some 8,some 9,some 10,some 11,some 12,some 13,some 14,some 15,some 16,some 17,some 18,some 19,some 20,some 21,some 22,some 23,some 24,some 25,some 26,some 27,some 28,some 29,some 30,some 2] [] rfl rfl rfl ?_ X_fc94
    refine Tr.k [2] ?_
    exact Tr.ret F_fc94
   have c3o := c3
   replace c3 := eq_false c3
   have c4 := True.intro
   have c5 := True.intro
   have c6 := True.intro
   refine Tr.w hcx [1000030] [some 3,some 4,some 5,some 6,some 7,some 8,some 9,some 10,some 11,some 12,some 13,some 14,some 15,some 16,some 17,some 18,some 19,some 20,some 21,some 22,some 23,some 24,some 25,some 26,some 27,some 28,some 29,some 30,some 2] [] rfl rfl rfl ?_ X_fc94
   refine Tr.k [2] ?_
   exact Tr.ret F_fc94
  have c2o := c2
  replace c2 := eq_false c2
  have c3 := True.intro
  have c4 := True.intro
  have c5 := True.intro
  have c6 := True.intro
  refine Tr.w hcx [1000030] [some 3,some 4,some 5,some 6,some 7,some 8,some 9,some 10,some 11,some 12,some 13,some 14,some 15,some 16,some 17,some 18,some 19,some 20,some 21,some 22,some 23,some 24,some 25,some 26,some 27,some 28,some 29,some 30,some 2] [] rfl rfl rfl ?_ X_fc94
  refine Tr.k [2] ?_
  exact Tr.ret F_fc94
 have c1o := c1
 replace c1 := eq_false c1
 have c2 := True.intro
 have c3 := True.intro
 have c4 := True.intro
 have c5 := True.intro
 have c6 := True.intro
 refine Tr.w hcx [1000030] [some 3,some 4,some 5,some 6,some 7,some 8,some 9,some 10,some 11,some 12,some 13,some 14,some 15,some 16,some 17,some 18,some 19,some 20,some 21,some 22,some 23,some 24,some 25,some 26,some 27,some 28,some 29,some 30,some 2] [] rfl rfl rfl ?_ X_fc94
 refine Tr.k [2] ?_
 exact Tr.ret F_fc94
theorem X_fc54 {p : Prop} (e : p := by intro KZ hZ; simp -implicitDefEqProofs (disch := first | omega | (simp only [go_sem,lA,lD,lT,hm] <;> omega) | decide) only [go_sem,↓reduceIte,Nat.reduceEqDiff,reduceCtorEq,Nat.reduceLT,Nat.reduceBEq,Nat.reduceAdd,h94,e15,e16,hg0,eq_iD,a0,a1,a2,a3,a4,a5,a6,b1,b2,hy]; with_reducible exact hZ) : p := e
theorem Y_fc54 {p : Prop} (e : p := by intro KZ hZ; simp -implicitDefEqProofs (disch := first | omega | (simp only [go_sem,lA,lD,lT,hm] <;> omega) | decide) only [go_sem,↓reduceIte,Nat.reduceEqDiff,reduceCtorEq,Nat.reduceLT,Nat.reduceBEq,Nat.reduceAdd,h94,e15,e16,hg0,eq_iD,a0,a1,a2,a3,a4,a5,a6,b1,b2,hy]; with_reducible refine And.intro ?_ hZ; first | exact rfl | decide) : p := e
theorem F_fc54 {p : Prop} (e : p := by simp -implicitDefEqProofs (disch := first | omega | (simp only [go_sem,lA,lD,lT,hm] <;> omega) | decide) only [go_sem,↓reduceIte,Nat.reduceEqDiff,reduceCtorEq]; all_goals (rw [hR])) : p := e
theorem fc54 {gl : Nat → C} {M : Nat} {pu : Nat → List C → Option C} (hcx : CxOK (cxP gl M pu)) (hg0 : gl 0 = .kp (iD (-1,0,0))) (h94 : ∀ x : ID,pu 94 [.agg (iD x)] = some (.val (.bool (okI x)))) (h15 : ∀ s : List UInt8,s.length ≤ 1000000 → pu 15 [.val (str s)] = some (.val (nI (validE s)))) (h16 : ∀ s : List UInt8,s.length ≤ 1000000 → pu 16 [.val (str s)] = some (sl nC (.own 1) (marksT s))) (p : Psg) (ht : p.2.2.2.1.length ≤ 1000000) (hr : p.2.2.2.2.length ≤ 1000000) : FC Tryd.prog gl 54 [.agg (pC p)] [] (.val (.bool (ordP p))) [] := by
 replace hcx := hcx.reN (M := 61)
 refine FC.ofA (cx := cxP gl 61 pu) (rs := [.tmp 2]) rfl Tryd.func54 rfl rfl rfl (by simp only [List.length_cons,List.length_nil]; decide) (by simp only [go_sem]) ?_
 simp only [ini,go_sem]
 have a0 := True.intro
 have a1 := True.intro
 have a2 := True.intro
 have a3 := True.intro
 have a4 := True.intro
 have a5 := True.intro
 have a6 := True.intro
 have b1 := True.intro
 have b2 := True.intro
 have hy := True.intro
 have e15 := h15 _ ht
 have e16 := h16 _ ht
 have hm := marks_len p.2.2.2.1
 refine Tr.w hcx [] _ [none] rfl rfl rfl ?_ X_fc54
 refine Tr.k [1] ?_
 refine Tr.seqK fun K1 hK1 => ?_
 refine Tr.blk ?_
 by_cases a0 : okI p.1 = true
 ·
  skip
  by_cases a1 : p.2.1 < ((0 : Nat) : Int)
  ·
   have a1o := a1
   replace a1 := eq_true a1
   have a2 := True.intro
   have a3 := True.intro
   have a4 := True.intro
   refine Tr.w hcx [1000029] [some 6,some 7,some 8,some 9,some 10,some 11,some 12,some 13,some 14,some 15,some 16,some 17,some 18,some 19,some 20,some 21,some 22,some 23,some 24,some 25,some 26,some 27,some 28,some 29,some 5] [] rfl rfl rfl ?_ X_fc54
   refine Tr.cT rfl ?_
   have hR := ordP_n (p := p) (by omega)
   refine Tr.w hcx [] _ [] rfl rfl rfl ?_ X_fc54
   refine Tr.k [2] ?_
   exact Tr.ret F_fc54
  have a1o := a1
  replace a1 := eq_false a1
  by_cases a2 : ((4 : Nat) : Int) ≤ p.2.1
  ·
   have a2o := a2
   replace a2 := eq_true a2
   have a3 := True.intro
   have a4 := True.intro
   refine Tr.w hcx [1000029] [some 6,some 7,some 8,some 9,some 10,some 11,some 12,some 13,some 14,some 15,some 16,some 17,some 18,some 19,some 20,some 21,some 22,some 23,some 24,some 25,some 26,some 27,some 28,some 29,some 5] [] rfl rfl rfl ?_ X_fc54
   refine Tr.cT rfl ?_
   have hR := ordP_n (p := p) (by omega)
   refine Tr.w hcx [] _ [] rfl rfl rfl ?_ X_fc54
   refine Tr.k [2] ?_
   exact Tr.ret F_fc54
  have a2o := a2
  replace a2 := eq_false a2
  by_cases a3 : p.2.2.1 < ((0 : Nat) : Int)
  ·
   have a3o := a3
   replace a3 := eq_true a3
   have a4 := True.intro
   refine Tr.w hcx [1000029] [some 6,some 7,some 8,some 9,some 10,some 11,some 12,some 13,some 14,some 15,some 16,some 17,some 18,some 19,some 20,some 21,some 22,some 23,some 24,some 25,some 26,some 27,some 28,some 29,some 5] [] rfl rfl rfl ?_ X_fc54
   refine Tr.cT rfl ?_
   have hR := ordP_n (p := p) (by omega)
   refine Tr.w hcx [] _ [] rfl rfl rfl ?_ X_fc54
   refine Tr.k [2] ?_
   exact Tr.ret F_fc54
  have a3o := a3
  replace a3 := eq_false a3
  by_cases a4 : ((4 : Nat) : Int) ≤ p.2.2.1
  ·
   have a4o := a4
   replace a4 := eq_true a4
   skip
   refine Tr.w hcx [1000029] [some 6,some 7,some 8,some 9,some 10,some 11,some 12,some 13,some 14,some 15,some 16,some 17,some 18,some 19,some 20,some 21,some 22,some 23,some 24,some 25,some 26,some 27,some 28,some 29,some 5] [] rfl rfl rfl ?_ X_fc54
   refine Tr.cT rfl ?_
   have hR := ordP_n (p := p) (by omega)
   refine Tr.w hcx [] _ [] rfl rfl rfl ?_ X_fc54
   refine Tr.k [2] ?_
   exact Tr.ret F_fc54
  have a4o := a4
  replace a4 := eq_false a4
  skip
  refine Tr.w hcx [1000029] [some 6,some 7,some 8,some 9,some 10,some 11,some 12,some 13,some 14,some 15,some 16,some 17,some 18,some 19,some 20,some 21,some 22,some 23,some 24,some 25,some 26,some 27,some 28,some 29,some 5] [] rfl rfl rfl ?_ X_fc54
  refine Tr.cF rfl ?_
  by_cases a5 : validE p.2.2.2.1 = 0
  ·
   have a5o := a5
   replace a5 := eq_true a5
   by_cases a6 : (marksT p.2.2.2.1).length = p.2.2.2.2.length
   ·
    have a6o := a6
    replace a6 := eq_true a6
    skip
    refine Tr.wD hcx hMO [1000044] [some 31,some 32,some 33,some 34,some 35,some 36,some 37,some 38,some 39,some 40,some 41,some 42,some 43,some 44,some 30] [] rfl rfl rfl rfl ?_ Y_fc54
    refine Tr.k [1,30] ?_
    refine Tr.cF rfl ?_
    refine Tr.skip ?_
    refine hK1 _ ?_
    refine Tr.seqK fun K2 hK2 => ?_
    refine Tr.w hcx [] _ [] rfl rfl rfl ?_ X_fc54
    refine Tr.k [46,47,48] ?_
    refine Tr.blk ?_
    obtain ⟨R,hR⟩ : ∃ R,p.2.2.2.2 = R := ⟨_,rfl⟩
    rw [hR]
    rw [hR] at a6o hr
    have h7 := ordP_7 (p := p)
    have hT := ordP_T (p := p) a0 (by omega) a5o (by rw [hR]; exact a6o)
    rw [hR] at h7 hT
    refine Tr.k [46,47,48] ?_
    refine Tr.m1 hcx [] ?_
    refine Tr.loopI (α := Nat) (fun a => [(46,?v46_1),(47,?v47_1),(48,.val (nI a))]) (fun a => []) (fun a => a ≤ R.length ∧ ∀ j,j < a → okR (gt R j) = true) (fun a => R.length - a) (0) ⟨Nat.zero_le _,fun j hj => absurd hj (Nat.not_lt_zero j)⟩ ?le_1 ?hh_1 ?bd_1
    case hh_1 => exact rfl
    case le_1 => exact LT
    rintro i ⟨hi,hA⟩
    refine Tr.w hcx [] _ [] rfl rfl rfl ?_ X_fc54
    refine Tr.seqK fun K3 hK3 => ?_
    refine Tr.cD rfl (fun hc49 => ?_) (fun hc49 => ?_)
    ·
     refine Tr.skip ?_
     refine hK3 _ ?_
     refine Tr.seqK fun K4 hK4 => ?_
     refine Tr.blk ?_
     refine Tr.w hcx [] _ [none] rfl rfl rfl ?_ X_fc54
     by_cases b1 : gt R i = (-1,0,0)
     ·
      have b1o := b1
      replace b1 := eq_true b1
      have b2 := True.intro
      refine Tr.w hcx [] [some 52,some 53,some 54,some 55,some 56,some 57,some 58,some 59] [] rfl rfl rfl ?_ X_fc54
      refine Tr.cF rfl ?_
      refine Tr.skip ?_
      refine hK4 _ ?_
      refine Tr.k [46,47,48] ?_
      refine Tr.m1 hcx [] ?_
      refine Tr.v hcx [] _ [] rfl rfl rfl ?_ X_fc54
      exact ⟨i + 1,⟨⟨by omega,fun j hj => (Nat.lt_or_eq_of_le (Nat.le_of_lt_succ hj)).elim (hA j) (fun e => e ▸ okR_1 b1o)⟩,O1⟩,LT,rfl⟩
     have b1o := b1
     replace b1 := eq_false b1
     by_cases b2 : okI (gt R i) = true
     ·
      skip
      skip
      refine Tr.w hcx [] [some 52,some 53,some 54,some 55,some 56,some 57,some 58,some 59] [] rfl rfl rfl ?_ X_fc54
      refine Tr.cF rfl ?_
      refine Tr.skip ?_
      refine hK4 _ ?_
      refine Tr.k [46,47,48] ?_
      refine Tr.m1 hcx [] ?_
      refine Tr.v hcx [] _ [] rfl rfl rfl ?_ X_fc54
      exact ⟨i + 1,⟨⟨by omega,fun j hj => (Nat.lt_or_eq_of_le (Nat.le_of_lt_succ hj)).elim (hA j) (fun e => e ▸ okR_2 b2)⟩,O1⟩,LT,rfl⟩
     replace b2 := (Bool.not_eq_true _).mp b2
     skip
     refine Tr.w hcx [] [some 52,some 53,some 54,some 55,some 56,some 57,some 58,some 59] [] rfl rfl rfl ?_ X_fc54
     refine Tr.cT rfl ?_
     have hR := h7 (all_gtF hc49 (okR_F b1o b2))
     refine Tr.w hcx [] _ [] rfl rfl rfl ?_ X_fc54
     exact Tr.ret F_fc54
    refine Tr.exit ?_
    refine hK2 _ ?_
    obtain rfl : i = R.length := by omega
    have hR := hT (all_gt hA)
    refine Tr.w hcx [] _ [] rfl rfl rfl ?_ X_fc54
    exact Tr.ret F_fc54
   have a6o := a6
   replace a6 := eq_false a6
   skip
   refine Tr.wD hcx hMO [1000044] [some 31,some 32,some 33,some 34,some 35,some 36,some 37,some 38,some 39,some 40,some 41,some 42,some 43,some 44,some 30] [] rfl rfl rfl rfl ?_ Y_fc54
   refine Tr.k [1,30] ?_
   refine Tr.cT rfl ?_
   have hR := ordP_6 a6o
   refine Tr.w hcx [] _ [] rfl rfl rfl ?_ X_fc54
   exact Tr.ret F_fc54
  have a5o := a5
  replace a5 := eq_false a5
  have a6 := True.intro
  refine Tr.wD hcx hMO [1000044] [some 31,some 32,some 33,some 34,some 35,some 36,some 37,some 38,some 39,some 40,some 41,some 42,some 43,some 44,some 30] [] rfl rfl rfl rfl ?_ Y_fc54
  refine Tr.k [1,30] ?_
  refine Tr.cT rfl ?_
  have hR := ordP_5 a5o
  refine Tr.w hcx [] _ [] rfl rfl rfl ?_ X_fc54
  exact Tr.ret F_fc54
 replace a0 := (Bool.not_eq_true _).mp a0
 have a1 := True.intro
 have a2 := True.intro
 have a3 := True.intro
 have a4 := True.intro
 refine Tr.w hcx [1000029] [some 6,some 7,some 8,some 9,some 10,some 11,some 12,some 13,some 14,some 15,some 16,some 17,some 18,some 19,some 20,some 21,some 22,some 23,some 24,some 25,some 26,some 27,some 28,some 29,some 5] [] rfl rfl rfl ?_ X_fc54
 refine Tr.cT rfl ?_
 have hR := ordP_0 a0
 refine Tr.w hcx [] _ [] rfl rfl rfl ?_ X_fc54
 refine Tr.k [2] ?_
 exact Tr.ret F_fc54
end Go.Sx
namespace Go.Sx
open Go.RowKit Go.Proofs
set_option maxRecDepth 100000
set_option maxHeartbeats 8000000
def largeW (w : Wrk) : Bool := decide (8 < w.length) || w.any (fun V => decide (64 < V.length)) || decide (1024 < (alW w).length)
theorem largeW_1 {w : Wrk} (h : 8 < w.length) : largeW w = true := by unfold largeW; rw [decide_eq_true h]; rfl
theorem any_gt {α : Type} [Inhabited α] {l : List α} {p : α → Bool} {j : Nat} (hj : j < l.length) (h : p (gt l j) = true) : l.any p = true := by
  rw [List.any_eq_true]
  exact ⟨_,List.getElem_mem hj,by simpa [gt,List.getD,List.getElem?_eq_getElem hj] using h⟩
theorem any_gtF {α : Type} [Inhabited α] {l : List α} {p : α → Bool} (h : ∀ j,j < l.length → p (gt l j) = false) : l.any p = false := by
  rw [List.any_eq_false]
  intro x hx
  obtain ⟨j,hj,rfl⟩ := List.getElem_of_mem hx
  have := h j hj
  simpa [gt,List.getD,List.getElem?_eq_getElem hj] using this
theorem largeW_2 {w : Wrk} {j : Nat} (hj : j < w.length) (h : 64 < (gt w j).length) : largeW w = true := by unfold largeW; rw [any_gt hj (decide_eq_true h)]; simp
theorem largeW_3 {w : Wrk} (h : ¬ 8 < w.length) (h2 : ∀ j,j < w.length → ¬ 64 < (gt w j).length) : largeW w = decide (1024 < (alW w).length) := by
  have h3 : w.any (fun V => decide (64 < V.length)) = false := any_gtF fun j hj => decide_eq_false (h2 j hj)
  unfold largeW; rw [decide_eq_false h,h3]; rfl
def titW (w : Wrk) : Bool := w.all fun V => V.all fun A => titA A.1
theorem titA_T {s : List UInt8} (h : validE s = 0) (h2 : (marksT s).length = 0) : titA s = true := by unfold titA; rw [decide_eq_true h,decide_eq_true h2]; rfl
theorem titA_F {s : List UInt8} (h : ¬ (validE s = 0 ∧ (marksT s).length = 0)) : titA s = false := by
  unfold titA
  by_cases h1 : validE s = 0
  · rw [decide_eq_false (fun e => h ⟨h1,e⟩)]; simp
  · rw [decide_eq_false h1]; rfl
theorem lay1_n31 (a : Nat) : lay1 (cl nC (List.replicate 3 0)) [(0,.val (nI a))] = some (vp (.agg [.val (nI a),.val (nI 0),.val (nI 0)])) := rfl
theorem lay1_n33 (a b c : Nat) : lay1 (cl nC (List.replicate 3 0)) [(0,.val (nI a)),(1,.val (nI b)),(2,.val (nI c))] = some (vp (.agg [.val (nI a),.val (nI b),.val (nI c)])) := rfl
attribute [go_sem high] lay1_n31 lay1_n33
def nA (w : Wrk) (v : Nat) : Nat := ((w.take v).flatten).length
theorem nA_S (w : Wrk) (v : Nat) (h : v < w.length) : nA w (v + 1) = nA w v + (gt w v).length := by
  unfold nA; rw [← take_sn w v h,List.flatten_append,List.length_append]; simp
theorem nA_le (w : Wrk) (v : Nat) : nA w v ≤ nA w w.length := by
  unfold nA
  rw [List.take_length]
  conv => rhs; rw [← List.take_append_drop v w]
  rw [List.flatten_append,List.length_append]; omega
theorem X_fc52 {p : Prop} (e : p := by intro KZ hZ; simp -implicitDefEqProofs (disch := first | omega | (simp only [go_sem,lA,lD,lT,hVl] <;> omega) | decide) only [go_sem,↓reduceIte,Nat.reduceEqDiff,reduceCtorEq,Nat.reduceLT,Nat.reduceBEq,Nat.reduceAdd,hVV,hy]; with_reducible exact hZ) : p := e
theorem F_fc52 {p : Prop} (e : p := by simp -implicitDefEqProofs (disch := first | omega | (simp only [go_sem,lA,lD,lT,hVl] <;> omega) | decide) only [go_sem,↓reduceIte,Nat.reduceEqDiff,reduceCtorEq]; all_goals (rw [hR])) : p := e
theorem fc52 {gl : Nat → C} {M : Nat} {pu : Nat → List C → Option C} (hcx : CxOK (cxP gl M pu)) (w : Wrk) (hw : WS w) : FC Tryd.prog gl 52 [.agg [sl vC .no w]] [] (.val (.bool (largeW w))) [] := by
 replace hcx := hcx.reN (M := 39)
 refine FC.ofA (cx := cxP gl 39 pu) (rs := [.tmp 2]) rfl Tryd.func52 rfl rfl rfl (by simp only [List.length_cons,List.length_nil]; decide) (by simp only [go_sem]) ?_
 simp only [ini,go_sem]
 have hy := True.intro
 have hw1 := hw.1.1
 have hal := alW_len w
 have hw2 := hw.2.1
 have hVV := True.intro
 have hVl := True.intro
 refine Tr.w hcx [] _ [none] rfl rfl rfl ?_ X_fc52
 refine Tr.seqK fun K1 hK1 => ?_
 refine Tr.w hcx [] _ [] rfl rfl rfl ?_ X_fc52
 refine Tr.cD rfl (fun hc11 => ?_) (fun hc11 => ?_)
 ·
  have hR := largeW_1 hc11
  refine Tr.w hcx [] _ [] rfl rfl rfl ?_ X_fc52
  exact Tr.ret F_fc52
 refine Tr.skip ?_
 refine hK1 _ ?_
 refine Tr.w hcx [] _ [] rfl rfl rfl ?_ X_fc52
 refine Tr.seqK fun K2 hK2 => ?_
 refine Tr.w hcx [] _ [] rfl rfl rfl ?_ X_fc52
 refine Tr.k [3,13,14,15] ?_
 refine Tr.blk ?_
 refine Tr.k [3,13,14,15] ?_
 refine Tr.m1 hcx [] ?_
 refine Tr.loopI (α := Nat) (fun a => [(3,.val (nI (pV w a).length)),(13,?v13_1),(14,?v14_1),(15,.val (nI a))]) (fun a => []) (fun a => a ≤ w.length ∧ ∀ j,j < a → ¬ 64 < (gt w j).length) (fun a => w.length - a) (0) ⟨Nat.zero_le _,fun j hj => absurd hj (Nat.not_lt_zero j)⟩ ?le_1 ?hh_1 ?bd_1
 case hh_1 => exact rfl
 case le_1 => exact LT
 rintro v ⟨hv,hA⟩
 have hp := pV_le w v
 refine Tr.w hcx [] _ [] rfl rfl rfl ?_ X_fc52
 refine Tr.seqK fun K3 hK3 => ?_
 refine Tr.cD rfl (fun hc16 => ?_) (fun hc16 => ?_)
 ·
  obtain ⟨V,hV⟩ : ∃ V,gt w v = V := ⟨_,rfl⟩
  have hVV := hV
  have hVl := hw.1.2.1 v hc16
  have hAl := hw.1.2.2 v
  have hpS := pV_S w v hc16
  rw [hV] at hVl hAl hpS
  have hpS := congrArg List.length hpS
  rw [List.length_append] at hpS
  refine Tr.skip ?_
  refine hK3 _ ?_
  refine Tr.seqK fun K4 hK4 => ?_
  refine Tr.blk ?_
  refine Tr.w hcx [] _ [none] rfl rfl rfl ?_ X_fc52
  refine Tr.seqK fun K5 hK5 => ?_
  refine Tr.w hcx [] _ [] rfl rfl rfl ?_ X_fc52
  refine Tr.cD rfl (fun hc22 => ?_) (fun hc22 => ?_)
  ·
   have hR := largeW_2 hc16 (by rw [hV]; exact hc22)
   refine Tr.w hcx [] _ [] rfl rfl rfl ?_ X_fc52
   exact Tr.ret F_fc52
  refine Tr.skip ?_
  refine hK5 _ ?_
  refine Tr.w hcx [] _ [] rfl rfl rfl ?_ X_fc52
  refine Tr.k [3,13,14,15,24,25,26] ?_
  refine Tr.blk ?_
  refine Tr.k [3,13,14,15,24,25,26] ?_
  refine Tr.m1 hcx [] ?_
  refine Tr.loopI (α := Nat) (fun a => [(3,.val (nI ((pV w v).length + (pA V a).length))),(13,?v13_2),(14,?v14_2),(15,?v15_2),(24,?v24_2),(25,?v25_2),(26,.val (nI a))]) (fun a => []) (fun a => a ≤ V.length) (fun a => V.length - a) (0) (Nat.zero_le _) ?le_2 ?hh_2 ?bd_2
  case hh_2 => exact rfl
  case le_2 => (simp only [Le_nil,Le_cons,↓A_cons,↓reduceIte,Nat.reduceEqDiff,CLe_refl,CLe_top,CLe_full,CLe_nil,CLe_own,and_true,true_and]; all_goals (repeat' first | exact CLe.refl _ | exact True.intro | (refine CLe_sln ?_; first | rfl | (simp only [List.take_zero]; done)) | exact CLe_nI (by omega) | exact CLe_int (by omega) | exact CLe_inI (by omega) | exact CLe_nIi (by omega) | with_reducible apply And.intro)); all_goals first | exact CLe.refl _ | exact CLe_nI (by show _ = _ + (pA V 0).length; rfl)
  rintro k hk
  have hp2 := pVA_le w v (k + 1) hc16
  rw [hV] at hp2
  refine Tr.w hcx [] _ [] rfl rfl rfl ?_ X_fc52
  refine Tr.seqK fun K6 hK6 => ?_
  refine Tr.cD rfl (fun hc27 => ?_) (fun hc27 => ?_)
  ·
   have hAk := hAl k hc16 hc27
   have hpA := congrArg List.length (pA_S V k hc27)
   rw [List.length_append] at hpA
   refine Tr.skip ?_
   refine hK6 _ ?_
   refine Tr.seqK fun K7 hK7 => ?_
   refine Tr.blk ?_
   refine Tr.w hcx [] _ [none] rfl rfl rfl ?_ X_fc52
   refine Tr.v hcx [1000034] _ [] rfl rfl rfl ?_ X_fc52
   refine hK7 _ ?_
   refine Tr.k [3,13,14,15,24,25,26] ?_
   refine Tr.m1 hcx [] ?_
   refine Tr.v hcx [] _ [] rfl rfl rfl ?_ X_fc52
   refine ⟨k + 1,⟨(by omega),O1⟩,?_,rfl⟩
   (simp only [Le_nil,Le_cons,↓A_cons,↓reduceIte,Nat.reduceEqDiff,CLe_refl,CLe_top,CLe_full,CLe_nil,CLe_own,and_true,true_and]; all_goals (repeat' first | exact CLe.refl _ | exact True.intro | (refine CLe_sln ?_; first | rfl | (simp only [List.take_zero]; done)) | exact CLe_nI (by omega) | exact CLe_int (by omega) | exact CLe_inI (by omega) | exact CLe_nIi (by omega) | with_reducible apply And.intro))
   all_goals first | exact CLe_nI (by omega) | exact CLe.refl _
  refine Tr.exit ?_
  refine hK4 _ ?_
  obtain rfl : k = V.length := by omega
  refine Tr.v hcx [] _ [] rfl rfl rfl ?_ X_fc52
  refine ⟨v + 1,⟨⟨by omega,fun j hj => (Nat.lt_or_eq_of_le (Nat.le_of_lt_succ hj)).elim (hA j) (fun e => by subst e; rw [hV]; exact hc22)⟩,O1⟩,?_,rfl⟩
  (simp only [Le_nil,Le_cons,↓A_cons,↓reduceIte,Nat.reduceEqDiff,CLe_refl,CLe_top,CLe_full,CLe_nil,CLe_own,and_true,true_and]; all_goals (repeat' first | exact CLe.refl _ | exact True.intro | (refine CLe_sln ?_; first | rfl | (simp only [List.take_zero]; done)) | exact CLe_nI (by omega) | exact CLe_int (by omega) | exact CLe_inI (by omega) | exact CLe_nIi (by omega) | with_reducible apply And.intro))
  all_goals first | exact CLe_nI (by omega) | exact CLe.refl _
 refine Tr.exit ?_
 refine hK2 _ ?_
 obtain rfl : v = w.length := by omega
 have hR := largeW_3 hc11 hA
 rw [← alW_eq]
 refine Tr.w hcx [1000038] _ [] rfl rfl rfl ?_ X_fc52
 exact Tr.ret F_fc52
theorem X_fc55 {p : Prop} (e : p := by intro KZ hZ; simp -implicitDefEqProofs (disch := first | omega | (simp only [go_sem,lA,lD,lT,hVl,hm] <;> omega) | decide) only [go_sem,↓reduceIte,Nat.reduceEqDiff,reduceCtorEq,Nat.reduceLT,Nat.reduceBEq,Nat.reduceAdd,hVV,e15,e16,b1,b2,hy]; with_reducible exact hZ) : p := e
theorem F_fc55 {p : Prop} (e : p := by simp -implicitDefEqProofs (disch := first | omega | (simp only [go_sem,lA,lD,lT,hVl,hm] <;> omega) | decide) only [go_sem,↓reduceIte,Nat.reduceEqDiff,reduceCtorEq]; all_goals (rw [hR])) : p := e
theorem fc55 {gl : Nat → C} {M : Nat} {pu : Nat → List C → Option C} (hcx : CxOK (cxP gl M pu)) (h15 : ∀ s : List UInt8,s.length ≤ 1000000 → pu 15 [.val (str s)] = some (.val (nI (validE s)))) (h16 : ∀ s : List UInt8,s.length ≤ 1000000 → pu 16 [.val (str s)] = some (sl nC (.own 1) (marksT s))) (w : Wrk) (hw : WB w) (ht : ∀ v a,v < w.length → a < (gt w v).length → (gt (gt w v) a).1.length ≤ 1000000) : FC Tryd.prog gl 55 [.agg [sl vC .no w]] [] (.val (.bool (titW w))) [] := by
 replace hcx := hcx.reN (M := 34)
 refine FC.ofA (cx := cxP gl 34 pu) (rs := [.tmp 2]) rfl Tryd.func55 rfl rfl rfl (by simp only [List.length_cons,List.length_nil]; decide) (by simp only [go_sem]) ?_
 simp only [ini,go_sem]
 have b1 := True.intro
 have b2 := True.intro
 have hy := True.intro
 have hw1 := hw.1
 have hVV := True.intro
 have hVl := True.intro
 have hm := True.intro
 have e15 := True.intro
 have e16 := True.intro
 refine Tr.w hcx [] _ [none] rfl rfl rfl ?_ X_fc55
 refine Tr.seqK fun K1 hK1 => ?_
 refine Tr.w hcx [] _ [] rfl rfl rfl ?_ X_fc55
 refine Tr.k [8,9,10] ?_
 refine Tr.blk ?_
 refine Tr.k [8,9,10] ?_
 refine Tr.m1 hcx [] ?_
 refine Tr.loopI (α := Nat) (fun a => [(8,?v8_1),(9,?v9_1),(10,.val (nI a))]) (fun a => []) (fun a => a ≤ w.length ∧ ∀ j,j < a → (gt w j).all (fun A => titA A.1) = true) (fun a => w.length - a) (0) ⟨Nat.zero_le _,fun j hj => absurd hj (Nat.not_lt_zero j)⟩ ?le_1 ?hh_1 ?bd_1
 case hh_1 => exact rfl
 case le_1 => exact LT
 rintro v ⟨hv,hA⟩
 refine Tr.w hcx [] _ [] rfl rfl rfl ?_ X_fc55
 refine Tr.seqK fun K2 hK2 => ?_
 refine Tr.cD rfl (fun hc11 => ?_) (fun hc11 => ?_)
 ·
  obtain ⟨V,hV⟩ : ∃ V,gt w v = V := ⟨_,rfl⟩
  have hVV := hV
  have hVl := hw.2.1 v hc11
  have htv := ht v
  rw [hV] at hVl htv
  refine Tr.skip ?_
  refine hK2 _ ?_
  refine Tr.seqK fun K3 hK3 => ?_
  refine Tr.blk ?_
  refine Tr.w hcx [] _ [none] rfl rfl rfl ?_ X_fc55
  refine Tr.w hcx [] _ [] rfl rfl rfl ?_ X_fc55
  refine Tr.k [8,9,10,15,16,17] ?_
  refine Tr.blk ?_
  refine Tr.k [8,9,10,15,16,17] ?_
  refine Tr.m1 hcx [] ?_
  refine Tr.loopI (α := Nat) (fun a => [(8,?v8_2),(9,?v9_2),(10,?v10_2),(15,?v15_2),(16,?v16_2),(17,.val (nI a))]) (fun a => []) (fun a => a ≤ V.length ∧ ∀ j,j < a → titA (gt V j).1 = true) (fun a => V.length - a) (0) ⟨Nat.zero_le _,fun j hj => absurd hj (Nat.not_lt_zero j)⟩ ?le_2 ?hh_2 ?bd_2
  case hh_2 => exact rfl
  case le_2 => exact LT
  rintro k ⟨hk,hB⟩
  refine Tr.w hcx [] _ [] rfl rfl rfl ?_ X_fc55
  refine Tr.seqK fun K4 hK4 => ?_
  refine Tr.cD rfl (fun hc18 => ?_) (fun hc18 => ?_)
  ·
   have htk := htv k hc11 hc18
   have e15 := h15 _ htk
   have e16 := h16 _ htk
   have hm := marks_len (gt V k).1
   refine Tr.skip ?_
   refine hK4 _ ?_
   refine Tr.seqK fun K5 hK5 => ?_
   refine Tr.blk ?_
   refine Tr.w hcx [] _ [none] rfl rfl rfl ?_ X_fc55
   by_cases b1 : validE (gt V k).1 = 0
   ·
    have b1o := b1
    replace b1 := eq_true b1
    by_cases b2 : (marksT (gt V k).1).length = 0
    ·
     have b2o := b2
     replace b2 := b2
     skip
     refine Tr.w hcx [] [some 21,some 22,some 23,some 24,some 25,some 26,some 27,some 28,some 29,some 30,some 31] [] rfl rfl rfl ?_ X_fc55
     refine Tr.cF rfl ?_
     refine Tr.skip ?_
     refine hK5 _ ?_
     refine Tr.k [8,9,10,15,16,17] ?_
     refine Tr.m1 hcx [] ?_
     refine Tr.v hcx [] _ [] rfl rfl rfl ?_ X_fc55
     exact ⟨k + 1,⟨⟨by omega,fun j hj => (Nat.lt_or_eq_of_le (Nat.le_of_lt_succ hj)).elim (hB j) (fun e => by subst e; exact titA_T b1o b2o)⟩,O1⟩,LT,rfl⟩
    have b2o := b2
    have b2 : 0 < (marksT (gt V k).1).length := by omega
    skip
    refine Tr.w hcx [] [some 21,some 22,some 23,some 24,some 25,some 26,some 27,some 28,some 29,some 30,some 31] [] rfl rfl rfl ?_ X_fc55
    refine Tr.cT rfl ?_
    have hR : titW w = false := all_gtF hc11 (by rw [hV]; exact all_gtF hc18 (titA_F (fun h => b2o h.2)))
    refine Tr.w hcx [] _ [] rfl rfl rfl ?_ X_fc55
    exact Tr.ret F_fc55
   have b1o := b1
   replace b1 := eq_false b1
   have b2 := True.intro
   refine Tr.w hcx [] [some 21,some 22,some 23,some 24,some 25,some 26,some 27,some 28,some 29,some 30,some 31] [] rfl rfl rfl ?_ X_fc55
   refine Tr.cT rfl ?_
   have hR : titW w = false := all_gtF hc11 (by rw [hV]; exact all_gtF hc18 (titA_F (fun h => b1o h.1)))
   refine Tr.w hcx [] _ [] rfl rfl rfl ?_ X_fc55
   exact Tr.ret F_fc55
  refine Tr.exit ?_
  refine hK3 _ ?_
  obtain rfl : k = V.length := by omega
  refine Tr.v hcx [] _ [] rfl rfl rfl ?_ X_fc55
  exact ⟨v + 1,⟨⟨by omega,fun j hj => (Nat.lt_or_eq_of_le (Nat.le_of_lt_succ hj)).elim (hA j) (fun e => by subst e; rw [hV]; exact all_gt hB)⟩,O1⟩,LT,rfl⟩
 refine Tr.exit ?_
 refine hK1 _ ?_
 obtain rfl : v = w.length := by omega
 have hR : titW w = true := all_gt hA
 refine Tr.w hcx [] _ [] rfl rfl rfl ?_ X_fc55
 exact Tr.ret F_fc55
theorem X_fc25 {p : Prop} (e : p := by intro KZ hZ; simp -implicitDefEqProofs (disch := first | omega | (simp only [go_sem,lA,lD,lT,hVl] <;> omega) | decide) only [go_sem,↓reduceIte,Nat.reduceEqDiff,reduceCtorEq,Nat.reduceLT,Nat.reduceBEq,Nat.reduceAdd,hVV,hy]; with_reducible exact hZ) : p := e
theorem F_fc25 {p : Prop} (e : p := by simp -implicitDefEqProofs (disch := first | omega | (simp only [go_sem,lA,lD,lT,hVl] <;> omega) | decide) only [go_sem,↓reduceIte,Nat.reduceEqDiff,reduceCtorEq]; all_goals (rfl)) : p := e
theorem fc25 {gl : Nat → C} {M : Nat} {pu : Nat → List C → Option C} (hcx : CxOK (cxP gl M pu)) (w : Wrk) (hw : WS w) (hn : nA w w.length ≤ 1000000) : FC Tryd.prog gl 25 [.agg [sl vC .no w]] [] (.agg [.val (nI w.length),.val (nI (nA w w.length)),.val (nI (alW w).length)]) [] := by
 replace hcx := hcx.reN (M := 43)
 refine FC.ofA (cx := cxP gl 43 pu) (rs := [.cell 2 53]) rfl Tryd.func25 rfl rfl rfl (by simp only [List.length_cons,List.length_nil]; decide) (by simp only [go_sem]) ?_
 simp only [ini,go_sem]
 have hy := True.intro
 have hw1 := hw.1.1
 have hal := alW_len w
 have hw2 := hw.2.1
 have hVV := True.intro
 have hVl := True.intro
 refine Tr.w hcx [] _ [none,none] rfl rfl rfl ?_ X_fc25
 refine Tr.w hcx [] _ [none] rfl rfl rfl ?_ X_fc25
 refine Tr.seqK fun K1 hK1 => ?_
 refine Tr.w hcx [] _ [] rfl rfl rfl ?_ X_fc25
 refine Tr.k [2,3,13,14,15] ?_
 refine Tr.blk ?_
 refine Tr.k [2,3,13,14,15] ?_
 refine Tr.m1 hcx [1,2] ?_
 refine Tr.loopI (α := Nat) (fun a => [(2,?v2_1),(3,?v3_1),(13,?v13_1),(14,?v14_1),(15,.val (nI a))]) (fun a => [some (cl nC (List.replicate 3 0)),some [.val (nI w.length),.val (nI (nA w a)),.val (nI (pV w a).length)]]) (fun a => a ≤ w.length) (fun a => w.length - a) (0) (Nat.zero_le _) ?le_1 ?hh_1 ?bd_1
 case hh_1 => exact rfl
 case le_1 => exact LT
 rintro v hv
 have hp := pV_le w v
 have hn1 := nA_le w v
 have hn2 := nA_le w (v + 1)
 refine Tr.w hcx [] _ [] rfl rfl rfl ?_ X_fc25
 refine Tr.seqK fun K2 hK2 => ?_
 refine Tr.cD rfl (fun hc16 => ?_) (fun hc16 => ?_)
 ·
  obtain ⟨V,hV⟩ : ∃ V,gt w v = V := ⟨_,rfl⟩
  have hVV := hV
  have hVl := hw.1.2.1 v hc16
  have hAl := hw.1.2.2 v
  have hpS := pV_S w v hc16
  have hnS := nA_S w v hc16
  rw [hV] at hVl hAl hpS hnS
  have hpS := congrArg List.length hpS
  rw [List.length_append] at hpS
  refine Tr.skip ?_
  refine hK2 _ ?_
  refine Tr.seqK fun K3 hK3 => ?_
  refine Tr.blk ?_
  refine Tr.w hcx [] _ [none] rfl rfl rfl ?_ X_fc25
  refine Tr.w hcx [] _ [] rfl rfl rfl ?_ X_fc25
  refine Tr.w hcx [] _ [] rfl rfl rfl ?_ X_fc25
  refine Tr.k [2,3,13,14,15,27,28,29] ?_
  refine Tr.blk ?_
  refine Tr.k [2,3,13,14,15,27,28,29] ?_
  refine Tr.m1 hcx [0,1] ?_
  refine Tr.loopI (α := Nat) (fun a => [(2,?v2_2),(3,?v3_2),(13,?v13_2),(14,?v14_2),(15,?v15_2),(27,?v27_2),(28,?v28_2),(29,.val (nI a))]) (fun a => [some (cl nC (List.replicate 3 0)),some [.val (nI w.length),.val (nI (nA w v + V.length)),.val (nI ((pV w v).length + (pA V a).length))]]) (fun a => a ≤ V.length) (fun a => V.length - a) (0) (Nat.zero_le _) ?le_2 ?hh_2 ?bd_2
  case hh_2 => exact rfl
  case le_2 => exact LT
  rintro k hk
  have hp2 := pVA_le w v (k + 1) hc16
  rw [hV] at hp2
  refine Tr.w hcx [] _ [] rfl rfl rfl ?_ X_fc25
  refine Tr.seqK fun K4 hK4 => ?_
  refine Tr.cD rfl (fun hc30 => ?_) (fun hc30 => ?_)
  ·
   have hAk := hAl k hc16 hc30
   have hpA := congrArg List.length (pA_S V k hc30)
   rw [List.length_append] at hpA
   refine Tr.skip ?_
   refine hK4 _ ?_
   refine Tr.seqK fun K5 hK5 => ?_
   refine Tr.blk ?_
   refine Tr.w hcx [] _ [none] rfl rfl rfl ?_ X_fc25
   refine Tr.v hcx [] _ [] rfl rfl rfl ?_ X_fc25
   refine hK5 _ ?_
   refine Tr.k [2,3,13,14,15,27,28,29] ?_
   refine Tr.m1 hcx [0,1] ?_
   refine Tr.v hcx [] _ [] rfl rfl rfl ?_ X_fc25
   exact ⟨k + 1,⟨(by omega),O1⟩,LT,by simp only [hpA,Nat.add_assoc]⟩
  refine Tr.exit ?_
  refine hK3 _ ?_
  obtain rfl : k = V.length := by omega
  refine Tr.v hcx [] _ [] rfl rfl rfl ?_ X_fc25
  exact ⟨v + 1,⟨(by omega),O1⟩,LT,by simp only [nA_S w v hc16,hpS,hV]⟩
 refine Tr.exit ?_
 refine hK1 _ ?_
 obtain rfl : v = w.length := by omega
 rw [← alW_eq]
 refine Tr.w hcx [] _ [] rfl rfl rfl ?_ X_fc25
 exact Tr.ret F_fc25
end Go.Sx
