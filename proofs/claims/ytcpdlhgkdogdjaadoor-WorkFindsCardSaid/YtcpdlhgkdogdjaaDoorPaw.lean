/-
   And what follows.
-/
import Derived.Test.YtcpdlhgkdogdjaaDoorPav
import Derived.Test.YtcpdlhgkdogdjaaDoorPar
set_option linter.unusedSimpArgs false
set_option linter.unusedVariables false
namespace Go.Sx
open Go.RowKit Go.Proofs
set_option maxRecDepth 100000
set_option maxHeartbeats 8000000
set_option maxRecDepth 100000
theorem rda_wk (l : List Wrk) (i : Nat) (h : i < l.length) : rda ((cl wkC l).drop i) 0 1 = some (.agg [sl vC .no (gt l i)]) := by
  have e : (cl wkC l).drop i = cl wkC (l.drop i) := by
    have := cl_drop (f := wkC) l i
    rw [Nat.mul_one] at this; exact this
  rw [e,List.drop_eq_getElem_cons h,cl_cons]
  have : gt l i = l[i] := by simp [gt,List.getD,List.getElem?_eq_getElem h]
  rw [this]
  rfl
attribute [go_sem high] rda_wk
theorem X_fc6 {p : Prop} (e : p := by intro KZ hZ; simp -implicitDefEqProofs (maxSteps := 2000000) (disch := first | omega | (simp only [go_sem,lA,lD,lT,works_ln,spots_ln,hI] <;> omega) | decide) only [go_sem,↓reduceIte,Nat.reduceEqDiff,reduceCtorEq,Nat.reduceLT,Nat.reduceBEq,Nat.reduceAdd,e11,e22,e32,e33,e34,e35,e36,h19,h17,e7a,e7b,e7c,hy]; with_reducible exact hZ) : p := e
theorem Y_fc6 {p : Prop} (e : p := by intro KZ hZ; simp -implicitDefEqProofs (maxSteps := 2000000) (disch := first | omega | (simp only [go_sem,lA,lD,lT,works_ln,spots_ln,hI] <;> omega) | decide) only [go_sem,↓reduceIte,Nat.reduceEqDiff,reduceCtorEq,Nat.reduceLT,Nat.reduceBEq,Nat.reduceAdd,e11,e22,e32,e33,e34,e35,e36,h19,h17,e7a,e7b,e7c,hy]; with_reducible refine And.intro ?_ hZ; first | exact rfl | decide) : p := e
theorem F_fc6 {p : Prop} (e : p := by simp -implicitDefEqProofs (disch := first | omega | (simp only [go_sem,lA,lD,lT,works_ln,spots_ln,hI] <;> omega) | decide) only [go_sem,↓reduceIte,Nat.reduceEqDiff,reduceCtorEq]; all_goals (rfl)) : p := e
theorem fc6 {gl : Nat → C} {M : Nat} {pu : Nat → List C → Option C} (hcx : CxOK (cxP gl M pu)) (h11 : ∀ (l : List Int) (how y : Int),LI l → (-9223372036854775808 ≤ how ∧ how ≤ 9223372036854775807) → (-9223372036854775808 ≤ y ∧ y ≤ 9223372036854775807) → pu 11 [sl iC .no l,.val (.int .i64 how),.val (.int .i64 y)] = some (sl wkC .full (worksW l how y))) (h22 : ∀ (w : Wrk) (m : List Int),WS w → LI m → pu 22 [.agg [sl vC .no w],sl iC .no m] = some (sl iD (.own 3) (idsW w m))) (h32 : ∀ (w : Wrk) (id : ID),WB w → pu 32 [.agg [sl vC .no w],.agg (iD id)] = some (.tup [.agg [.val (nI (fnd w id).1.1),.val (nI (fnd w id).1.2.1),.val (nI (fnd w id).1.2.2)],.val (.bool (fnd w id).2)])) (h33 : ∀ (w : Wrk) (id : ID),WB w → pu 33 [.agg [sl vC .no w],.agg (iD id)] = some (.tup [.agg [.val (nI (fnd w id).1.1),.val (nI (fnd w id).1.2.1),.val (nI (fnd w id).1.2.2)],.val (.bool (fnd w id).2)])) (h34 : ∀ (w : Wrk) (s : ID),WG w → pu 34 [.agg [sl vC .no w],.agg (iD s)] = some (.tup [.agg (pC (atW w s).1),.val (.bool (atW w s).2)])) (h35 : ∀ (w : Wrk) (s : ID),WB w → pu 35 [.agg [sl vC .no w],.agg (iD s)] = some (.tup [.agg (pC (atW w s).1),.val (.bool (atW w s).2)])) (h36 : ∀ a b : Psg,a.2.2.2.2.length ≤ 1000000 → b.2.2.2.2.length ≤ 1000000 → pu 36 [.agg (pC a),.agg (pC b)] = some (.val (.bool (decide (a = b))))) (h19 : ∀ (n : Int) (m : Nat),-9223372036854775808 ≤ n ∧ n ≤ 9223372036854775807 ∧ 0 < m ∧ m ≤ 9223372036854775807 → pu 19 [.val (.int .i64 n),.val (nI m)] = some (.val (nI (aroundI n m)))) (h17 : pu 17 [] = some (.val (.bool true))) (l : List Int) (how y : Int) (m : List Int) (s : ID) (hl : LI l) (hho : (-9223372036854775808 ≤ how ∧ how ≤ 9223372036854775807)) (hy0 : (-9223372036854775808 ≤ y ∧ y ≤ 9223372036854775807)) (hm : LI m) (hs : (-9223372036854775808 ≤ s.1 ∧ s.1 ≤ 9223372036854775807) ∧ (-9223372036854775808 ≤ s.2.1 ∧ s.2.1 ≤ 9223372036854775807) ∧ (-9223372036854775808 ≤ s.2.2 ∧ s.2.2 ≤ 9223372036854775807)) : FC Tryd.prog gl 6 [sl iC .no l,.val (.int .i64 how),.val (.int .i64 y),sl iC .no m,.agg (iD s)] [] (.val (.bool true)) [] := by
 replace hcx := hcx.reN (M := 135)
 refine FC.ofA (cx := cxP gl 135 pu) (rs := [.tmp 10]) rfl Tryd.func6 rfl rfl rfl (by simp only [List.length_cons,List.length_nil]; decide) (by simp only [go_sem]) ?_
 simp only [ini,go_sem]
 have hy := True.intro
 have e11 := h11 l how y hl hho hy0
 have e22 := True.intro
 have e32 := True.intro
 have e33 := True.intro
 have e34 := True.intro
 have e35 := True.intro
 have e36 := True.intro
 have hI := True.intro
 obtain ⟨hs1,hs2,hs3⟩ := hs
 have a4 := around_lt s.1 (m := 4) (by decide)
 have a5 := around_lt s.2.1 (m := 5) (by decide)
 have a6 := around_lt s.2.2 (m := 6) (by decide)
 have e7a : binPlan Tryd.prog .sub 3 (.val (nI (aroundI s.1 4))) (.val (nI 1)) = some (vp (.val (.int .i64 (((aroundI s.1 4 : Nat) : Int) - 1)))) := i_sub _ _ _ _ (by omega)
 have e7b : binPlan Tryd.prog .sub 3 (.val (nI (aroundI s.2.1 5))) (.val (nI 1)) = some (vp (.val (.int .i64 (((aroundI s.2.1 5 : Nat) : Int) - 1)))) := i_sub _ _ _ _ (by omega)
 have e7c : binPlan Tryd.prog .sub 3 (.val (nI (aroundI s.2.2 6))) (.val (nI 1)) = some (vp (.val (.int .i64 (((aroundI s.2.2 6 : Nat) : Int) - 1)))) := i_sub _ _ _ _ (by omega)
 refine Tr.w hcx [] _ [none] rfl rfl rfl ?_ X_fc6
 refine Tr.w hcx [1000028] _ [] rfl rfl rfl ?_ X_fc6
 refine Tr.seqK fun K1 hK1 => ?_
 refine Tr.w hcx [] _ [] rfl rfl rfl ?_ X_fc6
 refine Tr.k [3,9,11,12] ?_
 refine Tr.blk ?_
 refine Tr.loopI (α := Nat) (fun a => [(3,?v3_1),(9,?v9_1),(11,?v11_1),(12,.val (nI a))]) (fun a => [some (iD s)]) (fun a => a ≤ (worksW l how y).length) (fun a => (worksW l how y).length - a) (0) (Nat.zero_le _) ?le_1 ?hh_1 ?bd_1
 case hh_1 => exact rfl
 case le_1 => exact LT
 rintro i hi
 refine Tr.seqK fun K2 hK2 => ?_
 refine Tr.w hcx [] _ [] rfl rfl rfl ?_ X_fc6
 refine Tr.cD rfl (fun hc32 => ?_) (fun hc32 => ?_)
 ·
  have hi4 : i < 4 := by have := hc32; rw [works_ln] at this; exact this
  have hg := works_wg l how y hho hy0 i hc32
  obtain ⟨w,hw⟩ : ∃ w,gt (worksW l how y) i = w := ⟨_,rfl⟩
  rw [hw] at hg
  have e22 := And.intro hw (h22 w m hg.ws hm)
  have hI := (idsW_ok hg m).2
  refine Tr.skip ?_
  refine hK2 _ ?_
  refine Tr.seqK fun K3 hK3 => ?_
  refine Tr.blk ?_
  refine Tr.w hcx [1000040] _ [] rfl rfl rfl ?_ X_fc6
  refine Tr.seqK fun K4 hK4 => ?_
  refine Tr.w hcx [] _ [] rfl rfl rfl ?_ X_fc6
  refine Tr.k [3,9,11,12,13,14] ?_
  refine Tr.blk ?_
  refine Tr.loopI (α := Nat) (fun a => [(3,?v3_2),(9,?v9_2),(11,?v11_2),(12,?v12_2),(13,?v13_2),(14,.val (nI a))]) (fun a => [some (iD s)]) (fun a => a ≤ (idsW w m).length) (fun a => (idsW w m).length - a) (0) (Nat.zero_le _) ?le_2 ?hh_2 ?bd_2
  case hh_2 => exact rfl
  case le_2 => exact LT
  rintro k hk
  refine Tr.seqK fun K5 hK5 => ?_
  refine Tr.w hcx [] _ [] rfl rfl rfl ?_ X_fc6
  refine Tr.cD rfl (fun hc44 => ?_) (fun hc44 => ?_)
  ·
   have e32 := h32 w (gt (idsW w m) k) hg.wb
   have e33 := h33 w (gt (idsW w m) k) hg.wb
   refine Tr.skip ?_
   refine hK5 _ ?_
   refine Tr.seqK fun K6 hK6 => ?_
   refine Tr.blk ?_
   refine Tr.wD hcx hMO [1000058] _ [none] rfl rfl rfl rfl ?_ Y_fc6
   refine Tr.k [3,9,11,12,13,14,15,16] ?_
   refine Tr.wD hcx hMO [1000070] _ [none] rfl rfl rfl rfl ?_ Y_fc6
   refine Tr.k [3,9,11,12,13,14,15,16,17,18] ?_
   refine Tr.w hcx [] [some 71,some 72,some 73,some 74,some 75,some 76,some 77,some 78] [] rfl rfl rfl ?_ X_fc6
   refine Tr.cF rfl ?_
   refine Tr.skip ?_
   refine hK6 _ ?_
   refine Tr.k [3,9,11,12,13,14] ?_
   refine Tr.m1 hcx [0] ?_
   refine Tr.v hcx [1000046] _ [] rfl rfl rfl ?_ X_fc6
   exact ⟨k + 1,⟨(by omega),O1⟩,LT,rfl⟩
  refine Tr.exit ?_
  refine hK4 _ ?_
  refine Tr.k [3,9,11,12] ?_
  refine Tr.wD hcx hMO [1000094] _ [] rfl rfl rfl rfl ?_ Y_fc6
  refine Tr.w hcx [] _ [] rfl rfl rfl ?_ X_fc6
  refine Tr.k [3,9,11,12,19,20] ?_
  refine Tr.blk ?_
  refine Tr.loopI (α := Nat) (fun a => [(3,?v3_3),(9,?v9_3),(11,?v11_3),(12,?v12_3),(19,?v19_3),(20,.val (nI a))]) (fun a => [some (iD s)]) (fun a => a ≤ (spots s (((aroundI s.1 4 : Nat) : Int) - 1) (((aroundI s.2.1 5 : Nat) : Int) - 1) (((aroundI s.2.2 6 : Nat) : Int) - 1)).length) (fun a => (spots s (((aroundI s.1 4 : Nat) : Int) - 1) (((aroundI s.2.1 5 : Nat) : Int) - 1) (((aroundI s.2.2 6 : Nat) : Int) - 1)).length - a) (0) (Nat.zero_le _) ?le_3 ?hh_3 ?bd_3
  case hh_3 => exact rfl
  case le_3 => exact LT
  rintro k hk
  refine Tr.seqK fun K7 hK7 => ?_
  refine Tr.w hcx [] _ [] rfl rfl rfl ?_ X_fc6
  refine Tr.cD rfl (fun hc98 => ?_) (fun hc98 => ?_)
  ·
   have hk3 : k < 3 := by have := hc98; rw [spots_ln] at this; exact this
   have e34 := h34 w (gt (spots s (((aroundI s.1 4 : Nat) : Int) - 1) (((aroundI s.2.1 5 : Nat) : Int) - 1) (((aroundI s.2.2 6 : Nat) : Int) - 1)) k) hg
   have e35 := h35 w (gt (spots s (((aroundI s.1 4 : Nat) : Int) - 1) (((aroundI s.2.1 5 : Nat) : Int) - 1) (((aroundI s.2.2 6 : Nat) : Int) - 1)) k) hg.wb
   have e36 := h36 (atW w (gt (spots s (((aroundI s.1 4 : Nat) : Int) - 1) (((aroundI s.2.1 5 : Nat) : Int) - 1) (((aroundI s.2.2 6 : Nat) : Int) - 1)) k)).1 (atW w (gt (spots s (((aroundI s.1 4 : Nat) : Int) - 1) (((aroundI s.2.1 5 : Nat) : Int) - 1) (((aroundI s.2.2 6 : Nat) : Int) - 1)) k)).1 (atW_refs hg _) (atW_refs hg _)
   refine Tr.skip ?_
   refine hK7 _ ?_
   refine Tr.seqK fun K8 hK8 => ?_
   refine Tr.blk ?_
   refine Tr.wD hcx hMO [1000112] _ [none] rfl rfl rfl rfl ?_ Y_fc6
   refine Tr.k [3,9,11,12,19,20,21,22] ?_
   refine Tr.wD hcx hMO [1000124] _ [none] rfl rfl rfl rfl ?_ Y_fc6
   refine Tr.k [3,9,11,12,19,20,21,22,23,24] ?_
   refine Tr.w hcx [] [some 125,some 126,some 127,some 128,some 129,some 130,some 131,some 132,some 133] [] rfl rfl rfl ?_ X_fc6
   refine Tr.cF rfl ?_
   refine Tr.skip ?_
   refine hK8 _ ?_
   refine Tr.k [3,9,11,12,19,20] ?_
   refine Tr.m1 hcx [0] ?_
   refine Tr.v hcx [1000100] _ [] rfl rfl rfl ?_ X_fc6
   exact ⟨k + 1,⟨(by omega),O1⟩,LT,rfl⟩
  refine Tr.exit ?_
  refine hK3 _ ?_
  refine Tr.v hcx [1000034] _ [] rfl rfl rfl ?_ X_fc6
  exact ⟨i + 1,⟨(by omega),O1⟩,LT,rfl⟩
 refine Tr.exit ?_
 refine hK1 _ ?_
 refine Tr.w hcx [1000134] _ [] rfl rfl rfl ?_ X_fc6
 exact Tr.ret F_fc6
end Go.Sx
namespace Go.Sx
open Go.RowKit Go.Proofs
theorem fc51t {gl : Nat → C} {M : Nat} {pu : Nat → List C → Option C} (hcx : CxOK (cxP gl M pu)) (h19 : ∀ (n : Int) (m : Nat),-9223372036854775808 ≤ n ∧ n ≤ 9223372036854775807 ∧ 0 < m ∧ m ≤ 9223372036854775807 → pu 19 [.val (.int .i64 n),.val (nI m)] = some (.val (nI (aroundI n m)))) (h21 : ∀ (l : List Int) (k : Nat) (id : ID),LI l → k ≤ 900 → pu 21 [sl iC .no l,.val (nI k),.agg (iD id)] = some (.agg (pC (oneP l k id)))) (h33 : ∀ (w : Wrk) (id : ID),WB w → pu 33 [.agg [sl vC .no w],.agg (iD id)] = some (.tup [.agg [.val (nI (fnd w id).1.1),.val (nI (fnd w id).1.2.1),.val (nI (fnd w id).1.2.2)],.val (.bool (fnd w id).2)])) (w : Wrk) (how y : Int) (hw : WG w) (hho : -9223372036854775808 ≤ how ∧ how ≤ 9223372036854775807) (hy0 : -9223372036854775808 ≤ y ∧ y ≤ 9223372036854775807) : FC Tryd.prog gl 51 [.agg [sl vC .no w],.val (.int .i64 how),.val (.int .i64 y)] [] (.agg [sl vC .no (spW w how y)]) [] := by
  exact fc51 hcx h19 h21 h33 w how y hw hho hy0
theorem fc34t {gl : Nat → C} {M : Nat} {pu : Nat → List C → Option C} (hcx : CxOK (cxP gl M pu)) (h68 : ∀ p : Psg,p.2.2.2.2.length ≤ 1000000 → pu 68 [.agg (pC p)] = some (.agg (pC p))) (w : Wrk) (s : ID) (hw : WG w) : FC Tryd.prog gl 34 [.agg [sl vC .no w],.agg (iD s)] [] (.tup [.agg (pC (atW w s).1),.val (.bool (atW w s).2)]) [] := by
  exact fc34 hcx h68 w s hw
theorem fc35t {gl : Nat → C} {M : Nat} {pu : Nat → List C → Option C} (hcx : CxOK (cxP gl M pu)) (w : Wrk) (s : ID) (hw : WB w) : FC Tryd.prog gl 35 [.agg [sl vC .no w],.agg (iD s)] [] (.tup [.agg (pC (atW w s).1),.val (.bool (atW w s).2)]) [] := by
  exact fc35 hcx w s hw
end Go.Sx
