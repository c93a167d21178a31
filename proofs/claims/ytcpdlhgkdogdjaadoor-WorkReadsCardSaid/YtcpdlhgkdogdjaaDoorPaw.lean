/-
  
-/
import Derived.Test.YtcpdlhgkdogdjaaDoorPav
set_option linter.unusedSimpArgs false
set_option linter.unusedVariables false
namespace Go.Sx
open Go.RowKit Go.Proofs
set_option maxRecDepth 100000
set_option maxHeartbeats 8000000
set_option maxRecDepth 100000
theorem X_fc5 {p : Prop} (e : p := by intro KZ hZ; simp -implicitDefEqProofs (maxSteps := 2000000) (disch := first | omega | (simp only [go_sem,lA,lD,lT,works_ln,hI] <;> omega) | decide) only [go_sem,↓reduceIte,Nat.reduceEqDiff,reduceCtorEq,Nat.reduceLT,Nat.reduceBEq,Nat.reduceAdd,e11,e22,e24,e14,e23,e25,e26,e28,e29,e27,e30,e31,h17,hy]; with_reducible exact hZ) : p := e
theorem Y_fc5 {p : Prop} (e : p := by intro KZ hZ; simp -implicitDefEqProofs (maxSteps := 2000000) (disch := first | omega | (simp only [go_sem,lA,lD,lT,works_ln,hI] <;> omega) | decide) only [go_sem,↓reduceIte,Nat.reduceEqDiff,reduceCtorEq,Nat.reduceLT,Nat.reduceBEq,Nat.reduceAdd,e11,e22,e24,e14,e23,e25,e26,e28,e29,e27,e30,e31,h17,hy]; with_reducible refine And.intro ?_ hZ; first | exact rfl | decide) : p := e
theorem F_fc5 {p : Prop} (e : p := by simp -implicitDefEqProofs (disch := first | omega | (simp only [go_sem,lA,lD,lT,works_ln,hI] <;> omega) | decide) only [go_sem,↓reduceIte,Nat.reduceEqDiff,reduceCtorEq]; all_goals (rfl)) : p := e
theorem fc5 {gl : Nat → C} {M : Nat} {pu : Nat → List C → Option C} (hcx : CxOK (cxP gl M pu)) (h11 : ∀ (l : List Int) (how y : Int),LI l → (-9223372036854775808 ≤ how ∧ how ≤ 9223372036854775807) → (-9223372036854775808 ≤ y ∧ y ≤ 9223372036854775807) → pu 11 [sl iC .no l,.val (.int .i64 how),.val (.int .i64 y)] = some (sl wkC .full (worksW l how y))) (h22 : ∀ (w : Wrk) (m : List Int),WS w → LI m → pu 22 [.agg [sl vC .no w],sl iC .no m] = some (sl iD (.own 3) (idsW w m))) (h24 : ∀ w : Wrk,WS w → pu 24 [.agg [sl vC .no w]] = some (sl pC .no (alW w))) (h14 : ∀ w : Wrk,WS w → pu 14 [.agg [sl vC .no w]] = some (sl pC (.own 7) (alW w))) (h23 : ∀ l m : List Psg,l.length ≤ 1000000 → m.length ≤ 1000000 → (∀ i,i < (l).length → (gt (l) i).2.2.2.2.length ≤ 1000000) → (∀ i,i < (m).length → (gt (m) i).2.2.2.2.length ≤ 1000000) → pu 23 [sl pC .no l,sl pC .no m] = some (.val (.bool (decide (l = m))))) (h25 : ∀ w : Wrk,WS w → nA w w.length ≤ 1000000 → pu 25 [.agg [sl vC .no w]] = some (.agg [.val (nI w.length),.val (nI (nA w w.length)),.val (nI (alW w).length)])) (h26 : ∀ w : Wrk,WG w → pu 26 [.agg [sl vC .no w]] = some (.agg [.val (nI w.length),.val (nI (nA w w.length)),.val (nI (alW w).length)])) (h28 : ∀ (w : Wrk) (l : List ID),WS w → (∀ x ∈ l,IdOk x) → l.length ≤ 1000000 → (∀ i,i < (rdW w).length → IdOk (gt (rdW w) i).2.1) → pu 28 [.agg [sl vC .no w],sl iD .no l] = some (sl iD .no (ordS (insL l) (alW w)).2)) (h29 : ∀ (w : Wrk) (m : List ID),WG w → m.length ≤ 1000000 → pu 29 [.agg [sl vC .no w],sl iD .no m] = some (sl iD (.own 3) (ordR m (alW w) (alW w).length))) (h27 : ∀ l m : List ID,l.length ≤ 1000000 → m.length ≤ 1000000 → pu 27 [sl iD .no l,sl iD .no m] = some (.val (.bool (decide (l = m))))) (h30 : ∀ (w : Wrk) (a b : ID),WS w → IdOk a → IdOk b → (∀ i,i < (rdW w).length → IdOk (gt (rdW w) i).2.1) → pu 30 [.agg [sl vC .no w],.agg (iD a),.agg (iD b)] = some (.val (.bool (decide ((ordS (insL [a,b]) (alW w)).2.length = 2 ∧ gt (ordS (insL [a,b]) (alW w)).2 0 = a))))) (h31 : ∀ (w : Wrk) (a b : ID),WG w → pu 31 [.agg [sl vC .no w],.agg (iD a),.agg (iD b)] = some (.val (.bool (decide (0 ≤ ixI (alW w) a ∧ 0 ≤ ixI (alW w) b ∧ ixI (alW w) a < ixI (alW w) b))))) (h17 : pu 17 [] = some (.val (.bool true))) (l : List Int) (how y : Int) (m : List Int) (hl : LI l) (hho : (-9223372036854775808 ≤ how ∧ how ≤ 9223372036854775807)) (hy0 : (-9223372036854775808 ≤ y ∧ y ≤ 9223372036854775807)) (hm : LI m) : FC Tryd.prog gl 5 [sl iC .no l,.val (.int .i64 how),.val (.int .i64 y),sl iC .no m] [] (.val (.bool true)) [] := by
 replace hcx := hcx.reN (M := 104)
 refine FC.ofA (cx := cxP gl 104 pu) (rs := [.tmp 8]) rfl Tryd.func5 rfl rfl rfl (by simp only [List.length_cons,List.length_nil]; decide) (by simp only [go_sem]) ?_
 simp only [ini,go_sem]
 have hy := True.intro
 have e11 := h11 l how y hl hho hy0
 have e22 := True.intro
 have e24 := True.intro
 have e14 := True.intro
 have e23 := True.intro
 have e25 := True.intro
 have e26 := True.intro
 have e28 := True.intro
 have e29 := True.intro
 have e27 := True.intro
 have e30 := True.intro
 have e31 := True.intro
 have hI := True.intro
 refine Tr.w hcx [] _ [] rfl rfl rfl ?_ X_fc5
 refine Tr.w hcx [1000018] _ [] rfl rfl rfl ?_ X_fc5
 refine Tr.seqK fun K1 hK1 => ?_
 refine Tr.w hcx [] _ [] rfl rfl rfl ?_ X_fc5
 refine Tr.k [3,9,10] ?_
 refine Tr.blk ?_
 refine Tr.loopI (α := Nat) (fun a => [(3,?v3_1),(9,?v9_1),(10,.val (nI a))]) (fun a => []) (fun a => a ≤ (worksW l how y).length) (fun a => (worksW l how y).length - a) (0) (Nat.zero_le _) ?le_1 ?hh_1 ?bd_1
 case hh_1 => exact rfl
 case le_1 => exact LT
 rintro i hi
 refine Tr.seqK fun K2 hK2 => ?_
 refine Tr.w hcx [] _ [] rfl rfl rfl ?_ X_fc5
 refine Tr.cD rfl (fun hc22 => ?_) (fun hc22 => ?_)
 ·
  have hi4 : i < 4 := by have := hc22; rw [works_ln] at this; exact this
  have hg := works_wg l how y hho hy0 i hc22
  obtain ⟨w,hw⟩ : ∃ w,gt (worksW l how y) i = w := ⟨_,rfl⟩
  rw [hw] at hg
  have e22 := And.intro hw (h22 w m hg.ws hm)
  have hI := (idsW_ok hg m).2
  have hIO := (idsW_ok hg m).1
  have hal := hg.al
  have hrf : (∀ i,i < ((alW w)).length → (gt ((alW w)) i).2.2.2.2.length ≤ 1000000) := fun k hk => by rw [alW_len] at hk; rw [alW_gt w k hk]; exact (hg.pg hk).2.1
  have e24 := h24 w hg.ws
  have e14 := h14 w hg.ws
  have e23 := (h23 (alW w) (alW w) (by omega) (by omega) hrf hrf).trans (by rw [decide_eq_true rfl])
  have e25 := h25 w hg.ws hg.ar
  have e26 := h26 w hg
  have e28 := h28 w (idsW w m) hg.ws hIO (by omega) hg.id
  have e29 := h29 w (idsW w m) hg (by omega)
  rw [ordR_eq] at e29
  have hoL := ordS_len (insL (idsW w m)) (alW w)
  have e27 := (h27 (ordS (insL (idsW w m)) (alW w)).2 (ordS (insL (idsW w m)) (alW w)).2 (by omega) (by omega)).trans (by rw [decide_eq_true rfl])
  refine Tr.skip ?_
  refine hK2 _ ?_
  refine Tr.seqK fun K3 hK3 => ?_
  refine Tr.blk ?_
  refine Tr.w hcx [1000030] _ [] rfl rfl rfl ?_ X_fc5
  refine Tr.k [3,9,10,11] ?_
  refine Tr.seqK fun K4 hK4 => ?_
  refine Tr.wD hcx hMO [] [some 31,some 32,some 33,some 34,some 35,some 36,some 37,some 38,some 39,some 40,some 41,some 42,some 43,some 44,some 45,some 46,some 47,some 48,some 49,some 50,some 51,some 52,some 53,some 54,some 55] [] rfl rfl rfl rfl ?_ Y_fc5
  refine Tr.k [3,9,10,11,55] ?_
  refine Tr.cF rfl ?_
  refine Tr.skip ?_
  refine hK4 _ ?_
  refine Tr.seqK fun K5 hK5 => ?_
  refine Tr.wD hcx hMO [] _ [] rfl rfl rfl rfl ?_ Y_fc5
  refine Tr.cF rfl ?_
  refine Tr.skip ?_
  refine hK5 _ ?_
  refine Tr.w hcx [] _ [] rfl rfl rfl ?_ X_fc5
  refine Tr.k [3,9,10,11,12] ?_
  refine Tr.blk ?_
  refine Tr.loopI (α := Nat) (fun a => [(3,?v3_2),(9,?v9_2),(10,?v10_2),(11,?v11_2),(12,.val (nI a))]) (fun a => []) (fun a => a ≤ (idsW w m).length) (fun a => (idsW w m).length - a) (0) (Nat.zero_le _) ?le_2 ?hh_2 ?bd_2
  case hh_2 => exact rfl
  case le_2 => exact LT
  rintro k hk
  refine Tr.seqK fun K6 hK6 => ?_
  refine Tr.w hcx [] _ [] rfl rfl rfl ?_ X_fc5
  refine Tr.cD rfl (fun hc73 => ?_) (fun hc73 => ?_)
  ·
   have hmd : (k + 1) % (idsW w m).length < (idsW w m).length := Nat.mod_lt _ (by omega)
   have e30 := h30 w (gt (idsW w m) k) (gt (idsW w m) ((k + 1) % (idsW w m).length)) hg.ws (hIO _ (gt_mem' _ _ (by omega))) (hIO _ (gt_mem' _ _ hmd)) hg.id
   have e31 := h31 w (gt (idsW w m) k) (gt (idsW w m) ((k + 1) % (idsW w m).length)) hg
   rw [befR_eq] at e31
   refine Tr.skip ?_
   refine hK6 _ ?_
   refine Tr.seqK fun K7 hK7 => ?_
   refine Tr.blk ?_
   refine Tr.w hcx [] _ [none] rfl rfl rfl ?_ X_fc5
   refine Tr.w hcx [] _ [none] rfl rfl rfl ?_ X_fc5
   refine Tr.k [3,9,10,11,12,13,14] ?_
   refine Tr.wD hcx hMO [] _ [] rfl rfl rfl rfl ?_ Y_fc5
   refine Tr.cF rfl ?_
   refine Tr.skip ?_
   refine hK7 _ ?_
   refine Tr.k [3,9,10,11,12] ?_
   refine Tr.m1 hcx [] ?_
   refine Tr.v hcx [1000075] _ [] rfl rfl rfl ?_ X_fc5
   exact ⟨k + 1,⟨(by omega),O1⟩,LT,rfl⟩
  refine Tr.exit ?_
  refine hK3 _ ?_
  refine Tr.v hcx [1000024] _ [] rfl rfl rfl ?_ X_fc5
  exact ⟨i + 1,⟨(by omega),O1⟩,LT,rfl⟩
 refine Tr.exit ?_
 refine hK1 _ ?_
 refine Tr.w hcx [1000103] _ [] rfl rfl rfl ?_ X_fc5
 exact Tr.ret F_fc5
end Go.Sx
