/-
   And what follows.
-/
import Derived.Test.YtcpdlhgkdogdjaaDoorPap
import Derived.Test.YtcpdlhgkdogdjaaDoorPal
set_option linter.unusedSimpArgs false
set_option linter.unusedVariables false
namespace Go.Sx
open Go.RowKit Go.Proofs
set_option maxRecDepth 100000
set_option maxHeartbeats 8000000
def okI (x : ID) : Bool := decide (0 ≤ x.1 ∧ x.1 < 6 ∧ 0 ≤ x.2.1 ∧ x.2.1 ≤ 63 ∧ 0 ≤ x.2.2 ∧ x.2.2 < 1024)
def okR (x : ID) : Bool := decide (x = (-1,0,0)) || okI x
def ordP (p : Psg) : Bool := okI p.1 && decide (0 ≤ p.2.1 ∧ p.2.1 < 4 ∧ 0 ≤ p.2.2.1 ∧ p.2.2.1 < 4) && decide (validE p.2.2.2.1 = 0) && decide ((marksT p.2.2.2.1).length = p.2.2.2.2.length) && p.2.2.2.2.all okR
def titA (s : List UInt8) : Bool := decide (validE s = 0) && decide ((marksT s).length = 0)
theorem all_gt {α : Type} [Inhabited α] {l : List α} {p : α → Bool} (h : ∀ j,j < l.length → p (gt l j) = true) : l.all p = true := by
  rw [List.all_eq_true]
  intro x hx
  obtain ⟨j,hj,rfl⟩ := List.getElem_of_mem hx
  have := h j hj
  simpa [gt,List.getD,List.getElem?_eq_getElem hj] using this
theorem all_gtF {α : Type} [Inhabited α] {l : List α} {p : α → Bool} {j : Nat} (hj : j < l.length) (h : p (gt l j) = false) : l.all p = false := by
  rw [List.all_eq_false]
  exact ⟨_,List.getElem_mem hj,by simpa [gt,List.getD,List.getElem?_eq_getElem hj] using h⟩
theorem marks_len (s : List UInt8) : (marksT s).length ≤ s.length := Nat.le_trans (ofK_len 3 (toks s)) (toks_len s)
theorem ordP_0 {p : Psg} (h : okI p.1 = false) : ordP p = false := by unfold ordP; rw [h]; rfl
theorem ordP_n {p : Psg} (h : ¬ (0 ≤ p.2.1 ∧ p.2.1 < 4 ∧ 0 ≤ p.2.2.1 ∧ p.2.2.1 < 4)) : ordP p = false := by unfold ordP; rw [decide_eq_false h]; simp
theorem ordP_5 {p : Psg} (h : ¬ validE p.2.2.2.1 = 0) : ordP p = false := by unfold ordP; rw [decide_eq_false h]; simp
theorem ordP_6 {p : Psg} (h : ¬ (marksT p.2.2.2.1).length = p.2.2.2.2.length) : ordP p = false := by unfold ordP; rw [decide_eq_false h]; simp
theorem ordP_7 {p : Psg} (h : p.2.2.2.2.all okR = false) : ordP p = false := by unfold ordP; rw [h]; simp
theorem ordP_T {p : Psg} (h0 : okI p.1 = true) (h : 0 ≤ p.2.1 ∧ p.2.1 < 4 ∧ 0 ≤ p.2.2.1 ∧ p.2.2.1 < 4) (h5 : validE p.2.2.2.1 = 0) (h6 : (marksT p.2.2.2.1).length = p.2.2.2.2.length) (h7 : p.2.2.2.2.all okR = true) : ordP p = true := by
  unfold ordP; rw [h0,decide_eq_true h,decide_eq_true h5,decide_eq_true h6,h7]; rfl
theorem okR_1 {x : ID} (h : x = (-1,0,0)) : okR x = true := by unfold okR; rw [decide_eq_true h]; rfl
theorem okR_2 {x : ID} (h : okI x = true) : okR x = true := by unfold okR; rw [h]; simp
theorem okR_F {x : ID} (h : ¬ x = (-1,0,0)) (h2 : okI x = false) : okR x = false := by unfold okR; rw [decide_eq_false h,h2]; rfl
theorem X_fc94 {p : Prop} (e : p := by intro KZ hZ; simp -implicitDefEqProofs (disch := first | omega | (simp only [go_sem,lA,lD,lT] <;> omega) | decide) only [go_sem,↓reduceIte,Nat.reduceEqDiff,reduceCtorEq,Nat.reduceLT,Nat.reduceBEq,Nat.reduceAdd,c1,c2,c3,c4,c5,c6,hy]; with_reducible exact hZ) : p := e
theorem F_fc94 {p : Prop} (e : p := by simp -implicitDefEqProofs (disch := first | omega | (simp only [go_sem,lA,lD,lT] <;> omega) | decide) only [go_sem,↓reduceIte,Nat.reduceEqDiff,reduceCtorEq]; all_goals (exact congrArg (fun z => some (C.val (.bool z))) (by unfold okI; first | (symm; rw [decide_eq_true_iff]; omega) | (symm; rw [decide_eq_false_iff_not]; omega)))) : p := e
theorem fc94 {gl : Nat → C} {M : Nat} {pu : Nat → List C → Option C} (hcx : CxOK (cxP gl M pu)) (x : ID) : FC Tryd.prog gl 94 [.agg (iD x)] [] (.val (.bool (okI x))) [] := by
 replace hcx := hcx.reN (M := 31)
 refine FC.ofA (cx := cxP gl 31 pu) (rs := [.tmp 2]) rfl Tryd.func94 rfl rfl rfl (by simp only [List.length_cons,List.length_nil]; decide) (by simp only [go_sem]) ?_
 simp only [ini,go_sem]
 have c1 := True.intro
 have c2 := True.intro
 have c3 := True.intro
 have c4 := True.intro
 have c5 := True.intro
 have c6 := True.intro
 have hy := True.intro
 refine Tr.w hcx [] _ [none] rfl rfl rfl ?_ X_fc94
 refine Tr.k [1] ?_
 by_cases c1 : ((0 : Nat) : Int) ≤ x.1
 ·
  have c1o := c1
  replace c1 := eq_true c1
  by_cases c2 : x.1 < ((6 : Nat) : Int)
  ·
   have c2o := c2
   replace c2 := eq_true c2
   by_cases c3 : ((0 : Nat) : Int) ≤ x.2.1
   ·
    have c3o := c3
    replace c3 := eq_true c3
    by_cases c4 : x.2.1 ≤ ((63 : Nat) : Int)
    ·
     have c4o := c4
     replace c4 := eq_true c4
     by_cases c5 : ((0 : Nat) : Int) ≤ x.2.2
     ·
      have c5o := c5
      replace c5 := eq_true c5
      by_cases c6 : x.2.2 < ((1024 : Nat) : Int)
      ·
       have c6o := c6
       replace c6 := eq_true c6
       skip
       refine Tr.w hcx [1000030] [some 3,some 4,some 5,some 6,some 7,some 8,some 9,some 10,some 11,some 12,some 13,some 14,some 15,some 16,some 17,some 18,some 19,some 20,some 21,some 22,some 23,some 24,some 25,some 26,some 27,some 28,some 29,some 30,some 2] [] rfl rfl rfl ?_ X_fc94
       refine Tr.k [2] ?_
       exact Tr.ret F_fc94
      have c6o := c6
      replace c6 := eq_false c6
      skip
      refine Tr.w hcx [1000030] [some 3,some 4,some 5,some 6,some 7,some 8,some 9,some 10,some 11,some 12,some 13,some 14,some 15,some 16,some 17,some 18,some 19,some 20,some 21,some 22,some 23,some 24,some 25,some 26,some 27,some 28,some 29,some 30,some 2] [] rfl rfl rfl ?_ X_fc94
      refine Tr.k [2] ?_
      exact Tr.ret F_fc94
     have c5o := c5
     replace c5 := eq_false c5
     have c6 := True.intro
     refine Tr.w hcx [1000030] [some 3,some 4,some 5,some 6,some 7,some 8,some 9,some 10,some 11,some 12,some 13,some 14,some 15,some 16,some 17,some 18,some 19,some 20,some 21,some 22,some 23,some 24,some 25,some 26,some 27,some 28,some 29,some 30,some 2] [] rfl rfl rfl ?_ X_fc94
     refine Tr.k [2] ?_
     exact Tr.ret F_fc94
    have c4o := c4
    replace c4 := eq_false c4
    have c5 := True.intro
    have c6 := True.intro
    refine Tr.w hcx [1000030] [some 3,some 4,some 5,some 6,some 7,some 8,some 9,some 10,some 11,some 12,some 13,some 14,some 15,some 16,some 17,some 18,some 19,some 20,some 21,some 22,some 23,some 24,some 25,some 26,some 27,some 28,some 29,some 30,some 2] [] rfl rfl rfl ?_ X_fc94
    refine Tr.k [2] ?_
    exact Tr.ret F_fc94
   have c3o := c3
   replace c3 := eq_false c3
   have c4 := True.intro
   have c5 := True.intro
   have c6 := True.intro
   refine Tr.w hcx [1000030] [some 3,some 4,some 5,some 6,some 7,some 8,some 9,some 10,some 11,some 12,some 13,some 14,some 15,some 16,some 17,some 18,some 19,some 20,some 21,some 22,some 23,some 24,some 25,some 26,some 27,some 28,some 29,some 30,some 2] [] rfl rfl rfl ?_ X_fc94
   refine Tr.k [2] ?_
   exact Tr.ret F_fc94
  have c2o := c2
  replace c2 := eq_false c2
  have c3 := True.intro
  have c4 := True.intro
  have c5 := True.intro
  have c6 := True.intro
  refine Tr.w hcx [1000030] [some 3,some 4,some 5,some 6,some 7,some 8,some 9,some 10,some 11,some 12,some 13,some 14,some 15,some 16,some 17,some 18,some 19,some 20,some 21,some 22,some 23,some 24,some 25,some 26,some 27,some 28,some 29,some 30,some 2] [] rfl rfl rfl ?_ X_fc94
  refine Tr.k [2] ?_
  exact Tr.ret F_fc94
 have c1o := c1
 replace c1 := eq_false c1
 have c2 := True.intro
 have c3 := True.intro
 have c4 := True.intro
 have c5 := True.intro
 have c6 := True.intro
 refine Tr.w hcx [1000030] [some 3,some 4,some 5,some 6,some 7,some 8,some 9,some 10,some 11,some 12,some 13,some 14,some 15,some 16,some 17,some 18,some 19,some 20,some 21,some 22,some 23,some 24,some 25,some 26,some 27,some 28,some 29,some 30,some 2] [] rfl rfl rfl ?_ X_fc94
 refine Tr.k [2] ?_
 exact Tr.ret F_fc94
theorem X_fc54 {p : Prop} (e : p := by intro KZ hZ; simp -implicitDefEqProofs (disch := first | omega | (simp only [go_sem,lA,lD,lT,hm] <;> omega) | decide) only [go_sem,↓reduceIte,Nat.reduceEqDiff,reduceCtorEq,Nat.reduceLT,Nat.reduceBEq,Nat.reduceAdd,h94,e15,e16,hg0,eq_iD,a0,a1,a2,a3,a4,a5,a6,b1,b2,hy]; with_reducible exact hZ) : p := e
theorem Y_fc54 {p : Prop} (e : p := by intro KZ hZ; simp -implicitDefEqProofs (disch := first | omega | (simp only [go_sem,lA,lD,lT,hm] <;> omega) | decide) only [go_sem,↓reduceIte,Nat.reduceEqDiff,reduceCtorEq,Nat.reduceLT,Nat.reduceBEq,Nat.reduceAdd,h94,e15,e16,hg0,eq_iD,a0,a1,a2,a3,a4,a5,a6,b1,b2,hy]; with_reducible refine And.intro ?_ hZ; first | exact rfl | decide) : p := e
theorem F_fc54 {p : Prop} (e : p := by simp -implicitDefEqProofs (disch := first | omega | (simp only [go_sem,lA,lD,lT,hm] <;> omega) | decide) only [go_sem,↓reduceIte,Nat.reduceEqDiff,reduceCtorEq]; all_goals (rw [hR])) : p := e
theorem fc54 {gl : Nat → C} {M : Nat} {pu : Nat → List C → Option C} (hcx : CxOK (cxP gl M pu)) (hg0 : gl 0 = .kp (iD (-1,0,0))) (h94 : ∀ x : ID,pu 94 [.agg (iD x)] = some (.val (.bool (okI x)))) (h15 : ∀ s : List UInt8,s.length ≤ 1000000 → pu 15 [.val (str s)] = some (.val (nI (validE s)))) (h16 : ∀ s : List UInt8,s.length ≤ 1000000 → pu 16 [.val (str s)] = some (sl nC (.own 1) (marksT s))) (p : Psg) (ht : p.2.2.2.1.length ≤ 1000000) (hr : p.2.2.2.2.length ≤ 1000000) : FC Tryd.prog gl 54 [.agg (pC p)] [] (.val (.bool (ordP p))) [] := by
 replace hcx := hcx.reN (M := 61)
 refine FC.ofA (cx := cxP gl 61 pu) (rs := [.tmp 2]) rfl Tryd.func54 rfl rfl rfl (by simp only [List.length_cons,List.length_nil]; decide) (by simp only [go_sem]) ?_
 simp only [ini,go_sem]
 have a0 := True.intro
 have a1 := True.intro
 have a2 := True.intro
 have a3 := True.intro
 have a4 := True.intro
 have a5 := True.intro
 have a6 := True.intro
 have b1 := True.intro
 have b2 := True.intro
 have hy := True.intro
 have e15 := h15 _ ht
 have e16 := h16 _ ht
 have hm := marks_len p.2.2.2.1
 refine Tr.w hcx [] _ [none] rfl rfl rfl ?_ X_fc54
 refine Tr.k [1] ?_
 refine Tr.seqK fun K1 hK1 => ?_
 refine Tr.blk ?_
 by_cases a0 : okI p.1 = true
 ·
  skip
  by_cases a1 : p.2.1 < ((0 : Nat) : Int)
  ·
   have a1o := a1
   replace a1 := eq_true a1
   have a2 := True.intro
   have a3 := True.intro
   have a4 := True.intro
   refine Tr.w hcx [1000029] [some 6,some 7,some 8,some 9,some 10,some 11,some 12,some 13,some 14,some 15,some 16,some 17,some 18,some 19,some 20,some 21,some 22,some 23,some 24,some 25,some 26,some 27,some 28,some 29,some 5] [] rfl rfl rfl ?_ X_fc54
   refine Tr.cT rfl ?_
   have hR := ordP_n (p := p) (by omega)
   refine Tr.w hcx [] _ [] rfl rfl rfl ?_ X_fc54
   refine Tr.k [2] ?_
   exact Tr.ret F_fc54
  have a1o := a1
  replace a1 := eq_false a1
  by_cases a2 : ((4 : Nat) : Int) ≤ p.2.1
  ·
   have a2o := a2
   replace a2 := eq_true a2
   have a3 := True.intro
   have a4 := True.intro
   refine Tr.w hcx [1000029] [some 6,some 7,some 8,some 9,some 10,some 11,some 12,some 13,some 14,some 15,some 16,some 17,some 18,some 19,some 20,some 21,some 22,some 23,some 24,some 25,some 26,some 27,some 28,some 29,some 5] [] rfl rfl rfl ?_ X_fc54
   refine Tr.cT rfl ?_
   have hR := ordP_n (p := p) (by omega)
   refine Tr.w hcx [] _ [] rfl rfl rfl ?_ X_fc54
   refine Tr.k [2] ?_
   exact Tr.ret F_fc54
  have a2o := a2
  replace a2 := eq_false a2
  by_cases a3 : p.2.2.1 < ((0 : Nat) : Int)
  ·
   have a3o := a3
   replace a3 := eq_true a3
   have a4 := True.intro
   refine Tr.w hcx [1000029] [some 6,some 7,some 8,some 9,some 10,some 11,some 12,some 13,some 14,some 15,some 16,some 17,some 18,some 19,some 20,some 21,some 22,some 23,some 24,some 25,some 26,some 27,some 28,some 29,some 5] [] rfl rfl rfl ?_ X_fc54
   refine Tr.cT rfl ?_
   have hR := ordP_n (p := p) (by omega)
   refine Tr.w hcx [] _ [] rfl rfl rfl ?_ X_fc54
   refine Tr.k [2] ?_
   exact Tr.ret F_fc54
  have a3o := a3
  replace a3 := eq_false a3
  by_cases a4 : ((4 : Nat) : Int) ≤ p.2.2.1
  ·
   have a4o := a4
   replace a4 := eq_true a4
   skip
   refine Tr.w hcx [1000029] [some 6,some 7,some 8,some 9,some 10,some 11,some 12,some 13,some 14,some 15,some 16,some 17,some 18,some 19,some 20,some 21,some 22,some 23,some 24,some 25,some 26,some 27,some 28,some 29,some 5] [] rfl rfl rfl ?_ X_fc54
   refine Tr.cT rfl ?_
   have hR := ordP_n (p := p) (by omega)
   refine Tr.w hcx [] _ [] rfl rfl rfl ?_ X_fc54
   refine Tr.k [2] ?_
   exact Tr.ret F_fc54
  have a4o := a4
  replace a4 := eq_false a4
  skip
  refine Tr.w hcx [1000029] [some 6,some 7,some 8,some 9,some 10,some 11,some 12,some 13,some 14,some 15,some 16,some 17,some 18,some 19,some 20,some 21,some 22,some 23,some 24,some 25,some 26,some 27,some 28,some 29,some 5] [] rfl rfl rfl ?_ X_fc54
  refine Tr.cF rfl ?_
  by_cases a5 : validE p.2.2.2.1 = 0
  ·
   have a5o := a5
   replace a5 := eq_true a5
   by_cases a6 : (marksT p.2.2.2.1).length = p.2.2.2.2.length
   ·
    have a6o := a6
    replace a6 := eq_true a6
    skip
    refine Tr.wD hcx hMO [1000044] [some 31,some 32,some 33,some 34,some 35,some 36,some 37,some 38,some 39,some 40,some 41,some 42,some 43,some 44,some 30] [] rfl rfl rfl rfl ?_ Y_fc54
    refine Tr.k [1,30] ?_
    refine Tr.cF rfl ?_
    refine Tr.skip ?_
    refine hK1 _ ?_
    refine Tr.seqK fun K2 hK2 => ?_
    refine Tr.w hcx [] _ [] rfl rfl rfl ?_ X_fc54
    refine Tr.k [46,47,48] ?_
    refine Tr.blk ?_
    obtain ⟨R,hR⟩ : ∃ R,p.2.2.2.2 = R := ⟨_,rfl⟩
    rw [hR]
    rw [hR] at a6o hr
    have h7 := ordP_7 (p := p)
    have hT := ordP_T (p := p) a0 (by omega) a5o (by rw [hR]; exact a6o)
    rw [hR] at h7 hT
    refine Tr.k [46,47,48] ?_
    refine Tr.m1 hcx [] ?_
    refine Tr.loopI (α := Nat) (fun a => [(46,?v46_1),(47,?v47_1),(48,.val (nI a))]) (fun a => []) (fun a => a ≤ R.length ∧ ∀ j,j < a → okR (gt R j) = true) (fun a => R.length - a) (0) ⟨Nat.zero_le _,fun j hj => absurd hj (Nat.not_lt_zero j)⟩ ?le_1 ?hh_1 ?bd_1
    case hh_1 => exact rfl
    case le_1 => exact LT
    rintro i ⟨hi,hA⟩
    refine Tr.w hcx [] _ [] rfl rfl rfl ?_ X_fc54
    refine Tr.seqK fun K3 hK3 => ?_
    refine Tr.cD rfl (fun hc49 => ?_) (fun hc49 => ?_)
    ·
     refine Tr.skip ?_
     refine hK3 _ ?_
     refine Tr.seqK fun K4 hK4 => ?_
     refine Tr.blk ?_
     refine Tr.w hcx [] _ [none] rfl rfl rfl ?_ X_fc54
     by_cases b1 : gt R i = (-1,0,0)
     ·
      have b1o := b1
      replace b1 := eq_true b1
      have b2 := True.intro
      refine Tr.w hcx [] [some 52,some 53,some 54,some 55,some 56,some 57,some 58,some 59] [] rfl rfl rfl ?_ X_fc54
      refine Tr.cF rfl ?_
      refine Tr.skip ?_
      refine hK4 _ ?_
      refine Tr.k [46,47,48] ?_
      refine Tr.m1 hcx [] ?_
      refine Tr.v hcx [] _ [] rfl rfl rfl ?_ X_fc54
      exact ⟨i + 1,⟨⟨by omega,fun j hj => (Nat.lt_or_eq_of_le (Nat.le_of_lt_succ hj)).elim (hA j) (fun e => e ▸ okR_1 b1o)⟩,O1⟩,LT,rfl⟩
     have b1o := b1
     replace b1 := eq_false b1
     by_cases b2 : okI (gt R i) = true
     ·
      skip
      skip
      refine Tr.w hcx [] [some 52,some 53,some 54,some 55,some 56,some 57,some 58,some 59] [] rfl rfl rfl ?_ X_fc54
      refine Tr.cF rfl ?_
      refine Tr.skip ?_
      refine hK4 _ ?_
      refine Tr.k [46,47,48] ?_
      refine Tr.m1 hcx [] ?_
      refine Tr.v hcx [] _ [] rfl rfl rfl ?_ X_fc54
      exact ⟨i + 1,⟨⟨by omega,fun j hj => (Nat.lt_or_eq_of_le (Nat.le_of_lt_succ hj)).elim (hA j) (fun e => e ▸ okR_2 b2)⟩,O1⟩,LT,rfl⟩
     replace b2 := (Bool.not_eq_true _).mp b2
     skip
     refine Tr.w hcx [] [some 52,some 53,some 54,some 55,some 56,some 57,some 58,some 59] [] rfl rfl rfl ?_ X_fc54
     refine Tr.cT rfl ?_
     have hR := h7 (all_gtF hc49 (okR_F b1o b2))
     refine Tr.w hcx [] _ [] rfl rfl rfl ?_ X_fc54
     exact Tr.ret F_fc54
    refine Tr.exit ?_
    refine hK2 _ ?_
    obtain rfl : i = R.length := by omega
    have hR := hT (all_gt hA)
    refine Tr.w hcx [] _ [] rfl rfl rfl ?_ X_fc54
    exact Tr.ret F_fc54
   have a6o := a6
   replace a6 := eq_false a6
   skip
   refine Tr.wD hcx hMO [1000044] [some 31,some 32,some 33,some 34,some 35,some 36,some 37,some 38,some 39,some 40,some 41,some 42,some 43,some 44,some 30] [] rfl rfl rfl rfl ?_ Y_fc54
   refine Tr.k [1,30] ?_
   refine Tr.cT rfl ?_
   have hR := ordP_6 a6o
   refine Tr.w hcx [] _ [] rfl rfl rfl ?_ X_fc54
   exact Tr.ret F_fc54
  have a5o := a5
  replace a5 := eq_false a5
  have a6 := True.intro
  refine Tr.wD hcx hMO [1000044] [some 31,some 32,some 33,some 34,some 35,some 36,some 37,some 38,some 39,some 40,some 41,some 42,some 43,some 44,some 30] [] rfl rfl rfl rfl ?_ Y_fc54
  refine Tr.k [1,30] ?_
  refine Tr.cT rfl ?_
  have hR := ordP_5 a5o
  refine Tr.w hcx [] _ [] rfl rfl rfl ?_ X_fc54
  exact Tr.ret F_fc54
 replace a0 := (Bool.not_eq_true _).mp a0
 have a1 := True.intro
 have a2 := True.intro
 have a3 := True.intro
 have a4 := True.intro
 refine Tr.w hcx [1000029] [some 6,some 7,some 8,some 9,some 10,some 11,some 12,some 13,some 14,some 15,some 16,some 17,some 18,some 19,some 20,some 21,some 22,some 23,some 24,some 25,some 26,some 27,some 28,some 29,some 5] [] rfl rfl rfl ?_ X_fc54
 refine Tr.cT rfl ?_
 have hR := ordP_0 a0
 refine Tr.w hcx [] _ [] rfl rfl rfl ?_ X_fc54
 refine Tr.k [2] ?_
 exact Tr.ret F_fc54
end Go.Sx
namespace Go.Sx
open Go.RowKit Go.Proofs
set_option maxRecDepth 100000
set_option maxHeartbeats 8000000
def largeW (w : Wrk) : Bool := decide (8 < w.length) || w.any (fun V => decide (64 < V.length)) || decide (1024 < (alW w).length)
theorem largeW_1 {w : Wrk} (h : 8 < w.length) : largeW w = true := by unfold largeW; rw [decide_eq_true h]; rfl
theorem any_gt {α : Type} [Inhabited α] {l : List α} {p : α → Bool} {j : Nat} (hj : j < l.length) (h : p (gt l j) = true) : l.any p = true := by
  rw [List.any_eq_true]
  exact ⟨_,List.getElem_mem hj,by simpa [gt,List.getD,List.getElem?_eq_getElem hj] using h⟩
theorem any_gtF {α : Type} [Inhabited α] {l : List α} {p : α → Bool} (h : ∀ j,j < l.length → p (gt l j) = false) : l.any p = false := by
  rw [List.any_eq_false]
  intro x hx
  obtain ⟨j,hj,rfl⟩ := List.getElem_of_mem hx
  have := h j hj
  simpa [gt,List.getD,List.getElem?_eq_getElem hj] using this
theorem largeW_2 {w : Wrk} {j : Nat} (hj : j < w.length) (h : 64 < (gt w j).length) : largeW w = true := by unfold largeW; rw [any_gt hj (decide_eq_true h)]; simp
theorem largeW_3 {w : Wrk} (h : ¬ 8 < w.length) (h2 : ∀ j,j < w.length → ¬ 64 < (gt w j).length) : largeW w = decide (1024 < (alW w).length) := by
  have h3 : w.any (fun V => decide (64 < V.length)) = false := any_gtF fun j hj => decide_eq_false (h2 j hj)
  unfold largeW; rw [decide_eq_false h,h3]; rfl
def titW (w : Wrk) : Bool := w.all fun V => V.all fun A => titA A.1
theorem titA_T {s : List UInt8} (h : validE s = 0) (h2 : (marksT s).length = 0) : titA s = true := by unfold titA; rw [decide_eq_true h,decide_eq_true h2]; rfl
theorem titA_F {s : List UInt8} (h : ¬ (validE s = 0 ∧ (marksT s).length = 0)) : titA s = false := by
  unfold titA
  by_cases h1 : validE s = 0
  · rw [decide_eq_false (fun e => h ⟨h1,e⟩)]; simp
  · rw [decide_eq_false h1]; rfl
theorem lay1_n31 (a : Nat) : lay1 (cl nC (List.replicate 3 0)) [(0,.val (nI a))] = some (vp (.agg [.val (nI a),.val (nI 0),.val (nI 0)])) := rfl
theorem lay1_n33 (a b c : Nat) : lay1 (cl nC (List.replicate 3 0)) [(0,.val (nI a)),(1,.val (nI b)),(2,.val (nI c))] = some (vp (.agg [.val (nI a),.val (nI b),.val (nI c)])) := rfl
attribute [go_sem high] lay1_n31 lay1_n33
def nA (w : Wrk) (v : Nat) : Nat := ((w.take v).flatten).length
theorem nA_S (w : Wrk) (v : Nat) (h : v < w.length) : nA w (v + 1) = nA w v + (gt w v).length := by
  unfold nA; rw [← take_sn w v h,List.flatten_append,List.length_append]; simp
theorem nA_le (w : Wrk) (v : Nat) : nA w v ≤ nA w w.length := by
  unfold nA
  rw [List.take_length]
  conv => rhs; rw [← List.take_append_drop v w]
  rw [List.flatten_append,List.length_append]; omega
theorem X_fc52 {p : Prop} (e : p := by intro KZ hZ; simp -implicitDefEqProofs (disch := first | omega | (simp only [go_sem,lA,lD,lT,hVl] <;> omega) | decide) only [go_sem,↓reduceIte,Nat.reduceEqDiff,reduceCtorEq,Nat.reduceLT,Nat.reduceBEq,Nat.reduceAdd,hVV,hy]; with_reducible exact hZ) : p := e
theorem F_fc52 {p : Prop} (e : p := by simp -implicitDefEqProofs (disch := first | omega | (simp only [go_sem,lA,lD,lT,hVl] <;> omega) | decide) only [go_sem,↓reduceIte,Nat.reduceEqDiff,reduceCtorEq]; all_goals (rw [hR])) : p := e
theorem fc52 {gl : Nat → C} {M : Nat} {pu : Nat → List C → Option C} (hcx : CxOK (cxP gl M pu)) (w : Wrk) (hw : WS w) : FC Tryd.prog gl 52 [.agg [sl vC .no w]] [] (.val (.bool (largeW w))) [] := by
 replace hcx := hcx.reN (M := 39)
 refine FC.ofA (cx := cxP gl 39 pu) (rs := [.tmp 2]) rfl Tryd.func52 rfl rfl rfl (by simp only [List.length_cons,List.length_nil]; decide) (by simp only [go_sem]) ?_
 simp only [ini,go_sem]
 have hy := True.intro
 have hw1 := hw.1.1
 have hal := alW_len w
 have hw2 := hw.2.1
 have hVV := True.intro
 have hVl := True.intro
 refine Tr.w hcx [] _ [none] rfl rfl rfl ?_ X_fc52
 refine Tr.seqK fun K1 hK1 => ?_
 refine Tr.w hcx [] _ [] rfl rfl rfl ?_ X_fc52
 refine Tr.cD rfl (fun hc11 => ?_) (fun hc11 => ?_)
 ·
  have hR := largeW_1 hc11
  refine Tr.w hcx [] _ [] rfl rfl rfl ?_ X_fc52
  exact Tr.ret F_fc52
 refine Tr.skip ?_
 refine hK1 _ ?_
 refine Tr.w hcx [] _ [] rfl rfl rfl ?_ X_fc52
 refine Tr.seqK fun K2 hK2 => ?_
 refine Tr.w hcx [] _ [] rfl rfl rfl ?_ X_fc52
 refine Tr.k [3,13,14,15] ?_
 refine Tr.blk ?_
 refine Tr.k [3,13,14,15] ?_
 refine Tr.m1 hcx [] ?_
 refine Tr.loopI (α := Nat) (fun a => [(3,.val (nI (pV w a).length)),(13,?v13_1),(14,?v14_1),(15,.val (nI a))]) (fun a => []) (fun a => a ≤ w.length ∧ ∀ j,j < a → ¬ 64 < (gt w j).length) (fun a => w.length - a) (0) ⟨Nat.zero_le _,fun j hj => absurd hj (Nat.not_lt_zero j)⟩ ?le_1 ?hh_1 ?bd_1
 case hh_1 => exact rfl
 case le_1 => exact LT
 rintro v ⟨hv,hA⟩
 have hp := pV_le w v
 refine Tr.w hcx [] _ [] rfl rfl rfl ?_ X_fc52
 refine Tr.seqK fun K3 hK3 => ?_
 refine Tr.cD rfl (fun hc16 => ?_) (fun hc16 => ?_)
 ·
  obtain ⟨V,hV⟩ : ∃ V,gt w v = V := ⟨_,rfl⟩
  have hVV := hV
  have hVl := hw.1.2.1 v hc16
  have hAl := hw.1.2.2 v
  have hpS := pV_S w v hc16
  rw [hV] at hVl hAl hpS
  have hpS := congrArg List.length hpS
  rw [List.length_append] at hpS
  refine Tr.skip ?_
  refine hK3 _ ?_
  refine Tr.seqK fun K4 hK4 => ?_
  refine Tr.blk ?_
  refine Tr.w hcx [] _ [none] rfl rfl rfl ?_ X_fc52
  refine Tr.seqK fun K5 hK5 => ?_
  refine Tr.w hcx [] _ [] rfl rfl rfl ?_ X_fc52
  refine Tr.cD rfl (fun hc22 => ?_) (fun hc22 => ?_)
  ·
   have hR := largeW_2 hc16 (by rw [hV]; exact hc22)
   refine Tr.w hcx [] _ [] rfl rfl rfl ?_ X_fc52
   exact Tr.ret F_fc52
  refine Tr.skip ?_
  refine hK5 _ ?_
  refine Tr.w hcx [] _ [] rfl rfl rfl ?_ X_fc52
  refine Tr.k [3,13,14,15,24,25,26] ?_
  refine Tr.blk ?_
  refine Tr.k [3,13,14,15,24,25,26] ?_
  refine Tr.m1 hcx [] ?_
  refine Tr.loopI (α := Nat) (fun a => [(3,.val (nI ((pV w v).length + (pA V a).length))),(13,?v13_2),(14,?v14_2),(15,?v15_2),(24,?v24_2),(25,?v25_2),(26,.val (nI a))]) (fun a => []) (fun a => a ≤ V.length) (fun a => V.length - a) (0) (Nat.zero_le _) ?le_2 ?hh_2 ?bd_2
  case hh_2 => exact rfl
  case le_2 => (simp only [Le_nil,Le_cons,↓A_cons,↓reduceIte,Nat.reduceEqDiff,CLe_refl,CLe_top,CLe_full,CLe_nil,CLe_own,and_true,true_and]; all_goals (repeat' first | exact CLe.refl _ | exact True.intro | (refine CLe_sln ?_; first | rfl | (simp only [List.take_zero]; done)) | exact CLe_nI (by omega) | exact CLe_int (by omega) | exact CLe_inI (by omega) | exact CLe_nIi (by omega) | with_reducible apply And.intro)); all_goals first | exact CLe.refl _ | exact CLe_nI (by show _ = _ + (pA V 0).length; rfl)
  rintro k hk
  have hp2 := pVA_le w v (k + 1) hc16
  rw [hV] at hp2
  refine Tr.w hcx [] _ [] rfl rfl rfl ?_ X_fc52
  refine Tr.seqK fun K6 hK6 => ?_
  refine Tr.cD rfl (fun hc27 => ?_) (fun hc27 => ?_)
  ·
   have hAk := hAl k hc16 hc27
   have hpA := congrArg List.length (pA_S V k hc27)
   rw [List.length_append] at hpA
   refine Tr.skip ?_
   refine hK6 _ ?_
   refine Tr.seqK fun K7 hK7 => ?_
   refine Tr.blk ?_
   refine Tr.w hcx [] _ [none] rfl rfl rfl ?_ X_fc52
   refine Tr.v hcx [1000034] _ [] rfl rfl rfl ?_ X_fc52
   refine hK7 _ ?_
   refine Tr.k [3,13,14,15,24,25,26] ?_
   refine Tr.m1 hcx [] ?_
   refine Tr.v hcx [] _ [] rfl rfl rfl ?_ X_fc52
   refine ⟨k + 1,⟨(by omega),O1⟩,?_,rfl⟩
   (simp only [Le_nil,Le_cons,↓A_cons,↓reduceIte,Nat.reduceEqDiff,CLe_refl,CLe_top,CLe_full,CLe_nil,CLe_own,and_true,true_and]; all_goals (repeat' first | exact CLe.refl _ | exact True.intro | (refine CLe_sln ?_; first | rfl | (simp only [List.take_zero]; done)) | exact CLe_nI (by omega) | exact CLe_int (by omega) | exact CLe_inI (by omega) | exact CLe_nIi (by omega) | with_reducible apply And.intro))
   all_goals first | exact CLe_nI (by omega) | exact CLe.refl _
  refine Tr.exit ?_
  refine hK4 _ ?_
  obtain rfl : k = V.length := by omega
  refine Tr.v hcx [] _ [] rfl rfl rfl ?_ X_fc52
  refine ⟨v + 1,⟨⟨by omega,fun j hj => (Nat.lt_or_eq_of_le (Nat.le_of_lt_succ hj)).elim (hA j) (fun e => by subst e; rw [hV]; exact hc22)⟩,O1⟩,?_,rfl⟩
  (simp only [Le_nil,Le_cons,↓A_cons,↓reduceIte,Nat.reduceEqDiff,CLe_refl,CLe_top,CLe_full,CLe_nil,CLe_own,and_true,true_and]; all_goals (repeat' first | exact CLe.refl _ | exact True.intro | (refine CLe_sln ?_; first | rfl | (simp only [List.take_zero]; done)) | exact CLe_nI (by omega) | exact CLe_int (by omega) | exact CLe_inI (by omega) | exact CLe_nIi (by omega) | with_reducible apply And.intro))
  all_goals first | exact CLe_nI (by omega) | exact CLe.refl _
 refine Tr.exit ?_
 refine hK2 _ ?_
 obtain rfl : v = w.length := by omega
 have hR := largeW_3 hc11 hA
 rw [← alW_eq]
 refine Tr.w hcx [1000038] _ [] rfl rfl rfl ?_ X_fc52
 exact Tr.ret F_fc52
theorem X_fc55 {p : Prop} (e : p := by intro KZ hZ; simp -implicitDefEqProofs (disch := first | omega | (simp only [go_sem,lA,lD,lT,hVl,hm] <;> omega) | decide) only [go_sem,↓reduceIte,Nat.reduceEqDiff,reduceCtorEq,Nat.reduceLT,Nat.reduceBEq,Nat.reduceAdd,hVV,e15,e16,b1,b2,hy]; with_reducible exact hZ) : p := e
theorem F_fc55 {p : Prop} (e : p := by simp -implicitDefEqProofs (disch := first | omega | (simp only [go_sem,lA,lD,lT,hVl,hm] <;> omega) | decide) only [go_sem,↓reduceIte,Nat.reduceEqDiff,reduceCtorEq]; all_goals (rw [hR])) : p := e
theorem fc55 {gl : Nat → C} {M : Nat} {pu : Nat → List C → Option C} (hcx : CxOK (cxP gl M pu)) (h15 : ∀ s : List UInt8,s.length ≤ 1000000 → pu 15 [.val (str s)] = some (.val (nI (validE s)))) (h16 : ∀ s : List UInt8,s.length ≤ 1000000 → pu 16 [.val (str s)] = some (sl nC (.own 1) (marksT s))) (w : Wrk) (hw : WB w) (ht : ∀ v a,v < w.length → a < (gt w v).length → (gt (gt w v) a).1.length ≤ 1000000) : FC Tryd.prog gl 55 [.agg [sl vC .no w]] [] (.val (.bool (titW w))) [] := by
 replace hcx := hcx.reN (M := 34)
 refine FC.ofA (cx := cxP gl 34 pu) (rs := [.tmp 2]) rfl Tryd.func55 rfl rfl rfl (by simp only [List.length_cons,List.length_nil]; decide) (by simp only [go_sem]) ?_
 simp only [ini,go_sem]
 have b1 := True.intro
 have b2 := True.intro
 have hy := True.intro
 have hw1 := hw.1
 have hVV := True.intro
 have hVl := True.intro
 have hm := True.intro
 have e15 := True.intro
 have e16 := True.intro
 refine Tr.w hcx [] _ [none] rfl rfl rfl ?_ X_fc55
 refine Tr.seqK fun K1 hK1 => ?_
 refine Tr.w hcx [] _ [] rfl rfl rfl ?_ X_fc55
 refine Tr.k [8,9,10] ?_
 refine Tr.blk ?_
 refine Tr.k [8,9,10] ?_
 refine Tr.m1 hcx [] ?_
 refine Tr.loopI (α := Nat) (fun a => [(8,?v8_1),(9,?v9_1),(10,.val (nI a))]) (fun a => []) (fun a => a ≤ w.length ∧ ∀ j,j < a → (gt w j).all (fun A => titA A.1) = true) (fun a => w.length - a) (0) ⟨Nat.zero_le _,fun j hj => absurd hj (Nat.not_lt_zero j)⟩ ?le_1 ?hh_1 ?bd_1
 case hh_1 => exact rfl
 case le_1 => exact LT
 rintro v ⟨hv,hA⟩
 refine Tr.w hcx [] _ [] rfl rfl rfl ?_ X_fc55
 refine Tr.seqK fun K2 hK2 => ?_
 refine Tr.cD rfl (fun hc11 => ?_) (fun hc11 => ?_)
 ·
  obtain ⟨V,hV⟩ : ∃ V,gt w v = V := ⟨_,rfl⟩
  have hVV := hV
  have hVl := hw.2.1 v hc11
  have htv := ht v
  rw [hV] at hVl htv
  refine Tr.skip ?_
  refine hK2 _ ?_
  refine Tr.seqK fun K3 hK3 => ?_
  refine Tr.blk ?_
  refine Tr.w hcx [] _ [none] rfl rfl rfl ?_ X_fc55
  refine Tr.w hcx [] _ [] rfl rfl rfl ?_ X_fc55
  refine Tr.k [8,9,10,15,16,17] ?_
  refine Tr.blk ?_
  refine Tr.k [8,9,10,15,16,17] ?_
  refine Tr.m1 hcx [] ?_
  refine Tr.loopI (α := Nat) (fun a => [(8,?v8_2),(9,?v9_2),(10,?v10_2),(15,?v15_2),(16,?v16_2),(17,.val (nI a))]) (fun a => []) (fun a => a ≤ V.length ∧ ∀ j,j < a → titA (gt V j).1 = true) (fun a => V.length - a) (0) ⟨Nat.zero_le _,fun j hj => absurd hj (Nat.not_lt_zero j)⟩ ?le_2 ?hh_2 ?bd_2
  case hh_2 => exact rfl
  case le_2 => exact LT
  rintro k ⟨hk,hB⟩
  refine Tr.w hcx [] _ [] rfl rfl rfl ?_ X_fc55
  refine Tr.seqK fun K4 hK4 => ?_
  refine Tr.cD rfl (fun hc18 => ?_) (fun hc18 => ?_)
  ·
   have htk := htv k hc11 hc18
   have e15 := h15 _ htk
   have e16 := h16 _ htk
   have hm := marks_len (gt V k).1
   refine Tr.skip ?_
   refine hK4 _ ?_
   refine Tr.seqK fun K5 hK5 => ?_
   refine Tr.blk ?_
   refine Tr.w hcx [] _ [none] rfl rfl rfl ?_ X_fc55
   by_cases b1 : validE (gt V k).1 = 0
   ·
    have b1o := b1
    replace b1 := eq_true b1
    by_cases b2 : (marksT (gt V k).1).length = 0
    ·
     have b2o := b2
     replace b2 := b2
     skip
     refine Tr.w hcx [] [some 21,some 22,some 23,some 24,some 25,some 26,some 27,some 28,some 29,some 30,some 31] [] rfl rfl rfl ?_ X_fc55
     refine Tr.cF rfl ?_
     refine Tr.skip ?_
     refine hK5 _ ?_
     refine Tr.k [8,9,10,15,16,17] ?_
     refine Tr.m1 hcx [] ?_
     refine Tr.v hcx [] _ [] rfl rfl rfl ?_ X_fc55
     exact ⟨k + 1,⟨⟨by omega,fun j hj => (Nat.lt_or_eq_of_le (Nat.le_of_lt_succ hj)).elim (hB j) (fun e => by subst e; exact titA_T b1o b2o)⟩,O1⟩,LT,rfl⟩
    have b2o := b2
    have b2 : 0 < (marksT (gt V k).1).length := by omega
    skip
    refine Tr.w hcx [] [some 21,some 22,some 23,some 24,some 25,some 26,some 27,some 28,some 29,some 30,some 31] [] rfl rfl rfl ?_ X_fc55
    refine Tr.cT rfl ?_
    have hR : titW w = false := all_gtF hc11 (by rw [hV]; exact all_gtF hc18 (titA_F (fun h => b2o h.2)))
    refine Tr.w hcx [] _ [] rfl rfl rfl ?_ X_fc55
    exact Tr.ret F_fc55
   have b1o := b1
   replace b1 := eq_false b1
   have b2 := True.intro
   refine Tr.w hcx [] [some 21,some 22,some 23,some 24,some 25,some 26,some 27,some 28,some 29,some 30,some 31] [] rfl rfl rfl ?_ X_fc55
   refine Tr.cT rfl ?_
   have hR : titW w = false := all_gtF hc11 (by rw [hV]; exact all_gtF hc18 (titA_F (fun h => b1o h.1)))
   refine Tr.w hcx [] _ [] rfl rfl rfl ?_ X_fc55
   exact Tr.ret F_fc55
  refine Tr.exit ?_
  refine hK3 _ ?_
  obtain rfl : k = V.length := by omega
  refine Tr.v hcx [] _ [] rfl rfl rfl ?_ X_fc55
  exact ⟨v + 1,⟨⟨by omega,fun j hj => (Nat.lt_or_eq_of_le (Nat.le_of_lt_succ hj)).elim (hA j) (fun e => by subst e; rw [hV]; exact all_gt hB)⟩,O1⟩,LT,rfl⟩
 refine Tr.exit ?_
 refine hK1 _ ?_
 obtain rfl : v = w.length := by omega
 have hR : titW w = true := all_gt hA
 refine Tr.w hcx [] _ [] rfl rfl rfl ?_ X_fc55
 exact Tr.ret F_fc55
theorem X_fc25 {p : Prop} (e : p := by intro KZ hZ; simp -implicitDefEqProofs (disch := first | omega | (simp only [go_sem,lA,lD,lT,hVl] <;> omega) | decide) only [go_sem,↓reduceIte,Nat.reduceEqDiff,reduceCtorEq,Nat.reduceLT,Nat.reduceBEq,Nat.reduceAdd,hVV,hy]; with_reducible exact hZ) : p := e
theorem F_fc25 {p : Prop} (e : p := by simp -implicitDefEqProofs (disch := first | omega | (simp only [go_sem,lA,lD,lT,hVl] <;> omega) | decide) only [go_sem,↓reduceIte,Nat.reduceEqDiff,reduceCtorEq]; all_goals (rfl)) : p := e
theorem fc25 {gl : Nat → C} {M : Nat} {pu : Nat → List C → Option C} (hcx : CxOK (cxP gl M pu)) (w : Wrk) (hw : WS w) (hn : nA w w.length ≤ 1000000) : FC Tryd.prog gl 25 [.agg [sl vC .no w]] [] (.agg [.val (nI w.length),.val (nI (nA w w.length)),.val (nI (alW w).length)]) [] := by
 replace hcx := hcx.reN (M := 43)
 refine FC.ofA (cx := cxP gl 43 pu) (rs := [.cell 2 53]) rfl Tryd.func25 rfl rfl rfl (by simp only [List.length_cons,List.length_nil]; decide) (by simp only [go_sem]) ?_
 simp only [ini,go_sem]
 have hy := True.intro
 have hw1 := hw.1.1
 have hal := alW_len w
 have hw2 := hw.2.1
 have hVV := True.intro
 have hVl := True.intro
 refine Tr.w hcx [] _ [none,none] rfl rfl rfl ?_ X_fc25
 refine Tr.w hcx [] _ [none] rfl rfl rfl ?_ X_fc25
 refine Tr.seqK fun K1 hK1 => ?_
 refine Tr.w hcx [] _ [] rfl rfl rfl ?_ X_fc25
 refine Tr.k [2,3,13,14,15] ?_
 refine Tr.blk ?_
 refine Tr.k [2,3,13,14,15] ?_
 refine Tr.m1 hcx [1,2] ?_
 refine Tr.loopI (α := Nat) (fun a => [(2,?v2_1),(3,?v3_1),(13,?v13_1),(14,?v14_1),(15,.val (nI a))]) (fun a => [some (cl nC (List.replicate 3 0)),some [.val (nI w.length),.val (nI (nA w a)),.val (nI (pV w a).length)]]) (fun a => a ≤ w.length) (fun a => w.length - a) (0) (Nat.zero_le _) ?le_1 ?hh_1 ?bd_1
 case hh_1 => exact rfl
 case le_1 => exact LT
 rintro v hv
 have hp := pV_le w v
 have hn1 := nA_le w v
 have hn2 := nA_le w (v + 1)
 refine Tr.w hcx [] _ [] rfl rfl rfl ?_ X_fc25
 refine Tr.seqK fun K2 hK2 => ?_
 refine Tr.cD rfl (fun hc16 => ?_) (fun hc16 => ?_)
 ·
  obtain ⟨V,hV⟩ : ∃ V,gt w v = V := ⟨_,rfl⟩
  have hVV := hV
  have hVl := hw.1.2.1 v hc16
  have hAl := hw.1.2.2 v
  have hpS := pV_S w v hc16
  have hnS := nA_S w v hc16
  rw [hV] at hVl hAl hpS hnS
  have hpS := congrArg List.length hpS
  rw [List.length_append] at hpS
  refine Tr.skip ?_
  refine hK2 _ ?_
  refine Tr.seqK fun K3 hK3 => ?_
  refine Tr.blk ?_
  refine Tr.w hcx [] _ [none] rfl rfl rfl ?_ X_fc25
  refine Tr.w hcx [] _ [] rfl rfl rfl ?_ X_fc25
  refine Tr.w hcx [] _ [] rfl rfl rfl ?_ X_fc25
  refine Tr.k [2,3,13,14,15,27,28,29] ?_
  refine Tr.blk ?_
  refine Tr.k [2,3,13,14,15,27,28,29] ?_
  refine Tr.m1 hcx [0,1] ?_
  refine Tr.loopI (α := Nat) (fun a => [(2,?v2_2),(3,?v3_2),(13,?v13_2),(14,?v14_2),(15,?v15_2),(27,?v27_2),(28,?v28_2),(29,.val (nI a))]) (fun a => [some (cl nC (List.replicate 3 0)),some [.val (nI w.length),.val (nI (nA w v + V.length)),.val (nI ((pV w v).length + (pA V a).length))]]) (fun a => a ≤ V.length) (fun a => V.length - a) (0) (Nat.zero_le _) ?le_2 ?hh_2 ?bd_2
  case hh_2 => exact rfl
  case le_2 => exact LT
  rintro k hk
  have hp2 := pVA_le w v (k + 1) hc16
  rw [hV] at hp2
  refine Tr.w hcx [] _ [] rfl rfl rfl ?_ X_fc25
  refine Tr.seqK fun K4 hK4 => ?_
  refine Tr.cD rfl (fun hc30 => ?_) (fun hc30 => ?_)
  ·
   have hAk := hAl k hc16 hc30
   have hpA := congrArg List.length (pA_S V k hc30)
   rw [List.length_append] at hpA
   refine Tr.skip ?_
   refine hK4 _ ?_
   refine Tr.seqK fun K5 hK5 => ?_
   refine Tr.blk ?_
   refine Tr.w hcx [] _ [none] rfl rfl rfl ?_ X_fc25
   refine Tr.v hcx [] _ [] rfl rfl rfl ?_ X_fc25
   refine hK5 _ ?_
   refine Tr.k [2,3,13,14,15,27,28,29] ?_
   refine Tr.m1 hcx [0,1] ?_
   refine Tr.v hcx [] _ [] rfl rfl rfl ?_ X_fc25
   exact ⟨k + 1,⟨(by omega),O1⟩,LT,by simp only [hpA,Nat.add_assoc]⟩
  refine Tr.exit ?_
  refine hK3 _ ?_
  obtain rfl : k = V.length := by omega
  refine Tr.v hcx [] _ [] rfl rfl rfl ?_ X_fc25
  exact ⟨v + 1,⟨(by omega),O1⟩,LT,by simp only [nA_S w v hc16,hpS,hV]⟩
 refine Tr.exit ?_
 refine hK1 _ ?_
 obtain rfl : v = w.length := by omega
 rw [← alW_eq]
 refine Tr.w hcx [] _ [] rfl rfl rfl ?_ X_fc25
 exact Tr.ret F_fc25
end Go.Sx
namespace Go.Sx
open Go.RowKit Go.Proofs
set_option maxRecDepth 100000
set_option maxHeartbeats 8000000
theorem Tr.rfN {gl : Nat → C} {M : Nat} {pu : Nat → List C → Option C} {n : Nat} {Q : Ex → St → Prop} {g f m : Nat} {ps : List Nat} {assign body : Code} {e : List (Nat × C)} {h : Hp} {caps : List C} (N : Nat) (xs : Nat → List C) (H : Nat → Hp) (R : Nat → Hp → Prop) (F : Nat → Prop) (hg : A e g = .fn f caps) (hI : ItrB Tryd.prog gl f caps N xs R ∧ ∀ i,R m (H i))
    (hx : ∀ i,i < N → (xs i).length = ps.length) (hp : ∀ p ∈ ps,p < M) (h0 : h = H 0) (hF : F 0)
    (hb : ∀ i,i < N → F i → Tr (cxMT gl M pu) (H i).length assign ⟨A (bindL ps (xs i) (nrE e)),H i⟩ fun x s => x = .normal ∧ Tr (cxMT gl M pu) (H i).length body s (RoundQ (H i).length (fun k => k = H (i + 1) ∧ F (i + 1)) fun x h' => Q x ⟨A e,h'⟩))
    (hd : F N → Q .normal ⟨A e,H N⟩) : Tr (cxM gl M pu) n (.rangeFunc (.tmp g) ps.toArray assign body) ⟨A e,h⟩ Q :=
  Tr.rfI (cx := cxM gl M pu) rfl (fun i k => k = H i ∧ F i) hg (hI.1 m _ fun i k hk => by rw [hk.1]; exact hI.2 i) hx hp ⟨h0,hF⟩ (fun i k hi hk => by obtain ⟨rfl,hk⟩ := hk; rw [nrE_eq,bindL_eq]; exact hb i hi hk) (fun k hk => by obtain ⟨rfl,hk⟩ := hk; exact hd hk)
def ordW (w : Wrk) : Bool := (alW w).all ordP
def idsA (w : Wrk) : List ID := (alW w).map (·.1)
def bfW (w : Wrk) : Nat → Int
  | 0 => 2
  | i + 1 => (gt (rdW w) i).2.2.1
def stdA (w : Wrk) (j : Nat) : Bool := !(decide ((gt (rdW w) j).2.2.1 = 1) && (decide ((gt (rdW w) j).1.2.2 = 0) || decide (bfW w j = 2)))
def stdW (w : Wrk) : Bool := (List.range (rdW w).length).all (stdA w)
def valW (w : Wrk) : Nat := if largeW w = true then 4 else if ordW w = false then 1 else if titW w = false then 1 else if ¬ (idsA w).Nodup then 7 else if stdW w = false then 8 else 0
theorem valW_4 {w : Wrk} (h : largeW w = true) : valW w = 4 := if_pos h
theorem valW_1 {w : Wrk} (h : largeW w = false) (h1 : ordW w = false) : valW w = 1 := by unfold valW; rw [h,h1]; rfl
theorem valW_t {w : Wrk} (h : largeW w = false) (h1 : ordW w = true) (h2 : titW w = false) : valW w = 1 := by unfold valW; rw [h,h1,h2]; rfl
theorem valW_7 {w : Wrk} (h : largeW w = false) (h1 : ordW w = true) (h2 : titW w = true) (h3 : ¬ (idsA w).Nodup) : valW w = 7 := by unfold valW; rw [h,h1,h2,if_pos h3]; rfl
theorem valW_8 {w : Wrk} (h : largeW w = false) (h1 : ordW w = true) (h2 : titW w = true) (h3 : (idsA w).Nodup) (h4 : stdW w = false) : valW w = 8 := by simp [valW,h,h1,h2,h3,h4]
theorem valW_0 {w : Wrk} (h : largeW w = false) (h1 : ordW w = true) (h2 : titW w = true) (h3 : (idsA w).Nodup) (h4 : stdW w = true) : valW w = 0 := by simp [valW,h,h1,h2,h3,h4]
theorem ordW_T {w : Wrk} (h : ∀ j,j < (rdW w).length → ordP (gt (rdW w) j).2 = true) : ordW w = true := all_gt fun j hj => by rw [alW_gt w j (by rw [alW_len] at hj; exact hj)]; exact h j (by rw [alW_len] at hj; exact hj)
theorem ordW_F {w : Wrk} {j : Nat} (hj : j < (rdW w).length) (h : ordP (gt (rdW w) j).2 = false) : ordW w = false := all_gtF (by rw [alW_len]; exact hj) (by rw [alW_gt w j hj]; exact h)
theorem idsA_len (w : Wrk) : (idsA w).length = (rdW w).length := by unfold idsA; rw [List.length_map,alW_len]
theorem idsA_gt (w : Wrk) (i : Nat) (h : i < (rdW w).length) : gt (idsA w) i = (gt (rdW w) i).2.1 := by
  rw [← alW_gt w i h]
  have h2 : i < (alW w).length := by rw [alW_len]; exact h
  simp [idsA,gt,List.getD,List.getElem?_map,List.getElem?_eq_getElem h2]
theorem mem_insL {l : List ID} {x : ID} : x ∈ insL l ↔ x ∈ l := by
  have : ∀ (l M : List ID),x ∈ l.foldl insI M ↔ x ∈ M ∨ x ∈ l := fun l => by
    induction l with
    | nil => intro M; simp
    | cons y l ih =>
      intro M
      rw [List.foldl_cons,ih]
      unfold insI
      split
      · rename_i h
        constructor
        · rintro (h1 | h1)
          · exact .inl h1
          · exact .inr (List.mem_cons_of_mem _ h1)
        · rintro (h1 | h1)
          · exact .inl h1
          · rcases List.mem_cons.1 h1 with rfl | h1
            · exact .inl h
            · exact .inr h1
      · simp only [List.mem_append,List.mem_cons,List.not_mem_nil,or_false]
        constructor
        · rintro ((h1 | h1) | h1)
          · exact .inl h1
          · exact .inr (.inl h1)
          · exact .inr (.inr h1)
        · rintro (h1 | h1 | h1)
          · exact .inl (.inl h1)
          · exact .inl (.inr h1)
          · exact .inr h1
  have h := this l []
  unfold insL
  simpa using h
theorem nodup_F {l : List ID} {i : Nat} (h : i < l.length) (h2 : gt l i ∈ l.take i) : ¬ l.Nodup := by
  intro hn
  have e := take_sn l i h
  have h3 := (List.take_sublist (i + 1) l).nodup hn
  rw [← e,List.nodup_append] at h3
  exact h3.2.2 _ h2 _ (List.mem_singleton.2 rfl) rfl
theorem nodup_S {l : List ID} {i : Nat} (h : i < l.length) (hn : (l.take i).Nodup) (h2 : ¬ gt l i ∈ l.take i) : (l.take (i + 1)).Nodup := by
  rw [← take_sn l i h,List.nodup_append]
  refine ⟨hn,by simp,fun a ha b hb e => ?_⟩
  rw [List.mem_singleton] at hb; subst hb; subst e
  exact h2 ha
theorem stdA_T {w : Wrk} {j : Nat} (h : ¬ ((gt (rdW w) j).2.2.1 = 1 ∧ ((gt (rdW w) j).1.2.2 = 0 ∨ bfW w j = 2))) : stdA w j = true := by
  unfold stdA
  by_cases h1 : (gt (rdW w) j).2.2.1 = 1
  · rw [decide_eq_false (fun e => h ⟨h1,.inl e⟩),decide_eq_false (fun e => h ⟨h1,.inr e⟩)]; simp
  · rw [decide_eq_false h1]; rfl
theorem stdA_F {w : Wrk} {j : Nat} (h : (gt (rdW w) j).2.2.1 = 1) (h2 : (gt (rdW w) j).1.2.2 = 0 ∨ bfW w j = 2) : stdA w j = false := by
  unfold stdA
  rw [decide_eq_true h]
  rcases h2 with h2 | h2 <;> rw [decide_eq_true h2] <;> simp
theorem stdW_T {w : Wrk} (h : ∀ j,j < (rdW w).length → stdA w j = true) : stdW w = true := by
  unfold stdW; rw [List.all_eq_true]; exact fun j hj => h j (List.mem_range.1 hj)
theorem stdW_F {w : Wrk} {j : Nat} (hj : j < (rdW w).length) (h : stdA w j = false) : stdW w = false := by
  unfold stdW; rw [List.all_eq_false]; exact ⟨j,List.mem_range.2 hj,by rw [h]; simp⟩
theorem nrRow3 {w : Wrk} {M : List ID} {r : Hp} {k : Nat} (b : Nat) (cells : List C) (hb : b < 3) (hq : (some [sl vC .no w] :: some [.val (nI 0)] :: some (mapC (entI M)) :: r : Hp)[b]? = some (some cells)) : noRefs k cells = true := by
  rcases b with _ | _ | _ | b
  · cases hq; simp only [noRefs_cons,noRefs_nil,noRef_sl,Bool.and_self]
  · cases hq; rfl
  · cases hq; exact mapI_nrk _ _
  · omega
theorem X_fc12 {p : Prop} (e : p := by intro KZ hZ; simp -implicitDefEqProofs (disch := first | omega | (simp only [go_sem,lA,lD,lT] <;> omega) | decide) only [go_sem,↓reduceIte,Nat.reduceEqDiff,reduceCtorEq,Nat.reduceLT,Nat.reduceBEq,Nat.reduceAdd,e52,h53,e55,e54,ep,hPx,c0,c1,c2,c3,d1,d2,d3,hy]; with_reducible exact hZ) : p := e
theorem F_fc12 {p : Prop} (e : p := by simp -implicitDefEqProofs (disch := first | omega | (simp only [go_sem,lA,lD,lT] <;> omega) | decide) only [go_sem,↓reduceIte,Nat.reduceEqDiff,reduceCtorEq]; all_goals (first | rw [hR] | (rw [hR]; rfl))) : p := e
theorem fc12 {gl : Nat → C} {M : Nat} {pu : Nat → List C → Option C} (hcx : CxOK (cxM gl M pu)) (h52 : ∀ w : Wrk,WS w → pu 52 [.agg [sl vC .no w]] = some (.val (.bool (largeW w)))) (h53 : ∀ w : Wrk,pu 53 [.agg [sl vC .no w]] = some (.fn 93 [.kp [sl vC .no w]])) (h54 : ∀ p : Psg,p.2.2.2.1.length ≤ 1000000 → p.2.2.2.2.length ≤ 1000000 → pu 54 [.agg (pC p)] = some (.val (.bool (ordP p)))) (h55 : ∀ w : Wrk,WB w → (∀ v a,v < w.length → a < (gt w v).length → (gt (gt w v) a).1.length ≤ 1000000) → pu 55 [.agg [sl vC .no w]] = some (.val (.bool (titW w)))) (w : Wrk) (hw : WS w) (ht : ∀ i,i < (rdW w).length → (gt (rdW w) i).2.2.2.2.1.length ≤ 1000000) (htt : ∀ v a,v < w.length → a < (gt w v).length → (gt (gt w v) a).1.length ≤ 1000000) (hid : ∀ i,i < (rdW w).length → IdOk (gt (rdW w) i).2.1) : FC Tryd.prog gl 12 [.agg [sl vC .no w]] [] (.val (nI (valW w))) [] := by
 replace hcx := hcx.reN (M := 51)
 refine FC.ofA (cx := cxM gl 51 pu) (rs := [.cell 2 25]) rfl Tryd.func12 rfl rfl rfl (by simp only [List.length_cons,List.length_nil]; decide) (by simp only [go_sem]) ?_
 simp only [ini,go_sem]
 have c0 := True.intro
 have c1 := True.intro
 have c2 := True.intro
 have c3 := True.intro
 have d1 := True.intro
 have d2 := True.intro
 have d3 := True.intro
 have hy := True.intro
 have e52 := h52 w hw
 have e55 := h55 w hw.1 htt
 have e54 := True.intro
 have ep := True.intro
 have hPx := True.intro
 have hmv := fun (ρ : List Nat) (M : List ID) => mvCs_nr ρ (mapC (entI M)) (mapI_nr M)
 refine Tr.w hcx [] _ [none,none] rfl rfl rfl ?_ X_fc12
 refine Tr.seqK fun K1 hK1 => ?_
 by_cases c0 : largeW w = true
 ·
  skip
  refine Tr.w hcx [] _ [] rfl rfl rfl ?_ X_fc12
  refine Tr.cT rfl ?_
  have hR := valW_4 c0
  refine Tr.w hcx [] _ [] rfl rfl rfl ?_ X_fc12
  exact Tr.ret F_fc12
 replace c0 := (Bool.not_eq_true _).mp c0
 refine Tr.w hcx [] _ [] rfl rfl rfl ?_ X_fc12
 refine Tr.cF rfl ?_
 refine Tr.skip ?_
 refine hK1 _ ?_
 refine Tr.seqK fun K2 hK2 => ?_
 refine Tr.w hcx [] _ [] rfl rfl rfl ?_ X_fc12
 refine Tr.blk ?_
 refine Tr.k [1,2,14] ?_
 refine Tr.rfN ((rdW w).length) (xsW w) (fun i => [some [sl vC .no w],some [.val (nI 0)]]) (RowN) (fun i => ∀ j,j < i → ordP (gt (rdW w) j).2 = true) rfl (⟨it93 (cxP_of hcx) w hw.1,fun i => (RowN.nil.c rfl rfl).c (by simp only [noRefs_cons,noRefs_nil,noRef_sl,Bool.and_self]) rfl⟩) (fun i hi => rfl) (by decide) (rfl) (fun j hj => absurd hj (Nat.not_lt_zero j)) ?rb_1 ?rd_1
 case rb_1 =>
  intro i hi hF
  replace hcx := hcx.rnd
  have hMO := @hMOT
  simp only [go_sem]
  have e54 := h54 _ (ht i hi) (hw.2.2 i hi)
  refine Tr.v hcx [] _ [none] rfl rfl rfl ?_ X_fc12
  refine ⟨rfl,?_⟩
  refine Tr.k [2,4] ?_
  refine Tr.blk ?_
  by_cases c1 : ordP (gt (rdW w) i).2 = true
  ·
   skip
   refine Tr.w hcx [] _ [] rfl rfl rfl ?_ X_fc12
   refine Tr.cF rfl ?_
   refine Tr.skip ?_
   exact RoundQ.c (⟨rfl,fun j hj => (Nat.lt_or_eq_of_le (Nat.le_of_lt_succ hj)).elim (hF j) (fun e => by subst e; exact c1)⟩)
  replace c1 := (Bool.not_eq_true _).mp c1
  refine Tr.w hcx [] _ [] rfl rfl rfl ?_ X_fc12
  refine Tr.cT rfl ?_
  have hR := valW_1 c0 (ordW_F hi c1)
  refine Tr.w hcx [] _ [] rfl rfl rfl ?_ X_fc12
  exact Tr.ret (RoundQ.r F_fc12)
 case rd_1 =>
  intro hF1
  have hO := ordW_T hF1
  refine hK2 _ ?_
  refine Tr.seqK fun K3 hK3 => ?_
  by_cases c2 : titW w = true
  ·
   skip
   refine Tr.w hcx [] _ [] rfl rfl rfl ?_ X_fc12
   refine Tr.cF rfl ?_
   refine Tr.skip ?_
   refine hK3 _ ?_
   refine Tr.w hcx [] _ [none] rfl rfl rfl ?_ X_fc12
   refine Tr.seqK fun K4 hK4 => ?_
   refine Tr.f1 hcx 2 [.mp 3] ?_
   refine Tr.k [1,2,5] ?_
   refine Tr.m1 hcx [0,1,3] ?_
   refine Tr.w hcx [] _ [] rfl rfl rfl ?_ X_fc12
   refine Tr.blk ?_
   refine Tr.k [1,2,5,25] ?_
   refine Tr.rfN ((rdW w).length) (xsW w) (fun i => [some [sl vC .no w],some [.val (nI 0)],some (mapC (entI (insL ((idsA w).take i))))]) (RowN) (fun i => ((idsA w).take i).Nodup) rfl (⟨it93 (cxP_of hcx) w hw.1,fun i => ((RowN.nil.m (mapI_nr _)).c rfl rfl).c (by simp only [noRefs_cons,noRefs_nil,noRef_sl,Bool.and_self]) rfl⟩) (fun i hi => rfl) (by decide) (rfl) (List.nodup_nil) ?rb_2 ?rd_2
   case rb_2 =>
    intro i hi hF
    replace hcx := hcx.rnd
    have hMO := @hMOT
    simp only [go_sem]
    have hIl : i < (idsA w).length := by rw [idsA_len]; exact hi
    have hg := idsA_gt w i hi
    have hM : OkI (insL ((idsA w).take i)) := insL_ok fun x hx => by
      obtain ⟨j,hj,rfl⟩ := List.getElem_of_mem (List.mem_of_mem_take hx)
      have hj2 : j < (rdW w).length := by rw [← idsA_len]; exact hj
      have := hid j hj2
      rw [← idsA_gt w j hj2] at this
      simpa [gt,List.getD,List.getElem?_eq_getElem hj] using this
    have ex := hid i hi
    have hm0 := mem_insL (l := (idsA w).take i) (x := gt (idsA w) i)
    have hS2 := insL_sn (idsA w) i hIl
    have hD := nodup_F hIl
    have hE := nodup_S hIl hF
    obtain ⟨P,hP⟩ : ∃ P,(gt (rdW w) i).2 = P := ⟨_,rfl⟩
    rw [hP] at ex hg
    rw [hP]
    rw [hg] at hm0 hS2 hD hE
    obtain ⟨S,hS⟩ : ∃ S,insL ((idsA w).take i) = S := ⟨_,rfl⟩
    rw [hS] at hM hm0 hS2
    rw [hS]
    have ep := And.intro (fun a b r => look_I (cx := cxMT gl 51 pu) rfl rfl (h := a :: b :: some (mapC (entI S)) :: r) (b := 2) rfl hM ex) (fun a b r => put_I (cx := cxMT gl 51 pu) rfl rfl (h := a :: b :: some (mapC (entI S)) :: r) (b := 2) rfl hM ex)
    refine Tr.v hcx [] _ [none] rfl rfl rfl ?_ X_fc12
    refine ⟨rfl,?_⟩
    refine Tr.k [2,5,7] ?_
    refine Tr.blk ?_
    refine Tr.seqK fun K5 hK5 => ?_
    by_cases c3 : P.1 ∈ S
    ·
     refine Tr.w hcx [] _ [] rfl rfl rfl ?_ X_fc12
     refine Tr.cT rfl ?_
     have hR := valW_7 c0 hO c2 (hD (hm0.1 c3))
     refine Tr.w hcx [] _ [] rfl rfl rfl ?_ X_fc12
     exact Tr.ret (RoundQ.r F_fc12)
    refine Tr.w hcx [] _ [] rfl rfl rfl ?_ X_fc12
    refine Tr.cF rfl ?_
    refine Tr.skip ?_
    refine hK5 _ ?_
    refine Tr.v hcx [] _ [] rfl rfl rfl ?_ X_fc12
    exact RoundQ.c (⟨by simp only [← hS2]; rfl,hE (fun h => c3 (hm0.2 h))⟩) (nrRow3)
   case rd_2 =>
    intro hF2
    have hN : (idsA w).Nodup := by rw [← idsA_len,List.take_length] at hF2; exact hF2
    refine hK4 _ ?_
    refine Tr.w hcx [] _ [none] rfl rfl rfl ?_ X_fc12
    refine Tr.seqK fun K6 hK6 => ?_
    refine Tr.k [1,2,8] ?_
    refine Tr.m1 hcx [0,1,3] ?_
    refine Tr.w hcx [] _ [] rfl rfl rfl ?_ X_fc12
    refine Tr.blk ?_
    refine Tr.k [2,8,36] ?_
    refine Tr.m1 hcx [1,2] ?_
    refine Tr.rfN ((rdW w).length) (xsW w) (fun i => [some [.val (nI 0)],some [.val (.int .i64 (bfW w i))]]) (RowN) (fun i => ∀ j,j < i → stdA w j = true) rfl (⟨it93 (cxP_of hcx) w hw.1,fun i => (RowN.nil.c rfl rfl).c rfl rfl⟩) (fun i hi => rfl) (by decide) (rfl) (fun j hj => absurd hj (Nat.not_lt_zero j)) ?rb_3 ?rd_3
    case rb_3 =>
     intro i hi hF
     replace hcx := hcx.rnd
     have hMO := @hMOT
     simp only [go_sem]
     have hsT := stdA_T (w := w) (j := i)
     have hsF := stdA_F (w := w) (j := i)
     have hbS : bfW w (i + 1) = (gt (rdW w) i).2.2.1 := rfl
     obtain ⟨P,hP⟩ : ∃ P,(gt (rdW w) i).2 = P := ⟨_,rfl⟩
     obtain ⟨B,hB⟩ : ∃ B,bfW w i = B := ⟨_,rfl⟩
     obtain ⟨X,hX⟩ : ∃ X,(gt (rdW w) i).1.2.2 = X := ⟨_,rfl⟩
     rw [hP] at hsT hsF hbS
     rw [hP]
     rw [hB] at hsT hsF
     rw [hB]
     rw [hX] at hsT hsF
     have hPx := And.intro hP hX
     refine Tr.w hcx [] _ [none] rfl rfl rfl ?_ X_fc12
     refine Tr.v hcx [] _ [none] rfl rfl rfl ?_ X_fc12
     refine ⟨rfl,?_⟩
     refine Tr.k [2,8,9,10] ?_
     refine Tr.blk ?_
     refine Tr.seqK fun K7 hK7 => ?_
     by_cases d1 : X = 0
     ·
      have d1o := d1
      replace d1 := eq_true d1
      refine Tr.w hcx [] _ [] rfl rfl rfl ?_ X_fc12
      refine Tr.cT rfl ?_
      refine Tr.v hcx [] _ [] rfl rfl rfl ?_ X_fc12
      refine hK7 _ ?_
      refine Tr.seqK fun K8 hK8 => ?_
      by_cases d2 : P.2.1 = ((1 : Nat) : Int)
      ·
       have d2o := d2
       replace d2 := eq_true d2
       have d3 := True.intro
       refine Tr.w hcx [] [some 42,some 43,some 44,some 45,some 46,some 47,some 48] [] rfl rfl rfl ?_ X_fc12
       refine Tr.cT rfl ?_
       have hR := valW_8 c0 hO c2 hN (stdW_F hi (hsF d2o (.inl d1o)))
       refine Tr.w hcx [] _ [] rfl rfl rfl ?_ X_fc12
       exact Tr.ret (RoundQ.r F_fc12)
      have d2o := d2
      replace d2 := eq_false d2
      have d3 := True.intro
      refine Tr.w hcx [] [some 42,some 43,some 44,some 45,some 46,some 47,some 48] [] rfl rfl rfl ?_ X_fc12
      refine Tr.cF rfl ?_
      refine Tr.skip ?_
      refine hK8 _ ?_
      refine Tr.v hcx [] _ [] rfl rfl rfl ?_ X_fc12
      exact RoundQ.c (⟨by simp only [hbS]; rfl,fun j hj => (Nat.lt_or_eq_of_le (Nat.le_of_lt_succ hj)).elim (hF j) (fun e => by subst e; exact hsT (by rintro ⟨q1,q2⟩; first | exact d2o q1 | exact q2.elim d1o d3o))⟩)
     have d1o := d1
     replace d1 := eq_false d1
     refine Tr.w hcx [] _ [] rfl rfl rfl ?_ X_fc12
     refine Tr.cF rfl ?_
     refine Tr.skip ?_
     refine hK7 _ ?_
     refine Tr.seqK fun K9 hK9 => ?_
     by_cases d2 : P.2.1 = ((1 : Nat) : Int)
     ·
      have d2o := d2
      replace d2 := eq_true d2
      by_cases d3 : B = ((2 : Nat) : Int)
      ·
       have d3o := d3
       replace d3 := eq_true d3
       skip
       refine Tr.w hcx [] [some 42,some 43,some 44,some 45,some 46,some 47,some 48] [] rfl rfl rfl ?_ X_fc12
       refine Tr.cT rfl ?_
       have hR := valW_8 c0 hO c2 hN (stdW_F hi (hsF d2o (.inr d3o)))
       refine Tr.w hcx [] _ [] rfl rfl rfl ?_ X_fc12
       exact Tr.ret (RoundQ.r F_fc12)
      have d3o := d3
      replace d3 := eq_false d3
      skip
      refine Tr.w hcx [] [some 42,some 43,some 44,some 45,some 46,some 47,some 48] [] rfl rfl rfl ?_ X_fc12
      refine Tr.cF rfl ?_
      refine Tr.skip ?_
      refine hK9 _ ?_
      refine Tr.v hcx [] _ [] rfl rfl rfl ?_ X_fc12
      exact RoundQ.c (⟨by simp only [hbS]; rfl,fun j hj => (Nat.lt_or_eq_of_le (Nat.le_of_lt_succ hj)).elim (hF j) (fun e => by subst e; exact hsT (by rintro ⟨q1,q2⟩; first | exact d2o q1 | exact q2.elim d1o d3o))⟩)
     have d2o := d2
     replace d2 := eq_false d2
     have d3 := True.intro
     refine Tr.w hcx [] [some 42,some 43,some 44,some 45,some 46,some 47,some 48] [] rfl rfl rfl ?_ X_fc12
     refine Tr.cF rfl ?_
     refine Tr.skip ?_
     refine hK9 _ ?_
     refine Tr.v hcx [] _ [] rfl rfl rfl ?_ X_fc12
     exact RoundQ.c (⟨by simp only [hbS]; rfl,fun j hj => (Nat.lt_or_eq_of_le (Nat.le_of_lt_succ hj)).elim (hF j) (fun e => by subst e; exact hsT (by rintro ⟨q1,q2⟩; first | exact d2o q1 | exact q2.elim d1o d3o))⟩)
    case rd_3 =>
     intro hF3
     have hR := valW_0 c0 hO c2 hN (stdW_T hF3)
     refine hK6 _ ?_
     refine Tr.w hcx [] _ [] rfl rfl rfl ?_ X_fc12
     exact Tr.ret F_fc12
  replace c2 := (Bool.not_eq_true _).mp c2
  refine Tr.w hcx [] _ [] rfl rfl rfl ?_ X_fc12
  refine Tr.cT rfl ?_
  have hR := valW_t c0 hO c2
  refine Tr.w hcx [] _ [] rfl rfl rfl ?_ X_fc12
  exact Tr.ret F_fc12
end Go.Sx
namespace Go.Sx
open Go.RowKit
structure Mk (P : Program) (gl : Nat → C) (f : Nat) (α : Type) where
  args : α → List C
  r : α → C
  Y : α → Hp
  nr : ∀ a,noRefs 0 (args a) = true
  inj : ∀ a b,args a = args b → r a = r b ∧ Y a = Y b
  fc : ∀ a,FC P gl f (args a) [] (r a) (Y a)
section
variable {P : Program} {gl : Nat → C} {f : Nat} {α : Type}
abbrev MkD (α : Type) := α × {h : Hp // OkH h}
def Mk.enc (S : Mk P gl f α) (x : MkD α) : List C × Hp := (S.args x.1,x.2.1)
def Mk.out (S : Mk P gl f α) (x : MkD α) : C × Hp := (bkC (x.2.1.length + ·) (S.r x.1),x.2.1 ++ shH x.2.1.length (S.Y x.1))
theorem Mk.ij (S : Mk P gl f α) (x y : MkD α) (h : S.enc x = S.enc y) : S.out x = S.out y := by
  obtain ⟨a,k,hk⟩ := x; obtain ⟨b,m,hm⟩ := y
  simp only [Mk.enc,Prod.mk.injEq] at h
  obtain ⟨h1,rfl⟩ := h
  obtain ⟨q1,q2⟩ := S.inj a b h1
  simp only [Mk.out,q1,q2]
noncomputable def Mk.tab (S : Mk P gl f α) (hp : Nat → List C → Hp → Option (C × Hp)) : Nat → List C → Hp → Option (C × Hp) := extH hp f (tabH S.enc S.out)
theorem CxOK.mk1 {km : TypeId → Value → Bool} {pu : Nat → List C → Option C} {hp : Nat → List C → Hp → Option (C × Hp)} {N M : Nat} (hcx : CxOK ⟨P,N,gl,pu,hp,fun _ => false,km,true⟩) (S : Mk P gl f α) :
    CxOK ⟨P,M,gl,pu,S.tab hp,fun _ => false,km,true⟩ := CxOK.extH hcx fun x => by
  obtain ⟨a,pre,hpre⟩ := x
  have h := FC.pre (S.fc a) pre hpre (fun o ho => by cases ho) (S.nr a) (fun o ho => by cases ho) (Nat.zero_le _) hcx.glo
  rw [bks_nr _ _ (S.nr a),show shH pre.length ([] : Hp) = [] from rfl,List.append_nil] at h
  exact h
theorem Mk.look (S : Mk P gl f α) (hp : Nat → List C → Hp → Option (C × Hp)) (a : α) (pre : Hp) (h1 : OkH pre) :
    S.tab hp f (S.args a) pre = some (bkC (pre.length + ·) (S.r a),pre ++ shH pre.length (S.Y a)) :=
  (extH_hit _ _).trans (tabH_enc S.ij (a,⟨pre,h1⟩))
end
end Go.Sx
namespace Go.Sx
open Go.RowKit Go.Proofs
set_option maxRecDepth 100000
set_option maxHeartbeats 8000000
theorem wrz7_3 (a b c d e f g x y z : C) : wrc [a,b,c,d,e,f,g] 0 [x,y,z] = some ([x,y,z,d,e,f,g],.val undef) := rfl
attribute [go_sem high] wrz7_3
theorem bsG37_3 (u : TypeDesc) (y : Nat) (a0 a1 a2 a3 a4 a5 a6 b0 b1 b2 b3 b4 b5 b6 c0 c1 c2 c3 c4 c5 c6 : C) : bsG 37 (some ⟨u,7,y,[nI 0,nI 0,nI 0,nI 0,nI 0,str [],.slice none 0 0]⟩) 3 [(0,.agg [a0,a1,a2,a3,a4,a5,a6]),(1,.agg [b0,b1,b2,b3,b4,b5,b6]),(2,.agg [c0,c1,c2,c3,c4,c5,c6])] = some (.ap none (7,37) 3 fun _ => some [a0.noR,a1.noR,a2.noR,a3.noR,a4.noR,a5.noR,a6.noR,b0.noR,b1.noR,b2.noR,b3.noR,b4.noR,b5.noR,b6.noR,c0.noR,c1.noR,c2.noR,c3.noR,c4.noR,c5.noR,c6.noR]) := rfl
theorem bsG48_1 (u : TypeDesc) (y : Nat) (a b : C) : bsG 48 (some ⟨u,2,y,[str [],.slice none 0 0]⟩) 1 [(0,.agg [a,b])] = some (.ap none (2,48) 1 fun _ => some [a.noR,b.noR]) := rfl
theorem bsG46_1 (u : TypeDesc) (y : Nat) (a : C) : bsG 46 (some ⟨u,1,y,[.slice none 0 0]⟩) 1 [(0,.agg [a])] = some (.ap none (1,46) 1 fun _ => some [a.noR]) := rfl
attribute [go_sem high] bsG37_3 bsG48_1 bsG46_1
def tKing : List UInt8 := [116,104,101,32,107,105,110,103,32,64]
def tLyre : List UInt8 := [97,32,108,121,114,101]
def tRome : List UInt8 := [114,111,109,101]
def tOdes : List UInt8 := [79,100,101,115]
def exPs : List Psg := [((0,0,0),0,0,tKing,[(0,1,0)]),((0,1,0),1,0,tLyre,[]),((0,2,0),2,0,tRome,[])]
theorem X_fc64 {p : Prop} (e : p := by intro KZ hZ; simp -implicitDefEqProofs (disch := first | omega | (simp only [go_sem,lA,lD,lT] <;> omega) | decide) only [go_sem,↓reduceIte,Nat.reduceEqDiff,reduceCtorEq,Nat.reduceLT,Nat.reduceBEq,Nat.reduceAdd,hy]; with_reducible exact hZ) : p := e
theorem F_fc64 {p : Prop} (e : p := by simp -implicitDefEqProofs (disch := first | omega | (simp only [go_sem,lA,lD,lT] <;> omega) | decide) only [go_sem,↓reduceIte,Nat.reduceEqDiff,reduceCtorEq]; all_goals (rfl)) : p := e
theorem fc64 {gl : Nat → C} {M : Nat} {pu : Nat → List C → Option C} (hcx : CxOK (cxP gl M pu)) : FC Tryd.prog gl 64 [] [] (.agg [.gv 3 1 (1,46)]) [some [.gv 3 1 (1,46)],some (cl pC exPs),some [.val (str tOdes),.gv 1 3 (7,37)],some [.gv 2 1 (2,48)]] := by
 replace hcx := hcx.reN (M := 16)
 refine FC.ofH (cx := cxP gl 16 pu) (rs := [.cell 0 29]) rfl Tryd.func64 rfl rfl rfl (by simp only [List.length_cons,List.length_nil]; decide) ?_
 simp only [ini,go_sem]
 have hy := True.intro
 refine Tr.w hcx [] _ [none] rfl rfl rfl ?_ X_fc64
 refine Tr.wG hcx [9] [1000009] _ [] rfl rfl rfl ?_ X_fc64
 refine Tr.wG hcx [12,14] [] _ [] rfl rfl rfl ?_ X_fc64
 refine Tr.bxc 1 6 (sl iD .no [(0,1,0)]) _ rfl rfl (CLe.full ..) rfl ?_
 refine Tr.bxc 1 13 (sl iD .no []) _ rfl rfl (CLe_sln rfl) rfl ?_
 refine Tr.bxc 1 20 (sl iD .no []) _ rfl rfl (CLe_sln rfl) rfl ?_
 simp only [List.set_cons_succ,List.set_cons_zero]
 exact Tr.ret F_fc64
end Go.Sx
