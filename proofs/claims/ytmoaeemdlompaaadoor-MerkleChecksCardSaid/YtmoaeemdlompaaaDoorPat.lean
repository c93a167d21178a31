/-
   And what follows.
-/
import Derived.Test.YtmoaeemdlompaaaDoorPas
set_option linter.unusedSimpArgs false
set_option linter.unusedVariables false
namespace Go.Sx
open Go.RowKit Go.Proofs
set_option maxRecDepth 100000
set_option maxHeartbeats 8000000
abbrev Prf := Nat × Nat × List Leaf × List Dig
def shwT (l : List Leaf) (f e : Nat) : Prf := (f,l.length,(l.drop f).take (e - f),shdT l f e)
def prvT (l : List Leaf) (k : List UInt8) : Prf × Nat :=
  if valT l = 0 then ((if fromT l k < l.length ∧ (gt l (fromT l k)).1 = k then shwT l (fromT l k) (fromT l k + 1) else shwT l (fromT l k - 1) (min (fromT l k + 1) l.length)),0) else ((0,0,[],[]),valT l)
def rngT (l : List Leaf) (x y : List UInt8) : Prf × Nat :=
  if valT l = 0 then (if bl y x = true then ((0,0,[],[]),5) else (shwT l (fromT l x - 1) (min (fromT l y + 1) l.length),0)) else ((0,0,[],[]),valT l)
theorem prv_1 {l : List Leaf} {k : List UInt8} (h : ¬ valT l = 0) : prvT l k = ((0,0,[],[]),valT l) := if_neg h
theorem prv_2 {l : List Leaf} {k : List UInt8} {i : Nat} (hi : fromT l k = i) (h : valT l = 0) (h2 : i < l.length) (h3 : (gt l i).1 = k) : prvT l k = (shwT l i (i + 1),0) := by subst hi; unfold prvT; rw [if_pos h,if_pos ⟨h2,h3⟩]
theorem prv_3 {l : List Leaf} {k : List UInt8} {i : Nat} (hi : fromT l k = i) (h : valT l = 0) (h2 : ¬ (i < l.length ∧ (gt l i).1 = k)) : prvT l k = (shwT l (i - 1) (min (i + 1) l.length),0) := by subst hi; unfold prvT; rw [if_pos h,if_neg h2]
theorem rng_1 {l : List Leaf} {x y : List UInt8} (h : ¬ valT l = 0) : rngT l x y = ((0,0,[],[]),valT l) := if_neg h
theorem rng_2 {l : List Leaf} {x y : List UInt8} (h : valT l = 0) (h2 : bl y x = true) : rngT l x y = ((0,0,[],[]),5) := by unfold rngT; rw [if_pos h,if_pos h2]
theorem rng_3 {l : List Leaf} {x y : List UInt8} (h : valT l = 0) (h2 : ¬ bl y x = true) : rngT l x y = (shwT l (fromT l x - 1) (min (fromT l y + 1) l.length),0) := by unfold rngT; rw [if_pos h,if_neg h2]
theorem from_le (l : List Leaf) (k : List UInt8) : fromT l k ≤ l.length := cntL l k l.length
theorem maxI (i : Nat) : (C.val (.int .i64 (max ((i : Int) - ((1 : Nat) : Int)) ((0 : Nat) : Int)))) = .val (nI (i - 1)) := by
  congr 2; omega
theorem from_mono {l : List Leaf} {x y : List UInt8} (hs : Srt l) (h : bl y x = false) : fromT l x ≤ fromT l y := by
  have key : ∀ n,cntT l x n ≤ cntT l y n := fun n => by
    unfold cntT
    rw [← List.countP_eq_length_filter,← List.countP_eq_length_filter]
    exact List.countP_mono_left fun p _ hp => bl_lt_le hp h
  exact key _
theorem X_fc57 {p : Prop} (e : p := by intro KZ hZ; simp -implicitDefEqProofs (disch := first | omega | (simp only [go_sem,lA,lD,lT] <;> omega) | decide) only [go_sem,↓reduceIte,Nat.reduceEqDiff,reduceCtorEq,Nat.reduceLT,Nat.reduceBEq,Nat.reduceAdd,hy]; with_reducible exact hZ) : p := e
theorem Y_fc57 {p : Prop} (e : p := by intro KZ hZ; simp -implicitDefEqProofs (disch := first | omega | (simp only [go_sem,lA,lD,lT] <;> omega) | decide) only [go_sem,↓reduceIte,Nat.reduceEqDiff,reduceCtorEq,Nat.reduceLT,Nat.reduceBEq,Nat.reduceAdd,hy]; with_reducible refine And.intro ?_ hZ; first | exact rfl | decide) : p := e
theorem F_fc57 {p : Prop} (e : p := by simp -implicitDefEqProofs (disch := first | omega | (simp only [go_sem,lA,lD,lT] <;> omega) | decide) only [go_sem,↓reduceIte,Nat.reduceEqDiff,reduceCtorEq]; all_goals (first | (rw [hR]; done) | (rw [hR]; rfl))) : p := e
theorem fc57 {gl : Nat → C} {M : Nat} {pu : Nat → List C → Option C} {hp : Nat → List C → Hp → Option (C × Hp)} (hcx : CxOK (cxR gl M pu hp)) (hnr : ∀ (g : Nat) (xs : List C),noRefs 0 xs = false → pu g xs = none) (h63 : ∀ l : List Leaf,l.length ≤ 1000000 → pu 63 [sl eC .no l] = some (sl eC (.own 2) l)) (hn91 : ∀ xs : List C,(∃ b o,C.bp b o ∈ xs) → hp 91 xs [] = some (.top,[])) (hq91 : ∀ (pre suf : Hp) (l : List Leaf) (f e z : Nat) (lv : List Leaf) (S : List Dig) (d a b : Nat),OkH pre → OkH suf → OkL l → f ≤ 5000 ∧ e ≤ 5000 → S.length ≤ 100000 - 2 ^ d → d ≤ 12 → a < b ∧ b ≤ l.length ∧ b - a ≤ 2 ^ d → hp 91 [.val (nI a),.val (nI b),.kp [.val (nI f)],.kp [.val (nI e)],.bp pre.length 0,.kp [sl eC .no l],atG 91 [.kp [.val (nI f)],.kp [.val (nI e)],.bp pre.length 0,.kp [sl eC .no l]] d] (pre ++ ([some [.val (nI f),.val (nI z),sl eC .no lv,sl dC (.own 16) (S)]] ++ suf)) = some (.tup [],pre ++ ([some [.val (nI f),.val (nI z),sl eC .no lv,sl dC (.own 16) (S ++ sdsT l f e d a b)]] ++ suf))) (l : List Leaf) (f e : Nat) (hl : OkL l) (hfe : f ≤ e ∧ e ≤ l.length) : FC Tryd.prog gl 57 [sl eC .no l,.val (nI f),.val (nI e)] [] (.agg [.val (nI f),.val (nI l.length),sl eC .no ((l.drop f).take (e - f)),sl dC .no (shdT l f e)]) [] := by
 replace hcx := hcx.reN (M := 27)
 refine FC.ofA (cx := cxR gl 27 pu hp) (rs := [.cell 6 50]) rfl Tryd.func57 rfl rfl rfl (by simp only [List.length_cons,List.length_nil]; decide) (by simp only [go_sem]) ?_
 simp only [ini,go_sem]
 have hy := True.intro
 have hll := hl.1
 have e63 := h63 ((l.drop f).take (e - f)) (by rw [List.length_take,List.length_drop]; omega)
 refine Tr.w hcx [] _ [none,none,none,none] rfl rfl rfl ?_ X_fc57
 have hy := @e63
 refine Tr.wD hcx hMOR [] _ [none] rfl rfl rfl rfl ?_ Y_fc57
 have hy := True.intro
 refine Tr.w hcx [] _ [none] rfl rfl rfl ?_ X_fc57
 refine Tr.w hcx [] _ [] rfl rfl rfl ?_ X_fc57
 refine Tr.seqK fun K1 hK1 => ?_
 refine Tr.k [3,6,7,8] ?_
 refine Tr.bxc 4 3 (sl dC (.own 16) []) _ rfl rfl (CLe_sln rfl) rfl ?_
 simp only [List.set_cons_succ,List.set_cons_zero]
 refine Tr.f1 hcx 0 [sl eC .no l] ?_
 refine Tr.f1 hcx 1 [.val (nI f)] ?_
 refine Tr.f1 hcx 2 [.val (nI e)] ?_
 refine Tr.f2 hcx 5 12 91 [.kp [.val (nI f)],.kp [.val (nI e)],.bp 4 0,.kp [sl eC .no l]] ?_
 refine Tr.m1 hcx [3,4] ?_
 refine Tr.w hcx [] _ [] rfl rfl rfl ?_ X_fc57
 refine Tr.cD rfl (fun hc21 => ?_) (fun hc21 => ?_)
 ·
  have hR := shd_n (l := l) (f := f) (e := e) (by omega)
  have e91 := hq91 [some [.val (nI 0),.val (nI 0),.val (.slice none 0 0),.val (.slice none 0 0)]] [] l f e l.length ((l.drop f).take (e - f)) [] 12 0 l.length (OkH.cons rfl OkH.nil) OkH.nil hl (by omega) (by simp) (by omega) (by omega)
  simp only [List.cons_append,List.nil_append,List.length_cons,List.length_nil,Nat.zero_add] at e91
  have en : ∀ x y : Nat,hp 91 [.val (nI x),.val (nI y),.kp [.val (nI f)],.kp [.val (nI e)],.bp 1 0,.kp [sl eC .no l],atG 91 [.kp [.val (nI f)],.kp [.val (nI e)],.bp 1 0,.kp [sl eC .no l]] 12] [] = some (.top,[]) := fun x y => hn91 _ ⟨1,0,by simp⟩
  have ep : ∀ x y : Nat,pu 91 [.val (nI x),.val (nI y),.kp [.val (nI f)],.kp [.val (nI e)],.bp 1 0,.kp [sl eC .no l],atG 91 [.kp [.val (nI f)],.kp [.val (nI e)],.bp 1 0,.kp [sl eC .no l]] 12] = none := fun x y => hnr 91 _ rfl
  have hy := And.intro @e91 (And.intro @en @ep)
  refine Tr.v hcx [] _ [] rfl rfl rfl ?_ X_fc57
  refine hK1 _ ?_
  refine Tr.k [6,7] ?_
  have hy := True.intro
  refine Tr.w hcx [] _ [] rfl rfl rfl ?_ X_fc57
  exact Tr.ret F_fc57
 have hR := shd_0 (l := l) (f := f) (e := e) (by omega)
 refine Tr.skip ?_
 refine hK1 _ ?_
 refine Tr.w hcx [] _ [] rfl rfl rfl ?_ X_fc57
 exact Tr.ret F_fc57
theorem X_fc22 {p : Prop} (e : p := by intro KZ hZ; simp -implicitDefEqProofs (disch := first | omega | (simp only [go_sem,lA,lD,lT] <;> omega) | decide) only [go_sem,↓reduceIte,Nat.reduceEqDiff,reduceCtorEq,Nat.reduceLT,Nat.reduceBEq,Nat.reduceAdd,e15,b1,b2,b3,hy]; with_reducible exact hZ) : p := e
theorem F_fc22 {p : Prop} (e : p := by simp -implicitDefEqProofs (disch := first | omega | (simp only [go_sem,lA,lD,lT] <;> omega) | decide) only [go_sem,↓reduceIte,Nat.reduceEqDiff,reduceCtorEq]; all_goals (first | (rw [hR]; done) | (rw [hR]; rfl) | (rw [hR]; simp only [shwT,Nat.add_sub_cancel_left]; done))) : p := e
theorem fc22 {gl : Nat → C} {M : Nat} {pu : Nat → List C → Option C} (hcx : CxOK (cxP gl M pu)) (h15 : ∀ l : List Leaf,LB l → pu 15 [sl eC .no l] = some (.val (nI (valT l)))) (h56 : ∀ (l : List Leaf) (k : List UInt8),Srt l → l.length ≤ 1000000 → pu 56 [sl eC .no l,.val (str k)] = some (.val (nI (fromT l k)))) (h57 : ∀ (l : List Leaf) (f e : Nat),OkL l → f ≤ e ∧ e ≤ l.length → pu 57 [sl eC .no l,.val (nI f),.val (nI e)] = some (.agg [.val (nI f),.val (nI l.length),sl eC .no ((l.drop f).take (e - f)),sl dC .no (shdT l f e)])) (l : List Leaf) (k : List UInt8) (hl : LB l) : FC Tryd.prog gl 22 [sl eC .no l,.val (str k)] [] (.tup [.agg [.val (nI (prvT l k).1.1),.val (nI (prvT l k).1.2.1),sl eC .no (prvT l k).1.2.2.1,sl dC .no (prvT l k).1.2.2.2],.val (nI (prvT l k).2)]) [] := by
 replace hcx := hcx.reN (M := 45)
 refine FC.ofA (cx := cxP gl 45 pu) (rs := [.cell 4 50,.tmp 5]) rfl Tryd.func22 rfl rfl rfl (by simp only [List.length_cons,List.length_nil]; decide) (by simp only [go_sem]) ?_
 simp only [ini,go_sem]
 have b1 := True.intro
 have b2 := True.intro
 have b3 := True.intro
 have hy := True.intro
 have e15 := h15 l hl
 refine Tr.w hcx [] _ [none] rfl rfl rfl ?_ X_fc22
 refine Tr.seqK fun K1 hK1 => ?_
 refine Tr.w hcx [1000009] _ [] rfl rfl rfl ?_ X_fc22
 by_cases b1 : valT l = 0
 ·
  have hok := valT_ok (l := l) (by omega)
  have hll := hok.1
  have hsr := valT_srt b1
  have e56 := h56 l k hsr (by omega)
  have hfl := from_le l k
  obtain ⟨i,hi⟩ : ∃ i,fromT l k = i := ⟨_,rfl⟩
  rw [hi] at e56 hfl
  refine Tr.w hcx [] _ [] rfl rfl rfl ?_ X_fc22
  refine Tr.cF rfl ?_
  refine Tr.skip ?_
  refine hK1 _ ?_
  have hy := @e56
  refine Tr.w hcx [1000016] _ [] rfl rfl rfl ?_ X_fc22
  refine Tr.seqK fun K2 hK2 => ?_
  by_cases b2 : i < l.length
  ·
   by_cases b3 : (gt l i).1 = k
   ·
    have hy := True.intro
    refine Tr.w hcx [] [some 17,some 18,some 19,some 20,some 21,some 22,some 23,some 24,some 25,some 26,some 27,some 28,some 29] [] rfl rfl rfl ?_ X_fc22
    refine Tr.cT rfl ?_
    have e57 := h57 l i (i + 1) hok (by omega)
    have hR := prv_2 hi b1 b2 b3
    have hy := @e57
    refine Tr.w hcx [] _ [] rfl rfl rfl ?_ X_fc22
    refine Tr.k [4,5] ?_
    exact Tr.ret F_fc22
   have hy := True.intro
   refine Tr.w hcx [] [some 17,some 18,some 19,some 20,some 21,some 22,some 23,some 24,some 25,some 26,some 27,some 28,some 29] [] rfl rfl rfl ?_ X_fc22
   refine Tr.cF rfl ?_
   refine Tr.skip ?_
   refine hK2 _ ?_
   refine Tr.k [0,4,7] ?_
   have e57 := h57 l (i - 1) (min (i + 1) l.length) hok (by omega)
   have hR := prv_3 hi b1 (fun h => b3 h.2)
   have hy := And.intro @e57 (And.intro @maxI @n_subG)
   refine Tr.w hcx [] _ [] rfl rfl rfl ?_ X_fc22
   exact Tr.ret F_fc22
  have hy := True.intro
  refine Tr.w hcx [] [some 17,some 18,some 19,some 20,some 21,some 22,some 23,some 24,some 25,some 26,some 27,some 28,some 29] [] rfl rfl rfl ?_ X_fc22
  refine Tr.cF rfl ?_
  refine Tr.skip ?_
  refine hK2 _ ?_
  refine Tr.k [0,4,7] ?_
  have e57 := h57 l (i - 1) (min (i + 1) l.length) hok (by omega)
  have hR := prv_3 hi b1 (fun h => b2 h.1)
  have hy := And.intro @e57 (And.intro @maxI @n_subG)
  refine Tr.w hcx [] _ [] rfl rfl rfl ?_ X_fc22
  exact Tr.ret F_fc22
 skip
 refine Tr.w hcx [] _ [] rfl rfl rfl ?_ X_fc22
 refine Tr.cT rfl ?_
 refine Tr.w hcx [1000013] _ [] rfl rfl rfl ?_ X_fc22
 refine Tr.bxc 0 2 (sl eC .no []) _ rfl rfl (CLe_sln rfl) rfl ?_
 refine Tr.bxc 0 3 (sl dC .no []) _ rfl rfl (CLe_sln rfl) rfl ?_
 simp only [List.set_cons_succ,List.set_cons_zero]
 have hR := prv_1 (k := k) b1
 exact Tr.ret F_fc22
theorem X_fc24 {p : Prop} (e : p := by intro KZ hZ; simp -implicitDefEqProofs (disch := first | omega | (simp only [go_sem,lA,lD,lT] <;> omega) | decide) only [go_sem,↓reduceIte,Nat.reduceEqDiff,reduceCtorEq,Nat.reduceLT,Nat.reduceBEq,Nat.reduceAdd,e15,b1,b2,hy]; with_reducible exact hZ) : p := e
theorem F_fc24 {p : Prop} (e : p := by simp -implicitDefEqProofs (disch := first | omega | (simp only [go_sem,lA,lD,lT] <;> omega) | decide) only [go_sem,↓reduceIte,Nat.reduceEqDiff,reduceCtorEq]; all_goals (first | (rw [hR]; done) | (rw [hR]; rfl))) : p := e
theorem fc24 {gl : Nat → C} {M : Nat} {pu : Nat → List C → Option C} (hcx : CxOK (cxP gl M pu)) (h15 : ∀ l : List Leaf,LB l → pu 15 [sl eC .no l] = some (.val (nI (valT l)))) (h56 : ∀ (l : List Leaf) (k : List UInt8),Srt l → l.length ≤ 1000000 → pu 56 [sl eC .no l,.val (str k)] = some (.val (nI (fromT l k)))) (h57 : ∀ (l : List Leaf) (f e : Nat),OkL l → f ≤ e ∧ e ≤ l.length → pu 57 [sl eC .no l,.val (nI f),.val (nI e)] = some (.agg [.val (nI f),.val (nI l.length),sl eC .no ((l.drop f).take (e - f)),sl dC .no (shdT l f e)])) (l : List Leaf) (x y : List UInt8) (hl : LB l) : FC Tryd.prog gl 24 [sl eC .no l,.val (str x),.val (str y)] [] (.tup [.agg [.val (nI (rngT l x y).1.1),.val (nI (rngT l x y).1.2.1),sl eC .no (rngT l x y).1.2.2.1,sl dC .no (rngT l x y).1.2.2.2],.val (nI (rngT l x y).2)]) [] := by
 replace hcx := hcx.reN (M := 33)
 refine FC.ofA (cx := cxP gl 33 pu) (rs := [.cell 6 50,.tmp 7]) rfl Tryd.func24 rfl rfl rfl (by simp only [List.length_cons,List.length_nil]; decide) (by simp only [go_sem]) ?_
 simp only [ini,go_sem]
 have b1 := True.intro
 have b2 := True.intro
 have hy := True.intro
 have e15 := h15 l hl
 refine Tr.w hcx [] _ [none] rfl rfl rfl ?_ X_fc24
 refine Tr.seqK fun K1 hK1 => ?_
 refine Tr.w hcx [1000010] _ [] rfl rfl rfl ?_ X_fc24
 by_cases b1 : valT l = 0
 ·
  have hok := valT_ok (l := l) (by omega)
  have hll := hok.1
  have hsr := valT_srt b1
  have e56a := h56 l x hsr (by omega)
  have e56b := h56 l y hsr (by omega)
  have hfx := from_le l x
  have hfy := from_le l y
  refine Tr.w hcx [] _ [] rfl rfl rfl ?_ X_fc24
  refine Tr.cF rfl ?_
  refine Tr.skip ?_
  refine hK1 _ ?_
  refine Tr.seqK fun K2 hK2 => ?_
  by_cases b2 : bl y x = true
  ·
   skip
   refine Tr.w hcx [] _ [] rfl rfl rfl ?_ X_fc24
   refine Tr.cT rfl ?_
   refine Tr.w hcx [] _ [] rfl rfl rfl ?_ X_fc24
   refine Tr.bxc 0 2 (sl eC .no []) _ rfl rfl (CLe_sln rfl) rfl ?_
   refine Tr.bxc 0 3 (sl dC .no []) _ rfl rfl (CLe_sln rfl) rfl ?_
   simp only [List.set_cons_succ,List.set_cons_zero]
   have hR := rng_2 b1 b2
   exact Tr.ret F_fc24
  have b2n := b2
  have hxy := from_mono hsr (Bool.eq_false_iff.2 b2)
  replace b2 := Bool.eq_false_iff.2 b2
  refine Tr.w hcx [] _ [] rfl rfl rfl ?_ X_fc24
  refine Tr.cF rfl ?_
  refine Tr.skip ?_
  refine hK2 _ ?_
  refine Tr.k [0,1,2,6] ?_
  have e57 := h57 l (fromT l x - 1) (min (fromT l y + 1) l.length) hok (by omega)
  have hR := rng_3 b1 b2n
  have hy := And.intro @e56a (And.intro @e56b (And.intro @e57 (And.intro @maxI @n_subG)))
  refine Tr.w hcx [] _ [] rfl rfl rfl ?_ X_fc24
  exact Tr.ret F_fc24
 skip
 refine Tr.w hcx [] _ [] rfl rfl rfl ?_ X_fc24
 refine Tr.cT rfl ?_
 refine Tr.w hcx [1000014] _ [] rfl rfl rfl ?_ X_fc24
 refine Tr.bxc 0 2 (sl eC .no []) _ rfl rfl (CLe_sln rfl) rfl ?_
 refine Tr.bxc 0 3 (sl dC .no []) _ rfl rfl (CLe_sln rfl) rfl ?_
 simp only [List.set_cons_succ,List.set_cons_zero]
 have hR := rng_1 (x := x) (y := y) b1
 exact Tr.ret F_fc24
end Go.Sx
namespace Go.Sx
open Go.RowKit
section
variable {cx : Cx} {Q : Ex → St → Prop} {e : List (Nat × C)} {h : Hp} {c : Code}
theorem Tr.f12 (hcx : CxOK cx) (b : Nat) (cells : List C) {e' : List (Nat × C)} {h' : Hp} (H : Tr cx 2 c ⟨A e',h'⟩ Q)
    (hnb : 2 ≤ b := by decide) (hn : ∀ j,j < 2 → ((h.at j).isSome || (h.mp j).isSome) = true ∨ h[j]? = some none := by intro j hj; match j,hj with | 0,_ => exact Or.inl rfl | 1,_ => exact Or.inl rfl | (k + 2),h => exact absurd h (by omega))
    (hb : h.at b = some cells := by simp only [go_sem])
    (E : ∀ K : List (Nat × C) → Hp → Prop,K e' h' → K (mapE (fzC (okF h b) b (fzY h b cells)) e) (fzH (okF h b) b (fzY h b cells) h) := by
      intro KZ hZ
      simp -implicitDefEqProofs only [go_sem,fzY_eq,fzY_cl,fzH_eq,mapE_nil,mapE_cons,fzC_val,fzC_top,fzC_agg,fzC_tup,fzC_kp,fzC_fn,fzC_sl,fzC_sv,fzC_bp,fzC_mp,fzC_bt,fzC_gv,fzCs_nil,fzCs_cons,fzCs_cl,scr_sv,scr_gv,scr_bp,scr_mp,scr_bt,scr_kp,scr_agg,scr_fn,scr_top,scr_val,scr_sl,scrs_nil,scrs_cons,scrs_cl,atG_fz,okF_eq,Option.isSome_some,Option.isSome_none,Nat.reduceBNe,Bool.true_and,Bool.and_true,Bool.false_and,Bool.true_or,Bool.false_or,↓reduceIte,Nat.reduceEqDiff,reduceCtorEq,Nat.zero_ne_one,Nat.one_ne_zero]
      with_reducible exact hZ) : Tr cx 2 c ⟨A e,h⟩ Q :=
  Tr.fzA hcx b cells hb hnb hn (E (fun x y => Tr cx 2 c ⟨A x,y⟩ Q) H)
theorem Tr.m12 (hcx : CxOK cx) (ρ : List Nat) {e' : List (Nat × C)} {h' : Hp} (H : Tr cx 2 c ⟨A e',h'⟩ Q)
    (hρ : okρ 2 ρ := by exact ⟨by decide,by decide,by decide⟩)
    (E : ∀ K : List (Nat × C) → Hp → Prop,K e' h' → K (mapE (mvC ρ) e) (mvH ρ h) := by
      intro KZ hZ
      simp -implicitDefEqProofs only [mapE_nil,mapE_cons,atG_mv,mvH_eq,mvHa_nil,mvHa_cons,hget_0,hget_S,Option.map_some,Option.map_none,mvCs_cl,mvCs_f,mvCs_nil,mvCs_cons,mvC_val,mvC_top,mvC_sl,mvC_gv,mvC_sv,mvC_bp,mvC_agg,mvC_kp,mvGv_some,mvGv_none,mvSv_some,mvSv_none,mvBp_some,mvBp_none,loc_nil,loc_cons,↓reduceIte,Nat.reduceEqDiff,reduceCtorEq,Nat.reduceAdd,Nat.zero_add,Nat.one_ne_zero,Nat.zero_ne_one,mvC_fn,mvC_bt,mvBt_some,mvBt_none,mvC_mp,mvMp_some,mvMp_none]
      with_reducible exact hZ) : Tr cx 2 c ⟨A e,h⟩ Q :=
  Tr.mvA hcx ρ hρ (E (fun x y => Tr cx 2 c ⟨A x,y⟩ Q) H)
end
end Go.Sx
namespace Go.Sx
open Go.RowKit Go.Proofs
set_option maxRecDepth 100000
set_option maxHeartbeats 8000000
abbrev US := Bool × List Dig
def sidO (S : List Dig) : List UInt8 × US := if S.length = 0 then (List.replicate 16 0,(false,S)) else ((gt S 0).1,(true,S.drop 1))
def unO (l : List Leaf) (f : Nat) : Nat → Nat → Nat → US → List UInt8 × US
  | 0,a,b,st => if st.1 = false then (List.replicate 16 0,st) else if b ≤ f ∨ f + l.length ≤ a then sidO st.2 else (lefT (gt l (a - f)),st)
  | d + 1,a,b,st => if st.1 = false then (List.replicate 16 0,st) else if b ≤ f ∨ f + l.length ≤ a then sidO st.2 else if b - a ≤ 1 then (lefT (gt l (a - f)),st)
      else (nodT (unO l f d a (a + halfT (b - a)) st).1 (unO l f d (a + halfT (b - a)) b (unO l f d a (a + halfT (b - a)) st).2).1,(unO l f d (a + halfT (b - a)) b (unO l f d a (a + halfT (b - a)) st).2).2)
section
variable {l : List Leaf} {f d a b : Nat} {st : US} {S : List Dig}
theorem un_f (h : st.1 = false) : unO l f d a b st = (List.replicate 16 0,st) := by cases d <;> simp only [unO,if_pos h]
theorem un_s (h : b ≤ f ∨ f + l.length ≤ a) : unO l f d a b (true,S) = sidO S := by cases d <;> simp [unO,if_pos h]
theorem un_l (h : ¬ (b ≤ f ∨ f + l.length ≤ a)) (h2 : b - a ≤ 1) : unO l f d a b (true,S) = (lefT (gt l (a - f)),(true,S)) := by
  cases d with
  | zero => unfold unO; rw [if_neg (by simp),if_neg h]
  | succ d => unfold unO; rw [if_neg (by simp),if_neg h,if_pos h2]
theorem un_n (h : ¬ (b ≤ f ∨ f + l.length ≤ a)) (h2 : ¬ b - a ≤ 1) : unO l f (d + 1) a b (true,S) = (nodT (unO l f d a (a + halfT (b - a)) (true,S)).1 (unO l f d (a + halfT (b - a)) b (unO l f d a (a + halfT (b - a)) (true,S)).2).1,(unO l f d (a + halfT (b - a)) b (unO l f d a (a + halfT (b - a)) (true,S)).2).2) := by
  rw [unO,if_neg (by simp),if_neg h,if_neg h2]
theorem sidO_0 (h : S.length = 0) : sidO S = (List.replicate 16 0,(false,S)) := if_pos h
theorem sidO_n (h : ¬ S.length = 0) : sidO S = ((gt S 0).1,(true,S.drop 1)) := if_neg h
theorem sidO_len : (sidO S).1.length = 16 := by unfold sidO; split; rfl; exact (gt S 0).2
end
theorem unO_len (l : List Leaf) (f : Nat) : ∀ d a b st,(unO l f d a b st).1.length = 16
  | 0,a,b,st => by unfold unO; split; rfl; split; exact sidO_len; exact lefT_len _
  | d + 1,a,b,st => by
    unfold unO; split
    · rfl
    · split
      · exact sidO_len
      · split
        · exact lefT_len _
        · exact nodT_len _ _
theorem unO_bd (l : List Leaf) (f : Nat) : ∀ d a b st,(unO l f d a b st).2.2.length ≤ st.2.length
  | 0,a,b,st => by
    unfold unO; split
    · exact Nat.le_refl _
    · split
      · unfold sidO; split <;> simp
      · exact Nat.le_refl _
  | d + 1,a,b,st => by
    unfold unO; split
    · exact Nat.le_refl _
    · split
      · unfold sidO; split <;> simp
      · split
        · exact Nat.le_refl _
        · exact Nat.le_trans (unO_bd l f d _ b _) (unO_bd l f d a _ st)
theorem und_nr (x : Bool) (S : List Dig) : nrH 2 [some [.val (.bool x)],some [sl dC .no S]] = true := by simp only [nrH_some,nrH_nil,go_sem,Bool.and_self]
theorem at93_S (l : List Leaf) (f z : Nat) (e : Nat) (S0 : List Dig) (q q' d : Nat) : atG 93 [.bp q 0,.kp [.val (nI f),.val (nI z),sl eC .no l,sl dC .no S0],.kp [.val (nI e)],.bp q' 0] (d + 1) = .kp [.fn 93 [.bp q 0,.kp [.val (nI f),.val (nI z),sl eC .no l,sl dC .no S0],.kp [.val (nI e)],.bp q' 0,atG 93 [.bp q 0,.kp [.val (nI f),.val (nI z),sl eC .no l,sl dC .no S0],.kp [.val (nI e)],.bp q' 0] d]] := rfl
theorem rda_d0 {S : List Dig} (h : 0 < S.length) : rda (cl dC S) 0 16 = some (.agg (cl bC (gt S 0).1)) := by
  have q := rda_dropE (f := dC) S 0 h
  rw [Nat.zero_mul,List.drop_zero] at q; exact q
theorem tk1 {S : List Dig} : List.take (S.length - 1) (List.drop 1 S) = List.drop 1 S := List.take_of_length_le (by rw [List.length_drop]; exact Nat.le_refl _)
theorem X_fc93z {p : Prop} (e : p := by intro KZ hZ; simp -implicitDefEqProofs (disch := first | omega | (simp only [go_sem,lA,lD,lT,lefT_len,nodT_len,hgl] <;> omega) | decide) only [go_sem,↓reduceIte,Nat.reduceEqDiff,reduceCtorEq,Nat.reduceLT,Nat.reduceBEq,Nat.reduceAdd,b0,b1,b2,b3,hy]; with_reducible exact hZ) : p := e
theorem F_fc93z {p : Prop} (e : p := by simp -implicitDefEqProofs (disch := first | omega | (simp only [go_sem,lA,lD,lT,lefT_len,nodT_len,hgl] <;> omega) | decide) only [go_sem,↓reduceIte,Nat.reduceEqDiff,reduceCtorEq]; all_goals (first | (simp only [hR]; done) | (rw [hR]; exact ⟨rfl,rfl⟩) | (rw [hR]))) : p := e
theorem fc93z {gl : Nat → C} {M0 : Nat} {pu : Nat → List C → Option C} {hp : Nat → List C → Hp → Option (C × Hp)} (hcx : CxOK (cxR gl M0 pu hp)) (l : List Leaf) (f z : Nat) (S0 : List Dig) (st : US) (d a b : Nat) (hl : OkL l) (hf : f ≤ 5000) (hS : st.2.length ≤ 1000000) (hab : a < b ∧ b ≤ 5000 ∧ b - a ≤ 2 ^ d) (hz : st.1 = false ∨ b ≤ f ∨ f + l.length ≤ a ∨ b - a ≤ 1) (hnr : ∀ (g : Nat) (xs : List C),noRefs 0 xs = false → pu g xs = none) (h80 : ∀ x : Leaf,x.1.length ≤ 65536 ∧ x.2.length ≤ 65536 → pu 80 [.agg (eC x)] = some (.agg (cl bC (lefT x)))) : FC Tryd.prog gl 93 [.val (nI a),.val (nI b),.bp 0 0,.kp [.val (nI f),.val (nI z),sl eC .no l,sl dC .no S0],.kp [.val (nI (f + l.length))],.bp 1 0,atG 93 [.bp 0 0,.kp [.val (nI f),.val (nI z),sl eC .no l,sl dC .no S0],.kp [.val (nI (f + l.length))],.bp 1 0] d] [some [.val (.bool st.1)],some [sl dC .no st.2]] (.agg (cl bC (unO l f d a b st).1)) [some [.val (.bool (unO l f d a b st).2.1)],some [sl dC .no (unO l f d a b st).2.2]] := by
 replace hcx := hcx.reN (M := 66)
 refine FC.ofT (cx := cxR gl 66 pu hp) (rs := [.cell 9 29]) rfl Tryd.func93 rfl rfl rfl (by simp only [List.length_cons,List.length_nil]; decide) (by simp only [go_sem]) (und_nr _ _) ?_
 simp only [ini,go_sem]
 have b0 := True.intro
 have b1 := True.intro
 have b2 := True.intro
 have b3 := True.intro
 have hy := True.intro
 have hgl := fun (S : List Dig) k => (gt S k).2
 have hll := hl.1
 obtain ⟨en,S⟩ := st
 simp only [] at *
 refine Tr.w hcx [] _ [none] rfl rfl rfl ?_ X_fc93z
 refine Tr.seqK fun K1 hK1 => ?_
 refine Tr.blk ?_
 by_cases b0 : en = true
 ·
  subst b0
  refine Tr.w hcx [1000015] _ [] rfl rfl rfl ?_ X_fc93z
  refine Tr.cF rfl ?_
  by_cases b1 : b ≤ f
  ·
   refine Tr.w hcx [1000026] [some 18,some 19,some 20,some 21,some 22,some 23,some 24,some 25,some 26,some 17] [] rfl rfl rfl ?_ X_fc93z
   refine Tr.k [0,1,2,3,5,6,9,17] ?_
   refine Tr.cT rfl ?_
   refine Tr.seqK fun K2 hK2 => ?_
   by_cases b3 : S.length = 0
   ·
    skip
    have hR := (un_s (l := l) (f := f) (d := d) (a := a) (b := b) (S := S) (Or.inl b1)).trans (sidO_0 b3)
    have h29 : (0 < S.length) = False := by simp only [eq_iff_iff,iff_false]; omega
    have hy := @h29
    refine Tr.w hcx [] _ [] rfl rfl rfl ?_ X_fc93z
    have hy := True.intro
    refine Tr.w hcx [] _ [] rfl rfl rfl ?_ X_fc93z
    refine Tr.cT rfl ?_
    refine Tr.w hcx [] _ [] rfl rfl rfl ?_ X_fc93z
    exact Tr.ret F_fc93z
   skip
   have hR := (un_s (l := l) (f := f) (d := d) (a := a) (b := b) (S := S) (Or.inl b1)).trans (sidO_n b3)
   have h29 : (0 < S.length) = True := by simp only [eq_iff_iff,iff_true]; omega
   have hy := @h29
   refine Tr.w hcx [] _ [] rfl rfl rfl ?_ X_fc93z
   have hy := True.intro
   refine Tr.w hcx [] _ [] rfl rfl rfl ?_ X_fc93z
   refine Tr.cF rfl ?_
   refine Tr.skip ?_
   refine hK2 _ ?_
   have hr0 := rda_d0 (S := S) (by omega)
   have hy := @hr0
   refine Tr.w hcx [] _ [none] rfl rfl rfl ?_ X_fc93z
   have hy := @tk1
   refine Tr.w hcx [] _ [] rfl rfl rfl ?_ X_fc93z
   have hy := True.intro
   refine Tr.w hcx [] _ [] rfl rfl rfl ?_ X_fc93z
   exact Tr.ret F_fc93z
  by_cases b2 : f + l.length ≤ a
  ·
   refine Tr.w hcx [1000026] [some 18,some 19,some 20,some 21,some 22,some 23,some 24,some 25,some 26,some 17] [] rfl rfl rfl ?_ X_fc93z
   refine Tr.k [0,1,2,3,5,6,9,17] ?_
   refine Tr.cT rfl ?_
   refine Tr.seqK fun K3 hK3 => ?_
   by_cases b3 : S.length = 0
   ·
    skip
    have hR := (un_s (l := l) (f := f) (d := d) (a := a) (b := b) (S := S) (Or.inr b2)).trans (sidO_0 b3)
    have h29 : (0 < S.length) = False := by simp only [eq_iff_iff,iff_false]; omega
    have hy := @h29
    refine Tr.w hcx [] _ [] rfl rfl rfl ?_ X_fc93z
    have hy := True.intro
    refine Tr.w hcx [] _ [] rfl rfl rfl ?_ X_fc93z
    refine Tr.cT rfl ?_
    refine Tr.w hcx [] _ [] rfl rfl rfl ?_ X_fc93z
    exact Tr.ret F_fc93z
   skip
   have hR := (un_s (l := l) (f := f) (d := d) (a := a) (b := b) (S := S) (Or.inr b2)).trans (sidO_n b3)
   have h29 : (0 < S.length) = True := by simp only [eq_iff_iff,iff_true]; omega
   have hy := @h29
   refine Tr.w hcx [] _ [] rfl rfl rfl ?_ X_fc93z
   have hy := True.intro
   refine Tr.w hcx [] _ [] rfl rfl rfl ?_ X_fc93z
   refine Tr.cF rfl ?_
   refine Tr.skip ?_
   refine hK3 _ ?_
   have hr0 := rda_d0 (S := S) (by omega)
   have hy := @hr0
   refine Tr.w hcx [] _ [none] rfl rfl rfl ?_ X_fc93z
   have hy := @tk1
   refine Tr.w hcx [] _ [] rfl rfl rfl ?_ X_fc93z
   have hy := True.intro
   refine Tr.w hcx [] _ [] rfl rfl rfl ?_ X_fc93z
   exact Tr.ret F_fc93z
  refine Tr.w hcx [1000026] [some 18,some 19,some 20,some 21,some 22,some 23,some 24,some 25,some 26,some 17] [] rfl rfl rfl ?_ X_fc93z
  refine Tr.k [0,1,2,3,5,6,9,17] ?_
  refine Tr.cF rfl ?_
  have hz9 := hz.resolve_left (by simp)
  have h43 : b - a = 1 := by omega
  have hR := un_l (l := l) (f := f) (d := d) (a := a) (b := b) (S := S) (fun h => h.elim b1 b2) (by omega)
  have e80 := h80 (gt l (a - f)) (hl.2 (a - f) (by omega))
  have hy := @h43
  refine Tr.w hcx [1000043] _ [] rfl rfl rfl ?_ X_fc93z
  refine Tr.cT rfl ?_
  have hy := @e80
  refine Tr.w hcx [] _ [] rfl rfl rfl ?_ X_fc93z
  exact Tr.ret F_fc93z
 replace b0 := Bool.eq_false_iff.2 b0
 subst b0
 have hR := un_f (l := l) (f := f) (d := d) (a := a) (b := b) (st := (false,S)) rfl
 refine Tr.w hcx [1000015] _ [] rfl rfl rfl ?_ X_fc93z
 refine Tr.cT rfl ?_
 refine Tr.w hcx [] _ [] rfl rfl rfl ?_ X_fc93z
 exact Tr.ret F_fc93z
theorem X_fc93s {p : Prop} (e : p := by intro KZ hZ; simp -implicitDefEqProofs (disch := first | omega | (simp only [go_sem,lA,lD,lT,lefT_len,nodT_len,hgl,hx1,hx2] <;> omega) | decide) only [go_sem,↓reduceIte,Nat.reduceEqDiff,reduceCtorEq,Nat.reduceLT,Nat.reduceBEq,Nat.reduceAdd,hy]; with_reducible exact hZ) : p := e
theorem Y_fc93s {p : Prop} (e : p := by intro KZ hZ; simp -implicitDefEqProofs (disch := first | omega | (simp only [go_sem,lA,lD,lT,lefT_len,nodT_len,hgl,hx1,hx2] <;> omega) | decide) only [go_sem,↓reduceIte,Nat.reduceEqDiff,reduceCtorEq,Nat.reduceLT,Nat.reduceBEq,Nat.reduceAdd,hy]; with_reducible refine And.intro ?_ hZ; first | exact rfl | decide) : p := e
theorem F_fc93s {p : Prop} (e : p := by simp -implicitDefEqProofs (disch := first | omega | (simp only [go_sem,lA,lD,lT,lefT_len,nodT_len,hgl,hx1,hx2] <;> omega) | decide) only [go_sem,↓reduceIte,Nat.reduceEqDiff,reduceCtorEq]; all_goals (first | (simp only [hR]; done) | (rw [hR]; exact ⟨rfl,rfl⟩) | (rw [hR]))) : p := e
theorem fc93s {gl : Nat → C} {M0 : Nat} {pu : Nat → List C → Option C} {hp : Nat → List C → Hp → Option (C × Hp)} (hcx : CxOK (cxR gl M0 pu hp)) (l : List Leaf) (f z : Nat) (S0 : List Dig) (st : US) (d a b : Nat) (hl : OkL l) (hf : f ≤ 5000) (hS : st.2.length ≤ 1000000) (hab : a < b ∧ b ≤ 5000 ∧ b - a ≤ 2 ^ (d + 1)) (hq93 : ∀ (suf : Hp) (st : US) (a b : Nat),OkH suf → st.2.length ≤ 1000000 → a < b ∧ b ≤ 5000 ∧ b - a ≤ 2 ^ d → hp 93 [.val (nI a),.val (nI b),.bp 0 0,.kp [.val (nI f),.val (nI z),sl eC .no l,sl dC .no S0],.kp [.val (nI (f + l.length))],.bp 1 0,atG 93 [.bp 0 0,.kp [.val (nI f),.val (nI z),sl eC .no l,sl dC .no S0],.kp [.val (nI (f + l.length))],.bp 1 0] d] ([some [.val (.bool st.1)],some [sl dC .no st.2]] ++ suf) = some (.agg (cl bC (unO l f d a b st).1),[some [.val (.bool (unO l f d a b st).2.1)],some [sl dC .no (unO l f d a b st).2.2]] ++ suf)) (hz0 : st.1 = true) (hz1 : ¬ b ≤ f) (hz2 : ¬ f + l.length ≤ a) (hz3 : ¬ b - a ≤ 1) (hnr : ∀ (g : Nat) (xs : List C),noRefs 0 xs = false → pu g xs = none) (h81 : ∀ x y : Nat,x ≤ y ∧ y ≤ 4611686018427387000 → pu 81 [.val (nI x),.val (nI y)] = some (.val (nI (x + halfT (y - x))))) (h82 : ∀ a b : List UInt8,a.length = 16 → b.length = 16 → pu 82 [.agg (cl bC a),.agg (cl bC b)] = some (.agg (cl bC (nodT a b)))) : FC Tryd.prog gl 93 [.val (nI a),.val (nI b),.bp 0 0,.kp [.val (nI f),.val (nI z),sl eC .no l,sl dC .no S0],.kp [.val (nI (f + l.length))],.bp 1 0,atG 93 [.bp 0 0,.kp [.val (nI f),.val (nI z),sl eC .no l,sl dC .no S0],.kp [.val (nI (f + l.length))],.bp 1 0] (d + 1)] [some [.val (.bool st.1)],some [sl dC .no st.2]] (.agg (cl bC (unO l f (d + 1) a b st).1)) [some [.val (.bool (unO l f (d + 1) a b st).2.1)],some [sl dC .no (unO l f (d + 1) a b st).2.2]] := by
 replace hcx := hcx.reN (M := 66)
 refine FC.ofT (cx := cxR gl 66 pu hp) (rs := [.cell 9 29]) rfl Tryd.func93 rfl rfl rfl (by simp only [List.length_cons,List.length_nil]; decide) (by simp only [go_sem]) (und_nr _ _) ?_
 simp only [ini,go_sem]
 have hy := True.intro
 have hgl := fun (S : List Dig) k => (gt S k).2
 have hll := hl.1
 obtain ⟨en,S⟩ := st
 simp only [] at *
 subst hz0
 have b1 := hz1
 have b2 := hz2
 have h43 : (b - a = 1) = False := eq_false (by omega)
 have hx1 := True.intro
 have hx2 := True.intro
 refine Tr.w hcx [] _ [none] rfl rfl rfl ?_ X_fc93s
 refine Tr.seqK fun K1 hK1 => ?_
 refine Tr.blk ?_
 refine Tr.w hcx [1000015] _ [] rfl rfl rfl ?_ X_fc93s
 refine Tr.cF rfl ?_
 have hy := And.intro @b1 @b2
 refine Tr.w hcx [1000026] [some 18,some 19,some 20,some 21,some 22,some 23,some 24,some 25,some 26,some 17] [] rfl rfl rfl ?_ X_fc93s
 refine Tr.k [0,1,2,3,5,6,9,17] ?_
 refine Tr.cF rfl ?_
 have hy := @h43
 refine Tr.w hcx [1000043] _ [] rfl rfl rfl ?_ X_fc93s
 refine Tr.cF rfl ?_
 refine Tr.skip ?_
 refine hK1 _ ?_
 have e81 := h81 a b (by omega)
 have hh := half_lt (n := b - a) (by omega)
 have hh2 := half_le (by omega) hab.2.2
 have e1 := hq93 [some (cl bC (List.replicate 16 0)),none] (true,S) a (a + halfT (b - a)) (OkH.cons (okB_cl _) (OkH.cons rfl OkH.nil)) hS (by omega)
 have hR := un_n (l := l) (f := f) (d := d) (a := a) (b := b) (S := S) (fun h => h.elim b1 b2) hz3
 have hB := unO_bd l f d a (a + halfT (b - a)) (true,S)
 obtain ⟨X,hX⟩ : ∃ X,X = unO l f d a (a + halfT (b - a)) (true,S) := ⟨_,rfl⟩
 have hXl : X.1.length = 16 := by rw [hX]; exact unO_len _ _ _ _ _ _
 rw [← hX] at e1 hR hB
 have hx1 := hXl
 have e2 := hq93 [some (cl bC (List.replicate 16 0))] X.2 (a + halfT (b - a)) b (OkH.cons (okB_cl _) OkH.nil) (by simp only [] at hB; omega) (by omega)
 obtain ⟨Y,hY⟩ : ∃ Y,Y = unO l f d (a + halfT (b - a)) b X.2 := ⟨_,rfl⟩
 have hYl : Y.1.length = 16 := by rw [hY]; exact unO_len _ _ _ _ _ _
 rw [← hY] at e2 hR
 have hx2 := hYl
 have e82 := h82 X.1 Y.1 hXl hYl
 simp only [List.cons_append,List.nil_append] at e1 e2
 have ep : ∀ x y : Nat,pu 93 [.val (nI x),.val (nI y),.bp 0 0,.kp [.val (nI f),.val (nI z),sl eC .no l,sl dC .no S0],.kp [.val (nI (f + l.length))],.bp 1 0,atG 93 [.bp 0 0,.kp [.val (nI f),.val (nI z),sl eC .no l,sl dC .no S0],.kp [.val (nI (f + l.length))],.bp 1 0] d] = none := fun x y => hnr 93 _ rfl
 have hy := @e81
 refine Tr.w hcx [1000055] _ [] rfl rfl rfl ?_ X_fc93s
 have hy := And.intro @at93_S (And.intro @e1 @ep)
 refine Tr.w hcx [] _ [none] rfl rfl rfl ?_ X_fc93s
 refine Tr.k [1,6,9,11,12] ?_
 refine Tr.k [1,6,9,11,12] ?_
 refine Tr.f12 hcx 3 (cl bC X.1) ?_
 refine Tr.m12 hcx [0,1,2] ?_
 have hy := And.intro @at93_S (And.intro @e2 (And.intro @ep @e82))
 refine Tr.wD hcx hMOR [] _ [] rfl rfl rfl rfl ?_ Y_fc93s
 exact Tr.ret F_fc93s
end Go.Sx
namespace Go.Sx
open Go.RowKit Go.Proofs
theorem i_addW {P : Program} {t : TypeId} (x : Int) (y : Nat) : binPlan P .add t (.val (.int .i64 x)) (.val (nI y)) = some (vp (.val (.int .i64 (IntKind.i64.wrap (x + ((y : Nat) : Int)))))) := by
  simp only [nI,bin_int,sbin,ne_eq,not_true_eq_false,if_false,Option.map_some]
def BadU (f z : Int) (l : List Leaf) : Prop := z < 0 ∨ 4096 < z ∨ f < 0 ∨ z < f ∨ z - f < (l.length : Int) ∨ ¬ valT l = 0
instance (f z : Int) (l : List Leaf) : Decidable (BadU f z l) := by unfold BadU; infer_instance
def undT (r : List UInt8) (f z : Int) (l : List Leaf) (S : List Dig) : Bool :=
  if BadU f z l ∨ (0 < z ∧ l.length = 0) then false
  else !(rooR l f.toNat S z.toNat ([],0,false)).2.2.2 && decide ((rooR l f.toNat S z.toNat ([],0,false)).2.2.1 = S.length) && decide ((rooR l f.toNat S z.toNat ([],0,false)).1 = r)
theorem un_ff (l : List Leaf) (f : Nat) : ∀ d a b (st : US),st.1 = false → (unO l f d a b st).2.1 = false := fun d a b st h => by rw [un_f h]; exact h
theorem rowR_tt (l : List Leaf) (f : Nat) (S : List Dig) : ∀ d a b (st : TS),st.2.2 = true → (rowR l f S d a b st).2.2.2 = true
  | 0,a,b,st,h => by
    unfold rowR; split
    · unfold sidR; split
      · rfl
      · exact h
    · exact h
  | d + 1,a,b,st,h => by
    unfold rowR; split
    · unfold sidR; split
      · rfl
      · exact h
    · split
      · exact h
      · exact rowR_tt l f S d _ b _ (rowR_tt l f S d a _ st h)
theorem sidR_O {S : List Dig} {T : List (List UInt8)} {u : Nat} (hu : u ≤ S.length) :
    ((sidR S (T,u,false)).2.2.2 = false → sidO (S.drop u) = ((sidR S (T,u,false)).1,(true,S.drop (sidR S (T,u,false)).2.2.1))) ∧ ((sidR S (T,u,false)).2.2.2 = true → (sidO (S.drop u)).2.1 = false) := by
  by_cases h : S.length ≤ u
  · have e : sidR S (T,u,false) = (List.replicate 16 0,(T,u,true)) := if_pos h
    have e2 : sidO (S.drop u) = (List.replicate 16 0,(false,S.drop u)) := sidO_0 (by rw [List.length_drop]; omega)
    rw [e,e2]; exact ⟨fun q => by simp at q,fun _ => rfl⟩
  · have e : sidR S (T,u,false) = ((gt S u).1,(T,u + 1,false)) := if_neg h
    have e2 : sidO (S.drop u) = ((gt (S.drop u) 0).1,(true,(S.drop u).drop 1)) := sidO_n (by rw [List.length_drop]; omega)
    have e3 : gt (S.drop u) 0 = gt S u := by simp [gt,List.getD]
    rw [e,e2,e3,List.drop_drop]; exact ⟨fun _ => rfl,fun q => by simp at q⟩
theorem un_row (l : List Leaf) (f : Nat) (S : List Dig) : ∀ d a b T u,u ≤ S.length →
    ((rowR l f S d a b (T,u,false)).2.2.2 = false → unO l f d a b (true,S.drop u) = ((rowR l f S d a b (T,u,false)).1,(true,S.drop (rowR l f S d a b (T,u,false)).2.2.1))) ∧
    ((rowR l f S d a b (T,u,false)).2.2.2 = true → (unO l f d a b (true,S.drop u)).2.1 = false)
  | 0,a,b,T,u,hu => by
    by_cases h : b ≤ f ∨ f + l.length ≤ a
    · rw [rowR_s h,un_s h]; exact sidR_O hu
    · have e1 : rowR l f S 0 a b (T,u,false) = lefR (gt l (a - f)) (T,u,false) := by simp only [rowR,if_neg h]
      have e2 : unO l f 0 a b (true,S.drop u) = (lefT (gt l (a - f)),(true,S.drop u)) := by unfold unO; rw [if_neg (by simp),if_neg h]
      rw [e1,e2]; exact ⟨fun _ => rfl,fun q => by simp [lefR] at q⟩
  | d + 1,a,b,T,u,hu => by
    by_cases h : b ≤ f ∨ f + l.length ≤ a
    · rw [rowR_s h,un_s h]; exact sidR_O hu
    · by_cases h2 : b - a ≤ 1
      · rw [rowR_l h h2,un_l h h2]; exact ⟨fun _ => rfl,fun q => by simp [lefR] at q⟩
      · rw [rowR_n h h2,un_n h h2]
        have g1 := un_row l f S d a (a + halfT (b - a)) T u hu
        have hb := rowR_bd l f S d a (a + halfT (b - a)) (T,u,false)
        generalize rowR l f S d a (a + halfT (b - a)) (T,u,false) = X at *
        obtain ⟨x,T1,u1,s1⟩ := X
        simp only at g1 hb
        cases s1 with
        | true =>
          have hs := rowR_tt l f S d (a + halfT (b - a)) b (T1,u1,true) rfl
          have q := g1.2 rfl
          refine ⟨fun e => ?_,fun _ => ?_⟩
          · simp only [nodR] at e; rw [hs] at e; cases e
          · exact un_ff l f d _ b _ q
        | false =>
          rw [g1.1 rfl]
          have g2 := un_row l f S d (a + halfT (b - a)) b T1 u1 (by omega)
          refine ⟨fun e => ?_,fun e => ?_⟩
          · simp only [nodR] at e ⊢
            rw [g2.1 e]
          · simp only [nodR] at e
            exact g2.2 e
theorem und_1 {r : List UInt8} {f z : Int} {l : List Leaf} {S : List Dig} (h : BadU f z l ∨ (0 < z ∧ l.length = 0)) : undT r f z l S = false := if_pos h
theorem und_z {r : List UInt8} {f z : Int} {l : List Leaf} {S : List Dig} (h : ¬ BadU f z l) (hz : z = 0) : undT r f z l S = (decide (S.length = 0) && decide (rotT 0 (List.replicate 16 0) = r)) := by
  subst hz
  unfold undT
  rw [if_neg (fun q => q.elim h (fun q => absurd q.1 (by omega)))]
  rw [rooR_0 (by rfl)]
  have e : (0 = S.length) = (S.length = 0) := propext ⟨fun h => h.symm,fun h => h.symm⟩
  simp only [e,Bool.not_false,Bool.true_and]
  rfl
theorem und_n {r : List UInt8} {f z : Nat} {l : List Leaf} {S : List Dig} (h : ¬ BadU f z l) (hz : ¬ z = 0) (hl : ¬ l.length = 0) :
    undT r f z l S = ((unO l f 12 0 z (true,S)).2.1 && decide ((unO l f 12 0 z (true,S)).2.2.length = 0) && decide (rotT z (unO l f 12 0 z (true,S)).1 = r)) := by
  unfold undT
  rw [if_neg (fun q => q.elim h (fun q => hl q.2))]
  rw [show ((f : Nat) : Int).toNat = f from rfl,show ((z : Nat) : Int).toNat = z from rfl,rooR_n hz]
  have g := un_row l f S 12 0 z [] 0 (Nat.zero_le _)
  have hb := rowR_bd l f S 12 0 z ([],0,false)
  rw [List.drop_zero] at g
  generalize rowR l f S 12 0 z ([],0,false) = X at *
  obtain ⟨x,T1,u1,s1⟩ := X
  simp only at g hb ⊢
  cases s1 with
  | true => rw [g.2 rfl]; rfl
  | false =>
    rw [g.1 rfl]
    have e : ((S.drop u1).length = 0) = (u1 = S.length) := by rw [List.length_drop]; apply propext; omega
    have e2 : ofT 4 [wint ((z : Nat) : Int),x] = rotT z x := by unfold rotT; rw [if_neg hz]
    simp only [e,e2,Bool.not_false,Bool.true_and]
def chkT (r k : List UInt8) (f z : Int) (l : List Leaf) (S : List Dig) : List UInt8 × Bool × Nat :=
  if undT r f z l S = true then (if fromT l k < l.length ∧ (gt l (fromT l k)).1 = k then ((gt l (fromT l k)).2,true,0)
    else if (0 < fromT l k ∨ f = 0) ∧ (fromT l k < l.length ∨ f + l.length = z) then ([],false,0) else ([],false,17)) else ([],false,17)
def crgT (r x y : List UInt8) (f z : Int) (l : List Leaf) (S : List Dig) : List Leaf × Nat :=
  if bl y x = true then ([],5) else if undT r f z l S = true then (if (0 < f ∧ fromT l x = 0) ∨ (f + l.length < z ∧ fromT l y = l.length) then ([],17) else ((l.drop (fromT l x)).take (fromT l y - fromT l x),0)) else ([],17)
theorem und_srt {r : List UInt8} {f z : Int} {l : List Leaf} {S : List Dig} (h : undT r f z l S = true) : valT l = 0 ∧ 0 ≤ f ∧ f ≤ z ∧ z ≤ 4096 ∧ f + l.length ≤ z := by
  have hb : ¬ BadU f z l := fun q => by rw [und_1 (Or.inl q)] at h; cases h
  unfold BadU at hb
  refine ⟨?_,by omega,by omega,by omega,by omega⟩
  by_cases e : valT l = 0
  · exact e
  · exact absurd (Or.inr (Or.inr (Or.inr (Or.inr (Or.inr e))))) hb
end Go.Sx
namespace Go.Sx
open Go.RowKit Go.Proofs
set_option maxRecDepth 100000
set_option maxHeartbeats 8000000
theorem X_fc61 {p : Prop} (e : p := by intro KZ hZ; simp -implicitDefEqProofs (disch := first | omega | (simp only [go_sem,lA,lD,lT,hr,hx1,rotT_len] <;> omega) | decide) only [go_sem,↓reduceIte,Nat.reduceEqDiff,reduceCtorEq,Nat.reduceLT,Nat.reduceBEq,Nat.reduceAdd,int_nI',e15,b1,b2,b3,b4,b5,b6,c1,c2,c3,hy]; with_reducible exact hZ) : p := e
theorem Y_fc61 {p : Prop} (e : p := by intro KZ hZ; simp -implicitDefEqProofs (disch := first | omega | (simp only [go_sem,lA,lD,lT,hr,hx1,rotT_len] <;> omega) | decide) only [go_sem,↓reduceIte,Nat.reduceEqDiff,reduceCtorEq,Nat.reduceLT,Nat.reduceBEq,Nat.reduceAdd,int_nI',e15,b1,b2,b3,b4,b5,b6,c1,c2,c3,hy]; with_reducible refine And.intro ?_ hZ; first | exact rfl | decide) : p := e
theorem F_fc61 {p : Prop} (e : p := by simp -implicitDefEqProofs (disch := first | omega | (simp only [go_sem,lA,lD,lT,hr,hx1,rotT_len] <;> omega) | decide) only [go_sem,↓reduceIte,Nat.reduceEqDiff,reduceCtorEq]; all_goals (first | (rw [hR]; done) | (rw [hR]; simp [c1]; done) | (rw [hR]; simp [c2,c3]; done) | (rw [hR]; simp [c2]; done))) : p := e
theorem fc61 {gl : Nat → C} {M0 : Nat} {pu : Nat → List C → Option C} {hp : Nat → List C → Hp → Option (C × Hp)} (hcx : CxOK (cxR gl M0 pu hp)) (r : List UInt8) (f z : Int) (l : List Leaf) (S : List Dig) (hr : r.length = 16) (hf : -9223372036854775808 ≤ f ∧ f ≤ 9223372036854775807) (hz : -9223372036854775808 ≤ z ∧ z ≤ 9223372036854775807) (hl : LB l) (hS : S.length ≤ 1000000) (hnr : ∀ (g : Nat) (xs : List C),noRefs 0 xs = false → pu g xs = none) (h15 : ∀ l : List Leaf,LB l → pu 15 [sl eC .no l] = some (.val (nI (valT l)))) (h50 : ∀ (n : Nat) (d : List UInt8),n ≤ 4096 → d.length = 16 → pu 50 [.val (nI n),.agg (cl bC d)] = some (.agg (cl bC (rotT n d)))) (hq93 : ∀ (suf : Hp) (l : List Leaf) (f z : Nat) (S0 : List Dig) (st : US) (d a b : Nat),OkH suf → OkL l → f ≤ 5000 → st.2.length ≤ 1000000 → a < b ∧ b ≤ 5000 ∧ b - a ≤ 2 ^ d → hp 93 [.val (nI a),.val (nI b),.bp 0 0,.kp [.val (nI f),.val (nI z),sl eC .no l,sl dC .no S0],.kp [.val (nI (f + l.length))],.bp 1 0,atG 93 [.bp 0 0,.kp [.val (nI f),.val (nI z),sl eC .no l,sl dC .no S0],.kp [.val (nI (f + l.length))],.bp 1 0] d] ([some [.val (.bool st.1)],some [sl dC .no st.2]] ++ suf) = some (.agg (cl bC (unO l f d a b st).1),[some [.val (.bool (unO l f d a b st).2.1)],some [sl dC .no (unO l f d a b st).2.2]] ++ suf)) : FC Tryd.prog gl 61 [.agg [.val (.int .i64 f),.val (.int .i64 z),sl eC .no l,sl dC .no S],.agg (cl bC r)] [] (.val (.bool (undT r f z l S))) [] := by
 replace hcx := hcx.reN (M := 86)
 refine FC.ofA (cx := cxR gl 86 pu hp) (rs := [.tmp 4]) rfl Tryd.func61 rfl rfl rfl (by simp only [List.length_cons,List.length_nil]; decide) (by simp only [go_sem]) ?_
 simp only [ini,go_sem]
 have b1 := True.intro
 have b2 := True.intro
 have b3 := True.intro
 have b4 := True.intro
 have b5 := True.intro
 have b6 := True.intro
 have c1 := True.intro
 have c2 := True.intro
 have c3 := True.intro
 have hy := True.intro
 have e15 := h15 l hl
 have hl1 := hl.1
 have hx1 := True.intro
 obtain ⟨W,hW⟩ : ∃ W,IntKind.i64.wrap (f + ((l.length : Nat) : Int)) = W := ⟨_,rfl⟩
 refine Tr.w hcx [] _ [none,none] rfl rfl rfl ?_ X_fc61
 have hy := And.intro @i_addW @hW
 refine Tr.w hcx [] _ [none] rfl rfl rfl ?_ X_fc61
 refine Tr.k [2,3,5] ?_
 refine Tr.seqK fun K1 hK1 => ?_
 by_cases b1 : z < ((0 : Nat) : Int)
 ·
  have hB : BadU f z l := Or.inl (by omega)
  have hy := True.intro
  refine Tr.w hcx [] [some 16,some 17,some 18,some 19,some 20,some 21,some 22,some 23,some 24,some 25,some 26,some 27,some 28,some 29,some 30,some 31,some 32,some 33,some 34,some 35,some 36,some 37,some 38,some 39,some 40,some 41,some 42,some 43,some 44,some 45,some 46,some 47] [] rfl rfl rfl ?_ X_fc61
  refine Tr.k [2,3,5,47] ?_
  refine Tr.cT rfl ?_
  have hR := und_1 (r := r) (S := S) (Or.inl hB)
  refine Tr.w hcx [] _ [] rfl rfl rfl ?_ X_fc61
  exact Tr.ret F_fc61
 skip
 by_cases b2 : ((4096 : Nat) : Int) < z
 ·
  have hB : BadU f z l := Or.inr (Or.inl (by omega))
  have hy := True.intro
  refine Tr.w hcx [] [some 16,some 17,some 18,some 19,some 20,some 21,some 22,some 23,some 24,some 25,some 26,some 27,some 28,some 29,some 30,some 31,some 32,some 33,some 34,some 35,some 36,some 37,some 38,some 39,some 40,some 41,some 42,some 43,some 44,some 45,some 46,some 47] [] rfl rfl rfl ?_ X_fc61
  refine Tr.k [2,3,5,47] ?_
  refine Tr.cT rfl ?_
  have hR := und_1 (r := r) (S := S) (Or.inl hB)
  refine Tr.w hcx [] _ [] rfl rfl rfl ?_ X_fc61
  exact Tr.ret F_fc61
 skip
 by_cases b3 : f < ((0 : Nat) : Int)
 ·
  have hB : BadU f z l := Or.inr (Or.inr (Or.inl (by omega)))
  have hy := True.intro
  refine Tr.w hcx [] [some 16,some 17,some 18,some 19,some 20,some 21,some 22,some 23,some 24,some 25,some 26,some 27,some 28,some 29,some 30,some 31,some 32,some 33,some 34,some 35,some 36,some 37,some 38,some 39,some 40,some 41,some 42,some 43,some 44,some 45,some 46,some 47] [] rfl rfl rfl ?_ X_fc61
  refine Tr.k [2,3,5,47] ?_
  refine Tr.cT rfl ?_
  have hR := und_1 (r := r) (S := S) (Or.inl hB)
  refine Tr.w hcx [] _ [] rfl rfl rfl ?_ X_fc61
  exact Tr.ret F_fc61
 skip
 by_cases b4 : z < f
 ·
  have hB : BadU f z l := Or.inr (Or.inr (Or.inr (Or.inl b4)))
  have hy := True.intro
  refine Tr.w hcx [] [some 16,some 17,some 18,some 19,some 20,some 21,some 22,some 23,some 24,some 25,some 26,some 27,some 28,some 29,some 30,some 31,some 32,some 33,some 34,some 35,some 36,some 37,some 38,some 39,some 40,some 41,some 42,some 43,some 44,some 45,some 46,some 47] [] rfl rfl rfl ?_ X_fc61
  refine Tr.k [2,3,5,47] ?_
  refine Tr.cT rfl ?_
  have hR := und_1 (r := r) (S := S) (Or.inl hB)
  refine Tr.w hcx [] _ [] rfl rfl rfl ?_ X_fc61
  exact Tr.ret F_fc61
 rw [wrap_i64 _ (by omega) (by omega)] at hW
 by_cases b5 : z < W
 ·
  have hB : BadU f z l := Or.inr (Or.inr (Or.inr (Or.inr (Or.inl (by omega)))))
  have hy := True.intro
  refine Tr.w hcx [] [some 16,some 17,some 18,some 19,some 20,some 21,some 22,some 23,some 24,some 25,some 26,some 27,some 28,some 29,some 30,some 31,some 32,some 33,some 34,some 35,some 36,some 37,some 38,some 39,some 40,some 41,some 42,some 43,some 44,some 45,some 46,some 47] [] rfl rfl rfl ?_ X_fc61
  refine Tr.k [2,3,5,47] ?_
  refine Tr.cT rfl ?_
  have hR := und_1 (r := r) (S := S) (Or.inl hB)
  refine Tr.w hcx [] _ [] rfl rfl rfl ?_ X_fc61
  exact Tr.ret F_fc61
 skip
 by_cases b6 : valT l = 0
 ·
  have hB : ¬ BadU f z l := fun q => by
    unfold BadU at q; omega
  have hok := valT_ok (l := l) (by omega)
  have hy := True.intro
  refine Tr.w hcx [] [some 16,some 17,some 18,some 19,some 20,some 21,some 22,some 23,some 24,some 25,some 26,some 27,some 28,some 29,some 30,some 31,some 32,some 33,some 34,some 35,some 36,some 37,some 38,some 39,some 40,some 41,some 42,some 43,some 44,some 45,some 46,some 47] [] rfl rfl rfl ?_ X_fc61
  refine Tr.k [2,3,5,47] ?_
  refine Tr.cF rfl ?_
  refine Tr.skip ?_
  refine hK1 _ ?_
  refine Tr.seqK fun K2 hK2 => ?_
  obtain ⟨z,rfl⟩ : ∃ n : Nat,z = (n : Int) := ⟨z.toNat,by omega⟩
  obtain ⟨f,rfl⟩ : ∃ n : Nat,f = (n : Int) := ⟨f.toNat,by omega⟩
  have hW2 : W = ((f + l.length : Nat) : Int) := by omega
  have hll := hok.1
  refine Tr.w hcx [] _ [] rfl rfl rfl ?_ X_fc61
  refine Tr.cD rfl (fun hc50 => ?_) (fun hc50 => ?_)
  ·
   have hR := und_z (r := r) (S := S) hB (by omega)
   have e50 := h50 0 (List.replicate 16 0) (by omega) rfl
   by_cases c1 : S.length = 0
   ·
    have hy := And.intro @e50 @eq23
    refine Tr.wD hcx hMOR [1000060] [some 51,some 52,some 53,some 54,some 55,some 56,some 57,some 58,some 59,some 60,some 4] [] rfl rfl rfl rfl ?_ Y_fc61
    exact Tr.ret F_fc61
   have hy := And.intro @e50 @eq23
   refine Tr.wD hcx hMOR [1000060] [some 51,some 52,some 53,some 54,some 55,some 56,some 57,some 58,some 59,some 60,some 4] [] rfl rfl rfl rfl ?_ Y_fc61
   exact Tr.ret F_fc61
  refine Tr.skip ?_
  refine hK2 _ ?_
  refine Tr.seqK fun K3 hK3 => ?_
  refine Tr.w hcx [] _ [] rfl rfl rfl ?_ X_fc61
  refine Tr.cD rfl (fun hc64 => ?_) (fun hc64 => ?_)
  ·
   have hR := und_1 (r := r) (S := S) (f := f) (z := z) (l := l) (Or.inr ⟨by omega,by omega⟩)
   refine Tr.w hcx [] _ [] rfl rfl rfl ?_ X_fc61
   exact Tr.ret F_fc61
  refine Tr.skip ?_
  refine hK3 _ ?_
  refine Tr.w hcx [] _ [none,none] rfl rfl rfl ?_ X_fc61
  refine Tr.w hcx [] _ [none] rfl rfl rfl ?_ X_fc61
  refine Tr.w hcx [] _ [] rfl rfl rfl ?_ X_fc61
  subst hW2
  simp only [int_nI']
  refine Tr.k [2,3,6,7,8] ?_
  refine Tr.f1 hcx 0 [.val (nI f),.val (nI z),sl eC .no l,sl dC .no S] ?_
  refine Tr.f1 hcx 2 [.val (nI (f + l.length))] ?_
  refine Tr.f2 hcx 5 12 93 [.bp 4 0,.kp [.val (nI f),.val (nI z),sl eC .no l,sl dC .no S],.kp [.val (nI (f + l.length))],.bp 3 0] ?_
  refine Tr.m1 hcx [4,3,1] ?_
  have e93 := hq93 [some (cl bC r),none] l f z S (true,S) 12 0 z (OkH.cons (okB_cl _) (OkH.cons rfl OkH.nil)) hok (by omega) hS (by omega)
  have hR := und_n (r := r) (S := S) hB (by omega) (by omega)
  obtain ⟨X,hX⟩ : ∃ X,X = unO l f 12 0 z (true,S) := ⟨_,rfl⟩
  have hXl : X.1.length = 16 := by rw [hX]; exact unO_len _ _ _ _ _ _
  rw [← hX] at e93 hR
  have hx1 := hXl
  simp only [List.cons_append,List.nil_append] at e93
  have e50 := h50 z X.1 (by omega) hXl
  have ep : ∀ x y : Nat,pu 93 [.val (nI x),.val (nI y),.bp 0 0,.kp [.val (nI f),.val (nI z),sl eC .no l,sl dC .no S],.kp [.val (nI (f + l.length))],.bp 1 0,atG 93 [.bp 0 0,.kp [.val (nI f),.val (nI z),sl eC .no l,sl dC .no S],.kp [.val (nI (f + l.length))],.bp 1 0] 12] = none := fun x y => hnr 93 _ rfl
  have hy := And.intro @e93 @ep
  refine Tr.w hcx [] _ [none] rfl rfl rfl ?_ X_fc61
  refine Tr.k [2,3,6,7,9] ?_
  by_cases c2 : X.2.1 = true
  ·
   skip
   by_cases c3 : X.2.2.length = 0
   ·
    have hy := And.intro @e50 @eq23
    refine Tr.wD hcx hMOR [1000085] [some 72,some 73,some 74,some 75,some 76,some 77,some 78,some 79,some 80,some 81,some 82,some 83,some 84,some 85,some 4] [] rfl rfl rfl rfl ?_ Y_fc61
    exact Tr.ret F_fc61
   have hy := And.intro @e50 @eq23
   refine Tr.wD hcx hMOR [1000085] [some 72,some 73,some 74,some 75,some 76,some 77,some 78,some 79,some 80,some 81,some 82,some 83,some 84,some 85,some 4] [] rfl rfl rfl rfl ?_ Y_fc61
   exact Tr.ret F_fc61
  replace c2 := Bool.eq_false_iff.2 c2
  have hy := And.intro @e50 @eq23
  refine Tr.wD hcx hMOR [1000085] [some 72,some 73,some 74,some 75,some 76,some 77,some 78,some 79,some 80,some 81,some 82,some 83,some 84,some 85,some 4] [] rfl rfl rfl rfl ?_ Y_fc61
  exact Tr.ret F_fc61
 have hB : BadU f z l := Or.inr (Or.inr (Or.inr (Or.inr (Or.inr b6))))
 have hy := True.intro
 refine Tr.w hcx [] [some 16,some 17,some 18,some 19,some 20,some 21,some 22,some 23,some 24,some 25,some 26,some 27,some 28,some 29,some 30,some 31,some 32,some 33,some 34,some 35,some 36,some 37,some 38,some 39,some 40,some 41,some 42,some 43,some 44,some 45,some 46,some 47] [] rfl rfl rfl ?_ X_fc61
 refine Tr.k [2,3,5,47] ?_
 refine Tr.cT rfl ?_
 have hR := und_1 (r := r) (S := S) (Or.inl hB)
 refine Tr.w hcx [] _ [] rfl rfl rfl ?_ X_fc61
 exact Tr.ret F_fc61
end Go.Sx
