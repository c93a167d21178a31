/-
   And what follows.
-/
import Derived.Test.YtmoaeemdlompaaaDoorPav
import Derived.Test.YtmoaeemdlompaaaDoorPau
set_option linter.unusedSimpArgs false
set_option linter.unusedVariables false
namespace Go.Sx
open Go.RowKit Go.Proofs
set_option maxRecDepth 100000
set_option maxHeartbeats 8000000
theorem crg_ins {r x y : List UInt8} {f z : Nat} {l : List Leaf} {S : List Dig} (hs : Srt l) (h : bl y x = false) (h2 : undT r f z l S = true) (h3 : ¬ ((0 < f ∧ fromT l x = 0) ∨ (f + l.length < z ∧ fromT l y = l.length))) : crgT r x y f z l S = (insT l x y l.length,0) := by
  have hy := from_le l y
  rw [crg_4 rfl rfl h h2 (by omega),ins_at hs x y _ (Nat.le_refl _),Nat.min_eq_right hy,List.drop_take]
theorem X_fc31 {p : Prop} (e : p := by intro KZ hZ; simp -implicitDefEqProofs (maxSteps := 2000000) (disch := first | omega | (simp only [go_sem,lA,lD,lT,hr] <;> omega) | decide) only [go_sem,↓reduceIte,Nat.reduceEqDiff,reduceCtorEq,Nat.reduceLT,Nat.reduceBEq,Nat.reduceAdd,int_nI',eq_self,decide_true,decide_false,not_true_eq_false,not_false_eq_true,b1,b2,b4,b5,b3,b6,hy]; with_reducible exact hZ) : p := e
theorem F_fc31 {p : Prop} (e : p := by simp -implicitDefEqProofs (disch := first | omega | (simp only [go_sem,lA,lD,lT,hr] <;> omega) | decide) only [go_sem,↓reduceIte,Nat.reduceEqDiff,reduceCtorEq]; all_goals (rw [hR])) : p := e
theorem fc31 {gl : Nat → C} {M : Nat} {pu : Nat → List C → Option C} (hcx : CxOK (cxP gl M pu)) (h62 : ∀ (r : List UInt8) (f z : Int) (l : List Leaf) (S : List Dig),r.length = 16 → (-9223372036854775808 ≤ f ∧ f ≤ 9223372036854775807) → (-9223372036854775808 ≤ z ∧ z ≤ 9223372036854775807) → LB l → S.length ≤ 1000000 → pu 62 [.agg (cl bC r),.agg [.val (.int .i64 f),.val (.int .i64 z),sl eC .no l,sl dC .no S]] = some (.val (.bool (undT r f z l S)))) (h35 : ∀ (l : List Leaf) (k : List UInt8),l.length ≤ 1000000 → pu 35 [sl eC .no l,.val (str k)] = some (.val (.int .i64 (hasI l k)))) (h58 : ∀ (l : List Leaf) (k : List UInt8),l.length ≤ 1000000 → pu 58 [sl eC .no l,.val (str k)] = some (.val (nI (fromT l k)))) (r k : List UInt8) (f z : Int) (l : List Leaf) (S : List Dig) (hr : r.length = 16) (hf : -9223372036854775808 ≤ f ∧ f ≤ 9223372036854775807) (hz : -9223372036854775808 ≤ z ∧ z ≤ 9223372036854775807) (hl : LB l) (hS : S.length ≤ 1000000) : FC Tryd.prog gl 31 [.agg (cl bC r),.val (str k),.agg [.val (.int .i64 f),.val (.int .i64 z),sl eC .no l,sl dC .no S]] [] (.tup [.val (str (chkT r k f z l S).1),.val (.bool (chkT r k f z l S).2.1),.val (nI (chkT r k f z l S).2.2)]) [] := by
 replace hcx := hcx.reN (M := 60)
 refine FC.ofA (cx := cxP gl 60 pu) (rs := [.tmp 6,.tmp 7,.tmp 8]) rfl Tryd.func31 rfl rfl rfl (by simp only [List.length_cons,List.length_nil]; decide) (by simp only [go_sem]) ?_
 simp only [ini,go_sem]
 have b1 := True.intro
 have b2 := True.intro
 have b4 := True.intro
 have b5 := True.intro
 have b3 := True.intro
 have b6 := True.intro
 have hy := True.intro
 have e62 := h62 r f z l S hr hf hz hl hS
 refine Tr.w hcx [] _ [none,none] rfl rfl rfl ?_ X_fc31
 refine Tr.seqK fun K1 hK1 => ?_
 by_cases b1 : undT r f z l S = true
 ·
  have hU := und_srt b1
  have hsr := valT_srt hU.1
  obtain ⟨z,rfl⟩ : ∃ n : Nat,z = (n : Int) := ⟨z.toNat,by omega⟩
  obtain ⟨f,rfl⟩ : ∃ n : Nat,f = (n : Int) := ⟨f.toNat,by omega⟩
  replace e62 : pu 62 [.agg (cl bC r),.agg [.val (nI f),.val (nI z),sl eC .no l,sl dC .no S]] = _ := e62
  have hy := @e62
  refine Tr.w hcx [] _ [] rfl rfl rfl ?_ X_fc31
  refine Tr.cF rfl ?_
  refine Tr.skip ?_
  refine hK1 _ ?_
  by_cases b2 : isT l k
  ·
   have e35 := h35 l k (by omega)
   rw [hasI_is hsr,if_pos b2] at e35
   have e58 := h58 l k (by omega)
   have hfl := from_le l k
   obtain ⟨i,hi⟩ : ∃ i,fromT l k = i := ⟨_,rfl⟩
   unfold isT at b2
   rw [hi] at e58 hfl b2 e35
   have x1b := rdc_e1 l i b2.1
   have hiX := b2.1
   have hy := @e35
   refine Tr.w hcx [1000020] _ [] rfl rfl rfl ?_ X_fc31
   refine Tr.seqK fun K2 hK2 => ?_
   have hy := True.intro
   refine Tr.w hcx [] _ [] rfl rfl rfl ?_ X_fc31
   refine Tr.cT rfl ?_
   have hR := chk_2 hi b1 b2.1 b2.2
   have hy := And.intro @x1b @hiX
   refine Tr.w hcx [1000028] _ [] rfl rfl rfl ?_ X_fc31
   refine Tr.k [6,7,8] ?_
   exact Tr.ret F_fc31
  have e35 := h35 l k (by omega)
  rw [hasI_is hsr,if_neg b2] at e35
  have e58 := h58 l k (by omega)
  have hfl := from_le l k
  obtain ⟨i,hi⟩ : ∃ i,fromT l k = i := ⟨_,rfl⟩
  unfold isT at b2
  rw [hi] at e58 hfl b2
  have x1b := True.intro
  have hiX := True.intro
  have hy := @e35
  refine Tr.w hcx [1000020] _ [] rfl rfl rfl ?_ X_fc31
  refine Tr.seqK fun K3 hK3 => ?_
  have hy := True.intro
  refine Tr.w hcx [] _ [] rfl rfl rfl ?_ X_fc31
  refine Tr.cF rfl ?_
  refine Tr.skip ?_
  refine hK3 _ ?_
  refine Tr.k [1,5] ?_
  have hy := @e58
  refine Tr.w hcx [1000032] _ [] rfl rfl rfl ?_ X_fc31
  by_cases b4 : 0 < i
  ·
   have hy := True.intro
   refine Tr.w hcx [1000039] [some 33,some 34,some 35,some 36,some 37,some 38,some 39,some 11] [] rfl rfl rfl ?_ X_fc31
   refine Tr.k [5,10,11] ?_
   by_cases b3 : i < l.length
   ·
    refine Tr.w hcx [1000055] [some 40,some 41,some 42,some 43,some 44,some 45,some 46,some 47,some 48,some 49,some 50,some 51,some 52,some 53,some 54,some 55,some 12] [] rfl rfl rfl ?_ X_fc31
    refine Tr.seqK fun K4 hK4 => ?_
    refine Tr.w hcx [] [some 56,some 57,some 58,some 59] [] rfl rfl rfl ?_ X_fc31
    refine Tr.cT rfl ?_
    have hR := chk_3 hi b1 b2 ⟨Or.inl b4,Or.inl b3⟩
    refine Tr.w hcx [] _ [] rfl rfl rfl ?_ X_fc31
    refine Tr.k [6,7,8] ?_
    exact Tr.ret F_fc31
   by_cases b6 : f + l.length = z
   ·
    have b6o := b6
    replace b6 := eq_true b6
    refine Tr.w hcx [1000055] [some 40,some 41,some 42,some 43,some 44,some 45,some 46,some 47,some 48,some 49,some 50,some 51,some 52,some 53,some 54,some 55,some 12] [] rfl rfl rfl ?_ X_fc31
    refine Tr.seqK fun K5 hK5 => ?_
    refine Tr.w hcx [] [some 56,some 57,some 58,some 59] [] rfl rfl rfl ?_ X_fc31
    refine Tr.cT rfl ?_
    have hR := chk_3 hi b1 b2 ⟨Or.inl b4,Or.inr (by omega)⟩
    refine Tr.w hcx [] _ [] rfl rfl rfl ?_ X_fc31
    refine Tr.k [6,7,8] ?_
    exact Tr.ret F_fc31
   have b6o := b6
   replace b6 := eq_false b6
   refine Tr.w hcx [1000055] [some 40,some 41,some 42,some 43,some 44,some 45,some 46,some 47,some 48,some 49,some 50,some 51,some 52,some 53,some 54,some 55,some 12] [] rfl rfl rfl ?_ X_fc31
   refine Tr.seqK fun K6 hK6 => ?_
   refine Tr.w hcx [] [some 56,some 57,some 58,some 59] [] rfl rfl rfl ?_ X_fc31
   refine Tr.cF rfl ?_
   refine Tr.skip ?_
   refine hK6 _ ?_
   refine Tr.k [] ?_
   have hR := chk_4 hi b1 b2 (by omega)
   refine Tr.w hcx [] _ [] rfl rfl rfl ?_ X_fc31
   exact Tr.ret F_fc31
  by_cases b5 : f = 0
  ·
   have b5o := b5
   replace b5 := eq_true b5
   have hy := True.intro
   refine Tr.w hcx [1000039] [some 33,some 34,some 35,some 36,some 37,some 38,some 39,some 11] [] rfl rfl rfl ?_ X_fc31
   refine Tr.k [5,10,11] ?_
   by_cases b3 : i < l.length
   ·
    refine Tr.w hcx [1000055] [some 40,some 41,some 42,some 43,some 44,some 45,some 46,some 47,some 48,some 49,some 50,some 51,some 52,some 53,some 54,some 55,some 12] [] rfl rfl rfl ?_ X_fc31
    refine Tr.seqK fun K7 hK7 => ?_
    refine Tr.w hcx [] [some 56,some 57,some 58,some 59] [] rfl rfl rfl ?_ X_fc31
    refine Tr.cT rfl ?_
    have hR := chk_3 hi b1 b2 ⟨Or.inr (by omega),Or.inl b3⟩
    refine Tr.w hcx [] _ [] rfl rfl rfl ?_ X_fc31
    refine Tr.k [6,7,8] ?_
    exact Tr.ret F_fc31
   by_cases b6 : f + l.length = z
   ·
    have b6o := b6
    replace b6 := eq_true b6
    refine Tr.w hcx [1000055] [some 40,some 41,some 42,some 43,some 44,some 45,some 46,some 47,some 48,some 49,some 50,some 51,some 52,some 53,some 54,some 55,some 12] [] rfl rfl rfl ?_ X_fc31
    refine Tr.seqK fun K8 hK8 => ?_
    refine Tr.w hcx [] [some 56,some 57,some 58,some 59] [] rfl rfl rfl ?_ X_fc31
    refine Tr.cT rfl ?_
    have hR := chk_3 hi b1 b2 ⟨Or.inr (by omega),Or.inr (by omega)⟩
    refine Tr.w hcx [] _ [] rfl rfl rfl ?_ X_fc31
    refine Tr.k [6,7,8] ?_
    exact Tr.ret F_fc31
   have b6o := b6
   replace b6 := eq_false b6
   refine Tr.w hcx [1000055] [some 40,some 41,some 42,some 43,some 44,some 45,some 46,some 47,some 48,some 49,some 50,some 51,some 52,some 53,some 54,some 55,some 12] [] rfl rfl rfl ?_ X_fc31
   refine Tr.seqK fun K9 hK9 => ?_
   refine Tr.w hcx [] [some 56,some 57,some 58,some 59] [] rfl rfl rfl ?_ X_fc31
   refine Tr.cF rfl ?_
   refine Tr.skip ?_
   refine hK9 _ ?_
   refine Tr.k [] ?_
   have hR := chk_4 hi b1 b2 (by omega)
   refine Tr.w hcx [] _ [] rfl rfl rfl ?_ X_fc31
   exact Tr.ret F_fc31
  have b5o := b5
  replace b5 := eq_false b5
  have hy := True.intro
  refine Tr.w hcx [1000039] [some 33,some 34,some 35,some 36,some 37,some 38,some 39,some 11] [] rfl rfl rfl ?_ X_fc31
  refine Tr.k [5,10,11] ?_
  by_cases b3 : i < l.length
  ·
   refine Tr.w hcx [1000055] [some 40,some 41,some 42,some 43,some 44,some 45,some 46,some 47,some 48,some 49,some 50,some 51,some 52,some 53,some 54,some 55,some 12] [] rfl rfl rfl ?_ X_fc31
   refine Tr.seqK fun K10 hK10 => ?_
   refine Tr.w hcx [] [some 56,some 57,some 58,some 59] [] rfl rfl rfl ?_ X_fc31
   refine Tr.cF rfl ?_
   refine Tr.skip ?_
   refine hK10 _ ?_
   refine Tr.k [] ?_
   have hR := chk_4 hi b1 b2 (by omega)
   refine Tr.w hcx [] _ [] rfl rfl rfl ?_ X_fc31
   exact Tr.ret F_fc31
  by_cases b6 : f + l.length = z
  ·
   have b6o := b6
   replace b6 := eq_true b6
   refine Tr.w hcx [1000055] [some 40,some 41,some 42,some 43,some 44,some 45,some 46,some 47,some 48,some 49,some 50,some 51,some 52,some 53,some 54,some 55,some 12] [] rfl rfl rfl ?_ X_fc31
   refine Tr.seqK fun K11 hK11 => ?_
   refine Tr.w hcx [] [some 56,some 57,some 58,some 59] [] rfl rfl rfl ?_ X_fc31
   refine Tr.cF rfl ?_
   refine Tr.skip ?_
   refine hK11 _ ?_
   refine Tr.k [] ?_
   have hR := chk_4 hi b1 b2 (by omega)
   refine Tr.w hcx [] _ [] rfl rfl rfl ?_ X_fc31
   exact Tr.ret F_fc31
  have b6o := b6
  replace b6 := eq_false b6
  refine Tr.w hcx [1000055] [some 40,some 41,some 42,some 43,some 44,some 45,some 46,some 47,some 48,some 49,some 50,some 51,some 52,some 53,some 54,some 55,some 12] [] rfl rfl rfl ?_ X_fc31
  refine Tr.seqK fun K12 hK12 => ?_
  refine Tr.w hcx [] [some 56,some 57,some 58,some 59] [] rfl rfl rfl ?_ X_fc31
  refine Tr.cF rfl ?_
  refine Tr.skip ?_
  refine hK12 _ ?_
  refine Tr.k [] ?_
  have hR := chk_4 hi b1 b2 (by omega)
  refine Tr.w hcx [] _ [] rfl rfl rfl ?_ X_fc31
  exact Tr.ret F_fc31
 replace b1 := Bool.eq_false_iff.2 b1
 have hy := @e62
 refine Tr.w hcx [] _ [] rfl rfl rfl ?_ X_fc31
 refine Tr.cT rfl ?_
 have hR := chk_1 (k := k) b1
 have hy := True.intro
 refine Tr.w hcx [] _ [] rfl rfl rfl ?_ X_fc31
 exact Tr.ret F_fc31
theorem X_fc33 {p : Prop} (e : p := by intro KZ hZ; simp -implicitDefEqProofs (maxSteps := 2000000) (disch := first | omega | (simp only [go_sem,lA,lD,lT,hr] <;> omega) | decide) only [go_sem,↓reduceIte,Nat.reduceEqDiff,reduceCtorEq,Nat.reduceLT,Nat.reduceBEq,Nat.reduceAdd,int_nI',eq_self,decide_true,decide_false,not_true_eq_false,not_false_eq_true,b0,b1,b7,b2,b3,b4,b5,hy]; with_reducible exact hZ) : p := e
theorem F_fc33 {p : Prop} (e : p := by simp -implicitDefEqProofs (disch := first | omega | (simp only [go_sem,lA,lD,lT,hr] <;> omega) | decide) only [go_sem,↓reduceIte,Nat.reduceEqDiff,reduceCtorEq]; all_goals (first | (rw [hR]; done))) : p := e
theorem fc33 {gl : Nat → C} {M : Nat} {pu : Nat → List C → Option C} (hcx : CxOK (cxP gl M pu)) (h62 : ∀ (r : List UInt8) (f z : Int) (l : List Leaf) (S : List Dig),r.length = 16 → (-9223372036854775808 ≤ f ∧ f ≤ 9223372036854775807) → (-9223372036854775808 ≤ z ∧ z ≤ 9223372036854775807) → LB l → S.length ≤ 1000000 → pu 62 [.agg (cl bC r),.agg [.val (.int .i64 f),.val (.int .i64 z),sl eC .no l,sl dC .no S]] = some (.val (.bool (undT r f z l S)))) (h36 : ∀ (l : List Leaf) (x y : List UInt8),l.length ≤ 1000000 → pu 36 [sl eC .no l,.val (str x),.val (str y)] = some (sl eC (.own 2) (insT l x y l.length))) (r x y : List UInt8) (f z : Int) (l : List Leaf) (S : List Dig) (hr : r.length = 16) (hf : -9223372036854775808 ≤ f ∧ f ≤ 9223372036854775807) (hz : -9223372036854775808 ≤ z ∧ z ≤ 9223372036854775807) (hl : LB l) (hS : S.length ≤ 1000000) : FC Tryd.prog gl 33 [.agg (cl bC r),.val (str x),.val (str y),.agg [.val (.int .i64 f),.val (.int .i64 z),sl eC .no l,sl dC .no S]] [] (.tup [sl eC .no (crgT r x y f z l S).1,.val (nI (crgT r x y f z l S).2)]) [] := by
 replace hcx := hcx.reN (M := 60)
 refine FC.ofA (cx := cxP gl 60 pu) (rs := [.tmp 8,.tmp 9]) rfl Tryd.func33 rfl rfl rfl (by simp only [List.length_cons,List.length_nil]; decide) (by simp only [go_sem]) ?_
 simp only [ini,go_sem]
 have b0 := True.intro
 have b1 := True.intro
 have b7 := True.intro
 have b2 := True.intro
 have b3 := True.intro
 have b4 := True.intro
 have b5 := True.intro
 have hy := True.intro
 have e62 := h62 r f z l S hr hf hz hl hS
 refine Tr.w hcx [] _ [none,none] rfl rfl rfl ?_ X_fc33
 refine Tr.seqK fun K1 hK1 => ?_
 by_cases b0 : bl y x = true
 ·
  have hR := crg_1 (r := r) (f := f) (z := z) (l := l) (S := S) b0
  refine Tr.w hcx [] _ [] rfl rfl rfl ?_ X_fc33
  refine Tr.cT rfl ?_
  refine Tr.w hcx [] _ [] rfl rfl rfl ?_ X_fc33
  refine Tr.live [(8,sl eC .no []),(9,.val (nI 5))] LT ?_
  exact Tr.ret F_fc33
 replace b0 := Bool.eq_false_iff.2 b0
 refine Tr.w hcx [] _ [] rfl rfl rfl ?_ X_fc33
 refine Tr.cF rfl ?_
 refine Tr.skip ?_
 refine hK1 _ ?_
 refine Tr.seqK fun K2 hK2 => ?_
 by_cases b1 : undT r f z l S = true
 ·
  have hU := und_srt b1
  have hsr := valT_srt hU.1
  obtain ⟨z,rfl⟩ : ∃ n : Nat,z = (n : Int) := ⟨z.toNat,by omega⟩
  obtain ⟨f,rfl⟩ : ∃ n : Nat,f = (n : Int) := ⟨f.toNat,by omega⟩
  replace e62 : pu 62 [.agg (cl bC r),.agg [.val (nI f),.val (nI z),sl eC .no l,sl dC .no S]] = _ := e62
  have hy := @e62
  refine Tr.w hcx [] _ [] rfl rfl rfl ?_ X_fc33
  refine Tr.cF rfl ?_
  refine Tr.skip ?_
  refine hK2 _ ?_
  have hy := True.intro
  refine Tr.w hcx [1000020] _ [] rfl rfl rfl ?_ X_fc33
  refine Tr.seqK fun K3 hK3 => ?_
  by_cases b7 : l.length = 0
  ·
   have l0 := List.eq_nil_of_length_eq_zero b7
   have hR := crg_ins (x := x) (y := y) hsr b0 b1 (by
     have z0 : z = 0 := by
       by_cases z0 : 0 < z
       · rw [und_1 (Or.inr ⟨by omega,b7⟩)] at b1; cases b1
       · omega
     omega)
   rw [show insT l x y l.length = [] by subst l0; rfl] at hR
   refine Tr.w hcx [] _ [] rfl rfl rfl ?_ X_fc33
   refine Tr.cT rfl ?_
   refine Tr.w hcx [] _ [] rfl rfl rfl ?_ X_fc33
   refine Tr.live [(8,sl eC .no []),(9,.val (nI 0))] LT ?_
   exact Tr.ret F_fc33
  have qx := from_b hsr (k := x) (j := 0) (by omega)
  have qy := from_b hsr (k := y) (j := l.length - 1) (by omega)
  have hfx := from_le l x
  have hfy := from_le l y
  have x0 := rdc_e0 l 0 (by omega)
  have x0f := fk75_0 l 0 (by omega)
  rw [Nat.zero_mul,List.drop_zero] at x0 x0f
  have xn := rdc_e0 l (l.length - 1) (by omega)
  refine Tr.w hcx [] _ [] rfl rfl rfl ?_ X_fc33
  refine Tr.cF rfl ?_
  refine Tr.skip ?_
  refine hK3 _ ?_
  refine Tr.k [1,2,7,10] ?_
  refine Tr.seqK fun K4 hK4 => ?_
  by_cases b2 : 0 < f
  ·
   by_cases b3 : bl (gt l 0).1 x = true
   ·
    skip
    by_cases b4 : f + l.length < z
    ·
     by_cases b5 : bl (gt l (l.length - 1)).1 y = true
     ·
      skip
      have hy := And.intro @x0 (And.intro @x0f @xn)
      refine Tr.w hcx [] [some 23,some 24,some 25,some 26,some 27,some 28,some 29,some 30,some 31,some 32,some 33,some 34,some 35,some 36,some 37,some 38,some 39,some 40,some 41,some 42,some 43,some 44,some 45,some 46,some 47,some 48,some 49,some 50,some 51,some 52,some 53,some 54] [] rfl rfl rfl ?_ X_fc33
      refine Tr.k [1,2,7,54] ?_
      refine Tr.cT rfl ?_
      have hR := crg_3 (r := r) (S := S) rfl rfl b0 b1 (Or.inr ⟨by omega,by rw [qy] at b5; omega⟩)
      have hy := True.intro
      refine Tr.w hcx [] _ [] rfl rfl rfl ?_ X_fc33
      refine Tr.live [(8,sl eC .no []),(9,.val (nI 17))] LT ?_
      exact Tr.ret F_fc33
     have b5o := b5
     replace b5 := Bool.eq_false_iff.2 b5
     have hy := And.intro @x0 (And.intro @x0f @xn)
     refine Tr.w hcx [] [some 23,some 24,some 25,some 26,some 27,some 28,some 29,some 30,some 31,some 32,some 33,some 34,some 35,some 36,some 37,some 38,some 39,some 40,some 41,some 42,some 43,some 44,some 45,some 46,some 47,some 48,some 49,some 50,some 51,some 52,some 53,some 54] [] rfl rfl rfl ?_ X_fc33
     refine Tr.k [1,2,7,54] ?_
     refine Tr.cF rfl ?_
     refine Tr.skip ?_
     refine hK4 _ ?_
     have hn : ¬ ((0 < f ∧ fromT l x = 0) ∨ (f + l.length < z ∧ fromT l y = l.length)) := by
       rintro (q | q)
       · rw [qx] at b3; omega
       · rw [qy] at b5o; omega
     have hR := crg_ins hsr b0 b1 hn
     have e36 := h36 l x y (by omega)
     obtain ⟨I,hI⟩ : ∃ I,insT l x y l.length = I := ⟨_,rfl⟩
     rw [hI] at e36 hR
     have hy := @e36
     refine Tr.w hcx [1000059] _ [] rfl rfl rfl ?_ X_fc33
     exact Tr.ret F_fc33
    have hy := And.intro @x0 (And.intro @x0f @xn)
    refine Tr.w hcx [] [some 23,some 24,some 25,some 26,some 27,some 28,some 29,some 30,some 31,some 32,some 33,some 34,some 35,some 36,some 37,some 38,some 39,some 40,some 41,some 42,some 43,some 44,some 45,some 46,some 47,some 48,some 49,some 50,some 51,some 52,some 53,some 54] [] rfl rfl rfl ?_ X_fc33
    refine Tr.k [1,2,7,54] ?_
    refine Tr.cF rfl ?_
    refine Tr.skip ?_
    refine hK4 _ ?_
    have hn : ¬ ((0 < f ∧ fromT l x = 0) ∨ (f + l.length < z ∧ fromT l y = l.length)) := by
      rintro (q | q)
      · rw [qx] at b3; omega
      · exact b4 q.1
    have hR := crg_ins hsr b0 b1 hn
    have e36 := h36 l x y (by omega)
    obtain ⟨I,hI⟩ : ∃ I,insT l x y l.length = I := ⟨_,rfl⟩
    rw [hI] at e36 hR
    have hy := @e36
    refine Tr.w hcx [1000059] _ [] rfl rfl rfl ?_ X_fc33
    exact Tr.ret F_fc33
   have b3o := b3
   replace b3 := Bool.eq_false_iff.2 b3
   have hy := And.intro @x0 (And.intro @x0f @xn)
   refine Tr.w hcx [] [some 23,some 24,some 25,some 26,some 27,some 28,some 29,some 30,some 31,some 32,some 33,some 34,some 35,some 36,some 37,some 38,some 39,some 40,some 41,some 42,some 43,some 44,some 45,some 46,some 47,some 48,some 49,some 50,some 51,some 52,some 53,some 54] [] rfl rfl rfl ?_ X_fc33
   refine Tr.k [1,2,7,54] ?_
   refine Tr.cT rfl ?_
   have hR := crg_3 (r := r) (S := S) rfl rfl b0 b1 (Or.inl ⟨by omega,by rw [qx] at b3o; omega⟩)
   have hy := True.intro
   refine Tr.w hcx [] _ [] rfl rfl rfl ?_ X_fc33
   refine Tr.live [(8,sl eC .no []),(9,.val (nI 17))] LT ?_
   exact Tr.ret F_fc33
  by_cases b4 : f + l.length < z
  ·
   by_cases b5 : bl (gt l (l.length - 1)).1 y = true
   ·
    skip
    have hy := And.intro @x0 (And.intro @x0f @xn)
    refine Tr.w hcx [] [some 23,some 24,some 25,some 26,some 27,some 28,some 29,some 30,some 31,some 32,some 33,some 34,some 35,some 36,some 37,some 38,some 39,some 40,some 41,some 42,some 43,some 44,some 45,some 46,some 47,some 48,some 49,some 50,some 51,some 52,some 53,some 54] [] rfl rfl rfl ?_ X_fc33
    refine Tr.k [1,2,7,54] ?_
    refine Tr.cT rfl ?_
    have hR := crg_3 (r := r) (S := S) rfl rfl b0 b1 (Or.inr ⟨by omega,by rw [qy] at b5; omega⟩)
    have hy := True.intro
    refine Tr.w hcx [] _ [] rfl rfl rfl ?_ X_fc33
    refine Tr.live [(8,sl eC .no []),(9,.val (nI 17))] LT ?_
    exact Tr.ret F_fc33
   have b5o := b5
   replace b5 := Bool.eq_false_iff.2 b5
   have hy := And.intro @x0 (And.intro @x0f @xn)
   refine Tr.w hcx [] [some 23,some 24,some 25,some 26,some 27,some 28,some 29,some 30,some 31,some 32,some 33,some 34,some 35,some 36,some 37,some 38,some 39,some 40,some 41,some 42,some 43,some 44,some 45,some 46,some 47,some 48,some 49,some 50,some 51,some 52,some 53,some 54] [] rfl rfl rfl ?_ X_fc33
   refine Tr.k [1,2,7,54] ?_
   refine Tr.cF rfl ?_
   refine Tr.skip ?_
   refine hK4 _ ?_
   have hn : ¬ ((0 < f ∧ fromT l x = 0) ∨ (f + l.length < z ∧ fromT l y = l.length)) := by
     rintro (q | q)
     · exact b2 q.1
     · rw [qy] at b5o; omega
   have hR := crg_ins hsr b0 b1 hn
   have e36 := h36 l x y (by omega)
   obtain ⟨I,hI⟩ : ∃ I,insT l x y l.length = I := ⟨_,rfl⟩
   rw [hI] at e36 hR
   have hy := @e36
   refine Tr.w hcx [1000059] _ [] rfl rfl rfl ?_ X_fc33
   exact Tr.ret F_fc33
  have hy := And.intro @x0 (And.intro @x0f @xn)
  refine Tr.w hcx [] [some 23,some 24,some 25,some 26,some 27,some 28,some 29,some 30,some 31,some 32,some 33,some 34,some 35,some 36,some 37,some 38,some 39,some 40,some 41,some 42,some 43,some 44,some 45,some 46,some 47,some 48,some 49,some 50,some 51,some 52,some 53,some 54] [] rfl rfl rfl ?_ X_fc33
  refine Tr.k [1,2,7,54] ?_
  refine Tr.cF rfl ?_
  refine Tr.skip ?_
  refine hK4 _ ?_
  have hn : ¬ ((0 < f ∧ fromT l x = 0) ∨ (f + l.length < z ∧ fromT l y = l.length)) := by
    rintro (q | q)
    · exact b2 q.1
    · exact b4 q.1
  have hR := crg_ins hsr b0 b1 hn
  have e36 := h36 l x y (by omega)
  obtain ⟨I,hI⟩ : ∃ I,insT l x y l.length = I := ⟨_,rfl⟩
  rw [hI] at e36 hR
  have hy := @e36
  refine Tr.w hcx [1000059] _ [] rfl rfl rfl ?_ X_fc33
  exact Tr.ret F_fc33
 replace b1 := Bool.eq_false_iff.2 b1
 have hy := @e62
 refine Tr.w hcx [] _ [] rfl rfl rfl ?_ X_fc33
 refine Tr.cT rfl ?_
 have hR := crg_2 b0 b1
 have hy := True.intro
 refine Tr.w hcx [] _ [] rfl rfl rfl ?_ X_fc33
 refine Tr.live [(8,sl eC .no []),(9,.val (nI 17))] LT ?_
 exact Tr.ret F_fc33
end Go.Sx
namespace Go.Sx
open Go.RowKit Go.Proofs
set_option maxRecDepth 100000
set_option maxHeartbeats 8000000
def setD (d : Dig) (i : Nat) (x : UInt8) : Dig := ⟨d.1.set i x,by rw [List.length_set]; exact d.2⟩
abbrev flip (d : Dig) (i : Nat) : Dig := setD d i (gt d.1 i ^^^ UInt8.ofNat 1)
abbrev one16 : Dig := ⟨(List.replicate 16 0).set 0 (UInt8.ofNat 1),by simp⟩
theorem apFP_some (x : List C) (h : Hp) : apFP (some x) h = (5,h.length) := rfl
theorem i_addX {P : Program} {t : TypeId} (x : Int) (y : Nat) : binPlan P .add t (.val (.int .i64 x)) (.val (nI y)) = some (vp (.val (.int .i64 (IntKind.i64.wrap (x + ((y : Nat) : Int)))))) := by
  simp only [nI,bin_int,sbin,ne_eq,not_true_eq_false,if_false,Option.map_some]
theorem i_subX {P : Program} {t : TypeId} (x : Int) (y : Nat) : binPlan P .sub t (.val (.int .i64 x)) (.val (nI y)) = some (vp (.val (.int .i64 (IntKind.i64.wrap (x - ((y : Nat) : Int)))))) := by
  simp only [nI,bin_int,sbin,ne_eq,not_true_eq_false,if_false,Option.map_some]
theorem fz_e (l : List Leaf) (y : Nat) : fzGv (cl eC l) l.length (2,y) = sl eC .no l := fzGv_cl eC y l _ rfl
theorem fz_s (l : List Leaf) (k : Nat) (x : Leaf) (y : Nat) : fzGv (cl eC (l.set k x)) l.length (2,y) = sl eC .no (l.set k x) := fzGv_cl eC y _ _ (by simp)
theorem fz_a (l : List Leaf) (x : Leaf) (y : Nat) : fzGv (cl eC (l ++ [x])) (l.length + 1) (2,y) = sl eC .no (l ++ [x]) := fzGv_cl eC y _ _ (by simp)
theorem fz_d (l : List Dig) (y : Nat) : fzGv (cl dC l) l.length (16,y) = sl dC .no l := fzGv_cl dC y l _ rfl
theorem fz_t (l : List Dig) (k : Nat) (x : Dig) (y : Nat) : fzGv (cl dC (l.set k x)) l.length (16,y) = sl dC .no (l.set k x) := fzGv_cl dC y _ _ (by simp)
theorem fz_b (l : List Dig) (x : Dig) (y : Nat) : fzGv (cl dC (l ++ [x])) (l.length + 1) (16,y) = sl dC .no (l ++ [x]) := fzGv_cl dC y _ _ (by simp)
theorem rem_len {α : Type} {l : List α} {k : Nat} (h : k < l.length) : l.length - 1 = (l.take k ++ l.drop (k + 1)).length := by rw [List.length_append,List.length_take,List.length_drop]; omega
theorem fz_z {α : Type} (f : α → List C) {s : Nat} [hf : Cel f s] {l : List α} {k : Nat} (h : k < l.length) (y : Nat) : fzGv (cl f (l.take k ++ l.drop (k + 1))) (l.length - 1) (s,y) = sl f .no (l.take k ++ l.drop (k + 1)) := fzGv_cl f y _ _ (rem_len h)
theorem fz_r {α : Type} (f : α → List C) {s : Nat} [hf : Cel f s] {l : List α} {k : Nat} (h : k < l.length) (y : Nat) : fzGv (cl f (l.take k ++ l.drop (k + 1) ++ l.drop (l.length - 1))) (l.length - 1) (s,y) = sl f .no (l.take k ++ l.drop (k + 1)) := by
  have e := rem_len h
  have hl := cl_len (f := f) (l.take k ++ l.drop (k + 1))
  have hl2 := cl_len (f := f) (l.take k ++ l.drop (k + 1) ++ l.drop (l.length - 1))
  have hl3 : (l.take k ++ l.drop (k + 1) ++ l.drop (l.length - 1)).length = (l.take k ++ l.drop (k + 1)).length + (l.drop (l.length - 1)).length := List.length_append
  rw [hl3,Nat.add_mul] at hl2
  unfold fzGv
  simp only []
  rw [if_pos (by rw [hl2,e]; omega),cl_app,List.take_append_of_le_length (by rw [hl,e]; exact Nat.le_refl _),List.take_of_length_le (by rw [hl,e]; exact Nat.le_refl _),e]; rfl
theorem svG_drop {α : Type} (f : α → List C) {s : Nat} [hf : Cel f s] (y : Nat) (z : List Value) (k : Nat) (l : List α) (h : z.length = s ∧ z.all (·.oneCell') = true ∧ k < l.length ∧ l.length ≤ 1000000 ∧ y ≤ 1000) :
    svG s y z k ((k + 1) * s) (l.length - (k + 1)) (some (cl f l)) = some (cl f (l.drop (k + 1))) := by
  obtain ⟨h1,h2,h3,h4,h5⟩ := h
  have hl := cl_len (f := f) l
  have hd := cl_len (f := f) (l.drop (k + 1))
  rw [List.length_drop] at hd
  have e0 : (k + 1) * s + (l.length - (k + 1)) * s = l.length * s := by rw [← Nat.add_mul]; congr 1; omega
  have e : ((List.drop ((k + 1) * s) (cl f l)).take ((l.length - (k + 1)) * s)).map C.noR = cl f (l.drop (k + 1)) := by
    rw [cl_drop,List.take_of_length_le (by omega),cl_noR]
  have hb : (k + (l.length - (k + 1))) * y ≤ 1000000 * 1000 := Nat.mul_le_mul (by omega) h5
  unfold svG
  simp only [Option.bind_some]
  rw [e,if_pos ⟨by omega,by simp only [decide_eq_true_eq]; exact ⟨hd,hf.pos,h1,by omega,by omega,h2⟩⟩]
theorem svG_d (j : Nat) (S : List Dig) (h : j < S.length ∧ S.length ≤ 1000000) : svG 16 16 (List.replicate 16 (w8 (UInt8.ofNat 0))) j ((j + 1) * 16) (S.length - (j + 1)) (some (cl dC S)) = some (cl dC (S.drop (j + 1))) := svG_drop dC 16 _ j S ⟨rfl,rfl,h.1,h.2,by omega⟩
theorem svG_e (k : Nat) (l : List Leaf) (h : k < l.length ∧ l.length ≤ 1000000) : svG 2 32 [str [],str []] k ((k + 1) * 2) (l.length - (k + 1)) (some (cl eC l)) = some (cl eC (l.drop (k + 1))) := svG_drop eC 32 _ k l ⟨rfl,rfl,h.1,h.2,by omega⟩
section
variable (cx : Cx) (apps : List Nat) (dsts : List (Option Nat)) (l : List Oper) (id' : Nat) (d : Option Nat) (e : List (Nat × C)) (h : Hp) (fs : List FP) (K : List FP → St → Prop)
theorem stAB_A {α : Type} (f : α → List C) {s : Nat} [hf : Cel f s] (e' b k : Nat) (xs : List α) (hk : k < xs.length ∧ (k ≠ 0 ∨ xs.length = 1)) :
    stAB cx apps dsts l id' d e h fs K b k (s,e') (xs.length - (k + 1)) (cl f (xs.drop (k + 1))) (some (cl f xs)) = run cx apps dsts l id' (mkE d (.gv b (xs.length - 1) (s,e')) e) (h.set b (some (cl f (xs.take k ++ xs.drop (k + 1) ++ xs.drop (xs.length - 1))))) ((4,0) :: fs) K := by
  have hl := cl_len (f := f) xs
  have hd := cl_len (f := f) (xs.drop (k + 1))
  rw [List.length_drop] at hd
  unfold stAB
  simp only []
  rw [if_pos ⟨by rw [hl]; exact Nat.mul_le_mul_right s (by omega),by omega⟩,show k + (xs.length - (k + 1)) = xs.length - 1 by omega,cl_noR]
  have e1 : splice (cl f xs) (k * s) (cl f (xs.drop (k + 1))) = cl f (xs.take k ++ xs.drop (k + 1) ++ xs.drop (xs.length - 1)) := by
    unfold splice
    rw [hd,← Nat.add_mul,show k + (xs.length - (k + 1)) = xs.length - 1 by omega,cl_drop,cl_take,cl_app,cl_app]
  rw [e1]
theorem stAB_B {α : Type} (f : α → List C) {s : Nat} [hf : Cel f s] (e' b k : Nat) (xs : List α) (hk : k = 0 ∧ 1 < xs.length) :
    stAB cx apps dsts l id' d e h fs K b k (s,e') (xs.length - (k + 1)) (cl f (xs.drop (k + 1))) (some (cl f xs)) = run cx apps dsts l id' (mkE d (.gv h.length (xs.length - 1) (s,e')) e) (h.set b (some deadC) ++ [some (cl f (xs.take k ++ xs.drop (k + 1)))]) ((4,0) :: fs) K := by
  obtain ⟨rfl,h1⟩ := hk
  have hl := cl_len (f := f) xs
  have hp := hf.pos
  have hm : s ≤ xs.length * s := by
    have := Nat.mul_le_mul_right s (show 1 ≤ xs.length by omega)
    omega
  unfold stAB
  simp only []
  rw [if_neg (by omega),if_neg (by rw [hl]; omega),if_pos True.intro,cl_noR,Nat.zero_add,List.take_zero,List.nil_append]
end
theorem q_lo {y : Int} (h : -9223372036854775808 ≤ y ∧ y ≤ 9223372036854775807) : -9223372036854775808 ≤ y.tdiv ((8 : Nat) : Int) ∧ y.tdiv ((8 : Nat) : Int) ≤ 9223372036854775807 := by
  have h1 := Int.natAbs_tdiv y ((8 : Nat) : Int)
  have h2 : y.natAbs.div (((8 : Nat) : Int)).natAbs ≤ y.natAbs := Nat.div_le_self _ _
  have h3 : y.natAbs.div (((8 : Nat) : Int)).natAbs = y.natAbs / 8 := rfl
  omega
theorem splice_el {α : Type} [Inhabited α] {f : α → List C} {s : Nat} [hf : Cel f s] (l : List α) (k i : Nat) (cs : List C) (a' : α) (hk : k < l.length) (hi : i + cs.length ≤ s) (h : splice (f (gt l k)) i cs = f a') : splice (cl f l) (k * s + i) cs = cl f (l.set k a') := by
  have e : l = l.take k ++ gt l k :: l.drop (k + 1) := by
    have e1 : gt l k = l[k] := by simp [gt,List.getD,List.getElem?_eq_getElem hk]
    rw [e1,List.getElem_cons_drop,List.take_append_drop]
  have hs : l.set k a' = l.take k ++ a' :: l.drop (k + 1) := by rw [List.set_eq_take_append_cons_drop,if_pos hk]
  have hP : (cl f (l.take k)).length = k * s := by rw [cl_len (f := f),List.length_take,Nat.min_eq_left (by omega)]
  have hQ : (f (gt l k)).length = s := hf.len _
  rw [hs,cl_app,cl_cons,← h]
  conv => lhs; rw [e]
  rw [cl_app,cl_cons]
  generalize cl f (l.take k) = P at *
  generalize f (gt l k) = Q at *
  generalize cl f (l.drop (k + 1)) = R
  unfold splice
  rw [List.take_append,List.drop_append,List.take_of_length_le (by omega),hP,Nat.add_sub_cancel_left,List.drop_of_length_le (l := P) (by omega),show k * s + i + cs.length - k * s = i + cs.length by omega,
    List.take_append_of_le_length (by omega),List.drop_append_of_le_length (by omega)]
  simp only [List.append_assoc,List.nil_append]
theorem wrc_el {α : Type} [Inhabited α] {f : α → List C} {s : Nat} [hf : Cel f s] (l : List α) (k i : Nat) (c : C) (a' : α) (hk : k < l.length) (hi : i < s) (h : splice (f (gt l k)) i [c] = f a') : wrc (cl f l) (k * s + i) [c] = some (cl f (l.set k a'),.val undef) := by
  unfold wrc
  have := Nat.mul_le_mul_right s (show k + 1 ≤ l.length by omega)
  rw [Nat.add_mul] at this
  rw [if_pos (by rw [cl_len (f := f)]; simp only [List.length_singleton]; omega),splice_el l k i [c] a' hk (by simp only [List.length_singleton]; omega) h]
theorem bent_mk (y : Int) : lay1s 4 (cl iC ((List.map Int.ofNat (List.replicate 4 0)).set 0 y)) [(1,.val (nI 4096)),(2,.val (nI 4097)),(3,.val (.int .i64 (-1)))] = some (vp (sl iC .full [y,4096,4097,-1])) := rfl
theorem gtE {α : Type} [Inhabited α] {l : List α} {i : Nat} (h : i < l.length) : gt l i = l[i] := by simp [gt,List.getD,List.getElem?_eq_getElem h]
theorem rdc_dg (S : List Dig) (j i : Nat) (hj : j < S.length) (hi : i < 16) : rdc (cl dC S) (j * 16 + i) = some (.val (w8 (gt (gt S j).1 i))) := by
  have e : gt S j = S[j] := by simp [gt,List.getD,List.getElem?_eq_getElem hj]
  have e2 : (gt S j).1.length = 16 := (gt S j).2
  have e3 : gt (gt S j).1 i = (gt S j).1[i] := gtE (by omega)
  unfold rdc
  rw [cl_getq (f := dC) S j i hi,List.getElem?_eq_getElem hj,← e]
  show ((cl bC (gt S j).1)[i]?).map C.noR = _
  have h1 := cl_getq (f := bC) (gt S j).1 i 0 (by decide)
  rw [Nat.mul_one,Nat.add_zero] at h1
  rw [h1,List.getElem?_eq_getElem (by omega),e3]; rfl
theorem wrc_dg (S : List Dig) (j i : Nat) (x : UInt8) (hj : j < S.length) (hi : i < 16) : wrc (cl dC S) (j * 16 + i) [.val (w8 x)] = some (cl dC (S.set j (setD (gt S j) i x)),.val undef) :=
  wrc_el (f := dC) S j i _ _ hj hi (by
    have e2 : (gt S j).1.length = 16 := (gt S j).2
    have h1 := cl_set (f := bC) (gt S j).1 i x (by omega)
    rw [Nat.mul_one] at h1
    exact h1)
theorem wrc_e0 (l : List Leaf) (k : Nat) (x : List UInt8) (h : k < l.length) : wrc (cl eC l) (k * 2) [.val (str x)] = some (cl eC (l.set k (x,(gt l k).2)),.val undef) := wrc_el (f := eC) l k 0 _ (x,(gt l k).2) h (by decide) rfl
theorem wrc_e1 (l : List Leaf) (k : Nat) (x : List UInt8) (h : k < l.length) : wrc (cl eC l) (k * 2 + 1) [.val (str x)] = some (cl eC (l.set k ((gt l k).1,x)),.val undef) := wrc_el (f := eC) l k 1 _ ((gt l k).1,x) h (by decide) rfl
abbrev wr64 (x : Int) : Int := IntKind.i64.wrap x
abbrev PrZ := Int × Int × List Leaf × List Dig
def bentT (p : PrZ) (w y : Int) : PrZ :=
  match aroundI w 11 with
  | 0 => (wr64 (wr64 (p.1 + ((aroundI y 5 : Nat) : Int)) - ((2 : Nat) : Int)),p.2)
  | 1 => (p.1,wr64 (wr64 (p.2.1 + ((aroundI y 5 : Nat) : Int)) - ((2 : Nat) : Int)),p.2.2)
  | 2 => (p.1,gt [y,4096,4097,-1] (aroundI y 4),p.2.2)
  | 3 => (y,p.2)
  | 4 => (p.1,p.2.1,if 0 < p.2.2.1.length then p.2.2.1.set (aroundI y (max p.2.2.1.length 1)) (keyT (aroundI y 40),(gt p.2.2.1 (aroundI y (max p.2.2.1.length 1))).2) else p.2.2.1,p.2.2.2)
  | 5 => (p.1,p.2.1,if 0 < p.2.2.1.length then p.2.2.1.set (aroundI y (max p.2.2.1.length 1)) ((gt p.2.2.1 (aroundI y (max p.2.2.1.length 1))).1,(gt p.2.2.1 (aroundI y (max p.2.2.1.length 1))).2 ++ [120]) else p.2.2.1,p.2.2.2)
  | 6 => (p.1,p.2.1,if 0 < p.2.2.1.length then p.2.2.1.take (aroundI y (max p.2.2.1.length 1)) ++ p.2.2.1.drop (aroundI y (max p.2.2.1.length 1) + 1) else p.2.2.1,p.2.2.2)
  | 7 => (p.1,p.2.1,p.2.2.1 ++ [(keyT (aroundI y 40),[])],p.2.2.2)
  | 8 => (p.1,p.2.1,p.2.2.1,if 0 < p.2.2.2.length then p.2.2.2.set (aroundI y (max p.2.2.2.length 1)) (flip (gt p.2.2.2 (aroundI y (max p.2.2.2.length 1))) (aroundI (y.tdiv ((8 : Nat) : Int)) 16)) else p.2.2.2)
  | 9 => (p.1,p.2.1,p.2.2.1,if 0 < p.2.2.2.length then p.2.2.2.take (aroundI y (max p.2.2.2.length 1)) ++ p.2.2.2.drop (aroundI y (max p.2.2.2.length 1) + 1) else p.2.2.2)
  | _ => (p.1,p.2.1,p.2.2.1,p.2.2.2 ++ [one16])
section
variable {f z w y : Int} {l : List Leaf} {S : List Dig}
theorem bent_0 (h : aroundI w 11 = 0) : bentT (f,z,l,S) w y = (wr64 (wr64 (f + ((aroundI y 5 : Nat) : Int)) - ((2 : Nat) : Int)),z,l,S) := by unfold bentT; rw [h]; rfl
theorem bent_1 (h : aroundI w 11 = 1) : bentT (f,z,l,S) w y = (f,wr64 (wr64 (z + ((aroundI y 5 : Nat) : Int)) - ((2 : Nat) : Int)),l,S) := by unfold bentT; rw [h]; rfl
theorem bent_2 (h : aroundI w 11 = 2) : bentT (f,z,l,S) w y = (f,gt [y,4096,4097,-1] (aroundI y 4),l,S) := by unfold bentT; rw [h]; rfl
theorem bent_3 (h : aroundI w 11 = 3) : bentT (f,z,l,S) w y = (y,z,l,S) := by unfold bentT; rw [h]; rfl
theorem bent_4 {k : Nat} (hk : aroundI y (max l.length 1) = k) (h : aroundI w 11 = 4) (h0 : 0 < l.length) : bentT (f,z,l,S) w y = (f,z,l.set k (keyT (aroundI y 40),(gt l k).2),S) := by unfold bentT; rw [h,← hk]; exact congrArg (fun q => (f,z,q,S)) (if_pos h0)
theorem bent_5 {k : Nat} (hk : aroundI y (max l.length 1) = k) (h : aroundI w 11 = 5) (h0 : 0 < l.length) : bentT (f,z,l,S) w y = (f,z,l.set k ((gt l k).1,(gt l k).2 ++ [120]),S) := by unfold bentT; rw [h,← hk]; exact congrArg (fun q => (f,z,q,S)) (if_pos h0)
theorem bent_6 {k : Nat} (hk : aroundI y (max l.length 1) = k) (h : aroundI w 11 = 6) (h0 : 0 < l.length) : bentT (f,z,l,S) w y = (f,z,l.take k ++ l.drop (k + 1),S) := by unfold bentT; rw [h,← hk]; exact congrArg (fun q => (f,z,q,S)) (if_pos h0)
theorem bent_n (h : aroundI w 11 = 4 ∨ aroundI w 11 = 5 ∨ aroundI w 11 = 6) (h0 : ¬ 0 < l.length) : bentT (f,z,l,S) w y = (f,z,l,S) := by
  unfold bentT
  rcases h with h | h | h <;> (rw [h]; exact congrArg (fun q => (f,z,q,S)) (if_neg h0))
theorem bent_7 (h : aroundI w 11 = 7) : bentT (f,z,l,S) w y = (f,z,l ++ [(keyT (aroundI y 40),[])],S) := by unfold bentT; rw [h]; rfl
theorem bent_8 {j : Nat} (hj : aroundI y (max S.length 1) = j) (h : aroundI w 11 = 8) (h0 : 0 < S.length) : bentT (f,z,l,S) w y = (f,z,l,S.set j (flip (gt S j) (aroundI (y.tdiv ((8 : Nat) : Int)) 16))) := by unfold bentT; rw [h,← hj]; exact congrArg (fun q => (f,z,l,q)) (if_pos h0)
theorem bent_9 {j : Nat} (hj : aroundI y (max S.length 1) = j) (h : aroundI w 11 = 9) (h0 : 0 < S.length) : bentT (f,z,l,S) w y = (f,z,l,S.take j ++ S.drop (j + 1)) := by unfold bentT; rw [h,← hj]; exact congrArg (fun q => (f,z,l,q)) (if_pos h0)
theorem bent_m (h : aroundI w 11 = 8 ∨ aroundI w 11 = 9) (h0 : ¬ 0 < S.length) : bentT (f,z,l,S) w y = (f,z,l,S) := by
  unfold bentT
  rcases h with h | h <;> (rw [h]; exact congrArg (fun q => (f,z,l,q)) (if_neg h0))
theorem bent_10 (h : aroundI w 11 = 10) : bentT (f,z,l,S) w y = (f,z,l,S ++ [one16]) := by unfold bentT; rw [h]; rfl
end
theorem X_fc28 {p : Prop} (e : p := by intro KZ hZ; simp -implicitDefEqProofs (maxSteps := 2000000) (disch := first | omega | (simp only [go_sem,lA,lD,lT,] <;> omega) | decide) only [go_sem,↓reduceIte,Nat.reduceEqDiff,reduceCtorEq,Nat.reduceLT,Nat.reduceBEq,Nat.reduceAdd,eq_self,decide_true,decide_false,not_true_eq_false,not_false_eq_true,e17a,e17b,e17w,List.length_cons,List.length_nil,q1,q2,hy]; with_reducible exact hZ) : p := e
theorem Y_fc28 {p : Prop} (e : p := by intro KZ hZ; simp -implicitDefEqProofs (maxSteps := 2000000) (disch := first | omega | (simp only [go_sem,lA,lD,lT,] <;> omega) | decide) only [go_sem,↓reduceIte,Nat.reduceEqDiff,reduceCtorEq,Nat.reduceLT,Nat.reduceBEq,Nat.reduceAdd,eq_self,decide_true,decide_false,not_true_eq_false,not_false_eq_true,e17a,e17b,e17w,List.length_cons,List.length_nil,q1,q2,hy]; with_reducible refine And.intro ?_ hZ; first | exact rfl | decide) : p := e
theorem F_fc28 {p : Prop} (e : p := by simp -implicitDefEqProofs (disch := first | omega | (simp only [go_sem,lA,lD,lT,] <;> omega) | decide) only [go_sem,↓reduceIte,Nat.reduceEqDiff,reduceCtorEq]; all_goals (rw [hR])) : p := e
theorem fc28 {gl : Nat → C} {M : Nat} {pu : Nat → List C → Option C} (hcx : CxOK (cxP gl M pu)) (h17 : ∀ (n : Int) (m : Nat),-9223372036854775808 ≤ n ∧ n ≤ 9223372036854775807 ∧ 0 < m ∧ m ≤ 9223372036854775807 → pu 17 [.val (.int .i64 n),.val (nI m)] = some (.val (nI (aroundI n m)))) (h49 : ∀ n : Nat,n ≤ 1000000000000 → pu 49 [.val (nI n)] = some (.val (str (keyT n)))) (f z : Int) (l : List Leaf) (S : List Dig) (w y : Int) (hw : -9223372036854775808 ≤ w ∧ w ≤ 9223372036854775807) (hyy : -9223372036854775808 ≤ y ∧ y ≤ 9223372036854775807) (hl : l.length ≤ 1000000) (hl2 : ∀ i,i < l.length → (gt l i).1.length ≤ 1000000 ∧ (gt l i).2.length ≤ 1000000) (hS : S.length ≤ 1000000) : FC Tryd.prog gl 28 [.agg [.val (.int .i64 f),.val (.int .i64 z),sl eC .no l,sl dC .no S],.val (.int .i64 w),.val (.int .i64 y)] [] (.agg [.val (.int .i64 (bentT (f,z,l,S) w y).1),.val (.int .i64 (bentT (f,z,l,S) w y).2.1),sl eC .no (bentT (f,z,l,S) w y).2.2.1,sl dC .no (bentT (f,z,l,S) w y).2.2.2]) [] := by
 replace hcx := hcx.reN (M := 170)
 refine FC.ofA (cx := cxP gl 170 pu) (rs := [.cell 6 54]) rfl Tryd.func28 rfl rfl rfl (by simp only [List.length_cons,List.length_nil]; decide) (by simp only [go_sem]) ?_
 simp only [ini,go_sem]
 have q1 := True.intro
 have q2 := True.intro
 have hy := True.intro
 have e17a := h17 y (max l.length 1) ⟨hyy.1,hyy.2,by omega,by omega⟩
 have e17b := h17 y (max S.length 1) ⟨hyy.1,hyy.2,by omega,by omega⟩
 have e17w := h17 w 11 ⟨hw.1,hw.2,by omega,by omega⟩
 have e17_5 := h17 y 5 ⟨hyy.1,hyy.2,by omega,by omega⟩
 have e17_4 := h17 y 4 ⟨hyy.1,hyy.2,by omega,by omega⟩
 have e17_40 := h17 y 40 ⟨hyy.1,hyy.2,by omega,by omega⟩
 have hk := around_lt y (m := max l.length 1) (by omega)
 have hj := around_lt y (m := max S.length 1) (by omega)
 obtain ⟨k,hK⟩ : ∃ k,aroundI y (max l.length 1) = k := ⟨_,rfl⟩
 obtain ⟨j,hJ⟩ : ∃ j,aroundI y (max S.length 1) = j := ⟨_,rfl⟩
 obtain ⟨c,hC⟩ : ∃ c,aroundI w 11 = c := ⟨_,rfl⟩
 rw [hK] at e17a hk
 rw [hJ] at e17b hj
 rw [hC] at e17w
 have hcl : c < 11 := by rw [← hC]; exact around_lt w (by omega)
 refine Tr.w hcx [] _ [none,none] rfl rfl rfl ?_ X_fc28
 have hy := @apFP_some
 refine Tr.wDG hcx hMO [17,21] [14,18] _ [none] rfl rfl rfl rfl ?_ Y_fc28
 refine Tr.k [1,2,6,7] ?_
 have hy := True.intro
 refine Tr.w hcx [1000028] _ [] rfl rfl rfl ?_ X_fc28
 refine Tr.w hcx [1000034] _ [] rfl rfl rfl ?_ X_fc28
 refine Tr.seqK fun K1 hK1 => ?_
 refine Tr.w hcx [] _ [] rfl rfl rfl ?_ X_fc28
 refine Tr.blk ?_
 refine Tr.w hcx [1000044] _ [] rfl rfl rfl ?_ X_fc28
 refine Tr.cD rfl (fun hc43 => ?_) (fun hc43 => ?_)
 ·
  have hR := bent_0 (f := f) (z := z) (w := w) (l := l) (S := S) (y := y) (hC.trans hc43)
  have hy := And.intro @e17_5 (And.intro @i_addX @i_subX)
  refine Tr.vD hcx hMO [] _ [] rfl rfl rfl rfl ?_ Y_fc28
  refine hK1 _ ?_
  refine Tr.k [6,7] ?_
  have hy := True.intro
  refine Tr.w hcx [] _ [] rfl rfl rfl ?_ X_fc28
  refine Tr.f1 hcx 3 (cl eC (l)) ?_
  try simp only [fz_e,fz_s,fz_a]
  refine Tr.f1 hcx 4 (cl dC (S)) ?_
  try simp only [fz_d,fz_t,fz_b]
  exact Tr.ret F_fc28
 refine Tr.w hcx [1000053] _ [] rfl rfl rfl ?_ X_fc28
 refine Tr.cD rfl (fun hc52 => ?_) (fun hc52 => ?_)
 ·
  have hR := bent_1 (f := f) (z := z) (w := w) (l := l) (S := S) (y := y) (hC.trans hc52)
  have hy := And.intro @e17_5 (And.intro @i_addX @i_subX)
  refine Tr.vD hcx hMO [] _ [] rfl rfl rfl rfl ?_ Y_fc28
  refine hK1 _ ?_
  refine Tr.k [6,7] ?_
  have hy := True.intro
  refine Tr.w hcx [] _ [] rfl rfl rfl ?_ X_fc28
  refine Tr.f1 hcx 3 (cl eC (l)) ?_
  try simp only [fz_e,fz_s,fz_a]
  refine Tr.f1 hcx 4 (cl dC (S)) ?_
  try simp only [fz_d,fz_t,fz_b]
  exact Tr.ret F_fc28
 refine Tr.w hcx [1000062] _ [] rfl rfl rfl ?_ X_fc28
 refine Tr.cD rfl (fun hc61 => ?_) (fun hc61 => ?_)
 ·
  have hR := bent_2 (f := f) (z := z) (w := w) (l := l) (S := S) (y := y) (hC.trans hc61)
  obtain ⟨Q,hQ⟩ : ∃ Q,[y,4096,4097,-1] = Q := ⟨_,rfl⟩
  have hQl : Q.length = 4 := by rw [← hQ]; rfl
  have hmk := bent_mk y
  rw [hQ] at hR hmk
  have h4 := around_lt y (m := 4) (by omega)
  have hix := fun (u : TypeDesc) (yy : Nat) (zz : List Value) => ixL_some iC u yy zz (aroundI y 4) Q (by omega)
  rw [hQl] at hix
  have hy := And.intro @e17_4 (And.intro @hmk (And.intro @hQl (And.intro @h4 @hix)))
  refine Tr.v hcx [] _ [] rfl rfl rfl ?_ X_fc28
  refine hK1 _ ?_
  refine Tr.k [6,7] ?_
  have hy := True.intro
  refine Tr.w hcx [] _ [] rfl rfl rfl ?_ X_fc28
  refine Tr.f1 hcx 3 (cl eC (l)) ?_
  try simp only [fz_e,fz_s,fz_a]
  refine Tr.f1 hcx 4 (cl dC (S)) ?_
  try simp only [fz_d,fz_t,fz_b]
  exact Tr.ret F_fc28
 refine Tr.w hcx [1000071] _ [] rfl rfl rfl ?_ X_fc28
 refine Tr.k [2,6,7,8,9,36,70] ?_
 refine Tr.cD rfl (fun hc70 => ?_) (fun hc70 => ?_)
 ·
  have hR := bent_3 (f := f) (z := z) (w := w) (l := l) (S := S) (y := y) (hC.trans hc70)
  refine Tr.v hcx [] _ [] rfl rfl rfl ?_ X_fc28
  refine hK1 _ ?_
  refine Tr.w hcx [] _ [] rfl rfl rfl ?_ X_fc28
  refine Tr.f1 hcx 3 (cl eC (l)) ?_
  try simp only [fz_e,fz_s,fz_a]
  refine Tr.f1 hcx 4 (cl dC (S)) ?_
  try simp only [fz_d,fz_t,fz_b]
  exact Tr.ret F_fc28
 refine Tr.w hcx [1000075] _ [] rfl rfl rfl ?_ X_fc28
 refine Tr.cD rfl (fun hc74 => ?_) (fun hc74 => ?_)
 ·
  refine Tr.w hcx [] _ [] rfl rfl rfl ?_ X_fc28
  refine Tr.cD rfl (fun hc79 => ?_) (fun hc79 => ?_)
  ·
   have hR := bent_4 (f := f) (z := z) (w := w) (l := l) (S := S) (y := y) hK (hC.trans hc74) hc79
   have hkl : k < l.length := by omega
   have e49 := h49 (aroundI y 40) (by have := around_lt y (m := 40) (by omega); omega)
   have w0 := fun x => wrc_e0 l k x hkl
   have hy := And.intro @e17_40 (And.intro @e49 (And.intro @hkl @w0))
   refine Tr.vD hcx hMO [] _ [] rfl rfl rfl rfl ?_ Y_fc28
   refine hK1 _ ?_
   have hy := True.intro
   refine Tr.w hcx [] _ [] rfl rfl rfl ?_ X_fc28
   refine Tr.f1 hcx 3 (cl eC (l.set k (keyT (aroundI y 40),(gt l k).2))) ?_
   try simp only [fz_e,fz_s,fz_a]
   refine Tr.f1 hcx 4 (cl dC (S)) ?_
   try simp only [fz_d,fz_t,fz_b]
   exact Tr.ret F_fc28
  have hR := bent_n (f := f) (z := z) (w := w) (l := l) (S := S) (y := y) (Or.inl (hC.trans hc74)) hc79
  refine Tr.skip ?_
  refine hK1 _ ?_
  refine Tr.w hcx [] _ [] rfl rfl rfl ?_ X_fc28
  refine Tr.f1 hcx 3 (cl eC (l)) ?_
  try simp only [fz_e,fz_s,fz_a]
  refine Tr.f1 hcx 4 (cl dC (S)) ?_
  try simp only [fz_d,fz_t,fz_b]
  exact Tr.ret F_fc28
 refine Tr.w hcx [1000089] _ [] rfl rfl rfl ?_ X_fc28
 refine Tr.cD rfl (fun hc88 => ?_) (fun hc88 => ?_)
 ·
  refine Tr.w hcx [] _ [] rfl rfl rfl ?_ X_fc28
  refine Tr.cD rfl (fun hc93 => ?_) (fun hc93 => ?_)
  ·
   have hR := bent_5 (f := f) (z := z) (w := w) (l := l) (S := S) (y := y) hK (hC.trans hc88) hc93
   have hkl : k < l.length := by omega
   have w1 := fun x => wrc_e1 l k x hkl
   have x1b := rdc_e1 l k hkl
   have hb2 := (hl2 k hkl).2
   have hy := And.intro @hkl (And.intro @w1 @x1b)
   refine Tr.vD hcx hMO [] _ [] rfl rfl rfl rfl ?_ Y_fc28
   refine hK1 _ ?_
   refine Tr.k [6,7] ?_
   have hy := True.intro
   refine Tr.w hcx [] _ [] rfl rfl rfl ?_ X_fc28
   refine Tr.f1 hcx 3 (cl eC (l.set k ((gt l k).1,(gt l k).2 ++ [120]))) ?_
   try simp only [fz_e,fz_s,fz_a]
   refine Tr.f1 hcx 4 (cl dC (S)) ?_
   try simp only [fz_d,fz_t,fz_b]
   exact Tr.ret F_fc28
  have hR := bent_n (f := f) (z := z) (w := w) (l := l) (S := S) (y := y) (Or.inr (Or.inl (hC.trans hc88))) hc93
  refine Tr.skip ?_
  refine hK1 _ ?_
  refine Tr.w hcx [] _ [] rfl rfl rfl ?_ X_fc28
  refine Tr.f1 hcx 3 (cl eC (l)) ?_
  try simp only [fz_e,fz_s,fz_a]
  refine Tr.f1 hcx 4 (cl dC (S)) ?_
  try simp only [fz_d,fz_t,fz_b]
  exact Tr.ret F_fc28
 refine Tr.w hcx [1000107] _ [] rfl rfl rfl ?_ X_fc28
 refine Tr.cD rfl (fun hc106 => ?_) (fun hc106 => ?_)
 ·
  refine Tr.w hcx [] _ [] rfl rfl rfl ?_ X_fc28
  refine Tr.cD rfl (fun hc111 => ?_) (fun hc111 => ?_)
  ·
   have hR := bent_6 (f := f) (z := z) (w := w) (l := l) (S := S) (y := y) hK (hC.trans hc106) hc111
   have hkl : k < l.length := by omega
   by_cases q1 : k < 1 ∧ 1 < l.length
   ·
    have q22 := fun cx apps dsts lo id d e h fs K e9 b => stAB_B cx apps dsts lo id d e h fs K eC e9 b k l ⟨by omega,q1.2⟩
    have hy := And.intro @svG_e (And.intro @hkl @q22)
    refine Tr.vDG hcx hMO [121] [115] _ [] rfl rfl rfl rfl ?_ Y_fc28
    refine hK1 _ ?_
    refine Tr.k [6,7] ?_
    have hy := True.intro
    refine Tr.w hcx [] _ [] rfl rfl rfl ?_ X_fc28
    refine Tr.f1 hcx 5 (cl eC (l.take k ++ l.drop (k + 1))) ?_
    try simp only [fz_z eC hkl]
    refine Tr.f1 hcx 4 (cl dC (S)) ?_
    try simp only [fz_d,fz_t,fz_b]
    exact Tr.ret F_fc28
   have q22 := fun cx apps dsts lo id d e h fs K e9 b => stAB_A cx apps dsts lo id d e h fs K eC e9 b k l ⟨hkl,by omega⟩
   have hy := And.intro @svG_e (And.intro @hkl @q22)
   refine Tr.vDG hcx hMO [121] [115] _ [] rfl rfl rfl rfl ?_ Y_fc28
   refine hK1 _ ?_
   refine Tr.k [6,7] ?_
   have hy := True.intro
   refine Tr.w hcx [] _ [] rfl rfl rfl ?_ X_fc28
   refine Tr.f1 hcx 3 (cl eC (l.take k ++ l.drop (k + 1) ++ l.drop (l.length - 1))) ?_
   try simp only [fz_r eC hkl]
   refine Tr.f1 hcx 4 (cl dC (S)) ?_
   try simp only [fz_d,fz_t,fz_b]
   exact Tr.ret F_fc28
  have hR := bent_n (f := f) (z := z) (w := w) (l := l) (S := S) (y := y) (Or.inr (Or.inr (hC.trans hc106))) hc111
  refine Tr.skip ?_
  refine hK1 _ ?_
  refine Tr.w hcx [] _ [] rfl rfl rfl ?_ X_fc28
  refine Tr.f1 hcx 3 (cl eC (l)) ?_
  try simp only [fz_e,fz_s,fz_a]
  refine Tr.f1 hcx 4 (cl dC (S)) ?_
  try simp only [fz_d,fz_t,fz_b]
  exact Tr.ret F_fc28
 refine Tr.w hcx [1000124] _ [] rfl rfl rfl ?_ X_fc28
 refine Tr.cD rfl (fun hc123 => ?_) (fun hc123 => ?_)
 ·
  have hR := bent_7 (f := f) (z := z) (w := w) (l := l) (S := S) (y := y) (hC.trans hc123)
  have e49 := h49 (aroundI y 40) (by have := around_lt y (m := 40) (by omega); omega)
  have hy := And.intro @e17_40 @e49
  refine Tr.vDG hcx hMO [132] [126] _ [] rfl rfl rfl rfl ?_ Y_fc28
  refine hK1 _ ?_
  have hy := True.intro
  refine Tr.w hcx [] _ [] rfl rfl rfl ?_ X_fc28
  refine Tr.f1 hcx 5 (cl eC (l ++ [(keyT (aroundI y 40),[])])) ?_
  try simp only [fz_e,fz_s,fz_a]
  refine Tr.f1 hcx 4 (cl dC (S)) ?_
  try simp only [fz_d,fz_t,fz_b]
  exact Tr.ret F_fc28
 refine Tr.w hcx [1000135] _ [] rfl rfl rfl ?_ X_fc28
 refine Tr.cD rfl (fun hc134 => ?_) (fun hc134 => ?_)
 ·
  refine Tr.w hcx [] _ [] rfl rfl rfl ?_ X_fc28
  refine Tr.cD rfl (fun hc139 => ?_) (fun hc139 => ?_)
  ·
   have hR := bent_8 (f := f) (z := z) (w := w) (l := l) (S := S) (y := y) hJ (hC.trans hc134) hc139
   have hjl : j < S.length := by omega
   have e16 := h17 (y.tdiv ((8 : Nat) : Int)) 16 ⟨by have := q_lo hyy; omega,by have := q_lo hyy; omega,by omega,by omega⟩
   obtain ⟨i,hI⟩ : ∃ i,aroundI (y.tdiv ((8 : Nat) : Int)) 16 = i := ⟨_,rfl⟩
   have hi16 : i < 16 := by rw [← hI]; exact around_lt _ (by omega)
   rw [hI] at e16 hR
   have g1 := rdc_dg S j i hjl hi16
   have g2 := fun x => wrc_dg S j i x hjl hi16
   have hy := And.intro @e16 (And.intro @g1 (And.intro @g2 (And.intro @hjl @hi16)))
   refine Tr.vD hcx hMO [] _ [] rfl rfl rfl rfl ?_ Y_fc28
   refine hK1 _ ?_
   refine Tr.k [6,7] ?_
   have hy := True.intro
   refine Tr.w hcx [] _ [] rfl rfl rfl ?_ X_fc28
   refine Tr.f1 hcx 3 (cl eC (l)) ?_
   try simp only [fz_e,fz_s,fz_a]
   refine Tr.f1 hcx 4 (cl dC (S.set j (setD (gt S j) i (gt (gt S j).1 i ^^^ UInt8.ofNat 1)))) ?_
   try simp only [fz_d,fz_t,fz_b]
   exact Tr.ret F_fc28
  have hR := bent_m (f := f) (z := z) (w := w) (l := l) (S := S) (y := y) (Or.inl (hC.trans hc134)) hc139
  refine Tr.skip ?_
  refine hK1 _ ?_
  refine Tr.w hcx [] _ [] rfl rfl rfl ?_ X_fc28
  refine Tr.f1 hcx 3 (cl eC (l)) ?_
  try simp only [fz_e,fz_s,fz_a]
  refine Tr.f1 hcx 4 (cl dC (S)) ?_
  try simp only [fz_d,fz_t,fz_b]
  exact Tr.ret F_fc28
 refine Tr.w hcx [1000153] _ [] rfl rfl rfl ?_ X_fc28
 refine Tr.cD rfl (fun hc152 => ?_) (fun hc152 => ?_)
 ·
  refine Tr.w hcx [] _ [] rfl rfl rfl ?_ X_fc28
  refine Tr.cD rfl (fun hc157 => ?_) (fun hc157 => ?_)
  ·
   have hR := bent_9 (f := f) (z := z) (w := w) (l := l) (S := S) (y := y) hJ (hC.trans hc152) hc157
   have hjl : j < S.length := by omega
   by_cases q2 : j < 1 ∧ 1 < S.length
   ·
    have q23 := fun cx apps dsts lo id d e h fs K e9 b => stAB_B cx apps dsts lo id d e h fs K dC e9 b j S ⟨by omega,q2.2⟩
    have hy := And.intro @svG_d (And.intro @hjl @q23)
    refine Tr.vDG hcx hMO [167] [161] _ [] rfl rfl rfl rfl ?_ Y_fc28
    refine hK1 _ ?_
    refine Tr.k [6,7] ?_
    have hy := True.intro
    refine Tr.w hcx [] _ [] rfl rfl rfl ?_ X_fc28
    refine Tr.f1 hcx 3 (cl eC (l)) ?_
    try simp only [fz_e,fz_s,fz_a]
    refine Tr.f1 hcx 5 (cl dC (S.take j ++ S.drop (j + 1))) ?_
    try simp only [fz_z dC hjl]
    exact Tr.ret F_fc28
   have q23 := fun cx apps dsts lo id d e h fs K e9 b => stAB_A cx apps dsts lo id d e h fs K dC e9 b j S ⟨hjl,by omega⟩
   have hy := And.intro @svG_d (And.intro @hjl @q23)
   refine Tr.vDG hcx hMO [167] [161] _ [] rfl rfl rfl rfl ?_ Y_fc28
   refine hK1 _ ?_
   refine Tr.k [6,7] ?_
   have hy := True.intro
   refine Tr.w hcx [] _ [] rfl rfl rfl ?_ X_fc28
   refine Tr.f1 hcx 3 (cl eC (l)) ?_
   try simp only [fz_e,fz_s,fz_a]
   refine Tr.f1 hcx 4 (cl dC (S.take j ++ S.drop (j + 1) ++ S.drop (S.length - 1))) ?_
   try simp only [fz_r dC hjl]
   exact Tr.ret F_fc28
  have hR := bent_m (f := f) (z := z) (w := w) (l := l) (S := S) (y := y) (Or.inr (hC.trans hc152)) hc157
  refine Tr.skip ?_
  refine hK1 _ ?_
  refine Tr.w hcx [] _ [] rfl rfl rfl ?_ X_fc28
  refine Tr.f1 hcx 3 (cl eC (l)) ?_
  try simp only [fz_e,fz_s,fz_a]
  refine Tr.f1 hcx 4 (cl dC (S)) ?_
  try simp only [fz_d,fz_t,fz_b]
  exact Tr.ret F_fc28
 have hR := bent_10 (f := f) (z := z) (w := w) (l := l) (S := S) (y := y) (by omega)
 refine Tr.vG hcx [41] [38] _ [] rfl rfl rfl ?_ X_fc28
 refine hK1 _ ?_
 refine Tr.w hcx [] _ [] rfl rfl rfl ?_ X_fc28
 refine Tr.f1 hcx 3 (cl eC (l)) ?_
 try simp only [fz_e,fz_s,fz_a]
 refine Tr.f1 hcx 5 (cl dC (S ++ [one16])) ?_
 try simp only [fz_d,fz_t,fz_b]
 exact Tr.ret F_fc28
end Go.Sx
namespace Go.Sx
open Go.RowKit Go.Proofs
def I64 (x : Int) : Prop := -9223372036854775808 ≤ x ∧ x ≤ 9223372036854775807
def PB (n : Nat) (p : PrZ) : Prop := I64 p.1 ∧ I64 p.2.1 ∧ p.2.2.1.length ≤ n ∧ (∀ i,i < p.2.2.1.length → (gt p.2.2.1 i).1.length ≤ n ∧ (gt p.2.2.1 i).2.length ≤ n) ∧ p.2.2.2.length ≤ n
theorem wr_in (x : Int) : I64 (wr64 x) := by
  have e : IntKind.wrap .i64 x = if x % 18446744073709551616 ≥ 9223372036854775808 then x % 18446744073709551616 - 18446744073709551616 else x % 18446744073709551616 := by
    simp [IntKind.wrap,IntKind.bits,IntKind.signed]
  unfold I64 wr64
  rw [e]
  constructor <;> split <;> omega
theorem PB.mono {n m : Nat} {p : PrZ} (h : PB n p) (hm : n ≤ m) : PB m p := ⟨h.1,h.2.1,by have := h.2.2.1; omega,fun i hi => by have := h.2.2.2.1 i hi; omega,by have := h.2.2.2.2; omega⟩
theorem all_gt {l : List Leaf} {n : Nat} : (∀ i,i < l.length → (gt l i).1.length ≤ n ∧ (gt l i).2.length ≤ n) ↔ ∀ x ∈ l,x.1.length ≤ n ∧ x.2.length ≤ n := by
  constructor
  · intro h x hx
    obtain ⟨i,hi,rfl⟩ := List.getElem_of_mem hx
    have := h i hi
    rwa [gtE hi] at this
  · intro h i hi
    rw [gtE hi]; exact h _ (List.getElem_mem hi)
theorem set_in {α : Type} {l : List α} {k : Nat} {a x : α} (h : x ∈ l.set k a) : x ∈ l ∨ x = a := List.mem_or_eq_of_mem_set h
theorem bent_pb {n : Nat} {p : PrZ} {w y : Int} (h : PB n p) (hy : I64 y) : PB (n + 2) (bentT p w y) := by
  obtain ⟨f,z,l,S⟩ := p
  obtain ⟨h1,h2,h3,h4,h5⟩ := h
  simp only at h1 h2 h3 h4 h5
  have h0 : PB (n + 2) (f,z,l,S) := PB.mono ⟨h1,h2,h3,h4,h5⟩ (by omega)
  have g := all_gt.1 h4
  have kl := keyT_len (aroundI y 40)
  have hc := around_lt w (m := 11) (by omega)
  obtain ⟨c,hC⟩ : ∃ c,aroundI w 11 = c := ⟨_,rfl⟩
  obtain ⟨k,hK⟩ : ∃ k,aroundI y (max l.length 1) = k := ⟨_,rfl⟩
  obtain ⟨j,hJ⟩ : ∃ j,aroundI y (max S.length 1) = j := ⟨_,rfl⟩
  have hk := around_lt y (m := max l.length 1) (by omega)
  have hj := around_lt y (m := max S.length 1) (by omega)
  rw [hC] at hc; rw [hK] at hk; rw [hJ] at hj
  have gk : 0 < l.length → (gt l k).1.length ≤ n ∧ (gt l k).2.length ≤ n := fun q => h4 k (by omega)
  have mk : ∀ {L : List Leaf},L.length ≤ n + 2 → (∀ x ∈ L,x.1.length ≤ n + 2 ∧ x.2.length ≤ n + 2) → PB (n + 2) (f,z,L,S) := fun q1 q2 => ⟨h1,h2,q1,all_gt.2 q2,by show S.length ≤ n + 2; omega⟩
  have mks : ∀ {D : List Dig},D.length ≤ n + 2 → PB (n + 2) (f,z,l,D) := fun q1 => ⟨h1,h2,h0.2.2.1,h0.2.2.2.1,q1⟩
  have g2 : ∀ x ∈ l,x.1.length ≤ n + 2 ∧ x.2.length ≤ n + 2 := fun x hx => by have := g x hx; omega
  rcases c with _ | _ | _ | _ | _ | _ | _ | _ | _ | _ | _ | c
  · rw [bent_0 hC]; exact ⟨wr_in _,h0.2⟩
  · rw [bent_1 hC]; exact ⟨h1,wr_in _,h0.2.2⟩
  · rw [bent_2 hC]
    refine ⟨h1,?_,h0.2.2⟩
    show I64 (gt [y,4096,4097,-1] (aroundI y 4))
    have := around_lt y (m := 4) (by omega)
    generalize aroundI y 4 = q at this
    rcases q with _ | _ | _ | _ | q
    · exact hy
    · show I64 4096; unfold I64; decide
    · show I64 4097; unfold I64; decide
    · show I64 (-1); unfold I64; decide
    · omega
  · rw [bent_3 hC]; exact ⟨hy,h0.2⟩
  · by_cases q : 0 < l.length
    · rw [bent_4 hK hC q]
      refine mk (by rw [List.length_set]; omega) fun x hx => ?_
      rcases set_in hx with hx | rfl
      · exact g2 x hx
      · have := gk q; simp only; omega
    · rw [bent_n (.inl hC) q]; exact h0
  · by_cases q : 0 < l.length
    · rw [bent_5 hK hC q]
      refine mk (by rw [List.length_set]; omega) fun x hx => ?_
      rcases set_in hx with hx | rfl
      · exact g2 x hx
      · have := gk q; simp only [List.length_append,List.length_singleton]; omega
    · rw [bent_n (.inr (.inl hC)) q]; exact h0
  · by_cases q : 0 < l.length
    · rw [bent_6 hK hC q]
      refine mk (by rw [List.length_append,List.length_take,List.length_drop]; omega) fun x hx => ?_
      rcases List.mem_append.1 hx with hx | hx
      · exact g2 x (List.mem_of_mem_take hx)
      · exact g2 x (List.mem_of_mem_drop hx)
    · rw [bent_n (.inr (.inr hC)) q]; exact h0
  · rw [bent_7 hC]
    refine mk (by simp only [List.length_append,List.length_singleton]; omega) fun x hx => ?_
    rcases List.mem_append.1 hx with hx | hx
    · exact g2 x hx
    · rw [List.mem_singleton.1 hx]; simp only [List.length_nil]; omega
  · by_cases q : 0 < S.length
    · rw [bent_8 hJ hC q]; exact mks (by rw [List.length_set]; omega)
    · rw [bent_m (.inl hC) q]; exact h0
  · by_cases q : 0 < S.length
    · rw [bent_9 hJ hC q]; exact mks (by rw [List.length_append,List.length_take,List.length_drop]; omega)
    · rw [bent_m (.inr hC) q]; exact h0
  · rw [bent_10 hC]; exact mks (by simp only [List.length_append,List.length_singleton]; omega)
  · omega
def pC (p : PrZ) : List C := [.val (.int .i64 p.1),.val (.int .i64 p.2.1),sl eC .no p.2.2.1,sl dC .no p.2.2.2]
instance : Cel pC 4 := ⟨fun _ => rfl,fun _ => rfl,by decide,fun _ _ => rfl⟩
inductive CLs : List C → List C → Prop
  | nil : CLs [] []
  | cons {x y : C} {l m : List C} (h : CLe x y) (t : CLs l m) : CLs (x :: l) (y :: m)
theorem CLs.refl : ∀ l : List C,CLs l l
  | [] => .nil
  | x :: l => .cons (CLe.refl x) (CLs.refl l)
theorem CLs.app {a b c d : List C} (h : CLs a b) (h2 : CLs c d) : CLs (a ++ c) (b ++ d) := by
  induction h with
  | nil => exact h2
  | cons q t ih => exact .cons q ih
theorem CLs.len {a b : List C} (h : CLs a b) : a.length = b.length := by
  induction h with
  | nil => rfl
  | cons q t ih => simp [ih]
theorem RepK_ls {G : Gh} {blk : Nat} {l m : List C} (h : CLs l m) : ∀ {off : Nat},RepK G blk off l → RepK G blk off m := by
  induction h with
  | nil => exact fun q => q
  | cons q t ih =>
    intro off r
    simp only [RepK] at r ⊢
    obtain ⟨⟨u,h1,h2,h3⟩,r2⟩ := r
    exact ⟨⟨u,h1,h2,q.1 G u h3⟩,ih r2⟩
theorem CLe_ls {n : Nat} {l m : List C} (h : CLs l m) : CLe (.sl .full n l) (.sl .full n m) := by
  have hl := h.len
  refine ⟨fun G v q => ?_,fun s n xs e => by cases e⟩
  simp only [Rep] at q ⊢
  obtain ⟨a,cap,h1,h2,h3,h4,h5⟩ := q
  refine ⟨a,cap,h1,h2,h3,h4,?_⟩
  rcases h5 with h5 | ⟨blk,off,ha,hk⟩
  · left; cases h <;> simp_all
  · exact .inr ⟨blk,off,ha,RepK_ls h hk⟩
def nulP : PrZ := (0,0,[],[])
def nilC : List C := [.val (nI 0),.val (nI 0),.val (.slice none 0 0),.val (.slice none 0 0)]
theorem nilC_le : CLs nilC (pC nulP) := .cons (CLe.refl _) (.cons (CLe.refl _) (.cons (CLe_sln rfl) (.cons (CLe_sln rfl) .nil)))
theorem CLe_pz (l : List PrZ) (n : Nat) (h : n = l.length + 1) : CLe (.sl .full n (cl pC l ++ nilC)) (sl pC .full (l ++ [nulP])) := by
  subst h
  have e : sl pC .full (l ++ [nulP]) = .sl .full (l.length + 1) (cl pC l ++ pC nulP) := by
    unfold sl; rw [cl_app,List.length_append]; rfl
  rw [e]; exact CLe_ls (CLs.app (CLs.refl _) nilC_le)
theorem mvC_psl (ρ : List Nat) (r : Rt) (l : List PrZ) : mvC ρ (sl pC r l) = sl pC r l := by
  have key : ∀ l : List PrZ,mvCs ρ (cl pC l) = cl pC l := fun l => by
    induction l with
    | nil => show mvCs ρ [] = []; simp only [mvCs]
    | cons x l ih =>
      show mvCs ρ (.val (.int .i64 x.1) :: .val (.int .i64 x.2.1) :: sl eC .no x.2.2.1 :: sl dC .no x.2.2.2 :: cl pC l) = _
      simp only [mvCs,mvC,mvC_sl,ih]; rfl
  show mvC ρ (.sl r l.length (cl pC l)) = .sl r l.length (cl pC l)
  simp only [mvC,key]
theorem fzC_psl (ok : Nat → Bool) (b : Nat) (ys : List C) (r : Rt) (l : List PrZ) : fzC ok b ys (sl pC r l) = sl pC r l := by
  have key : ∀ l : List PrZ,fzCs ok b ys (cl pC l) = cl pC l := fun l => by
    induction l with
    | nil => show fzCs ok b ys [] = []; simp only [fzCs]
    | cons x l ih =>
      show fzCs ok b ys (.val (.int .i64 x.1) :: .val (.int .i64 x.2.1) :: sl eC .no x.2.2.1 :: sl dC .no x.2.2.2 :: cl pC l) = _
      simp only [fzCs,fzC_val,fzC_sl,ih]; rfl
  show fzC ok b ys (.sl r l.length (cl pC l)) = .sl r l.length (cl pC l)
  simp only [fzC,key]
def toZ (p : Prf) : PrZ := ((p.1 : Int),(p.2.1 : Int),p.2.2.1,p.2.2.2)
theorem crg_len (r x y : List UInt8) (f z : Int) (l : List Leaf) (S : List Dig) : (crgT r x y f z l S).1.length ≤ l.length := by
  unfold crgT
  split
  · exact Nat.zero_le _
  · split
    · split
      · exact Nat.zero_le _
      · rw [List.length_take,List.length_drop]; omega
    · exact Nat.zero_le _
theorem PB.lb {n : Nat} {p : PrZ} (h : PB n p) (hn : n ≤ 1000000) : LB p.2.2.1 := LB.ofSmall ⟨by have := h.2.2.1; omega,fun i hi => by have := h.2.2.2.1 i hi; omega⟩
theorem sub_sz {l : List Leaf} {n : Nat} (h : ∀ i,i < l.length → (gt l i).1.length ≤ n ∧ (gt l i).2.length ≤ n) (a b : Nat) : ∀ i,i < ((l.drop a).take b).length → (gt ((l.drop a).take b) i).1.length ≤ n ∧ (gt ((l.drop a).take b) i).2.length ≤ n :=
  all_gt.2 fun x hx => all_gt.1 h x (List.mem_of_mem_drop (List.mem_of_mem_take hx))
theorem shw_pb {l : List Leaf} {n : Nat} (h : l.length ≤ n) (h2 : ∀ i,i < l.length → (gt l i).1.length ≤ n ∧ (gt l i).2.length ≤ n) (hn : 4096 ≤ n ∧ n ≤ 1000000) {f e : Nat} (hf : f ≤ l.length) : PB n (toZ (shwT l f e)) :=
  ⟨by unfold I64; show -9223372036854775808 ≤ ((f : Nat) : Int) ∧ ((f : Nat) : Int) ≤ _; omega,by unfold I64; show -9223372036854775808 ≤ ((l.length : Nat) : Int) ∧ ((l.length : Nat) : Int) ≤ _; omega,
    by show ((l.drop f).take (e - f)).length ≤ n; rw [List.length_take,List.length_drop]; omega,sub_sz h2 _ _,by have := shd_bd l f e; show (shdT l f e).length ≤ n; omega⟩
theorem nul_pb (n : Nat) : PB n (toZ (0,0,[],[])) := ⟨by unfold I64; decide,by unfold I64; decide,Nat.zero_le _,fun i hi => absurd hi (Nat.not_lt_zero i),Nat.zero_le _⟩
theorem prv_pb {l : List Leaf} {n : Nat} (h : l.length ≤ n) (h2 : ∀ i,i < l.length → (gt l i).1.length ≤ n ∧ (gt l i).2.length ≤ n) (hn : 4096 ≤ n ∧ n ≤ 1000000) (k : List UInt8) : PB n (toZ (prvT l k).1) := by
  have hle := from_le l k
  unfold prvT
  split
  · simp only []
    split
    · exact shw_pb h h2 hn hle
    · exact shw_pb h h2 hn (by omega)
  · exact nul_pb n
theorem rng_pb {l : List Leaf} {n : Nat} (h : l.length ≤ n) (h2 : ∀ i,i < l.length → (gt l i).1.length ≤ n ∧ (gt l i).2.length ≤ n) (hn : 4096 ≤ n ∧ n ≤ 1000000) (x y : List UInt8) : PB n (toZ (rngT l x y).1) := by
  have hle := from_le l x
  unfold rngT
  split
  · split
    · exact nul_pb n
    · exact shw_pb h h2 hn (by omega)
  · exact nul_pb n
theorem bsA_pz (u : TypeDesc) (y : Nat) (z : List Value) (hz : z = [.int .i64 0,.int .i64 0,.slice none 0 0,.slice none 0 0]) (a b c d e f g : PrZ) :
    bsA (some ⟨u,4,y,z⟩) 8 [(0,.agg (pC a)),(1,.agg (pC b)),(2,.agg (pC c)),(3,.agg (pC d)),(4,.agg (pC e)),(5,.agg (pC f)),(6,.agg (pC g)),(7,.agg nilC)] = some (vp (.sl .full 8 (cl pC [a,b,c,d,e,f,g] ++ nilC))) := by
  subst hz; kernel_rfl
end Go.Sx
