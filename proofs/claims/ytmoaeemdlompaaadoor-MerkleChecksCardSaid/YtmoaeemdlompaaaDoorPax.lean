/-
   And what follows.
-/
import Derived.Test.YtmoaeemdlompaaaDoorPau
import Derived.Test.YtmoaeemdlompaaaDoorPaw
import Derived.Test.YtmoaeemdlompaaaDoorPav
set_option linter.unusedSimpArgs false
set_option linter.unusedVariables false
namespace Go.Sx
open Go.RowKit Go.Proofs
set_option maxRecDepth 100000
set_option maxHeartbeats 8000000
theorem X_fc5 {p : Prop} (e : p := by intro KZ hZ; simp -implicitDefEqProofs (disch := first | omega | (simp only [go_sem,lA,lD,lT,hRl,hLl,hKl] <;> omega) | decide) only [go_sem,↓reduceIte,Nat.reduceEqDiff,reduceCtorEq,Nat.reduceLT,Nat.reduceBEq,Nat.reduceAdd,eq_self,decide_true,decide_false,not_true_eq_false,not_false_eq_true,h19,e10,e10',e14,e20a,e20b,e20c,e23,e25,e23',e1,e2,e3,e4,hy]; with_reducible exact hZ) : p := e
theorem Y_fc5 {p : Prop} (e : p := by intro KZ hZ; simp -implicitDefEqProofs (disch := first | omega | (simp only [go_sem,lA,lD,lT,hRl,hLl,hKl] <;> omega) | decide) only [go_sem,↓reduceIte,Nat.reduceEqDiff,reduceCtorEq,Nat.reduceLT,Nat.reduceBEq,Nat.reduceAdd,eq_self,decide_true,decide_false,not_true_eq_false,not_false_eq_true,h19,e10,e10',e14,e20a,e20b,e20c,e23,e25,e23',e1,e2,e3,e4,hy]; with_reducible refine And.intro ?_ hZ; first | exact rfl | decide) : p := e
theorem F_fc5 {p : Prop} (e : p := by simp -implicitDefEqProofs (disch := first | omega | (simp only [go_sem,lA,lD,lT,hRl,hLl,hKl] <;> omega) | decide) only [go_sem,↓reduceIte,Nat.reduceEqDiff,reduceCtorEq]; all_goals (rfl)) : p := e
theorem fc5 {gl : Nat → C} {M : Nat} {pu : Nat → List C → Option C} (hcx : CxOK (cxP gl M pu)) (h10 : ∀ l : List Int,LI l → pu 10 [sl iC .no l] = some (sl eC (.own 2) (lvsT l))) (h14 : ∀ l : List Leaf,LB l → pu 14 [sl eC .no l] = some (.tup [.agg (cl bC (rooT l).1),.val (nI (rooT l).2)])) (h18 : ∀ l : List Leaf,l.length ≤ 1000000 → pu 18 [sl eC .no l] = some (sl eC (.own 2) l)) (h19 : pu 19 [] = some (.val (.bool true))) (h20 : ∀ (l : List Leaf) (n : Int),l.length ≤ 1000000 → (∀ i,i < l.length → (gt l i).1.length < 1000000) → (-9223372036854775808 ≤ n ∧ n ≤ 9223372036854775807) → pu 20 [sl eC .no l,.val (.int .i64 n)] = some (.val (str (kyT l n)))) (h23 : ∀ (l : List Leaf) (k : List UInt8),LB l → pu 23 [sl eC .no l,.val (str k)] = some (.tup [.agg [.val (nI (prvT l k).1.1),.val (nI (prvT l k).1.2.1),sl eC .no (prvT l k).1.2.2.1,sl dC .no (prvT l k).1.2.2.2],.val (nI (prvT l k).2)])) (h25 : ∀ (l : List Leaf) (x y : List UInt8),LB l → pu 25 [sl eC .no l,.val (str x),.val (str y)] = some (.tup [.agg [.val (nI (rngT l x y).1.1),.val (nI (rngT l x y).1.2.1),sl eC .no (rngT l x y).1.2.2.1,sl dC .no (rngT l x y).1.2.2.2],.val (nI (rngT l x y).2)])) (h28 : ∀ (f z : Int) (l : List Leaf) (S : List Dig) (w y : Int),(-9223372036854775808 ≤ w ∧ w ≤ 9223372036854775807) → (-9223372036854775808 ≤ y ∧ y ≤ 9223372036854775807) → l.length ≤ 1000000 → (∀ i,i < l.length → (gt l i).1.length ≤ 1000000 ∧ (gt l i).2.length ≤ 1000000) → S.length ≤ 1000000 → pu 28 [.agg [.val (.int .i64 f),.val (.int .i64 z),sl eC .no l,sl dC .no S],.val (.int .i64 w),.val (.int .i64 y)] = some (.agg [.val (.int .i64 (bentT (f,z,l,S) w y).1),.val (.int .i64 (bentT (f,z,l,S) w y).2.1),sl eC .no (bentT (f,z,l,S) w y).2.2.1,sl dC .no (bentT (f,z,l,S) w y).2.2.2])) (h29 : ∀ (r : List UInt8) (k : List UInt8) (f z : Int) (l : List Leaf) (S : List Dig),r.length = 16 → (-9223372036854775808 ≤ f ∧ f ≤ 9223372036854775807) → (-9223372036854775808 ≤ z ∧ z ≤ 9223372036854775807) → LB l → S.length ≤ 1000000 → pu 29 [.agg (cl bC r),.val (str k),.agg [.val (.int .i64 f),.val (.int .i64 z),sl eC .no l,sl dC .no S]] = some (.tup [.val (str (chkT r k f z l S).1),.val (.bool (chkT r k f z l S).2.1),.val (nI (chkT r k f z l S).2.2)])) (h30 : ∀ (f z : Int) (l : List Leaf) (S : List Dig),l.length ≤ 1000000 → pu 30 [.agg [.val (.int .i64 f),.val (.int .i64 z),sl eC .no l,sl dC .no S]] = some (.agg [.val (.int .i64 f),.val (.int .i64 z),sl eC .no l,sl dC .no S])) (h31 : ∀ (r : List UInt8) (k : List UInt8) (f z : Int) (l : List Leaf) (S : List Dig),r.length = 16 → (-9223372036854775808 ≤ f ∧ f ≤ 9223372036854775807) → (-9223372036854775808 ≤ z ∧ z ≤ 9223372036854775807) → LB l → S.length ≤ 1000000 → pu 31 [.agg (cl bC r),.val (str k),.agg [.val (.int .i64 f),.val (.int .i64 z),sl eC .no l,sl dC .no S]] = some (.tup [.val (str (chkT r k f z l S).1),.val (.bool (chkT r k f z l S).2.1),.val (nI (chkT r k f z l S).2.2)])) (h32 : ∀ (r x y : List UInt8) (f z : Int) (l : List Leaf) (S : List Dig),r.length = 16 → (-9223372036854775808 ≤ f ∧ f ≤ 9223372036854775807) → (-9223372036854775808 ≤ z ∧ z ≤ 9223372036854775807) → LB l → S.length ≤ 1000000 → pu 32 [.agg (cl bC r),.val (str x),.val (str y),.agg [.val (.int .i64 f),.val (.int .i64 z),sl eC .no l,sl dC .no S]] = some (.tup [sl eC .no (crgT r x y f z l S).1,.val (nI (crgT r x y f z l S).2)])) (h33 : ∀ (r x y : List UInt8) (f z : Int) (l : List Leaf) (S : List Dig),r.length = 16 → (-9223372036854775808 ≤ f ∧ f ≤ 9223372036854775807) → (-9223372036854775808 ≤ z ∧ z ≤ 9223372036854775807) → LB l → S.length ≤ 1000000 → pu 33 [.agg (cl bC r),.val (str x),.val (str y),.agg [.val (.int .i64 f),.val (.int .i64 z),sl eC .no l,sl dC .no S]] = some (.tup [sl eC .no (crgT r x y f z l S).1,.val (nI (crgT r x y f z l S).2)])) (h34 : ∀ x y : List Leaf,x.length ≤ 1000000 → y.length ≤ 1000000 → pu 34 [sl eC .no x,sl eC .no y] = some (.val (.bool (decide (x = y))))) (l l' : List Int) (k m w u : Int) (hl : LI l) (hl' : LI l') (hk : -9223372036854775808 ≤ k ∧ k ≤ 9223372036854775807) (hm : -9223372036854775808 ≤ m ∧ m ≤ 9223372036854775807) (hww : -9223372036854775808 ≤ w ∧ w ≤ 9223372036854775807) (huu : -9223372036854775808 ≤ u ∧ u ≤ 9223372036854775807) : FC Tryd.prog gl 5 [sl iC .no l,sl iC .no l',.val (.int .i64 k),.val (.int .i64 m),.val (.int .i64 w),.val (.int .i64 u)] [] (.val (.bool true)) [] := by
 replace hcx := hcx.reN (M := 214)
 refine FC.ofA (cx := cxP gl 214 pu) (rs := [.tmp 12]) rfl Tryd.func5 rfl rfl rfl (by simp only [List.length_cons,List.length_nil]; decide) (by simp only [go_sem]) ?_
 simp only [ini,go_sem]
 have hy := True.intro
 have hw : I64 w := hww
 have hu : I64 u := huu
 obtain ⟨X,hX⟩ : ∃ X,lvsT l = X := ⟨_,rfl⟩
 obtain ⟨Y,hY⟩ : ∃ Y,lvsT l' = Y := ⟨_,rfl⟩
 have lv := lvs_lb l
 have hv := lvs_val l
 have lv' := lvs_lb l'
 have hv' := lvs_val l'
 rw [hX] at lv hv
 rw [hY] at lv' hv'
 have szX : ∀ i,i < X.length → (gt X i).1.length ≤ 5000 ∧ (gt X i).2.length ≤ 5000 := fun i hi => by have := lv.2 i hi; omega
 have szY : ∀ i,i < Y.length → (gt Y i).1.length ≤ 5000 ∧ (gt Y i).2.length ≤ 5000 := fun i hi => by have := lv'.2 i hi; omega
 have lbX : LB X := LB.ofSmall ⟨by omega,fun i hi => by have := szX i hi; omega⟩
 have lbY : LB Y := LB.ofSmall ⟨by omega,fun i hi => by have := szY i hi; omega⟩
 have e10 : pu 10 [sl iC .no l] = some (sl eC (.own 2) X) := (h10 l hl).trans (by rw [hX])
 have e10' : pu 10 [sl iC .no l'] = some (sl eC (.own 2) Y) := (h10 l' hl').trans (by rw [hY])
 obtain ⟨R,hR⟩ : ∃ R,rotL X = R := ⟨_,rfl⟩
 have hRl : R.length = 16 := by rw [← hR]; exact rotL_len X
 have e14 : pu 14 [sl eC .no X] = some (.tup [.agg (cl bC R),.val (nI 0)]) := (h14 X lbX).trans (by rw [rooT_ok hv,hR])
 have e20a := h20 X k (by omega) (fun j hj => by have := szX j hj; omega) hk
 have e20b := h20 X m (by omega) (fun j hj => by have := szX j hj; omega) hm
 have e20c := h20 X u (by omega) (fun j hj => by have := szX j hj; omega) huu
 obtain ⟨A,hA⟩ : ∃ A,kyT X k = A := ⟨_,rfl⟩
 obtain ⟨B,hB⟩ : ∃ B,kyT X m = B := ⟨_,rfl⟩
 obtain ⟨D,hD⟩ : ∃ D,kyT X u = D := ⟨_,rfl⟩
 rw [hA] at e20a
 rw [hB] at e20b
 rw [hD] at e20c
 obtain ⟨P,hP⟩ : ∃ P,(prvT X A).1 = P := ⟨_,rfl⟩
 obtain ⟨Q,hQ⟩ : ∃ Q,(rngT X A B).1 = Q := ⟨_,rfl⟩
 obtain ⟨Z,hZZ⟩ : ∃ Z,(prvT Y A).1 = Z := ⟨_,rfl⟩
 have bP : PB 5000 (toZ P) := by rw [← hP]; exact prv_pb (by omega) szX (by omega) A
 have bQ : PB 5000 (toZ Q) := by rw [← hQ]; exact rng_pb (by omega) szX (by omega) A B
 have bZ : PB 5000 (toZ Z) := by rw [← hZZ]; exact prv_pb (by omega) szY (by omega) A
 have e23 := h23 X A lbX
 have e25 := h25 X A B lbX
 have e23' := h23 Y A lbY
 rw [hP] at e23
 rw [hQ] at e25
 rw [hZZ] at e23'
 have bent : ∀ (p : PrZ) (a b : Int),PB 6000 p → I64 a → I64 b → pu 28 [.agg [.val (.int .i64 p.1),.val (.int .i64 p.2.1),sl eC .no p.2.2.1,sl dC .no p.2.2.2],.val (.int .i64 a),.val (.int .i64 b)] = some (.agg (pC (bentT p a b))) := fun p a b q ha hb => h28 p.1 p.2.1 p.2.2.1 p.2.2.2 a b ha hb (by have := q.2.2.1; omega) (fun i hi => by have := q.2.2.2.1 i hi; omega) (by have := q.2.2.2.2; omega)
 have e1 : pu 28 [.agg [.val (nI P.1),.val (nI P.2.1),sl eC .no P.2.2.1,sl dC .no P.2.2.2],.val (.int .i64 w),.val (.int .i64 u)] = some (.agg (pC (bentT (toZ P) w u))) := bent (toZ P) w u (bP.mono (by omega)) hw hu
 have e2 : pu 28 [.agg [.val (nI Q.1),.val (nI Q.2.1),sl eC .no Q.2.2.1,sl dC .no Q.2.2.2],.val (.int .i64 u),.val (.int .i64 w)] = some (.agg (pC (bentT (toZ Q) u w))) := bent (toZ Q) u w (bQ.mono (by omega)) hu hw
 obtain ⟨O,hO⟩ : ∃ O,bentT (toZ P) w u = O := ⟨_,rfl⟩
 obtain ⟨T,hT⟩ : ∃ T,bentT (toZ Q) u w = T := ⟨_,rfl⟩
 rw [hO] at e1
 rw [hT] at e2
 have bO : PB 5002 O := by rw [← hO]; exact bent_pb bP hu
 have bT : PB 5002 T := by rw [← hT]; exact bent_pb bQ hw
 have e3 := bent O u w (bO.mono (by omega)) hu hw
 have e4 := bent T w u (bT.mono (by omega)) hw hu
 obtain ⟨U,hU⟩ : ∃ U,bentT O u w = U := ⟨_,rfl⟩
 obtain ⟨V,hV⟩ : ∃ V,bentT T w u = V := ⟨_,rfl⟩
 rw [hU] at e3
 rw [hV] at e4
 have bU : PB 5004 U := by rw [← hU]; exact bent_pb bO hw
 have bV : PB 5004 V := by rw [← hV]; exact bent_pb bT hu
 replace e1 : pu 28 [.agg [.val (nI P.1),.val (nI P.2.1),sl eC .no P.2.2.1,sl dC .no P.2.2.2],.val (.int .i64 w),.val (.int .i64 u)] = some (.agg [.val (.int .i64 O.1),.val (.int .i64 O.2.1),sl eC .no O.2.2.1,sl dC .no O.2.2.2]) := e1
 replace e2 : pu 28 [.agg [.val (nI Q.1),.val (nI Q.2.1),sl eC .no Q.2.2.1,sl dC .no Q.2.2.2],.val (.int .i64 u),.val (.int .i64 w)] = some (.agg [.val (.int .i64 T.1),.val (.int .i64 T.2.1),sl eC .no T.2.2.1,sl dC .no T.2.2.2]) := e2
 replace e3 : pu 28 [.agg [.val (.int .i64 O.1),.val (.int .i64 O.2.1),sl eC .no O.2.2.1,sl dC .no O.2.2.2],.val (.int .i64 u),.val (.int .i64 w)] = some (.agg [.val (.int .i64 U.1),.val (.int .i64 U.2.1),sl eC .no U.2.2.1,sl dC .no U.2.2.2]) := e3
 replace e4 : pu 28 [.agg [.val (.int .i64 T.1),.val (.int .i64 T.2.1),sl eC .no T.2.2.1,sl dC .no T.2.2.2],.val (.int .i64 w),.val (.int .i64 u)] = some (.agg [.val (.int .i64 V.1),.val (.int .i64 V.2.1),sl eC .no V.2.2.1,sl dC .no V.2.2.2]) := e4
 obtain ⟨LC,hLC⟩ : ∃ LC,cl pC [toZ P,toZ Q,toZ Z,O,T,U,V] ++ nilC = LC := ⟨_,rfl⟩
 have hbs := fun (v : TypeDesc) (yy : Nat) => bsA_pz v yy _ rfl (toZ P) (toZ Q) (toZ Z) O T U V
 rw [hLC] at hbs
 replace hbs : ∀ (v : TypeDesc) (yy : Nat),bsA (some ⟨v,4,yy,[nI 0,nI 0,.slice none 0 0,.slice none 0 0]⟩) 8 [(0,.agg [.val (nI P.1),.val (nI P.2.1),sl eC .no P.2.2.1,sl dC .no P.2.2.2]),(1,.agg [.val (nI Q.1),.val (nI Q.2.1),sl eC .no Q.2.2.1,sl dC .no Q.2.2.2]),(2,.agg [.val (nI Z.1),.val (nI Z.2.1),sl eC .no Z.2.2.1,sl dC .no Z.2.2.2]),(3,.agg [.val (.int .i64 O.1),.val (.int .i64 O.2.1),sl eC .no O.2.2.1,sl dC .no O.2.2.2]),(4,.agg [.val (.int .i64 T.1),.val (.int .i64 T.2.1),sl eC .no T.2.2.1,sl dC .no T.2.2.2]),(5,.agg [.val (.int .i64 U.1),.val (.int .i64 U.2.1),sl eC .no U.2.2.1,sl dC .no U.2.2.2]),(6,.agg [.val (.int .i64 V.1),.val (.int .i64 V.2.1),sl eC .no V.2.2.1,sl dC .no V.2.2.2]),(7,.agg [.val (nI 0),.val (nI 0),.val (.slice none 0 0),.val (.slice none 0 0)])] = some (vp (.sl .full 8 LC)) := hbs
 obtain ⟨LP,hLP⟩ : ∃ LP,[toZ P,toZ Q,toZ Z,O,T,U,V] ++ [nulP] = LP := ⟨_,rfl⟩
 have hLe : CLe (.sl .full 8 LC) (sl pC .full LP) := by rw [← hLC,← hLP]; exact CLe_pz [toZ P,toZ Q,toZ Z,O,T,U,V] 8 rfl
 have hLl : LP.length = 8 := by rw [← hLP]; rfl
 have hLb : ∀ p ∈ LP,PB 6000 p := by
   rw [← hLP]
   simp only [List.cons_append,List.nil_append,List.forall_mem_cons]
   exact ⟨bP.mono (by omega),bQ.mono (by omega),bZ.mono (by omega),bO.mono (by omega),bT.mono (by omega),bU.mono (by omega),bV.mono (by omega),nul_pb 6000,fun _ h => absurd h (List.not_mem_nil)⟩
 obtain ⟨KS,hKS⟩ : ∃ KS,[A,B,D] = KS := ⟨_,rfl⟩
 have hKl : KS.length = 3 := by rw [← hKS]; rfl
 refine Tr.w hcx [] _ [] rfl rfl rfl ?_ X_fc5
 refine Tr.w hcx [1000040] _ [] rfl rfl rfl ?_ X_fc5
 refine Tr.k [1,2,3,4,5,13] ?_
 refine Tr.w hcx [1000042] _ [] rfl rfl rfl ?_ X_fc5
 refine Tr.k [2,3,4,5,13,14] ?_
 refine Tr.w hcx [1000047] _ [none] rfl rfl rfl ?_ X_fc5
 refine Tr.k [2,3,4,5,13,14,15] ?_
 refine Tr.w hcx [1000055] _ [none] rfl rfl rfl ?_ X_fc5
 refine Tr.k [2,3,4,5,13,14,15,17] ?_
 refine Tr.w hcx [1000066] _ [none] rfl rfl rfl ?_ X_fc5
 refine Tr.k [2,3,4,5,13,14,15,17,19] ?_
 refine Tr.w hcx [1000074] _ [none] rfl rfl rfl ?_ X_fc5
 refine Tr.k [2,3,4,5,13,15,17,19,21] ?_
 refine Tr.w hcx [] _ [none] rfl rfl rfl ?_ X_fc5
 refine Tr.k [2,3,4,5,13,15,17,19,21,23] ?_
 refine Tr.w hcx [] _ [none] rfl rfl rfl ?_ X_fc5
 refine Tr.k [2,3,4,5,13,15,17,19,21,23,24] ?_
 have hy := @hbs
 refine Tr.wD hcx hMO [1000097] _ [] rfl rfl rfl rfl ?_ Y_fc5
 refine Tr.k [2,3,5,13,15,25] ?_
 refine Tr.live [(2,.val (.int .i64 k)),(3,.val (.int .i64 m)),(5,.val (.int .i64 u)),(13,sl eC (.own 2) X),(15,.bp 0 0),(25,sl pC .full LP)] (by simp only [Le_cons,Le_nil,↓A_cons,↓reduceIte,Nat.reduceEqDiff,and_true]; exact ⟨CLe.refl _,CLe.refl _,CLe.refl _,CLe.refl _,CLe.refl _,hLe⟩) ?_
 have hy := And.intro @rep3s @hKS
 refine Tr.w hcx [1000107] _ [] rfl rfl rfl ?_ X_fc5
 refine Tr.k [15,25,26] ?_
 refine Tr.seqK fun K1 hK1 => ?_
 refine Tr.f1 hcx 0 (cl bC R) ?_
 simp only [fzC_psl]
 refine Tr.m1 hcx [] ?_
 simp only [mvC_psl]
 have hy := True.intro
 refine Tr.w hcx [] _ [] rfl rfl rfl ?_ X_fc5
 refine Tr.k [15,25,26,27] ?_
 refine Tr.blk ?_
 refine Tr.loopM hcx (α := Nat) (fun a => [(15,?v15_1),(25,?v25_1),(26,?v26_1),(27,.val (nI a))]) (fun a => []) (fun a => a ≤ 8) (fun a => 8 - a) (0) (Nat.zero_le _) ?le_1 ?hh_1 ?bd_1
 case hh_1 => exact rfl
 case le_1 => exact LT
 rintro i hi
 refine Tr.seqK fun K2 hK2 => ?_
 refine Tr.w hcx [] _ [] rfl rfl rfl ?_ X_fc5
 refine Tr.cD rfl (fun hc111 => ?_) (fun hc111 => ?_)
 ·
  obtain ⟨N,hN⟩ : ∃ N,gt LP i = N := ⟨_,rfl⟩
  have bN : PB 6000 N := by rw [← hN,gtE (by omega)]; exact hLb _ (List.getElem_mem _)
  have lbN := bN.lb (by omega)
  have lnN := bN.2.2.1
  have lsN := bN.2.2.2.2
  have e30 : pu 30 [.agg (pC N)] = some (.agg (pC N)) := h30 N.1 N.2.1 N.2.2.1 N.2.2.2 (by omega)
  refine Tr.skip ?_
  refine hK2 _ ?_
  refine Tr.seqK fun K3 hK3 => ?_
  refine Tr.blk ?_
  refine Tr.w hcx [] _ [] rfl rfl rfl ?_ X_fc5
  refine Tr.k [15,25,26,27,28] ?_
  refine Tr.blk ?_
  refine Tr.loopM hcx (α := Nat) (fun a => [(15,?v15_2),(25,?v25_2),(26,?v26_2),(27,?v27_2),(28,.val (nI a))]) (fun a => []) (fun a => a ≤ 3) (fun a => 3 - a) (0) (Nat.zero_le _) ?le_2 ?hh_2 ?bd_2
  case hh_2 => exact rfl
  case le_2 => exact LT
  rintro j hj
  refine Tr.seqK fun K4 hK4 => ?_
  refine Tr.w hcx [] _ [] rfl rfl rfl ?_ X_fc5
  refine Tr.cD rfl (fun hc117 => ?_) (fun hc117 => ?_)
  ·
   obtain ⟨K,hK⟩ : ∃ K,gt KS j = K := ⟨_,rfl⟩
   obtain ⟨L,hLL⟩ : ∃ L,gt KS ((j + 1) % 3) = L := ⟨_,rfl⟩
   have hj3 : (j + 1) % 3 < 3 := Nat.mod_lt _ (by omega)
   have e29 : pu 29 [.agg (cl bC R),.val (str K),.agg (pC N)] = _ := h29 R K N.1 N.2.1 N.2.2.1 N.2.2.2 hRl bN.1 bN.2.1 lbN (by omega)
   have e31 : pu 31 [.agg (cl bC R),.val (str K),.agg (pC N)] = _ := h31 R K N.1 N.2.1 N.2.2.1 N.2.2.2 hRl bN.1 bN.2.1 lbN (by omega)
   have e32 : pu 32 [.agg (cl bC R),.val (str K),.val (str L),.agg (pC N)] = _ := h32 R K L N.1 N.2.1 N.2.2.1 N.2.2.2 hRl bN.1 bN.2.1 lbN (by omega)
   have e33 : pu 33 [.agg (cl bC R),.val (str K),.val (str L),.agg (pC N)] = _ := h33 R K L N.1 N.2.1 N.2.2.1 N.2.2.2 hRl bN.1 bN.2.1 lbN (by omega)
   have cl1 := crg_len R K L N.1 N.2.1 N.2.2.1 N.2.2.2
   obtain ⟨G,hG⟩ : ∃ G,crgT R K L N.1 N.2.1 N.2.2.1 N.2.2.2 = G := ⟨_,rfl⟩
   obtain ⟨H,hH⟩ : ∃ H,chkT R K N.1 N.2.1 N.2.2.1 N.2.2.2 = H := ⟨_,rfl⟩
   rw [hG] at e32 e33 cl1
   rw [hH] at e29 e31
   have e18 := h18 G.1 (by omega)
   have e34 : pu 34 [sl eC .no G.1,sl eC .no G.1] = some (.val (.bool true)) := (h34 G.1 G.1 (by omega) (by omega)).trans (by simp)
   refine Tr.skip ?_
   refine hK4 _ ?_
   refine Tr.k [15,25,26,27,28] ?_
   refine Tr.seqK fun K5 hK5 => ?_
   refine Tr.blk ?_
   have hy := And.intro @hN (And.intro @hK (And.intro @e30 @e29))
   refine Tr.wD hcx hMO [1000132,1000133,1000134] _ [] rfl rfl rfl rfl ?_ Y_fc5
   refine Tr.k [15,25,26,27,28,29,30,31] ?_
   have hy := And.intro @hN (And.intro @hK @e31)
   refine Tr.wD hcx hMO [1000146,1000147,1000148] _ [] rfl rfl rfl rfl ?_ Y_fc5
   refine Tr.k [15,25,26,27,28,29,30,31,32,33,34] ?_
   have hy := And.intro @hN (And.intro @hK (And.intro @hLL (And.intro @e30 @e32)))
   refine Tr.wD hcx hMO [1000167,1000168] _ [] rfl rfl rfl rfl ?_ Y_fc5
   refine Tr.k [15,25,26,27,28,29,30,31,32,33,34,35,36] ?_
   have hy := And.intro @hN (And.intro @hK (And.intro @hLL @e33))
   refine Tr.wD hcx hMO [1000186,1000187] _ [] rfl rfl rfl rfl ?_ Y_fc5
   refine Tr.k [15,25,26,27,28,29,30,31,32,33,34,35,36,37,38] ?_
   have hy := And.intro @e18 @e34
   refine Tr.w hcx [] [some 188,some 189,some 190,some 191,some 192,some 193,some 194,some 195,some 196,some 197,some 198,some 199,some 200,some 201,some 202,some 203,some 204,some 205,some 206,some 207,some 208,some 209,some 210,some 211,some 212] [] rfl rfl rfl ?_ X_fc5
   refine Tr.k [15,25,26,27,28,212] ?_
   refine Tr.cF rfl ?_
   refine Tr.skip ?_
   refine hK5 _ ?_
   have hy := True.intro
   refine Tr.v hcx [1000119] _ [] rfl rfl rfl ?_ X_fc5
   first
   | ((refine ⟨[],⟨by decide,by decide,by decide⟩,j + 1,⟨(by omega),O1⟩,?_,by simp only [mvH_eq,mvHa_nil,mvHa_cons,hget_0,hget_S,Option.map_some,Option.map_none,mvCs_cl,mvCs_f,mvCs_nil,mvCs_cons,mvC_val,mvC_top,mvC_sl,mvC_gv,mvC_sv,mvC_bp,mvC_agg,mvC_kp,mvGv_some,mvGv_none,mvSv_some,mvSv_none,mvBp_some,mvBp_none,loc_nil,loc_cons,↓reduceIte,Nat.reduceEqDiff,reduceCtorEq,Nat.reduceAdd,Nat.zero_add,Nat.one_ne_zero,Nat.zero_ne_one,mvC_fn,mvC_bt,mvBt_some,mvBt_none,mvC_mp,mvMp_some,mvMp_none] <;> rfl⟩); (simp only [Le_nil,Le_cons,↓A_cons,CLe_refl,CLe_top,CLe_full,CLe_nil,CLe_own,and_true,true_and,mvH_eq,mvHa_nil,mvHa_cons,hget_0,hget_S,Option.map_some,Option.map_none,mvCs_cl,mvCs_f,mvCs_nil,mvCs_cons,mvC_val,mvC_top,mvC_sl,mvC_gv,mvC_sv,mvC_bp,mvC_agg,mvC_kp,mvGv_some,mvGv_none,mvSv_some,mvSv_none,mvBp_some,mvBp_none,loc_nil,loc_cons,↓reduceIte,Nat.reduceEqDiff,reduceCtorEq,Nat.reduceAdd,Nat.zero_add,Nat.one_ne_zero,Nat.zero_ne_one,mvC_fn,mvC_bt,mvBt_some,mvBt_none,mvC_mp,mvMp_some,mvMp_none]; all_goals (repeat' first | exact CLe.refl _ | exact True.intro | (with_reducible refine And.intro ?_ ?_))); (all_goals (first | (rw [mvC_psl]; exact CLe.refl _) | exact CLe.refl _)); (done))
  refine Tr.exit ?_
  refine hK3 _ ?_
  refine Tr.k [15,25,26,27] ?_
  refine Tr.v hcx [1000113] _ [] rfl rfl rfl ?_ X_fc5
  first
  | ((refine ⟨[],⟨by decide,by decide,by decide⟩,i + 1,⟨(by omega),O1⟩,?_,by simp only [mvH_eq,mvHa_nil,mvHa_cons,hget_0,hget_S,Option.map_some,Option.map_none,mvCs_cl,mvCs_f,mvCs_nil,mvCs_cons,mvC_val,mvC_top,mvC_sl,mvC_gv,mvC_sv,mvC_bp,mvC_agg,mvC_kp,mvGv_some,mvGv_none,mvSv_some,mvSv_none,mvBp_some,mvBp_none,loc_nil,loc_cons,↓reduceIte,Nat.reduceEqDiff,reduceCtorEq,Nat.reduceAdd,Nat.zero_add,Nat.one_ne_zero,Nat.zero_ne_one,mvC_fn,mvC_bt,mvBt_some,mvBt_none,mvC_mp,mvMp_some,mvMp_none] <;> rfl⟩); (simp only [Le_nil,Le_cons,↓A_cons,CLe_refl,CLe_top,CLe_full,CLe_nil,CLe_own,and_true,true_and,mvH_eq,mvHa_nil,mvHa_cons,hget_0,hget_S,Option.map_some,Option.map_none,mvCs_cl,mvCs_f,mvCs_nil,mvCs_cons,mvC_val,mvC_top,mvC_sl,mvC_gv,mvC_sv,mvC_bp,mvC_agg,mvC_kp,mvGv_some,mvGv_none,mvSv_some,mvSv_none,mvBp_some,mvBp_none,loc_nil,loc_cons,↓reduceIte,Nat.reduceEqDiff,reduceCtorEq,Nat.reduceAdd,Nat.zero_add,Nat.one_ne_zero,Nat.zero_ne_one,mvC_fn,mvC_bt,mvBt_some,mvBt_none,mvC_mp,mvMp_some,mvMp_none]; all_goals (repeat' first | exact CLe.refl _ | exact True.intro | (with_reducible refine And.intro ?_ ?_))); (all_goals (first | (rw [mvC_psl]; exact CLe.refl _) | exact CLe.refl _)); (done))
 refine Tr.exit ?_
 refine hK1 _ ?_
 refine Tr.w hcx [1000213] _ [] rfl rfl rfl ?_ X_fc5
 exact Tr.ret F_fc5
end Go.Sx
namespace Go.Sx
open Go.RowKit Go.Proofs
set_option maxRecDepth 100000
section
variable {gl : Nat → C} {M : Nat} {pu : Nat → List C → Option C}
theorem fc62' (hcx : CxOK (cxP gl M pu)) (hnr : ∀ (g : Nat) (xs : List C),noRefs 0 xs = false → pu g xs = none) (h65 : ∀ (tag : Int) (parts : List (List UInt8)),(inp tag parts).length < 1099511627776 → pu 65 [.val (.int .i64 tag),sl sC .no parts] = some (sl bC (.own 1) (inp tag parts))) (h64 : ∀ b : List UInt8,b.length < 35184372088832 → pu 64 [sl bC .no b] = some (.agg (cl bC ((sha b).take 16)))) (h84 : ∀ h : List UInt8,h.length = 16 → pu 84 [.agg (cl bC h)] = some (.val (str h))) (h106 : ∀ n : Nat,n ≤ 4611686018427387000 → pu 106 [.val (nI n)] = some (.val (nI (halfT n)))) (h83 : ∀ n : Int,-9223372036854775808 ≤ n ∧ n ≤ 9223372036854775807 → pu 83 [.val (.int .i64 n)] = some (sl bC (.own 1) (wint n))) (h16 : ∀ l : List Leaf,LB l → pu 16 [sl eC .no l] = some (.val (nI (valT l))))
    (r : List UInt8) (f z : Int) (l : List Leaf) (S : List Dig) (hr : r.length = 16) (hf : -9223372036854775808 ≤ f ∧ f ≤ 9223372036854775807) (hz : -9223372036854775808 ≤ z ∧ z ≤ 9223372036854775807) (hl : LB l) (hS : S.length ≤ 1000000) :
    FC Tryd.prog gl 62 [.agg (cl bC r),.agg [.val (.int .i64 f),.val (.int .i64 z),sl eC .no l,sl dC .no S]] [] (.val (.bool (undT r f z l S))) [] := by
  have F := gc52 hcx hnr h65 h64 h84 h106 h83
  exact fc62 (hcx := CxOK.sm (M := M) (toR hcx M) ⟨_,Tryd.func52,rfl,rfl⟩ (s52 F)) (hnr := hnr) (h16 := h16) (hn52 := fun xs h => Small.never _ _ xs h)
    (hq52 := fun pre suf l f S n T u sh h0 h1 h2 h3 h4 h5 h6 h7 => by
      have h := Small.look (s52 F) (fun _ _ _ => none) ⟨(l,f,S,n,T,u,sh),h2,h3,h4,h5,h6,h7⟩ pre suf h0 h1
      simpa only [s52,List.length_nil,Nat.zero_add,Nat.add_zero,bkCs,bkC,bks_cl,bk_sl,shH_cons,shH_nil,Option.map_some,List.map_cons,List.map_nil,List.nil_append,List.cons_append] using h) (r := r) (f := f) (z := z) (l := l) (S := S) (hr := hr) (hf := hf) (hz := hz) (hl := hl) (hS := hS)
end
end Go.Sx
