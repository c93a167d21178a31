/-
  
-/
import Derived.Test.YtmoaeemdlompaaaDoorPar
import Derived.Test.YtmoaeemdlompaaaDoorPat
import Derived.Test.YtmoaeemdlompaaaDoorPau
set_option linter.unusedSimpArgs false
set_option linter.unusedVariables false
namespace Go.Sx
open Go.RowKit Go.Proofs
set_option maxRecDepth 100000
set_option maxHeartbeats 8000000
theorem PY (u:TypeDesc) (y:Nat) (z:List Value) (hz:z= [.int .i64 0,.int .i64 0,.slice none 0 0,.slice none 0 0]) (a b c d e:lS) :
 jB (some ⟨u,4,y,z⟩) 5 [(0,.agg (pC a)),(1,.agg (pC b)),(2,.agg (pC c)),(3,.agg (pC d)),(4,.agg (pC e))] =some (vp (sl pC .full [a,b,c,d,e])) :=by
 subst hz;kernel_rfl
theorem C6 {TS:List (List UInt8)} (h:tm TS) :fM TS=true:=by
 obtain ⟨p,q,h1,h2,h3⟩ :=h
 exact lc h1 h2 h3
theorem cq {p:Prop} (e:p:=by intro KZ hZ;simp -implicitDefEqProofs (disch:=first|omega| (simp only[go_sem,lA,lD,lT,hRl,hLl,hKl] <;>omega) |decide) only[go_sem,↓reduceIte,Nat.reduceEqDiff,reduceCtorEq,Nat.reduceLT,Nat.reduceBEq,Nat.reduceAdd,eq_self,decide_true,decide_false,not_true_eq_false,not_false_eq_true,h19,e10,e10',e12,e13,e20a,e20b,e20c,e23,e25,e1,e2,e3,Nat.zero_le,Bool.true_beq,Bool.false_beq,Bool.not_true,Bool.not_false,c1,c2,c3,b0,g0,g1,hy];with_reducible exact hZ) :p:=e
theorem c8 {p:Prop} (e:p:=by intro KZ hZ;simp -implicitDefEqProofs (disch:=first|omega| (simp only[go_sem,lA,lD,lT,hRl,hLl,hKl] <;>omega) |decide) only[go_sem,↓reduceIte,Nat.reduceEqDiff,reduceCtorEq,Nat.reduceLT,Nat.reduceBEq,Nat.reduceAdd,eq_self,decide_true,decide_false,not_true_eq_false,not_false_eq_true,h19,e10,e10',e12,e13,e20a,e20b,e20c,e23,e25,e1,e2,e3,Nat.zero_le,Bool.true_beq,Bool.false_beq,Bool.not_true,Bool.not_false,c1,c2,c3,b0,g0,g1,hy];with_reducible refine And.intro ?_ hZ;first|exact rfl|decide) :p:=e
theorem Vh {p:Prop} (e:p:=by simp -implicitDefEqProofs (disch:=first|omega| (simp only[go_sem,lA,lD,lT,hRl,hLl,hKl] <;>omega) |decide) only[go_sem,↓reduceIte,Nat.reduceEqDiff,reduceCtorEq];all_goals (rfl)) :p:=e
theorem fc7 {gl:Nat→C} {M:Nat} {pu:Nat→List C→Option C} (hcx:CxOK (aO gl M pu)) (h10: ∀l:List Int,LI l→pu 10 [sl iC .no l] =some (sl eC (.own 2) (ib l))) (h12: ∀l:List ab,LB l→pu 12 [sl eC .no l] =some (.tup [.agg (cl bC (kD l).1),.val (nI (kD l).2)])) (h13: ∀l:List ab,l.length≤1000000→pu 13 [sl eC .no l] =some (sl eC (.own 2) l)) (h18: ∀l:List ab,l.length≤1000000→pu 18 [sl eC .no l] =some (sl eC (.own 2) l)) (h19:pu 19 [] =some (.val (.bool true))) (h20: ∀ (l:List ab) (n:Int),l.length≤1000000→(∀i,i< l.length→(gt l i).1.length< 1000000)→(-9223372036854775808≤n∧n≤9223372036854775807)→pu 20 [sl eC .no l,.val (.int .i64 n)] =some (.val (str (lU l n)))) (h23: ∀ (l:List ab) (k:List UInt8),LB l→pu 23 [sl eC .no l,.val (str k)] =some (.tup [.agg [.val (nI (db l k).1.1),.val (nI (db l k).1.2.1),sl eC .no (db l k).1.2.2.1,sl dC .no (db l k).1.2.2.2],.val (nI (db l k).2)])) (h25: ∀ (l:List ab) (x y:List UInt8),LB l→pu 25 [sl eC .no l,.val (str x),.val (str y)] =some (.tup [.agg [.val (nI (dc l x y).1.1),.val (nI (dc l x y).1.2.1),sl eC .no (dc l x y).1.2.2.1,sl dC .no (dc l x y).1.2.2.2],.val (nI (dc l x y).2)])) (h28: ∀ (f z:Int) (l:List ab) (S:List cf) (w y:Int),(-9223372036854775808≤w∧w≤9223372036854775807)→(-9223372036854775808≤y∧y≤9223372036854775807)→l.length≤1000000→(∀i,i< l.length→(gt l i).1.length≤1000000∧(gt l i).2.length≤1000000)→S.length≤1000000→pu 28 [.agg [.val (.int .i64 f),.val (.int .i64 z),sl eC .no l,sl dC .no S],.val (.int .i64 w),.val (.int .i64 y)] =some (.agg [.val (.int .i64 (cQ (f,z,l,S) w y).1),.val (.int .i64 (cQ (f,z,l,S) w y).2.1),sl eC .no (cQ (f,z,l,S) w y).2.2.1,sl dC .no (cQ (f,z,l,S) w y).2.2.2])) (h29: ∀ (r:List UInt8) (k:List UInt8) (f z:Int) (l:List ab) (S:List cf),r.length=16→(-9223372036854775808≤f∧f≤9223372036854775807)→(-9223372036854775808≤z∧z≤9223372036854775807)→LB l→S.length≤1000000→pu 29 [.agg (cl bC r),.val (str k),.agg [.val (.int .i64 f),.val (.int .i64 z),sl eC .no l,sl dC .no S]] =some (.tup [.val (str (er r k f z l S).1),.val (.bool (er r k f z l S).2.1),.val (nI (er r k f z l S).2.2)])) (h30: ∀ (f z:Int) (l:List ab) (S:List cf),l.length≤1000000→pu 30 [.agg [.val (.int .i64 f),.val (.int .i64 z),sl eC .no l,sl dC .no S]] =some (.agg [.val (.int .i64 f),.val (.int .i64 z),sl eC .no l,sl dC .no S])) (h32: ∀ (r x y:List UInt8) (f z:Int) (l:List ab) (S:List cf),r.length=16→(-9223372036854775808≤f∧f≤9223372036854775807)→(-9223372036854775808≤z∧z≤9223372036854775807)→LB l→S.length≤1000000→pu 32 [.agg (cl bC r),.val (str x),.val (str y),.agg [.val (.int .i64 f),.val (.int .i64 z),sl eC .no l,sl dC .no S]] =some (.tup [sl eC .no (fp r x y f z l S).1,.val (nI (fp r x y f z l S).2)])) (h34: ∀x y:List ab,x.length≤1000000→y.length≤1000000→pu 34 [sl eC .no x,sl eC .no y] =some (.val (.bool (decide (x=y))))) (h35: ∀ (l:List ab) (k:List UInt8),l.length≤1000000→pu 35 [sl eC .no l,.val (str k)] =some (.val (.int .i64 (g6 l k)))) (h36: ∀ (l:List ab) (x y:List UInt8),l.length≤1000000→pu 36 [sl eC .no l,.val (str x),.val (str y)] =some (sl eC (.own 2) (ic l x y l.length))) (h37: ∀ (a:List ab) (f z:Int) (l:List ab) (S:List cf),LZ a→a.length≤4096→(-9223372036854775808≤f∧f≤9223372036854775807)→(-9223372036854775808≤z∧z≤9223372036854775807)→l.length≤1000000→(∀i,i< l.length→(gt l i).1.length< 1000000∧(gt l i).2.length< 1000000)→S.length≤1000000→pu 37 [sl eC .no a,.agg [.val (.int .i64 f),.val (.int .i64 z),sl eC .no l,sl dC .no S]] =some (.val (.bool (fM (iU a++jA f z l S))))) (l l':List Int) (k m w u v:Int) (hl:LI l) (hl':LI l') (hk: -9223372036854775808≤k∧k≤9223372036854775807) (hm: -9223372036854775808≤m∧m≤9223372036854775807) (hww: -9223372036854775808≤w∧w≤9223372036854775807) (huu: -9223372036854775808≤u∧u≤9223372036854775807) (hvv: -9223372036854775808≤v∧v≤9223372036854775807) :FC Tryd.prog gl 7 [sl iC .no l,sl iC .no l',.val (.int .i64 k),.val (.int .i64 m),.val (.int .i64 w),.val (.int .i64 u),.val (.int .i64 v)] [] (.val (.bool true)) [] :=by
 replace hcx:=hcx.reN (M:=207)
 refine bZ (cx:=aO gl 207 pu) (rs:= [.tmp 14]) rfl Tryd.func7 rfl rfl rfl (by simp only[List.length_cons,List.length_nil];decide) (by simp only[go_sem]) ?_
 simp only[cO,go_sem]
 have c1:=True.intro
 have c2:=True.intro
 have c3:=True.intro
 have b0:=True.intro
 have g0:=True.intro
 have g1:=True.intro
 have hy:=True.intro
 have hw:iT w:=hww
 have hu:iT u:=huu
 have hv0:iT v:=hvv
 obtain ⟨X,hX⟩ : ∃X,ib l=X:= ⟨_,rfl⟩
 obtain ⟨Y,hY⟩ : ∃Y,ib l'=Y:= ⟨_,rfl⟩
 have lv:=wO l
 have hv:=Lo l
 have lv':=wO l'
 rw[hX] at lv hv
 rw[hY] at lv'
 have hs:=fX hv
 have oX:=gX (l:=X) (by omega)
 have szX: ∀i,i< X.length→(gt X i).1.length≤5000∧(gt X i).2.length≤5000:=fun i hi=>by have:=lv.2 i hi;omega
 have szY: ∀i,i< Y.length→(gt Y i).1.length≤5000∧(gt Y i).2.length≤5000:=fun i hi=>by have:=lv'.2 i hi;omega
 have lbX:LB X:=m7 ⟨by omega,fun i hi=>by have:=szX i hi;omega⟩
 have lbY:LB Y:=m7 ⟨by omega,fun i hi=>by have:=szY i hi;omega⟩
 have e10:pu 10 [sl iC .no l] =some (sl eC (.own 2) X) := (h10 l hl).trans (by rw[hX])
 have e10':pu 10 [sl iC .no l'] =some (sl eC (.own 2) Y) := (h10 l' hl').trans (by rw[hY])
 have e13:=h13 X (by omega)
 obtain ⟨R,hR⟩ : ∃R,dE X=R:= ⟨_,rfl⟩
 have hRl:R.length=16:=by rw[←hR];exact i1 X
 have e12:pu 12 [sl eC .no X] =some (.tup [.agg (cl bC R),.val (nI 0)]) := (h12 X lbX).trans (by rw[pZ hv,hR])
 have e20a:=h20 X k (by omega) (fun j hj=>by have:=szX j hj;omega) hk
 have e20b:=h20 Y m (by omega) (fun j hj=>by have:=szY j hj;omega) hm
 have e20c:=h20 X u (by omega) (fun j hj=>by have:=szX j hj;omega) huu
 obtain ⟨A,hA⟩ : ∃A,lU X k=A:= ⟨_,rfl⟩
 obtain ⟨B,hB⟩ : ∃B,lU Y m=B:= ⟨_,rfl⟩
 obtain ⟨D,hD⟩ : ∃D,lU X u=D:= ⟨_,rfl⟩
 rw[hA] at e20a
 rw[hB] at e20b
 rw[hD] at e20c
 obtain ⟨P,hP⟩ : ∃P,(db X A).1=P:= ⟨_,rfl⟩
 obtain ⟨Q,hQ⟩ : ∃Q,(dc Y A B).1=Q:= ⟨_,rfl⟩
 have bP:PB 5000 (kH P) :=by rw[←hP];exact PL (by omega) szX (by omega) A
 have bQ:PB 5000 (kH Q) :=by rw[←hQ];exact PM (by omega) szY (by omega) A B
 have e23:=h23 X A lbX
 have e25:=h25 Y A B lbY
 rw[hP] at e23
 rw[hQ] at e25
 have bent: ∀ (p:lS) (a b:Int),PB 6000 p→iT a→iT b→pu 28 [.agg [.val (.int .i64 p.1),.val (.int .i64 p.2.1),sl eC .no p.2.2.1,sl dC .no p.2.2.2],.val (.int .i64 a),.val (.int .i64 b)] =some (.agg (pC (cQ p a b))) :=fun p a b q ha hb=>h28 p.1 p.2.1 p.2.2.1 p.2.2.2 a b ha hb (by have:=q.2.2.1;omega) (fun i hi=>by have:=q.2.2.2.1 i hi;omega) (by have:=q.2.2.2.2;omega)
 have e1:pu 28 [.agg [.val (nI P.1),.val (nI P.2.1),sl eC .no P.2.2.1,sl dC .no P.2.2.2],.val (.int .i64 w),.val (.int .i64 u)] =some (.agg (pC (cQ (kH P) w u))) :=bent (kH P) w u (bP.mono (by omega)) hw hu
 have e2:pu 28 [.agg [.val (nI Q.1),.val (nI Q.2.1),sl eC .no Q.2.2.1,sl dC .no Q.2.2.2],.val (.int .i64 v),.val (.int .i64 u)] =some (.agg (pC (cQ (kH Q) v u))) :=bent (kH Q) v u (bQ.mono (by omega)) hv0 hu
 obtain ⟨O,hO⟩ : ∃O,cQ (kH P) w u=O:= ⟨_,rfl⟩
 obtain ⟨T,hT⟩ : ∃T,cQ (kH Q) v u=T:= ⟨_,rfl⟩
 rw[hO] at e1
 rw[hT] at e2
 have bO:PB 5002 O:=by rw[←hO];exact tl bP hu
 have bT:PB 5002 T:=by rw[←hT];exact tl bQ hu
 have e3:=bent O v w (bO.mono (by omega)) hv0 hw
 obtain ⟨U,hU⟩ : ∃U,cQ O v w=U:= ⟨_,rfl⟩
 rw[hU] at e3
 have bU:PB 5004 U:=by rw[←hU];exact tl bO hw
 replace e1:pu 28 [.agg [.val (nI P.1),.val (nI P.2.1),sl eC .no P.2.2.1,sl dC .no P.2.2.2],.val (.int .i64 w),.val (.int .i64 u)] =some (.agg [.val (.int .i64 O.1),.val (.int .i64 O.2.1),sl eC .no O.2.2.1,sl dC .no O.2.2.2]) :=e1
 replace e2:pu 28 [.agg [.val (nI Q.1),.val (nI Q.2.1),sl eC .no Q.2.2.1,sl dC .no Q.2.2.2],.val (.int .i64 v),.val (.int .i64 u)] =some (.agg [.val (.int .i64 T.1),.val (.int .i64 T.2.1),sl eC .no T.2.2.1,sl dC .no T.2.2.2]) :=e2
 replace e3:pu 28 [.agg [.val (.int .i64 O.1),.val (.int .i64 O.2.1),sl eC .no O.2.2.1,sl dC .no O.2.2.2],.val (.int .i64 v),.val (.int .i64 w)] =some (.agg [.val (.int .i64 U.1),.val (.int .i64 U.2.1),sl eC .no U.2.2.1,sl dC .no U.2.2.2]) :=e3
 obtain ⟨LP,hLP⟩ : ∃LP,[kH P,kH Q,O,T,U] =LP:= ⟨_,rfl⟩
 have hbs:=fun (v:TypeDesc) (yy:Nat) =>PY v yy _ rfl (kH P) (kH Q) O T U
 rw[hLP] at hbs
 replace hbs: ∀ (v:TypeDesc) (yy:Nat),jB (some ⟨v,4,yy,[nI 0,nI 0,.slice none 0 0,.slice none 0 0]⟩) 5 [(0,.agg [.val (nI P.1),.val (nI P.2.1),sl eC .no P.2.2.1,sl dC .no P.2.2.2]),(1,.agg [.val (nI Q.1),.val (nI Q.2.1),sl eC .no Q.2.2.1,sl dC .no Q.2.2.2]),(2,.agg [.val (.int .i64 O.1),.val (.int .i64 O.2.1),sl eC .no O.2.2.1,sl dC .no O.2.2.2]),(3,.agg [.val (.int .i64 T.1),.val (.int .i64 T.2.1),sl eC .no T.2.2.1,sl dC .no T.2.2.2]),(4,.agg [.val (.int .i64 U.1),.val (.int .i64 U.2.1),sl eC .no U.2.2.1,sl dC .no U.2.2.2])] =some (vp (sl pC .full LP)) :=hbs
 have hLl:LP.length=5:=by rw[←hLP];rfl
 have hLb: ∀p∈LP,PB 6000 p:=by
  rw[←hLP]
  simp only[List.forall_mem_cons]
  exact ⟨bP.mono (by omega),bQ.mono (by omega),bO.mono (by omega),bT.mono (by omega),bU.mono (by omega),fun _ h=>absurd h (List.not_mem_nil)⟩
 obtain ⟨KS,hKS⟩ : ∃KS,[A,B,D] =KS:= ⟨_,rfl⟩
 have hKl:KS.length=3:=by rw[←hKS];rfl
 refine aa hcx [] _ [] rfl rfl rfl ?_ cq
 refine Tr.k [0,1,2,3,4,5,6] ?_
 refine aa hcx [1000035] _ [] rfl rfl rfl ?_ cq
 refine Tr.k [1,2,3,4,5,6,15] ?_
 refine aa hcx [1000037] _ [] rfl rfl rfl ?_ cq
 refine Tr.k [2,3,4,5,6,15,16] ?_
 refine aa hcx [1000043] _ [none] rfl rfl rfl ?_ cq
 refine Tr.k [2,3,4,5,6,15,16,17,18] ?_
 refine ae fun K1 hK1=> ?_
 refine aa hcx [] _ [] rfl rfl rfl ?_ cq
 refine Tr.k [2,3,4,5,6,15,16,17,45] ?_
 refine bn rfl ?_
 refine Tr.skip ?_
 refine hK1 _ ?_
 refine Tr.k [2,3,4,5,6,15,16,17] ?_
 refine aa hcx [1000053] _ [none] rfl rfl rfl ?_ cq
 refine Tr.k [2,3,4,5,6,15,16,17,19] ?_
 refine aa hcx [1000064] _ [none] rfl rfl rfl ?_ cq
 refine Tr.k [2,3,4,5,6,15,16,17,19,21] ?_
 have hy:= @hbs
 refine bH hcx cK [1000082] _ [] rfl rfl rfl rfl ?_ c8
 refine Tr.k [2,3,5,15,16,17,23] ?_
 have hy:=And.intro @U7 @hKS
 refine aa hcx [1000092] _ [] rfl rfl rfl ?_ cq
 refine Tr.k [15,17,23,24] ?_
 refine ae fun K2 hK2=> ?_
 refine Tr.k [15,17,23,24] ?_
 refine cZ hcx 0 (cl bC R) ?_
 simp only[Lr]
 refine kN hcx [] ?_
 simp only[cU]
 have hy:=True.intro
 refine aa hcx [] _ [] rfl rfl rfl ?_ cq
 refine Tr.k [15,17,23,24,25] ?_
 refine Tr.blk ?_
 refine eG hcx (α:=Nat) (fun a=> [(15,?v15_1),(17,?v17_1),(23,?v23_1),(24,?v24_1),(25,.val (nI a))]) (fun a=> []) (fun a=>a≤5) (fun a=>5 - a) (0) (Nat.zero_le _) ?le_1 ?hh_1 ?bd_1
 case hh_1=>exact rfl
 case le_1=>exact LT
 rintro i hi
 refine ae fun K3 hK3=> ?_
 refine aa hcx [] _ [] rfl rfl rfl ?_ cq
 refine bS rfl (fun hc96=> ?_) (fun hc96=> ?_)
 ·
  obtain ⟨N,hN⟩ : ∃N,gt LP i=N:= ⟨_,rfl⟩
  have bN:PB 6000 N:=by rw[←hN,IS (by omega)];exact hLb _ (List.getElem_mem _)
  have lbN:=bN.lb (by omega)
  have lnN:=bN.2.2.1
  have lsN:=bN.2.2.2.2
  have e30:pu 30 [.agg (pC N)] =some (.agg (pC N)) :=h30 N.1 N.2.1 N.2.2.1 N.2.2.2 (by omega)
  have e37:pu 37 [sl eC .no X,.agg (pC N)] =some (.val (.bool (fM (iU X++jA N.1 N.2.1 N.2.2.1 N.2.2.2)))) :=h37 X N.1 N.2.1 N.2.2.1 N.2.2.2 oX.lz oX.1 bN.1 bN.2.1 (by omega) (fun q hq=>by have:=bN.2.2.2.1 q hq;omega) (by omega)
  obtain ⟨Z,hZ⟩ : ∃Z,fM (iU X++jA N.1 N.2.1 N.2.2.1 N.2.2.2) =Z:= ⟨_,rfl⟩
  rw[hZ] at e37
  refine Tr.skip ?_
  refine hK3 _ ?_
  refine ae fun K4 hK4=> ?_
  refine Tr.blk ?_
  refine aa hcx [] _ [] rfl rfl rfl ?_ cq
  refine Tr.k [15,17,23,24,25,26] ?_
  refine Tr.blk ?_
  refine eG hcx (α:=Nat) (fun a=> [(15,?v15_2),(17,?v17_2),(23,?v23_2),(24,?v24_2),(25,?v25_2),(26,.val (nI a))]) (fun a=> []) (fun a=>a≤3) (fun a=>3 - a) (0) (Nat.zero_le _) ?le_2 ?hh_2 ?bd_2
  case hh_2=>exact rfl
  case le_2=>exact LT
  rintro j hj
  refine ae fun K5 hK5=> ?_
  refine aa hcx [] _ [] rfl rfl rfl ?_ cq
  refine bS rfl (fun hc102=> ?_) (fun hc102=> ?_)
  ·
   obtain ⟨K,hK⟩ : ∃K,gt KS j=K:= ⟨_,rfl⟩
   obtain ⟨L,hLL⟩ : ∃L,gt KS ((j+1) % 3) =L:= ⟨_,rfl⟩
   have hj3: (j+1) % 3< 3:=Nat.mod_lt _ (by omega)
   have e29:pu 29 [.agg (cl bC R),.val (str K),.agg (pC N)] =_:=h29 R K N.1 N.2.1 N.2.2.1 N.2.2.2 hRl bN.1 bN.2.1 lbN (by omega)
   have e32:pu 32 [.agg (cl bC R),.val (str K),.val (str L),.agg (pC N)] =_:=h32 R K L N.1 N.2.1 N.2.2.1 N.2.2.2 hRl bN.1 bN.2.1 lbN (by omega)
   have ck:=fun (q: (er (dE X) K N.1 N.2.1 N.2.2.1 N.2.2.2).2.2=0) =>PS hv K q
   have cg:=fun (q: (fp (dE X) K L N.1 N.2.1 N.2.2.1 N.2.2.2).2=0) =>PT hv K L q
   have cl1:=Ls R K L N.1 N.2.1 N.2.2.1 N.2.2.2
   rw[hR] at ck cg
   obtain ⟨G,hG⟩ : ∃G,fp R K L N.1 N.2.1 N.2.2.1 N.2.2.2=G:= ⟨_,rfl⟩
   obtain ⟨H,hH⟩ : ∃H,er R K N.1 N.2.1 N.2.2.1 N.2.2.2=H:= ⟨_,rfl⟩
   rw[hG] at e32 cl1 cg
   rw[hH] at e29 ck
   replace ck:=fun q=> (ck q).imp_right fun c=>hZ.symm.trans (C6 c)
   replace cg:=fun q=> (cg q).imp_right fun c=>hZ.symm.trans (C6 c)
   have e18:=h18 G.1 (by omega)
   have il:=y5 X K L X.length
   have e36:=h36 X K L (by omega)
   obtain ⟨I,hI⟩ : ∃I,ic X K L X.length=I:= ⟨_,rfl⟩
   rw[hI] at e36 il cg
   have e34:=h34 G.1 I (by omega) (by omega)
   have e18b:=h18 I (by omega)
   have e34b:pu 34 [sl eC .no I,sl eC .no I] =some (.val (.bool true)) := (h34 I I (by omega) (by omega)).trans (by simp)
   have e35:=h35 X K (by omega)
   rw[Ln hs] at e35
   refine Tr.skip ?_
   refine hK5 _ ?_
   refine Tr.k [15,17,23,24,25,26] ?_
   refine ae fun K6 hK6=> ?_
   refine Tr.blk ?_
   have hy:=And.intro @hN (And.intro @hK (And.intro @e30 @e29))
   refine bH hcx cK [1000117,1000118,1000119] _ [] rfl rfl rfl rfl ?_ c8
   refine Tr.k [15,17,23,24,25,26,27,28,29] ?_
   by_cases c1:t8 X K
   ·
    obtain ⟨p,hp⟩ : ∃p,bu X K=p:= ⟨_,rfl⟩
    have hpX:p< X.length:=by rw[←hp];exact c1.1
    rw[if_pos c1,hp] at e35
    have hmx:max p 0=p:=by omega
    have x1b:=nX X p hpX
    have hng:=True.intro
    by_cases c2:H.2.1=true
    ·
     skip
     have hy:=And.intro @hK @e35
     refine aa hcx [1000125] _ [] rfl rfl rfl ?_ cq
     refine Tr.k [15,17,23,24,25,26,27,28,29,30] ?_
     have hy:=And.intro @c2 @hng
     refine aa hcx [1000129] _ [] rfl rfl rfl ?_ cq
     refine Tr.k [15,17,23,24,25,26,27,28,29,30,31] ?_
     refine ae fun K7 hK7=> ?_
     have hy:= @hng
     refine aa hcx [] [some 130,some 131,some 132,some 133] [] rfl rfl rfl ?_ cq
     refine Tr.k [15,17,23,24,25,26,27,29,30,31,133] ?_
     refine ct rfl ?_
     by_cases c3:H.1= (gt X p).2
     ·
      have hy:=And.intro @hmx (And.intro @x1b @hpX)
      refine bG hcx [1000141] _ [] rfl rfl rfl ?_ cq
      refine hK7 _ ?_
      refine Tr.k [15,17,23,24,25,26,29,31] ?_
      refine ae fun K8 hK8=> ?_
      by_cases b0:H.2.2=0
      ·
       have hz:=True.intro
       have hy:=And.intro @hN (And.intro @e37 @hz)
       refine aa hcx [] [some 142,some 143,some 144,some 145,some 146,some 147,some 148,some 149,some 150,some 151,some 152,some 153,some 154,some 155,some 156] [] rfl rfl rfl ?_ cq
       refine Tr.k [15,17,23,24,25,26,156] ?_
       refine bn rfl ?_
       refine Tr.skip ?_
       refine hK8 _ ?_
       refine Tr.k [15,17,23,24,25,26] ?_
       have hy:=And.intro @hN (And.intro @hK (And.intro @hLL (And.intro @e30 @e32)))
       refine bH hcx cK [1000175,1000176] _ [] rfl rfl rfl rfl ?_ c8
       refine Tr.k [15,17,23,24,25,26,32,33] ?_
       by_cases g0:G.2=0
       ·
        by_cases g1:G.1=I
        ·
         have hz2:=True.intro
         have hy:=And.intro @hN (And.intro @hK (And.intro @hLL (And.intro @e18 (And.intro @e18b (And.intro @e36 (And.intro @e34 (And.intro @e34b (And.intro @e37 @hz2))))))))
         refine bH hcx cK [] [some 177,some 178,some 179,some 180,some 181,some 182,some 183,some 184,some 185,some 186,some 187,some 188,some 189,some 190,some 191,some 192,some 193,some 194,some 195,some 196,some 197,some 198,some 199,some 200,some 201,some 202,some 203,some 204,some 205] [] rfl rfl rfl rfl ?_ c8
         refine Tr.k [15,17,23,24,25,26,205] ?_
         refine bn rfl ?_
         refine Tr.skip ?_
         refine hK6 _ ?_
         have hy:=True.intro
         refine bG hcx [1000104] _ [] rfl rfl rfl ?_ cq
         first
         | ((refine ⟨[],⟨by decide,by decide,by decide⟩,j+1,⟨(by omega),O1⟩,?_,by simp only[bh,aC,aq,bf,bg,Option.map_some,Option.map_none,aI,bd,aB,ao,aK,aH,aZ,a0,a7,a8,aL,ba,af,ag,ah,aj,am,an,aJ,aA,↓reduceIte,Nat.reduceEqDiff,reduceCtorEq,Nat.reduceAdd,Nat.zero_add,Nat.one_ne_zero,Nat.zero_ne_one,bc,bj,ar,au,bm,aw,ax] <;>rfl⟩);(simp only[bE,aP,↓bD,aE,aQ,aF,aR,aS,and_true,true_and,bh,aC,aq,bf,bg,Option.map_some,Option.map_none,aI,bd,aB,ao,aK,aH,aZ,a0,a7,a8,aL,ba,af,ag,ah,aj,am,an,aJ,aA,↓reduceIte,Nat.reduceEqDiff,reduceCtorEq,Nat.reduceAdd,Nat.zero_add,Nat.one_ne_zero,Nat.zero_ne_one,bc,bj,ar,au,bm,aw,ax];all_goals (repeat' first|exact CLe.refl _|exact True.intro| (with_reducible refine And.intro ?_ ?_)));(all_goals (first| (rw[cU];exact CLe.refl _) |exact CLe.refl _));(done))
        have hz2:Z=true:= (cg g0).resolve_left g1
        have hy:=And.intro @hN (And.intro @hK (And.intro @hLL (And.intro @e18 (And.intro @e18b (And.intro @e36 (And.intro @e34 (And.intro @e34b (And.intro @e37 @hz2))))))))
        refine bH hcx cK [] [some 177,some 178,some 179,some 180,some 181,some 182,some 183,some 184,some 185,some 186,some 187,some 188,some 189,some 190,some 191,some 192,some 193,some 194,some 195,some 196,some 197,some 198,some 199,some 200,some 201,some 202,some 203,some 204,some 205] [] rfl rfl rfl rfl ?_ c8
        refine Tr.k [15,17,23,24,25,26,205] ?_
        refine bn rfl ?_
        refine Tr.skip ?_
        refine hK6 _ ?_
        have hy:=True.intro
        refine bG hcx [1000104] _ [] rfl rfl rfl ?_ cq
        first
        | ((refine ⟨[],⟨by decide,by decide,by decide⟩,j+1,⟨(by omega),O1⟩,?_,by simp only[bh,aC,aq,bf,bg,Option.map_some,Option.map_none,aI,bd,aB,ao,aK,aH,aZ,a0,a7,a8,aL,ba,af,ag,ah,aj,am,an,aJ,aA,↓reduceIte,Nat.reduceEqDiff,reduceCtorEq,Nat.reduceAdd,Nat.zero_add,Nat.one_ne_zero,Nat.zero_ne_one,bc,bj,ar,au,bm,aw,ax] <;>rfl⟩);(simp only[bE,aP,↓bD,aE,aQ,aF,aR,aS,and_true,true_and,bh,aC,aq,bf,bg,Option.map_some,Option.map_none,aI,bd,aB,ao,aK,aH,aZ,a0,a7,a8,aL,ba,af,ag,ah,aj,am,an,aJ,aA,↓reduceIte,Nat.reduceEqDiff,reduceCtorEq,Nat.reduceAdd,Nat.zero_add,Nat.one_ne_zero,Nat.zero_ne_one,bc,bj,ar,au,bm,aw,ax];all_goals (repeat' first|exact CLe.refl _|exact True.intro| (with_reducible refine And.intro ?_ ?_)));(all_goals (first| (rw[cU];exact CLe.refl _) |exact CLe.refl _));(done))
       have hz2:=True.intro
       have hy:=And.intro @hN (And.intro @hK (And.intro @hLL (And.intro @e18 (And.intro @e18b (And.intro @e36 (And.intro @e34 (And.intro @e34b (And.intro @e37 @hz2))))))))
       refine bH hcx cK [] [some 177,some 178,some 179,some 180,some 181,some 182,some 183,some 184,some 185,some 186,some 187,some 188,some 189,some 190,some 191,some 192,some 193,some 194,some 195,some 196,some 197,some 198,some 199,some 200,some 201,some 202,some 203,some 204,some 205] [] rfl rfl rfl rfl ?_ c8
       refine Tr.k [15,17,23,24,25,26,205] ?_
       refine bn rfl ?_
       refine Tr.skip ?_
       refine hK6 _ ?_
       have hy:=True.intro
       refine bG hcx [1000104] _ [] rfl rfl rfl ?_ cq
       first
       | ((refine ⟨[],⟨by decide,by decide,by decide⟩,j+1,⟨(by omega),O1⟩,?_,by simp only[bh,aC,aq,bf,bg,Option.map_some,Option.map_none,aI,bd,aB,ao,aK,aH,aZ,a0,a7,a8,aL,ba,af,ag,ah,aj,am,an,aJ,aA,↓reduceIte,Nat.reduceEqDiff,reduceCtorEq,Nat.reduceAdd,Nat.zero_add,Nat.one_ne_zero,Nat.zero_ne_one,bc,bj,ar,au,bm,aw,ax] <;>rfl⟩);(simp only[bE,aP,↓bD,aE,aQ,aF,aR,aS,and_true,true_and,bh,aC,aq,bf,bg,Option.map_some,Option.map_none,aI,bd,aB,ao,aK,aH,aZ,a0,a7,a8,aL,ba,af,ag,ah,aj,am,an,aJ,aA,↓reduceIte,Nat.reduceEqDiff,reduceCtorEq,Nat.reduceAdd,Nat.zero_add,Nat.one_ne_zero,Nat.zero_ne_one,bc,bj,ar,au,bm,aw,ax];all_goals (repeat' first|exact CLe.refl _|exact True.intro| (with_reducible refine And.intro ?_ ?_)));(all_goals (first| (rw[cU];exact CLe.refl _) |exact CLe.refl _));(done))
      have hz:=True.intro
      have hy:=And.intro @hN (And.intro @e37 @hz)
      refine aa hcx [] [some 142,some 143,some 144,some 145,some 146,some 147,some 148,some 149,some 150,some 151,some 152,some 153,some 154,some 155,some 156] [] rfl rfl rfl ?_ cq
      refine Tr.k [15,17,23,24,25,26,156] ?_
      refine bn rfl ?_
      refine Tr.skip ?_
      refine hK8 _ ?_
      refine Tr.k [15,17,23,24,25,26] ?_
      have hy:=And.intro @hN (And.intro @hK (And.intro @hLL (And.intro @e30 @e32)))
      refine bH hcx cK [1000175,1000176] _ [] rfl rfl rfl rfl ?_ c8
      refine Tr.k [15,17,23,24,25,26,32,33] ?_
      by_cases g0:G.2=0
      ·
       by_cases g1:G.1=I
       ·
        have hz2:=True.intro
        have hy:=And.intro @hN (And.intro @hK (And.intro @hLL (And.intro @e18 (And.intro @e18b (And.intro @e36 (And.intro @e34 (And.intro @e34b (And.intro @e37 @hz2))))))))
        refine bH hcx cK [] [some 177,some 178,some 179,some 180,some 181,some 182,some 183,some 184,some 185,some 186,some 187,some 188,some 189,some 190,some 191,some 192,some 193,some 194,some 195,some 196,some 197,some 198,some 199,some 200,some 201,some 202,some 203,some 204,some 205] [] rfl rfl rfl rfl ?_ c8
        refine Tr.k [15,17,23,24,25,26,205] ?_
        refine bn rfl ?_
        refine Tr.skip ?_
        refine hK6 _ ?_
        have hy:=True.intro
        refine bG hcx [1000104] _ [] rfl rfl rfl ?_ cq
        first
        | ((refine ⟨[],⟨by decide,by decide,by decide⟩,j+1,⟨(by omega),O1⟩,?_,by simp only[bh,aC,aq,bf,bg,Option.map_some,Option.map_none,aI,bd,aB,ao,aK,aH,aZ,a0,a7,a8,aL,ba,af,ag,ah,aj,am,an,aJ,aA,↓reduceIte,Nat.reduceEqDiff,reduceCtorEq,Nat.reduceAdd,Nat.zero_add,Nat.one_ne_zero,Nat.zero_ne_one,bc,bj,ar,au,bm,aw,ax] <;>rfl⟩);(simp only[bE,aP,↓bD,aE,aQ,aF,aR,aS,and_true,true_and,bh,aC,aq,bf,bg,Option.map_some,Option.map_none,aI,bd,aB,ao,aK,aH,aZ,a0,a7,a8,aL,ba,af,ag,ah,aj,am,an,aJ,aA,↓reduceIte,Nat.reduceEqDiff,reduceCtorEq,Nat.reduceAdd,Nat.zero_add,Nat.one_ne_zero,Nat.zero_ne_one,bc,bj,ar,au,bm,aw,ax];all_goals (repeat' first|exact CLe.refl _|exact True.intro| (with_reducible refine And.intro ?_ ?_)));(all_goals (first| (rw[cU];exact CLe.refl _) |exact CLe.refl _));(done))
       have hz2:Z=true:= (cg g0).resolve_left g1
       have hy:=And.intro @hN (And.intro @hK (And.intro @hLL (And.intro @e18 (And.intro @e18b (And.intro @e36 (And.intro @e34 (And.intro @e34b (And.intro @e37 @hz2))))))))
       refine bH hcx cK [] [some 177,some 178,some 179,some 180,some 181,some 182,some 183,some 184,some 185,some 186,some 187,some 188,some 189,some 190,some 191,some 192,some 193,some 194,some 195,some 196,some 197,some 198,some 199,some 200,some 201,some 202,some 203,some 204,some 205] [] rfl rfl rfl rfl ?_ c8
       refine Tr.k [15,17,23,24,25,26,205] ?_
       refine bn rfl ?_
       refine Tr.skip ?_
       refine hK6 _ ?_
       have hy:=True.intro
       refine bG hcx [1000104] _ [] rfl rfl rfl ?_ cq
       first
       | ((refine ⟨[],⟨by decide,by decide,by decide⟩,j+1,⟨(by omega),O1⟩,?_,by simp only[bh,aC,aq,bf,bg,Option.map_some,Option.map_none,aI,bd,aB,ao,aK,aH,aZ,a0,a7,a8,aL,ba,af,ag,ah,aj,am,an,aJ,aA,↓reduceIte,Nat.reduceEqDiff,reduceCtorEq,Nat.reduceAdd,Nat.zero_add,Nat.one_ne_zero,Nat.zero_ne_one,bc,bj,ar,au,bm,aw,ax] <;>rfl⟩);(simp only[bE,aP,↓bD,aE,aQ,aF,aR,aS,and_true,true_and,bh,aC,aq,bf,bg,Option.map_some,Option.map_none,aI,bd,aB,ao,aK,aH,aZ,a0,a7,a8,aL,ba,af,ag,ah,aj,am,an,aJ,aA,↓reduceIte,Nat.reduceEqDiff,reduceCtorEq,Nat.reduceAdd,Nat.zero_add,Nat.one_ne_zero,Nat.zero_ne_one,bc,bj,ar,au,bm,aw,ax];all_goals (repeat' first|exact CLe.refl _|exact True.intro| (with_reducible refine And.intro ?_ ?_)));(all_goals (first| (rw[cU];exact CLe.refl _) |exact CLe.refl _));(done))
      have hz2:=True.intro
      have hy:=And.intro @hN (And.intro @hK (And.intro @hLL (And.intro @e18 (And.intro @e18b (And.intro @e36 (And.intro @e34 (And.intro @e34b (And.intro @e37 @hz2))))))))
      refine bH hcx cK [] [some 177,some 178,some 179,some 180,some 181,some 182,some 183,some 184,some 185,some 186,some 187,some 188,some 189,some 190,some 191,some 192,some 193,some 194,some 195,some 196,some 197,some 198,some 199,some 200,some 201,some 202,some 203,some 204,some 205] [] rfl rfl rfl rfl ?_ c8
      refine Tr.k [15,17,23,24,25,26,205] ?_
      refine bn rfl ?_
      refine Tr.skip ?_
      refine hK6 _ ?_
      have hy:=True.intro
      refine bG hcx [1000104] _ [] rfl rfl rfl ?_ cq
      first
      | ((refine ⟨[],⟨by decide,by decide,by decide⟩,j+1,⟨(by omega),O1⟩,?_,by simp only[bh,aC,aq,bf,bg,Option.map_some,Option.map_none,aI,bd,aB,ao,aK,aH,aZ,a0,a7,a8,aL,ba,af,ag,ah,aj,am,an,aJ,aA,↓reduceIte,Nat.reduceEqDiff,reduceCtorEq,Nat.reduceAdd,Nat.zero_add,Nat.one_ne_zero,Nat.zero_ne_one,bc,bj,ar,au,bm,aw,ax] <;>rfl⟩);(simp only[bE,aP,↓bD,aE,aQ,aF,aR,aS,and_true,true_and,bh,aC,aq,bf,bg,Option.map_some,Option.map_none,aI,bd,aB,ao,aK,aH,aZ,a0,a7,a8,aL,ba,af,ag,ah,aj,am,an,aJ,aA,↓reduceIte,Nat.reduceEqDiff,reduceCtorEq,Nat.reduceAdd,Nat.zero_add,Nat.one_ne_zero,Nat.zero_ne_one,bc,bj,ar,au,bm,aw,ax];all_goals (repeat' first|exact CLe.refl _|exact True.intro| (with_reducible refine And.intro ?_ ?_)));(all_goals (first| (rw[cU];exact CLe.refl _) |exact CLe.refl _));(done))
     have hy:=And.intro @hmx (And.intro @x1b @hpX)
     refine bG hcx [1000141] _ [] rfl rfl rfl ?_ cq
     refine hK7 _ ?_
     refine Tr.k [15,17,23,24,25,26,29,31] ?_
     refine ae fun K9 hK9=> ?_
     by_cases b0:H.2.2=0
     ·
      have hz:Z=true:=by
       rcases ck b0 with q|q
       · exfalso;exact c3 (by rw[q,if_pos c1,hp])
       · exact q
      have hy:=And.intro @hN (And.intro @e37 @hz)
      refine aa hcx [] [some 142,some 143,some 144,some 145,some 146,some 147,some 148,some 149,some 150,some 151,some 152,some 153,some 154,some 155,some 156] [] rfl rfl rfl ?_ cq
      refine Tr.k [15,17,23,24,25,26,156] ?_
      refine bn rfl ?_
      refine Tr.skip ?_
      refine hK9 _ ?_
      refine Tr.k [15,17,23,24,25,26] ?_
      have hy:=And.intro @hN (And.intro @hK (And.intro @hLL (And.intro @e30 @e32)))
      refine bH hcx cK [1000175,1000176] _ [] rfl rfl rfl rfl ?_ c8
      refine Tr.k [15,17,23,24,25,26,32,33] ?_
      by_cases g0:G.2=0
      ·
       by_cases g1:G.1=I
       ·
        have hz2:=True.intro
        have hy:=And.intro @hN (And.intro @hK (And.intro @hLL (And.intro @e18 (And.intro @e18b (And.intro @e36 (And.intro @e34 (And.intro @e34b (And.intro @e37 @hz2))))))))
        refine bH hcx cK [] [some 177,some 178,some 179,some 180,some 181,some 182,some 183,some 184,some 185,some 186,some 187,some 188,some 189,some 190,some 191,some 192,some 193,some 194,some 195,some 196,some 197,some 198,some 199,some 200,some 201,some 202,some 203,some 204,some 205] [] rfl rfl rfl rfl ?_ c8
        refine Tr.k [15,17,23,24,25,26,205] ?_
        refine bn rfl ?_
        refine Tr.skip ?_
        refine hK6 _ ?_
        have hy:=True.intro
        refine bG hcx [1000104] _ [] rfl rfl rfl ?_ cq
        first
        | ((refine ⟨[],⟨by decide,by decide,by decide⟩,j+1,⟨(by omega),O1⟩,?_,by simp only[bh,aC,aq,bf,bg,Option.map_some,Option.map_none,aI,bd,aB,ao,aK,aH,aZ,a0,a7,a8,aL,ba,af,ag,ah,aj,am,an,aJ,aA,↓reduceIte,Nat.reduceEqDiff,reduceCtorEq,Nat.reduceAdd,Nat.zero_add,Nat.one_ne_zero,Nat.zero_ne_one,bc,bj,ar,au,bm,aw,ax] <;>rfl⟩);(simp only[bE,aP,↓bD,aE,aQ,aF,aR,aS,and_true,true_and,bh,aC,aq,bf,bg,Option.map_some,Option.map_none,aI,bd,aB,ao,aK,aH,aZ,a0,a7,a8,aL,ba,af,ag,ah,aj,am,an,aJ,aA,↓reduceIte,Nat.reduceEqDiff,reduceCtorEq,Nat.reduceAdd,Nat.zero_add,Nat.one_ne_zero,Nat.zero_ne_one,bc,bj,ar,au,bm,aw,ax];all_goals (repeat' first|exact CLe.refl _|exact True.intro| (with_reducible refine And.intro ?_ ?_)));(all_goals (first| (rw[cU];exact CLe.refl _) |exact CLe.refl _));(done))
       have hz2:Z=true:= (cg g0).resolve_left g1
       have hy:=And.intro @hN (And.intro @hK (And.intro @hLL (And.intro @e18 (And.intro @e18b (And.intro @e36 (And.intro @e34 (And.intro @e34b (And.intro @e37 @hz2))))))))
       refine bH hcx cK [] [some 177,some 178,some 179,some 180,some 181,some 182,some 183,some 184,some 185,some 186,some 187,some 188,some 189,some 190,some 191,some 192,some 193,some 194,some 195,some 196,some 197,some 198,some 199,some 200,some 201,some 202,some 203,some 204,some 205] [] rfl rfl rfl rfl ?_ c8
       refine Tr.k [15,17,23,24,25,26,205] ?_
       refine bn rfl ?_
       refine Tr.skip ?_
       refine hK6 _ ?_
       have hy:=True.intro
       refine bG hcx [1000104] _ [] rfl rfl rfl ?_ cq
       first
       | ((refine ⟨[],⟨by decide,by decide,by decide⟩,j+1,⟨(by omega),O1⟩,?_,by simp only[bh,aC,aq,bf,bg,Option.map_some,Option.map_none,aI,bd,aB,ao,aK,aH,aZ,a0,a7,a8,aL,ba,af,ag,ah,aj,am,an,aJ,aA,↓reduceIte,Nat.reduceEqDiff,reduceCtorEq,Nat.reduceAdd,Nat.zero_add,Nat.one_ne_zero,Nat.zero_ne_one,bc,bj,ar,au,bm,aw,ax] <;>rfl⟩);(simp only[bE,aP,↓bD,aE,aQ,aF,aR,aS,and_true,true_and,bh,aC,aq,bf,bg,Option.map_some,Option.map_none,aI,bd,aB,ao,aK,aH,aZ,a0,a7,a8,aL,ba,af,ag,ah,aj,am,an,aJ,aA,↓reduceIte,Nat.reduceEqDiff,reduceCtorEq,Nat.reduceAdd,Nat.zero_add,Nat.one_ne_zero,Nat.zero_ne_one,bc,bj,ar,au,bm,aw,ax];all_goals (repeat' first|exact CLe.refl _|exact True.intro| (with_reducible refine And.intro ?_ ?_)));(all_goals (first| (rw[cU];exact CLe.refl _) |exact CLe.refl _));(done))
      have hz2:=True.intro
      have hy:=And.intro @hN (And.intro @hK (And.intro @hLL (And.intro @e18 (And.intro @e18b (And.intro @e36 (And.intro @e34 (And.intro @e34b (And.intro @e37 @hz2))))))))
      refine bH hcx cK [] [some 177,some 178,some 179,some 180,some 181,some 182,some 183,some 184,some 185,some 186,some 187,some 188,some 189,some 190,some 191,some 192,some 193,some 194,some 195,some 196,some 197,some 198,some 199,some 200,some 201,some 202,some 203,some 204,some 205] [] rfl rfl rfl rfl ?_ c8
      refine Tr.k [15,17,23,24,25,26,205] ?_
      refine bn rfl ?_
      refine Tr.skip ?_
      refine hK6 _ ?_
      have hy:=True.intro
      refine bG hcx [1000104] _ [] rfl rfl rfl ?_ cq
      first
      | ((refine ⟨[],⟨by decide,by decide,by decide⟩,j+1,⟨(by omega),O1⟩,?_,by simp only[bh,aC,aq,bf,bg,Option.map_some,Option.map_none,aI,bd,aB,ao,aK,aH,aZ,a0,a7,a8,aL,ba,af,ag,ah,aj,am,an,aJ,aA,↓reduceIte,Nat.reduceEqDiff,reduceCtorEq,Nat.reduceAdd,Nat.zero_add,Nat.one_ne_zero,Nat.zero_ne_one,bc,bj,ar,au,bm,aw,ax] <;>rfl⟩);(simp only[bE,aP,↓bD,aE,aQ,aF,aR,aS,and_true,true_and,bh,aC,aq,bf,bg,Option.map_some,Option.map_none,aI,bd,aB,ao,aK,aH,aZ,a0,a7,a8,aL,ba,af,ag,ah,aj,am,an,aJ,aA,↓reduceIte,Nat.reduceEqDiff,reduceCtorEq,Nat.reduceAdd,Nat.zero_add,Nat.one_ne_zero,Nat.zero_ne_one,bc,bj,ar,au,bm,aw,ax];all_goals (repeat' first|exact CLe.refl _|exact True.intro| (with_reducible refine And.intro ?_ ?_)));(all_goals (first| (rw[cU];exact CLe.refl _) |exact CLe.refl _));(done))
     have hz:=True.intro
     have hy:=And.intro @hN (And.intro @e37 @hz)
     refine aa hcx [] [some 142,some 143,some 144,some 145,some 146,some 147,some 148,some 149,some 150,some 151,some 152,some 153,some 154,some 155,some 156] [] rfl rfl rfl ?_ cq
     refine Tr.k [15,17,23,24,25,26,156] ?_
     refine bn rfl ?_
     refine Tr.skip ?_
     refine hK9 _ ?_
     refine Tr.k [15,17,23,24,25,26] ?_
     have hy:=And.intro @hN (And.intro @hK (And.intro @hLL (And.intro @e30 @e32)))
     refine bH hcx cK [1000175,1000176] _ [] rfl rfl rfl rfl ?_ c8
     refine Tr.k [15,17,23,24,25,26,32,33] ?_
     by_cases g0:G.2=0
     ·
      by_cases g1:G.1=I
      ·
       have hz2:=True.intro
       have hy:=And.intro @hN (And.intro @hK (And.intro @hLL (And.intro @e18 (And.intro @e18b (And.intro @e36 (And.intro @e34 (And.intro @e34b (And.intro @e37 @hz2))))))))
       refine bH hcx cK [] [some 177,some 178,some 179,some 180,some 181,some 182,some 183,some 184,some 185,some 186,some 187,some 188,some 189,some 190,some 191,some 192,some 193,some 194,some 195,some 196,some 197,some 198,some 199,some 200,some 201,some 202,some 203,some 204,some 205] [] rfl rfl rfl rfl ?_ c8
       refine Tr.k [15,17,23,24,25,26,205] ?_
       refine bn rfl ?_
       refine Tr.skip ?_
       refine hK6 _ ?_
       have hy:=True.intro
       refine bG hcx [1000104] _ [] rfl rfl rfl ?_ cq
       first
       | ((refine ⟨[],⟨by decide,by decide,by decide⟩,j+1,⟨(by omega),O1⟩,?_,by simp only[bh,aC,aq,bf,bg,Option.map_some,Option.map_none,aI,bd,aB,ao,aK,aH,aZ,a0,a7,a8,aL,ba,af,ag,ah,aj,am,an,aJ,aA,↓reduceIte,Nat.reduceEqDiff,reduceCtorEq,Nat.reduceAdd,Nat.zero_add,Nat.one_ne_zero,Nat.zero_ne_one,bc,bj,ar,au,bm,aw,ax] <;>rfl⟩);(simp only[bE,aP,↓bD,aE,aQ,aF,aR,aS,and_true,true_and,bh,aC,aq,bf,bg,Option.map_some,Option.map_none,aI,bd,aB,ao,aK,aH,aZ,a0,a7,a8,aL,ba,af,ag,ah,aj,am,an,aJ,aA,↓reduceIte,Nat.reduceEqDiff,reduceCtorEq,Nat.reduceAdd,Nat.zero_add,Nat.one_ne_zero,Nat.zero_ne_one,bc,bj,ar,au,bm,aw,ax];all_goals (repeat' first|exact CLe.refl _|exact True.intro| (with_reducible refine And.intro ?_ ?_)));(all_goals (first| (rw[cU];exact CLe.refl _) |exact CLe.refl _));(done))
      have hz2:Z=true:= (cg g0).resolve_left g1
      have hy:=And.intro @hN (And.intro @hK (And.intro @hLL (And.intro @e18 (And.intro @e18b (And.intro @e36 (And.intro @e34 (And.intro @e34b (And.intro @e37 @hz2))))))))
      refine bH hcx cK [] [some 177,some 178,some 179,some 180,some 181,some 182,some 183,some 184,some 185,some 186,some 187,some 188,some 189,some 190,some 191,some 192,some 193,some 194,some 195,some 196,some 197,some 198,some 199,some 200,some 201,some 202,some 203,some 204,some 205] [] rfl rfl rfl rfl ?_ c8
      refine Tr.k [15,17,23,24,25,26,205] ?_
      refine bn rfl ?_
      refine Tr.skip ?_
      refine hK6 _ ?_
      have hy:=True.intro
      refine bG hcx [1000104] _ [] rfl rfl rfl ?_ cq
      first
      | ((refine ⟨[],⟨by decide,by decide,by decide⟩,j+1,⟨(by omega),O1⟩,?_,by simp only[bh,aC,aq,bf,bg,Option.map_some,Option.map_none,aI,bd,aB,ao,aK,aH,aZ,a0,a7,a8,aL,ba,af,ag,ah,aj,am,an,aJ,aA,↓reduceIte,Nat.reduceEqDiff,reduceCtorEq,Nat.reduceAdd,Nat.zero_add,Nat.one_ne_zero,Nat.zero_ne_one,bc,bj,ar,au,bm,aw,ax] <;>rfl⟩);(simp only[bE,aP,↓bD,aE,aQ,aF,aR,aS,and_true,true_and,bh,aC,aq,bf,bg,Option.map_some,Option.map_none,aI,bd,aB,ao,aK,aH,aZ,a0,a7,a8,aL,ba,af,ag,ah,aj,am,an,aJ,aA,↓reduceIte,Nat.reduceEqDiff,reduceCtorEq,Nat.reduceAdd,Nat.zero_add,Nat.one_ne_zero,Nat.zero_ne_one,bc,bj,ar,au,bm,aw,ax];all_goals (repeat' first|exact CLe.refl _|exact True.intro| (with_reducible refine And.intro ?_ ?_)));(all_goals (first| (rw[cU];exact CLe.refl _) |exact CLe.refl _));(done))
     have hz2:=True.intro
     have hy:=And.intro @hN (And.intro @hK (And.intro @hLL (And.intro @e18 (And.intro @e18b (And.intro @e36 (And.intro @e34 (And.intro @e34b (And.intro @e37 @hz2))))))))
     refine bH hcx cK [] [some 177,some 178,some 179,some 180,some 181,some 182,some 183,some 184,some 185,some 186,some 187,some 188,some 189,some 190,some 191,some 192,some 193,some 194,some 195,some 196,some 197,some 198,some 199,some 200,some 201,some 202,some 203,some 204,some 205] [] rfl rfl rfl rfl ?_ c8
     refine Tr.k [15,17,23,24,25,26,205] ?_
     refine bn rfl ?_
     refine Tr.skip ?_
     refine hK6 _ ?_
     have hy:=True.intro
     refine bG hcx [1000104] _ [] rfl rfl rfl ?_ cq
     first
     | ((refine ⟨[],⟨by decide,by decide,by decide⟩,j+1,⟨(by omega),O1⟩,?_,by simp only[bh,aC,aq,bf,bg,Option.map_some,Option.map_none,aI,bd,aB,ao,aK,aH,aZ,a0,a7,a8,aL,ba,af,ag,ah,aj,am,an,aJ,aA,↓reduceIte,Nat.reduceEqDiff,reduceCtorEq,Nat.reduceAdd,Nat.zero_add,Nat.one_ne_zero,Nat.zero_ne_one,bc,bj,ar,au,bm,aw,ax] <;>rfl⟩);(simp only[bE,aP,↓bD,aE,aQ,aF,aR,aS,and_true,true_and,bh,aC,aq,bf,bg,Option.map_some,Option.map_none,aI,bd,aB,ao,aK,aH,aZ,a0,a7,a8,aL,ba,af,ag,ah,aj,am,an,aJ,aA,↓reduceIte,Nat.reduceEqDiff,reduceCtorEq,Nat.reduceAdd,Nat.zero_add,Nat.one_ne_zero,Nat.zero_ne_one,bc,bj,ar,au,bm,aw,ax];all_goals (repeat' first|exact CLe.refl _|exact True.intro| (with_reducible refine And.intro ?_ ?_)));(all_goals (first| (rw[cU];exact CLe.refl _) |exact CLe.refl _));(done))
    have c2o:=c2
    replace c2:=Bool.eq_false_iff.2 c2
    have hy:=And.intro @hK @e35
    refine aa hcx [1000125] _ [] rfl rfl rfl ?_ cq
    refine Tr.k [15,17,23,24,25,26,27,28,29,30] ?_
    have hy:=And.intro @c2 @hng
    refine aa hcx [1000129] _ [] rfl rfl rfl ?_ cq
    refine Tr.k [15,17,23,24,25,26,27,28,29,30,31] ?_
    refine ae fun K10 hK10=> ?_
    have hy:= @hng
    refine aa hcx [] [some 130,some 131,some 132,some 133] [] rfl rfl rfl ?_ cq
    refine Tr.k [15,17,23,24,25,26,27,29,30,31,133] ?_
    refine bn rfl ?_
    refine Tr.skip ?_
    refine hK10 _ ?_
    refine Tr.k [15,17,23,24,25,26,29,31] ?_
    refine ae fun K11 hK11=> ?_
    by_cases b0:H.2.2=0
    ·
     have hz:Z=true:=by
      rcases ck b0 with q|q
      · exfalso;rw[q,decide_eq_true c1] at c2;cases c2
      · exact q
     have hy:=And.intro @hN (And.intro @e37 @hz)
     refine aa hcx [] [some 142,some 143,some 144,some 145,some 146,some 147,some 148,some 149,some 150,some 151,some 152,some 153,some 154,some 155,some 156] [] rfl rfl rfl ?_ cq
     refine Tr.k [15,17,23,24,25,26,156] ?_
     refine bn rfl ?_
     refine Tr.skip ?_
     refine hK11 _ ?_
     refine Tr.k [15,17,23,24,25,26] ?_
     have hy:=And.intro @hN (And.intro @hK (And.intro @hLL (And.intro @e30 @e32)))
     refine bH hcx cK [1000175,1000176] _ [] rfl rfl rfl rfl ?_ c8
     refine Tr.k [15,17,23,24,25,26,32,33] ?_
     by_cases g0:G.2=0
     ·
      by_cases g1:G.1=I
      ·
       have hz2:=True.intro
       have hy:=And.intro @hN (And.intro @hK (And.intro @hLL (And.intro @e18 (And.intro @e18b (And.intro @e36 (And.intro @e34 (And.intro @e34b (And.intro @e37 @hz2))))))))
       refine bH hcx cK [] [some 177,some 178,some 179,some 180,some 181,some 182,some 183,some 184,some 185,some 186,some 187,some 188,some 189,some 190,some 191,some 192,some 193,some 194,some 195,some 196,some 197,some 198,some 199,some 200,some 201,some 202,some 203,some 204,some 205] [] rfl rfl rfl rfl ?_ c8
       refine Tr.k [15,17,23,24,25,26,205] ?_
       refine bn rfl ?_
       refine Tr.skip ?_
       refine hK6 _ ?_
       have hy:=True.intro
       refine bG hcx [1000104] _ [] rfl rfl rfl ?_ cq
       first
       | ((refine ⟨[],⟨by decide,by decide,by decide⟩,j+1,⟨(by omega),O1⟩,?_,by simp only[bh,aC,aq,bf,bg,Option.map_some,Option.map_none,aI,bd,aB,ao,aK,aH,aZ,a0,a7,a8,aL,ba,af,ag,ah,aj,am,an,aJ,aA,↓reduceIte,Nat.reduceEqDiff,reduceCtorEq,Nat.reduceAdd,Nat.zero_add,Nat.one_ne_zero,Nat.zero_ne_one,bc,bj,ar,au,bm,aw,ax] <;>rfl⟩);(simp only[bE,aP,↓bD,aE,aQ,aF,aR,aS,and_true,true_and,bh,aC,aq,bf,bg,Option.map_some,Option.map_none,aI,bd,aB,ao,aK,aH,aZ,a0,a7,a8,aL,ba,af,ag,ah,aj,am,an,aJ,aA,↓reduceIte,Nat.reduceEqDiff,reduceCtorEq,Nat.reduceAdd,Nat.zero_add,Nat.one_ne_zero,Nat.zero_ne_one,bc,bj,ar,au,bm,aw,ax];all_goals (repeat' first|exact CLe.refl _|exact True.intro| (with_reducible refine And.intro ?_ ?_)));(all_goals (first| (rw[cU];exact CLe.refl _) |exact CLe.refl _));(done))
      have hz2:Z=true:= (cg g0).resolve_left g1
      have hy:=And.intro @hN (And.intro @hK (And.intro @hLL (And.intro @e18 (And.intro @e18b (And.intro @e36 (And.intro @e34 (And.intro @e34b (And.intro @e37 @hz2))))))))
      refine bH hcx cK [] [some 177,some 178,some 179,some 180,some 181,some 182,some 183,some 184,some 185,some 186,some 187,some 188,some 189,some 190,some 191,some 192,some 193,some 194,some 195,some 196,some 197,some 198,some 199,some 200,some 201,some 202,some 203,some 204,some 205] [] rfl rfl rfl rfl ?_ c8
      refine Tr.k [15,17,23,24,25,26,205] ?_
      refine bn rfl ?_
      refine Tr.skip ?_
      refine hK6 _ ?_
      have hy:=True.intro
      refine bG hcx [1000104] _ [] rfl rfl rfl ?_ cq
      first
      | ((refine ⟨[],⟨by decide,by decide,by decide⟩,j+1,⟨(by omega),O1⟩,?_,by simp only[bh,aC,aq,bf,bg,Option.map_some,Option.map_none,aI,bd,aB,ao,aK,aH,aZ,a0,a7,a8,aL,ba,af,ag,ah,aj,am,an,aJ,aA,↓reduceIte,Nat.reduceEqDiff,reduceCtorEq,Nat.reduceAdd,Nat.zero_add,Nat.one_ne_zero,Nat.zero_ne_one,bc,bj,ar,au,bm,aw,ax] <;>rfl⟩);(simp only[bE,aP,↓bD,aE,aQ,aF,aR,aS,and_true,true_and,bh,aC,aq,bf,bg,Option.map_some,Option.map_none,aI,bd,aB,ao,aK,aH,aZ,a0,a7,a8,aL,ba,af,ag,ah,aj,am,an,aJ,aA,↓reduceIte,Nat.reduceEqDiff,reduceCtorEq,Nat.reduceAdd,Nat.zero_add,Nat.one_ne_zero,Nat.zero_ne_one,bc,bj,ar,au,bm,aw,ax];all_goals (repeat' first|exact CLe.refl _|exact True.intro| (with_reducible refine And.intro ?_ ?_)));(all_goals (first| (rw[cU];exact CLe.refl _) |exact CLe.refl _));(done))
     have hz2:=True.intro
     have hy:=And.intro @hN (And.intro @hK (And.intro @hLL (And.intro @e18 (And.intro @e18b (And.intro @e36 (And.intro @e34 (And.intro @e34b (And.intro @e37 @hz2))))))))
     refine bH hcx cK [] [some 177,some 178,some 179,some 180,some 181,some 182,some 183,some 184,some 185,some 186,some 187,some 188,some 189,some 190,some 191,some 192,some 193,some 194,some 195,some 196,some 197,some 198,some 199,some 200,some 201,some 202,some 203,some 204,some 205] [] rfl rfl rfl rfl ?_ c8
     refine Tr.k [15,17,23,24,25,26,205] ?_
     refine bn rfl ?_
     refine Tr.skip ?_
     refine hK6 _ ?_
     have hy:=True.intro
     refine bG hcx [1000104] _ [] rfl rfl rfl ?_ cq
     first
     | ((refine ⟨[],⟨by decide,by decide,by decide⟩,j+1,⟨(by omega),O1⟩,?_,by simp only[bh,aC,aq,bf,bg,Option.map_some,Option.map_none,aI,bd,aB,ao,aK,aH,aZ,a0,a7,a8,aL,ba,af,ag,ah,aj,am,an,aJ,aA,↓reduceIte,Nat.reduceEqDiff,reduceCtorEq,Nat.reduceAdd,Nat.zero_add,Nat.one_ne_zero,Nat.zero_ne_one,bc,bj,ar,au,bm,aw,ax] <;>rfl⟩);(simp only[bE,aP,↓bD,aE,aQ,aF,aR,aS,and_true,true_and,bh,aC,aq,bf,bg,Option.map_some,Option.map_none,aI,bd,aB,ao,aK,aH,aZ,a0,a7,a8,aL,ba,af,ag,ah,aj,am,an,aJ,aA,↓reduceIte,Nat.reduceEqDiff,reduceCtorEq,Nat.reduceAdd,Nat.zero_add,Nat.one_ne_zero,Nat.zero_ne_one,bc,bj,ar,au,bm,aw,ax];all_goals (repeat' first|exact CLe.refl _|exact True.intro| (with_reducible refine And.intro ?_ ?_)));(all_goals (first| (rw[cU];exact CLe.refl _) |exact CLe.refl _));(done))
    have hz:=True.intro
    have hy:=And.intro @hN (And.intro @e37 @hz)
    refine aa hcx [] [some 142,some 143,some 144,some 145,some 146,some 147,some 148,some 149,some 150,some 151,some 152,some 153,some 154,some 155,some 156] [] rfl rfl rfl ?_ cq
    refine Tr.k [15,17,23,24,25,26,156] ?_
    refine bn rfl ?_
    refine Tr.skip ?_
    refine hK11 _ ?_
    refine Tr.k [15,17,23,24,25,26] ?_
    have hy:=And.intro @hN (And.intro @hK (And.intro @hLL (And.intro @e30 @e32)))
    refine bH hcx cK [1000175,1000176] _ [] rfl rfl rfl rfl ?_ c8
    refine Tr.k [15,17,23,24,25,26,32,33] ?_
    by_cases g0:G.2=0
    ·
     by_cases g1:G.1=I
     ·
      have hz2:=True.intro
      have hy:=And.intro @hN (And.intro @hK (And.intro @hLL (And.intro @e18 (And.intro @e18b (And.intro @e36 (And.intro @e34 (And.intro @e34b (And.intro @e37 @hz2))))))))
      refine bH hcx cK [] [some 177,some 178,some 179,some 180,some 181,some 182,some 183,some 184,some 185,some 186,some 187,some 188,some 189,some 190,some 191,some 192,some 193,some 194,some 195,some 196,some 197,some 198,some 199,some 200,some 201,some 202,some 203,some 204,some 205] [] rfl rfl rfl rfl ?_ c8
      refine Tr.k [15,17,23,24,25,26,205] ?_
      refine bn rfl ?_
      refine Tr.skip ?_
      refine hK6 _ ?_
      have hy:=True.intro
      refine bG hcx [1000104] _ [] rfl rfl rfl ?_ cq
      first
      | ((refine ⟨[],⟨by decide,by decide,by decide⟩,j+1,⟨(by omega),O1⟩,?_,by simp only[bh,aC,aq,bf,bg,Option.map_some,Option.map_none,aI,bd,aB,ao,aK,aH,aZ,a0,a7,a8,aL,ba,af,ag,ah,aj,am,an,aJ,aA,↓reduceIte,Nat.reduceEqDiff,reduceCtorEq,Nat.reduceAdd,Nat.zero_add,Nat.one_ne_zero,Nat.zero_ne_one,bc,bj,ar,au,bm,aw,ax] <;>rfl⟩);(simp only[bE,aP,↓bD,aE,aQ,aF,aR,aS,and_true,true_and,bh,aC,aq,bf,bg,Option.map_some,Option.map_none,aI,bd,aB,ao,aK,aH,aZ,a0,a7,a8,aL,ba,af,ag,ah,aj,am,an,aJ,aA,↓reduceIte,Nat.reduceEqDiff,reduceCtorEq,Nat.reduceAdd,Nat.zero_add,Nat.one_ne_zero,Nat.zero_ne_one,bc,bj,ar,au,bm,aw,ax];all_goals (repeat' first|exact CLe.refl _|exact True.intro| (with_reducible refine And.intro ?_ ?_)));(all_goals (first| (rw[cU];exact CLe.refl _) |exact CLe.refl _));(done))
     have hz2:Z=true:= (cg g0).resolve_left g1
     have hy:=And.intro @hN (And.intro @hK (And.intro @hLL (And.intro @e18 (And.intro @e18b (And.intro @e36 (And.intro @e34 (And.intro @e34b (And.intro @e37 @hz2))))))))
     refine bH hcx cK [] [some 177,some 178,some 179,some 180,some 181,some 182,some 183,some 184,some 185,some 186,some 187,some 188,some 189,some 190,some 191,some 192,some 193,some 194,some 195,some 196,some 197,some 198,some 199,some 200,some 201,some 202,some 203,some 204,some 205] [] rfl rfl rfl rfl ?_ c8
     refine Tr.k [15,17,23,24,25,26,205] ?_
     refine bn rfl ?_
     refine Tr.skip ?_
     refine hK6 _ ?_
     have hy:=True.intro
     refine bG hcx [1000104] _ [] rfl rfl rfl ?_ cq
     first
     | ((refine ⟨[],⟨by decide,by decide,by decide⟩,j+1,⟨(by omega),O1⟩,?_,by simp only[bh,aC,aq,bf,bg,Option.map_some,Option.map_none,aI,bd,aB,ao,aK,aH,aZ,a0,a7,a8,aL,ba,af,ag,ah,aj,am,an,aJ,aA,↓reduceIte,Nat.reduceEqDiff,reduceCtorEq,Nat.reduceAdd,Nat.zero_add,Nat.one_ne_zero,Nat.zero_ne_one,bc,bj,ar,au,bm,aw,ax] <;>rfl⟩);(simp only[bE,aP,↓bD,aE,aQ,aF,aR,aS,and_true,true_and,bh,aC,aq,bf,bg,Option.map_some,Option.map_none,aI,bd,aB,ao,aK,aH,aZ,a0,a7,a8,aL,ba,af,ag,ah,aj,am,an,aJ,aA,↓reduceIte,Nat.reduceEqDiff,reduceCtorEq,Nat.reduceAdd,Nat.zero_add,Nat.one_ne_zero,Nat.zero_ne_one,bc,bj,ar,au,bm,aw,ax];all_goals (repeat' first|exact CLe.refl _|exact True.intro| (with_reducible refine And.intro ?_ ?_)));(all_goals (first| (rw[cU];exact CLe.refl _) |exact CLe.refl _));(done))
    have hz2:=True.intro
    have hy:=And.intro @hN (And.intro @hK (And.intro @hLL (And.intro @e18 (And.intro @e18b (And.intro @e36 (And.intro @e34 (And.intro @e34b (And.intro @e37 @hz2))))))))
    refine bH hcx cK [] [some 177,some 178,some 179,some 180,some 181,some 182,some 183,some 184,some 185,some 186,some 187,some 188,some 189,some 190,some 191,some 192,some 193,some 194,some 195,some 196,some 197,some 198,some 199,some 200,some 201,some 202,some 203,some 204,some 205] [] rfl rfl rfl rfl ?_ c8
    refine Tr.k [15,17,23,24,25,26,205] ?_
    refine bn rfl ?_
    refine Tr.skip ?_
    refine hK6 _ ?_
    have hy:=True.intro
    refine bG hcx [1000104] _ [] rfl rfl rfl ?_ cq
    first
    | ((refine ⟨[],⟨by decide,by decide,by decide⟩,j+1,⟨(by omega),O1⟩,?_,by simp only[bh,aC,aq,bf,bg,Option.map_some,Option.map_none,aI,bd,aB,ao,aK,aH,aZ,a0,a7,a8,aL,ba,af,ag,ah,aj,am,an,aJ,aA,↓reduceIte,Nat.reduceEqDiff,reduceCtorEq,Nat.reduceAdd,Nat.zero_add,Nat.one_ne_zero,Nat.zero_ne_one,bc,bj,ar,au,bm,aw,ax] <;>rfl⟩);(simp only[bE,aP,↓bD,aE,aQ,aF,aR,aS,and_true,true_and,bh,aC,aq,bf,bg,Option.map_some,Option.map_none,aI,bd,aB,ao,aK,aH,aZ,a0,a7,a8,aL,ba,af,ag,ah,aj,am,an,aJ,aA,↓reduceIte,Nat.reduceEqDiff,reduceCtorEq,Nat.reduceAdd,Nat.zero_add,Nat.one_ne_zero,Nat.zero_ne_one,bc,bj,ar,au,bm,aw,ax];all_goals (repeat' first|exact CLe.refl _|exact True.intro| (with_reducible refine And.intro ?_ ?_)));(all_goals (first| (rw[cU];exact CLe.refl _) |exact CLe.refl _));(done))
   rw[if_neg c1] at e35
   have hmx:=True.intro
   have x1b:=True.intro
   have hpX:=True.intro
   have hng: (((0:Nat) :Int)≤ -1) =False:=eq_false (by omega)
   by_cases c2:H.2.1=true
   ·
    skip
    have hy:=And.intro @hK @e35
    refine aa hcx [1000125] _ [] rfl rfl rfl ?_ cq
    refine Tr.k [15,17,23,24,25,26,27,28,29,30] ?_
    have hy:=And.intro @c2 @hng
    refine aa hcx [1000129] _ [] rfl rfl rfl ?_ cq
    refine Tr.k [15,17,23,24,25,26,27,28,29,30,31] ?_
    refine ae fun K12 hK12=> ?_
    have hy:= @hng
    refine aa hcx [] [some 130,some 131,some 132,some 133] [] rfl rfl rfl ?_ cq
    refine Tr.k [15,17,23,24,25,26,27,29,30,31,133] ?_
    refine bn rfl ?_
    refine Tr.skip ?_
    refine hK12 _ ?_
    refine Tr.k [15,17,23,24,25,26,29,31] ?_
    refine ae fun K13 hK13=> ?_
    by_cases b0:H.2.2=0
    ·
     have hz:Z=true:=by
      rcases ck b0 with q|q
      · exfalso;rw[q,decide_eq_false c1] at c2;cases c2
      · exact q
     have hy:=And.intro @hN (And.intro @e37 @hz)
     refine aa hcx [] [some 142,some 143,some 144,some 145,some 146,some 147,some 148,some 149,some 150,some 151,some 152,some 153,some 154,some 155,some 156] [] rfl rfl rfl ?_ cq
     refine Tr.k [15,17,23,24,25,26,156] ?_
     refine bn rfl ?_
     refine Tr.skip ?_
     refine hK13 _ ?_
     refine Tr.k [15,17,23,24,25,26] ?_
     have hy:=And.intro @hN (And.intro @hK (And.intro @hLL (And.intro @e30 @e32)))
     refine bH hcx cK [1000175,1000176] _ [] rfl rfl rfl rfl ?_ c8
     refine Tr.k [15,17,23,24,25,26,32,33] ?_
     by_cases g0:G.2=0
     ·
      by_cases g1:G.1=I
      ·
       have hz2:=True.intro
       have hy:=And.intro @hN (And.intro @hK (And.intro @hLL (And.intro @e18 (And.intro @e18b (And.intro @e36 (And.intro @e34 (And.intro @e34b (And.intro @e37 @hz2))))))))
       refine bH hcx cK [] [some 177,some 178,some 179,some 180,some 181,some 182,some 183,some 184,some 185,some 186,some 187,some 188,some 189,some 190,some 191,some 192,some 193,some 194,some 195,some 196,some 197,some 198,some 199,some 200,some 201,some 202,some 203,some 204,some 205] [] rfl rfl rfl rfl ?_ c8
       refine Tr.k [15,17,23,24,25,26,205] ?_
       refine bn rfl ?_
       refine Tr.skip ?_
       refine hK6 _ ?_
       have hy:=True.intro
       refine bG hcx [1000104] _ [] rfl rfl rfl ?_ cq
       first
       | ((refine ⟨[],⟨by decide,by decide,by decide⟩,j+1,⟨(by omega),O1⟩,?_,by simp only[bh,aC,aq,bf,bg,Option.map_some,Option.map_none,aI,bd,aB,ao,aK,aH,aZ,a0,a7,a8,aL,ba,af,ag,ah,aj,am,an,aJ,aA,↓reduceIte,Nat.reduceEqDiff,reduceCtorEq,Nat.reduceAdd,Nat.zero_add,Nat.one_ne_zero,Nat.zero_ne_one,bc,bj,ar,au,bm,aw,ax] <;>rfl⟩);(simp only[bE,aP,↓bD,aE,aQ,aF,aR,aS,and_true,true_and,bh,aC,aq,bf,bg,Option.map_some,Option.map_none,aI,bd,aB,ao,aK,aH,aZ,a0,a7,a8,aL,ba,af,ag,ah,aj,am,an,aJ,aA,↓reduceIte,Nat.reduceEqDiff,reduceCtorEq,Nat.reduceAdd,Nat.zero_add,Nat.one_ne_zero,Nat.zero_ne_one,bc,bj,ar,au,bm,aw,ax];all_goals (repeat' first|exact CLe.refl _|exact True.intro| (with_reducible refine And.intro ?_ ?_)));(all_goals (first| (rw[cU];exact CLe.refl _) |exact CLe.refl _));(done))
      have hz2:Z=true:= (cg g0).resolve_left g1
      have hy:=And.intro @hN (And.intro @hK (And.intro @hLL (And.intro @e18 (And.intro @e18b (And.intro @e36 (And.intro @e34 (And.intro @e34b (And.intro @e37 @hz2))))))))
      refine bH hcx cK [] [some 177,some 178,some 179,some 180,some 181,some 182,some 183,some 184,some 185,some 186,some 187,some 188,some 189,some 190,some 191,some 192,some 193,some 194,some 195,some 196,some 197,some 198,some 199,some 200,some 201,some 202,some 203,some 204,some 205] [] rfl rfl rfl rfl ?_ c8
      refine Tr.k [15,17,23,24,25,26,205] ?_
      refine bn rfl ?_
      refine Tr.skip ?_
      refine hK6 _ ?_
      have hy:=True.intro
      refine bG hcx [1000104] _ [] rfl rfl rfl ?_ cq
      first
      | ((refine ⟨[],⟨by decide,by decide,by decide⟩,j+1,⟨(by omega),O1⟩,?_,by simp only[bh,aC,aq,bf,bg,Option.map_some,Option.map_none,aI,bd,aB,ao,aK,aH,aZ,a0,a7,a8,aL,ba,af,ag,ah,aj,am,an,aJ,aA,↓reduceIte,Nat.reduceEqDiff,reduceCtorEq,Nat.reduceAdd,Nat.zero_add,Nat.one_ne_zero,Nat.zero_ne_one,bc,bj,ar,au,bm,aw,ax] <;>rfl⟩);(simp only[bE,aP,↓bD,aE,aQ,aF,aR,aS,and_true,true_and,bh,aC,aq,bf,bg,Option.map_some,Option.map_none,aI,bd,aB,ao,aK,aH,aZ,a0,a7,a8,aL,ba,af,ag,ah,aj,am,an,aJ,aA,↓reduceIte,Nat.reduceEqDiff,reduceCtorEq,Nat.reduceAdd,Nat.zero_add,Nat.one_ne_zero,Nat.zero_ne_one,bc,bj,ar,au,bm,aw,ax];all_goals (repeat' first|exact CLe.refl _|exact True.intro| (with_reducible refine And.intro ?_ ?_)));(all_goals (first| (rw[cU];exact CLe.refl _) |exact CLe.refl _));(done))
     have hz2:=True.intro
     have hy:=And.intro @hN (And.intro @hK (And.intro @hLL (And.intro @e18 (And.intro @e18b (And.intro @e36 (And.intro @e34 (And.intro @e34b (And.intro @e37 @hz2))))))))
     refine bH hcx cK [] [some 177,some 178,some 179,some 180,some 181,some 182,some 183,some 184,some 185,some 186,some 187,some 188,some 189,some 190,some 191,some 192,some 193,some 194,some 195,some 196,some 197,some 198,some 199,some 200,some 201,some 202,some 203,some 204,some 205] [] rfl rfl rfl rfl ?_ c8
     refine Tr.k [15,17,23,24,25,26,205] ?_
     refine bn rfl ?_
     refine Tr.skip ?_
     refine hK6 _ ?_
     have hy:=True.intro
     refine bG hcx [1000104] _ [] rfl rfl rfl ?_ cq
     first
     | ((refine ⟨[],⟨by decide,by decide,by decide⟩,j+1,⟨(by omega),O1⟩,?_,by simp only[bh,aC,aq,bf,bg,Option.map_some,Option.map_none,aI,bd,aB,ao,aK,aH,aZ,a0,a7,a8,aL,ba,af,ag,ah,aj,am,an,aJ,aA,↓reduceIte,Nat.reduceEqDiff,reduceCtorEq,Nat.reduceAdd,Nat.zero_add,Nat.one_ne_zero,Nat.zero_ne_one,bc,bj,ar,au,bm,aw,ax] <;>rfl⟩);(simp only[bE,aP,↓bD,aE,aQ,aF,aR,aS,and_true,true_and,bh,aC,aq,bf,bg,Option.map_some,Option.map_none,aI,bd,aB,ao,aK,aH,aZ,a0,a7,a8,aL,ba,af,ag,ah,aj,am,an,aJ,aA,↓reduceIte,Nat.reduceEqDiff,reduceCtorEq,Nat.reduceAdd,Nat.zero_add,Nat.one_ne_zero,Nat.zero_ne_one,bc,bj,ar,au,bm,aw,ax];all_goals (repeat' first|exact CLe.refl _|exact True.intro| (with_reducible refine And.intro ?_ ?_)));(all_goals (first| (rw[cU];exact CLe.refl _) |exact CLe.refl _));(done))
    have hz:=True.intro
    have hy:=And.intro @hN (And.intro @e37 @hz)
    refine aa hcx [] [some 142,some 143,some 144,some 145,some 146,some 147,some 148,some 149,some 150,some 151,some 152,some 153,some 154,some 155,some 156] [] rfl rfl rfl ?_ cq
    refine Tr.k [15,17,23,24,25,26,156] ?_
    refine bn rfl ?_
    refine Tr.skip ?_
    refine hK13 _ ?_
    refine Tr.k [15,17,23,24,25,26] ?_
    have hy:=And.intro @hN (And.intro @hK (And.intro @hLL (And.intro @e30 @e32)))
    refine bH hcx cK [1000175,1000176] _ [] rfl rfl rfl rfl ?_ c8
    refine Tr.k [15,17,23,24,25,26,32,33] ?_
    by_cases g0:G.2=0
    ·
     by_cases g1:G.1=I
     ·
      have hz2:=True.intro
      have hy:=And.intro @hN (And.intro @hK (And.intro @hLL (And.intro @e18 (And.intro @e18b (And.intro @e36 (And.intro @e34 (And.intro @e34b (And.intro @e37 @hz2))))))))
      refine bH hcx cK [] [some 177,some 178,some 179,some 180,some 181,some 182,some 183,some 184,some 185,some 186,some 187,some 188,some 189,some 190,some 191,some 192,some 193,some 194,some 195,some 196,some 197,some 198,some 199,some 200,some 201,some 202,some 203,some 204,some 205] [] rfl rfl rfl rfl ?_ c8
      refine Tr.k [15,17,23,24,25,26,205] ?_
      refine bn rfl ?_
      refine Tr.skip ?_
      refine hK6 _ ?_
      have hy:=True.intro
      refine bG hcx [1000104] _ [] rfl rfl rfl ?_ cq
      first
      | ((refine ⟨[],⟨by decide,by decide,by decide⟩,j+1,⟨(by omega),O1⟩,?_,by simp only[bh,aC,aq,bf,bg,Option.map_some,Option.map_none,aI,bd,aB,ao,aK,aH,aZ,a0,a7,a8,aL,ba,af,ag,ah,aj,am,an,aJ,aA,↓reduceIte,Nat.reduceEqDiff,reduceCtorEq,Nat.reduceAdd,Nat.zero_add,Nat.one_ne_zero,Nat.zero_ne_one,bc,bj,ar,au,bm,aw,ax] <;>rfl⟩);(simp only[bE,aP,↓bD,aE,aQ,aF,aR,aS,and_true,true_and,bh,aC,aq,bf,bg,Option.map_some,Option.map_none,aI,bd,aB,ao,aK,aH,aZ,a0,a7,a8,aL,ba,af,ag,ah,aj,am,an,aJ,aA,↓reduceIte,Nat.reduceEqDiff,reduceCtorEq,Nat.reduceAdd,Nat.zero_add,Nat.one_ne_zero,Nat.zero_ne_one,bc,bj,ar,au,bm,aw,ax];all_goals (repeat' first|exact CLe.refl _|exact True.intro| (with_reducible refine And.intro ?_ ?_)));(all_goals (first| (rw[cU];exact CLe.refl _) |exact CLe.refl _));(done))
     have hz2:Z=true:= (cg g0).resolve_left g1
     have hy:=And.intro @hN (And.intro @hK (And.intro @hLL (And.intro @e18 (And.intro @e18b (And.intro @e36 (And.intro @e34 (And.intro @e34b (And.intro @e37 @hz2))))))))
     refine bH hcx cK [] [some 177,some 178,some 179,some 180,some 181,some 182,some 183,some 184,some 185,some 186,some 187,some 188,some 189,some 190,some 191,some 192,some 193,some 194,some 195,some 196,some 197,some 198,some 199,some 200,some 201,some 202,some 203,some 204,some 205] [] rfl rfl rfl rfl ?_ c8
     refine Tr.k [15,17,23,24,25,26,205] ?_
     refine bn rfl ?_
     refine Tr.skip ?_
     refine hK6 _ ?_
     have hy:=True.intro
     refine bG hcx [1000104] _ [] rfl rfl rfl ?_ cq
     first
     | ((refine ⟨[],⟨by decide,by decide,by decide⟩,j+1,⟨(by omega),O1⟩,?_,by simp only[bh,aC,aq,bf,bg,Option.map_some,Option.map_none,aI,bd,aB,ao,aK,aH,aZ,a0,a7,a8,aL,ba,af,ag,ah,aj,am,an,aJ,aA,↓reduceIte,Nat.reduceEqDiff,reduceCtorEq,Nat.reduceAdd,Nat.zero_add,Nat.one_ne_zero,Nat.zero_ne_one,bc,bj,ar,au,bm,aw,ax] <;>rfl⟩);(simp only[bE,aP,↓bD,aE,aQ,aF,aR,aS,and_true,true_and,bh,aC,aq,bf,bg,Option.map_some,Option.map_none,aI,bd,aB,ao,aK,aH,aZ,a0,a7,a8,aL,ba,af,ag,ah,aj,am,an,aJ,aA,↓reduceIte,Nat.reduceEqDiff,reduceCtorEq,Nat.reduceAdd,Nat.zero_add,Nat.one_ne_zero,Nat.zero_ne_one,bc,bj,ar,au,bm,aw,ax];all_goals (repeat' first|exact CLe.refl _|exact True.intro| (with_reducible refine And.intro ?_ ?_)));(all_goals (first| (rw[cU];exact CLe.refl _) |exact CLe.refl _));(done))
    have hz2:=True.intro
    have hy:=And.intro @hN (And.intro @hK (And.intro @hLL (And.intro @e18 (And.intro @e18b (And.intro @e36 (And.intro @e34 (And.intro @e34b (And.intro @e37 @hz2))))))))
    refine bH hcx cK [] [some 177,some 178,some 179,some 180,some 181,some 182,some 183,some 184,some 185,some 186,some 187,some 188,some 189,some 190,some 191,some 192,some 193,some 194,some 195,some 196,some 197,some 198,some 199,some 200,some 201,some 202,some 203,some 204,some 205] [] rfl rfl rfl rfl ?_ c8
    refine Tr.k [15,17,23,24,25,26,205] ?_
    refine bn rfl ?_
    refine Tr.skip ?_
    refine hK6 _ ?_
    have hy:=True.intro
    refine bG hcx [1000104] _ [] rfl rfl rfl ?_ cq
    first
    | ((refine ⟨[],⟨by decide,by decide,by decide⟩,j+1,⟨(by omega),O1⟩,?_,by simp only[bh,aC,aq,bf,bg,Option.map_some,Option.map_none,aI,bd,aB,ao,aK,aH,aZ,a0,a7,a8,aL,ba,af,ag,ah,aj,am,an,aJ,aA,↓reduceIte,Nat.reduceEqDiff,reduceCtorEq,Nat.reduceAdd,Nat.zero_add,Nat.one_ne_zero,Nat.zero_ne_one,bc,bj,ar,au,bm,aw,ax] <;>rfl⟩);(simp only[bE,aP,↓bD,aE,aQ,aF,aR,aS,and_true,true_and,bh,aC,aq,bf,bg,Option.map_some,Option.map_none,aI,bd,aB,ao,aK,aH,aZ,a0,a7,a8,aL,ba,af,ag,ah,aj,am,an,aJ,aA,↓reduceIte,Nat.reduceEqDiff,reduceCtorEq,Nat.reduceAdd,Nat.zero_add,Nat.one_ne_zero,Nat.zero_ne_one,bc,bj,ar,au,bm,aw,ax];all_goals (repeat' first|exact CLe.refl _|exact True.intro| (with_reducible refine And.intro ?_ ?_)));(all_goals (first| (rw[cU];exact CLe.refl _) |exact CLe.refl _));(done))
   have c2o:=c2
   replace c2:=Bool.eq_false_iff.2 c2
   have hy:=And.intro @hK @e35
   refine aa hcx [1000125] _ [] rfl rfl rfl ?_ cq
   refine Tr.k [15,17,23,24,25,26,27,28,29,30] ?_
   have hy:=And.intro @c2 @hng
   refine aa hcx [1000129] _ [] rfl rfl rfl ?_ cq
   refine Tr.k [15,17,23,24,25,26,27,28,29,30,31] ?_
   refine ae fun K14 hK14=> ?_
   have hy:= @hng
   refine aa hcx [] [some 130,some 131,some 132,some 133] [] rfl rfl rfl ?_ cq
   refine Tr.k [15,17,23,24,25,26,27,29,30,31,133] ?_
   refine bn rfl ?_
   refine Tr.skip ?_
   refine hK14 _ ?_
   refine Tr.k [15,17,23,24,25,26,29,31] ?_
   refine ae fun K15 hK15=> ?_
   by_cases b0:H.2.2=0
   ·
    have hz:=True.intro
    have hy:=And.intro @hN (And.intro @e37 @hz)
    refine aa hcx [] [some 142,some 143,some 144,some 145,some 146,some 147,some 148,some 149,some 150,some 151,some 152,some 153,some 154,some 155,some 156] [] rfl rfl rfl ?_ cq
    refine Tr.k [15,17,23,24,25,26,156] ?_
    refine bn rfl ?_
    refine Tr.skip ?_
    refine hK15 _ ?_
    refine Tr.k [15,17,23,24,25,26] ?_
    have hy:=And.intro @hN (And.intro @hK (And.intro @hLL (And.intro @e30 @e32)))
    refine bH hcx cK [1000175,1000176] _ [] rfl rfl rfl rfl ?_ c8
    refine Tr.k [15,17,23,24,25,26,32,33] ?_
    by_cases g0:G.2=0
    ·
     by_cases g1:G.1=I
     ·
      have hz2:=True.intro
      have hy:=And.intro @hN (And.intro @hK (And.intro @hLL (And.intro @e18 (And.intro @e18b (And.intro @e36 (And.intro @e34 (And.intro @e34b (And.intro @e37 @hz2))))))))
      refine bH hcx cK [] [some 177,some 178,some 179,some 180,some 181,some 182,some 183,some 184,some 185,some 186,some 187,some 188,some 189,some 190,some 191,some 192,some 193,some 194,some 195,some 196,some 197,some 198,some 199,some 200,some 201,some 202,some 203,some 204,some 205] [] rfl rfl rfl rfl ?_ c8
      refine Tr.k [15,17,23,24,25,26,205] ?_
      refine bn rfl ?_
      refine Tr.skip ?_
      refine hK6 _ ?_
      have hy:=True.intro
      refine bG hcx [1000104] _ [] rfl rfl rfl ?_ cq
      first
      | ((refine ⟨[],⟨by decide,by decide,by decide⟩,j+1,⟨(by omega),O1⟩,?_,by simp only[bh,aC,aq,bf,bg,Option.map_some,Option.map_none,aI,bd,aB,ao,aK,aH,aZ,a0,a7,a8,aL,ba,af,ag,ah,aj,am,an,aJ,aA,↓reduceIte,Nat.reduceEqDiff,reduceCtorEq,Nat.reduceAdd,Nat.zero_add,Nat.one_ne_zero,Nat.zero_ne_one,bc,bj,ar,au,bm,aw,ax] <;>rfl⟩);(simp only[bE,aP,↓bD,aE,aQ,aF,aR,aS,and_true,true_and,bh,aC,aq,bf,bg,Option.map_some,Option.map_none,aI,bd,aB,ao,aK,aH,aZ,a0,a7,a8,aL,ba,af,ag,ah,aj,am,an,aJ,aA,↓reduceIte,Nat.reduceEqDiff,reduceCtorEq,Nat.reduceAdd,Nat.zero_add,Nat.one_ne_zero,Nat.zero_ne_one,bc,bj,ar,au,bm,aw,ax];all_goals (repeat' first|exact CLe.refl _|exact True.intro| (with_reducible refine And.intro ?_ ?_)));(all_goals (first| (rw[cU];exact CLe.refl _) |exact CLe.refl _));(done))
     have hz2:Z=true:= (cg g0).resolve_left g1
     have hy:=And.intro @hN (And.intro @hK (And.intro @hLL (And.intro @e18 (And.intro @e18b (And.intro @e36 (And.intro @e34 (And.intro @e34b (And.intro @e37 @hz2))))))))
     refine bH hcx cK [] [some 177,some 178,some 179,some 180,some 181,some 182,some 183,some 184,some 185,some 186,some 187,some 188,some 189,some 190,some 191,some 192,some 193,some 194,some 195,some 196,some 197,some 198,some 199,some 200,some 201,some 202,some 203,some 204,some 205] [] rfl rfl rfl rfl ?_ c8
     refine Tr.k [15,17,23,24,25,26,205] ?_
     refine bn rfl ?_
     refine Tr.skip ?_
     refine hK6 _ ?_
     have hy:=True.intro
     refine bG hcx [1000104] _ [] rfl rfl rfl ?_ cq
     first
     | ((refine ⟨[],⟨by decide,by decide,by decide⟩,j+1,⟨(by omega),O1⟩,?_,by simp only[bh,aC,aq,bf,bg,Option.map_some,Option.map_none,aI,bd,aB,ao,aK,aH,aZ,a0,a7,a8,aL,ba,af,ag,ah,aj,am,an,aJ,aA,↓reduceIte,Nat.reduceEqDiff,reduceCtorEq,Nat.reduceAdd,Nat.zero_add,Nat.one_ne_zero,Nat.zero_ne_one,bc,bj,ar,au,bm,aw,ax] <;>rfl⟩);(simp only[bE,aP,↓bD,aE,aQ,aF,aR,aS,and_true,true_and,bh,aC,aq,bf,bg,Option.map_some,Option.map_none,aI,bd,aB,ao,aK,aH,aZ,a0,a7,a8,aL,ba,af,ag,ah,aj,am,an,aJ,aA,↓reduceIte,Nat.reduceEqDiff,reduceCtorEq,Nat.reduceAdd,Nat.zero_add,Nat.one_ne_zero,Nat.zero_ne_one,bc,bj,ar,au,bm,aw,ax];all_goals (repeat' first|exact CLe.refl _|exact True.intro| (with_reducible refine And.intro ?_ ?_)));(all_goals (first| (rw[cU];exact CLe.refl _) |exact CLe.refl _));(done))
    have hz2:=True.intro
    have hy:=And.intro @hN (And.intro @hK (And.intro @hLL (And.intro @e18 (And.intro @e18b (And.intro @e36 (And.intro @e34 (And.intro @e34b (And.intro @e37 @hz2))))))))
    refine bH hcx cK [] [some 177,some 178,some 179,some 180,some 181,some 182,some 183,some 184,some 185,some 186,some 187,some 188,some 189,some 190,some 191,some 192,some 193,some 194,some 195,some 196,some 197,some 198,some 199,some 200,some 201,some 202,some 203,some 204,some 205] [] rfl rfl rfl rfl ?_ c8
    refine Tr.k [15,17,23,24,25,26,205] ?_
    refine bn rfl ?_
    refine Tr.skip ?_
    refine hK6 _ ?_
    have hy:=True.intro
    refine bG hcx [1000104] _ [] rfl rfl rfl ?_ cq
    first
    | ((refine ⟨[],⟨by decide,by decide,by decide⟩,j+1,⟨(by omega),O1⟩,?_,by simp only[bh,aC,aq,bf,bg,Option.map_some,Option.map_none,aI,bd,aB,ao,aK,aH,aZ,a0,a7,a8,aL,ba,af,ag,ah,aj,am,an,aJ,aA,↓reduceIte,Nat.reduceEqDiff,reduceCtorEq,Nat.reduceAdd,Nat.zero_add,Nat.one_ne_zero,Nat.zero_ne_one,bc,bj,ar,au,bm,aw,ax] <;>rfl⟩);(simp only[bE,aP,↓bD,aE,aQ,aF,aR,aS,and_true,true_and,bh,aC,aq,bf,bg,Option.map_some,Option.map_none,aI,bd,aB,ao,aK,aH,aZ,a0,a7,a8,aL,ba,af,ag,ah,aj,am,an,aJ,aA,↓reduceIte,Nat.reduceEqDiff,reduceCtorEq,Nat.reduceAdd,Nat.zero_add,Nat.one_ne_zero,Nat.zero_ne_one,bc,bj,ar,au,bm,aw,ax];all_goals (repeat' first|exact CLe.refl _|exact True.intro| (with_reducible refine And.intro ?_ ?_)));(all_goals (first| (rw[cU];exact CLe.refl _) |exact CLe.refl _));(done))
   have hz:=True.intro
   have hy:=And.intro @hN (And.intro @e37 @hz)
   refine aa hcx [] [some 142,some 143,some 144,some 145,some 146,some 147,some 148,some 149,some 150,some 151,some 152,some 153,some 154,some 155,some 156] [] rfl rfl rfl ?_ cq
   refine Tr.k [15,17,23,24,25,26,156] ?_
   refine bn rfl ?_
   refine Tr.skip ?_
   refine hK15 _ ?_
   refine Tr.k [15,17,23,24,25,26] ?_
   have hy:=And.intro @hN (And.intro @hK (And.intro @hLL (And.intro @e30 @e32)))
   refine bH hcx cK [1000175,1000176] _ [] rfl rfl rfl rfl ?_ c8
   refine Tr.k [15,17,23,24,25,26,32,33] ?_
   by_cases g0:G.2=0
   ·
    by_cases g1:G.1=I
    ·
     have hz2:=True.intro
     have hy:=And.intro @hN (And.intro @hK (And.intro @hLL (And.intro @e18 (And.intro @e18b (And.intro @e36 (And.intro @e34 (And.intro @e34b (And.intro @e37 @hz2))))))))
     refine bH hcx cK [] [some 177,some 178,some 179,some 180,some 181,some 182,some 183,some 184,some 185,some 186,some 187,some 188,some 189,some 190,some 191,some 192,some 193,some 194,some 195,some 196,some 197,some 198,some 199,some 200,some 201,some 202,some 203,some 204,some 205] [] rfl rfl rfl rfl ?_ c8
     refine Tr.k [15,17,23,24,25,26,205] ?_
     refine bn rfl ?_
     refine Tr.skip ?_
     refine hK6 _ ?_
     have hy:=True.intro
     refine bG hcx [1000104] _ [] rfl rfl rfl ?_ cq
     first
     | ((refine ⟨[],⟨by decide,by decide,by decide⟩,j+1,⟨(by omega),O1⟩,?_,by simp only[bh,aC,aq,bf,bg,Option.map_some,Option.map_none,aI,bd,aB,ao,aK,aH,aZ,a0,a7,a8,aL,ba,af,ag,ah,aj,am,an,aJ,aA,↓reduceIte,Nat.reduceEqDiff,reduceCtorEq,Nat.reduceAdd,Nat.zero_add,Nat.one_ne_zero,Nat.zero_ne_one,bc,bj,ar,au,bm,aw,ax] <;>rfl⟩);(simp only[bE,aP,↓bD,aE,aQ,aF,aR,aS,and_true,true_and,bh,aC,aq,bf,bg,Option.map_some,Option.map_none,aI,bd,aB,ao,aK,aH,aZ,a0,a7,a8,aL,ba,af,ag,ah,aj,am,an,aJ,aA,↓reduceIte,Nat.reduceEqDiff,reduceCtorEq,Nat.reduceAdd,Nat.zero_add,Nat.one_ne_zero,Nat.zero_ne_one,bc,bj,ar,au,bm,aw,ax];all_goals (repeat' first|exact CLe.refl _|exact True.intro| (with_reducible refine And.intro ?_ ?_)));(all_goals (first| (rw[cU];exact CLe.refl _) |exact CLe.refl _));(done))
    have hz2:Z=true:= (cg g0).resolve_left g1
    have hy:=And.intro @hN (And.intro @hK (And.intro @hLL (And.intro @e18 (And.intro @e18b (And.intro @e36 (And.intro @e34 (And.intro @e34b (And.intro @e37 @hz2))))))))
    refine bH hcx cK [] [some 177,some 178,some 179,some 180,some 181,some 182,some 183,some 184,some 185,some 186,some 187,some 188,some 189,some 190,some 191,some 192,some 193,some 194,some 195,some 196,some 197,some 198,some 199,some 200,some 201,some 202,some 203,some 204,some 205] [] rfl rfl rfl rfl ?_ c8
    refine Tr.k [15,17,23,24,25,26,205] ?_
    refine bn rfl ?_
    refine Tr.skip ?_
    refine hK6 _ ?_
    have hy:=True.intro
    refine bG hcx [1000104] _ [] rfl rfl rfl ?_ cq
    first
    | ((refine ⟨[],⟨by decide,by decide,by decide⟩,j+1,⟨(by omega),O1⟩,?_,by simp only[bh,aC,aq,bf,bg,Option.map_some,Option.map_none,aI,bd,aB,ao,aK,aH,aZ,a0,a7,a8,aL,ba,af,ag,ah,aj,am,an,aJ,aA,↓reduceIte,Nat.reduceEqDiff,reduceCtorEq,Nat.reduceAdd,Nat.zero_add,Nat.one_ne_zero,Nat.zero_ne_one,bc,bj,ar,au,bm,aw,ax] <;>rfl⟩);(simp only[bE,aP,↓bD,aE,aQ,aF,aR,aS,and_true,true_and,bh,aC,aq,bf,bg,Option.map_some,Option.map_none,aI,bd,aB,ao,aK,aH,aZ,a0,a7,a8,aL,ba,af,ag,ah,aj,am,an,aJ,aA,↓reduceIte,Nat.reduceEqDiff,reduceCtorEq,Nat.reduceAdd,Nat.zero_add,Nat.one_ne_zero,Nat.zero_ne_one,bc,bj,ar,au,bm,aw,ax];all_goals (repeat' first|exact CLe.refl _|exact True.intro| (with_reducible refine And.intro ?_ ?_)));(all_goals (first| (rw[cU];exact CLe.refl _) |exact CLe.refl _));(done))
   have hz2:=True.intro
   have hy:=And.intro @hN (And.intro @hK (And.intro @hLL (And.intro @e18 (And.intro @e18b (And.intro @e36 (And.intro @e34 (And.intro @e34b (And.intro @e37 @hz2))))))))
   refine bH hcx cK [] [some 177,some 178,some 179,some 180,some 181,some 182,some 183,some 184,some 185,some 186,some 187,some 188,some 189,some 190,some 191,some 192,some 193,some 194,some 195,some 196,some 197,some 198,some 199,some 200,some 201,some 202,some 203,some 204,some 205] [] rfl rfl rfl rfl ?_ c8
   refine Tr.k [15,17,23,24,25,26,205] ?_
   refine bn rfl ?_
   refine Tr.skip ?_
   refine hK6 _ ?_
   have hy:=True.intro
   refine bG hcx [1000104] _ [] rfl rfl rfl ?_ cq
   first
   | ((refine ⟨[],⟨by decide,by decide,by decide⟩,j+1,⟨(by omega),O1⟩,?_,by simp only[bh,aC,aq,bf,bg,Option.map_some,Option.map_none,aI,bd,aB,ao,aK,aH,aZ,a0,a7,a8,aL,ba,af,ag,ah,aj,am,an,aJ,aA,↓reduceIte,Nat.reduceEqDiff,reduceCtorEq,Nat.reduceAdd,Nat.zero_add,Nat.one_ne_zero,Nat.zero_ne_one,bc,bj,ar,au,bm,aw,ax] <;>rfl⟩);(simp only[bE,aP,↓bD,aE,aQ,aF,aR,aS,and_true,true_and,bh,aC,aq,bf,bg,Option.map_some,Option.map_none,aI,bd,aB,ao,aK,aH,aZ,a0,a7,a8,aL,ba,af,ag,ah,aj,am,an,aJ,aA,↓reduceIte,Nat.reduceEqDiff,reduceCtorEq,Nat.reduceAdd,Nat.zero_add,Nat.one_ne_zero,Nat.zero_ne_one,bc,bj,ar,au,bm,aw,ax];all_goals (repeat' first|exact CLe.refl _|exact True.intro| (with_reducible refine And.intro ?_ ?_)));(all_goals (first| (rw[cU];exact CLe.refl _) |exact CLe.refl _));(done))
  refine Tr.exit ?_
  refine hK4 _ ?_
  refine Tr.k [15,17,23,24,25] ?_
  refine bG hcx [1000098] _ [] rfl rfl rfl ?_ cq
  first
  | ((refine ⟨[],⟨by decide,by decide,by decide⟩,i+1,⟨(by omega),O1⟩,?_,by simp only[bh,aC,aq,bf,bg,Option.map_some,Option.map_none,aI,bd,aB,ao,aK,aH,aZ,a0,a7,a8,aL,ba,af,ag,ah,aj,am,an,aJ,aA,↓reduceIte,Nat.reduceEqDiff,reduceCtorEq,Nat.reduceAdd,Nat.zero_add,Nat.one_ne_zero,Nat.zero_ne_one,bc,bj,ar,au,bm,aw,ax] <;>rfl⟩);(simp only[bE,aP,↓bD,aE,aQ,aF,aR,aS,and_true,true_and,bh,aC,aq,bf,bg,Option.map_some,Option.map_none,aI,bd,aB,ao,aK,aH,aZ,a0,a7,a8,aL,ba,af,ag,ah,aj,am,an,aJ,aA,↓reduceIte,Nat.reduceEqDiff,reduceCtorEq,Nat.reduceAdd,Nat.zero_add,Nat.one_ne_zero,Nat.zero_ne_one,bc,bj,ar,au,bm,aw,ax];all_goals (repeat' first|exact CLe.refl _|exact True.intro| (with_reducible refine And.intro ?_ ?_)));(all_goals (first| (rw[cU];exact CLe.refl _) |exact CLe.refl _));(done))
 refine Tr.exit ?_
 refine hK2 _ ?_
 refine Tr.k [] ?_
 refine aa hcx [1000206] _ [] rfl rfl rfl ?_ cq
 exact Tr.ret Vh
end Go.Sx
