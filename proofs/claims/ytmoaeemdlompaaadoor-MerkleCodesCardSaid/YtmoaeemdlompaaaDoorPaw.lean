/-
   And what follows.
-/
import Derived.Test.YtmoaeemdlompaaaDoorPav
import Derived.Test.YtmoaeemdlompaaaDoorPan
import Derived.Test.YtmoaeemdlompaaaDoorPat
set_option linter.unusedSimpArgs false
set_option linter.unusedVariables false
namespace Go.Sx
open Go.RowKit Go.Proofs
set_option maxRecDepth 100000
set_option maxHeartbeats 8000000
theorem agO (x:Int): (List.map Int.ofNat (List.replicate 1 0)).set 0 x= [x]:=rfl
theorem abW:dV 2 (cl nC (List.replicate 2 0)) [(0,.val (nI 0)),(1,.val (nI 1))] =some (vp (sl iC .full [0,1])):=rfl
theorem agP (x:List UInt8): (List.replicate 1 []).set 0 x= [x]:=rfl
theorem fy {p:Prop}(e:p:=by intro KZ hZ;simp -implicitDefEqProofs (maxSteps:=2000000) (disch:=first|omega| (simp only[go_sem,lA,lD,lT,hLl,hEl,hTl,hWl,hTn] <;>omega) |decide) only[go_sem,↓reduceIte,Nat.reduceEqDiff,reduceCtorEq,Nat.reduceLT,Nat.reduceBEq,Nat.reduceAdd,eq_self,decide_true,decide_false,not_true_eq_false,not_false_eq_true,h19,e10,e20,e23,e28,List.replicate_zero,List.nil_append,q1,hy];with_reducible exact hZ):p:=e
theorem tT {p:Prop}(e:p:=by intro KZ hZ;simp -implicitDefEqProofs (maxSteps:=2000000) (disch:=first|omega| (simp only[go_sem,lA,lD,lT,hLl,hEl,hTl,hWl,hTn] <;>omega) |decide) only[go_sem,↓reduceIte,Nat.reduceEqDiff,reduceCtorEq,Nat.reduceLT,Nat.reduceBEq,Nat.reduceAdd,eq_self,decide_true,decide_false,not_true_eq_false,not_false_eq_true,h19,e10,e20,e23,e28,List.replicate_zero,List.nil_append,q1,hy];with_reducible refine And.intro ?_ hZ;first|exact rfl|decide):p:=e
theorem abX {p:Prop}(e:p:=by simp -implicitDefEqProofs (disch:=first|omega| (simp only[go_sem,lA,lD,lT,hLl,hEl,hTl,hWl,hTn] <;>omega) |decide) only[go_sem,↓reduceIte,Nat.reduceEqDiff,reduceCtorEq];all_goals (rfl)):p:=e
theorem fc9 {gl:Nat→C}{M:Nat}{pu:Nat→List C→Option C}(hcx:CxOK (af gl M pu))(h10:∀l:List Int,LI l→pu 10 [sl iC .no l] =some (sl eC (.own 2) (iZ l)))(h17:∀ (n:Int) (m:Nat),-9223372036854775808≤n∧n≤9223372036854775807∧0< m∧m≤9223372036854775807→pu 17 [.val (.int .i64 n),.val (nI m)] =some (.val (nI (aG n m))))(h19:pu 19 [] =some (.val (.bool true)))(h20:∀ (l:List ab) (n:Int),l.length≤1000000→(∀i,i< l.length→(gt l i).1.length< 1000000)→(-9223372036854775808≤n∧n≤9223372036854775807)→pu 20 [sl eC .no l,.val (.int .i64 n)] =some (.val (str (o8 l n))))(h23:∀ (l:List ab) (k:List UInt8),LB l→pu 23 [sl eC .no l,.val (str k)] =some (.tup [.agg [.val (nI (bR l k).1.1),.val (nI (bR l k).1.2.1),sl eC .no (bR l k).1.2.2.1,sl dC .no (bR l k).1.2.2.2],.val (nI (bR l k).2)]))(h26:∀ (f z:Int) (l:List ab) (S:List ba) (f' z':Int) (l':List ab) (S':List ba),l.length≤1000000→l'.length≤1000000→S.length≤1000000→pu 26 [.agg [.val (.int .i64 f),.val (.int .i64 z),sl eC .no l,sl dC .no S],.agg [.val (.int .i64 f'),.val (.int .i64 z'),sl eC .no l',sl dC .no S']] =some (.val (.bool (decide (f=f'∧z=z'∧l=l'∧S=S')))))(h27:∀ (f z:Int) (l:List ab) (S:List ba),l.length≤1000000→pu 27 [.agg [.val (.int .i64 f),.val (.int .i64 z),sl eC .no l,sl dC .no S]] =some (.agg [.val (.int .i64 f),.val (.int .i64 z),sl eC .no l,sl dC .no S]))(h28:∀ (f z:Int) (l:List ab) (S:List ba) (w y:Int),(-9223372036854775808≤w∧w≤9223372036854775807)→(-9223372036854775808≤y∧y≤9223372036854775807)→l.length≤1000000→(∀i,i< l.length→(gt l i).1.length≤1000000∧(gt l i).2.length≤1000000)→S.length≤1000000→pu 28 [.agg [.val (.int .i64 f),.val (.int .i64 z),sl eC .no l,sl dC .no S],.val (.int .i64 w),.val (.int .i64 y)] =some (.agg [.val (.int .i64 (bZ (f,z,l,S) w y).1),.val (.int .i64 (bZ (f,z,l,S) w y).2.1),sl eC .no (bZ (f,z,l,S) w y).2.2.1,sl dC .no (bZ (f,z,l,S) w y).2.2.2]))(h30:∀ (f z:Int) (l:List ab) (S:List ba),l.length≤1000000→pu 30 [.agg [.val (.int .i64 f),.val (.int .i64 z),sl eC .no l,sl dC .no S]] =some (.agg [.val (.int .i64 f),.val (.int .i64 z),sl eC .no l,sl dC .no S]))(h40:∀ (p:fB),PB 10000 p→pu 40 [.agg [.val (.int .i64 p.1),.val (.int .i64 p.2.1),sl eC .no p.2.2.1,sl dC .no p.2.2.2]] =some (sl bC (.own 1) (dv p)))(h41:∀x y:List UInt8,x.length< 9223372036854775807→pu 41 [sl bC .no x,sl bC .no y] =some (.val (.bool (decide (x=y)))))(h42:∀ (p:fB),PB 10000 p→pu 42 [.agg [.val (.int .i64 p.1),.val (.int .i64 p.2.1),sl eC .no p.2.2.1,sl dC .no p.2.2.2]] =some (sl bC (.own 1) (dv p)))(h43:∀ (b:List UInt8),b.length< 1099511627776→pu 43 [sl bC .no b] =some (.tup [.agg [.val (.int .i64 (bF b).1.1),.val (.int .i64 (bF b).1.2.1),sl eC .no (bF b).1.2.2.1,sl dC .no (bF b).1.2.2.2],.val (nI (bF b).2.1),.val (nI (bF b).2.2)]))(h44:∀ (b:List UInt8) (n:Nat),n≤1000000→b.length< 9223372036854775808→pu 44 [sl bC .no b,.val (nI n)] =some (sl bC (.own 1) (b.take n)))(h45:∀ (l:List Int),l.length< 1099511627776→(∀x∈l,-9223372036854775808≤x∧x≤9223372036854775807)→pu 45 [sl iC .no l] =some (sl bC (.own 1) (bV l)))(h46:∀ (l:List (List UInt8)),l.length< 1099511627776→l.flatten.length< 1099511627776→pu 46 [sl sC .no l] =some (sl bC (.own 1) (cf l)))(h47:∀ (b:List UInt8),b.length< 1099511627776→pu 47 [sl bC .no b] =some (.tup [.agg [.val (.int .i64 (bF b).1.1),.val (.int .i64 (bF b).1.2.1),sl eC .no (bF b).1.2.2.1,sl dC .no (bF b).1.2.2.2],.val (nI (bF b).2.1),.val (nI (bF b).2.2)]))(l:List Int)(k w u t:Int)(raw:List UInt8)(hl:LI l)(hk: -9223372036854775808≤k∧k≤9223372036854775807)(hww: -9223372036854775808≤w∧w≤9223372036854775807)(huu: -9223372036854775808≤u∧u≤9223372036854775807)(ht: -9223372036854775808≤t∧t≤9223372036854775807)(hraw:raw.length< 9223372036854775808):FC Tryd.prog gl 9 [sl iC .no l,.val (.int .i64 k),.val (.int .i64 w),.val (.int .i64 u),.val (.int .i64 t),sl bC .no raw] [] (.val (.bool true)) []:=by
 replace hcx:=hcx.reN (M:=188)
 refine aB (cx:=af gl 188 pu) (rs:=[.tmp 12]) rfl Tryd.func9 rfl rfl rfl (by simp only[List.length_cons,List.length_nil];decide) (by simp only[go_sem]) ?_
 simp only[bq,go_sem]
 have q1:=True.intro
 have hy:=True.intro
 have hw:fo w:=hww
 have hu:fo u:=huu
 obtain ⟨X,hX⟩:∃X,iZ l=X:=⟨_,rfl⟩
 have lv:=Gk l
 have hv:=QI l
 rw[hX] at lv hv
 have szX:∀i,i< X.length→(gt X i).1.length≤42∧(gt X i).2.length≤42:=fun i hi=>by have:=lv.2 i hi;omega
 have lbX:LB X:=Et ⟨by omega,fun i hi=>by have:=szX i hi;omega⟩
 have e10:pu 10 [sl iC .no l] =some (sl eC (.own 2) X):=(h10 l hl).trans (by rw[hX])
 have e20:=h20 X k (by omega) (fun j hj=>by have:=szX j hj;omega) hk
 obtain ⟨A,hA⟩:∃A,o8 X k=A:=⟨_,rfl⟩
 rw[hA] at e20
 obtain ⟨P,hP⟩:∃P,(bR X A).1=P:=⟨_,rfl⟩
 have bP:PB 42 (l4 P):=by rw[←hP];exact J7 (by omega) szX hv A
 have e23:=h23 X A lbX
 rw[hP] at e23
 have e28:pu 28 [.agg [.val (nI P.1),.val (nI P.2.1),sl eC .no P.2.2.1,sl dC .no P.2.2.2],.val (.int .i64 w),.val (.int .i64 u)] =some (.agg (pC (bZ (l4 P) w u))):=h28 (l4 P).1 (l4 P).2.1 (l4 P).2.2.1 (l4 P).2.2.2 w u hw hu (by have:=bP.2.2.1;omega) (fun i hi=>by have:=bP.2.2.2.1 i hi;omega) (by have:=bP.2.2.2.2;omega)
 obtain ⟨O,hO⟩:∃O,bZ (l4 P) w u=O:=⟨_,rfl⟩
 rw[hO] at e28
 have bO:PB 44 O:=by rw[←hO];exact QL bP hu
 replace e28:pu 28 [.agg [.val (nI P.1),.val (nI P.2.1),sl eC .no P.2.2.1,sl dC .no P.2.2.2],.val (.int .i64 w),.val (.int .i64 u)] =some (.agg [.val (.int .i64 O.1),.val (.int .i64 O.2.1),sl eC .no O.2.2.1,sl dC .no O.2.2.2]):=e28
 obtain ⟨LC,hLC⟩:∃LC,cl pC [l4 P,O]++(zR++zZ u w) =LC:=⟨_,rfl⟩
 have hbs:=fun (v:TypeDesc) (yy:Nat) =>VO v yy _ rfl (l4 P) O u w
 rw[hLC] at hbs
 replace hbs:∀ (v:TypeDesc)(yy:Nat),j6 (some ⟨v,4,yy,[nI 0,nI 0,.slice none 0 0,.slice none 0 0]⟩) 4 [(0,.agg [.val (nI P.1),.val (nI P.2.1),sl eC .no P.2.2.1,sl dC .no P.2.2.2]),(1,.agg [.val (.int .i64 O.1),.val (.int .i64 O.2.1),sl eC .no O.2.2.1,sl dC .no O.2.2.2]),(2,.agg [.val (nI 0),.val (nI 0),.val (.slice none 0 0),.val (.slice none 0 0)]),(3,.agg [.val (.int .i64 u),.val (.int .i64 w),.val (.slice none 0 0),.val (.slice none 0 0)])] =some (vp (.sl .full 4 LC)):=hbs
 obtain ⟨LP,hLP⟩:∃LP,[l4 P,O,Ew,(u,w,[],[])] =LP:=⟨_,rfl⟩
 have hLe:CLe (.sl .full 4 LC) (sl pC .full LP):=by rw[←hLC,←hLP];exact VP (l4 P) O u w
 have hLl:LP.length=4:=by rw[←hLP];rfl
 have hLb:∀p∈LP,PB 50 p:=by
  rw[←hLP]
  simp only[List.forall_mem_cons]
  exact ⟨bP.mono (by omega),bO.mono (by omega),G6 50,QT 50 hu hw,fun _ h=>absurd h (List.not_mem_nil)⟩
 have hEl:=True.intro
 have hTl:=True.intro
 have hTn:=True.intro
 have hWl:=True.intro
 refine Tr.w hcx [] _ [] rfl rfl rfl ?_ fy
 refine Tr.w hcx [1000032] _ [] rfl rfl rfl ?_ fy
 refine Tr.k [1,2,3,4,5,13] ?_
 refine Tr.w hcx [1000040] _ [none] rfl rfl rfl ?_ fy
 refine Tr.k [2,3,4,5,14] ?_
 have hy:= @hbs
 refine Tr.wD hcx ct [1000050] _ [] rfl rfl rfl rfl ?_ tT
 refine Tr.k [3,4,5,16] ?_
 refine aa fun K1 hK1=>?_
 refine Tr.live [(3,.val (.int .i64 u)),(4,.val (.int .i64 t)),(5,sl bC .no raw),(16,sl pC .full LP)] (by simp only[aK,aZ,↓aY,↓reduceIte,Nat.reduceEqDiff,and_true];exact ⟨CLe.refl _,CLe.refl _,CLe.refl _,hLe⟩) ?_
 refine oY hcx [] ?_
 simp only[lK]
 have hy:=True.intro
 refine Tr.w hcx [] _ [] rfl rfl rfl ?_ fy
 refine Tr.k [3,4,5,16,17] ?_
 refine Tr.blk ?_
 refine tl hcx (α:=Nat) (fun a=>[(3,?v3_1),(4,?v4_1),(5,?v5_1),(16,?v16_1),(17,.val (nI a))]) (fun a=>[]) (fun a=>a≤4) (fun a=>4 - a) (0) (Nat.zero_le _) ?le_1 ?hh_1 ?bd_1
 case hh_1=>exact rfl
 case le_1=>exact LT
 rintro i hi
 refine aa fun K2 hK2=>?_
 refine Tr.w hcx [] _ [] rfl rfl rfl ?_ fy
 refine aq rfl (fun hc54=>?_) (fun hc54=>?_)
 ·
  obtain ⟨N,hN⟩:∃N,gt LP i=N:=⟨_,rfl⟩
  have bN:PB 50 N:=by rw[←hN,GI (by omega)];exact hLb _ (List.getElem_mem _)
  have e30:pu 30 [.agg (pC N)] =some (.agg (pC N)):=h30 N.1 N.2.1 N.2.2.1 N.2.2.2 (by have:=bN.2.2.1;omega)
  have e27:pu 27 [.agg (pC N)] =some (.agg (pC N)):=h27 N.1 N.2.1 N.2.2.1 N.2.2.2 (by have:=bN.2.2.1;omega)
  have e26:pu 26 [.agg (pC N),.agg (pC N)] =some (.val (.bool true)):=(h26 N.1 N.2.1 N.2.2.1 N.2.2.2 N.1 N.2.1 N.2.2.1 N.2.2.2 (by have:=bN.2.2.1;omega) (by have:=bN.2.2.1;omega) (by have:=bN.2.2.2.2;omega)).trans (by simp)
  have e40:pu 40 [.agg (pC N)] =_:=h40 N (bN.mono (by omega))
  have e42:pu 42 [.agg (pC N)] =_:=h42 N (bN.mono (by omega))
  have hD:=J4 bN (by omega) (raw.take 30)
  have hB:=fun i=>J5 bN (by omega) i
  have hEp:=QP N
  have hEl:=VQ bN
  obtain ⟨E,hE⟩:∃E,dv N=E:=⟨_,rfl⟩
  rw[hE] at e40 e42 hD hB hEp hEl
  have e41:pu 41 [sl bC .no E,sl bC .no E] =some (.val (.bool true)):=(h41 E E (by omega)).trans (by simp)
  have eE0: (E.length=0) =False:=eq_false (by omega)
  have e44a:=h44 raw 30 (by omega) hraw
  have e44b:=h44 raw 60 (by omega) hraw
  have e43:=h43 (E++raw.take 30) (by rw[List.length_append,List.length_take];omega)
  rw[hD] at e43
  have e17:=h17 t E.length (by omega)
  have hAl:=dx t (m:=E.length) hEp
  obtain ⟨a,ha⟩:∃a,aG t E.length=a:=⟨_,rfl⟩
  rw[ha] at e17 hAl
  obtain ⟨Bt,hBt⟩:∃Z,E.set a (gt E a ^^^ UInt8.ofNat (u % 256).toNat) =Z:=⟨_,rfl⟩
  have hBl:Bt.length=E.length:=by rw[←hBt,List.length_set]
  have hfz:jZ (cl bC Bt) E.length (1,5) =sl bC .no Bt:=by
   rw[←hBl];exact jF bC 5 Bt Bt.length rfl
  have e45a:=h45 [u] (by simp) (by simp only[List.forall_mem_cons];exact ⟨huu,fun _ h=>absurd h (List.not_mem_nil)⟩)
  have e45b:=h45 [0,1] (by decide) (by simp only[List.forall_mem_cons];exact ⟨by decide,by decide,fun _ h=>absurd h (List.not_mem_nil)⟩)
  have e46:=h46 [[97]] (by decide) (by decide)
  have hw1: (bV [u]).length≤18:=by
   have h1:=gJ u huu
   have h2:=d8 ([u].length) (by simp)
   unfold bV;simp only[List.length_append,List.flatMap_cons,List.flatMap_nil,List.append_nil] at h2 ⊢;omega
  have hw2:=vl 0 1 (by unfold fo;decide) (by unfold fo;decide)
  have hw3: (cf [[97]]).length≤20:=Nat.le_trans (zU (l:=[[97]]) (by decide) (by decide)) (by decide)
  obtain ⟨V1,hV1⟩:∃V,bV [u] =V:=⟨_,rfl⟩
  obtain ⟨V2,hV2⟩:∃V,bV [0,1] =V:=⟨_,rfl⟩
  obtain ⟨V3,hV3⟩:∃V,cf [[97]] =V:=⟨_,rfl⟩
  rw[hV1] at e45a hw1
  rw[hV2] at e45b hw2
  rw[hV3] at e46 hw3
  have hWl:=And.intro hw1 (And.intro hw2 hw3)
  obtain ⟨TS,hTS⟩:∃TS,[Bt,E.take a,raw.take 60,V1++V3,V2++V3] =TS:=⟨_,rfl⟩
  have hTn:TS.length=5:=by rw[←hTS];rfl
  have hTb:∀x∈TS,x.length≤20100:=by
   rw[←hTS]
   simp only[List.forall_mem_cons,List.length_append,List.length_take]
   exact ⟨by omega,by omega,by omega,by omega,by omega,fun _ h=>absurd h (List.not_mem_nil)⟩
  have hT1: (bF (gt TS 1)).2.2≠0:=by rw[←hTS];exact hB a hAl
  replace e27:pu 27 [.agg [.val (.int .i64 N.1),.val (.int .i64 N.2.1),sl eC .no N.2.2.1,sl dC .no N.2.2.2]] =some (.agg [.val (.int .i64 N.1),.val (.int .i64 N.2.1),sl eC .no N.2.2.1,sl dC .no N.2.2.2]):=e27
  have e26x:pu 26 [.agg [.val (.int .i64 N.1),.val (.int .i64 N.2.1),sl eC .no N.2.2.1,sl dC .no N.2.2.2],.agg (pC N)] =some (.val (.bool true)):=e26
  replace e26:pu 26 [.agg [.val (.int .i64 N.1),.val (.int .i64 N.2.1),sl eC .no N.2.2.1,sl dC .no N.2.2.2],.agg [.val (.int .i64 N.1),.val (.int .i64 N.2.1),sl eC .no N.2.2.1,sl dC .no N.2.2.2]] =some (.val (.bool true)):=e26
  refine Tr.skip ?_
  refine hK2 _ ?_
  refine Tr.k [3,4,5,16,17] ?_
  refine aa fun K3 hK3=>?_
  refine Tr.blk ?_
  have hy:=And.intro @hN (And.intro @e30 @e40)
  refine Tr.w hcx [1000062] _ [] rfl rfl rfl ?_ fy
  refine Tr.k [3,4,5,16,17,18] ?_
  refine aa fun K4 hK4=>?_
  have hy:=And.intro @hN (And.intro @e42 (And.intro @e41 @eE0))
  refine Tr.w hcx [] [some 63,some 64,some 65,some 66,some 67,some 68,some 69,some 70,some 71,some 72,some 73,some 74,some 75] [] rfl rfl rfl ?_ fy
  refine Tr.k [3,4,5,16,17,18,75] ?_
  refine bc rfl ?_
  refine Tr.skip ?_
  refine hK4 _ ?_
  refine Tr.k [3,4,5,16,17,18] ?_
  have hy:=And.intro @e44a @e43
  refine Tr.w hcx [77,79,1000085,1000086] _ [none] rfl rfl rfl ?_ fy
  refine Tr.k [3,4,5,16,17,18,19,20,21] ?_
  refine aa fun K5 hK5=>?_
  have hy:=And.intro @hN (And.intro @e27 (And.intro @e26 @e26x))
  refine Tr.wD hcx ct [] [some 87,some 88,some 89,some 90,some 91,some 92,some 93,some 94,some 95,some 96,some 97,some 98,some 99,some 100,some 101,some 102,some 103,some 104] [] rfl rfl rfl rfl ?_ tT
  refine Tr.k [3,4,5,16,17,18,104] ?_
  refine bc rfl ?_
  refine Tr.skip ?_
  refine hK5 _ ?_
  refine Tr.k [3,4,5,16,17,18] ?_
  refine Tr.k [3,4,5,16,17,18] ?_
  refine oY hcx [] ?_
  simp only[lK]
  have hy:=True.intro
  refine afh hcx [107] [105,1000107] _ [] rfl rfl rfl ?_ fy
  refine Tr.k [3,4,5,16,17,18,22] ?_
  have hy:=And.intro @e17 @hBt
  refine Tr.w hcx [] _ [] rfl rfl rfl ?_ fy
  refine Tr.k [3,4,5,16,17,18,22] ?_
  refine bW hcx 0 (cl bC Bt) ?_
  simp only[QO,hfz]
  refine oY hcx [] ?_
  try simp only[lK]
  have hy:=And.intro @e17 (And.intro @e44b (And.intro @e45a (And.intro @e45b (And.intro @e46 (And.intro @agO (And.intro @agP (And.intro @EA (And.intro @abW @hTS))))))))
  refine Tr.wD hcx ct [130,135,1000139] _ [] rfl rfl rfl rfl ?_ tT
  refine Tr.k [3,4,5,16,17,23] ?_
  have hy:=True.intro
  refine Tr.w hcx [] _ [] rfl rfl rfl ?_ fy
  refine Tr.k [3,4,5,16,17,23,24] ?_
  refine Tr.blk ?_
  refine tl hcx (α:=Nat) (fun a=>[(3,?v3_2),(4,?v4_2),(5,?v5_2),(16,?v16_2),(17,?v17_2),(23,?v23_2),(24,.val (nI a))]) (fun a=>[]) (fun a=>a≤5) (fun a=>5 - a) (0) (Nat.zero_le _) ?le_2 ?hh_2 ?bd_2
  case hh_2=>exact rfl
  case le_2=>exact LT
  rintro j hj
  refine aa fun K6 hK6=>?_
  refine Tr.w hcx [] _ [] rfl rfl rfl ?_ fy
  refine Tr.k [3,4,5,16,17,23,24,143] ?_
  refine aq rfl (fun hc143=>?_) (fun hc143=>?_)
  ·
   obtain ⟨T,hT⟩:∃T,gt TS j=T:=⟨_,rfl⟩
   have hTl:T.length≤20100:=by rw[←hT,GI (by omega)];exact hTb _ (List.getElem_mem _)
   have e43b:=h43 T (by omega)
   have e47b:=h47 T (by omega)
   have bd:=QU (b:=T) (by omega)
   obtain ⟨D,hDD⟩:∃D,bF T=D:=⟨_,rfl⟩
   rw[hDD] at e43b e47b bd
   have e27b:pu 27 [.agg [.val (.int .i64 D.1.1),.val (.int .i64 D.1.2.1),sl eC .no D.1.2.2.1,sl dC .no D.1.2.2.2]] =some (.agg [.val (.int .i64 D.1.1),.val (.int .i64 D.1.2.1),sl eC .no D.1.2.2.1,sl dC .no D.1.2.2.2]):=h27 D.1.1 D.1.2.1 D.1.2.2.1 D.1.2.2.2 (by omega)
   have e26b:pu 26 [.agg [.val (.int .i64 D.1.1),.val (.int .i64 D.1.2.1),sl eC .no D.1.2.2.1,sl dC .no D.1.2.2.2],.agg [.val (.int .i64 D.1.1),.val (.int .i64 D.1.2.1),sl eC .no D.1.2.2.1,sl dC .no D.1.2.2.2]] =some (.val (.bool true)):=(h26 D.1.1 D.1.2.1 D.1.2.2.1 D.1.2.2.2 D.1.1 D.1.2.1 D.1.2.2.1 D.1.2.2.2 (by omega) (by omega) (by omega)).trans (by simp)
   refine Tr.skip ?_
   refine hK6 _ ?_
   refine Tr.k [3,4,5,16,17,23,24] ?_
   refine aa fun K7 hK7=>?_
   refine Tr.blk ?_
   have hy:=And.intro @hT @e43b
   refine Tr.w hcx [1000153,1000154] _ [none] rfl rfl rfl ?_ fy
   refine Tr.k [3,4,5,16,17,23,24,25,26,27] ?_
   have hy:=And.intro @hT @e47b
   refine Tr.w hcx [1000162,1000163] _ [none] rfl rfl rfl ?_ fy
   refine Tr.k [3,4,5,16,17,23,24,25,26,27,28,29,30] ?_
   by_cases q1:j=1
   ·
    have q2: (D.2.2=0) =False:=eq_false (by subst q1;rw[hT,hDD] at hT1;exact hT1)
    replace q1:=eq_true q1
    have hy:=And.intro @e27b (And.intro @e26b @q2)
    refine Tr.wD hcx ct [] [some 164,some 165,some 166,some 167,some 168,some 169,some 170,some 171,some 172,some 173,some 174,some 175,some 176,some 177,some 178,some 179,some 180,some 181,some 182,some 183,some 184,some 185,some 186] [] rfl rfl rfl rfl ?_ tT
    refine Tr.k [3,4,5,16,17,23,24,186] ?_
    refine bc rfl ?_
    refine Tr.skip ?_
    refine hK7 _ ?_
    refine Tr.k [3,4,5,16,17,23,24] ?_
    have hy:=True.intro
    refine Tr.v hcx [1000145] _ [] rfl rfl rfl ?_ fy
    first
    | ((refine ⟨[],⟨by decide,by decide,by decide⟩,j+1,⟨(by omega),O1⟩,?_,by simp only[jl,fT,e8,jj,jk,Option.map_some,Option.map_none,gm,ji,fS,e7,g4,gj,gS,jd,je,jf,g5,jg,eT,eU,eV,eW,eX,eZ,gZ,fP,↓reduceIte,Nat.reduceEqDiff,reduceCtorEq,Nat.reduceAdd,Nat.zero_add,Nat.one_ne_zero,Nat.zero_ne_one,jh,jm,fa,fb,jn,fe,ff] <;>rfl⟩);(simp only[aZ,aK,↓aY,aC,aP,aD,aL,aQ,and_true,true_and,jl,fT,e8,jj,jk,Option.map_some,Option.map_none,gm,ji,fS,e7,g4,gj,gS,jd,je,jf,g5,jg,eT,eU,eV,eW,eX,eZ,gZ,fP,↓reduceIte,Nat.reduceEqDiff,reduceCtorEq,Nat.reduceAdd,Nat.zero_add,Nat.one_ne_zero,Nat.zero_ne_one,jh,jm,fa,fb,jn,fe,ff];all_goals (repeat' first|exact CLe.refl _|exact True.intro| (with_reducible refine And.intro ?_ ?_)));(all_goals (first| (rw[lK];exact CLe.refl _) | (rw[CT];exact CLe.refl _) |exact CLe.refl _));(done))
   have q2:=True.intro
   have hy:=And.intro @e27b (And.intro @e26b @q2)
   refine Tr.wD hcx ct [] [some 164,some 165,some 166,some 167,some 168,some 169,some 170,some 171,some 172,some 173,some 174,some 175,some 176,some 177,some 178,some 179,some 180,some 181,some 182,some 183,some 184,some 185,some 186] [] rfl rfl rfl rfl ?_ tT
   refine Tr.k [3,4,5,16,17,23,24,186] ?_
   refine bc rfl ?_
   refine Tr.skip ?_
   refine hK7 _ ?_
   refine Tr.k [3,4,5,16,17,23,24] ?_
   have hy:=True.intro
   refine Tr.v hcx [1000145] _ [] rfl rfl rfl ?_ fy
   first
   | ((refine ⟨[],⟨by decide,by decide,by decide⟩,j+1,⟨(by omega),O1⟩,?_,by simp only[jl,fT,e8,jj,jk,Option.map_some,Option.map_none,gm,ji,fS,e7,g4,gj,gS,jd,je,jf,g5,jg,eT,eU,eV,eW,eX,eZ,gZ,fP,↓reduceIte,Nat.reduceEqDiff,reduceCtorEq,Nat.reduceAdd,Nat.zero_add,Nat.one_ne_zero,Nat.zero_ne_one,jh,jm,fa,fb,jn,fe,ff] <;>rfl⟩);(simp only[aZ,aK,↓aY,aC,aP,aD,aL,aQ,and_true,true_and,jl,fT,e8,jj,jk,Option.map_some,Option.map_none,gm,ji,fS,e7,g4,gj,gS,jd,je,jf,g5,jg,eT,eU,eV,eW,eX,eZ,gZ,fP,↓reduceIte,Nat.reduceEqDiff,reduceCtorEq,Nat.reduceAdd,Nat.zero_add,Nat.one_ne_zero,Nat.zero_ne_one,jh,jm,fa,fb,jn,fe,ff];all_goals (repeat' first|exact CLe.refl _|exact True.intro| (with_reducible refine And.intro ?_ ?_)));(all_goals (first| (rw[lK];exact CLe.refl _) | (rw[CT];exact CLe.refl _) |exact CLe.refl _));(done))
  refine Tr.exit ?_
  refine hK3 _ ?_
  refine Tr.k [3,4,5,16,17] ?_
  refine Tr.v hcx [1000056] _ [] rfl rfl rfl ?_ fy
  first
  | ((refine ⟨[],⟨by decide,by decide,by decide⟩,i+1,⟨(by omega),O1⟩,?_,by simp only[jl,fT,e8,jj,jk,Option.map_some,Option.map_none,gm,ji,fS,e7,g4,gj,gS,jd,je,jf,g5,jg,eT,eU,eV,eW,eX,eZ,gZ,fP,↓reduceIte,Nat.reduceEqDiff,reduceCtorEq,Nat.reduceAdd,Nat.zero_add,Nat.one_ne_zero,Nat.zero_ne_one,jh,jm,fa,fb,jn,fe,ff] <;>rfl⟩);(simp only[aZ,aK,↓aY,aC,aP,aD,aL,aQ,and_true,true_and,jl,fT,e8,jj,jk,Option.map_some,Option.map_none,gm,ji,fS,e7,g4,gj,gS,jd,je,jf,g5,jg,eT,eU,eV,eW,eX,eZ,gZ,fP,↓reduceIte,Nat.reduceEqDiff,reduceCtorEq,Nat.reduceAdd,Nat.zero_add,Nat.one_ne_zero,Nat.zero_ne_one,jh,jm,fa,fb,jn,fe,ff];all_goals (repeat' first|exact CLe.refl _|exact True.intro| (with_reducible refine And.intro ?_ ?_)));(all_goals (first| (rw[lK];exact CLe.refl _) |exact CLe.refl _));(done))
 refine Tr.exit ?_
 refine hK1 _ ?_
 refine Tr.k [] ?_
 refine Tr.w hcx [1000187] _ [] rfl rfl rfl ?_ fy
 exact Tr.ret abX
end Go.Sx
namespace Go.Sx
open Go.RowKit Go.Proofs
set_option maxRecDepth 100000
set_option maxHeartbeats 8000000
theorem ld {p:Prop}(e:p:=by intro KZ hZ;simp -implicitDefEqProofs (disch:=first|omega| (simp only[go_sem,lA,lD,lT,hb1] <;>omega) |decide) only[go_sem,↓reduceIte,Nat.reduceEqDiff,reduceCtorEq,Nat.reduceLT,Nat.reduceBEq,Nat.reduceAdd,h39,h39n,hy];exact hZ):p:=e
theorem aaY {p:Prop}(e:p:=by simp -implicitDefEqProofs (disch:=first|omega| (simp only[go_sem,lA,lD,lT,hb1] <;>omega) |decide) only[go_sem,↓reduceIte,Nat.reduceEqDiff,reduceCtorEq];all_goals (rw[List.take_length];rfl)):p:=e
theorem aje {gl:Nat→C}{M:Nat}{pu:Nat→List C→Option C}(hcx:CxOK (af gl M pu))(h39:∀n:Int,-9223372036854775808≤n∧n≤9223372036854775807→pu 39 [.val (.int .i64 n)] =some (sl bC (.own 1) (aA n)))(l:List Int)(hl:l.length< 1099511627776)(hr:∀x∈l,-9223372036854775808≤x∧x≤9223372036854775807):FC Tryd.prog gl 45 [sl iC .no l] [] (sl bC (.own 1) (bV l)) []:=by
 replace hcx:=hcx.reN (M:=21)
 refine aB (cx:=af gl 21 pu) (rs:=[.tmp 2]) rfl Tryd.func45 rfl rfl rfl (by simp only[List.length_cons,List.length_nil];decide) (by simp only[go_sem]) ?_
 simp only[bq,go_sem]
 have hy:=True.intro
 have h39n:∀m:Nat,m< 9223372036854775808→pu 39 [.val (nI m)] =some (sl bC (.own 1) (aA m)):=fun m h=>h39 m (by omega)
 have hk8:=d8 l.length (by omega)
 have hb1:=True.intro
 refine Tr.w hcx [] _ [] rfl rfl rfl ?_ ld
 refine Tr.w hcx [1000008] _ [] rfl rfl rfl ?_ ld
 refine aa fun K1 hK1=>?_
 refine Tr.w hcx [] _ [] rfl rfl rfl ?_ ld
 refine Tr.k [3,9,10,11] ?_
 refine Tr.blk ?_
 refine aN (α:=Nat) (fun a=>[(3,sl bC (.own 1) (aA l.length++(l.take a).flatMap aA)),(9,?v9_1),(10,?v10_1),(11,.val (nI a))]) (fun a=>?h_1) (fun a=>a≤l.length) (fun a=>l.length - a) (0) ?_ ?le_1 ?hh_1 ?bd_1
 case hh_1=>exact rfl
 case le_1=>(simp only[aZ,aK,↓aY,↓reduceIte,Nat.reduceEqDiff,aC,aP,aD,aL,aQ,and_true,true_and];all_goals (repeat' first|exact CLe.refl _|exact True.intro| (refine an ?_;first|rfl| (simp only[List.take_zero];done)) |exact a7 (by omega) |exact ay (by omega) |exact aS (by omega) |exact aW (by omega) |with_reducible apply And.intro));all_goals (exact cg (by simp))
 . omega
 rintro i hi
 have hb0:=wo l hr i hi
 refine Tr.w hcx [] _ [] rfl rfl rfl ?_ ld
 refine aa fun K2 hK2=>?_
 refine aq rfl (fun hc12=>?_) (fun hc12=>?_)
 ·
  have hb1:=hr _ (mK l i hc12)
  have hb2:=gJ _ hb1
  refine Tr.skip ?_
  refine hK2 _ ?_
  refine aa fun K3 hK3=>?_
  refine Tr.blk ?_
  refine Tr.w hcx [1000014] _ [] rfl rfl rfl ?_ ld
  refine Tr.v hcx [15,1000018] _ [] rfl rfl rfl ?_ ld
  refine hK3 _ ?_
  refine Tr.v hcx [] _ [] rfl rfl rfl ?_ ld
  refine ⟨i+1,⟨by omega,O1⟩,?_,rfl⟩
  (simp only[aZ,aK,↓aY,↓reduceIte,Nat.reduceEqDiff,aC,aP,aD,aL,aQ,and_true,true_and];all_goals (repeat' first|exact CLe.refl _|exact True.intro| (refine an ?_;first|rfl| (simp only[List.take_zero];done)) |exact a7 (by omega) |exact ay (by omega) |exact aS (by omega) |exact aW (by omega) |with_reducible apply And.intro))
  all_goals (refine cg ?_;rw[←g6 aA l i hc12];simp)
 obtain rfl:i=l.length:=by omega
 refine Tr.exit ?_
 refine hK1 _ ?_
 refine Tr.w hcx [1000020] _ [] rfl rfl rfl ?_ ld
 exact Tr.ret aaY
theorem mM {p:Prop}(e:p:=by intro KZ hZ;simp -implicitDefEqProofs (disch:=first|omega| (simp only[go_sem,lA,lD,lT,hb1] <;>omega) |decide) only[go_sem,↓reduceIte,Nat.reduceEqDiff,reduceCtorEq,Nat.reduceLT,Nat.reduceBEq,Nat.reduceAdd,h83,h83n,hy];exact hZ):p:=e
theorem aaZ {p:Prop}(e:p:=by simp -implicitDefEqProofs (disch:=first|omega| (simp only[go_sem,lA,lD,lT,hb1] <;>omega) |decide) only[go_sem,↓reduceIte,Nat.reduceEqDiff,reduceCtorEq];all_goals (rw[List.take_length];rfl)):p:=e
theorem ajf {gl:Nat→C}{M:Nat}{pu:Nat→List C→Option C}(hcx:CxOK (af gl M pu))(h83:∀n:Int,-9223372036854775808≤n∧n≤9223372036854775807→pu 83 [.val (.int .i64 n)] =some (sl bC (.own 1) (aA n)))(l:List Int)(hl:l.length< 1099511627776)(hr:∀x∈l,-9223372036854775808≤x∧x≤9223372036854775807):FC Tryd.prog gl 67 [sl iC .no l] [] (sl bC (.own 1) (bV l)) []:=by
 replace hcx:=hcx.reN (M:=22)
 refine aB (cx:=af gl 22 pu) (rs:=[.tmp 2]) rfl Tryd.func67 rfl rfl rfl (by simp only[List.length_cons,List.length_nil];decide) (by simp only[go_sem]) ?_
 simp only[bq,go_sem]
 have hy:=True.intro
 have h83n:∀m:Nat,m< 9223372036854775808→pu 83 [.val (nI m)] =some (sl bC (.own 1) (aA m)):=fun m h=>h83 m (by omega)
 have hk8:=d8 l.length (by omega)
 have hb1:=True.intro
 refine Tr.w hcx [] _ [] rfl rfl rfl ?_ mM
 refine Tr.w hcx [1000007] _ [] rfl rfl rfl ?_ mM
 refine aa fun K1 hK1=>?_
 refine Tr.w hcx [] _ [] rfl rfl rfl ?_ mM
 refine Tr.k [0,3,4] ?_
 refine Tr.blk ?_
 refine aN (α:=Nat) (fun a=>[(0,?v0_1),(3,sl bC (.own 1) (aA l.length++(l.take a).flatMap aA)),(4,.val (nI a))]) (fun a=>?h_1) (fun a=>a≤l.length) (fun a=>l.length - a) (0) ?_ ?le_1 ?hh_1 ?bd_1
 case hh_1=>exact rfl
 case le_1=>(simp only[aZ,aK,↓aY,↓reduceIte,Nat.reduceEqDiff,aC,aP,aD,aL,aQ,and_true,true_and];all_goals (repeat' first|exact CLe.refl _|exact True.intro| (refine an ?_;first|rfl| (simp only[List.take_zero];done)) |exact a7 (by omega) |exact ay (by omega) |exact aS (by omega) |exact aW (by omega) |with_reducible apply And.intro));all_goals (exact cg (by simp))
 . omega
 rintro i hi
 have hb0:=wo l hr i hi
 refine aa fun K2 hK2=>?_
 refine Tr.w hcx [] _ [] rfl rfl rfl ?_ mM
 refine aq rfl (fun hc11=>?_) (fun hc11=>?_)
 ·
  have hb1:=hr _ (mK l i hc11)
  have hb2:=gJ _ hb1
  refine Tr.skip ?_
  refine hK2 _ ?_
  refine aa fun K3 hK3=>?_
  refine Tr.blk ?_
  refine Tr.v hcx [14,1000020] _ [] rfl rfl rfl ?_ mM
  refine hK3 _ ?_
  refine Tr.v hcx [1000013] _ [] rfl rfl rfl ?_ mM
  refine ⟨i+1,⟨by omega,O1⟩,?_,rfl⟩
  (simp only[aZ,aK,↓aY,↓reduceIte,Nat.reduceEqDiff,aC,aP,aD,aL,aQ,and_true,true_and];all_goals (repeat' first|exact CLe.refl _|exact True.intro| (refine an ?_;first|rfl| (simp only[List.take_zero];done)) |exact a7 (by omega) |exact ay (by omega) |exact aS (by omega) |exact aW (by omega) |with_reducible apply And.intro))
  all_goals (refine cg ?_;rw[←g6 aA l i hc11];simp)
 obtain rfl:i=l.length:=by omega
 refine Tr.exit ?_
 refine hK1 _ ?_
 refine Tr.w hcx [1000021] _ [] rfl rfl rfl ?_ mM
 exact Tr.ret aaZ
theorem lf {p:Prop}(e:p:=by intro KZ hZ;simp -implicitDefEqProofs (disch:=first|omega| (simp only[go_sem,lA,lD,lT] <;>omega) |decide) only[go_sem,↓reduceIte,Nat.reduceEqDiff,reduceCtorEq,Nat.reduceLT,Nat.reduceBEq,Nat.reduceAdd,hy];exact hZ):p:=e
theorem aa0 {p:Prop}(e:p:=by intro KZ hZ;simp -implicitDefEqProofs (disch:=first|omega| (simp only[go_sem,lA,lD,lT] <;>omega) |decide) only[go_sem,↓reduceIte,Nat.reduceEqDiff,reduceCtorEq,Nat.reduceLT,Nat.reduceBEq,Nat.reduceAdd,hy];refine And.intro ?_ hZ;exact rfl):p:=e
theorem CA {p:Prop}(e:p:=by simp -implicitDefEqProofs (disch:=first|omega| (simp only[go_sem,lA,lD,lT] <;>omega) |decide) only[go_sem,↓reduceIte,Nat.reduceEqDiff,reduceCtorEq];all_goals (first|rw[wp hc10] |rw[uT hc25] |rw[Cq hc14 (Classical.not_not.1 hc10) hA])):p:=e
theorem ajg {gl:Nat→C}{M:Nat}{pu:Nat→List C→Option C}(hcx:CxOK (af gl M pu))(x y:List UInt8)(hx:x.length< 9223372036854775807):FC Tryd.prog gl 41 [sl bC .no x,sl bC .no y] [] (.val (.bool (decide (x=y)))) []:=by
 replace hcx:=hcx.reN (M:=26)
 refine aB (cx:=af gl 26 pu) (rs:=[.tmp 4]) rfl Tryd.func41 rfl rfl rfl (by simp only[List.length_cons,List.length_nil];decide) (by simp only[go_sem]) ?_
 simp only[bq,go_sem]
 have hy:=True.intro
 refine Tr.w hcx [] _ [] rfl rfl rfl ?_ lf
 refine aa fun K1 hK1=>?_
 refine Tr.w hcx [] _ [] rfl rfl rfl ?_ lf
 refine aq rfl (fun hc10=>?_) (fun hc10=>?_)
 ·
  refine Tr.w hcx [] _ [] rfl rfl rfl ?_ lf
  exact Tr.ret CA
 have hll:x.length=y.length:=Classical.not_not.1 hc10
 refine Tr.skip ?_
 refine hK1 _ ?_
 refine aa fun K2 hK2=>?_
 refine Tr.w hcx [] _ [] rfl rfl rfl ?_ lf
 refine Tr.k [0,1,5] ?_
 refine Tr.blk ?_
 refine aN (α:=Nat) (fun a=>[(0,?v0_1),(1,?v1_1),(5,.val (nI a))]) (fun a=>?h_1) (fun a=>a≤x.length∧x.take a=y.take a) (fun a=>x.length - a) (0) ?_ ?le_1 ?hh_1 ?bd_1
 case hh_1=>exact rfl
 case le_1=>exact LT
 . exact ⟨by omega,rfl⟩
 rintro i ⟨hi,hA⟩
 refine aa fun K3 hK3=>?_
 refine Tr.w hcx [] _ [] rfl rfl rfl ?_ lf
 refine aq rfl (fun hc14=>?_) (fun hc14=>?_)
 ·
  refine Tr.skip ?_
  refine hK3 _ ?_
  refine aa fun K4 hK4=>?_
  refine Tr.blk ?_
  refine Tr.wD hcx ct [] _ [] rfl rfl rfl rfl ?_ aa0
  refine aq rfl (fun hc25=>?_) (fun hc25=>?_)
  ·
   refine Tr.w hcx [] _ [] rfl rfl rfl ?_ lf
   exact Tr.ret CA
  refine Tr.skip ?_
  refine hK4 _ ?_
  refine Tr.v hcx [1000016] _ [] rfl rfl rfl ?_ lf
  exact ⟨i+1,⟨⟨by omega,o5 hc14 (Classical.not_not.1 hc10) hA (Classical.not_not.1 hc25)⟩,O1⟩,LT,rfl⟩
 refine Tr.exit ?_
 refine hK2 _ ?_
 refine Tr.w hcx [] _ [] rfl rfl rfl ?_ lf
 exact Tr.ret CA
end Go.Sx
namespace Go.Sx
open Go.RowKit Go.Proofs
set_option maxRecDepth 100000
set_option maxHeartbeats 8000000
theorem bL {p:Prop}(e:p:=by intro KZ hZ;simp -implicitDefEqProofs (disch:=first|omega| (simp only[go_sem,lA,lD,lT,hb1] <;>omega) |decide) only[go_sem,↓reduceIte,Nat.reduceEqDiff,reduceCtorEq,Nat.reduceLT,Nat.reduceBEq,Nat.reduceAdd,Nat.add_sub_cancel,List.take_length,hk0,hy];exact hZ):p:=e
theorem g7 {p:Prop}(e:p:=by simp -implicitDefEqProofs (disch:=first|omega| (simp only[go_sem,lA,lD,lT,hb1] <;>omega) |decide) only[go_sem,↓reduceIte,Nat.reduceEqDiff,reduceCtorEq];all_goals (first|rfl| (rw[hbe,uU hk hc24];rfl) | (rw[hbe,qb hk hc24 (by rw[←hbe];exact hc27)];rfl) | (rw[hbe,oc hk hc24 (by rw[←hbe];exact hc27) hk0 (by rw[←hbe];exact hc32)];rfl) | (rw[hbe,uV hk hc24 (by rw[←hbe];exact hc27) (by rw[←hbe];first|exact fun h=>hc32 h.2|exact fun h=>hk0 h.1) (by rw[←FO _ hac2];exact hc62)];rfl) | (rw[hbe,qc hk hc24 (by rw[←hbe];exact hc27) (by rw[←hbe];first|exact fun h=>hc32 h.2|exact fun h=>hk0 h.1) (by rw[←FO _ hac2];exact hc62) (by rw[←Cr];exact hc64)];(rw[show ((18446744073709551615 - bH (ao x) (r.take k):Nat):Int) - 18446744073709551616= -1 - (bH (ao x) (r.take k):Int) by omega];try rfl)) | (rw[hbe,qd hk hc24 (by rw[←hbe];exact hc27) (by rw[←hbe];first|exact fun h=>hc32 h.2|exact fun h=>hk0 h.1) (by rw[←FO _ hac2];exact hc62) (by rw[←Cr];exact hc64)];rfl))):p:=e
theorem afr {gl:Nat→C}{M:Nat}{pu:Nat→List C→Option C}(hcx:CxOK (af gl M pu))(b:List UInt8)(hb:b.length< 9223372036854775807):FC Tryd.prog gl 111 [sl bC .no b] [] (.tup [.val (.int .i64 (ag b).1),.val (nI (ag b).2.1),.val (nI (ag b).2.2)]) []:=by
 replace hcx:=hcx.reN (M:=71)
 refine aB (cx:=af gl 71 pu) (rs:=[.tmp 2,.tmp 3,.tmp 4]) rfl Tryd.func111 rfl rfl rfl (by simp only[List.length_cons,List.length_nil];decide) (by simp only[go_sem]) ?_
 simp only[bq,go_sem]
 have hk0:=True.intro
 have hy:=True.intro
 have hb1:=True.intro
 refine Tr.w hcx [] _ [] rfl rfl rfl ?_ bL
 refine aa fun K1 hK1=>?_
 refine Tr.w hcx [] _ [] rfl rfl rfl ?_ bL
 refine aq rfl (fun hc12=>?_) (fun hc12=>?_)
 ·
  obtain rfl:b= []:=List.length_eq_zero_iff.1 hc12
  refine Tr.w hcx [] _ [] rfl rfl rfl ?_ bL
  exact Tr.ret g7
 obtain ⟨x,r,hbe⟩:∃x r,b=x::r:=by
  cases b with
  |nil=>exact absurd rfl hc12
  |cons x r=>exact ⟨x,r,rfl⟩
 have hge:=DZ x
 have hlt:=(x ^^^ ao x).toNat_lt
 obtain ⟨k,hk⟩:∃k,iA x=k:=⟨_,rfl⟩
 have hk2: (x ^^^ ao x).toNat - 128=k:=hk
 have hlen:b.length=r.length+1:=by rw[hbe];rfl
 have hx0:gt b 0=x:=by rw[hbe];rfl
 have hr:b.drop 1=r:=by rw[hbe];rfl
 refine Tr.skip ?_
 refine hK1 _ ?_
 refine Tr.w hcx [] _ [] rfl rfl rfl ?_ bL
 refine vV (α:=Unit) (fun a=>[(0,?v0_1),(5,.val (w8 (ao x)))]) (fun a=>[]) (fun a=>True) ?ja_1 ?jb_1
 case ja_1=>
  have hy:= @hx0
  refine Tr.w hcx [] _ [] rfl rfl rfl ?_ bL
  refine aq rfl (fun hc16=>?_) (fun hc16=>?_)
  ·
   have hy:=True.intro
   refine Tr.v hcx [] _ [] rfl rfl rfl ?_ bL
   refine ⟨(),tI,?_,rfl⟩
   (simp only[aZ,aK,↓aY,↓reduceIte,Nat.reduceEqDiff,aC,aP,aD,aL,aQ,and_true,true_and];all_goals (repeat' first|exact CLe.refl _|exact True.intro| (refine an ?_;first|rfl| (simp only[List.take_zero];done)) |exact a7 (by omega) |exact ay (by omega) |exact aS (by omega) |exact aW (by omega) |with_reducible apply And.intro))
   all_goals (refine iL ?_;show _=w8 (if x< UInt8.ofNat 128 then UInt8.ofNat 255 else UInt8.ofNat 0);first|rw[if_pos hc16] |rw[if_neg hc16])
  refine Tr.skip ?_
  refine ⟨(),tI,?_,rfl⟩
  (simp only[aZ,aK,↓aY,↓reduceIte,Nat.reduceEqDiff,aC,aP,aD,aL,aQ,and_true,true_and];all_goals (repeat' first|exact CLe.refl _|exact True.intro| (refine an ?_;first|rfl| (simp only[List.take_zero];done)) |exact a7 (by omega) |exact ay (by omega) |exact aS (by omega) |exact aW (by omega) |with_reducible apply And.intro))
  all_goals (refine iL ?_;show _=w8 (if x< UInt8.ofNat 128 then UInt8.ofNat 255 else UInt8.ofNat 0);first|rw[if_pos hc16] |rw[if_neg hc16])
 rintro a ha
 have hy:=And.intro @hx0 @hk2
 refine Tr.w hcx [1000023] _ [] rfl rfl rfl ?_ bL
 refine aa fun K2 hK2=>?_
 refine Tr.blk ?_
 have hy:=True.intro
 refine Tr.w hcx [1000026] _ [] rfl rfl rfl ?_ bL
 refine aq rfl (fun hc24=>?_) (fun hc24=>?_)
 ·
  refine Tr.w hcx [] _ [] rfl rfl rfl ?_ bL
  exact Tr.ret g7
 refine Tr.w hcx [1000031] _ [] rfl rfl rfl ?_ bL
 refine aq rfl (fun hc27=>?_) (fun hc27=>?_)
 ·
  refine Tr.w hcx [] _ [] rfl rfl rfl ?_ bL
  exact Tr.ret g7
 by_cases hk0:0< k
 ·
  refine Tr.w hcx [1000042] [some 33,some 34,some 35,some 36,some 37,some 38,some 39,some 40,some 41,some 42,some 32] [] rfl rfl rfl ?_ bL
  refine Tr.k [0,5,6,32] ?_
  refine aq rfl (fun hc32=>?_) (fun hc32=>?_)
  ·
   refine Tr.w hcx [] _ [] rfl rfl rfl ?_ bL
   exact Tr.ret g7
  refine Tr.skip ?_
  refine hK2 _ ?_
  refine Tr.w hcx [] _ [] rfl rfl rfl ?_ bL
  refine aa fun K3 hK3=>?_
  have hy:= @hr
  refine Tr.w hcx [] _ [] rfl rfl rfl ?_ bL
  refine Tr.k [5,6,7,46,47,48] ?_
  refine Tr.blk ?_
  refine aN (α:=Nat) (fun a=>[(5,?v5_2),(6,?v6_2),(7,.val (nU (bH (ao x) ((r.take k).take a)))),(46,?v46_2),(47,?v47_2),(48,.val (nI a))]) (fun a=>?h_2) (fun a=>a≤(r.take k).length) (fun a=>(r.take k).length - a) (0) ?_ ?le_2 ?hh_2 ?bd_2
  case hh_2=>exact rfl
  case le_2=>exact LT
  . omega
  rintro i hi
  have hcl:=(gt (r.take k) i ^^^ ao x).toNat_lt
  have hkl: (r.take k).length=k:=by rw[List.length_take];omega
  have hac:=lS (ao x) ((r.take k).take i)
  rw[List.length_take,Nat.min_eq_left hi] at hac
  have hp8:256 ^ i≤256 ^ 8:=Nat.pow_le_pow_right (by decide) (by omega)
  have hac2:bH (ao x) ((r.take k).take i) < 18446744073709551616:=Nat.lt_of_lt_of_le hac (by simpa using hp8)
  have hy:=True.intro
  refine Tr.w hcx [] _ [] rfl rfl rfl ?_ bL
  refine aa fun K4 hK4=>?_
  refine aq rfl (fun hc49=>?_) (fun hc49=>?_)
  ·
   refine Tr.skip ?_
   refine hK4 _ ?_
   refine aa fun K5 hK5=>?_
   refine Tr.blk ?_
   refine Tr.w hcx [1000051] _ [] rfl rfl rfl ?_ bL
   refine Tr.v hcx [1000058] _ [] rfl rfl rfl ?_ bL
   refine hK5 _ ?_
   refine Tr.v hcx [] _ [] rfl rfl rfl ?_ bL
   refine ⟨i+1,⟨by omega,O1⟩,?_,rfl⟩
   (simp only[aZ,aK,↓aY,↓reduceIte,Nat.reduceEqDiff,aC,aP,aD,aL,aQ,and_true,true_and];all_goals (repeat' first|exact CLe.refl _|exact True.intro| (refine an ?_;first|rfl| (simp only[List.take_zero];done)) |exact a7 (by omega) |exact ay (by omega) |exact aS (by omega) |exact aW (by omega) |with_reducible apply And.intro))
   all_goals (exact iL (congrArg nU (Cs (ao x) (r.take k) i hc49 (by omega))))
  obtain rfl:i= (r.take k).length:=by omega
  rw[List.take_length] at*
  refine Tr.exit ?_
  refine hK3 _ ?_
  refine aa fun K6 hK6=>?_
  refine Tr.w hcx [] _ [] rfl rfl rfl ?_ bL
  refine aq rfl (fun hc62=>?_) (fun hc62=>?_)
  ·
   refine Tr.w hcx [] _ [] rfl rfl rfl ?_ bL
   exact Tr.ret g7
  refine Tr.skip ?_
  refine hK6 _ ?_
  refine aa fun K7 hK7=>?_
  refine Tr.w hcx [] _ [] rfl rfl rfl ?_ bL
  refine aq rfl (fun hc64=>?_) (fun hc64=>?_)
  ·
   refine Tr.v hcx [1000066] _ [] rfl rfl rfl ?_ bL
   refine hK7 _ ?_
   refine Tr.w hcx [1000068,1000070] _ [] rfl rfl rfl ?_ bL
   exact Tr.ret g7
  refine Tr.skip ?_
  refine hK7 _ ?_
  refine Tr.w hcx [1000068,1000070] _ [] rfl rfl rfl ?_ bL
  exact Tr.ret g7
 refine Tr.w hcx [1000042] [some 33,some 34,some 35,some 36,some 37,some 38,some 39,some 40,some 41,some 42,some 32] [] rfl rfl rfl ?_ bL
 refine Tr.k [0,5,6,32] ?_
 refine bc rfl ?_
 refine Tr.skip ?_
 refine hK2 _ ?_
 refine Tr.w hcx [] _ [] rfl rfl rfl ?_ bL
 refine aa fun K8 hK8=>?_
 have hy:= @hr
 refine Tr.w hcx [] _ [] rfl rfl rfl ?_ bL
 refine Tr.k [5,6,7,46,47,48] ?_
 refine Tr.blk ?_
 refine aN (α:=Nat) (fun a=>[(5,?v5_3),(6,?v6_3),(7,.val (nU (bH (ao x) ((r.take k).take a)))),(46,?v46_3),(47,?v47_3),(48,.val (nI a))]) (fun a=>?h_3) (fun a=>a≤(r.take k).length) (fun a=>(r.take k).length - a) (0) ?_ ?le_3 ?hh_3 ?bd_3
 case hh_3=>exact rfl
 case le_3=>exact LT
 . omega
 rintro i hi
 have hcl:=(gt (r.take k) i ^^^ ao x).toNat_lt
 have hkl: (r.take k).length=k:=by rw[List.length_take];omega
 have hac:=lS (ao x) ((r.take k).take i)
 rw[List.length_take,Nat.min_eq_left hi] at hac
 have hp8:256 ^ i≤256 ^ 8:=Nat.pow_le_pow_right (by decide) (by omega)
 have hac2:bH (ao x) ((r.take k).take i) < 18446744073709551616:=Nat.lt_of_lt_of_le hac (by simpa using hp8)
 have hy:=True.intro
 refine Tr.w hcx [] _ [] rfl rfl rfl ?_ bL
 refine aa fun K9 hK9=>?_
 refine aq rfl (fun hc49=>?_) (fun hc49=>?_)
 ·
  refine Tr.skip ?_
  refine hK9 _ ?_
  refine aa fun K10 hK10=>?_
  refine Tr.blk ?_
  refine Tr.w hcx [1000051] _ [] rfl rfl rfl ?_ bL
  refine Tr.v hcx [1000058] _ [] rfl rfl rfl ?_ bL
  refine hK10 _ ?_
  refine Tr.v hcx [] _ [] rfl rfl rfl ?_ bL
  refine ⟨i+1,⟨by omega,O1⟩,?_,rfl⟩
  (simp only[aZ,aK,↓aY,↓reduceIte,Nat.reduceEqDiff,aC,aP,aD,aL,aQ,and_true,true_and];all_goals (repeat' first|exact CLe.refl _|exact True.intro| (refine an ?_;first|rfl| (simp only[List.take_zero];done)) |exact a7 (by omega) |exact ay (by omega) |exact aS (by omega) |exact aW (by omega) |with_reducible apply And.intro))
  all_goals (exact iL (congrArg nU (Cs (ao x) (r.take k) i hc49 (by omega))))
 obtain rfl:i= (r.take k).length:=by omega
 rw[List.take_length] at*
 refine Tr.exit ?_
 refine hK8 _ ?_
 refine aa fun K11 hK11=>?_
 refine Tr.w hcx [] _ [] rfl rfl rfl ?_ bL
 refine aq rfl (fun hc62=>?_) (fun hc62=>?_)
 ·
  refine Tr.w hcx [] _ [] rfl rfl rfl ?_ bL
  exact Tr.ret g7
 refine Tr.skip ?_
 refine hK11 _ ?_
 refine aa fun K12 hK12=>?_
 refine Tr.w hcx [] _ [] rfl rfl rfl ?_ bL
 refine aq rfl (fun hc64=>?_) (fun hc64=>?_)
 ·
  refine Tr.v hcx [1000066] _ [] rfl rfl rfl ?_ bL
  refine hK12 _ ?_
  refine Tr.w hcx [1000068,1000070] _ [] rfl rfl rfl ?_ bL
  exact Tr.ret g7
 refine Tr.skip ?_
 refine hK12 _ ?_
 refine Tr.w hcx [1000068,1000070] _ [] rfl rfl rfl ?_ bL
 exact Tr.ret g7
end Go.Sx
namespace Go.Sx
open Go.RowKit Go.Proofs
set_option maxRecDepth 100000
set_option maxHeartbeats 8000000
theorem b9 {p:Prop}(e:p:=by intro KZ hZ;simp -implicitDefEqProofs (disch:=first|omega| (simp only[go_sem,lA,lD,lT,hb1] <;>omega) |decide) only[go_sem,↓reduceIte,Nat.reduceEqDiff,reduceCtorEq,Nat.reduceLT,Nat.reduceBEq,Nat.reduceAdd,h83,h83n,h41,h119,h136,hy];exact hZ):p:=e
theorem Ek {p:Prop}(e:p:=by intro KZ hZ;simp -implicitDefEqProofs (disch:=first|omega| (simp only[go_sem,lA,lD,lT,hb1] <;>omega) |decide) only[go_sem,↓reduceIte,Nat.reduceEqDiff,reduceCtorEq,Nat.reduceLT,Nat.reduceBEq,Nat.reduceAdd,h83,h83n,h41,h119,h136,hy];refine And.intro ?_ hZ;exact rfl):p:=e
theorem iP {p:Prop}(e:p:=by simp -implicitDefEqProofs (disch:=first|omega| (simp only[go_sem,lA,lD,lT,hb1] <;>omega) |decide) only[go_sem,↓reduceIte,Nat.reduceEqDiff,reduceCtorEq];all_goals (first|rfl| (rw[rg1 hbe hk (by omega)];rfl) | (rw[rg2 hbe hk (by omega) hc34];rfl) | (rw[rg3 hbe hk h8 hc34 i hc37 hc50];rfl) | (rw[ajc hbe hk h8 hc34 hc57 hc67];rfl) | (rw[ajd hbe hk h8 hc34 hc57 hc67];rfl) | (rw[rg5 hbe hk h8 hc34 hc57 hac (Classical.not_not.1 hc67)];try rfl) | (rw[rg6 hbe hk h8 hc34 hc57 hac (Classical.not_not.1 hc67)];try rfl))):p:=e
theorem afs {gl:Nat→C}{M:Nat}{pu:Nat→List C→Option C}(hcx:CxOK (af gl M pu))(h83:∀n:Int,-9223372036854775808≤n∧n≤9223372036854775807→pu 83 [.val (.int .i64 n)] =some (sl bC (.own 1) (aA n)))(h41:∀x y:List UInt8,x.length< 9223372036854775807→pu 41 [sl bC .no x,sl bC .no y] =some (.val (.bool (decide (x=y)))))(b:List UInt8)(hb:b.length< 9223372036854775807):FC Tryd.prog gl 101 [sl bC .no b] [] (.tup [.val (.int .i64 (ag b).1),.val (nI (ag b).2.1),.val (nI (ag b).2.2)]) []:=by
 replace hcx:=hcx.reN (M:=71)
 refine aB (cx:=af gl 71 pu) (rs:=[.tmp 2,.tmp 3,.tmp 4]) rfl Tryd.func101 rfl rfl rfl (by simp only[List.length_cons,List.length_nil];decide) (by simp only[go_sem]) ?_
 simp only[bq,go_sem]
 have h119:=True.intro
 have h136:=True.intro
 have hy:=True.intro
 have hb1:=True.intro
 have h83n:∀m:Nat,m< 9223372036854775808→pu 83 [.val (nI m)] =some (sl bC (.own 1) (aA m)):=fun m h=>h83 m (by omega)
 refine Tr.w hcx [] _ [] rfl rfl rfl ?_ b9
 refine aa fun K1 hK1=>?_
 refine Tr.w hcx [] _ [] rfl rfl rfl ?_ b9
 refine aq rfl (fun hc13=>?_) (fun hc13=>?_)
 ·
  obtain rfl:b= []:=List.length_eq_zero_iff.1 hc13
  refine Tr.w hcx [] _ [] rfl rfl rfl ?_ b9
  exact Tr.ret iP
 obtain ⟨x,r,hbe⟩:∃x r,b=x::r:=by
  cases b with
  |nil=>exact absurd rfl hc13
  |cons x r=>exact ⟨x,r,rfl⟩
 obtain ⟨k,hk⟩:∃k,iA x=k:=⟨_,rfl⟩
 have hkc:=JC x
 rw[hk] at hkc
 have hlen:b.length=r.length+1:=by rw[hbe];rfl
 have hx0:gt b 0=x:=by rw[hbe];rfl
 have hx256:=x.toNat_lt
 refine Tr.skip ?_
 refine hK1 _ ?_
 have hy:= @hx0
 refine Tr.w hcx [1000017] _ [] rfl rfl rfl ?_ b9
 refine aa fun K2 hK2=>?_
 by_cases h119:x.toNat< 119
 ·
  have hy:=True.intro
  refine Tr.w hcx [] [some 18,some 19,some 20,some 21,some 22,some 23] [] rfl rfl rfl ?_ b9
  refine bf rfl ?_
  refine Tr.w hcx [] _ [] rfl rfl rfl ?_ b9
  exact Tr.ret iP
 by_cases h136:136< x.toNat
 ·
  have hy:=True.intro
  refine Tr.w hcx [] [some 18,some 19,some 20,some 21,some 22,some 23] [] rfl rfl rfl ?_ b9
  refine bf rfl ?_
  refine Tr.w hcx [] _ [] rfl rfl rfl ?_ b9
  exact Tr.ret iP
 have hy:=True.intro
 refine Tr.w hcx [] [some 18,some 19,some 20,some 21,some 22,some 23] [] rfl rfl rfl ?_ b9
 refine bc rfl ?_
 refine Tr.skip ?_
 refine hK2 _ ?_
 have hy:= @iw
 refine Tr.w hcx [1000025] _ [] rfl rfl rfl ?_ b9
 refine vV (α:=Unit) (fun a=>[(0,?v0_1),(5,?v5_1),(6,.val (nI k))]) (fun a=>[]) (fun a=>True) ?ja_1 ?jb_1
 case ja_1=>
  have hy:=True.intro
  refine Tr.w hcx [] _ [] rfl rfl rfl ?_ b9
  refine aq rfl (fun hc27=>?_) (fun hc27=>?_)
  ·
   refine Tr.v hcx [1000029] _ [] rfl rfl rfl ?_ b9
   refine ⟨(),tI,?_,rfl⟩
   (simp only[aZ,aK,↓aY,↓reduceIte,Nat.reduceEqDiff,aC,aP,aD,aL,aQ,and_true,true_and];all_goals (repeat' first|exact CLe.refl _|exact True.intro| (refine an ?_;first|rfl| (simp only[List.take_zero];done)) |exact a7 (by omega) |exact ay (by omega) |exact aS (by omega) |exact aW (by omega) |with_reducible apply And.intro))
   all_goals (refine iL (congrArg (Value.int .i64) ?_);omega)
  refine Tr.skip ?_
  refine ⟨(),tI,?_,rfl⟩
  (simp only[aZ,aK,↓aY,↓reduceIte,Nat.reduceEqDiff,aC,aP,aD,aL,aQ,and_true,true_and];all_goals (repeat' first|exact CLe.refl _|exact True.intro| (refine an ?_;first|rfl| (simp only[List.take_zero];done)) |exact a7 (by omega) |exact ay (by omega) |exact aS (by omega) |exact aW (by omega) |with_reducible apply And.intro))
  all_goals (refine iL (congrArg (Value.int .i64) ?_);omega)
 rintro a ha
 refine aa fun K3 hK3=>?_
 have hy:=True.intro
 refine Tr.w hcx [] _ [] rfl rfl rfl ?_ b9
 refine aq rfl (fun hc34=>?_) (fun hc34=>?_)
 ·
  refine Tr.w hcx [] _ [] rfl rfl rfl ?_ b9
  exact Tr.ret iP
 have h8:k≤8:=by omega
 have htk: (r.take k).take k=r.take k:=by rw[List.take_take,Nat.min_self]
 refine Tr.skip ?_
 refine hK3 _ ?_
 refine Tr.w hcx [] _ [] rfl rfl rfl ?_ b9
 refine aa fun K4 hK4=>?_
 refine Tr.w hcx [] _ [] rfl rfl rfl ?_ b9
 refine Tr.k [0,5,6,7,8] ?_
 refine Tr.blk ?_
 refine aN (α:=Nat) (fun a=>[(0,?v0_2),(5,?v5_2),(6,?v6_2),(7,.val (nI (bH (ao x) ((r.take k).take a)))),(8,.val (nI (a+1)))]) (fun a=>?h_2) (fun a=>a≤k∧bH (ao x) ((r.take k).take a) < 9223372036854775808) (fun a=>k - a) (0) ?_ ?le_2 ?hh_2 ?bd_2
 case hh_2=>exact rfl
 case le_2=>exact LT
 . exact ⟨by omega,by simp[bH]⟩
 rintro i ⟨hi,hac⟩
 have hcl:=(gt (r.take k) i).toNat_lt
 have hcl2:=(gt (r.take k) i ^^^ ao x).toNat_lt
 refine aa fun K5 hK5=>?_
 refine Tr.w hcx [] _ [] rfl rfl rfl ?_ b9
 refine aq rfl (fun hc37=>?_) (fun hc37=>?_)
 ·
  have hbi:=(Qk hbe hk h8 hc34 i hc37).1
  refine Tr.skip ?_
  refine hK5 _ ?_
  refine aa fun K6 hK6=>?_
  refine Tr.blk ?_
  have hy:= @hbi
  refine Tr.w hcx [1000044] _ [] rfl rfl rfl ?_ b9
  refine vV (α:=Unit) (fun a=>[(0,?v0_3),(5,?v5_3),(6,?v6_3),(7,?v7_3),(8,?v8_3),(9,.val (nI (gt (r.take k) i ^^^ ao x).toNat))]) (fun a=>[]) (fun a=>True) ?ja_3 ?jb_3
  case ja_3=>
   have hy:=True.intro
   refine Tr.w hcx [] _ [] rfl rfl rfl ?_ b9
   refine aq rfl (fun hc46=>?_) (fun hc46=>?_)
   ·
    refine Tr.v hcx [1000048] _ [] rfl rfl rfl ?_ b9
    refine ⟨(),tI,?_,rfl⟩
    (simp only[aZ,aK,↓aY,↓reduceIte,Nat.reduceEqDiff,aC,aP,aD,aL,aQ,and_true,true_and];all_goals (repeat' first|exact CLe.refl _|exact True.intro| (refine an ?_;first|rfl| (simp only[List.take_zero];done)) |exact a7 (by omega) |exact ay (by omega) |exact aS (by omega) |exact aW (by omega) |with_reducible apply And.intro))
    all_goals (refine iL (congrArg nI ?_);rw[Qi];first|rw[if_pos hc46] |rw[if_neg hc46])
   refine Tr.skip ?_
   refine ⟨(),tI,?_,rfl⟩
   (simp only[aZ,aK,↓aY,↓reduceIte,Nat.reduceEqDiff,aC,aP,aD,aL,aQ,and_true,true_and];all_goals (repeat' first|exact CLe.refl _|exact True.intro| (refine an ?_;first|rfl| (simp only[List.take_zero];done)) |exact a7 (by omega) |exact ay (by omega) |exact aS (by omega) |exact aW (by omega) |with_reducible apply And.intro))
   all_goals (refine iL (congrArg nI ?_);rw[Qi];first|rw[if_pos hc46] |rw[if_neg hc46])
  rintro a ha
  refine aa fun K7 hK7=>?_
  have hy:=True.intro
  refine Tr.w hcx [] _ [] rfl rfl rfl ?_ b9
  refine aq rfl (fun hc50=>?_) (fun hc50=>?_)
  ·
   refine Tr.w hcx [] _ [] rfl rfl rfl ?_ b9
   exact Tr.ret iP
  refine Tr.skip ?_
  refine hK7 _ ?_
  refine Tr.v hcx [1000054] _ [] rfl rfl rfl ?_ b9
  refine hK6 _ ?_
  refine Tr.v hcx [1000039] _ [] rfl rfl rfl ?_ b9
  refine ⟨i+1,⟨⟨by omega,by rw[←Ql hbe hk h8 hc34 i hc37];omega⟩,O1⟩,?_,rfl⟩
  (simp only[aZ,aK,↓aY,↓reduceIte,Nat.reduceEqDiff,aC,aP,aD,aL,aQ,and_true,true_and];all_goals (repeat' first|exact CLe.refl _|exact True.intro| (refine an ?_;first|rfl| (simp only[List.take_zero];done)) |exact a7 (by omega) |exact ay (by omega) |exact aS (by omega) |exact aW (by omega) |with_reducible apply And.intro))
  all_goals (exact iL (congrArg nI (Ql hbe hk h8 hc34 i hc37)))
 obtain rfl:k=i:=by omega
 rw[htk] at hac
 have hw1:=gJ (-1 - (bH (ao x) (r.take k):Int)) (by omega)
 have hw2:=gJ (bH (ao x) (r.take k)) (by omega)
 refine Tr.exit ?_
 refine hK4 _ ?_
 have hy:= @htk
 refine Tr.w hcx [1000055] _ [] rfl rfl rfl ?_ b9
 refine aa fun K8 hK8=>?_
 have hy:= @htk
 refine Tr.w hcx [] _ [] rfl rfl rfl ?_ b9
 refine aq rfl (fun hc57=>?_) (fun hc57=>?_)
 ·
  have hy:= @htk
  refine Tr.v hcx [1000059] _ [] rfl rfl rfl ?_ b9
  refine hK8 _ ?_
  refine aa fun K9 hK9=>?_
  have hy:= @htk
  refine Tr.wD hcx ct [] _ [] rfl rfl rfl rfl ?_ Ek
  refine aq rfl (fun hc67=>?_) (fun hc67=>?_)
  ·
   have hy:=True.intro
   refine Tr.w hcx [] _ [] rfl rfl rfl ?_ b9
   exact Tr.ret iP
  refine Tr.skip ?_
  refine hK9 _ ?_
  refine Tr.k [6,10] ?_
  have hy:= @htk
  refine Tr.w hcx [1000068,1000070] _ [] rfl rfl rfl ?_ b9
  exact Tr.ret iP
 refine Tr.skip ?_
 refine hK8 _ ?_
 refine aa fun K10 hK10=>?_
 have hy:= @htk
 refine Tr.wD hcx ct [] _ [] rfl rfl rfl rfl ?_ Ek
 refine aq rfl (fun hc67=>?_) (fun hc67=>?_)
 ·
  have hy:=True.intro
  refine Tr.w hcx [] _ [] rfl rfl rfl ?_ b9
  exact Tr.ret iP
 refine Tr.skip ?_
 refine hK10 _ ?_
 have hy:= @htk
 refine Tr.w hcx [1000068,1000070] _ [] rfl rfl rfl ?_ b9
 exact Tr.ret iP
end Go.Sx
namespace Go.Sx
open Go.RowKit Go.Proofs
set_option maxRecDepth 100000
set_option maxHeartbeats 8000000
theorem lg {p:Prop}(e:p:=by intro KZ hZ;simp -implicitDefEqProofs (disch:=first|omega| (simp only[go_sem,lA,lD,lT,hb1] <;>omega) |decide) only[go_sem,↓reduceIte,Nat.reduceEqDiff,reduceCtorEq,Nat.reduceLT,Nat.reduceBEq,Nat.reduceAdd,h39n,h74,hy];with_reducible exact hZ):p:=e
theorem aa3 {p:Prop}(e:p:=by simp -implicitDefEqProofs (disch:=first|omega| (simp only[go_sem,lA,lD,lT,hb1] <;>omega) |decide) only[go_sem,↓reduceIte,Nat.reduceEqDiff,reduceCtorEq];all_goals (rw[List.take_length];rfl)):p:=e
theorem aji {gl:Nat→C}{M:Nat}{pu:Nat→List C→Option C}(hcx:CxOK (af gl M pu))(h39:∀n:Int,-9223372036854775808≤n∧n≤9223372036854775807→pu 39 [.val (.int .i64 n)] =some (sl bC (.own 1) (aA n)))(h74:∀s:List UInt8,s.length< 70368744177664→pu 74 [.val (str s)] =some (sl bC (.own 1) (wb s)))(l:List (List UInt8))(hl:l.length< 1099511627776)(hf:l.flatten.length< 1099511627776):FC Tryd.prog gl 46 [sl sC .no l] [] (sl bC (.own 1) (cf l)) []:=by
 replace hcx:=hcx.reN (M:=21)
 refine aB (cx:=af gl 21 pu) (rs:=[.tmp 2]) rfl Tryd.func46 rfl rfl rfl (by simp only[List.length_cons,List.length_nil];decide) (by simp only[go_sem]) ?_
 simp only[bq,go_sem]
 have hy:=True.intro
 have h39n:∀m:Nat,m< 9223372036854775808→pu 39 [.val (nI m)] =some (sl bC (.own 1) (aA m)):=fun m h=>h39 m (by omega)
 have hk8:=d8 l.length (by omega)
 have hb1:=True.intro
 refine Tr.w hcx [] _ [] rfl rfl rfl ?_ lg
 refine Tr.w hcx [1000008] _ [] rfl rfl rfl ?_ lg
 refine aa fun K1 hK1=>?_
 refine Tr.w hcx [] _ [] rfl rfl rfl ?_ lg
 refine Tr.k [3,9,10,11] ?_
 refine Tr.blk ?_
 refine aN (α:=Nat) (fun a=>[(3,sl bC (.own 1) (aA l.length++(l.take a).flatMap wb)),(9,?v9_1),(10,?v10_1),(11,.val (nI a))]) (fun a=>?h_1) (fun a=>a≤l.length) (fun a=>l.length - a) (0) ?_ ?le_1 ?hh_1 ?bd_1
 case hh_1=>exact rfl
 case le_1=>(simp only[aZ,aK,↓aY,↓reduceIte,Nat.reduceEqDiff,aC,aP,aD,aL,aQ,and_true,true_and];all_goals (repeat' first|exact CLe.refl _|exact True.intro| (refine an ?_;first|rfl| (simp only[List.take_zero];done)) |exact a7 (by omega) |exact ay (by omega) |exact aS (by omega) |exact aW (by omega) |with_reducible apply And.intro));all_goals (exact cg (by simp))
 . omega
 rintro i hi
 have hb0:=sr l hf i hi
 refine Tr.w hcx [] _ [] rfl rfl rfl ?_ lg
 refine aa fun K2 hK2=>?_
 refine aq rfl (fun hc12=>?_) (fun hc12=>?_)
 ·
  have hb2:=vJ l i hc12
  have hb3:=nM (gt l i) (by omega)
  have hb1:=hb3
  refine Tr.skip ?_
  refine hK2 _ ?_
  refine aa fun K3 hK3=>?_
  refine Tr.blk ?_
  refine Tr.w hcx [1000014] _ [] rfl rfl rfl ?_ lg
  refine Tr.v hcx [15,1000018] _ [] rfl rfl rfl ?_ lg
  refine hK3 _ ?_
  refine Tr.v hcx [] _ [] rfl rfl rfl ?_ lg
  refine ⟨i+1,⟨by omega,O1⟩,?_,rfl⟩
  (simp only[aZ,aK,↓aY,↓reduceIte,Nat.reduceEqDiff,aC,aP,aD,aL,aQ,and_true,true_and];all_goals (repeat' first|exact CLe.refl _|exact True.intro| (refine an ?_;first|rfl| (simp only[List.take_zero];done)) |exact a7 (by omega) |exact ay (by omega) |exact aS (by omega) |exact aW (by omega) |with_reducible apply And.intro))
  all_goals (refine cg ?_;rw[←g6 wb l i hc12];simp)
 obtain rfl:i=l.length:=by omega
 refine Tr.exit ?_
 refine hK1 _ ?_
 refine Tr.w hcx [1000020] _ [] rfl rfl rfl ?_ lg
 exact Tr.ret aa3
theorem mN {p:Prop}(e:p:=by intro KZ hZ;simp -implicitDefEqProofs (disch:=first|omega| (simp only[go_sem,lA,lD,lT,hb1] <;>omega) |decide) only[go_sem,↓reduceIte,Nat.reduceEqDiff,reduceCtorEq,Nat.reduceLT,Nat.reduceBEq,Nat.reduceAdd,h83n,h95,hy];with_reducible exact hZ):p:=e
theorem aa4 {p:Prop}(e:p:=by simp -implicitDefEqProofs (disch:=first|omega| (simp only[go_sem,lA,lD,lT,hb1] <;>omega) |decide) only[go_sem,↓reduceIte,Nat.reduceEqDiff,reduceCtorEq];all_goals (rw[List.take_length];rfl)):p:=e
theorem ajj {gl:Nat→C}{M:Nat}{pu:Nat→List C→Option C}(hcx:CxOK (af gl M pu))(h83:∀n:Int,-9223372036854775808≤n∧n≤9223372036854775807→pu 83 [.val (.int .i64 n)] =some (sl bC (.own 1) (aA n)))(h95:∀s:List UInt8,s.length< 70368744177664→pu 95 [.val (str s)] =some (sl bC (.own 1) (wb s)))(l:List (List UInt8))(hl:l.length< 1099511627776)(hf:l.flatten.length< 1099511627776):FC Tryd.prog gl 68 [sl sC .no l] [] (sl bC (.own 1) (cf l)) []:=by
 replace hcx:=hcx.reN (M:=22)
 refine aB (cx:=af gl 22 pu) (rs:=[.tmp 2]) rfl Tryd.func68 rfl rfl rfl (by simp only[List.length_cons,List.length_nil];decide) (by simp only[go_sem]) ?_
 simp only[bq,go_sem]
 have hy:=True.intro
 have h83n:∀m:Nat,m< 9223372036854775808→pu 83 [.val (nI m)] =some (sl bC (.own 1) (aA m)):=fun m h=>h83 m (by omega)
 have hk8:=d8 l.length (by omega)
 have hb1:=True.intro
 refine Tr.w hcx [] _ [] rfl rfl rfl ?_ mN
 refine Tr.w hcx [1000007] _ [] rfl rfl rfl ?_ mN
 refine aa fun K1 hK1=>?_
 refine Tr.w hcx [] _ [] rfl rfl rfl ?_ mN
 refine Tr.k [0,3,4] ?_
 refine Tr.blk ?_
 refine aN (α:=Nat) (fun a=>[(0,?v0_1),(3,sl bC (.own 1) (aA l.length++(l.take a).flatMap wb)),(4,.val (nI a))]) (fun a=>?h_1) (fun a=>a≤l.length) (fun a=>l.length - a) (0) ?_ ?le_1 ?hh_1 ?bd_1
 case hh_1=>exact rfl
 case le_1=>(simp only[aZ,aK,↓aY,↓reduceIte,Nat.reduceEqDiff,aC,aP,aD,aL,aQ,and_true,true_and];all_goals (repeat' first|exact CLe.refl _|exact True.intro| (refine an ?_;first|rfl| (simp only[List.take_zero];done)) |exact a7 (by omega) |exact ay (by omega) |exact aS (by omega) |exact aW (by omega) |with_reducible apply And.intro));all_goals (exact cg (by simp))
 . omega
 rintro i hi
 have hb0:=sr l hf i hi
 refine aa fun K2 hK2=>?_
 refine Tr.w hcx [] _ [] rfl rfl rfl ?_ mN
 refine aq rfl (fun hc11=>?_) (fun hc11=>?_)
 ·
  have hb2:=vJ l i hc11
  have hb3:=nM (gt l i) (by omega)
  have hb1:=hb3
  refine Tr.skip ?_
  refine hK2 _ ?_
  refine aa fun K3 hK3=>?_
  refine Tr.blk ?_
  refine Tr.v hcx [14,1000020] _ [] rfl rfl rfl ?_ mN
  refine hK3 _ ?_
  refine Tr.v hcx [1000013] _ [] rfl rfl rfl ?_ mN
  refine ⟨i+1,⟨by omega,O1⟩,?_,rfl⟩
  (simp only[aZ,aK,↓aY,↓reduceIte,Nat.reduceEqDiff,aC,aP,aD,aL,aQ,and_true,true_and];all_goals (repeat' first|exact CLe.refl _|exact True.intro| (refine an ?_;first|rfl| (simp only[List.take_zero];done)) |exact a7 (by omega) |exact ay (by omega) |exact aS (by omega) |exact aW (by omega) |with_reducible apply And.intro))
  all_goals (refine cg ?_;rw[←g6 wb l i hc11];simp)
 obtain rfl:i=l.length:=by omega
 refine Tr.exit ?_
 refine hK1 _ ?_
 refine Tr.w hcx [1000021] _ [] rfl rfl rfl ?_ mN
 exact Tr.ret aa4
theorem lh {p:Prop}(e:p:=by intro KZ hZ;simp -implicitDefEqProofs (disch:=first|omega| (simp only[go_sem,lA,lD,lT,hb1] <;>omega) |decide) only[go_sem,↓reduceIte,Nat.reduceEqDiff,reduceCtorEq,Nat.reduceLT,Nat.reduceBEq,Nat.reduceAdd,h39n,hy];with_reducible exact hZ):p:=e
theorem aa5 {p:Prop}(e:p:=by simp -implicitDefEqProofs (disch:=first|omega| (simp only[go_sem,lA,lD,lT,hb1] <;>omega) |decide) only[go_sem,↓reduceIte,Nat.reduceEqDiff,reduceCtorEq];all_goals (rw[List.take_length];rfl)):p:=e
theorem ajk {gl:Nat→C}{M:Nat}{pu:Nat→List C→Option C}(hcx:CxOK (af gl M pu))(h39:∀n:Int,-9223372036854775808≤n∧n≤9223372036854775807→pu 39 [.val (.int .i64 n)] =some (sl bC (.own 1) (aA n)))(l:List ba)(hl:l.length< 1099511627776):FC Tryd.prog gl 66 [sl dC .no l] [] (sl bC (.own 1) (db l)) []:=by
 replace hcx:=hcx.reN (M:=20)
 refine aB (cx:=af gl 20 pu) (rs:=[.tmp 2]) rfl Tryd.func66 rfl rfl rfl (by simp only[List.length_cons,List.length_nil];decide) (by simp only[go_sem]) ?_
 simp only[bq,go_sem]
 have hy:=True.intro
 have h39n:∀m:Nat,m< 9223372036854775808→pu 39 [.val (nI m)] =some (sl bC (.own 1) (aA m)):=fun m h=>h39 m (by omega)
 have hk8:=d8 l.length (by omega)
 have hb1:=True.intro
 refine Tr.w hcx [] _ [] rfl rfl rfl ?_ lh
 refine Tr.w hcx [1000008] _ [] rfl rfl rfl ?_ lh
 refine aa fun K1 hK1=>?_
 refine Tr.w hcx [] _ [] rfl rfl rfl ?_ lh
 refine Tr.k [3,9,10,11] ?_
 refine Tr.blk ?_
 refine aN (α:=Nat) (fun a=>[(3,sl bC (.own 1) (aA l.length++(l.take a).flatMap (·.1))),(9,?v9_1),(10,?v10_1),(11,.val (nI a))]) (fun a=>[]) (fun a=>a≤l.length) (fun a=>l.length - a) (0) ?_ ?le_1 ?hh_1 ?bd_1
 case hh_1=>exact rfl
 case le_1=>(simp only[aZ,aK,↓aY,↓reduceIte,Nat.reduceEqDiff,aC,aP,aD,aL,aQ,and_true,true_and];all_goals (repeat' first|exact CLe.refl _|exact True.intro| (refine an ?_;first|rfl| (simp only[List.take_zero];done)) |exact a7 (by omega) |exact ay (by omega) |exact aS (by omega) |exact aW (by omega) |with_reducible apply And.intro));all_goals (exact cg (by simp))
 . omega
 rintro i hi
 have hb0:=oa l i hi
 refine Tr.w hcx [] _ [] rfl rfl rfl ?_ lh
 refine aa fun K2 hK2=>?_
 refine aq rfl (fun hc12=>?_) (fun hc12=>?_)
 ·
  have hb1:=(gt l i).2
  refine Tr.skip ?_
  refine hK2 _ ?_
  refine aa fun K3 hK3=>?_
  refine Tr.blk ?_
  refine Tr.w hcx [] _ [none] rfl rfl rfl ?_ lh
  refine Tr.v hcx [15,1000017] _ [] rfl rfl rfl ?_ lh
  refine hK3 _ ?_
  refine Tr.k [3,9,10,11] ?_
  refine wa hcx 0 (by decide) ?_ ?_ ?_
  . simp only[oN,kF,go_sem,Bool.true_and] <;>decide
  . simp only[List.take_succ_cons,List.take_zero,oO,nl,jc,go_sem,Bool.true_and] <;>decide
  simp only[List.take_succ_cons,List.take_zero]
  refine Tr.v hcx [] _ [] rfl rfl rfl ?_ lh
  refine ⟨i+1,⟨by omega,O1⟩,?_,rfl⟩
  (simp only[aZ,aK,↓aY,↓reduceIte,Nat.reduceEqDiff,aC,aP,aD,aL,aQ,and_true,true_and];all_goals (repeat' first|exact CLe.refl _|exact True.intro| (refine an ?_;first|rfl| (simp only[List.take_zero];done)) |exact a7 (by omega) |exact ay (by omega) |exact aS (by omega) |exact aW (by omega) |with_reducible apply And.intro))
  all_goals (refine cg ?_;rw[←g6 _ l i hc12];simp)
 obtain rfl:i=l.length:=by omega
 refine Tr.exit ?_
 refine hK1 _ ?_
 refine Tr.w hcx [1000019] _ [] rfl rfl rfl ?_ lh
 exact Tr.ret aa5
theorem jp {p:Prop}(e:p:=by intro KZ hZ;simp -implicitDefEqProofs (disch:=first|omega| (simp only[go_sem,lA,lD,lT,hb1] <;>omega) |decide) only[go_sem,↓reduceIte,Nat.reduceEqDiff,reduceCtorEq,Nat.reduceLT,Nat.reduceBEq,Nat.reduceAdd,h83n,hy];with_reducible exact hZ):p:=e
theorem aa6 {p:Prop}(e:p:=by simp -implicitDefEqProofs (disch:=first|omega| (simp only[go_sem,lA,lD,lT,hb1] <;>omega) |decide) only[go_sem,↓reduceIte,Nat.reduceEqDiff,reduceCtorEq];all_goals (rw[List.take_length];rfl)):p:=e
theorem ajl {gl:Nat→C}{M:Nat}{pu:Nat→List C→Option C}(hcx:CxOK (af gl M pu))(h83:∀n:Int,-9223372036854775808≤n∧n≤9223372036854775807→pu 83 [.val (.int .i64 n)] =some (sl bC (.own 1) (aA n)))(l:List ba)(hl:l.length< 1099511627776):FC Tryd.prog gl 69 [sl dC .no l] [] (sl bC (.own 1) (db l)) []:=by
 replace hcx:=hcx.reN (M:=29)
 refine aB (cx:=af gl 29 pu) (rs:=[.tmp 2]) rfl Tryd.func69 rfl rfl rfl (by simp only[List.length_cons,List.length_nil];decide) (by simp only[go_sem]) ?_
 simp only[bq,go_sem]
 have hy:=True.intro
 have h83n:∀m:Nat,m< 9223372036854775808→pu 83 [.val (nI m)] =some (sl bC (.own 1) (aA m)):=fun m h=>h83 m (by omega)
 have hk8:=d8 l.length (by omega)
 have hb1:=True.intro
 refine Tr.w hcx [] _ [] rfl rfl rfl ?_ jp
 refine Tr.w hcx [1000008] _ [] rfl rfl rfl ?_ jp
 refine aa fun K1 hK1=>?_
 refine Tr.w hcx [] _ [] rfl rfl rfl ?_ jp
 refine Tr.k [0,3,4] ?_
 refine Tr.blk ?_
 refine aN (α:=Nat) (fun a=>[(0,?v0_1),(3,sl bC (.own 1) (aA l.length++(l.take a).flatMap (·.1))),(4,.val (nI a))]) (fun a=>?h_1) (fun a=>a≤l.length) (fun a=>l.length - a) (0) ?_ ?le_1 ?hh_1 ?bd_1
 case hh_1=>exact rfl
 case le_1=>(simp only[aZ,aK,↓aY,↓reduceIte,Nat.reduceEqDiff,aC,aP,aD,aL,aQ,and_true,true_and];all_goals (repeat' first|exact CLe.refl _|exact True.intro| (refine an ?_;first|rfl| (simp only[List.take_zero];done)) |exact a7 (by omega) |exact ay (by omega) |exact aS (by omega) |exact aW (by omega) |with_reducible apply And.intro));all_goals (exact cg (by simp))
 . omega
 rintro i hi
 have hb0:=oa l i hi
 refine aa fun K2 hK2=>?_
 refine Tr.w hcx [] _ [] rfl rfl rfl ?_ jp
 refine aq rfl (fun hc12=>?_) (fun hc12=>?_)
 ·
  have hb1:=(gt l i).2
  refine Tr.skip ?_
  refine hK2 _ ?_
  refine aa fun K3 hK3=>?_
  refine Tr.blk ?_
  refine Tr.w hcx [] _ [] rfl rfl rfl ?_ jp
  refine Tr.k [0,3,4,5] ?_
  refine Tr.blk ?_
  refine aN (α:=Nat) (fun a=>[(0,?v0_2),(3,sl bC (.own 1) (aA l.length++(l.take i).flatMap (·.1)++(gt l i).1.take a)),(4,?v4_2),(5,.val (nI a))]) (fun a=>?h_2) (fun a=>a≤16) (fun a=>16 - a) (0) ?_ ?le_2 ?hh_2 ?bd_2
  case hh_2=>exact rfl
  case le_2=>(simp only[aZ,aK,↓aY,↓reduceIte,Nat.reduceEqDiff,aC,aP,aD,aL,aQ,and_true,true_and];all_goals (repeat' first|exact CLe.refl _|exact True.intro| (refine an ?_;first|rfl| (simp only[List.take_zero];done)) |exact a7 (by omega) |exact ay (by omega) |exact aS (by omega) |exact aW (by omega) |with_reducible apply And.intro));all_goals (exact cg (by simp))
  . omega
  rintro j hj
  refine aa fun K4 hK4=>?_
  refine Tr.w hcx [] _ [] rfl rfl rfl ?_ jp
  refine aq rfl (fun hc16=>?_) (fun hc16=>?_)
  ·
   refine Tr.skip ?_
   refine hK4 _ ?_
   refine aa fun K5 hK5=>?_
   refine Tr.blk ?_
   refine Tr.v hcx [19,1000027] _ [] rfl rfl rfl ?_ jp
   refine hK5 _ ?_
   refine Tr.v hcx [1000018] _ [] rfl rfl rfl ?_ jp
   refine ⟨j+1,⟨by omega,O1⟩,?_,rfl⟩
   (simp only[aZ,aK,↓aY,↓reduceIte,Nat.reduceEqDiff,aC,aP,aD,aL,aQ,and_true,true_and];all_goals (repeat' first|exact CLe.refl _|exact True.intro| (refine an ?_;first|rfl| (simp only[List.take_zero];done)) |exact a7 (by omega) |exact ay (by omega) |exact aS (by omega) |exact aW (by omega) |with_reducible apply And.intro))
   all_goals (refine cg ?_;rw[←TU l i j (by omega)];simp)
  obtain rfl:j=16:=by omega
  refine Tr.exit ?_
  refine hK3 _ ?_
  refine Tr.v hcx [1000014] _ [] rfl rfl rfl ?_ jp
  refine ⟨i+1,⟨by omega,O1⟩,?_,rfl⟩
  (simp only[aZ,aK,↓aY,↓reduceIte,Nat.reduceEqDiff,aC,aP,aD,aL,aQ,and_true,true_and];all_goals (repeat' first|exact CLe.refl _|exact True.intro| (refine an ?_;first|rfl| (simp only[List.take_zero];done)) |exact a7 (by omega) |exact ay (by omega) |exact aS (by omega) |exact aW (by omega) |with_reducible apply And.intro))
  all_goals (refine cg ?_;rw[←g6 _ l i hc12,List.take_of_length_le (l:=(gt l i).1) (by rw[(gt l i).2];omega)];simp)
 obtain rfl:i=l.length:=by omega
 refine Tr.exit ?_
 refine hK1 _ ?_
 refine Tr.w hcx [1000028] _ [] rfl rfl rfl ?_ jp
 exact Tr.ret aa6
end Go.Sx
