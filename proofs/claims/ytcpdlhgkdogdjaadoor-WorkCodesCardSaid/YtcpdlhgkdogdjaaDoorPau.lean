/-
   And what follows.
-/
import Derived.Test.YtcpdlhgkdogdjaaDoorPat
import Derived.Test.YtcpdlhgkdogdjaaDoorPan
import Derived.Test.YtcpdlhgkdogdjaaDoorPas
set_option linter.unusedSimpArgs false
set_option linter.unusedVariables false
namespace Go.Sx
open Go.RowKit Go.Proofs
set_option maxRecDepth 100000
set_option maxHeartbeats 8000000
theorem i8 {p:Prop}(e:p:=by intro KZ hZ;simp -implicitDefEqProofs (disch:=first|omega| (simp only[go_sem,lA,lD,lT] <;>omega) |decide) only[go_sem,↓reduceIte,Nat.reduceEqDiff,reduceCtorEq,Nat.reduceLT,Nat.reduceBEq,Nat.reduceAdd,h60,c0,c1,hy];with_reducible exact hZ):p:=e
theorem AI {p:Prop}(e:p:=by intro KZ hZ;simp -implicitDefEqProofs (disch:=first|omega| (simp only[go_sem,lA,lD,lT] <;>omega) |decide) only[go_sem,↓reduceIte,Nat.reduceEqDiff,reduceCtorEq,Nat.reduceLT,Nat.reduceBEq,Nat.reduceAdd,h60,c0,c1,hy];with_reducible refine And.intro ?_ hZ;first|exact rfl|decide):p:=e
theorem ZX {gl:Nat→C}{M:Nat}{pu:Nat→List C→Option C}(hcx:CxOK (ax gl M pu))(h60:∀a b:ID,pu 60 [.agg (iD a),.agg (iD b)] =some (.val (.bool (decide (a=b)))))(l m:List ID)(ha:l.length< 1099511627776)(hb:m.length< 1099511627776):FC Tryd.prog gl 27 [sl iD .no l,sl iD .no m] [] (.val (.bool (decide (l=m)))) []:=by
 replace hcx:=hcx.reN (M:=27);refine aH (cx:=ax gl 27 pu) (rs:=[.tmp 4]) rfl Tryd.func27 rfl rfl rfl (by simp only[List.length_cons,List.length_nil];decide) (by simp only[go_sem]) ?_;simp only[bj,go_sem];have ⟨c0,c1,hy⟩:=ia;refine Tr.w hcx [] _ [] rfl rfl rfl ?_ i8;refine aa fun K1 hK1=>?_;by_cases c0: (l.length=m.length) =True
 ·
  have hlm:=of_eq_true c0;refine Tr.w hcx [] _ [] rfl rfl rfl ?_ i8;refine aq rfl ?_;refine Tr.skip ?_;refine hK1 _ ?_;refine aa fun K2 hK2=>?_;refine Tr.w hcx [] _ [] rfl rfl rfl ?_ i8;refine Tr.k [0,1,5] ?_;refine Tr.blk ?_;refine ao (α:=Nat) (fun a=>[(0,?v0_1),(1,?v1_1),(5,.val (nI a))]) (fun a=>[]) (fun a=>a≤l.length∧∀j,j< a→gt l j=gt m j) (fun a=>l.length - a) (0) ⟨Nat.zero_le _,fun j hj=>by omega⟩ ?le_1 ?hh_1 ?bd_1
  case hh_1=>exact rfl
  case le_1=>exact LT
  rintro i ⟨hi,hn⟩;refine aa fun K3 hK3=>?_;refine Tr.w hcx [] _ [] rfl rfl rfl ?_ i8;refine af rfl (fun hc14=>?_) (fun hc14=>?_)
  ·
   refine Tr.skip ?_;refine hK3 _ ?_;refine aa fun K4 hK4=>?_;refine Tr.blk ?_;by_cases c1:gt l i=gt m i
   ·
    refine cf hcx bM [] _ [] rfl rfl rfl rfl ?_ AI;refine aq rfl ?_;refine Tr.skip ?_;refine hK4 _ ?_;refine Tr.v hcx [1000016] _ [] rfl rfl rfl ?_ i8;exact ⟨i+1,⟨⟨by omega,fun j hj=>(Nat.lt_succ_iff_lt_or_eq.1 hj).elim (hn j) (fun e=>by subst e;exact c1)⟩,O1⟩,LT,rfl⟩
   refine cf hcx bM [] _ [] rfl rfl rfl rfl ?_ AI;refine aG rfl ?_;have hR:¬l=m:=fun h=>c1 (by rw[h]);refine Tr.w hcx [] _ [] rfl rfl rfl ?_ i8;exact Tr.ret qQ
  obtain rfl:i=l.length:=by omega
  have hR:=O0 hlm hn;refine Tr.exit ?_;refine hK2 _ ?_;refine Tr.w hcx [] _ [] rfl rfl rfl ?_ i8;exact Tr.ret qQ
 have c0: (l.length=m.length) =False:=eq_false (fun h=>c0 (eq_true h));refine Tr.w hcx [] _ [] rfl rfl rfl ?_ i8;refine aG rfl ?_;have hR:¬l=m:=fun h=>of_eq_false c0 (by rw[h]);refine Tr.w hcx [] _ [] rfl rfl rfl ?_ i8;exact Tr.ret qQ
theorem lU {p:Prop}(e:p:=by intro KZ hZ;simp -implicitDefEqProofs (disch:=first|omega| (simp only[go_sem,lA,lD,lT] <;>omega) |decide) only[go_sem,↓reduceIte,Nat.reduceEqDiff,reduceCtorEq,Nat.reduceLT,Nat.reduceBEq,Nat.reduceAdd,h60,e27,c1,c2,c3,c4,hy];with_reducible exact hZ):p:=e
theorem oz {p:Prop}(e:p:=by simp -implicitDefEqProofs (disch:=first|omega| (simp only[go_sem,lA,lD,lT] <;>omega) |decide) only[go_sem,↓reduceIte,Nat.reduceEqDiff,reduceCtorEq];all_goals (simp[UM,c1,c2,c3,c4])):p:=e
theorem ZY {gl:Nat→C}{M:Nat}{pu:Nat→List C→Option C}(hcx:CxOK (ax gl M pu))(h60:∀a b:ID,pu 60 [.agg (iD a),.agg (iD b)] =some (.val (.bool (decide (a=b)))))(h27:∀l m:List ID,l.length< 1099511627776→m.length< 1099511627776→pu 27 [sl iD .no l,sl iD .no m] =some (.val (.bool (decide (l=m)))))(a b:aI)(ha:a.2.2.2.2.length< 1099511627776)(hb:b.2.2.2.2.length< 1099511627776):FC Tryd.prog gl 36 [.agg (pC a),.agg (pC b)] [] (.val (.bool (decide (a=b)))) []:=by
 replace hcx:=hcx.reN (M:=38);refine aH (cx:=ax gl 38 pu) (rs:=[.tmp 4]) rfl Tryd.func36 rfl rfl rfl (by simp only[List.length_cons,List.length_nil];decide) (by simp only[go_sem]) ?_;simp only[bj,go_sem];have ⟨c1,c2,c3,c4,hy⟩:=AX;have e27:=h27 _ _ ha hb;refine Tr.w hcx [] _ [none,none] rfl rfl rfl ?_ lU;refine Tr.k [2,3] ?_;by_cases c1:a.1=b.1
 ·
  by_cases c2:a.2.1=b.2.1
  ·
   by_cases c3:a.2.2.1=b.2.2.1
   ·
    by_cases c4:a.2.2.2.1=b.2.2.2.1
    ·
     skip;refine Tr.w hcx [1000037] [some 5,some 6,some 7,some 8,some 9,some 10,some 11,some 12,some 13,some 14,some 15,some 16,some 17,some 18,some 19,some 20,some 21,some 22,some 23,some 24,some 25,some 26,some 27,some 28,some 29,some 30,some 31,some 32,some 33,some 34,some 35,some 36,some 37,some 4] [] rfl rfl rfl ?_ lU;refine Tr.k [4] ?_;exact Tr.ret oz
    skip;refine Tr.w hcx [1000037] [some 5,some 6,some 7,some 8,some 9,some 10,some 11,some 12,some 13,some 14,some 15,some 16,some 17,some 18,some 19,some 20,some 21,some 22,some 23,some 24,some 25,some 26,some 27,some 28,some 29,some 30,some 31,some 32,some 33,some 34,some 35,some 36,some 37,some 4] [] rfl rfl rfl ?_ lU;refine Tr.k [4] ?_;exact Tr.ret oz
   have c4:=True.intro;refine Tr.w hcx [1000037] [some 5,some 6,some 7,some 8,some 9,some 10,some 11,some 12,some 13,some 14,some 15,some 16,some 17,some 18,some 19,some 20,some 21,some 22,some 23,some 24,some 25,some 26,some 27,some 28,some 29,some 30,some 31,some 32,some 33,some 34,some 35,some 36,some 37,some 4] [] rfl rfl rfl ?_ lU;refine Tr.k [4] ?_;exact Tr.ret oz
  have ⟨c3,c4⟩:=fo;refine Tr.w hcx [1000037] [some 5,some 6,some 7,some 8,some 9,some 10,some 11,some 12,some 13,some 14,some 15,some 16,some 17,some 18,some 19,some 20,some 21,some 22,some 23,some 24,some 25,some 26,some 27,some 28,some 29,some 30,some 31,some 32,some 33,some 34,some 35,some 36,some 37,some 4] [] rfl rfl rfl ?_ lU;refine Tr.k [4] ?_;exact Tr.ret oz
 have ⟨c2,c3,c4⟩:=ia;refine Tr.w hcx [1000037] [some 5,some 6,some 7,some 8,some 9,some 10,some 11,some 12,some 13,some 14,some 15,some 16,some 17,some 18,some 19,some 20,some 21,some 22,some 23,some 24,some 25,some 26,some 27,some 28,some 29,some 30,some 31,some 32,some 33,some 34,some 35,some 36,some 37,some 4] [] rfl rfl rfl ?_ lU;refine Tr.k [4] ?_;exact Tr.ret oz
theorem ja {p:Prop}(e:p:=by intro KZ hZ;simp -implicitDefEqProofs (disch:=first|omega| (simp only[go_sem,lA,lD,lT] <;>omega) |decide) only[go_sem,↓reduceIte,Nat.reduceEqDiff,reduceCtorEq,Nat.reduceLT,Nat.reduceBEq,Nat.reduceAdd,e36,c0,c1,hy];with_reducible exact hZ):p:=e
theorem AJ {p:Prop}(e:p:=by intro KZ hZ;simp -implicitDefEqProofs (disch:=first|omega| (simp only[go_sem,lA,lD,lT] <;>omega) |decide) only[go_sem,↓reduceIte,Nat.reduceEqDiff,reduceCtorEq,Nat.reduceLT,Nat.reduceBEq,Nat.reduceAdd,e36,c0,c1,hy];with_reducible refine And.intro ?_ hZ;first|exact rfl|decide):p:=e
theorem ZZ {gl:Nat→C}{M:Nat}{pu:Nat→List C→Option C}(hcx:CxOK (ax gl M pu))(h36:∀a b:aI,a.2.2.2.2.length< 1099511627776→b.2.2.2.2.length< 1099511627776→pu 36 [.agg (pC a),.agg (pC b)] =some (.val (.bool (decide (a=b)))))(l m:List aI)(ha:l.length< 1099511627776)(hb:m.length< 1099511627776)(hla: (∀i,i< (l).length→(gt (l) i).2.2.2.2.length< 1099511627776))(hmb: (∀i,i< (m).length→(gt (m) i).2.2.2.2.length< 1099511627776)):FC Tryd.prog gl 23 [sl pC .no l,sl pC .no m] [] (.val (.bool (decide (l=m)))) []:=by
 replace hcx:=hcx.reN (M:=27);refine aH (cx:=ax gl 27 pu) (rs:=[.tmp 4]) rfl Tryd.func23 rfl rfl rfl (by simp only[List.length_cons,List.length_nil];decide) (by simp only[go_sem]) ?_;simp only[bj,go_sem];have ⟨c0,c1,hy,e36⟩:=jd;refine Tr.w hcx [] _ [] rfl rfl rfl ?_ ja;refine aa fun K1 hK1=>?_;by_cases c0: (l.length=m.length) =True
 ·
  have hlm:=of_eq_true c0;refine Tr.w hcx [] _ [] rfl rfl rfl ?_ ja;refine aq rfl ?_;refine Tr.skip ?_;refine hK1 _ ?_;refine aa fun K2 hK2=>?_;refine Tr.w hcx [] _ [] rfl rfl rfl ?_ ja;refine Tr.k [0,1,5] ?_;refine Tr.blk ?_;refine ao (α:=Nat) (fun a=>[(0,?v0_1),(1,?v1_1),(5,.val (nI a))]) (fun a=>[]) (fun a=>a≤l.length∧∀j,j< a→gt l j=gt m j) (fun a=>l.length - a) (0) ⟨Nat.zero_le _,fun j hj=>by omega⟩ ?le_1 ?hh_1 ?bd_1
  case hh_1=>exact rfl
  case le_1=>exact LT
  rintro i ⟨hi,hn⟩;refine aa fun K3 hK3=>?_;refine Tr.w hcx [] _ [] rfl rfl rfl ?_ ja;refine af rfl (fun hc14=>?_) (fun hc14=>?_)
  ·
   have e36:=h36 (gt l i) (gt m i) (hla i hc14) (hmb i (by omega));refine Tr.skip ?_;refine hK3 _ ?_;refine aa fun K4 hK4=>?_;refine Tr.blk ?_;by_cases c1:gt l i=gt m i
   ·
    rw[c1] at e36;refine cf hcx bM [] _ [] rfl rfl rfl rfl ?_ AJ;refine aq rfl ?_;refine Tr.skip ?_;refine hK4 _ ?_;refine Tr.v hcx [1000016] _ [] rfl rfl rfl ?_ ja;exact ⟨i+1,⟨⟨by omega,fun j hj=>(Nat.lt_succ_iff_lt_or_eq.1 hj).elim (hn j) (fun e=>by subst e;exact c1)⟩,O1⟩,LT,rfl⟩
   skip;refine cf hcx bM [] _ [] rfl rfl rfl rfl ?_ AJ;refine aG rfl ?_;have hR:¬l=m:=fun h=>c1 (by rw[h]);refine Tr.w hcx [] _ [] rfl rfl rfl ?_ ja;exact Tr.ret qQ
  obtain rfl:i=l.length:=by omega
  have hR:=Kj hlm hn;refine Tr.exit ?_;refine hK2 _ ?_;refine Tr.w hcx [] _ [] rfl rfl rfl ?_ ja;exact Tr.ret qQ
 have c0: (l.length=m.length) =False:=eq_false (fun h=>c0 (eq_true h));refine Tr.w hcx [] _ [] rfl rfl rfl ?_ ja;refine aG rfl ?_;have hR:¬l=m:=fun h=>of_eq_false c0 (by rw[h]);refine Tr.w hcx [] _ [] rfl rfl rfl ?_ ja;exact Tr.ret qQ
def pv (w:ah):List UInt8:=(ve (gZ 6 [eJ w])).take 16
theorem pw (w:ah): (pv w).length=16:=by unfold pv;rw[List.length_take,L8];rfl
theorem Gb {w:ah}(h: (eJ w).length≤100000000000): (gZ 6 [eJ w]).length< 1099511627776:=by
 unfold gZ;have q:=ov (eJ w) (by omega);simp only[List.flatMap_cons,List.flatMap_nil,List.append_nil,List.length_cons];omega
theorem dx {p:Prop}(e:p:=by intro KZ hZ;simp -implicitDefEqProofs (maxSteps:=2000000) (disch:=first|omega| (simp only[go_sem,lA,lD,lT,hVl,hXl] <;>omega) |decide) only[go_sem,↓reduceIte,Nat.reduceEqDiff,reduceCtorEq,Nat.reduceLT,Nat.reduceBEq,Nat.reduceAdd,e23,hVx,hXx,hAx,hBx,c0,c1,c2,c3,hy];with_reducible exact hZ):p:=e
theorem AK {p:Prop}(e:p:=by intro KZ hZ;simp -implicitDefEqProofs (maxSteps:=2000000) (disch:=first|omega| (simp only[go_sem,lA,lD,lT,hVl,hXl] <;>omega) |decide) only[go_sem,↓reduceIte,Nat.reduceEqDiff,reduceCtorEq,Nat.reduceLT,Nat.reduceBEq,Nat.reduceAdd,e23,hVx,hXx,hAx,hBx,c0,c1,c2,c3,hy];with_reducible refine And.intro ?_ hZ;first|exact rfl|decide):p:=e
theorem oB {p:Prop}(e:p:=by simp -implicitDefEqProofs (disch:=first|omega| (simp only[go_sem,lA,lD,lT,hVl,hXl] <;>omega) |decide) only[go_sem,↓reduceIte,Nat.reduceEqDiff,reduceCtorEq];all_goals (simp[hR])):p:=e
theorem Z0 {gl:Nat→C}{M:Nat}{pu:Nat→List C→Option C}(hcx:CxOK (ax gl M pu))(h23:∀l m:List aI,l.length< 1099511627776→m.length< 1099511627776→(∀p,p∈l→SP p)→(∀p,p∈m→SP p)→pu 23 [sl pC .no l,sl pC .no m] =some (.val (.bool (decide (l=m)))))(w x:ah)(hw:uc w)(hx:uc x):FC Tryd.prog gl 39 [.agg [sl vC .no w],.agg [sl vC .no x]] [] (.val (.bool (decide (w=x)))) []:=by
 replace hcx:=hcx.reN (M:=80);refine aH (cx:=ax gl 80 pu) (rs:=[.tmp 4]) rfl Tryd.func39 rfl rfl rfl (by simp only[List.length_cons,List.length_nil];decide) (by simp only[go_sem]) ?_;simp only[bj,go_sem];have ⟨c0,c1,c2,c3,hy,e23,hVx,hXx,hAx,hBx,hVl,hXl⟩:=XL;have hw1:=hw.1;have hx1:=hx.1;refine Tr.w hcx [] _ [none,none] rfl rfl rfl ?_ dx;refine aa fun K1 hK1=>?_;by_cases c0:w.length=x.length
 ·
  have c0o:=c0;replace c0:=eq_true c0;refine aL hcx 0 [sl vC .no w] ?_;refine aL hcx 1 [sl vC .no x] ?_;refine Tr.w hcx [] _ [] rfl rfl rfl ?_ dx;refine aq rfl ?_;refine Tr.skip ?_;refine hK1 _ ?_;refine aa fun K2 hK2=>?_;refine Tr.w hcx [] _ [] rfl rfl rfl ?_ dx;refine Tr.k [2,3,5] ?_;refine Tr.blk ?_;refine aW hcx [] ?_;refine ao (α:=Nat) (fun a=>[(2,?v2_1),(3,?v3_1),(5,.val (nI a))]) (fun a=>[]) (fun a=>a≤w.length∧∀j,j< a→gt w j=gt x j) (fun a=>w.length - a) (0) ⟨Nat.zero_le _,fun j hj=>by omega⟩ ?le_1 ?hh_1 ?bd_1
  case hh_1=>exact rfl
  case le_1=>exact LT
  rintro i ⟨hi,hn⟩;refine aa fun K3 hK3=>?_;refine Tr.w hcx [] _ [] rfl rfl rfl ?_ dx;refine af rfl (fun hc20=>?_) (fun hc20=>?_)
  ·
   have hix:i< x.length:=by omega
   have hVs:=hw.2 _ (bc w i hc20);have hXs:=hx.2 _ (bc x i hix);obtain ⟨V,hVx⟩:∃V,gt w i=V:=⟨_,rfl⟩;obtain ⟨X,hXx⟩:∃X,gt x i=X:=⟨_,rfl⟩;rw[hVx] at hVs;rw[hXx] at hXs;have hVl:=hVs.1;have hXl:=hXs.1;refine Tr.skip ?_;refine hK3 _ ?_;refine aa fun K4 hK4=>?_;refine Tr.blk ?_;refine aa fun K5 hK5=>?_;by_cases c1:V.length=X.length
   ·
    have c1o:=c1;replace c1:=eq_true c1;refine cf hcx bM [] _ [] rfl rfl rfl rfl ?_ AK;refine aq rfl ?_;refine Tr.skip ?_;refine hK5 _ ?_;refine Tr.w hcx [] _ [] rfl rfl rfl ?_ dx;refine Tr.k [2,3,5,6] ?_;refine Tr.blk ?_;refine ao (α:=Nat) (fun a=>[(2,?v2_2),(3,?v3_2),(5,?v5_2),(6,.val (nI a))]) (fun a=>[]) (fun a=>a≤V.length∧∀j,j< a→gt V j=gt X j) (fun a=>V.length - a) (0) ⟨Nat.zero_le _,fun j hj=>by omega⟩ ?le_2 ?hh_2 ?bd_2
    case hh_2=>exact rfl
    case le_2=>exact LT
    rintro k ⟨hk,hm⟩;refine aa fun K6 hK6=>?_;refine Tr.w hcx [] _ [] rfl rfl rfl ?_ dx;refine af rfl (fun hc46=>?_) (fun hc46=>?_)
    ·
     have hkx:k< X.length:=by omega
     have hAs:=hVs.2 _ (bc V k hc46);have hBs:=hXs.2 _ (bc X k hkx);obtain ⟨A,hAx⟩:∃A,gt V k=A:=⟨_,rfl⟩;obtain ⟨B,hBx⟩:∃B,gt X k=B:=⟨_,rfl⟩;rw[hAx] at hAs;rw[hBx] at hBs;have e23:=h23 A.2 B.2 hAs.1 hBs.1 hAs.2 hBs.2;refine Tr.skip ?_;refine hK6 _ ?_;refine aa fun K7 hK7=>?_;refine Tr.blk ?_;refine Tr.w hcx [] _ [none] rfl rfl rfl ?_ dx;refine Tr.k [2,3,5,6,7] ?_;refine aL hcx 0 (aC A) ?_;refine aW hcx [] ?_;refine Tr.w hcx [] _ [none] rfl rfl rfl ?_ dx;refine Tr.k [2,3,5,6,7,8] ?_;by_cases c2:A.1=B.1
     ·
      have c2o:=c2;by_cases c3:A.2=B.2
      ·
       have c3o:=c3;rw[decide_eq_true c3o] at e23;replace c3:=True.intro;refine aL hcx 0 (aC B) ?_;refine aW hcx [] ?_;refine Tr.w hcx [] [some 67,some 68,some 69,some 70,some 71,some 72,some 73,some 74,some 75,some 76,some 77,some 78,some 79] [] rfl rfl rfl ?_ dx;refine aq rfl ?_;refine Tr.skip ?_;refine hK7 _ ?_;have hAB:gt V k=gt X k:=by rw[hAx,hBx];exact WK c2o c3o
       refine Tr.v hcx [1000048] _ [] rfl rfl rfl ?_ dx;exact ⟨k+1,⟨⟨by omega,fun j hj=>(Nat.lt_succ_iff_lt_or_eq.1 hj).elim (hm j) (fun e=>by subst e;exact hAB)⟩,O1⟩,LT,rfl⟩
      have c3o:=c3;rw[decide_eq_false c3o] at e23;replace c3:=True.intro;have hNE:¬A=B:=fun e=>c3o (by rw[e]);refine aL hcx 0 (aC B) ?_;refine aW hcx [] ?_;refine Tr.w hcx [] [some 67,some 68,some 69,some 70,some 71,some 72,some 73,some 74,some 75,some 76,some 77,some 78,some 79] [] rfl rfl rfl ?_ dx;refine aG rfl ?_;have hR:¬w=x:=ub (j:=i) fun e:gt w i=gt x i=>absurd (show V=X by rw[←hVx,←hXx,e]) (ub (a:=V) (b:=X) (j:=k) fun e2:gt V k=gt X k=>hNE (by rw[←hAx,←hBx,e2]));refine Tr.w hcx [] _ [] rfl rfl rfl ?_ dx;exact Tr.ret oB
     have c2o:=c2;replace c2:=eq_false c2;have c3:=True.intro;have hNE:¬A=B:=fun e=>c2o (by rw[e]);refine aL hcx 0 (aC B) ?_;refine aW hcx [] ?_;refine Tr.w hcx [] [some 67,some 68,some 69,some 70,some 71,some 72,some 73,some 74,some 75,some 76,some 77,some 78,some 79] [] rfl rfl rfl ?_ dx;refine aG rfl ?_;have hR:¬w=x:=ub (j:=i) fun e:gt w i=gt x i=>absurd (show V=X by rw[←hVx,←hXx,e]) (ub (a:=V) (b:=X) (j:=k) fun e2:gt V k=gt X k=>hNE (by rw[←hAx,←hBx,e2]));refine Tr.w hcx [] _ [] rfl rfl rfl ?_ dx;exact Tr.ret oB
    refine Tr.exit ?_;refine hK4 _ ?_;obtain rfl:k=V.length:=by omega
    have hV:gt w i=gt x i:=by rw[hVx,hXx];exact F9 c1o hm
    refine Tr.v hcx [1000022] _ [] rfl rfl rfl ?_ dx;exact ⟨i+1,⟨⟨by omega,fun j hj=>(Nat.lt_succ_iff_lt_or_eq.1 hj).elim (hn j) (fun e=>by subst e;exact hV)⟩,O1⟩,LT,rfl⟩
   have c1o:=c1;replace c1:=eq_false c1;refine cf hcx bM [] _ [] rfl rfl rfl rfl ?_ AK;refine aG rfl ?_;have hR:¬w=x:=ub (j:=i) (fun e=>Ga c1o (by rw[←hVx,←hXx,e]));refine Tr.w hcx [] _ [] rfl rfl rfl ?_ dx;exact Tr.ret oB
  refine Tr.exit ?_;refine hK2 _ ?_;obtain rfl:i=w.length:=by omega
  have hR:=F9 c0o hn;refine Tr.w hcx [] _ [] rfl rfl rfl ?_ dx;exact Tr.ret oB
 have c0o:=c0;replace c0:=eq_false c0;refine aL hcx 0 [sl vC .no w] ?_;refine aL hcx 1 [sl vC .no x] ?_;refine Tr.w hcx [] _ [] rfl rfl rfl ?_ dx;refine aG rfl ?_;have hR:=Ga c0o;refine Tr.w hcx [] _ [] rfl rfl rfl ?_ dx;exact Tr.ret oB
theorem yW {p:Prop}(e:p:=by intro KZ hZ;simp -implicitDefEqProofs (disch:=first|omega| (simp only[go_sem,lA,lD,lT,hmm] <;>omega) |decide) only[go_sem,↓reduceIte,Nat.reduceEqDiff,reduceCtorEq,Nat.reduceLT,Nat.reduceBEq,Nat.reduceAdd,hy];with_reducible exact hZ):p:=e
theorem WL {p:Prop}(e:p:=by simp -implicitDefEqProofs (disch:=first|omega| (simp only[go_sem,lA,lD,lT,hmm] <;>omega) |decide) only[go_sem,↓reduceIte,Nat.reduceEqDiff,reduceCtorEq];all_goals (rw[show b.take (min b.length n) =b.take n from by rw[Nat.min_comm,←List.take_take,List.take_length]] <;>rfl)):p:=e
theorem adr {gl:Nat→C}{M:Nat}{pu:Nat→List C→Option C}(hcx:CxOK (ax gl M pu))(b:List UInt8)(n:Nat)(hn:n≤1000000)(hb:b.length< 9223372036854775808):FC Tryd.prog gl 44 [sl bC .no b,.val (nI n)] [] (sl bC (.own 1) (b.take n)) []:=by
 replace hcx:=hcx.reN (M:=14);refine aH (cx:=ax gl 14 pu) (rs:=[.tmp 4]) rfl Tryd.func44 rfl rfl rfl (by simp only[List.length_cons,List.length_nil];decide) (by simp only[go_sem]) ?_;simp only[bj,go_sem];have hy:=True.intro;have hmm:min b.length n≤1000000∧min b.length n≤b.length:=by omega
 refine Tr.w hcx [] _ [] rfl rfl rfl ?_ yW;refine Tr.w hcx [] _ [] rfl rfl rfl ?_ yW;refine Tr.w hcx [6,1000013] _ [] rfl rfl rfl ?_ yW;exact Tr.ret WL
theorem Gc {p:Prop}(e:p:=by intro KZ hZ;simp -implicitDefEqProofs (disch:=first|omega| (simp only[go_sem,lA,lD,lT,pw] <;>omega) |decide) only[go_sem,↓reduceIte,Nat.reduceEqDiff,reduceCtorEq,Nat.reduceLT,Nat.reduceBEq,Nat.reduceAdd,e42,e48,hy];with_reducible exact hZ):p:=e
theorem WM {p:Prop}(e:p:=by simp -implicitDefEqProofs (disch:=first|omega| (simp only[go_sem,lA,lD,lT,pw] <;>omega) |decide) only[go_sem,↓reduceIte,Nat.reduceEqDiff,reduceCtorEq];all_goals (rfl)):p:=e
theorem ads {gl:Nat→C}{M:Nat}{pu:Nat→List C→Option C}(hcx:CxOK (ax gl M pu))(h42:∀w:ah,EW w→pu 42 [.agg [sl vC .no w]] =some (sl bC (.own 1) (eJ w)))(h48:∀ (tag:Int) (parts:List (List UInt8)),(gZ tag parts).length< 1099511627776→pu 48 [.val (.int .i64 tag),sl sC .no parts] =some (.agg (cl bC ((ve (gZ tag parts)).take 16))))(w:ah)(hw:EW w):FC Tryd.prog gl 47 [.agg [sl vC .no w]] [] (.agg (cl bC (pv w))) []:=by
 replace hcx:=hcx.reN (M:=8);refine aH (cx:=ax gl 8 pu) (rs:=[.cell 2 80]) rfl Tryd.func47 rfl rfl rfl (by simp only[List.length_cons,List.length_nil];decide) (by simp only[go_sem]) ?_;simp only[bj,go_sem];have hy:=True.intro;have e42:=h42 w hw;have e48:pu 48 [.val (nI 6),sl sC .no [eJ w]] =some (.agg (cl bC (pv w))):=h48 6 [eJ w] (Gb hw.e);have hT:=hw.e;refine Tr.w hcx [] _ [none,none] rfl rfl rfl ?_ Gc;refine Tr.w hcx [] _ [] rfl rfl rfl ?_ Gc;exact Tr.ret WM
theorem ZE {s:ba}(h: (dH s).2.2=0): (dH s).1.length=5:=by
 obtain ⟨b,e⟩:=s;by_cases h0:e=0
 . by_cases h1: (aS ab 1 b).2.2=0
   . by_cases h2:f5 (aS ab 1 b).1=false
     . have:dH (b,e) = ([],(b,2)):=lr h0 h1 h2
       rw[this] at h;cases h
     . have h2:f5 (aS ab 1 b).1=true:=by simpa using h2
       have:dH (b,e) = ((aS ab 1 b).1,(b.drop (aS ab 1 b).2.1,0)):=kH h0 h1 h2;rw[this];exact of_decide_eq_true h2
   . have:dH (b,e) = ([],(b,(aS ab 1 b).2.2)):=kG h0 h1
     rw[this] at h;exact absurd h h1
 . have:dH (b,e) = ([],(b,e)):=mM h0
   rw[this] at h;exact absurd h h0
theorem ZF (s:ba): (eU s).1.length % 3=0:=by
 obtain ⟨b,e⟩:=s;by_cases h0:e=0
 . by_cases h1: (aS ab 1 b).2.2=0
   . by_cases h2:f3 (aS ab 1 b).1=false
     . have:eU (b,e) = ([],(b,2)):=lr h0 h1 h2
       rw[this];rfl
     . have h2:f3 (aS ab 1 b).1=true:=by simpa using h2
       have:eU (b,e) = ((aS ab 1 b).1,(b.drop (aS ab 1 b).2.1,0)):=kH h0 h1 h2;rw[this];exact of_decide_eq_true h2
   . have:eU (b,e) = ([],(b,(aS ab 1 b).2.2)):=kG h0 h1
     rw[this];rfl
 . have:eU (b,e) = ([],(b,e)):=mM h0
   rw[this];rfl
theorem ZG {z:List Int}{ok:List Int→Bool}(s:ba)(hz:z.length≤s.1.length): (jI (aS ab 1) ok z s).1.length≤s.1.length:=by
 unfold jI;split
 . exact hz
 . split
   . exact hz
   . split
     . exact hz
     . exact qZ _
theorem LK (s:ba): (eU s).1.length≤s.1.length:=ZG s (Nat.zero_le _)
theorem mP:∀ (l:List Int)(m:Nat),l.length=3*m→(fQ l).length=m
 | [],0,_=>rfl
 | [],m+1,h=>by simp at h
 | [_],m,h=>by simp at h;omega
 | [_,_],m,h=>by simp at h;omega
 |x::y::z::l,0,h=>by simp at h
 |x::y::z::l,m+1,h=>by
  show (fQ l).length+1=_;rw[mP l m (by simp at h;omega)]
theorem AG:∀ (l:List Int)(m i:Nat),l.length=3*m→i< m→gt (fQ l) i= (gt l (3*i),gt l (3*i+1),gt l (3*i+2))
 | [],m,i,h,hi=>by simp at h;omega
 | [_],m,i,h,hi=>by simp at h;omega
 | [_,_],m,i,h,hi=>by simp at h;omega
 |x::y::z::l,m,0,h,hi=>rfl
 |x::y::z::l,m,i+1,h,hi=>by
  have e:=AG l (m - 1) i (by simp at h;omega) (by omega);show gt (fQ l) i=_;rw[e];rw[show 3*(i+1) =3*i+1+1+1 by omega];rfl
theorem yS {l:List Int}{m i:Nat}(h:l.length=3*m)(hi:i< m): (fQ l).take i++[(gt l (3*i),gt l (3*i+1),gt l (3*i+2))] = (fQ l).take (i+1):=by
 rw[←AG l m i h hi];exact eX (fQ l) i (by rw[mP l m h];exact hi)
theorem yT {s:ba}{l l2:List Int}{b1 b2 b3:List UInt8}{e1 e2 e3:Nat}{t:List UInt8}(h1:dH s= (l,b1,e1))(h2:bR (b1,e1) = (t,b2,e2))(h3:eU (b2,e2) = (l2,b3,e3))(h:e1=0):cS s= (((gt l 0,gt l 1,gt l 2),gt l 3,gt l 4,t,fQ l2),(b3,e3)):=by
 unfold cS;simp only[h1,h2,h3];rw[if_pos h];rfl
theorem F6 {s:ba}{l l2:List Int}{b1 b2 b3:List UInt8}{e1 e2 e3:Nat}{t:List UInt8}(h1:dH s= (l,b1,e1))(h2:bR (b1,e1) = (t,b2,e2))(h3:eU (b2,e2) = (l2,b3,e3))(h:¬e1=0):cS s= (((0,0,0),0,0,t,fQ l2),(b3,e3)):=by
 unfold cS;simp only[h1,h2,h3];rw[if_neg h];rfl
theorem wv (k:Nat)(s:ba):jG k [some (rC s)] =true:=by
 show (noRefs k (rC s) && true) =true;rw[Bool.and_true];show (ae k (sl bC .no s.1) && (true && true)) =true;rw[bf];rfl
def PIs (w:ah):Prop:= ∀V,V∈w→∀A,A∈V→∀x,x∈A.2→PI x
theorem PIs.set {w:ah}(h:PIs w)(v:Nat)(V:bE)(h3:∀A,A∈V→∀x,x∈A.2→PI x):PIs (w.set v V):=fun X hX=>by
 rcases List.mem_or_eq_of_mem_set hX with hX|rfl
 . exact h X hX
 . exact h3
theorem PIs.setL {w:ah}(h:PIs w){v a:Nat}(hv:v< w.length)(t:List UInt8)(l:List aI)(hp:∀p,p∈l→PI p):PIs (w.set v ((gt w v).set a (t,l))):=
 h.set v _ fun A hA=>by
  rcases List.mem_or_eq_of_mem_set hA with hA|rfl
  . exact h _ (bc w v hv) A hA
  . exact hp
theorem LP:nj (-1):=⟨by decide,by decide⟩
theorem wx:nj 0:=⟨by decide,by decide⟩
theorem Ge {n k:Nat}(h:n< k)(hk:k≤2000):nj ((n:Int) - 1):=⟨by omega,by omega⟩
theorem P0 {p:aI}(h:PI p)(y:Int)(hy: -9223372036854775808≤y∧y≤9223372036854775807)(n:Nat):PI (lq p y n):=by
 obtain ⟨⟨⟨h1,h2,h3⟩,h4,h5⟩,h6⟩:=h;have a4:=bv y (m:=4) (by decide);have a2:=bv y (m:=2) (by decide);have a7:=bv y (m:=7) (by decide);have a8:=bv y (m:=8) (by decide);have a9:=bv y (m:=9) (by decide);rcases n with _|_|_|_|_|_|_|_|_|n
 . exact ⟨⟨⟨lQ a4 (by decide) (by decide) hy,h2,h3⟩,h4,h5⟩,h6⟩
 . exact ⟨⟨⟨h1,lQ a4 (by decide) (by decide) hy,h3⟩,h4,h5⟩,h6⟩
 . exact ⟨⟨⟨h1,h2,lQ a4 (by decide) (by decide) hy⟩,h4,h5⟩,h6⟩
 . exact ⟨⟨⟨h1,h2,h3⟩,Ge a7 (by decide),h5⟩,h6⟩
 . exact ⟨⟨⟨h1,h2,h3⟩,h4,Ge a7 (by decide)⟩,h6⟩
 . exact ⟨⟨⟨h1,h2,h3⟩,h4,h5⟩,h6⟩
 . refine ⟨⟨⟨h1,h2,h3⟩,h4,h5⟩,fun x hx=>?_⟩
   rcases List.mem_append.1 hx with hx|hx
   . exact h6 x hx
   . rw[List.mem_singleton.1 hx];exact ⟨ce (n:=0) (by decide),ce (by omega),ce (n:=0) (by decide)⟩
 . refine ⟨⟨⟨h1,h2,h3⟩,h4,h5⟩,fun x hx=>?_⟩
   rw[List.mem_singleton.1 hx];exact ⟨LP,ce (n:=0) (by decide),ce (by omega)⟩
 . exact ⟨⟨⟨ce (n:=0) (by decide),ce (by omega),ce (n:=0) (by decide)⟩,h4,h5⟩,h6⟩
 . exact ⟨⟨⟨h1,h2,h3⟩,h4,h5⟩,h6⟩
theorem Z1 {i:Nat}:gt formT i≤2000:=by
 rcases i with _|_|_|_|_|_|_|_|i
 all_goals first|decide|exact Nat.zero_le _
theorem P2 (l:List Int)(a n:Nat):cz (uR l a n):=by
 have h:=en l (a+3+n) (m:=9) (by decide);unfold uR;split
 . exact ⟨LP,wx,wx⟩
 . exact ⟨wx,ce (by omega),wx⟩
theorem AL (l:List Int)(a:Nat)(id:ID)(h:cz id):PI (eI l a id):=by
 refine ⟨⟨h,ce Z1,ce ?_⟩,fun x hx=>?_⟩
 . have:=en l (a+1) (m:=8) (by decide)
   show cu l (a+1) 8 / 3≤_;omega
 . obtain ⟨n,_,rfl⟩:=List.mem_map.1 hx
   exact P2 l a n
theorem WO {p:aI}(h:PI p)(j:Nat)(ps:List aI):PI (tG p j ps):=by
 unfold tG;split
 . exact ⟨⟨h.1.1,ce (n:=0) (by decide),h.1.2.2⟩,h.2⟩
 . exact h
theorem Gf (l:List Int)(n:Nat):∀j,n+j≤8→∀p,p∈jm l n j→PI p
 |0,_,p,hp=>by cases hp
 |j+1,h,p,hp=>by
  rw[jm,List.mem_append,List.mem_singleton] at hp;rcases hp with hp|rfl
  . exact Gf l n j (by omega) p hp
  . exact WO (AL l (9+4*(n+j)) (idk (n+j)) ⟨ce (n:=0) (by decide),ce (by omega),ce (n:=0) (by decide)⟩) _ _
theorem Gg (l:List Int)(i n:Nat)(h:n≤8):∀k,∀A,A∈ (dh l i n k).1→∀x,x∈A.2→PI x
 |0,A,hA=>by cases hA
 |k+1,A,hA=>by
  simp only[dh] at hA;rw[List.mem_append,List.mem_singleton] at hA;rcases hA with hA|rfl
  . exact Gg l i n h k A hA
  . have h1:=oh l i n h k
    have h2:ln l i k (dh l i n k).2=min (1+cu l (5+2*i+k) 3) (8 - (dh l i n k).2):=rfl;exact fun p hp=>Gf l _ _ (by omega) p hp
theorem Gi (l:List Int):∀i,PIs (dB l i).1
 |0,V,hV=>by cases hV
 |i+1,V,hV=>by
  simp only[dB] at hV;rw[List.mem_append,List.mem_singleton] at hV;rcases hV with hV|rfl
  . exact Gi l i V hV
  . exact Gg l i _ (ol l i) _
theorem Gj (l:List Int):PIs (lx l):=Gi l _
theorem WP {w:ah}(h:PIs w){v b:Nat}(hv:v< w.length)(hb:b< (gt w v).length)(y:Int)(hy: -9223372036854775808≤y∧y≤9223372036854775807)(n:Nat):PIs (Fw w v b y n):=by
 have hV:=bc w v hv;have hA:=bc _ b hb;have q3:=h _ hV _ hA;rcases n with _|_|_|_|_|_|_|n
 . intro V hV'
   rcases List.mem_append.1 hV' with hV'|hV'
   . exact h V hV'
   . rw[List.eq_of_mem_replicate hV']
     exact fun A hA=>by cases hA
 . exact h.setL hv _ _ q3
 . refine h.set v _ fun A hA'=>?_
   rcases List.mem_append.1 hA' with hA'|hA'
   . exact h _ hV A hA'
   . rw[List.mem_singleton.1 hA'];exact q3
 . show PIs (if _ then _ else _)
   split
   . exact h.setL hv _ _ fun p hp=>q3 p (List.mem_of_mem_drop hp)
   . exact h
 . show PIs (if _ then _ else _)
   split
   . rename_i h1
     refine h.setL hv _ _ fun p hp=>?_;rcases List.mem_or_eq_of_mem_set hp with hp|rfl
     . rcases List.mem_or_eq_of_mem_set hp with hp|rfl
       . exact q3 p hp
       . exact q3 _ (bc _ _ (by omega))
     . exact q3 _ (bc _ _ (by omega))
   . exact h
 . refine h.set v _ fun A hA'=>?_
   rcases List.mem_append.1 hA' with hA'|hA'
   . exact h _ hV A hA'
   . rw[List.eq_of_mem_replicate hA']
     exact fun p hp=>by cases hp
 . exact h.set v _ fun A hA=>by cases hA
 . refine h.setL hv _ _ fun p hp=>?_
   have a12:=bv y (m:=12) (by decide);rcases List.mem_append.1 hp with hp|hp
   . exact q3 p hp
   . rw[List.mem_singleton.1 hp]
     exact AL _ _ _ ⟨ce (n:=0) (by decide),ce (by omega),ce (n:=0) (by decide)⟩
theorem Gk {w:ah}(h:PIs w)(how y:Int)(hy: -9223372036854775808≤y∧y≤9223372036854775807):PIs (cR w how y):=by
 unfold cR;split
 . rename_i hA
   obtain ⟨v,a,j,hf,hv,ha,hj⟩:=u2 (bv y hA.1);rw[hf];have q3:=h _ (bc w v hv) _ (bc _ a ha);show PIs (Go.Sx.setL w v a ((gt (gt w v) a).2.set j (dT (gt (gt (gt w v) a).2 j) (how.tdiv ((2:Nat):Int)) (y.tdiv ((8:Nat):Int)))));refine h.setL hv _ _ fun p hp=>?_;rcases List.mem_or_eq_of_mem_set hp with hp|rfl
   . exact q3 p hp
   . exact P0 (q3 _ (bc _ _ hj)) _ (iK y 8 hy) _
 . split
   . intro V hV
     rw[List.eq_of_mem_replicate hV];exact fun A hA=>by cases hA
   . rename_i h0
     have hv:=bv y (m:=w.length) (by omega);split
     . refine h.set _ _ fun A hA=>?_
       rw[List.eq_of_mem_replicate hA];exact fun p hp=>by cases hp
     . rename_i h1
       exact WP h hv (by omega) y hy _
theorem Gl {α β:Type}(f:α→List β)(B:Nat):∀l:List α,(∀x,x∈l→(f x).length≤B)→(l.flatMap f).length≤B*l.length
 | [],_=>Nat.zero_le _
 |x::l,h=>by
  have q1:=h x (List.mem_cons_self ..);have q2:=Gl f B l fun y hy=>h y (List.mem_cons_of_mem _ hy);rw[List.flatMap_cons,List.length_append,List.length_cons,Nat.mul_succ];omega
def WQ (A:dG):Nat:=40000+500000*A.2.length
theorem P3 {N:Nat}(hN:N≤15000){A:dG}(h:AZ N A)(hp:∀x,x∈A.2→PI x): (jz A).length≤WQ A:=by
 unfold jz WQ;rw[List.length_append,List.length_append];have h1:=h.1;have h2:=h.2.1;have q1:=ov A.1 (by omega);have q2:=gG (A.2.length:Int) ⟨by omega,by omega⟩;have q3:=Gl gX 500000 A.2 fun p hm=>by
  have hz:=h.2.2 p hm;have hi:=hp p hm;unfold gX;rw[List.length_append,List.length_append];have r1:=pt _ hi.hd (by show 5< _;decide);have r2:=ov p.2.2.2.1 (by have:=hz.1;omega);have r3:=pt (gW p.2.2.2.2) (qY hi.2) (by rw[gJ];have:=hz.2.1;omega);rw[gJ] at r3;have:=hz.1;have:=hz.2.1;simp only[List.length_cons,List.length_nil] at r1;omega
 omega
theorem AM {N:Nat}(hN:N≤15000):∀ (V:bE),(∀A,A∈V→AZ N A∧∀x,x∈A.2→PI x)→(V.flatMap jz).length≤40000*V.length+500000*(g9 V).length
 | [],_=>Nat.zero_le _
 |A::V,h=>by
  have q1:=P3 hN (h A (List.mem_cons_self ..)).1 (h A (List.mem_cons_self ..)).2;have q2:=AM hN V fun B hB=>h B (List.mem_cons_of_mem _ hB);unfold WQ at q1;have e:g9 (A::V) =A.2++g9 V:=rfl;rw[List.flatMap_cons,List.length_append,List.length_cons,e,List.length_append];omega
theorem AO {N:Nat}(hN:N≤15000):∀ (w:ah),(∀V,V∈w→V.length≤N∧∀A,A∈V→AZ N A∧∀x,x∈A.2→PI x)→(w.flatMap iM).length≤9*w.length+40000*w.flatten.length+500000*(w.flatMap g9).length
 | [],_=>Nat.zero_le _
 |V::w,h=>by
  have h1:=h V (List.mem_cons_self ..);have q1:=AM hN V h1.2;have q2:=AO hN w fun B hB=>h B (List.mem_cons_of_mem _ hB);have q3:=gG (V.length:Int) ⟨by omega,by have:=h1.1;omega⟩;have e:iM V=bu V.length++V.flatMap jz:=rfl;rw[List.flatMap_cons,List.length_append,List.length_cons,List.flatten_cons,List.length_append,List.flatMap_cons,List.length_append,e,List.length_append];omega
theorem WZ.ew {N:Nat}{w:ah}(h:WZ N w)(hN:N≤15000)(hp:PIs w):EW w:=by
 refine ⟨h.wg (by omega),fun V hV A hA x hx=>⟨hp V hV A hA x hx,?_⟩,?_⟩
 . have:=((h.v V hV).2 A hA).2.2 x hx
   exact ⟨by have:=this.1;omega,by have:=this.2.1;omega⟩
 . have q:=AO hN w fun V hV=>⟨(h.v V hV).1,fun A hA=>⟨(h.v V hV).2 A hA,hp V hV A hA⟩⟩
   have h1:=h.n;have h2:=h.al;have h3:=h.ar;have q2:=gG (w.length:Int) ⟨by omega,by omega⟩;unfold eJ;rw[List.length_append];omega
attribute [local irreducible] cR lx in
theorem Kl (l:List Int)(how y:Int)(hho: -9223372036854775808≤how∧how≤9223372036854775807)(hy0: -9223372036854775808≤y∧y≤9223372036854775807)(i:Nat)(hi:i< (iL l how y).length):EW (gt (iL l how y) i):=by
 have z1:=yO (tQ l) how y hy0;have z2:=yO z1 y how hho;have p1:=Gk (Gj l) how y hy0;have p2:=Gk p1 y how hho
 match i,hi with
 |0,_=>exact (tQ l).ew (by omega) (Gj l)
 |1,_=>exact z1.ew (by omega) p1
 |2,_=>exact z2.ew (by omega) p2
 |3,_=>exact WZ.ew (N:=0) ⟨Nat.le_refl _,Nat.le_refl _,Nat.le_refl _,fun V hV=>by cases hV⟩ (by omega) fun V hV=>by cases hV
 |i+4,h=>exact absurd h (by simp[iL])
theorem Km (w:ah):0< (eJ w).length:=by
 have:=uK w.length;unfold eJ;rw[List.length_append];omega
theorem q9 {α:Type}{f:ba→α×ba}(hf:Rdr f)(P:α→Prop)(B:Nat)(h:∀s,s.1.length≤B→P (f s).1):∀ (n:Nat)(s:ba)(l:List α),s.1.length≤B→(∀x,x∈l→P x)→∀x,x∈ (rep f n s l).1→P x
 |0,s,l,_,hl=>hl
 |n+1,s,l,hs,hl=>by
  by_cases h0:s.2=0
  . have e:rep f (n+1) s l=rep f n (f s).2 (l++[(f s).1]):=if_neg (fun q=>q h0)
    rw[e];refine q9 hf P B h n _ _ (Nat.le_trans (hf.le s) hs) fun x hx=>?_;rcases List.mem_append.1 hx with hx|hx
    . exact hl x hx
    . rw[List.mem_singleton.1 hx];exact h s hs
  . rw[tU _ h0];exact hl
theorem AP:∀l:List Int,(fQ l).length≤l.length
 | [] =>Nat.le_refl _
 | [_] =>Nat.zero_le _
 | [_,_] =>Nat.zero_le _
 |a::b::c::l=>by
  have:=AP l;show (fQ l).length+1≤l.length+3;omega
theorem P4 {B:Nat}(hB:B< 1099511627000)(s:ba)(h:s.1.length≤B):SP (cS s).1:=by
 have q1:=rd5_r.le s;have q2:=rdT_r.le (dH s).2;have q3:=LK (bR (dH s).2).2;have q4:=AP (eU (bR (dH s).2).2).1;show (fQ (eU (bR (dH s).2).2).1).length< _;omega
theorem P5 {B:Nat}(hB:B< 1099511627000)(s:ba)(h:s.1.length≤B):SA (dU s).1:=by
 have q1:=rdT_r.le s;have q2:=rdI_r.le (bR s).2;have q3:=ox mN (bq (bR s).2).1.toNat (bq (bR s).2).2 [];have q4:=q3.2.2.1;refine ⟨?_,?_⟩
 . show (rep cS (bq (bR s).2).1.toNat (bq (bR s).2).2 []).1.length< _
   simp only[List.length_nil] at q4;omega
 . exact q9 mN SP B (P4 hB) _ _ _ (by omega) fun x hx=>by cases hx
theorem P6 {B:Nat}(hB:B< 1099511627000)(s:ba)(h:s.1.length≤B):SV (gp s).1:=by
 have q2:=rdI_r.le s;have q3:=ox oy (bq s).1.toNat (bq s).2 [];have q4:=q3.2.2.1;refine ⟨?_,?_⟩
 . show (rep dU (bq s).1.toNat (bq s).2 []).1.length< _
   simp only[List.length_nil] at q4;omega
 . exact q9 oy SA B (P5 hB) _ _ _ (by omega) fun x hx=>by cases hx
theorem WR {B:Nat}(hB:B< 1099511627000)(s:ba)(h:s.1.length≤B):uc (pH s).1:=by
 have q2:=rdI_r.le s;have q3:=ox mO (bq s).1.toNat (bq s).2 [];have q4:=q3.2.2.1;refine ⟨?_,?_⟩
 . show (rep gp (bq s).1.toNat (bq s).2 []).1.length< _
   simp only[List.length_nil] at q4;omega
 . exact q9 mO SV B (P6 hB) _ _ _ (by omega) fun x hx=>by cases hx
theorem P7:uc []:=⟨by decide,fun V hV=>by cases hV⟩
theorem P8 {b:List UInt8}(h:b.length≤200000000000):uc (dw b).1:=by
 unfold dw;split
 . exact WR (B:=200000000000) (by decide) (b,0) h
 . exact P7
theorem P9 {b:List UInt8}: (dw b).2.1≤b.length∧(dw b).2.2≤10:=by
 unfold dw;split
 . exact ⟨Nat.sub_le ..,Nat.zero_le _⟩
 . exact ⟨Nat.zero_le _,wkR_r.er _ (Nat.zero_le _)⟩
theorem eqD (w:ah):aw Tryd.prog .neq 80 (.agg (cl bC (pv w))) (.agg (cl bC (pv w))) =some (vp (.val (.bool false))):=by
 rw[ab9 _ _ _ (pw w) (pw w),decide_eq_true rfl];rfl
attribute [go_sem] eqD
theorem fj {p:Prop}(e:p:=by intro KZ hZ;simp -implicitDefEqProofs (maxSteps:=2000000) (disch:=first|omega| (simp only[go_sem,lA,lD,lT,pr,hEl,hTn,hBl,hv49,hTl] <;>omega) |decide) only[go_sem,↓reduceIte,Nat.reduceEqDiff,reduceCtorEq,Nat.reduceLT,Nat.reduceBEq,Nat.reduceAdd,e11,h17,e42,e46,e47,e48,e45,eE0,e49,e44,e19,e43,e50,e39,hBt,hTS,List.replicate_zero,List.nil_append,hy];with_reducible exact hZ):p:=e
theorem Gd {p:Prop}(e:p:=by intro KZ hZ;simp -implicitDefEqProofs (maxSteps:=2000000) (disch:=first|omega| (simp only[go_sem,lA,lD,lT,pr,hEl,hTn,hBl,hv49,hTl] <;>omega) |decide) only[go_sem,↓reduceIte,Nat.reduceEqDiff,reduceCtorEq,Nat.reduceLT,Nat.reduceBEq,Nat.reduceAdd,e11,h17,e42,e46,e47,e48,e45,eE0,e49,e44,e19,e43,e50,e39,hBt,hTS,List.replicate_zero,List.nil_append,hy];with_reducible refine And.intro ?_ hZ;first|exact rfl|decide):p:=e
theorem WN {p:Prop}(e:p:=by simp -implicitDefEqProofs (disch:=first|omega| (simp only[go_sem,lA,lD,lT,pr,hEl,hTn,hBl,hv49,hTl] <;>omega) |decide) only[go_sem,↓reduceIte,Nat.reduceEqDiff,reduceCtorEq];all_goals (rfl)):p:=e
theorem adt {gl:Nat→C}{M:Nat}{pu:Nat→List C→Option C}(hcx:CxOK (ax gl M pu))(h11:∀ (l:List Int) (how y:Int),LI l→(-9223372036854775808≤how∧how≤9223372036854775807)→(-9223372036854775808≤y∧y≤9223372036854775807)→pu 11 [sl iC .no l,.val (.int .i64 how),.val (.int .i64 y)] =some (sl ou .full (iL l how y)))(h17:pu 17 [] =some (.val (.bool true)))(h19:∀ (n:Int) (m:Nat),-9223372036854775808≤n∧n≤9223372036854775807∧0< m∧m≤9223372036854775807→pu 19 [.val (.int .i64 n),.val (nI m)] =some (.val (nI (ag n m))))(h39:∀a b:ah,uc a→uc b→pu 39 [.agg [sl vC .no a],.agg [sl vC .no b]] =some (.val (.bool (decide (a=b)))))(h42:∀w:ah,EW w→pu 42 [.agg [sl vC .no w]] =some (sl bC (.own 1) (eJ w)))(h43:∀b:List UInt8,b.length≤200000000000→pu 43 [sl bC .no b] =some (.tup [.agg [sl vC .no (dw b).1],.val (nI (dw b).2.1),.val (nI (dw b).2.2)]))(h44:∀ (b:List UInt8) (n:Nat),n≤1000000→b.length< 9223372036854775808→pu 44 [sl bC .no b,.val (nI n)] =some (sl bC (.own 1) (b.take n)))(h45:∀x y:List UInt8,x.length< 9223372036854775807→pu 45 [sl bC .no x,sl bC .no y] =some (.val (.bool (decide (x=y)))))(h46:∀w:ah,EW w→pu 46 [.agg [sl vC .no w]] =some (sl bC (.own 1) (eJ w)))(h47:∀w:ah,EW w→pu 47 [.agg [sl vC .no w]] =some (.agg (cl bC (pv w))))(h48:∀ (tag:Int) (parts:List (List UInt8)),(gZ tag parts).length< 1099511627776→pu 48 [.val (.int .i64 tag),sl sC .no parts] =some (.agg (cl bC ((ve (gZ tag parts)).take 16))))(h49:∀n:Int,-9223372036854775808≤n∧n≤9223372036854775807→pu 49 [.val (.int .i64 n)] =some (sl bC (.own 1) (bu n)))(h50:∀b:List UInt8,b.length≤200000000000→pu 50 [sl bC .no b] =some (.tup [.agg [sl vC .no (dw b).1],.val (nI (dw b).2.1),.val (nI (dw b).2.2)]))(l:List Int)(how y t:Int)(raw:List UInt8)(hl:LI l)(hho: (-9223372036854775808≤how∧how≤9223372036854775807))(hy0: (-9223372036854775808≤y∧y≤9223372036854775807))(htt: (-9223372036854775808≤t∧t≤9223372036854775807))(hraw:raw.length< 9223372036854775808):FC Tryd.prog gl 10 [sl iC .no l,.val (.int .i64 how),.val (.int .i64 y),.val (.int .i64 t),sl bC .no raw] [] (.val (.bool true)) []:=by
 replace hcx:=hcx.reN (M:=140);refine aH (cx:=ax gl 140 pu) (rs:=[.tmp 10]) rfl Tryd.func10 rfl rfl rfl (by simp only[List.length_cons,List.length_nil];decide) (by simp only[go_sem]) ?_;simp only[bj,go_sem];have hy:=True.intro;have e11:=h11 l how y hl hho hy0;have ⟨e42,e46,e47,e48,e45,eE0,e49,e44,e19,e43,e50,e39,hBt,hTS,hEl,hTn,hBl,hv49,hTl⟩:=XM;refine Tr.w hcx [] _ [] rfl rfl rfl ?_ fj;refine Tr.w hcx [1000026] _ [] rfl rfl rfl ?_ fj;refine aa fun K1 hK1=>?_;refine Tr.w hcx [] _ [] rfl rfl rfl ?_ fj;refine Tr.k [2,3,4,11,12] ?_;refine Tr.blk ?_;refine ao (α:=Nat) (fun a=>[(2,?v2_1),(3,?v3_1),(4,?v4_1),(11,?v11_1),(12,.val (nI a))]) (fun a=>[]) (fun a=>a≤(iL l how y).length) (fun a=>(iL l how y).length - a) (0) (Nat.zero_le _) ?le_1 ?hh_1 ?bd_1
 case hh_1=>exact rfl
 case le_1=>exact LT
 rintro i hi;refine aa fun K2 hK2=>?_;refine Tr.w hcx [] _ [] rfl rfl rfl ?_ fj;refine af rfl (fun hc30=>?_) (fun hc30=>?_)
 ·
  have hi4:i< 4:=by have:=hc30;rw[pr] at this;exact this
  have hE:=Kl l how y hho hy0 i hc30;obtain ⟨w,hw⟩:∃w,gt (iL l how y) i=w:=⟨_,rfl⟩;rw[hw] at hE;have e42:=And.intro hw (h42 w hE);have e46:=h46 w hE;have e47:=h47 w hE;have e48:pu 48 [.val (nI 6),sl sC .no [eJ w]] =some (.agg (cl bC (pv w))):=h48 6 [eJ w] (Gb hE.e);have hEl:=hE.e;have hEp:=Km w;obtain ⟨E,hEe⟩:∃E,eJ w=E:=⟨_,rfl⟩;rw[hEe] at e42 e46 e48 hEl hEp;have e45:pu 45 [sl bC .no E,sl bC .no E] =some (.val (.bool true)):=(h45 E E (by omega)).trans (by simp);have eE0: (E.length=0) =False:=eq_false (by omega);have eE1:E.length≤100000000000:=hEl;have e49:pu 49 [.val (nI 1)] =some (sl bC (.own 1) (bu ((1:Nat):Int))):=h49 1 ⟨by decide,by decide⟩;have hv49:=gG ((1:Nat):Int) ⟨by decide,by decide⟩;obtain ⟨W1,hW1⟩:∃W1,bu ((1:Nat):Int) =W1:=⟨_,rfl⟩;rw[hW1] at e49 hv49;have e44:=h44 raw 60 (by omega) hraw;have e19:=h19 t E.length ⟨htt.1,htt.2,hEp,by omega⟩;have hAl:=bv t (m:=E.length) hEp;obtain ⟨a,ha⟩:∃a,ag t E.length=a:=⟨_,rfl⟩;rw[ha] at e19 hAl;obtain ⟨Bt,hBt⟩:∃Z,E.set a (gt E a ^^^ UInt8.ofNat (y % 256).toNat) =Z:=⟨_,rfl⟩;have hBl:Bt.length=E.length:=by rw[←hBt,List.length_set]
  obtain ⟨TS,hTS⟩:∃TS,[Bt,E.take a,raw.take 60,W1++raw.take 60,E.take (E.length / 2)++raw.take 60] =TS:=⟨_,rfl⟩;have hTn:TS.length=5:=by rw[←hTS];rfl
  have hTb:∀x∈TS,x.length≤200000000000:=by
   rw[←hTS];simp only[List.forall_mem_cons,List.length_append,List.length_take];exact ⟨by omega,by omega,by omega,by omega,by omega,fun _ h=>absurd h (List.not_mem_nil)⟩
  refine Tr.skip ?_;refine hK2 _ ?_;refine aa fun K3 hK3=>?_;refine Tr.blk ?_;refine Tr.w hcx [1000037] _ [] rfl rfl rfl ?_ fj;refine Tr.k [2,3,4,11,12,13] ?_;refine aa fun K4 hK4=>?_;refine cf hcx bM [] [some 38,some 39,some 40,some 41,some 42,some 43,some 44,some 45,some 46,some 47,some 48,some 49,some 50,some 51,some 52,some 53,some 54,some 55,some 56,some 57,some 58,some 59,some 60,some 61,some 62] [] rfl rfl rfl rfl ?_ Gd;refine Tr.k [2,3,4,11,12,13,62] ?_;refine aq rfl ?_;refine Tr.skip ?_;refine hK4 _ ?_;refine s8 hcx [65] [63,1000065] _ [] rfl rfl rfl ?_ fj;refine Tr.w hcx [] _ [] rfl rfl rfl ?_ fj;refine Tr.k [2,3,4,11,12,13,14] ?_;refine aL hcx 0 (cl bC Bt) ?_;rw[show jS (cl bC Bt) E.length (1,5) =sl bC .no Bt from by rw[←hBl];exact n4 bC 5 Bt Bt.length rfl];refine aW hcx [] ?_;refine cf hcx bM [86,90,96,1000100] _ [] rfl rfl rfl rfl ?_ Gd;refine Tr.k [2,3,4,11,12,15] ?_;refine Tr.w hcx [] _ [] rfl rfl rfl ?_ fj;refine Tr.k [2,3,4,11,12,15,16] ?_;refine Tr.blk ?_;refine ao (α:=Nat) (fun a=>[(2,?v2_2),(3,?v3_2),(4,?v4_2),(11,?v11_2),(12,?v12_2),(15,?v15_2),(16,.val (nI a))]) (fun a=>[]) (fun a=>a≤5) (fun a=>5 - a) (0) (Nat.zero_le _) ?le_2 ?hh_2 ?bd_2
  case hh_2=>exact rfl
  case le_2=>exact LT
  rintro j hj;refine aa fun K5 hK5=>?_;refine Tr.w hcx [] _ [] rfl rfl rfl ?_ fj;refine af rfl (fun hc104=>?_) (fun hc104=>?_)
  ·
   obtain ⟨T,hT⟩:∃T,gt TS j=T:=⟨_,rfl⟩;have hTl:T.length≤200000000000:=by rw[←hT];exact hTb _ (bc _ j (by omega))
   have e43:=And.intro hT (h43 T hTl);have e50:=h50 T hTl;have hD:=P8 hTl;have hDb:=P9 (b:=T);obtain ⟨D,hDD⟩:∃D,dw T=D:=⟨_,rfl⟩;rw[hDD] at e43 e50 hD hDb;have e39:pu 39 [.agg [sl vC .no D.1],.agg [sl vC .no D.1]] =some (.val (.bool true)):=(h39 D.1 D.1 hD hD).trans (by simp);refine Tr.skip ?_;refine hK5 _ ?_;refine aa fun K6 hK6=>?_;refine Tr.blk ?_;refine Tr.w hcx [1000114,1000115] _ [none] rfl rfl rfl ?_ fj;refine Tr.k [2,3,4,11,12,15,16,17,18,19] ?_;refine Tr.w hcx [1000123,1000124] _ [none] rfl rfl rfl ?_ fj;refine Tr.k [2,3,4,11,12,15,16,17,18,19,20,21,22] ?_;refine Tr.w hcx [] [some 125,some 126,some 127,some 128,some 129,some 130,some 131,some 132,some 133,some 134,some 135,some 136,some 137,some 138] [] rfl rfl rfl ?_ fj;refine Tr.k [2,3,4,11,12,15,16,138] ?_;refine aq rfl ?_;refine Tr.skip ?_;refine hK6 _ ?_;refine Tr.k [2,3,4,11,12,15,16] ?_;refine aW hcx [] ?_;refine Tr.v hcx [1000106] _ [] rfl rfl rfl ?_ fj;exact ⟨j+1,⟨(by omega),O1⟩,LT,rfl⟩
  refine Tr.exit ?_;refine hK3 _ ?_;refine Tr.v hcx [1000032] _ [] rfl rfl rfl ?_ fj;exact ⟨i+1,⟨(by omega),O1⟩,LT,rfl⟩
 refine Tr.exit ?_;refine hK1 _ ?_;refine Tr.w hcx [1000139] _ [] rfl rfl rfl ?_ fj;exact Tr.ret WN
theorem FY {p:Prop}(e:p:=by intro KZ hZ;simp -implicitDefEqProofs (disch:=first|omega| (simp only[go_sem,lA,lD,lT] <;>omega) |decide) only[go_sem,↓reduceIte,Nat.reduceEqDiff,reduceCtorEq,Nat.reduceLT,Nat.reduceBEq,Nat.reduceAdd,n104,m104,e104,hy];with_reducible exact hZ):p:=e
theorem WI {p:Prop}(e:p:=by simp -implicitDefEqProofs (disch:=first|omega| (simp only[go_sem,lA,lD,lT] <;>omega) |decide) only[go_sem,↓reduceIte,Nat.reduceEqDiff,reduceCtorEq];all_goals (first|exact ⟨rfl,rfl⟩ |exact ⟨True.intro,rfl⟩ |rfl)):p:=e
theorem adl {gl:Nat→C}{M0:Nat}{pu:Nat→List C→Option C}{hp:Nat→List C→Hp→Option (C×Hp)}(hcx:CxOK (cJ gl M0 pu hp))(s:List UInt8)(e:Nat)(hb:s.length< 1099511627776)(he:e≤10)(n104:∀xs:List C,pu 104 xs=none)(m104:∀b:Nat,hp 104 [.bp b 0,.fn 105 [],.fn 106 []] [] =some (.top,[none]))(q104:∀ (b:Nat) (s:List UInt8) (e:Nat),s.length< 1099511627776∧e≤10→ec hp 104 [.bp b 0,.fn 105 [],.fn 106 []] b [sl bC .no s,.val (nI e)] =some (rC (bq (s,e)).2,.val (.int .i64 (bq (s,e)).1))):FC Tryd.prog gl 79 [.bp 0 0] [some [sl bC .no s,.val (nI e)]] (.val (.int .i64 (bq (s,e)).1)) [some (rC (bq (s,e)).2)]:=by
 replace hcx:=hcx.reN (M:=5);refine gc (cx:=cJ gl 5 pu hp) (rs:=[.tmp 2]) rfl Tryd.func79 rfl rfl rfl (by simp only[List.length_cons,List.length_nil];decide) ?_;simp only[bj,go_sem];have hy:=True.intro;have bM:= @gY;have e104:=q104 0 s e ⟨hb,he⟩;refine Tr.w hcx [] _ [] rfl rfl rfl ?_ FY;refine Tr.w hcx [1000004] _ [] rfl rfl rfl ?_ FY;exact Tr.ret WI
theorem eu {p:Prop}(e:p:=by intro KZ hZ;simp -implicitDefEqProofs (maxSteps:=2000000) (disch:=first|omega| (simp only[go_sem,lA,lD,lT,hm3] <;>omega) |decide) only[go_sem,↓reduceIte,Nat.reduceEqDiff,reduceCtorEq,Nat.reduceLT,Nat.reduceBEq,Nat.reduceAdd,n80b,m80b,e80,n108,m108,m108b,e108,e108b,c0,hy];with_reducible exact hZ):p:=e
theorem yR {p:Prop}(e:p:=by intro KZ hZ;simp -implicitDefEqProofs (maxSteps:=2000000) (disch:=first|omega| (simp only[go_sem,lA,lD,lT,hm3] <;>omega) |decide) only[go_sem,↓reduceIte,Nat.reduceEqDiff,reduceCtorEq,Nat.reduceLT,Nat.reduceBEq,Nat.reduceAdd,n80b,m80b,e80,n108,m108,m108b,e108,e108b,c0,hy];with_reducible refine And.intro ?_ hZ;first|exact rfl|decide):p:=e
theorem adm {gl:Nat→C}{M0:Nat}{pu:Nat→List C→Option C}{hp:Nat→List C→Hp→Option (C×Hp)}(hcx:CxOK (cJ gl M0 pu hp))(s:List UInt8)(e:Nat)(hb:s.length< 1099511627776)(he:e≤10)(n80b:∀xs:List C,pu 80 xs=none)(m80b:∀b:Nat,hp 80 [.bp b 0,.fn 81 [],.fn 111 []] [] =some (.top,[none]))(q80b:∀ (b:Nat) (s:List UInt8) (e:Nat),s.length< 1099511627776∧e≤10→ec hp 80 [.bp b 0,.fn 81 [],.fn 111 []] b [sl bC .no s,.val (nI e)] =some (rC (bR (s,e)).2,.val (str (bR (s,e)).1)))(n108:∀xs:List C,pu 108 xs=none)(m108:∀b:Nat,hp 108 [.bp b 0,.fn 109 [],.fn 110 []] [] =some (.top,[none]))(q108:∀ (b:Nat) (s:List UInt8) (e:Nat),s.length< 1099511627776∧e≤10→ec hp 108 [.bp b 0,.fn 109 [],.fn 110 []] b [sl bC .no s,.val (nI e)] =some (rC (dH (s,e)).2,sl iC .no (dH (s,e)).1))(m108b:∀b:Nat,hp 108 [.bp b 0,.fn 109 [],.fn 112 []] [] =some (.top,[none]))(q108b:∀ (b:Nat) (s:List UInt8) (e:Nat),s.length< 1099511627776∧e≤10→ec hp 108 [.bp b 0,.fn 109 [],.fn 112 []] b [sl bC .no s,.val (nI e)] =some (rC (eU (s,e)).2,sl iC .no (eU (s,e)).1)):FC Tryd.prog gl 83 [.bp 0 0] [some [sl bC .no s,.val (nI e)]] (.agg (pC (cS (s,e)).1)) [some (rC (cS (s,e)).2)]:=by
 replace hcx:=hcx.reN (M:=63);refine n5 (cx:=cJ gl 63 pu hp) (rs:=[.cell 2 37]) rfl Tryd.func83 rfl rfl rfl (by simp only[List.length_cons,List.length_nil];decide) (by simp only[go_sem]) (wv _ _) ?_;simp only[bj,go_sem];have ⟨c0,hy⟩:=fo;have bM:= @gY;obtain ⟨l,b1,e1,h1⟩:∃l b1 e1,dH (s,e) = (l,b1,e1):=⟨_,_,_,rfl⟩;obtain ⟨t,b2,e2,h2⟩:∃t b2 e2,bR (b1,e1) = (t,b2,e2):=⟨_,_,_,rfl⟩;obtain ⟨l2,b3,e3,h3⟩:∃l2 b3 e3,eU (b2,e2) = (l2,b3,e3):=⟨_,_,_,rfl⟩;have g1:b1.length≤s.length:=by have:=rd5_r.le (s,e);rwa [h1] at this
 have g1e:e1≤10:=by have:=rd5_r.er (s,e) he;rwa [h1] at this
 have g2:b2.length≤b1.length:=by have:=rdT_r.le (b1,e1);rwa [h2] at this
 have g2e:e2≤10:=by have:=rdT_r.er (b1,e1) g1e;rwa [h2] at this
 have g3:l2.length≤b2.length:=by have:=LK (b2,e2);rwa [h3] at this
 have g3m:l2.length % 3=0:=by have:=ZF (b2,e2);rwa [h3] at this
 have g5:e1=0→l.length=5:=fun q=>by have:= @ZE (s,e);rw[h1] at this;exact this q
 obtain ⟨m,hm3⟩:∃m,l2.length=3*m:=⟨l2.length / 3,by omega⟩;have hx5:=True.intro;have e108:ec hp 108 [.bp 0 0,.fn 109 [],.fn 110 []] 0 [sl bC .no s,.val (nI e)] =some ([sl bC .no b1,.val (nI e1)],sl iC .no l):=by have:=q108 0 s e ⟨hb,he⟩;rwa [h1] at this
 have e80:ec hp 80 [.bp 0 0,.fn 81 [],.fn 111 []] 0 [sl bC .no b1,.val (nI e1)] =some ([sl bC .no b2,.val (nI e2)],.val (str t)):=by have:=q80b 0 b1 e1 ⟨by omega,g1e⟩;rwa [h2] at this
 have e108b:ec hp 108 [.bp 0 0,.fn 109 [],.fn 112 []] 0 [sl bC .no b2,.val (nI e2)] =some ([sl bC .no b3,.val (nI e3)],sl iC .no l2):=by have:=q108b 0 b2 e2 ⟨by omega,g2e⟩;rwa [h3] at this
 refine Tr.w hcx [] _ [none] rfl rfl rfl ?_ eu;refine Tr.w hcx [] _ [none] rfl rfl rfl ?_ eu;refine aa fun K1 hK1=>?_;refine Tr.w hcx [1000008] _ [] rfl rfl rfl ?_ eu;by_cases c0:e1=0
 ·
  have c0o:=c0;replace c0:=eq_true c0;have hR:=yT h1 h2 h3 c0o;have hx5:=g5 c0o;refine Tr.w hcx [] _ [] rfl rfl rfl ?_ eu;refine aG rfl ?_;refine fS hcx bM [] _ [] rfl rfl rfl rfl ?_ yR;refine hK1 _ ?_;refine Tr.k [0,2,3] ?_;refine Tr.w hcx [] _ [] rfl rfl rfl ?_ eu;refine Tr.w hcx [1000035] _ [] rfl rfl rfl ?_ eu;refine aa fun K2 hK2=>?_;refine Tr.w hcx [] _ [] rfl rfl rfl ?_ eu;refine Tr.k [2,3,5,6] ?_;refine Tr.blk ?_;refine Tr.bxc 2 6 (sl iD (.own 3) []) _ rfl rfl (ay rfl) rfl ?_;simp only[List.set_cons_succ,List.set_cons_zero];refine ao (α:=Nat) (fun a=>[(2,?v2_1),(3,?v3_1),(5,?v5_1),(6,.val (nI (3*a)))]) (fun a=>[some [sl bC .no b3,.val (nI e3)],some [.val (nI 0),.val (nI 0),.val (nI 0),.val (nI 0),.val (nI 0),.val (str []),.val (.slice none 0 0)],some [.val (.int .i64 (gt l 0)),.val (.int .i64 (gt l 1)),.val (.int .i64 (gt l 2)),.val (.int .i64 (gt l 3)),.val (.int .i64 (gt l 4)),.val (str t),sl iD (.own 3) ((fQ l2).take a)]]) (fun a=>a≤m) (fun a=>m - a) (0) (Nat.zero_le _) ?le_1 ?hh_1 ?bd_1
  case hh_1=>exact rfl
  case le_1=>exact LT
  rintro i hi;refine aa fun K3 hK3=>?_;refine Tr.w hcx [] _ [] rfl rfl rfl ?_ eu;refine af rfl (fun hc39=>?_) (fun hc39=>?_)
  ·
   refine Tr.skip ?_;refine hK3 _ ?_;refine Tr.k [2,3,5,6] ?_;refine aa fun K4 hK4=>?_;refine Tr.blk ?_;refine fS hcx bM [43] _ [] rfl rfl rfl rfl ?_ yR;refine hK4 _ ?_;refine Tr.k [2,3,5,6] ?_;refine Tr.v hcx [1000041] _ [] rfl rfl rfl ?_ eu;exact ⟨i+1,⟨(by omega),O1⟩,LT,by simp only[←yS hm3 (show i< m by omega)] <;>rfl⟩
  refine Tr.exit ?_;refine hK2 _ ?_;obtain rfl:i=m:=by omega
  rw[List.take_of_length_le (Nat.le_of_eq (mP l2 _ hm3))];refine Tr.bxc 2 6 (sl iD .no (fQ l2)) _ rfl rfl (CLe.noR (sl iD (.own 3) _)) rfl ?_;simp only[List.set_cons_succ,List.set_cons_zero];refine Tr.w hcx [] _ [] rfl rfl rfl ?_ eu;exact Tr.ret m5
 have c0o:=c0;replace c0:=eq_false c0;have hR:=F6 h1 h2 h3 c0o;refine Tr.w hcx [] _ [] rfl rfl rfl ?_ eu;refine aq rfl ?_;refine Tr.skip ?_;refine hK1 _ ?_;refine Tr.w hcx [] _ [] rfl rfl rfl ?_ eu;refine Tr.w hcx [1000035] _ [] rfl rfl rfl ?_ eu;refine aa fun K5 hK5=>?_;refine Tr.w hcx [] _ [] rfl rfl rfl ?_ eu;refine Tr.k [2,3,5,6] ?_;refine Tr.blk ?_;refine Tr.bxc 2 6 (sl iD (.own 3) []) _ rfl rfl (ay rfl) rfl ?_;simp only[List.set_cons_succ,List.set_cons_zero];refine ao (α:=Nat) (fun a=>[(2,?v2_2),(3,?v3_2),(5,?v5_2),(6,.val (nI (3*a)))]) (fun a=>[some [sl bC .no b3,.val (nI e3)],some [.val (nI 0),.val (nI 0),.val (nI 0),.val (nI 0),.val (nI 0),.val (str []),.val (.slice none 0 0)],some [.val (nI 0),.val (nI 0),.val (nI 0),.val (nI 0),.val (nI 0),.val (str t),sl iD (.own 3) ((fQ l2).take a)]]) (fun a=>a≤m) (fun a=>m - a) (0) (Nat.zero_le _) ?le_2 ?hh_2 ?bd_2
 case hh_2=>exact rfl
 case le_2=>exact LT
 rintro i hi;refine aa fun K6 hK6=>?_;refine Tr.w hcx [] _ [] rfl rfl rfl ?_ eu;refine af rfl (fun hc39=>?_) (fun hc39=>?_)
 ·
  refine Tr.skip ?_;refine hK6 _ ?_;refine Tr.k [2,3,5,6] ?_;refine aa fun K7 hK7=>?_;refine Tr.blk ?_;refine fS hcx bM [43] _ [] rfl rfl rfl rfl ?_ yR;refine hK7 _ ?_;refine Tr.k [2,3,5,6] ?_;refine Tr.v hcx [1000041] _ [] rfl rfl rfl ?_ eu;exact ⟨i+1,⟨(by omega),O1⟩,LT,by simp only[←yS hm3 (show i< m by omega)] <;>rfl⟩
 refine Tr.exit ?_;refine hK5 _ ?_;obtain rfl:i=m:=by omega
 rw[List.take_of_length_le (Nat.le_of_eq (mP l2 _ hm3))];refine Tr.bxc 2 6 (sl iD .no (fQ l2)) _ rfl rfl (CLe.noR (sl iD (.own 3) _)) rfl ?_;simp only[List.set_cons_succ,List.set_cons_zero];refine Tr.w hcx [] _ [] rfl rfl rfl ?_ eu;exact Tr.ret m5
def RdI {α:Type}(f:ba→α×ba)(n B:Nat)(R:List α×ba)(s:ba)(l:List α):Prop:=
 l.length≤n∧rep f (n - l.length) s l=R∧(l.length+s.1.length≤B+1∧(s.2=0→l.length+s.1.length≤B))∧s.2≤10
section
variable {α:Type} {f:ba→α×ba} {n B:Nat} {R:List α×ba} {s s':ba} {l:List α} {x:α}
theorem jJ (hB:s.1.length≤B)(he:s.2≤10):RdI f n B (rep f n s []) s []:=⟨Nat.zero_le _,rfl,⟨by show 0+s.1.length≤_;omega,fun _=>by show 0+s.1.length≤_;omega⟩,he⟩
theorem RdI.step (hf:Rdr f)(h:RdI f n B R s l)(h0:s.2=0)(hl:l.length< n)(hs:f s= (x,s')):RdI f n B R s' (l++[x]):=by
 obtain ⟨h1,h2,h3,h4⟩:=h;have q1:=hf.le s;have q2:=hf.er s h4;have q3:=hf.on s h0;rw[ZD hl h0,hs] at h2;rw[hs] at q1 q2 q3;have q1:s'.1.length≤s.1.length:=q1;have q3:s'.2=0→s'.1.length< s.1.length:=q3;have h3b:=h3.2 h0;refine ⟨by rw[List.length_append,List.length_singleton];omega,by rw[List.length_append,List.length_singleton];exact h2,⟨by rw[List.length_append,List.length_singleton];omega,fun hz=>by rw[List.length_append,List.length_singleton];have:=q3 hz;omega⟩,q2⟩
theorem RdI.stop (h:RdI f n B R s l)(hc:¬ (l.length< n∧s.2=0)):R= (l,s):=by
 obtain ⟨h1,h2,_⟩:=h;by_cases h0:s.2=0
 . have:n - l.length=0:=by omega
   rw[this] at h2;exact h2.symm
 . rw[tU _ h0] at h2;exact h2.symm
theorem RdI.b (h:RdI f n B R s l):l.length≤B+1∧s.1.length≤B+1∧s.2≤10:=⟨by have:=h.2.2.1.1;omega,by have:=h.2.2.1.1;omega,h.2.2.2⟩
end
theorem jr (s:ba): (bq s).1= (((bq s).1.toNat:Nat):Int)∧(bq s).1.toNat< 9223372036854775808:=by
 obtain ⟨b,e⟩:=s;by_cases h0:e=0
 . by_cases h1: (ab b).2.2=0
   . by_cases h2:fN (ab b).1=false
     . have:bq (b,e) = (0,(b,2)):=lr h0 h1 h2
       rw[this];exact ⟨rfl,(by decide: (0:Int).toNat< 9223372036854775808)⟩
     . have h2:fN (ab b).1=true:=by simpa using h2
       have:bq (b,e) = ((ab b).1,(b.drop (ab b).2.1,0)):=kH h0 h1 h2;rw[this];have h3: ((0:Nat):Int)≤(ab b).1:=of_decide_eq_true h2;have:=(du b).2.2.2;show (ab b).1= (((ab b).1.toNat:Nat):Int)∧(ab b).1.toNat< _;omega
   . have:bq (b,e) = (0,(b,(ab b).2.2)):=kG h0 h1
     rw[this];exact ⟨rfl,(by decide: (0:Int).toNat< 9223372036854775808)⟩
 . have:bq (b,e) = (0,(b,e)):=mM h0
   rw[this];exact ⟨rfl,(by decide: (0:Int).toNat< 9223372036854775808)⟩
theorem F7 {b s:List UInt8}{w:ah}{e:Nat}(h:pH (b,0) = (w,(s,e)))(he:e=0):dw b= (w,b.length - s.length,0):=by unfold dw;rw[h];exact if_pos he
theorem tX {b s:List UInt8}{w:ah}{e:Nat}(h:pH (b,0) = (w,(s,e)))(he:¬e=0):dw b= ([],0,e):=by unfold dw;rw[h];exact if_neg he
theorem cZ {p:Prop}(e:p:=by intro KZ hZ;simp -implicitDefEqProofs (maxSteps:=2000000) (disch:=first|omega| (simp only[go_sem,lA,lD,lT,hl1,hl2,hl3] <;>omega) |decide) only[go_sem,↓reduceIte,Nat.reduceEqDiff,reduceCtorEq,Nat.reduceLT,Nat.reduceBEq,Nat.reduceAdd,n79,m79,n80a,m80a,n83,m83,e79a,e79b,e79c,e80,e83,c1,c2,c3,c4,c5,c6,c7,hy];with_reducible exact hZ):p:=e
theorem tW {p:Prop}(e:p:=by intro KZ hZ;simp -implicitDefEqProofs (maxSteps:=2000000) (disch:=first|omega| (simp only[go_sem,lA,lD,lT,hl1,hl2,hl3] <;>omega) |decide) only[go_sem,↓reduceIte,Nat.reduceEqDiff,reduceCtorEq,Nat.reduceLT,Nat.reduceBEq,Nat.reduceAdd,n79,m79,n80a,m80a,n83,m83,e79a,e79b,e79c,e80,e83,c1,c2,c3,c4,c5,c6,c7,hy];with_reducible refine And.intro ?_ hZ;first|exact rfl|decide):p:=e
theorem yU {p:Prop}(e:p:=by simp -implicitDefEqProofs (disch:=first|omega| (simp only[go_sem,lA,lD,lT,hl1,hl2,hl3] <;>omega) |decide) only[go_sem,↓reduceIte,Nat.reduceEqDiff,reduceCtorEq];all_goals ((first| (rw[hR];done) | (rw[hR];rfl)))):p:=e
theorem adn {gl:Nat→C}{M0:Nat}{pu:Nat→List C→Option C}{hp:Nat→List C→Hp→Option (C×Hp)}(hcx:CxOK (cJ gl M0 pu hp))(b:List UInt8)(hb:b.length≤200000000000)(n79:∀xs:List C,pu 79 xs=none)(m79:∀b:Nat,hp 79 [.bp b 0] [] =some (.top,[none]))(q79:∀ (b:Nat) (s:List UInt8) (e:Nat),s.length< 1099511627776∧e≤10→ec hp 79 [.bp b 0] b [sl bC .no s,.val (nI e)] =some (rC (bq (s,e)).2,.val (.int .i64 (bq (s,e)).1)))(n80a:∀xs:List C,pu 80 xs=none)(m80a:∀b:Nat,hp 80 [.bp b 0,.fn 81 [],.fn 82 []] [] =some (.top,[none]))(q80a:∀ (b:Nat) (s:List UInt8) (e:Nat),s.length< 1099511627776∧e≤10→ec hp 80 [.bp b 0,.fn 81 [],.fn 82 []] b [sl bC .no s,.val (nI e)] =some (rC (bR (s,e)).2,.val (str (bR (s,e)).1)))(n83:∀xs:List C,pu 83 xs=none)(m83:∀b:Nat,hp 83 [.bp b 0] [] =some (.top,[none]))(q83:∀ (b:Nat) (s:List UInt8) (e:Nat),s.length< 1099511627776∧e≤10→ec hp 83 [.bp b 0] b [sl bC .no s,.val (nI e)] =some (rC (cS (s,e)).2,.agg (pC (cS (s,e)).1))):FC Tryd.prog gl 43 [sl bC .no b] [] (.tup [.agg [sl vC .no (dw b).1],.val (nI (dw b).2.1),.val (nI (dw b).2.2)]) []:=by
 replace hcx:=hcx.reN (M:=98);refine aH (cx:=cJ gl 98 pu hp) (rs:=[.cell 2 29,.tmp 3,.tmp 4]) rfl Tryd.func43 rfl rfl rfl (by simp only[List.length_cons,List.length_nil];decide) (by simp only[go_sem]) ?_;simp only[bj,go_sem];have ⟨c1,c2,c3,c4,c5,c6,c7,hy⟩:=QJ;have bM:= @gY;have ⟨hl1,hl2,hl3,e79b,e79c,e80,e83⟩:=AY;obtain ⟨n,b0,e0,h0⟩:∃n b0 e0,((bq (b,0)).1.toNat,(bq (b,0)).2) = (n,(b0,e0)):=⟨_,_,_,rfl⟩;have hn: (bq (b,0)).1.toNat=n:=congrArg Prod.fst h0;have hs0: (bq (b,0)).2= (b0,e0):=congrArg Prod.snd h0;have hn63:n< 9223372036854775808:=by rw[←hn];exact (jr _).2
 have g0:b0.length≤b.length:=by have:=rdI_r.le (b,0);rwa [hs0] at this
 have g0e:e0≤10:=by have:=rdI_r.er (b,0) (Nat.zero_le 10);rwa [hs0] at this
 have e79a:ec hp 79 [.bp 1 0] 1 [sl bC .no b,.val (nI 0)] =some ([sl bC .no b0,.val (nI e0)],.val (nI n)):=by
  have q:=q79 1 b 0 ⟨by omega,by decide⟩;rw[(jr _).1,hn,hs0] at q;exact q
 obtain ⟨R1,hR1⟩:∃R1,rep gp n (b0,e0) [] =R1:=⟨_,rfl⟩;have hW:pH (b,0) =R1:=by unfold pH;rw[hn,hs0];exact hR1
 refine Tr.w hcx [] _ [none] rfl rfl rfl ?_ cZ;refine Tr.w hcx [1000014] _ [none] rfl rfl rfl ?_ cZ;refine Tr.w hcx [] _ [none] rfl rfl rfl ?_ cZ;refine aa fun K1 hK1=>?_;refine Tr.w hcx [1000016] _ [] rfl rfl rfl ?_ cZ;refine Tr.k [0,2,5,6,7] ?_;refine Tr.blk ?_;refine Tr.k [0,2,5,6,7] ?_;refine aW hcx [0,1,2] ?_;refine Tr.bxc 2 0 (sl vC (.own 1) []) _ rfl rfl (ay rfl) rfl ?_;simp only[List.set_cons_succ,List.set_cons_zero];refine rZ hcx (α:=(ba×List bE)) (fun a=>[(0,?v0_1),(2,?v2_1),(5,?v5_1),(6,?v6_1),(7,?v7_1)]) (fun a=>[some [.val (.slice none 0 0)],some [sl bC .no a.1.1,.val (nI a.1.2)],some [sl vC (.own 1) a.2]]) (fun a=>RdI gp n b.length R1 a.1 a.2) (fun a=>n - a.2.length) (((b0,e0),[])) (by rw[←hR1];exact jJ (f:=gp) (n:=n) (B:=b.length) (s:=(b0,e0)) g0 g0e) ?le_1 ?hh_1 ?bd_1
 case hh_1=>exact rfl
 case le_1=>exact LT
 rintro ⟨⟨s1,e1⟩,l1⟩ hRI;have hl1:=hRI.b
 dsimp only at hl1
 refine aa fun K2 hK2=>?_;by_cases c1:l1.length< n
 ·
  have c1o:=c1;replace c1:=eq_true c1;by_cases c2:e1=0
  ·
   have c2o:=c2;replace c2:=eq_true c2;refine Tr.w hcx [] [some 17,some 18,some 19,some 20,some 21,some 22,some 23,some 24,some 25,some 26,some 27,some 28] [] rfl rfl rfl ?_ cZ;refine aG rfl ?_;refine Tr.skip ?_;refine hK2 _ ?_;refine Tr.blk ?_;refine Tr.w hcx [] _ [none] rfl rfl rfl ?_ cZ;refine aa fun K3 hK3=>?_;obtain ⟨m,b2,f2,h2⟩:∃m b2 f2,((bq (s1,e1)).1.toNat,(bq (s1,e1)).2) = (m,(b2,f2)):=⟨_,_,_,rfl⟩;have hm: (bq (s1,e1)).1.toNat=m:=congrArg Prod.fst h2;have hs2: (bq (s1,e1)).2= (b2,f2):=congrArg Prod.snd h2;have hm63:m< 9223372036854775808:=by rw[←hm];exact (jr _).2
   have g2:b2.length≤s1.length:=by have:=rdI_r.le (s1,e1);rwa [hs2] at this
   have g2e:f2≤10:=by have:=rdI_r.er (s1,e1) hl1.2.2;rwa [hs2] at this
   have e79b:ec hp 79 [.bp 1 0] 1 [sl bC .no s1,.val (nI e1)] =some ([sl bC .no b2,.val (nI f2)],.val (nI m)):=by
    have q:=q79 1 s1 e1 ⟨by omega,hl1.2.2⟩;rw[(jr _).1,hm,hs2] at q;exact q
   obtain ⟨R2,hR2⟩:∃R2,rep dU m (b2,f2) [] =R2:=⟨_,rfl⟩;have hV:gp (s1,e1) =R2:=by unfold gp;rw[hm,hs2];exact hR2
   refine Tr.w hcx [1000030] _ [] rfl rfl rfl ?_ cZ;refine Tr.k [0,2,5,6,7,8,9] ?_;refine Tr.blk ?_;refine Tr.k [0,2,5,6,7,8,9] ?_;refine Tr.bxc 3 0 (sl aC (.own 2) []) _ rfl rfl (ay rfl) rfl ?_;simp only[List.set_cons_succ,List.set_cons_zero];refine rZ hcx (α:=(ba×List dG)) (fun a=>[(0,?v0_2),(2,?v2_2),(5,?v5_2),(6,?v6_2),(7,?v7_2),(8,?v8_2),(9,?v9_2)]) (fun a=>[some [.val (.slice none 0 0)],some [sl bC .no a.1.1,.val (nI a.1.2)],some [sl vC (.own 1) l1],some [sl aC (.own 2) a.2]]) (fun a=>RdI dU m (b.length+1) R2 a.1 a.2) (fun a=>m - a.2.length) (((b2,f2),[])) (by rw[←hR2];exact jJ (f:=dU) (n:=m) (B:=b.length+1) (s:=(b2,f2)) (by show b2.length≤_;omega) g2e) ?le_2 ?hh_2 ?bd_2
   case hh_2=>exact rfl
   case le_2=>exact LT
   rintro ⟨⟨s2,e2⟩,l2⟩ hRJ;have hl2:=hRJ.b
   dsimp only at hl2
   refine aa fun K4 hK4=>?_;by_cases c3:l2.length< m
   ·
    have c3o:=c3;replace c3:=eq_true c3;by_cases c4:e2=0
    ·
     have c4o:=c4;replace c4:=eq_true c4;refine Tr.w hcx [] [some 31,some 32,some 33,some 34,some 35,some 36,some 37,some 38,some 39,some 40,some 41,some 42] [] rfl rfl rfl ?_ cZ;refine aG rfl ?_;refine Tr.skip ?_;refine hK4 _ ?_;refine Tr.blk ?_;obtain ⟨t,b3,f3,h3⟩:∃t b3 f3,bR (s2,e2) = (t,(b3,f3)):=⟨_,_,_,rfl⟩;have g3:b3.length≤s2.length:=by have:=rdT_r.le (s2,e2);rwa [h3] at this
     have g3e:f3≤10:=by have:=rdT_r.er (s2,e2) hl2.2.2;rwa [h3] at this
     have e80:ec hp 80 [.bp 1 0,.fn 81 [],.fn 82 []] 1 [sl bC .no s2,.val (nI e2)] =some ([sl bC .no b3,.val (nI f3)],.val (str t)):=by
      have q:=q80a 1 s2 e2 ⟨by omega,hl2.2.2⟩;rw[h3] at q;exact q
     obtain ⟨k,b4,f4,h4⟩:∃k b4 f4,((bq (b3,f3)).1.toNat,(bq (b3,f3)).2) = (k,(b4,f4)):=⟨_,_,_,rfl⟩;have hk: (bq (b3,f3)).1.toNat=k:=congrArg Prod.fst h4;have hs4: (bq (b3,f3)).2= (b4,f4):=congrArg Prod.snd h4;have hk63:k< 9223372036854775808:=by rw[←hk];exact (jr _).2
     have g4:b4.length≤b3.length:=by have:=rdI_r.le (b3,f3);rwa [hs4] at this
     have g4e:f4≤10:=by have:=rdI_r.er (b3,f3) g3e;rwa [hs4] at this
     have e79c:ec hp 79 [.bp 1 0] 1 [sl bC .no b3,.val (nI f3)] =some ([sl bC .no b4,.val (nI f4)],.val (nI k)):=by
      have q:=q79 1 b3 f3 ⟨by omega,g3e⟩;rw[(jr _).1,hk,hs4] at q;exact q
     obtain ⟨R3,hR3⟩:∃R3,rep cS k (b4,f4) [] =R3:=⟨_,rfl⟩;have hA:dU (s2,e2) = ((t,R3.1),R3.2):=by unfold dU;rw[h3];dsimp only;rw[hk,hs4,hR3]
     refine Tr.w hcx [] _ [none] rfl rfl rfl ?_ cZ;refine aa fun K5 hK5=>?_;refine Tr.w hcx [1000047] _ [] rfl rfl rfl ?_ cZ;refine Tr.k [0,2,5,6,7,8,9,10,11] ?_;refine Tr.blk ?_;refine Tr.k [0,2,5,6,7,8,9,10,11] ?_;refine Tr.bxc 4 1 (sl pC (.own 7) []) _ rfl rfl (ay rfl) rfl ?_;simp only[List.set_cons_succ,List.set_cons_zero];refine ao (α:=(ba×List aI)) (fun a=>[(0,?v0_3),(2,?v2_3),(5,?v5_3),(6,?v6_3),(7,?v7_3),(8,?v8_3),(9,?v9_3),(10,?v10_3),(11,?v11_3)]) (fun a=>[some [.val (.slice none 0 0)],some [sl bC .no a.1.1,.val (nI a.1.2)],some [sl vC (.own 1) l1],some [sl aC (.own 2) l2],some [.val (str t),sl pC (.own 7) a.2]]) (fun a=>RdI cS k (b.length+2) R3 a.1 a.2) (fun a=>k - a.2.length) (((b4,f4),[])) (by rw[←hR3];exact jJ (f:=cS) (n:=k) (B:=b.length+2) (s:=(b4,f4)) (by show b4.length≤_;omega) g4e) ?le_3 ?hh_3 ?bd_3
     case hh_3=>exact rfl
     case le_3=>exact LT
     rintro ⟨⟨s3,e3⟩,l3⟩ hRK;have hl3:=hRK.b
     dsimp only at hl3
     refine aa fun K6 hK6=>?_;by_cases c5:l3.length< k
     ·
      have c5o:=c5;replace c5:=eq_true c5;by_cases c6:e3=0
      ·
       have c6o:=c6;replace c6:=eq_true c6;refine Tr.w hcx [] [some 48,some 49,some 50,some 51,some 52,some 53,some 54,some 55,some 56,some 57,some 58,some 59] [] rfl rfl rfl ?_ cZ;refine aG rfl ?_;refine Tr.skip ?_;refine hK6 _ ?_;refine Tr.k [0,2,5,6,7,8,9,10,11] ?_;refine Tr.blk ?_;obtain ⟨p,s5,e5,hpp⟩:∃p s5 e5,cS (s3,e3) = (p,(s5,e5)):=⟨_,_,_,rfl⟩;have e83:ec hp 83 [.bp 1 0] 1 [sl bC .no s3,.val (nI e3)] =some ([sl bC .no s5,.val (nI e5)],.agg (pC p)):=by
        have q:=q83 1 s3 e3 ⟨by omega,hl3.2.2⟩;rw[hpp] at q;exact q
       refine fS hcx bM [61] _ [] rfl rfl rfl rfl ?_ tW;exact ⟨((s5,e5),l3++[p]),⟨RdI.step mN hRK c6o c5o hpp,(by have:l3.length< k:=c5o;simp only[List.length_append,List.length_singleton] <;>omega)⟩,LT,rfl⟩
      have c6o:=c6;replace c6:=eq_false c6;refine Tr.w hcx [] [some 48,some 49,some 50,some 51,some 52,some 53,some 54,some 55,some 56,some 57,some 58,some 59] [] rfl rfl rfl ?_ cZ;refine aq rfl ?_;refine Tr.exit ?_;refine hK5 _ ?_;refine Tr.k [0,2,5,6,7,8,9,10] ?_;have hK:=hRK.stop (fun q=>c6o q.2);have hA1:dU (s2,e2) = ((t,l3),(s3,e3)):=by rw[hA,hK]
      refine Tr.v hcx [68] _ [] rfl rfl rfl ?_ cZ;first
      |exact ⟨[0,1,2,3],⟨by decide,by decide,by decide⟩,((s3,e3),l2++[(t,l3)]),⟨RdI.step oy hRJ c4o c3o hA1,(by have:l2.length< m:=c3o;simp only[List.length_append,List.length_singleton] <;>omega)⟩,LM,by simp only[mz,jx,iE,ms,mw,Option.map_some,Option.map_none,c9,mr,jw,iB,kr,jF,jR,mj,ml,mm,ku,mn,iu,iw,ix,iy,iz,iA,ko,jv,↓reduceIte,Nat.reduceEqDiff,reduceCtorEq,Nat.reduceAdd,Nat.zero_add,Nat.one_ne_zero,Nat.zero_ne_one,mq,mB,iF,iG,mC,iH,iI] <;>rfl⟩
     have c5o:=c5;replace c5:=eq_false c5;have c6:=True.intro;refine Tr.w hcx [] [some 48,some 49,some 50,some 51,some 52,some 53,some 54,some 55,some 56,some 57,some 58,some 59] [] rfl rfl rfl ?_ cZ;refine aq rfl ?_;refine Tr.exit ?_;refine hK5 _ ?_;refine Tr.k [0,2,5,6,7,8,9,10] ?_;have hK:=hRK.stop (fun q=>c5o q.1);have hA1:dU (s2,e2) = ((t,l3),(s3,e3)):=by rw[hA,hK]
     refine Tr.v hcx [68] _ [] rfl rfl rfl ?_ cZ;first
     |exact ⟨[0,1,2,3],⟨by decide,by decide,by decide⟩,((s3,e3),l2++[(t,l3)]),⟨RdI.step oy hRJ c4o c3o hA1,(by have:l2.length< m:=c3o;simp only[List.length_append,List.length_singleton] <;>omega)⟩,LM,by simp only[mz,jx,iE,ms,mw,Option.map_some,Option.map_none,c9,mr,jw,iB,kr,jF,jR,mj,ml,mm,ku,mn,iu,iw,ix,iy,iz,iA,ko,jv,↓reduceIte,Nat.reduceEqDiff,reduceCtorEq,Nat.reduceAdd,Nat.zero_add,Nat.one_ne_zero,Nat.zero_ne_one,mq,mB,iF,iG,mC,iH,iI] <;>rfl⟩
    have c4o:=c4;replace c4:=eq_false c4;refine Tr.w hcx [] [some 31,some 32,some 33,some 34,some 35,some 36,some 37,some 38,some 39,some 40,some 41,some 42] [] rfl rfl rfl ?_ cZ;refine aq rfl ?_;refine Tr.exit ?_;refine hK3 _ ?_;have hJ:=hRJ.stop (fun q=>c4o q.2);have hV1:gp (s1,e1) = (l2,(s2,e2)):=by rw[hV,hJ]
    refine Tr.v hcx [74] _ [] rfl rfl rfl ?_ cZ;first
    |exact ⟨[0,1,2],⟨by decide,by decide,by decide⟩,((s2,e2),l1++[l2]),⟨RdI.step mO hRI c2o c1o hV1,(by have:l1.length< n:=c1o;simp only[List.length_append,List.length_singleton] <;>omega)⟩,LM,by simp only[mz,jx,iE,ms,mw,Option.map_some,Option.map_none,c9,mr,jw,iB,kr,jF,jR,mj,ml,mm,ku,mn,iu,iw,ix,iy,iz,iA,ko,jv,↓reduceIte,Nat.reduceEqDiff,reduceCtorEq,Nat.reduceAdd,Nat.zero_add,Nat.one_ne_zero,Nat.zero_ne_one,mq,mB,iF,iG,mC,iH,iI] <;>rfl⟩
   have c3o:=c3;replace c3:=eq_false c3;have c4:=True.intro;refine Tr.w hcx [] [some 31,some 32,some 33,some 34,some 35,some 36,some 37,some 38,some 39,some 40,some 41,some 42] [] rfl rfl rfl ?_ cZ;refine aq rfl ?_;refine Tr.exit ?_;refine hK3 _ ?_;have hJ:=hRJ.stop (fun q=>c3o q.1);have hV1:gp (s1,e1) = (l2,(s2,e2)):=by rw[hV,hJ]
   refine Tr.v hcx [74] _ [] rfl rfl rfl ?_ cZ;first
   |exact ⟨[0,1,2],⟨by decide,by decide,by decide⟩,((s2,e2),l1++[l2]),⟨RdI.step mO hRI c2o c1o hV1,(by have:l1.length< n:=c1o;simp only[List.length_append,List.length_singleton] <;>omega)⟩,LM,by simp only[mz,jx,iE,ms,mw,Option.map_some,Option.map_none,c9,mr,jw,iB,kr,jF,jR,mj,ml,mm,ku,mn,iu,iw,ix,iy,iz,iA,ko,jv,↓reduceIte,Nat.reduceEqDiff,reduceCtorEq,Nat.reduceAdd,Nat.zero_add,Nat.one_ne_zero,Nat.zero_ne_one,mq,mB,iF,iG,mC,iH,iI] <;>rfl⟩
  have c2o:=c2;replace c2:=eq_false c2;refine Tr.w hcx [] [some 17,some 18,some 19,some 20,some 21,some 22,some 23,some 24,some 25,some 26,some 27,some 28] [] rfl rfl rfl ?_ cZ;refine aq rfl ?_;refine Tr.exit ?_;refine hK1 _ ?_;refine aa fun K7 hK7=>?_;have c7o:=c2o;have c7:=c2;have hI:=hRI.stop (fun q=>c2o q.2);rw[hI] at hW;have hle:s1.length≤b.length:=by have:=wkR_r.le (b,0);rw[hW] at this;exact this
  have hR:=tX hW c7o;refine Tr.w hcx [] _ [] rfl rfl rfl ?_ cZ;refine aG rfl ?_;refine cf hcx bM [1000088] _ [] rfl rfl rfl rfl ?_ tW;refine Tr.k [2,3,4] ?_;first| (refine Tr.bxc 0 0 (sl vC .no []) _ rfl rfl (CLe.nil _) rfl ?_;simp only[List.set_cons_succ,List.set_cons_zero]) |skip
  exact Tr.ret yU
 have c1o:=c1;replace c1:=eq_false c1;have c2:=True.intro;refine Tr.w hcx [] [some 17,some 18,some 19,some 20,some 21,some 22,some 23,some 24,some 25,some 26,some 27,some 28] [] rfl rfl rfl ?_ cZ;refine aq rfl ?_;refine Tr.exit ?_;refine hK1 _ ?_;refine aa fun K8 hK8=>?_;by_cases c7:e1=0
 ·
  have c7o:=c7;replace c7:=eq_true c7;have hI:=hRI.stop (fun q=>c1o q.1);rw[hI] at hW;have hle:s1.length≤b.length:=by have:=wkR_r.le (b,0);rw[hW] at this;exact this
  have hR:=F7 hW c7o;refine Tr.w hcx [] _ [] rfl rfl rfl ?_ cZ;refine aq rfl ?_;refine Tr.skip ?_;refine hK8 _ ?_;refine Tr.k [0,2,5,6] ?_;refine cf hcx bM [1000097] _ [] rfl rfl rfl rfl ?_ tW;first| (refine Tr.bxc 0 0 (sl vC .no []) _ rfl rfl (CLe.nil _) rfl ?_;simp only[List.set_cons_succ,List.set_cons_zero]) |skip
  exact Tr.ret yU
 have c7o:=c7;replace c7:=eq_false c7;have hI:=hRI.stop (fun q=>c1o q.1);rw[hI] at hW;have hle:s1.length≤b.length:=by have:=wkR_r.le (b,0);rw[hW] at this;exact this
 have hR:=tX hW c7o;refine Tr.w hcx [] _ [] rfl rfl rfl ?_ cZ;refine aG rfl ?_;refine cf hcx bM [1000088] _ [] rfl rfl rfl rfl ?_ tW;refine Tr.k [2,3,4] ?_;first| (refine Tr.bxc 0 0 (sl vC .no []) _ rfl rfl (CLe.nil _) rfl ?_;simp only[List.set_cons_succ,List.set_cons_zero]) |skip
 exact Tr.ret yU
end Go.Sx
