/-
  
-/
import Derived.Test.YtcpdlhgkdogdjaaDoorPap
set_option linter.unusedSimpArgs false
set_option linter.unusedVariables false
namespace Go.Sx
open Go.RowKit Go.Proofs
set_option maxRecDepth 100000
set_option maxHeartbeats 8000000
theorem ae {p:Prop}(e:p:=by intro KZ hZ;simp -implicitDefEqProofs (maxSteps:=2000000) (disch:=first|omega| (simp only[go_sem,lA,lD,lT,hwl,hVl,hLl,hP8,hP9] <;>omega) |decide) only[go_sem,↓reduceIte,Nat.reduceEqDiff,reduceCtorEq,Nat.reduceLT,Nat.reduceBEq,Nat.reduceAdd,n20,hw0f,e18,e19a,e19b,qa,qb,qc,qd,hil,hkl,hwl,hVl,hLl,hR1,hR2,hR3,hR4,e19c,e21,e12,h17,hP8,c0,c1,c6,c2,c3,c4,c5,hy];with_reducible exact hZ):p:=e
theorem ao {p:Prop}(e:p:=by intro KZ hZ;simp -implicitDefEqProofs (maxSteps:=2000000) (disch:=first|omega| (simp only[go_sem,lA,lD,lT,hwl,hVl,hLl,hP8,hP9] <;>omega) |decide) only[go_sem,↓reduceIte,Nat.reduceEqDiff,reduceCtorEq,Nat.reduceLT,Nat.reduceBEq,Nat.reduceAdd,n20,hw0f,e18,e19a,e19b,qa,qb,qc,qd,hil,hkl,hwl,hVl,hLl,hR1,hR2,hR3,hR4,e19c,e21,e12,h17,hP8,c0,c1,c6,c2,c3,c4,c5,hy];with_reducible refine And.intro ?_ hZ;first|exact rfl|decide):p:=e
theorem z0 {p:Prop}(e:p:=by simp -implicitDefEqProofs (disch:=first|omega| (simp only[go_sem,lA,lD,lT,hwl,hVl,hLl,hP8,hP9] <;>omega) |decide) only[go_sem,↓reduceIte,Nat.reduceEqDiff,reduceCtorEq];all_goals (rfl)):p:=e
theorem Qz {gl:Nat→C}{M0:Nat}{pu:Nat→List C→Option C}{hp:Nat→List C→Hp→Option (C×Hp)}(hcx:CxOK (iy gl M0 pu hp))(l:List Int)(m:List Int)(vv aa:Int)(hl:LI l)(hm:LI m)(hvv: (-9223372036854775808≤vv∧vv≤9223372036854775807))(haa: (-9223372036854775808≤aa∧aa≤9223372036854775807))(w:aj)(hW:js l=w)(i k j:Nat)(hi:i=dQ vv w.length)(hk:k=dQ (vv.tdiv ((4:Nat):Int)) w.length)(hj:j=dQ aa (gt w i).length)(n20:∀xs:List C,pu 20 xs=none)(qa:hp 20 [.agg [sl vC .no w]] [none] =some (.agg [.gv 1 w.length (1,46)],[none,some (cl vC w),some [],some [],some [.gv 1 w.length (1,46)]]))(qb:hp 20 [.agg [sl vC .no w]] [some [],none] =some (.agg [.gv 2 w.length (1,46)],[some [],none,some (fV 2 i (gt w i).length w),some (cl aC (gt w i)),some [],some [.gv 2 w.length (1,46)]]))(qc:hp 20 [.agg [sl vC .no (aD w i j)]] [some [],some [],none] =some (.agg [.gv 3 (aD w i j).length (1,46)],[some [],some [],none,some (fV 3 k (gt (aD w i j) k).length (aD w i j)),some (cl aC (gt (aD w i j) k)),some [],some [.gv 3 (aD w i j).length (1,46)]]))(qd:hp 20 [.agg [sl vC .no w]] [some (fV 0 i (gt w i).length w),some (cl aC (gt w i)),some [.gv 0 w.length (1,46)],none] =some (.agg [.gv 4 w.length (1,46)],[some (fV 0 i (gt w i).length w),some (cl aC (gt w i)),some [.gv 0 w.length (1,46)],none,some (fV 4 i (gt w i).length w),some (fA 4 j (gt (gt w i) j).2.length (gt w i)),some (cl pC (gt (gt w i) j).2),some [.gv 4 w.length (1,46)]]))(h18:∀l:List Int,LI l→pu 18 [sl iC .no l] =some (.agg [sl vC .no (js l)]))(h19:∀ (n:Int) (m:Nat),-9223372036854775808≤n∧n≤9223372036854775807∧0< m∧m≤9223372036854775807→pu 19 [.val (.int .i64 n),.val (nI m)] =some (.val (nI (dQ n m))))(h21:∀ (l:List Int) (k:Nat) (id:ID),LI l→k≤900→pu 21 [sl iC .no l,.val (nI k),.agg (iD id)] =some (.agg (pC (fT l k id))))(h12:∀w:aj,WS w→(∀i,i< (aK w).length→(gt (aK w) i).2.2.2.2.1.length≤1000000)→(∀v a,v< w.length→a< (gt w v).length→(gt (gt w v) a).1.length≤1000000)→(∀i,i< (aK w).length→b9 (gt (aK w) i).2.1)→pu 12 [.agg [sl vC .no w]] =some (.val (nI (ec w))))(h17:pu 17 [] =some (.val (.bool true))):FC Tryd.prog gl 4 [sl iC .no l,sl iC .no m,.val (.int .i64 vv),.val (.int .i64 aa)] [] (.val (.bool true)) []:=by
 replace hcx:=hcx.reN (M:=252)
 refine cf (cx:=iy gl 252 pu hp) (rs:=[.tmp 8]) rfl Tryd.func4 rfl rfl rfl (by simp only[List.length_cons,List.length_nil];decide) (by simp only[go_sem]) ?_
 simp only[dm,go_sem]
 have c0:=True.intro
 have c1:=True.intro
 have c6:=True.intro
 have c2:=True.intro
 have c3:=True.intro
 have c4:=True.intro
 have c5:=True.intro
 have hy:=True.intro
 have aW:= @L5
 have hvs:=zY l
 have hnew:=HA l
 have h0w:=pR l
 have e18:=h18 l hl
 rw[hW] at hvs hnew h0w e18
 have hw0:0< w.length:=by omega
 have hwl:=hvs.n
 have hw0f: (w.length=0) =False:=eq_false (by omega)
 have e19a:=h19 vv w.length ⟨hvv.1,hvv.2,hw0,by omega⟩
 have hil:=jp vv (m:=w.length) hw0
 have hvv4:=C2 vv 4 hvv
 have e19b:=h19 (vv.tdiv ((4:Nat):Int)) w.length ⟨hvv4.1,hvv4.2,hw0,by omega⟩
 have hkl:=jp (vv.tdiv ((4:Nat):Int)) (m:=w.length) hw0
 rw[←hi] at e19a hil
 rw[←hk] at e19b hkl
 have hVl:=hvs.v _ (ba w i hil)
 have hLl:=True.intro
 have hP8:=True.intro
 have hP9:=True.intro
 have c1:=True.intro
 have hR1:=True.intro
 have hR2:=True.intro
 have hR3:=True.intro
 have hR4:=True.intro
 have e19c:=True.intro
 have e12:=True.intro
 obtain ⟨p,hp⟩:∃p,fT m 0 (((5:Nat):Int),((63:Nat):Int),((1023:Nat):Int)) =p:=⟨_,rfl⟩
 have e21:pu 21 [sl iC .no m,.val (nI 0),.agg [.val (nI 5),.val (nI 63),.val (nI 1023)]] =some (.agg (pC p)):=by rw[←hp];exact h21 m 0 (((5:Nat):Int),((63:Nat):Int),((1023:Nat):Int)) hm (by decide)
 have hpz:cI p=true∧PZ 1000 p:=by rw[←hp];exact Qy m
 obtain ⟨PA,hPB,hPF,hPS⟩:=HH w i j k p
 refine Tr.w hcx [] _ [] rfl rfl rfl ?_ ae
 refine Tr.w hcx [] _ [none] rfl rfl rfl ?_ ae
 refine af fun K1 hK1=>?_
 refine ab hcx 0 [sl vC .no w] ?_
 refine ah hcx [] ?_
 refine Tr.w hcx [] _ [] rfl rfl rfl ?_ ae
 refine au rfl ?_
 refine Tr.skip ?_
 refine hK1 _ ?_
 refine Tr.w hcx [1000036] _ [] rfl rfl rfl ?_ ae
 refine Tr.w hcx [1000042] _ [] rfl rfl rfl ?_ ae
 refine Tr.k [1,3,9,10,11] ?_
 refine Tr.w hcx [] _ [none] rfl rfl rfl ?_ ae
 by_cases c0:i< 1∧1< w.length
 ·
  have hR1:=DW i w ⟨hil,by omega⟩
  have hR2:=fun cx apps dsts lo id d e h fs K e9 b=>p6 cx apps dsts lo id d e h fs K vC e9 b i w ⟨by omega,c0.2⟩
  refine Tr.k [0,1,2,3,8,9,10,11,12] ?_
  refine ah hcx [1,0] ?_
  refine bd hcx aW [54] [48] _ [] rfl rfl rfl rfl ?_ ao
  refine ab hcx 2 (cl vC (w.take i++w.drop (i+1))) ?_
  rw[wt vC hil]
  refine ab hcx 1 [sl vC .no (w.take i++w.drop (i+1))] ?_
  refine ah hcx [] ?_
  refine Tr.w hcx [] _ [none] rfl rfl rfl ?_ ae
  refine Tr.k [1,3,9,10,11,12,13] ?_
  refine Tr.k [0,1,2,3,8,9,10,11,12,13] ?_
  refine ah hcx [1,0] ?_
  refine bB hcx aW [] _ [] rfl rfl rfl rfl ?_ ao
  refine Tr.k [1,3,9,10,11,12,13] ?_
  refine ab hcx 0 (cl vC ((w.set i (gt w k)).set k (gt w i))) ?_
  rw[bf _ _ (by rw[List.length_set,List.length_set])]
  refine ab hcx 1 [sl vC .no ((w.set i (gt w k)).set k (gt w i))] ?_
  refine ah hcx [] ?_
  refine Tr.w hcx [1000078] _ [] rfl rfl rfl ?_ ae
  rw[show [w.take i++w.drop (i+1),(w.set i (gt w k)).set k (gt w i)] =PA 0 from (hPB 0 (Nat.zero_le _)).symm]
  refine Tr.w hcx [1000085] _ [] rfl rfl rfl ?_ ae
  refine af fun K2 hK2=>?_
  refine Tr.w hcx [] _ [] rfl rfl rfl ?_ ae
  refine Tr.k [1,3,9,10,11,14,15,16] ?_
  refine ax ?_
  refine bz (α:=Nat) (fun a=>[(1,?v1_1),(3,?v3_1),(9,?v9_1),(10,?v10_1),(11,?v11_1),(14,sl lX (.own 1) (PA a)),(15,?v15_1),(16,.val (nI a))]) (fun a=>[]) (fun a=>a≤(gt w i).length) (fun a=>(gt w i).length - a) (0) (Nat.zero_le _) ?le_1 ?hh_1 ?bd_1
  case hh_1=>exact rfl
  case le_1=>exact LT
  rintro q hq
  refine af fun K3 hK3=>?_
  refine Tr.w hcx [] _ [] rfl rfl rfl ?_ ae
  refine bc rfl (fun hc88=>?_) (fun hc88=>?_)
  ·
   have e19c:=h19 aa (gt w i).length ⟨haa.1,haa.2,by omega,by omega⟩
   rw[←hj] at e19c
   refine Tr.skip ?_
   refine hK3 _ ?_
   refine af fun K4 hK4=>?_
   refine ax ?_
   refine af fun K5 hK5=>?_
   by_cases c1:q=j
   ·
    subst c1
    have c1:=True.intro
    have hLl:=(hvs.o.wz.v _ (ba w i hil)).2 _ (ba _ q hc88)
    replace hLl:=hLl.2.1
    refine Tr.w hcx [] _ [] rfl rfl rfl ?_ ae
    refine au rfl ?_
    refine Tr.skip ?_
    refine hK5 _ ?_
    have hR3:=aG (n:=0) (m:=(gt w i).length) hil
    refine Tr.virt ?_
    simp only[List.nil_append]
    refine Tr.w hcx [] _ [none] rfl rfl rfl ?_ ae
    refine Tr.k [1,3,9,10,11,14,15,16,17] ?_
    refine Tr.k [1,3,9,10,11,14,15,16,17] ?_
    refine ah hcx [2,3,1] ?_
    simp only[aq (ρ:=[2,3,1]) (n:=2) (k:=0) (fun _=>rfl)]
    refine Tr.w hcx [] _ [none] rfl rfl rfl ?_ ae
    refine Tr.k [1,3,9,10,11,14,15,16,17,18] ?_
    by_cases c6:q< 1∧1< (gt w i).length
    ·
     have hR1:=rn q (gt w i) ⟨hc88,by omega⟩
     have hR2:=fun cx apps dsts lo id d e h fs K e9 b=>p6 cx apps dsts lo id d e h fs K aC e9 b q (gt w i) ⟨by omega,c6.2⟩
     refine ab hcx 3 (aC (gt (gt w i) q)) ?_
     refine ab hcx 2 [.gv 0 w.length (1,46)] ?_
     refine bd hcx aW [127] [117] _ [] rfl rfl rfl rfl ?_ ao
     refine Tr.k [1,3,9,10,11,14,15,16,17,18] ?_
     refine ab hcx 4 (cl aC ((gt w i).take q++(gt w i).drop (q+1))) ?_
     rw[wt aC hc88,e5]
     rw[show w.set i ((gt w i).take q++(gt w i).drop (q+1)) =aD w i q from rfl]
     refine ab hcx 0 (cl vC (aD w i q)) ?_
     rw[bf _ _ (dH w i q).symm]
     refine ah hcx [] ?_
     refine Tr.virt ?_
     refine Tr.virt ?_
     simp only[List.nil_append,List.cons_append]
     refine Tr.w hcx [] _ [none] rfl rfl rfl ?_ ae
     refine Tr.k [1,3,9,10,11,14,15,16,17,18,19] ?_
     have hP9: (gt (aD w i q) k).length≤4:=(hvs.cut hil hc88).v _ (ba _ k (by rw[dH];exact hkl))
     have hP8:k< (aD w i q).length:=by rw[dH];exact hkl
     have hR4:=aG (n:=0) (m:=(gt (aD w i q) k).length) hP8
     have hR1:=dH w i q
     refine Tr.k [1,3,9,10,11,14,15,16,17,18,19] ?_
     refine ah hcx [3,4,2] ?_
     simp only[aq (ρ:=[3,4,2]) (n:=3) (k:=0) (fun _=>rfl)]
     refine ab hcx 2 [.gv 0 (aD w i q).length (1,46)] ?_
     refine bd hcx aW [143] [140] _ [] rfl rfl rfl rfl ?_ ao
     refine Tr.k [1,3,9,10,11,14,15,16,17,19] ?_
     have hP9:=j5 hPB hPF q
     refine ab hcx 3 (cl aC (gt (aD w i q) k++[gt (gt w i) q])) ?_
     rw[j0 _ _ rfl,e5]
     rw[show (aD w i q).set k (gt (aD w i q) k++[gt (gt w i) q]) =bP w i q k from rfl]
     refine ab hcx 0 (cl vC (bP w i q k)) ?_
     rw[bf _ _ (kM w i q k)]
     refine ah hcx [] ?_
     refine Tr.w hcx [146,1000150] _ [] rfl rfl rfl ?_ ae
     refine Tr.w hcx [] _ [none] rfl rfl rfl ?_ ae
     refine ab hcx 0 (pC p) ?_
     refine ah hcx [] ?_
     refine Tr.virt ?_
     simp only[List.nil_append]
     refine Tr.w hcx [] _ [none] rfl rfl rfl ?_ ae
     refine Tr.k [1,3,9,10,11,14,15,16,20,21] ?_
     refine Tr.k [1,3,9,10,11,14,15,16,20,21] ?_
     refine ah hcx [2,3,1] ?_
     simp only[aq (ρ:=[2,3,1]) (n:=2) (k:=0) (fun _=>rfl)]
     refine Tr.w hcx [1000165] _ [] rfl rfl rfl ?_ ae
     refine Tr.k [1,3,9,10,11,14,15,16,20,21,22] ?_
     by_cases c2:0< (gt (gt w i) q).2.length
     ·
      have c2o:=c2
      replace c2:=eq_true c2
      by_cases c3: (gt (gt (gt w i) q).2 ((gt (gt w i) q).2.length - 1)).2.1= ((2:Nat):Int)
      ·
       have c3o:=c3
       replace c3:=eq_true c3
       by_cases c4:p.2.1= ((2:Nat):Int)
       ·
        have c4o:=c4
        replace c4:=eq_true c4
        have hR2:=ca (gt (gt w i) q).2
        have c5:=True.intro
        refine Tr.w hcx [1000179] [some 166,some 167,some 168,some 169,some 170,some 171,some 172,some 173,some 174,some 175,some 176,some 177,some 178,some 179,some 23] [] rfl rfl rfl ?_ ae
        refine Tr.k [1,3,9,10,11,14,15,16,20,21,22,23] ?_
        refine Tr.w hcx [] _ [none] rfl rfl rfl ?_ ae
        refine Tr.k [1,3,9,10,11,14,15,16,20,21,22,23,24] ?_
        refine Tr.k [1,3,9,10,11,14,15,16,20,21,22,23,24] ?_
        refine ah hcx [0,1,2,4,5,6,3] ?_
        simp only[aq (ρ:=[0,1,2,4,5,6,3]) (n:=0) (k:=0) (fun _=>rfl),aq (ρ:=[0,1,2,4,5,6,3]) (n:=4) (k:=3) (fun _=>rfl),bJ (ρ:=[0,1,2,4,5,6,3]) (n:=4) (k:=3) (fun _=>rfl)]
        have hR4:=aG (n:=3) (m:=(gt w i).length) hil
        refine ab hcx 6 [.gv 3 w.length (1,46)] ?_
        refine ab hcx 3 (fV 3 i (gt w i).length w) ?_
        rw[a8]
        have hR1:=aP (n:=3) (m:=(gt (gt w i) q).2.length) hc88
        refine bd hcx aW [201] [198] _ [] rfl rfl rfl rfl ?_ ao
        refine Tr.k [1,3,9,10,11,14,15,16,20,21,22,23,24] ?_
        refine ab hcx 2 [.gv 0 w.length (1,46)] ?_
        refine bB hcx aW [212] _ [] rfl rfl rfl rfl ?_ ao
        refine Tr.k [1,3,9,10,11,14,15,16,20,21,23,24] ?_
        refine af fun K6 hK6=>?_
        refine ab hcx 7 (cl pC ((gt (gt w i) q).2++[p])) ?_
        rw[bK _ _ rfl,an]
        refine ab hcx 4 (cl aC ((gt w i).set q ((gt (gt w i) q).1,(gt (gt w i) q).2++[p]))) ?_
        rw[bM _ _ (List.length_set ..).symm]
        refine Tr.bxc 1 (q*2+1) (sl pC .no (p:: (gt (gt w i) q).2)) ((cl aC (gt w i)).set (q*2+1) (sl pC (.own 7) (p:: (gt (gt w i) q).2))) (by simp only[go_sem]) (List.getElem?_set_self (by rw[aw (f:=aC)];omega)) (CLe.noR (sl pC (.own 7) _)) rfl ?_
        rw[List.set_set,an]
        simp only[List.set_cons_succ,List.set_cons_zero]
        refine ab hcx 1 (cl aC ((gt w i).set q ((gt (gt w i) q).1,p:: (gt (gt w i) q).2))) ?_
        try rw[b8 (List.length_set ..).symm]
        refine ab hcx 0 (cl vC (w.set i ((gt w i).set q ((gt (gt w i) q).1,p:: (gt (gt w i) q).2)))) ?_
        rw[bf _ _ (List.length_set ..).symm]
        refine ah hcx [] ?_
        simp only[show ∀L,w.set i ((gt w i).set q ((gt (gt w i) q).1,L)) =aR w i q L from fun _=>rfl]
        refine Tr.w hcx [] [some 217,some 218,some 219,some 220,some 221,some 222] [] rfl rfl rfl ?_ ae
        refine au rfl ?_
        refine Tr.skip ?_
        refine hK6 _ ?_
        refine Tr.w hcx [] [some 227,some 228,some 229,some 230,some 231,some 232,some 233,some 234] [] rfl rfl rfl ?_ ae
        refine au rfl ?_
        refine Tr.skip ?_
        refine hK4 _ ?_
        refine Tr.k [1,3,9,10,11,14,15,16] ?_
        rw[show PA q++[aD w i q,bP w i q k] =PA (q+1) from by have:=bu hPB hPF (T:=[]) (H:=[]) (if_neg fun e=>e.2 c4o) (if_neg fun e=>e.1 c4o);simpa only[List.append_nil] using this]
        refine Tr.v hcx [1000090] _ [] rfl rfl rfl ?_ ae
        exact ⟨q+1,⟨(by omega),O1⟩,LT,rfl⟩
       have c4o:=c4
       replace c4:=eq_false c4
       by_cases c5:p.2.1= ((1:Nat):Int)
       ·
        have c5o:=c5
        replace c5:=eq_true c5
        have hR2:=ca (gt (gt w i) q).2
        refine Tr.w hcx [1000179] [some 166,some 167,some 168,some 169,some 170,some 171,some 172,some 173,some 174,some 175,some 176,some 177,some 178,some 179,some 23] [] rfl rfl rfl ?_ ae
        refine Tr.k [1,3,9,10,11,14,15,16,20,21,22,23] ?_
        refine Tr.w hcx [] _ [none] rfl rfl rfl ?_ ae
        refine Tr.k [1,3,9,10,11,14,15,16,20,21,22,23,24] ?_
        refine Tr.k [1,3,9,10,11,14,15,16,20,21,22,23,24] ?_
        refine ah hcx [0,1,2,4,5,6,3] ?_
        simp only[aq (ρ:=[0,1,2,4,5,6,3]) (n:=0) (k:=0) (fun _=>rfl),aq (ρ:=[0,1,2,4,5,6,3]) (n:=4) (k:=3) (fun _=>rfl),bJ (ρ:=[0,1,2,4,5,6,3]) (n:=4) (k:=3) (fun _=>rfl)]
        have hR4:=aG (n:=3) (m:=(gt w i).length) hil
        refine ab hcx 6 [.gv 3 w.length (1,46)] ?_
        refine ab hcx 3 (fV 3 i (gt w i).length w) ?_
        rw[a8]
        have hR1:=aP (n:=3) (m:=(gt (gt w i) q).2.length) hc88
        refine bd hcx aW [201] [198] _ [] rfl rfl rfl rfl ?_ ao
        refine Tr.k [1,3,9,10,11,14,15,16,20,21,22,23,24] ?_
        refine ab hcx 2 [.gv 0 w.length (1,46)] ?_
        refine bB hcx aW [212] _ [] rfl rfl rfl rfl ?_ ao
        refine Tr.k [1,3,9,10,11,14,15,16,20,21,23,24] ?_
        refine af fun K7 hK7=>?_
        refine ab hcx 7 (cl pC ((gt (gt w i) q).2++[p])) ?_
        rw[bK _ _ rfl,an]
        refine ab hcx 4 (cl aC ((gt w i).set q ((gt (gt w i) q).1,(gt (gt w i) q).2++[p]))) ?_
        rw[bM _ _ (List.length_set ..).symm]
        refine Tr.bxc 1 (q*2+1) (sl pC .no (p:: (gt (gt w i) q).2)) ((cl aC (gt w i)).set (q*2+1) (sl pC (.own 7) (p:: (gt (gt w i) q).2))) (by simp only[go_sem]) (List.getElem?_set_self (by rw[aw (f:=aC)];omega)) (CLe.noR (sl pC (.own 7) _)) rfl ?_
        rw[List.set_set,an]
        simp only[List.set_cons_succ,List.set_cons_zero]
        refine ab hcx 1 (cl aC ((gt w i).set q ((gt (gt w i) q).1,p:: (gt (gt w i) q).2))) ?_
        try rw[b8 (List.length_set ..).symm]
        refine ab hcx 0 (cl vC (w.set i ((gt w i).set q ((gt (gt w i) q).1,p:: (gt (gt w i) q).2)))) ?_
        rw[bf _ _ (List.length_set ..).symm]
        refine ah hcx [] ?_
        simp only[show ∀L,w.set i ((gt w i).set q ((gt (gt w i) q).1,L)) =aR w i q L from fun _=>rfl]
        refine Tr.w hcx [] [some 217,some 218,some 219,some 220,some 221,some 222] [] rfl rfl rfl ?_ ae
        refine au rfl ?_
        refine Tr.skip ?_
        refine hK7 _ ?_
        refine Tr.w hcx [] [some 227,some 228,some 229,some 230,some 231,some 232,some 233,some 234] [] rfl rfl rfl ?_ ae
        refine au rfl ?_
        refine Tr.skip ?_
        refine hK4 _ ?_
        refine Tr.k [1,3,9,10,11,14,15,16] ?_
        rw[show PA q++[aD w i q,bP w i q k] =PA (q+1) from by have:=bu hPB hPF (T:=[]) (H:=[]) (if_neg fun e=>e.1.2 c3o) (if_neg fun e=>e.2 c5o);simpa only[List.append_nil] using this]
        refine Tr.v hcx [1000090] _ [] rfl rfl rfl ?_ ae
        exact ⟨q+1,⟨(by omega),O1⟩,LT,rfl⟩
       have c5o:=c5
       replace c5:=eq_false c5
       have hR2:=ca (gt (gt w i) q).2
       refine Tr.w hcx [1000179] [some 166,some 167,some 168,some 169,some 170,some 171,some 172,some 173,some 174,some 175,some 176,some 177,some 178,some 179,some 23] [] rfl rfl rfl ?_ ae
       refine Tr.k [1,3,9,10,11,14,15,16,20,21,22,23] ?_
       refine Tr.w hcx [] _ [none] rfl rfl rfl ?_ ae
       refine Tr.k [1,3,9,10,11,14,15,16,20,21,22,23,24] ?_
       refine Tr.k [1,3,9,10,11,14,15,16,20,21,22,23,24] ?_
       refine ah hcx [0,1,2,4,5,6,3] ?_
       simp only[aq (ρ:=[0,1,2,4,5,6,3]) (n:=0) (k:=0) (fun _=>rfl),aq (ρ:=[0,1,2,4,5,6,3]) (n:=4) (k:=3) (fun _=>rfl),bJ (ρ:=[0,1,2,4,5,6,3]) (n:=4) (k:=3) (fun _=>rfl)]
       have hR4:=aG (n:=3) (m:=(gt w i).length) hil
       refine ab hcx 6 [.gv 3 w.length (1,46)] ?_
       refine ab hcx 3 (fV 3 i (gt w i).length w) ?_
       rw[a8]
       have hR1:=aP (n:=3) (m:=(gt (gt w i) q).2.length) hc88
       refine bd hcx aW [201] [198] _ [] rfl rfl rfl rfl ?_ ao
       refine Tr.k [1,3,9,10,11,14,15,16,20,21,22,23,24] ?_
       refine ab hcx 2 [.gv 0 w.length (1,46)] ?_
       refine bB hcx aW [212] _ [] rfl rfl rfl rfl ?_ ao
       refine Tr.k [1,3,9,10,11,14,15,16,20,21,23,24] ?_
       refine af fun K8 hK8=>?_
       refine ab hcx 7 (cl pC ((gt (gt w i) q).2++[p])) ?_
       rw[bK _ _ rfl,an]
       refine ab hcx 4 (cl aC ((gt w i).set q ((gt (gt w i) q).1,(gt (gt w i) q).2++[p]))) ?_
       rw[bM _ _ (List.length_set ..).symm]
       refine Tr.bxc 1 (q*2+1) (sl pC .no (p:: (gt (gt w i) q).2)) ((cl aC (gt w i)).set (q*2+1) (sl pC (.own 7) (p:: (gt (gt w i) q).2))) (by simp only[go_sem]) (List.getElem?_set_self (by rw[aw (f:=aC)];omega)) (CLe.noR (sl pC (.own 7) _)) rfl ?_
       rw[List.set_set,an]
       simp only[List.set_cons_succ,List.set_cons_zero]
       refine ab hcx 1 (cl aC ((gt w i).set q ((gt (gt w i) q).1,p:: (gt (gt w i) q).2))) ?_
       try rw[b8 (List.length_set ..).symm]
       refine ab hcx 0 (cl vC (w.set i ((gt w i).set q ((gt (gt w i) q).1,p:: (gt (gt w i) q).2)))) ?_
       rw[bf _ _ (List.length_set ..).symm]
       refine ah hcx [] ?_
       simp only[show ∀L,w.set i ((gt w i).set q ((gt (gt w i) q).1,L)) =aR w i q L from fun _=>rfl]
       refine Tr.w hcx [] [some 217,some 218,some 219,some 220,some 221,some 222] [] rfl rfl rfl ?_ ae
       refine au rfl ?_
       refine Tr.skip ?_
       refine hK8 _ ?_
       refine Tr.w hcx [] [some 227,some 228,some 229,some 230,some 231,some 232,some 233,some 234] [] rfl rfl rfl ?_ ae
       refine bh rfl ?_
       refine Tr.v hcx [235,1000238] _ [] rfl rfl rfl ?_ ae
       refine hK4 _ ?_
       refine Tr.k [1,3,9,10,11,14,15,16] ?_
       rw[show PA q++[aD w i q,bP w i q k]++[aR w i q (p:: (gt (gt w i) q).2)] =PA (q+1) from by have:=bu hPB hPF (T:=[]) (H:=[aR w i q (p:: (gt (gt w i) q).2)]) (if_neg fun e=>e.1.2 c3o) (if_pos ⟨c4o,c5o⟩);simpa only[List.append_nil] using this]
       refine Tr.v hcx [1000090] _ [] rfl rfl rfl ?_ ae
       exact ⟨q+1,⟨(by omega),O1⟩,LT,rfl⟩
      have c3o:=c3
      replace c3:=eq_false c3
      by_cases c4:p.2.1= ((2:Nat):Int)
      ·
       have c4o:=c4
       replace c4:=eq_true c4
       have hR2:=ca (gt (gt w i) q).2
       have c5:=True.intro
       refine Tr.w hcx [1000179] [some 166,some 167,some 168,some 169,some 170,some 171,some 172,some 173,some 174,some 175,some 176,some 177,some 178,some 179,some 23] [] rfl rfl rfl ?_ ae
       refine Tr.k [1,3,9,10,11,14,15,16,20,21,22,23] ?_
       refine Tr.w hcx [] _ [none] rfl rfl rfl ?_ ae
       refine Tr.k [1,3,9,10,11,14,15,16,20,21,22,23,24] ?_
       refine Tr.k [1,3,9,10,11,14,15,16,20,21,22,23,24] ?_
       refine ah hcx [0,1,2,4,5,6,3] ?_
       simp only[aq (ρ:=[0,1,2,4,5,6,3]) (n:=0) (k:=0) (fun _=>rfl),aq (ρ:=[0,1,2,4,5,6,3]) (n:=4) (k:=3) (fun _=>rfl),bJ (ρ:=[0,1,2,4,5,6,3]) (n:=4) (k:=3) (fun _=>rfl)]
       have hR4:=aG (n:=3) (m:=(gt w i).length) hil
       refine ab hcx 6 [.gv 3 w.length (1,46)] ?_
       refine ab hcx 3 (fV 3 i (gt w i).length w) ?_
       rw[a8]
       have hR1:=aP (n:=3) (m:=(gt (gt w i) q).2.length) hc88
       refine bd hcx aW [201] [198] _ [] rfl rfl rfl rfl ?_ ao
       refine Tr.k [1,3,9,10,11,14,15,16,20,21,22,23,24] ?_
       refine ab hcx 2 [.gv 0 w.length (1,46)] ?_
       refine bB hcx aW [212] _ [] rfl rfl rfl rfl ?_ ao
       refine Tr.k [1,3,9,10,11,14,15,16,20,21,23,24] ?_
       refine af fun K9 hK9=>?_
       refine ab hcx 7 (cl pC ((gt (gt w i) q).2++[p])) ?_
       rw[bK _ _ rfl,an]
       refine ab hcx 4 (cl aC ((gt w i).set q ((gt (gt w i) q).1,(gt (gt w i) q).2++[p]))) ?_
       rw[bM _ _ (List.length_set ..).symm]
       refine Tr.bxc 1 (q*2+1) (sl pC .no (p:: (gt (gt w i) q).2)) ((cl aC (gt w i)).set (q*2+1) (sl pC (.own 7) (p:: (gt (gt w i) q).2))) (by simp only[go_sem]) (List.getElem?_set_self (by rw[aw (f:=aC)];omega)) (CLe.noR (sl pC (.own 7) _)) rfl ?_
       rw[List.set_set,an]
       simp only[List.set_cons_succ,List.set_cons_zero]
       refine ab hcx 1 (cl aC ((gt w i).set q ((gt (gt w i) q).1,p:: (gt (gt w i) q).2))) ?_
       try rw[b8 (List.length_set ..).symm]
       refine ab hcx 0 (cl vC (w.set i ((gt w i).set q ((gt (gt w i) q).1,p:: (gt (gt w i) q).2)))) ?_
       rw[bf _ _ (List.length_set ..).symm]
       refine ah hcx [] ?_
       simp only[show ∀L,w.set i ((gt w i).set q ((gt (gt w i) q).1,L)) =aR w i q L from fun _=>rfl]
       refine Tr.w hcx [] [some 217,some 218,some 219,some 220,some 221,some 222] [] rfl rfl rfl ?_ ae
       refine au rfl ?_
       refine Tr.skip ?_
       refine hK9 _ ?_
       refine Tr.w hcx [] [some 227,some 228,some 229,some 230,some 231,some 232,some 233,some 234] [] rfl rfl rfl ?_ ae
       refine au rfl ?_
       refine Tr.skip ?_
       refine hK4 _ ?_
       refine Tr.k [1,3,9,10,11,14,15,16] ?_
       rw[show PA q++[aD w i q,bP w i q k] =PA (q+1) from by have:=bu hPB hPF (T:=[]) (H:=[]) (if_neg fun e=>e.2 c4o) (if_neg fun e=>e.1 c4o);simpa only[List.append_nil] using this]
       refine Tr.v hcx [1000090] _ [] rfl rfl rfl ?_ ae
       exact ⟨q+1,⟨(by omega),O1⟩,LT,rfl⟩
      have c4o:=c4
      replace c4:=eq_false c4
      by_cases c5:p.2.1= ((1:Nat):Int)
      ·
       have c5o:=c5
       replace c5:=eq_true c5
       have hR2:=ca (gt (gt w i) q).2
       refine Tr.w hcx [1000179] [some 166,some 167,some 168,some 169,some 170,some 171,some 172,some 173,some 174,some 175,some 176,some 177,some 178,some 179,some 23] [] rfl rfl rfl ?_ ae
       refine Tr.k [1,3,9,10,11,14,15,16,20,21,22,23] ?_
       refine Tr.w hcx [] _ [none] rfl rfl rfl ?_ ae
       refine Tr.k [1,3,9,10,11,14,15,16,20,21,22,23,24] ?_
       refine Tr.k [1,3,9,10,11,14,15,16,20,21,22,23,24] ?_
       refine ah hcx [0,1,2,4,5,6,3] ?_
       simp only[aq (ρ:=[0,1,2,4,5,6,3]) (n:=0) (k:=0) (fun _=>rfl),aq (ρ:=[0,1,2,4,5,6,3]) (n:=4) (k:=3) (fun _=>rfl),bJ (ρ:=[0,1,2,4,5,6,3]) (n:=4) (k:=3) (fun _=>rfl)]
       have hR4:=aG (n:=3) (m:=(gt w i).length) hil
       refine ab hcx 6 [.gv 3 w.length (1,46)] ?_
       refine ab hcx 3 (fV 3 i (gt w i).length w) ?_
       rw[a8]
       have hR1:=aP (n:=3) (m:=(gt (gt w i) q).2.length) hc88
       refine bd hcx aW [201] [198] _ [] rfl rfl rfl rfl ?_ ao
       refine Tr.k [1,3,9,10,11,14,15,16,20,21,22,23,24] ?_
       refine ab hcx 2 [.gv 0 w.length (1,46)] ?_
       refine bB hcx aW [212] _ [] rfl rfl rfl rfl ?_ ao
       refine Tr.k [1,3,9,10,11,14,15,16,20,21,23,24] ?_
       refine af fun K10 hK10=>?_
       refine ab hcx 7 (cl pC ((gt (gt w i) q).2++[p])) ?_
       rw[bK _ _ rfl,an]
       refine ab hcx 4 (cl aC ((gt w i).set q ((gt (gt w i) q).1,(gt (gt w i) q).2++[p]))) ?_
       rw[bM _ _ (List.length_set ..).symm]
       refine Tr.bxc 1 (q*2+1) (sl pC .no (p:: (gt (gt w i) q).2)) ((cl aC (gt w i)).set (q*2+1) (sl pC (.own 7) (p:: (gt (gt w i) q).2))) (by simp only[go_sem]) (List.getElem?_set_self (by rw[aw (f:=aC)];omega)) (CLe.noR (sl pC (.own 7) _)) rfl ?_
       rw[List.set_set,an]
       simp only[List.set_cons_succ,List.set_cons_zero]
       refine ab hcx 1 (cl aC ((gt w i).set q ((gt (gt w i) q).1,p:: (gt (gt w i) q).2))) ?_
       try rw[b8 (List.length_set ..).symm]
       refine ab hcx 0 (cl vC (w.set i ((gt w i).set q ((gt (gt w i) q).1,p:: (gt (gt w i) q).2)))) ?_
       rw[bf _ _ (List.length_set ..).symm]
       refine ah hcx [] ?_
       simp only[show ∀L,w.set i ((gt w i).set q ((gt (gt w i) q).1,L)) =aR w i q L from fun _=>rfl]
       refine Tr.w hcx [] [some 217,some 218,some 219,some 220,some 221,some 222] [] rfl rfl rfl ?_ ae
       refine bh rfl ?_
       refine Tr.v hcx [223,1000226] _ [] rfl rfl rfl ?_ ae
       refine hK10 _ ?_
       refine Tr.k [1,3,9,10,11,14,15,16,20,21] ?_
       refine Tr.w hcx [] [some 227,some 228,some 229,some 230,some 231,some 232,some 233,some 234] [] rfl rfl rfl ?_ ae
       refine au rfl ?_
       refine Tr.skip ?_
       refine hK4 _ ?_
       rw[show PA q++[aD w i q,bP w i q k]++[aR w i q ((gt (gt w i) q).2++[p])] =PA (q+1) from by have:=bu hPB hPF (T:=[aR w i q ((gt (gt w i) q).2++[p])]) (H:=[]) (if_pos ⟨⟨c2o,c3o⟩,c4o⟩) (if_neg fun e=>e.2 c5o);simpa only[List.append_nil] using this]
       refine Tr.v hcx [1000090] _ [] rfl rfl rfl ?_ ae
       exact ⟨q+1,⟨(by omega),O1⟩,LT,rfl⟩
      have c5o:=c5
      replace c5:=eq_false c5
      have hR2:=ca (gt (gt w i) q).2
      refine Tr.w hcx [1000179] [some 166,some 167,some 168,some 169,some 170,some 171,some 172,some 173,some 174,some 175,some 176,some 177,some 178,some 179,some 23] [] rfl rfl rfl ?_ ae
      refine Tr.k [1,3,9,10,11,14,15,16,20,21,22,23] ?_
      refine Tr.w hcx [] _ [none] rfl rfl rfl ?_ ae
      refine Tr.k [1,3,9,10,11,14,15,16,20,21,22,23,24] ?_
      refine Tr.k [1,3,9,10,11,14,15,16,20,21,22,23,24] ?_
      refine ah hcx [0,1,2,4,5,6,3] ?_
      simp only[aq (ρ:=[0,1,2,4,5,6,3]) (n:=0) (k:=0) (fun _=>rfl),aq (ρ:=[0,1,2,4,5,6,3]) (n:=4) (k:=3) (fun _=>rfl),bJ (ρ:=[0,1,2,4,5,6,3]) (n:=4) (k:=3) (fun _=>rfl)]
      have hR4:=aG (n:=3) (m:=(gt w i).length) hil
      refine ab hcx 6 [.gv 3 w.length (1,46)] ?_
      refine ab hcx 3 (fV 3 i (gt w i).length w) ?_
      rw[a8]
      have hR1:=aP (n:=3) (m:=(gt (gt w i) q).2.length) hc88
      refine bd hcx aW [201] [198] _ [] rfl rfl rfl rfl ?_ ao
      refine Tr.k [1,3,9,10,11,14,15,16,20,21,22,23,24] ?_
      refine ab hcx 2 [.gv 0 w.length (1,46)] ?_
      refine bB hcx aW [212] _ [] rfl rfl rfl rfl ?_ ao
      refine Tr.k [1,3,9,10,11,14,15,16,20,21,23,24] ?_
      refine af fun K11 hK11=>?_
      refine ab hcx 7 (cl pC ((gt (gt w i) q).2++[p])) ?_
      rw[bK _ _ rfl,an]
      refine ab hcx 4 (cl aC ((gt w i).set q ((gt (gt w i) q).1,(gt (gt w i) q).2++[p]))) ?_
      rw[bM _ _ (List.length_set ..).symm]
      refine Tr.bxc 1 (q*2+1) (sl pC .no (p:: (gt (gt w i) q).2)) ((cl aC (gt w i)).set (q*2+1) (sl pC (.own 7) (p:: (gt (gt w i) q).2))) (by simp only[go_sem]) (List.getElem?_set_self (by rw[aw (f:=aC)];omega)) (CLe.noR (sl pC (.own 7) _)) rfl ?_
      rw[List.set_set,an]
      simp only[List.set_cons_succ,List.set_cons_zero]
      refine ab hcx 1 (cl aC ((gt w i).set q ((gt (gt w i) q).1,p:: (gt (gt w i) q).2))) ?_
      try rw[b8 (List.length_set ..).symm]
      refine ab hcx 0 (cl vC (w.set i ((gt w i).set q ((gt (gt w i) q).1,p:: (gt (gt w i) q).2)))) ?_
      rw[bf _ _ (List.length_set ..).symm]
      refine ah hcx [] ?_
      simp only[show ∀L,w.set i ((gt w i).set q ((gt (gt w i) q).1,L)) =aR w i q L from fun _=>rfl]
      refine Tr.w hcx [] [some 217,some 218,some 219,some 220,some 221,some 222] [] rfl rfl rfl ?_ ae
      refine bh rfl ?_
      refine Tr.v hcx [223,1000226] _ [] rfl rfl rfl ?_ ae
      refine hK11 _ ?_
      refine Tr.k [1,3,9,10,11,14,15,16,20,21] ?_
      refine Tr.w hcx [] [some 227,some 228,some 229,some 230,some 231,some 232,some 233,some 234] [] rfl rfl rfl ?_ ae
      refine bh rfl ?_
      refine Tr.v hcx [235,1000238] _ [] rfl rfl rfl ?_ ae
      refine hK4 _ ?_
      rw[show PA q++[aD w i q,bP w i q k]++[aR w i q ((gt (gt w i) q).2++[p])]++[aR w i q (p:: (gt (gt w i) q).2)] =PA (q+1) from by have:=bu hPB hPF (T:=[aR w i q ((gt (gt w i) q).2++[p])]) (H:=[aR w i q (p:: (gt (gt w i) q).2)]) (if_pos ⟨⟨c2o,c3o⟩,c4o⟩) (if_pos ⟨c4o,c5o⟩);simpa only[List.append_nil] using this]
      refine Tr.v hcx [1000090] _ [] rfl rfl rfl ?_ ae
      exact ⟨q+1,⟨(by omega),O1⟩,LT,rfl⟩
     have c2o:=c2
     replace c2:=eq_false c2
     by_cases c4:p.2.1= ((2:Nat):Int)
     ·
      have c4o:=c4
      replace c4:=eq_true c4
      have hR2:=ca (gt (gt w i) q).2
      have c3:=True.intro
      have c5:=True.intro
      refine Tr.w hcx [1000179] [some 166,some 167,some 168,some 169,some 170,some 171,some 172,some 173,some 174,some 175,some 176,some 177,some 178,some 179,some 23] [] rfl rfl rfl ?_ ae
      refine Tr.k [1,3,9,10,11,14,15,16,20,21,22,23] ?_
      refine Tr.w hcx [] _ [none] rfl rfl rfl ?_ ae
      refine Tr.k [1,3,9,10,11,14,15,16,20,21,22,23,24] ?_
      refine Tr.k [1,3,9,10,11,14,15,16,20,21,22,23,24] ?_
      refine ah hcx [0,1,2,4,5,6,3] ?_
      simp only[aq (ρ:=[0,1,2,4,5,6,3]) (n:=0) (k:=0) (fun _=>rfl),aq (ρ:=[0,1,2,4,5,6,3]) (n:=4) (k:=3) (fun _=>rfl),bJ (ρ:=[0,1,2,4,5,6,3]) (n:=4) (k:=3) (fun _=>rfl)]
      have hR4:=aG (n:=3) (m:=(gt w i).length) hil
      refine ab hcx 6 [.gv 3 w.length (1,46)] ?_
      refine ab hcx 3 (fV 3 i (gt w i).length w) ?_
      rw[a8]
      have hR1:=aP (n:=3) (m:=(gt (gt w i) q).2.length) hc88
      refine bd hcx aW [201] [198] _ [] rfl rfl rfl rfl ?_ ao
      refine Tr.k [1,3,9,10,11,14,15,16,20,21,22,23,24] ?_
      refine ab hcx 2 [.gv 0 w.length (1,46)] ?_
      refine bB hcx aW [212] _ [] rfl rfl rfl rfl ?_ ao
      refine Tr.k [1,3,9,10,11,14,15,16,20,21,23,24] ?_
      refine af fun K12 hK12=>?_
      refine ab hcx 7 (cl pC ((gt (gt w i) q).2++[p])) ?_
      rw[bK _ _ rfl,an]
      refine ab hcx 4 (cl aC ((gt w i).set q ((gt (gt w i) q).1,(gt (gt w i) q).2++[p]))) ?_
      rw[bM _ _ (List.length_set ..).symm]
      refine Tr.bxc 1 (q*2+1) (sl pC .no (p:: (gt (gt w i) q).2)) ((cl aC (gt w i)).set (q*2+1) (sl pC (.own 7) (p:: (gt (gt w i) q).2))) (by simp only[go_sem]) (List.getElem?_set_self (by rw[aw (f:=aC)];omega)) (CLe.noR (sl pC (.own 7) _)) rfl ?_
      rw[List.set_set,an]
      simp only[List.set_cons_succ,List.set_cons_zero]
      refine ab hcx 1 (cl aC ((gt w i).set q ((gt (gt w i) q).1,p:: (gt (gt w i) q).2))) ?_
      try rw[b8 (List.length_set ..).symm]
      refine ab hcx 0 (cl vC (w.set i ((gt w i).set q ((gt (gt w i) q).1,p:: (gt (gt w i) q).2)))) ?_
      rw[bf _ _ (List.length_set ..).symm]
      refine ah hcx [] ?_
      simp only[show ∀L,w.set i ((gt w i).set q ((gt (gt w i) q).1,L)) =aR w i q L from fun _=>rfl]
      refine Tr.w hcx [] [some 217,some 218,some 219,some 220,some 221,some 222] [] rfl rfl rfl ?_ ae
      refine au rfl ?_
      refine Tr.skip ?_
      refine hK12 _ ?_
      refine Tr.w hcx [] [some 227,some 228,some 229,some 230,some 231,some 232,some 233,some 234] [] rfl rfl rfl ?_ ae
      refine au rfl ?_
      refine Tr.skip ?_
      refine hK4 _ ?_
      refine Tr.k [1,3,9,10,11,14,15,16] ?_
      rw[show PA q++[aD w i q,bP w i q k] =PA (q+1) from by have:=bu hPB hPF (T:=[]) (H:=[]) (if_neg fun e=>e.2 c4o) (if_neg fun e=>e.1 c4o);simpa only[List.append_nil] using this]
      refine Tr.v hcx [1000090] _ [] rfl rfl rfl ?_ ae
      exact ⟨q+1,⟨(by omega),O1⟩,LT,rfl⟩
     have c4o:=c4
     replace c4:=eq_false c4
     by_cases c5:p.2.1= ((1:Nat):Int)
     ·
      have c5o:=c5
      replace c5:=eq_true c5
      have hR2:=ca (gt (gt w i) q).2
      have c3:=True.intro
      refine Tr.w hcx [1000179] [some 166,some 167,some 168,some 169,some 170,some 171,some 172,some 173,some 174,some 175,some 176,some 177,some 178,some 179,some 23] [] rfl rfl rfl ?_ ae
      refine Tr.k [1,3,9,10,11,14,15,16,20,21,22,23] ?_
      refine Tr.w hcx [] _ [none] rfl rfl rfl ?_ ae
      refine Tr.k [1,3,9,10,11,14,15,16,20,21,22,23,24] ?_
      refine Tr.k [1,3,9,10,11,14,15,16,20,21,22,23,24] ?_
      refine ah hcx [0,1,2,4,5,6,3] ?_
      simp only[aq (ρ:=[0,1,2,4,5,6,3]) (n:=0) (k:=0) (fun _=>rfl),aq (ρ:=[0,1,2,4,5,6,3]) (n:=4) (k:=3) (fun _=>rfl),bJ (ρ:=[0,1,2,4,5,6,3]) (n:=4) (k:=3) (fun _=>rfl)]
      have hR4:=aG (n:=3) (m:=(gt w i).length) hil
      refine ab hcx 6 [.gv 3 w.length (1,46)] ?_
      refine ab hcx 3 (fV 3 i (gt w i).length w) ?_
      rw[a8]
      have hR1:=aP (n:=3) (m:=(gt (gt w i) q).2.length) hc88
      refine bd hcx aW [201] [198] _ [] rfl rfl rfl rfl ?_ ao
      refine Tr.k [1,3,9,10,11,14,15,16,20,21,22,23,24] ?_
      refine ab hcx 2 [.gv 0 w.length (1,46)] ?_
      refine bB hcx aW [212] _ [] rfl rfl rfl rfl ?_ ao
      refine Tr.k [1,3,9,10,11,14,15,16,20,21,23,24] ?_
      refine af fun K13 hK13=>?_
      refine ab hcx 7 (cl pC ((gt (gt w i) q).2++[p])) ?_
      rw[bK _ _ rfl,an]
      refine ab hcx 4 (cl aC ((gt w i).set q ((gt (gt w i) q).1,(gt (gt w i) q).2++[p]))) ?_
      rw[bM _ _ (List.length_set ..).symm]
      refine Tr.bxc 1 (q*2+1) (sl pC .no (p:: (gt (gt w i) q).2)) ((cl aC (gt w i)).set (q*2+1) (sl pC (.own 7) (p:: (gt (gt w i) q).2))) (by simp only[go_sem]) (List.getElem?_set_self (by rw[aw (f:=aC)];omega)) (CLe.noR (sl pC (.own 7) _)) rfl ?_
      rw[List.set_set,an]
      simp only[List.set_cons_succ,List.set_cons_zero]
      refine ab hcx 1 (cl aC ((gt w i).set q ((gt (gt w i) q).1,p:: (gt (gt w i) q).2))) ?_
      try rw[b8 (List.length_set ..).symm]
      refine ab hcx 0 (cl vC (w.set i ((gt w i).set q ((gt (gt w i) q).1,p:: (gt (gt w i) q).2)))) ?_
      rw[bf _ _ (List.length_set ..).symm]
      refine ah hcx [] ?_
      simp only[show ∀L,w.set i ((gt w i).set q ((gt (gt w i) q).1,L)) =aR w i q L from fun _=>rfl]
      refine Tr.w hcx [] [some 217,some 218,some 219,some 220,some 221,some 222] [] rfl rfl rfl ?_ ae
      refine au rfl ?_
      refine Tr.skip ?_
      refine hK13 _ ?_
      refine Tr.w hcx [] [some 227,some 228,some 229,some 230,some 231,some 232,some 233,some 234] [] rfl rfl rfl ?_ ae
      refine au rfl ?_
      refine Tr.skip ?_
      refine hK4 _ ?_
      refine Tr.k [1,3,9,10,11,14,15,16] ?_
      rw[show PA q++[aD w i q,bP w i q k] =PA (q+1) from by have:=bu hPB hPF (T:=[]) (H:=[]) (if_neg fun e=>c2o e.1.1) (if_neg fun e=>e.2 c5o);simpa only[List.append_nil] using this]
      refine Tr.v hcx [1000090] _ [] rfl rfl rfl ?_ ae
      exact ⟨q+1,⟨(by omega),O1⟩,LT,rfl⟩
     have c5o:=c5
     replace c5:=eq_false c5
     have hR2:=ca (gt (gt w i) q).2
     have c3:=True.intro
     refine Tr.w hcx [1000179] [some 166,some 167,some 168,some 169,some 170,some 171,some 172,some 173,some 174,some 175,some 176,some 177,some 178,some 179,some 23] [] rfl rfl rfl ?_ ae
     refine Tr.k [1,3,9,10,11,14,15,16,20,21,22,23] ?_
     refine Tr.w hcx [] _ [none] rfl rfl rfl ?_ ae
     refine Tr.k [1,3,9,10,11,14,15,16,20,21,22,23,24] ?_
     refine Tr.k [1,3,9,10,11,14,15,16,20,21,22,23,24] ?_
     refine ah hcx [0,1,2,4,5,6,3] ?_
     simp only[aq (ρ:=[0,1,2,4,5,6,3]) (n:=0) (k:=0) (fun _=>rfl),aq (ρ:=[0,1,2,4,5,6,3]) (n:=4) (k:=3) (fun _=>rfl),bJ (ρ:=[0,1,2,4,5,6,3]) (n:=4) (k:=3) (fun _=>rfl)]
     have hR4:=aG (n:=3) (m:=(gt w i).length) hil
     refine ab hcx 6 [.gv 3 w.length (1,46)] ?_
     refine ab hcx 3 (fV 3 i (gt w i).length w) ?_
     rw[a8]
     have hR1:=aP (n:=3) (m:=(gt (gt w i) q).2.length) hc88
     refine bd hcx aW [201] [198] _ [] rfl rfl rfl rfl ?_ ao
     refine Tr.k [1,3,9,10,11,14,15,16,20,21,22,23,24] ?_
     refine ab hcx 2 [.gv 0 w.length (1,46)] ?_
     refine bB hcx aW [212] _ [] rfl rfl rfl rfl ?_ ao
     refine Tr.k [1,3,9,10,11,14,15,16,20,21,23,24] ?_
     refine af fun K14 hK14=>?_
     refine ab hcx 7 (cl pC ((gt (gt w i) q).2++[p])) ?_
     rw[bK _ _ rfl,an]
     refine ab hcx 4 (cl aC ((gt w i).set q ((gt (gt w i) q).1,(gt (gt w i) q).2++[p]))) ?_
     rw[bM _ _ (List.length_set ..).symm]
     refine Tr.bxc 1 (q*2+1) (sl pC .no (p:: (gt (gt w i) q).2)) ((cl aC (gt w i)).set (q*2+1) (sl pC (.own 7) (p:: (gt (gt w i) q).2))) (by simp only[go_sem]) (List.getElem?_set_self (by rw[aw (f:=aC)];omega)) (CLe.noR (sl pC (.own 7) _)) rfl ?_
     rw[List.set_set,an]
     simp only[List.set_cons_succ,List.set_cons_zero]
     refine ab hcx 1 (cl aC ((gt w i).set q ((gt (gt w i) q).1,p:: (gt (gt w i) q).2))) ?_
     try rw[b8 (List.length_set ..).symm]
     refine ab hcx 0 (cl vC (w.set i ((gt w i).set q ((gt (gt w i) q).1,p:: (gt (gt w i) q).2)))) ?_
     rw[bf _ _ (List.length_set ..).symm]
     refine ah hcx [] ?_
     simp only[show ∀L,w.set i ((gt w i).set q ((gt (gt w i) q).1,L)) =aR w i q L from fun _=>rfl]
     refine Tr.w hcx [] [some 217,some 218,some 219,some 220,some 221,some 222] [] rfl rfl rfl ?_ ae
     refine au rfl ?_
     refine Tr.skip ?_
     refine hK14 _ ?_
     refine Tr.w hcx [] [some 227,some 228,some 229,some 230,some 231,some 232,some 233,some 234] [] rfl rfl rfl ?_ ae
     refine bh rfl ?_
     refine Tr.v hcx [235,1000238] _ [] rfl rfl rfl ?_ ae
     refine hK4 _ ?_
     refine Tr.k [1,3,9,10,11,14,15,16] ?_
     rw[show PA q++[aD w i q,bP w i q k]++[aR w i q (p:: (gt (gt w i) q).2)] =PA (q+1) from by have:=bu hPB hPF (T:=[]) (H:=[aR w i q (p:: (gt (gt w i) q).2)]) (if_neg fun e=>c2o e.1.1) (if_pos ⟨c4o,c5o⟩);simpa only[List.append_nil] using this]
     refine Tr.v hcx [1000090] _ [] rfl rfl rfl ?_ ae
     exact ⟨q+1,⟨(by omega),O1⟩,LT,rfl⟩
    have hR1:=rn q (gt w i) ⟨hc88,by omega⟩
    have hR2:=fun cx apps dsts lo id d e h fs K e9 b=>p5 cx apps dsts lo id d e h fs K aC e9 b q (gt w i) ⟨hc88,by omega⟩
    refine ab hcx 3 (aC (gt (gt w i) q)) ?_
    refine ab hcx 2 [.gv 0 w.length (1,46)] ?_
    refine bd hcx aW [127] [117] _ [] rfl rfl rfl rfl ?_ ao
    refine Tr.k [1,3,9,10,11,14,15,16,17,18] ?_
    refine ab hcx 1 (cl aC ((gt w i).take q++(gt w i).drop (q+1)++(gt w i).drop ((gt w i).length - 1))) ?_
    rw[wu aC hc88,e5]
    rw[show w.set i ((gt w i).take q++(gt w i).drop (q+1)) =aD w i q from rfl]
    refine ab hcx 0 (cl vC (aD w i q)) ?_
    rw[bf _ _ (dH w i q).symm]
    refine ah hcx [] ?_
    refine Tr.virt ?_
    refine Tr.virt ?_
    simp only[List.nil_append,List.cons_append]
    refine Tr.w hcx [] _ [none] rfl rfl rfl ?_ ae
    refine Tr.k [1,3,9,10,11,14,15,16,17,18,19] ?_
    have hP9: (gt (aD w i q) k).length≤4:=(hvs.cut hil hc88).v _ (ba _ k (by rw[dH];exact hkl))
    have hP8:k< (aD w i q).length:=by rw[dH];exact hkl
    have hR4:=aG (n:=0) (m:=(gt (aD w i q) k).length) hP8
    have hR1:=dH w i q
    refine Tr.k [1,3,9,10,11,14,15,16,17,18,19] ?_
    refine ah hcx [3,4,2] ?_
    simp only[aq (ρ:=[3,4,2]) (n:=3) (k:=0) (fun _=>rfl)]
    refine ab hcx 2 [.gv 0 (aD w i q).length (1,46)] ?_
    refine bd hcx aW [143] [140] _ [] rfl rfl rfl rfl ?_ ao
    refine Tr.k [1,3,9,10,11,14,15,16,17,19] ?_
    have hP9:=j5 hPB hPF q
    refine ab hcx 3 (cl aC (gt (aD w i q) k++[gt (gt w i) q])) ?_
    rw[j0 _ _ rfl,e5]
    rw[show (aD w i q).set k (gt (aD w i q) k++[gt (gt w i) q]) =bP w i q k from rfl]
    refine ab hcx 0 (cl vC (bP w i q k)) ?_
    rw[bf _ _ (kM w i q k)]
    refine ah hcx [] ?_
    refine Tr.w hcx [146,1000150] _ [] rfl rfl rfl ?_ ae
    refine Tr.w hcx [] _ [none] rfl rfl rfl ?_ ae
    refine ab hcx 0 (pC p) ?_
    refine ah hcx [] ?_
    refine Tr.virt ?_
    simp only[List.nil_append]
    refine Tr.w hcx [] _ [none] rfl rfl rfl ?_ ae
    refine Tr.k [1,3,9,10,11,14,15,16,20,21] ?_
    refine Tr.k [1,3,9,10,11,14,15,16,20,21] ?_
    refine ah hcx [2,3,1] ?_
    simp only[aq (ρ:=[2,3,1]) (n:=2) (k:=0) (fun _=>rfl)]
    refine Tr.w hcx [1000165] _ [] rfl rfl rfl ?_ ae
    refine Tr.k [1,3,9,10,11,14,15,16,20,21,22] ?_
    by_cases c2:0< (gt (gt w i) q).2.length
    ·
     have c2o:=c2
     replace c2:=eq_true c2
     by_cases c3: (gt (gt (gt w i) q).2 ((gt (gt w i) q).2.length - 1)).2.1= ((2:Nat):Int)
     ·
      have c3o:=c3
      replace c3:=eq_true c3
      by_cases c4:p.2.1= ((2:Nat):Int)
      ·
       have c4o:=c4
       replace c4:=eq_true c4
       have hR2:=ca (gt (gt w i) q).2
       have c5:=True.intro
       refine Tr.w hcx [1000179] [some 166,some 167,some 168,some 169,some 170,some 171,some 172,some 173,some 174,some 175,some 176,some 177,some 178,some 179,some 23] [] rfl rfl rfl ?_ ae
       refine Tr.k [1,3,9,10,11,14,15,16,20,21,22,23] ?_
       refine Tr.w hcx [] _ [none] rfl rfl rfl ?_ ae
       refine Tr.k [1,3,9,10,11,14,15,16,20,21,22,23,24] ?_
       refine Tr.k [1,3,9,10,11,14,15,16,20,21,22,23,24] ?_
       refine ah hcx [0,1,2,4,5,6,3] ?_
       simp only[aq (ρ:=[0,1,2,4,5,6,3]) (n:=0) (k:=0) (fun _=>rfl),aq (ρ:=[0,1,2,4,5,6,3]) (n:=4) (k:=3) (fun _=>rfl),bJ (ρ:=[0,1,2,4,5,6,3]) (n:=4) (k:=3) (fun _=>rfl)]
       have hR4:=aG (n:=3) (m:=(gt w i).length) hil
       refine ab hcx 6 [.gv 3 w.length (1,46)] ?_
       refine ab hcx 3 (fV 3 i (gt w i).length w) ?_
       rw[a8]
       have hR1:=aP (n:=3) (m:=(gt (gt w i) q).2.length) hc88
       refine bd hcx aW [201] [198] _ [] rfl rfl rfl rfl ?_ ao
       refine Tr.k [1,3,9,10,11,14,15,16,20,21,22,23,24] ?_
       refine ab hcx 2 [.gv 0 w.length (1,46)] ?_
       refine bB hcx aW [212] _ [] rfl rfl rfl rfl ?_ ao
       refine Tr.k [1,3,9,10,11,14,15,16,20,21,23,24] ?_
       refine af fun K15 hK15=>?_
       refine ab hcx 7 (cl pC ((gt (gt w i) q).2++[p])) ?_
       rw[bK _ _ rfl,an]
       refine ab hcx 4 (cl aC ((gt w i).set q ((gt (gt w i) q).1,(gt (gt w i) q).2++[p]))) ?_
       rw[bM _ _ (List.length_set ..).symm]
       refine Tr.bxc 1 (q*2+1) (sl pC .no (p:: (gt (gt w i) q).2)) ((cl aC (gt w i)).set (q*2+1) (sl pC (.own 7) (p:: (gt (gt w i) q).2))) (by simp only[go_sem]) (List.getElem?_set_self (by rw[aw (f:=aC)];omega)) (CLe.noR (sl pC (.own 7) _)) rfl ?_
       rw[List.set_set,an]
       simp only[List.set_cons_succ,List.set_cons_zero]
       refine ab hcx 1 (cl aC ((gt w i).set q ((gt (gt w i) q).1,p:: (gt (gt w i) q).2))) ?_
       try rw[b8 (List.length_set ..).symm]
       refine ab hcx 0 (cl vC (w.set i ((gt w i).set q ((gt (gt w i) q).1,p:: (gt (gt w i) q).2)))) ?_
       rw[bf _ _ (List.length_set ..).symm]
       refine ah hcx [] ?_
       simp only[show ∀L,w.set i ((gt w i).set q ((gt (gt w i) q).1,L)) =aR w i q L from fun _=>rfl]
       refine Tr.w hcx [] [some 217,some 218,some 219,some 220,some 221,some 222] [] rfl rfl rfl ?_ ae
       refine au rfl ?_
       refine Tr.skip ?_
       refine hK15 _ ?_
       refine Tr.w hcx [] [some 227,some 228,some 229,some 230,some 231,some 232,some 233,some 234] [] rfl rfl rfl ?_ ae
       refine au rfl ?_
       refine Tr.skip ?_
       refine hK4 _ ?_
       refine Tr.k [1,3,9,10,11,14,15,16] ?_
       rw[show PA q++[aD w i q,bP w i q k] =PA (q+1) from by have:=bu hPB hPF (T:=[]) (H:=[]) (if_neg fun e=>e.2 c4o) (if_neg fun e=>e.1 c4o);simpa only[List.append_nil] using this]
       refine Tr.v hcx [1000090] _ [] rfl rfl rfl ?_ ae
       exact ⟨q+1,⟨(by omega),O1⟩,LT,rfl⟩
      have c4o:=c4
      replace c4:=eq_false c4
      by_cases c5:p.2.1= ((1:Nat):Int)
      ·
       have c5o:=c5
       replace c5:=eq_true c5
       have hR2:=ca (gt (gt w i) q).2
       refine Tr.w hcx [1000179] [some 166,some 167,some 168,some 169,some 170,some 171,some 172,some 173,some 174,some 175,some 176,some 177,some 178,some 179,some 23] [] rfl rfl rfl ?_ ae
       refine Tr.k [1,3,9,10,11,14,15,16,20,21,22,23] ?_
       refine Tr.w hcx [] _ [none] rfl rfl rfl ?_ ae
       refine Tr.k [1,3,9,10,11,14,15,16,20,21,22,23,24] ?_
       refine Tr.k [1,3,9,10,11,14,15,16,20,21,22,23,24] ?_
       refine ah hcx [0,1,2,4,5,6,3] ?_
       simp only[aq (ρ:=[0,1,2,4,5,6,3]) (n:=0) (k:=0) (fun _=>rfl),aq (ρ:=[0,1,2,4,5,6,3]) (n:=4) (k:=3) (fun _=>rfl),bJ (ρ:=[0,1,2,4,5,6,3]) (n:=4) (k:=3) (fun _=>rfl)]
       have hR4:=aG (n:=3) (m:=(gt w i).length) hil
       refine ab hcx 6 [.gv 3 w.length (1,46)] ?_
       refine ab hcx 3 (fV 3 i (gt w i).length w) ?_
       rw[a8]
       have hR1:=aP (n:=3) (m:=(gt (gt w i) q).2.length) hc88
       refine bd hcx aW [201] [198] _ [] rfl rfl rfl rfl ?_ ao
       refine Tr.k [1,3,9,10,11,14,15,16,20,21,22,23,24] ?_
       refine ab hcx 2 [.gv 0 w.length (1,46)] ?_
       refine bB hcx aW [212] _ [] rfl rfl rfl rfl ?_ ao
       refine Tr.k [1,3,9,10,11,14,15,16,20,21,23,24] ?_
       refine af fun K16 hK16=>?_
       refine ab hcx 7 (cl pC ((gt (gt w i) q).2++[p])) ?_
       rw[bK _ _ rfl,an]
       refine ab hcx 4 (cl aC ((gt w i).set q ((gt (gt w i) q).1,(gt (gt w i) q).2++[p]))) ?_
       rw[bM _ _ (List.length_set ..).symm]
       refine Tr.bxc 1 (q*2+1) (sl pC .no (p:: (gt (gt w i) q).2)) ((cl aC (gt w i)).set (q*2+1) (sl pC (.own 7) (p:: (gt (gt w i) q).2))) (by simp only[go_sem]) (List.getElem?_set_self (by rw[aw (f:=aC)];omega)) (CLe.noR (sl pC (.own 7) _)) rfl ?_
       rw[List.set_set,an]
       simp only[List.set_cons_succ,List.set_cons_zero]
       refine ab hcx 1 (cl aC ((gt w i).set q ((gt (gt w i) q).1,p:: (gt (gt w i) q).2))) ?_
       try rw[b8 (List.length_set ..).symm]
       refine ab hcx 0 (cl vC (w.set i ((gt w i).set q ((gt (gt w i) q).1,p:: (gt (gt w i) q).2)))) ?_
       rw[bf _ _ (List.length_set ..).symm]
       refine ah hcx [] ?_
       simp only[show ∀L,w.set i ((gt w i).set q ((gt (gt w i) q).1,L)) =aR w i q L from fun _=>rfl]
       refine Tr.w hcx [] [some 217,some 218,some 219,some 220,some 221,some 222] [] rfl rfl rfl ?_ ae
       refine au rfl ?_
       refine Tr.skip ?_
       refine hK16 _ ?_
       refine Tr.w hcx [] [some 227,some 228,some 229,some 230,some 231,some 232,some 233,some 234] [] rfl rfl rfl ?_ ae
       refine au rfl ?_
       refine Tr.skip ?_
       refine hK4 _ ?_
       refine Tr.k [1,3,9,10,11,14,15,16] ?_
       rw[show PA q++[aD w i q,bP w i q k] =PA (q+1) from by have:=bu hPB hPF (T:=[]) (H:=[]) (if_neg fun e=>e.1.2 c3o) (if_neg fun e=>e.2 c5o);simpa only[List.append_nil] using this]
       refine Tr.v hcx [1000090] _ [] rfl rfl rfl ?_ ae
       exact ⟨q+1,⟨(by omega),O1⟩,LT,rfl⟩
      have c5o:=c5
      replace c5:=eq_false c5
      have hR2:=ca (gt (gt w i) q).2
      refine Tr.w hcx [1000179] [some 166,some 167,some 168,some 169,some 170,some 171,some 172,some 173,some 174,some 175,some 176,some 177,some 178,some 179,some 23] [] rfl rfl rfl ?_ ae
      refine Tr.k [1,3,9,10,11,14,15,16,20,21,22,23] ?_
      refine Tr.w hcx [] _ [none] rfl rfl rfl ?_ ae
      refine Tr.k [1,3,9,10,11,14,15,16,20,21,22,23,24] ?_
      refine Tr.k [1,3,9,10,11,14,15,16,20,21,22,23,24] ?_
      refine ah hcx [0,1,2,4,5,6,3] ?_
      simp only[aq (ρ:=[0,1,2,4,5,6,3]) (n:=0) (k:=0) (fun _=>rfl),aq (ρ:=[0,1,2,4,5,6,3]) (n:=4) (k:=3) (fun _=>rfl),bJ (ρ:=[0,1,2,4,5,6,3]) (n:=4) (k:=3) (fun _=>rfl)]
      have hR4:=aG (n:=3) (m:=(gt w i).length) hil
      refine ab hcx 6 [.gv 3 w.length (1,46)] ?_
      refine ab hcx 3 (fV 3 i (gt w i).length w) ?_
      rw[a8]
      have hR1:=aP (n:=3) (m:=(gt (gt w i) q).2.length) hc88
      refine bd hcx aW [201] [198] _ [] rfl rfl rfl rfl ?_ ao
      refine Tr.k [1,3,9,10,11,14,15,16,20,21,22,23,24] ?_
      refine ab hcx 2 [.gv 0 w.length (1,46)] ?_
      refine bB hcx aW [212] _ [] rfl rfl rfl rfl ?_ ao
      refine Tr.k [1,3,9,10,11,14,15,16,20,21,23,24] ?_
      refine af fun K17 hK17=>?_
      refine ab hcx 7 (cl pC ((gt (gt w i) q).2++[p])) ?_
      rw[bK _ _ rfl,an]
      refine ab hcx 4 (cl aC ((gt w i).set q ((gt (gt w i) q).1,(gt (gt w i) q).2++[p]))) ?_
      rw[bM _ _ (List.length_set ..).symm]
      refine Tr.bxc 1 (q*2+1) (sl pC .no (p:: (gt (gt w i) q).2)) ((cl aC (gt w i)).set (q*2+1) (sl pC (.own 7) (p:: (gt (gt w i) q).2))) (by simp only[go_sem]) (List.getElem?_set_self (by rw[aw (f:=aC)];omega)) (CLe.noR (sl pC (.own 7) _)) rfl ?_
      rw[List.set_set,an]
      simp only[List.set_cons_succ,List.set_cons_zero]
      refine ab hcx 1 (cl aC ((gt w i).set q ((gt (gt w i) q).1,p:: (gt (gt w i) q).2))) ?_
      try rw[b8 (List.length_set ..).symm]
      refine ab hcx 0 (cl vC (w.set i ((gt w i).set q ((gt (gt w i) q).1,p:: (gt (gt w i) q).2)))) ?_
      rw[bf _ _ (List.length_set ..).symm]
      refine ah hcx [] ?_
      simp only[show ∀L,w.set i ((gt w i).set q ((gt (gt w i) q).1,L)) =aR w i q L from fun _=>rfl]
      refine Tr.w hcx [] [some 217,some 218,some 219,some 220,some 221,some 222] [] rfl rfl rfl ?_ ae
      refine au rfl ?_
      refine Tr.skip ?_
      refine hK17 _ ?_
      refine Tr.w hcx [] [some 227,some 228,some 229,some 230,some 231,some 232,some 233,some 234] [] rfl rfl rfl ?_ ae
      refine bh rfl ?_
      refine Tr.v hcx [235,1000238] _ [] rfl rfl rfl ?_ ae
      refine hK4 _ ?_
      refine Tr.k [1,3,9,10,11,14,15,16] ?_
      rw[show PA q++[aD w i q,bP w i q k]++[aR w i q (p:: (gt (gt w i) q).2)] =PA (q+1) from by have:=bu hPB hPF (T:=[]) (H:=[aR w i q (p:: (gt (gt w i) q).2)]) (if_neg fun e=>e.1.2 c3o) (if_pos ⟨c4o,c5o⟩);simpa only[List.append_nil] using this]
      refine Tr.v hcx [1000090] _ [] rfl rfl rfl ?_ ae
      exact ⟨q+1,⟨(by omega),O1⟩,LT,rfl⟩
     have c3o:=c3
     replace c3:=eq_false c3
     by_cases c4:p.2.1= ((2:Nat):Int)
     ·
      have c4o:=c4
      replace c4:=eq_true c4
      have hR2:=ca (gt (gt w i) q).2
      have c5:=True.intro
      refine Tr.w hcx [1000179] [some 166,some 167,some 168,some 169,some 170,some 171,some 172,some 173,some 174,some 175,some 176,some 177,some 178,some 179,some 23] [] rfl rfl rfl ?_ ae
      refine Tr.k [1,3,9,10,11,14,15,16,20,21,22,23] ?_
      refine Tr.w hcx [] _ [none] rfl rfl rfl ?_ ae
      refine Tr.k [1,3,9,10,11,14,15,16,20,21,22,23,24] ?_
      refine Tr.k [1,3,9,10,11,14,15,16,20,21,22,23,24] ?_
      refine ah hcx [0,1,2,4,5,6,3] ?_
      simp only[aq (ρ:=[0,1,2,4,5,6,3]) (n:=0) (k:=0) (fun _=>rfl),aq (ρ:=[0,1,2,4,5,6,3]) (n:=4) (k:=3) (fun _=>rfl),bJ (ρ:=[0,1,2,4,5,6,3]) (n:=4) (k:=3) (fun _=>rfl)]
      have hR4:=aG (n:=3) (m:=(gt w i).length) hil
      refine ab hcx 6 [.gv 3 w.length (1,46)] ?_
      refine ab hcx 3 (fV 3 i (gt w i).length w) ?_
      rw[a8]
      have hR1:=aP (n:=3) (m:=(gt (gt w i) q).2.length) hc88
      refine bd hcx aW [201] [198] _ [] rfl rfl rfl rfl ?_ ao
      refine Tr.k [1,3,9,10,11,14,15,16,20,21,22,23,24] ?_
      refine ab hcx 2 [.gv 0 w.length (1,46)] ?_
      refine bB hcx aW [212] _ [] rfl rfl rfl rfl ?_ ao
      refine Tr.k [1,3,9,10,11,14,15,16,20,21,23,24] ?_
      refine af fun K18 hK18=>?_
      refine ab hcx 7 (cl pC ((gt (gt w i) q).2++[p])) ?_
      rw[bK _ _ rfl,an]
      refine ab hcx 4 (cl aC ((gt w i).set q ((gt (gt w i) q).1,(gt (gt w i) q).2++[p]))) ?_
      rw[bM _ _ (List.length_set ..).symm]
      refine Tr.bxc 1 (q*2+1) (sl pC .no (p:: (gt (gt w i) q).2)) ((cl aC (gt w i)).set (q*2+1) (sl pC (.own 7) (p:: (gt (gt w i) q).2))) (by simp only[go_sem]) (List.getElem?_set_self (by rw[aw (f:=aC)];omega)) (CLe.noR (sl pC (.own 7) _)) rfl ?_
      rw[List.set_set,an]
      simp only[List.set_cons_succ,List.set_cons_zero]
      refine ab hcx 1 (cl aC ((gt w i).set q ((gt (gt w i) q).1,p:: (gt (gt w i) q).2))) ?_
      try rw[b8 (List.length_set ..).symm]
      refine ab hcx 0 (cl vC (w.set i ((gt w i).set q ((gt (gt w i) q).1,p:: (gt (gt w i) q).2)))) ?_
      rw[bf _ _ (List.length_set ..).symm]
      refine ah hcx [] ?_
      simp only[show ∀L,w.set i ((gt w i).set q ((gt (gt w i) q).1,L)) =aR w i q L from fun _=>rfl]
      refine Tr.w hcx [] [some 217,some 218,some 219,some 220,some 221,some 222] [] rfl rfl rfl ?_ ae
      refine au rfl ?_
      refine Tr.skip ?_
      refine hK18 _ ?_
      refine Tr.w hcx [] [some 227,some 228,some 229,some 230,some 231,some 232,some 233,some 234] [] rfl rfl rfl ?_ ae
      refine au rfl ?_
      refine Tr.skip ?_
      refine hK4 _ ?_
      refine Tr.k [1,3,9,10,11,14,15,16] ?_
      rw[show PA q++[aD w i q,bP w i q k] =PA (q+1) from by have:=bu hPB hPF (T:=[]) (H:=[]) (if_neg fun e=>e.2 c4o) (if_neg fun e=>e.1 c4o);simpa only[List.append_nil] using this]
      refine Tr.v hcx [1000090] _ [] rfl rfl rfl ?_ ae
      exact ⟨q+1,⟨(by omega),O1⟩,LT,rfl⟩
     have c4o:=c4
     replace c4:=eq_false c4
     by_cases c5:p.2.1= ((1:Nat):Int)
     ·
      have c5o:=c5
      replace c5:=eq_true c5
      have hR2:=ca (gt (gt w i) q).2
      refine Tr.w hcx [1000179] [some 166,some 167,some 168,some 169,some 170,some 171,some 172,some 173,some 174,some 175,some 176,some 177,some 178,some 179,some 23] [] rfl rfl rfl ?_ ae
      refine Tr.k [1,3,9,10,11,14,15,16,20,21,22,23] ?_
      refine Tr.w hcx [] _ [none] rfl rfl rfl ?_ ae
      refine Tr.k [1,3,9,10,11,14,15,16,20,21,22,23,24] ?_
      refine Tr.k [1,3,9,10,11,14,15,16,20,21,22,23,24] ?_
      refine ah hcx [0,1,2,4,5,6,3] ?_
      simp only[aq (ρ:=[0,1,2,4,5,6,3]) (n:=0) (k:=0) (fun _=>rfl),aq (ρ:=[0,1,2,4,5,6,3]) (n:=4) (k:=3) (fun _=>rfl),bJ (ρ:=[0,1,2,4,5,6,3]) (n:=4) (k:=3) (fun _=>rfl)]
      have hR4:=aG (n:=3) (m:=(gt w i).length) hil
      refine ab hcx 6 [.gv 3 w.length (1,46)] ?_
      refine ab hcx 3 (fV 3 i (gt w i).length w) ?_
      rw[a8]
      have hR1:=aP (n:=3) (m:=(gt (gt w i) q).2.length) hc88
      refine bd hcx aW [201] [198] _ [] rfl rfl rfl rfl ?_ ao
      refine Tr.k [1,3,9,10,11,14,15,16,20,21,22,23,24] ?_
      refine ab hcx 2 [.gv 0 w.length (1,46)] ?_
      refine bB hcx aW [212] _ [] rfl rfl rfl rfl ?_ ao
      refine Tr.k [1,3,9,10,11,14,15,16,20,21,23,24] ?_
      refine af fun K19 hK19=>?_
      refine ab hcx 7 (cl pC ((gt (gt w i) q).2++[p])) ?_
      rw[bK _ _ rfl,an]
      refine ab hcx 4 (cl aC ((gt w i).set q ((gt (gt w i) q).1,(gt (gt w i) q).2++[p]))) ?_
      rw[bM _ _ (List.length_set ..).symm]
      refine Tr.bxc 1 (q*2+1) (sl pC .no (p:: (gt (gt w i) q).2)) ((cl aC (gt w i)).set (q*2+1) (sl pC (.own 7) (p:: (gt (gt w i) q).2))) (by simp only[go_sem]) (List.getElem?_set_self (by rw[aw (f:=aC)];omega)) (CLe.noR (sl pC (.own 7) _)) rfl ?_
      rw[List.set_set,an]
      simp only[List.set_cons_succ,List.set_cons_zero]
      refine ab hcx 1 (cl aC ((gt w i).set q ((gt (gt w i) q).1,p:: (gt (gt w i) q).2))) ?_
      try rw[b8 (List.length_set ..).symm]
      refine ab hcx 0 (cl vC (w.set i ((gt w i).set q ((gt (gt w i) q).1,p:: (gt (gt w i) q).2)))) ?_
      rw[bf _ _ (List.length_set ..).symm]
      refine ah hcx [] ?_
      simp only[show ∀L,w.set i ((gt w i).set q ((gt (gt w i) q).1,L)) =aR w i q L from fun _=>rfl]
      refine Tr.w hcx [] [some 217,some 218,some 219,some 220,some 221,some 222] [] rfl rfl rfl ?_ ae
      refine bh rfl ?_
      refine Tr.v hcx [223,1000226] _ [] rfl rfl rfl ?_ ae
      refine hK19 _ ?_
      refine Tr.k [1,3,9,10,11,14,15,16,20,21] ?_
      refine Tr.w hcx [] [some 227,some 228,some 229,some 230,some 231,some 232,some 233,some 234] [] rfl rfl rfl ?_ ae
      refine au rfl ?_
      refine Tr.skip ?_
      refine hK4 _ ?_
      rw[show PA q++[aD w i q,bP w i q k]++[aR w i q ((gt (gt w i) q).2++[p])] =PA (q+1) from by have:=bu hPB hPF (T:=[aR w i q ((gt (gt w i) q).2++[p])]) (H:=[]) (if_pos ⟨⟨c2o,c3o⟩,c4o⟩) (if_neg fun e=>e.2 c5o);simpa only[List.append_nil] using this]
      refine Tr.v hcx [1000090] _ [] rfl rfl rfl ?_ ae
      exact ⟨q+1,⟨(by omega),O1⟩,LT,rfl⟩
     have c5o:=c5
     replace c5:=eq_false c5
     have hR2:=ca (gt (gt w i) q).2
     refine Tr.w hcx [1000179] [some 166,some 167,some 168,some 169,some 170,some 171,some 172,some 173,some 174,some 175,some 176,some 177,some 178,some 179,some 23] [] rfl rfl rfl ?_ ae
     refine Tr.k [1,3,9,10,11,14,15,16,20,21,22,23] ?_
     refine Tr.w hcx [] _ [none] rfl rfl rfl ?_ ae
     refine Tr.k [1,3,9,10,11,14,15,16,20,21,22,23,24] ?_
     refine Tr.k [1,3,9,10,11,14,15,16,20,21,22,23,24] ?_
     refine ah hcx [0,1,2,4,5,6,3] ?_
     simp only[aq (ρ:=[0,1,2,4,5,6,3]) (n:=0) (k:=0) (fun _=>rfl),aq (ρ:=[0,1,2,4,5,6,3]) (n:=4) (k:=3) (fun _=>rfl),bJ (ρ:=[0,1,2,4,5,6,3]) (n:=4) (k:=3) (fun _=>rfl)]
     have hR4:=aG (n:=3) (m:=(gt w i).length) hil
     refine ab hcx 6 [.gv 3 w.length (1,46)] ?_
     refine ab hcx 3 (fV 3 i (gt w i).length w) ?_
     rw[a8]
     have hR1:=aP (n:=3) (m:=(gt (gt w i) q).2.length) hc88
     refine bd hcx aW [201] [198] _ [] rfl rfl rfl rfl ?_ ao
     refine Tr.k [1,3,9,10,11,14,15,16,20,21,22,23,24] ?_
     refine ab hcx 2 [.gv 0 w.length (1,46)] ?_
     refine bB hcx aW [212] _ [] rfl rfl rfl rfl ?_ ao
     refine Tr.k [1,3,9,10,11,14,15,16,20,21,23,24] ?_
     refine af fun K20 hK20=>?_
     refine ab hcx 7 (cl pC ((gt (gt w i) q).2++[p])) ?_
     rw[bK _ _ rfl,an]
     refine ab hcx 4 (cl aC ((gt w i).set q ((gt (gt w i) q).1,(gt (gt w i) q).2++[p]))) ?_
     rw[bM _ _ (List.length_set ..).symm]
     refine Tr.bxc 1 (q*2+1) (sl pC .no (p:: (gt (gt w i) q).2)) ((cl aC (gt w i)).set (q*2+1) (sl pC (.own 7) (p:: (gt (gt w i) q).2))) (by simp only[go_sem]) (List.getElem?_set_self (by rw[aw (f:=aC)];omega)) (CLe.noR (sl pC (.own 7) _)) rfl ?_
     rw[List.set_set,an]
     simp only[List.set_cons_succ,List.set_cons_zero]
     refine ab hcx 1 (cl aC ((gt w i).set q ((gt (gt w i) q).1,p:: (gt (gt w i) q).2))) ?_
     try rw[b8 (List.length_set ..).symm]
     refine ab hcx 0 (cl vC (w.set i ((gt w i).set q ((gt (gt w i) q).1,p:: (gt (gt w i) q).2)))) ?_
     rw[bf _ _ (List.length_set ..).symm]
     refine ah hcx [] ?_
     simp only[show ∀L,w.set i ((gt w i).set q ((gt (gt w i) q).1,L)) =aR w i q L from fun _=>rfl]
     refine Tr.w hcx [] [some 217,some 218,some 219,some 220,some 221,some 222] [] rfl rfl rfl ?_ ae
     refine bh rfl ?_
     refine Tr.v hcx [223,1000226] _ [] rfl rfl rfl ?_ ae
     refine hK20 _ ?_
     refine Tr.k [1,3,9,10,11,14,15,16,20,21] ?_
     refine Tr.w hcx [] [some 227,some 228,some 229,some 230,some 231,some 232,some 233,some 234] [] rfl rfl rfl ?_ ae
     refine bh rfl ?_
     refine Tr.v hcx [235,1000238] _ [] rfl rfl rfl ?_ ae
     refine hK4 _ ?_
     rw[show PA q++[aD w i q,bP w i q k]++[aR w i q ((gt (gt w i) q).2++[p])]++[aR w i q (p:: (gt (gt w i) q).2)] =PA (q+1) from by have:=bu hPB hPF (T:=[aR w i q ((gt (gt w i) q).2++[p])]) (H:=[aR w i q (p:: (gt (gt w i) q).2)]) (if_pos ⟨⟨c2o,c3o⟩,c4o⟩) (if_pos ⟨c4o,c5o⟩);simpa only[List.append_nil] using this]
     refine Tr.v hcx [1000090] _ [] rfl rfl rfl ?_ ae
     exact ⟨q+1,⟨(by omega),O1⟩,LT,rfl⟩
    have c2o:=c2
    replace c2:=eq_false c2
    by_cases c4:p.2.1= ((2:Nat):Int)
    ·
     have c4o:=c4
     replace c4:=eq_true c4
     have hR2:=ca (gt (gt w i) q).2
     have c3:=True.intro
     have c5:=True.intro
     refine Tr.w hcx [1000179] [some 166,some 167,some 168,some 169,some 170,some 171,some 172,some 173,some 174,some 175,some 176,some 177,some 178,some 179,some 23] [] rfl rfl rfl ?_ ae
     refine Tr.k [1,3,9,10,11,14,15,16,20,21,22,23] ?_
     refine Tr.w hcx [] _ [none] rfl rfl rfl ?_ ae
     refine Tr.k [1,3,9,10,11,14,15,16,20,21,22,23,24] ?_
     refine Tr.k [1,3,9,10,11,14,15,16,20,21,22,23,24] ?_
     refine ah hcx [0,1,2,4,5,6,3] ?_
     simp only[aq (ρ:=[0,1,2,4,5,6,3]) (n:=0) (k:=0) (fun _=>rfl),aq (ρ:=[0,1,2,4,5,6,3]) (n:=4) (k:=3) (fun _=>rfl),bJ (ρ:=[0,1,2,4,5,6,3]) (n:=4) (k:=3) (fun _=>rfl)]
     have hR4:=aG (n:=3) (m:=(gt w i).length) hil
     refine ab hcx 6 [.gv 3 w.length (1,46)] ?_
     refine ab hcx 3 (fV 3 i (gt w i).length w) ?_
     rw[a8]
     have hR1:=aP (n:=3) (m:=(gt (gt w i) q).2.length) hc88
     refine bd hcx aW [201] [198] _ [] rfl rfl rfl rfl ?_ ao
     refine Tr.k [1,3,9,10,11,14,15,16,20,21,22,23,24] ?_
     refine ab hcx 2 [.gv 0 w.length (1,46)] ?_
     refine bB hcx aW [212] _ [] rfl rfl rfl rfl ?_ ao
     refine Tr.k [1,3,9,10,11,14,15,16,20,21,23,24] ?_
     refine af fun K21 hK21=>?_
     refine ab hcx 7 (cl pC ((gt (gt w i) q).2++[p])) ?_
     rw[bK _ _ rfl,an]
     refine ab hcx 4 (cl aC ((gt w i).set q ((gt (gt w i) q).1,(gt (gt w i) q).2++[p]))) ?_
     rw[bM _ _ (List.length_set ..).symm]
     refine Tr.bxc 1 (q*2+1) (sl pC .no (p:: (gt (gt w i) q).2)) ((cl aC (gt w i)).set (q*2+1) (sl pC (.own 7) (p:: (gt (gt w i) q).2))) (by simp only[go_sem]) (List.getElem?_set_self (by rw[aw (f:=aC)];omega)) (CLe.noR (sl pC (.own 7) _)) rfl ?_
     rw[List.set_set,an]
     simp only[List.set_cons_succ,List.set_cons_zero]
     refine ab hcx 1 (cl aC ((gt w i).set q ((gt (gt w i) q).1,p:: (gt (gt w i) q).2))) ?_
     try rw[b8 (List.length_set ..).symm]
     refine ab hcx 0 (cl vC (w.set i ((gt w i).set q ((gt (gt w i) q).1,p:: (gt (gt w i) q).2)))) ?_
     rw[bf _ _ (List.length_set ..).symm]
     refine ah hcx [] ?_
     simp only[show ∀L,w.set i ((gt w i).set q ((gt (gt w i) q).1,L)) =aR w i q L from fun _=>rfl]
     refine Tr.w hcx [] [some 217,some 218,some 219,some 220,some 221,some 222] [] rfl rfl rfl ?_ ae
     refine au rfl ?_
     refine Tr.skip ?_
     refine hK21 _ ?_
     refine Tr.w hcx [] [some 227,some 228,some 229,some 230,some 231,some 232,some 233,some 234] [] rfl rfl rfl ?_ ae
     refine au rfl ?_
     refine Tr.skip ?_
     refine hK4 _ ?_
     refine Tr.k [1,3,9,10,11,14,15,16] ?_
     rw[show PA q++[aD w i q,bP w i q k] =PA (q+1) from by have:=bu hPB hPF (T:=[]) (H:=[]) (if_neg fun e=>e.2 c4o) (if_neg fun e=>e.1 c4o);simpa only[List.append_nil] using this]
     refine Tr.v hcx [1000090] _ [] rfl rfl rfl ?_ ae
     exact ⟨q+1,⟨(by omega),O1⟩,LT,rfl⟩
    have c4o:=c4
    replace c4:=eq_false c4
    by_cases c5:p.2.1= ((1:Nat):Int)
    ·
     have c5o:=c5
     replace c5:=eq_true c5
     have hR2:=ca (gt (gt w i) q).2
     have c3:=True.intro
     refine Tr.w hcx [1000179] [some 166,some 167,some 168,some 169,some 170,some 171,some 172,some 173,some 174,some 175,some 176,some 177,some 178,some 179,some 23] [] rfl rfl rfl ?_ ae
     refine Tr.k [1,3,9,10,11,14,15,16,20,21,22,23] ?_
     refine Tr.w hcx [] _ [none] rfl rfl rfl ?_ ae
     refine Tr.k [1,3,9,10,11,14,15,16,20,21,22,23,24] ?_
     refine Tr.k [1,3,9,10,11,14,15,16,20,21,22,23,24] ?_
     refine ah hcx [0,1,2,4,5,6,3] ?_
     simp only[aq (ρ:=[0,1,2,4,5,6,3]) (n:=0) (k:=0) (fun _=>rfl),aq (ρ:=[0,1,2,4,5,6,3]) (n:=4) (k:=3) (fun _=>rfl),bJ (ρ:=[0,1,2,4,5,6,3]) (n:=4) (k:=3) (fun _=>rfl)]
     have hR4:=aG (n:=3) (m:=(gt w i).length) hil
     refine ab hcx 6 [.gv 3 w.length (1,46)] ?_
     refine ab hcx 3 (fV 3 i (gt w i).length w) ?_
     rw[a8]
     have hR1:=aP (n:=3) (m:=(gt (gt w i) q).2.length) hc88
     refine bd hcx aW [201] [198] _ [] rfl rfl rfl rfl ?_ ao
     refine Tr.k [1,3,9,10,11,14,15,16,20,21,22,23,24] ?_
     refine ab hcx 2 [.gv 0 w.length (1,46)] ?_
     refine bB hcx aW [212] _ [] rfl rfl rfl rfl ?_ ao
     refine Tr.k [1,3,9,10,11,14,15,16,20,21,23,24] ?_
     refine af fun K22 hK22=>?_
     refine ab hcx 7 (cl pC ((gt (gt w i) q).2++[p])) ?_
     rw[bK _ _ rfl,an]
     refine ab hcx 4 (cl aC ((gt w i).set q ((gt (gt w i) q).1,(gt (gt w i) q).2++[p]))) ?_
     rw[bM _ _ (List.length_set ..).symm]
     refine Tr.bxc 1 (q*2+1) (sl pC .no (p:: (gt (gt w i) q).2)) ((cl aC (gt w i)).set (q*2+1) (sl pC (.own 7) (p:: (gt (gt w i) q).2))) (by simp only[go_sem]) (List.getElem?_set_self (by rw[aw (f:=aC)];omega)) (CLe.noR (sl pC (.own 7) _)) rfl ?_
     rw[List.set_set,an]
     simp only[List.set_cons_succ,List.set_cons_zero]
     refine ab hcx 1 (cl aC ((gt w i).set q ((gt (gt w i) q).1,p:: (gt (gt w i) q).2))) ?_
     try rw[b8 (List.length_set ..).symm]
     refine ab hcx 0 (cl vC (w.set i ((gt w i).set q ((gt (gt w i) q).1,p:: (gt (gt w i) q).2)))) ?_
     rw[bf _ _ (List.length_set ..).symm]
     refine ah hcx [] ?_
     simp only[show ∀L,w.set i ((gt w i).set q ((gt (gt w i) q).1,L)) =aR w i q L from fun _=>rfl]
     refine Tr.w hcx [] [some 217,some 218,some 219,some 220,some 221,some 222] [] rfl rfl rfl ?_ ae
     refine au rfl ?_
     refine Tr.skip ?_
     refine hK22 _ ?_
     refine Tr.w hcx [] [some 227,some 228,some 229,some 230,some 231,some 232,some 233,some 234] [] rfl rfl rfl ?_ ae
     refine au rfl ?_
     refine Tr.skip ?_
     refine hK4 _ ?_
     refine Tr.k [1,3,9,10,11,14,15,16] ?_
     rw[show PA q++[aD w i q,bP w i q k] =PA (q+1) from by have:=bu hPB hPF (T:=[]) (H:=[]) (if_neg fun e=>c2o e.1.1) (if_neg fun e=>e.2 c5o);simpa only[List.append_nil] using this]
     refine Tr.v hcx [1000090] _ [] rfl rfl rfl ?_ ae
     exact ⟨q+1,⟨(by omega),O1⟩,LT,rfl⟩
    have c5o:=c5
    replace c5:=eq_false c5
    have hR2:=ca (gt (gt w i) q).2
    have c3:=True.intro
    refine Tr.w hcx [1000179] [some 166,some 167,some 168,some 169,some 170,some 171,some 172,some 173,some 174,some 175,some 176,some 177,some 178,some 179,some 23] [] rfl rfl rfl ?_ ae
    refine Tr.k [1,3,9,10,11,14,15,16,20,21,22,23] ?_
    refine Tr.w hcx [] _ [none] rfl rfl rfl ?_ ae
    refine Tr.k [1,3,9,10,11,14,15,16,20,21,22,23,24] ?_
    refine Tr.k [1,3,9,10,11,14,15,16,20,21,22,23,24] ?_
    refine ah hcx [0,1,2,4,5,6,3] ?_
    simp only[aq (ρ:=[0,1,2,4,5,6,3]) (n:=0) (k:=0) (fun _=>rfl),aq (ρ:=[0,1,2,4,5,6,3]) (n:=4) (k:=3) (fun _=>rfl),bJ (ρ:=[0,1,2,4,5,6,3]) (n:=4) (k:=3) (fun _=>rfl)]
    have hR4:=aG (n:=3) (m:=(gt w i).length) hil
    refine ab hcx 6 [.gv 3 w.length (1,46)] ?_
    refine ab hcx 3 (fV 3 i (gt w i).length w) ?_
    rw[a8]
    have hR1:=aP (n:=3) (m:=(gt (gt w i) q).2.length) hc88
    refine bd hcx aW [201] [198] _ [] rfl rfl rfl rfl ?_ ao
    refine Tr.k [1,3,9,10,11,14,15,16,20,21,22,23,24] ?_
    refine ab hcx 2 [.gv 0 w.length (1,46)] ?_
    refine bB hcx aW [212] _ [] rfl rfl rfl rfl ?_ ao
    refine Tr.k [1,3,9,10,11,14,15,16,20,21,23,24] ?_
    refine af fun K23 hK23=>?_
    refine ab hcx 7 (cl pC ((gt (gt w i) q).2++[p])) ?_
    rw[bK _ _ rfl,an]
    refine ab hcx 4 (cl aC ((gt w i).set q ((gt (gt w i) q).1,(gt (gt w i) q).2++[p]))) ?_
    rw[bM _ _ (List.length_set ..).symm]
    refine Tr.bxc 1 (q*2+1) (sl pC .no (p:: (gt (gt w i) q).2)) ((cl aC (gt w i)).set (q*2+1) (sl pC (.own 7) (p:: (gt (gt w i) q).2))) (by simp only[go_sem]) (List.getElem?_set_self (by rw[aw (f:=aC)];omega)) (CLe.noR (sl pC (.own 7) _)) rfl ?_
    rw[List.set_set,an]
    simp only[List.set_cons_succ,List.set_cons_zero]
    refine ab hcx 1 (cl aC ((gt w i).set q ((gt (gt w i) q).1,p:: (gt (gt w i) q).2))) ?_
    try rw[b8 (List.length_set ..).symm]
    refine ab hcx 0 (cl vC (w.set i ((gt w i).set q ((gt (gt w i) q).1,p:: (gt (gt w i) q).2)))) ?_
    rw[bf _ _ (List.length_set ..).symm]
    refine ah hcx [] ?_
    simp only[show ∀L,w.set i ((gt w i).set q ((gt (gt w i) q).1,L)) =aR w i q L from fun _=>rfl]
    refine Tr.w hcx [] [some 217,some 218,some 219,some 220,some 221,some 222] [] rfl rfl rfl ?_ ae
    refine au rfl ?_
    refine Tr.skip ?_
    refine hK23 _ ?_
    refine Tr.w hcx [] [some 227,some 228,some 229,some 230,some 231,some 232,some 233,some 234] [] rfl rfl rfl ?_ ae
    refine bh rfl ?_
    refine Tr.v hcx [235,1000238] _ [] rfl rfl rfl ?_ ae
    refine hK4 _ ?_
    refine Tr.k [1,3,9,10,11,14,15,16] ?_
    rw[show PA q++[aD w i q,bP w i q k]++[aR w i q (p:: (gt (gt w i) q).2)] =PA (q+1) from by have:=bu hPB hPF (T:=[]) (H:=[aR w i q (p:: (gt (gt w i) q).2)]) (if_neg fun e=>c2o e.1.1) (if_pos ⟨c4o,c5o⟩);simpa only[List.append_nil] using this]
    refine Tr.v hcx [1000090] _ [] rfl rfl rfl ?_ ae
    exact ⟨q+1,⟨(by omega),O1⟩,LT,rfl⟩
   skip
   refine Tr.w hcx [] _ [] rfl rfl rfl ?_ ae
   refine bh rfl ?_
   refine Tr.exit ?_
   refine hK4 _ ?_
   rw[hPS q c1]
   refine Tr.v hcx [1000090] _ [] rfl rfl rfl ?_ ae
   exact ⟨q+1,⟨(by omega),O1⟩,LT,rfl⟩
  refine Tr.exit ?_
  refine hK2 _ ?_
  refine af fun K24 hK24=>?_
  have hP9:=j5 hPB hPF q
  obtain ⟨P,hP⟩:∃P,PA q=P:=⟨_,rfl⟩
  obtain rfl:q= (gt w i).length:=by omega
  have hPok:=u2 hvs hil hkl hpz (by rw[←hp];exact hnew) hPB hPF
  rw[hP] at hPok hP9 ⊢
  refine Tr.w hcx [] _ [] rfl rfl rfl ?_ ae
  refine Tr.k [14,25] ?_
  refine ax ?_
  refine bz (α:=Nat) (fun a=>[(14,?v14_2),(25,.val (nI a))]) (fun a=>[]) (fun a=>a≤P.length) (fun a=>P.length - a) (0) (Nat.zero_le _) ?le_2 ?hh_2 ?bd_2
  case hh_2=>exact rfl
  case le_2=>exact LT
  rintro z hz
  refine af fun K25 hK25=>?_
  refine Tr.w hcx [] _ [] rfl rfl rfl ?_ ae
  refine bc rfl (fun hc242=>?_) (fun hc242=>?_)
  ·
   have hgz:=hPok _ (ba P z hc242)
   have e12:=(h12 _ hgz.wg.ws hgz.wg.tx hgz.wg.tt hgz.wg.id).trans (by rw[hgz.val])
   refine Tr.skip ?_
   refine hK25 _ ?_
   refine af fun K26 hK26=>?_
   refine ax ?_
   refine Tr.w hcx [] _ [] rfl rfl rfl ?_ ae
   refine au rfl ?_
   refine Tr.skip ?_
   refine hK26 _ ?_
   refine Tr.v hcx [1000244] _ [] rfl rfl rfl ?_ ae
   exact ⟨z+1,⟨(by omega),O1⟩,LT,rfl⟩
  refine Tr.exit ?_
  refine hK24 _ ?_
  refine Tr.w hcx [1000251] _ [] rfl rfl rfl ?_ ae
  exact Tr.ret z0
 have hR1:=DW i w ⟨hil,by omega⟩
 have hR2:=fun cx apps dsts lo id d e h fs K e9 b=>p5 cx apps dsts lo id d e h fs K vC e9 b i w ⟨hil,by omega⟩
 refine Tr.k [0,1,2,3,8,9,10,11,12] ?_
 refine ah hcx [1,0] ?_
 refine bd hcx aW [54] [48] _ [] rfl rfl rfl rfl ?_ ao
 refine ab hcx 0 (cl vC (w.take i++w.drop (i+1)++w.drop (w.length - 1))) ?_
 rw[wu vC hil]
 refine ab hcx 1 [sl vC .no (w.take i++w.drop (i+1))] ?_
 refine ah hcx [] ?_
 refine Tr.w hcx [] _ [none] rfl rfl rfl ?_ ae
 refine Tr.k [1,3,9,10,11,12,13] ?_
 refine Tr.k [0,1,2,3,8,9,10,11,12,13] ?_
 refine ah hcx [1,0] ?_
 refine bB hcx aW [] _ [] rfl rfl rfl rfl ?_ ao
 refine Tr.k [1,3,9,10,11,12,13] ?_
 refine ab hcx 0 (cl vC ((w.set i (gt w k)).set k (gt w i))) ?_
 rw[bf _ _ (by rw[List.length_set,List.length_set])]
 refine ab hcx 1 [sl vC .no ((w.set i (gt w k)).set k (gt w i))] ?_
 refine ah hcx [] ?_
 refine Tr.w hcx [1000078] _ [] rfl rfl rfl ?_ ae
 rw[show [w.take i++w.drop (i+1),(w.set i (gt w k)).set k (gt w i)] =PA 0 from (hPB 0 (Nat.zero_le _)).symm]
 refine Tr.w hcx [1000085] _ [] rfl rfl rfl ?_ ae
 refine af fun K27 hK27=>?_
 refine Tr.w hcx [] _ [] rfl rfl rfl ?_ ae
 refine Tr.k [1,3,9,10,11,14,15,16] ?_
 refine ax ?_
 refine bz (α:=Nat) (fun a=>[(1,?v1_3),(3,?v3_3),(9,?v9_3),(10,?v10_3),(11,?v11_3),(14,sl lX (.own 1) (PA a)),(15,?v15_3),(16,.val (nI a))]) (fun a=>[]) (fun a=>a≤(gt w i).length) (fun a=>(gt w i).length - a) (0) (Nat.zero_le _) ?le_3 ?hh_3 ?bd_3
 case hh_3=>exact rfl
 case le_3=>exact LT
 rintro q hq
 refine af fun K28 hK28=>?_
 refine Tr.w hcx [] _ [] rfl rfl rfl ?_ ae
 refine bc rfl (fun hc88=>?_) (fun hc88=>?_)
 ·
  have e19c:=h19 aa (gt w i).length ⟨haa.1,haa.2,by omega,by omega⟩
  rw[←hj] at e19c
  refine Tr.skip ?_
  refine hK28 _ ?_
  refine af fun K29 hK29=>?_
  refine ax ?_
  refine af fun K30 hK30=>?_
  by_cases c1:q=j
  ·
   subst c1
   have c1:=True.intro
   have hLl:=(hvs.o.wz.v _ (ba w i hil)).2 _ (ba _ q hc88)
   replace hLl:=hLl.2.1
   refine Tr.w hcx [] _ [] rfl rfl rfl ?_ ae
   refine au rfl ?_
   refine Tr.skip ?_
   refine hK30 _ ?_
   have hR3:=aG (n:=0) (m:=(gt w i).length) hil
   refine Tr.virt ?_
   simp only[List.nil_append]
   refine Tr.w hcx [] _ [none] rfl rfl rfl ?_ ae
   refine Tr.k [1,3,9,10,11,14,15,16,17] ?_
   refine Tr.k [1,3,9,10,11,14,15,16,17] ?_
   refine ah hcx [2,3,1] ?_
   simp only[aq (ρ:=[2,3,1]) (n:=2) (k:=0) (fun _=>rfl)]
   refine Tr.w hcx [] _ [none] rfl rfl rfl ?_ ae
   refine Tr.k [1,3,9,10,11,14,15,16,17,18] ?_
   by_cases c6:q< 1∧1< (gt w i).length
   ·
    have hR1:=rn q (gt w i) ⟨hc88,by omega⟩
    have hR2:=fun cx apps dsts lo id d e h fs K e9 b=>p6 cx apps dsts lo id d e h fs K aC e9 b q (gt w i) ⟨by omega,c6.2⟩
    refine ab hcx 3 (aC (gt (gt w i) q)) ?_
    refine ab hcx 2 [.gv 0 w.length (1,46)] ?_
    refine bd hcx aW [127] [117] _ [] rfl rfl rfl rfl ?_ ao
    refine Tr.k [1,3,9,10,11,14,15,16,17,18] ?_
    refine ab hcx 4 (cl aC ((gt w i).take q++(gt w i).drop (q+1))) ?_
    rw[wt aC hc88,e5]
    rw[show w.set i ((gt w i).take q++(gt w i).drop (q+1)) =aD w i q from rfl]
    refine ab hcx 0 (cl vC (aD w i q)) ?_
    rw[bf _ _ (dH w i q).symm]
    refine ah hcx [] ?_
    refine Tr.virt ?_
    refine Tr.virt ?_
    simp only[List.nil_append,List.cons_append]
    refine Tr.w hcx [] _ [none] rfl rfl rfl ?_ ae
    refine Tr.k [1,3,9,10,11,14,15,16,17,18,19] ?_
    have hP9: (gt (aD w i q) k).length≤4:=(hvs.cut hil hc88).v _ (ba _ k (by rw[dH];exact hkl))
    have hP8:k< (aD w i q).length:=by rw[dH];exact hkl
    have hR4:=aG (n:=0) (m:=(gt (aD w i q) k).length) hP8
    have hR1:=dH w i q
    refine Tr.k [1,3,9,10,11,14,15,16,17,18,19] ?_
    refine ah hcx [3,4,2] ?_
    simp only[aq (ρ:=[3,4,2]) (n:=3) (k:=0) (fun _=>rfl)]
    refine ab hcx 2 [.gv 0 (aD w i q).length (1,46)] ?_
    refine bd hcx aW [143] [140] _ [] rfl rfl rfl rfl ?_ ao
    refine Tr.k [1,3,9,10,11,14,15,16,17,19] ?_
    have hP9:=j5 hPB hPF q
    refine ab hcx 3 (cl aC (gt (aD w i q) k++[gt (gt w i) q])) ?_
    rw[j0 _ _ rfl,e5]
    rw[show (aD w i q).set k (gt (aD w i q) k++[gt (gt w i) q]) =bP w i q k from rfl]
    refine ab hcx 0 (cl vC (bP w i q k)) ?_
    rw[bf _ _ (kM w i q k)]
    refine ah hcx [] ?_
    refine Tr.w hcx [146,1000150] _ [] rfl rfl rfl ?_ ae
    refine Tr.w hcx [] _ [none] rfl rfl rfl ?_ ae
    refine ab hcx 0 (pC p) ?_
    refine ah hcx [] ?_
    refine Tr.virt ?_
    simp only[List.nil_append]
    refine Tr.w hcx [] _ [none] rfl rfl rfl ?_ ae
    refine Tr.k [1,3,9,10,11,14,15,16,20,21] ?_
    refine Tr.k [1,3,9,10,11,14,15,16,20,21] ?_
    refine ah hcx [2,3,1] ?_
    simp only[aq (ρ:=[2,3,1]) (n:=2) (k:=0) (fun _=>rfl)]
    refine Tr.w hcx [1000165] _ [] rfl rfl rfl ?_ ae
    refine Tr.k [1,3,9,10,11,14,15,16,20,21,22] ?_
    by_cases c2:0< (gt (gt w i) q).2.length
    ·
     have c2o:=c2
     replace c2:=eq_true c2
     by_cases c3: (gt (gt (gt w i) q).2 ((gt (gt w i) q).2.length - 1)).2.1= ((2:Nat):Int)
     ·
      have c3o:=c3
      replace c3:=eq_true c3
      by_cases c4:p.2.1= ((2:Nat):Int)
      ·
       have c4o:=c4
       replace c4:=eq_true c4
       have hR2:=ca (gt (gt w i) q).2
       have c5:=True.intro
       refine Tr.w hcx [1000179] [some 166,some 167,some 168,some 169,some 170,some 171,some 172,some 173,some 174,some 175,some 176,some 177,some 178,some 179,some 23] [] rfl rfl rfl ?_ ae
       refine Tr.k [1,3,9,10,11,14,15,16,20,21,22,23] ?_
       refine Tr.w hcx [] _ [none] rfl rfl rfl ?_ ae
       refine Tr.k [1,3,9,10,11,14,15,16,20,21,22,23,24] ?_
       refine Tr.k [1,3,9,10,11,14,15,16,20,21,22,23,24] ?_
       refine ah hcx [0,1,2,4,5,6,3] ?_
       simp only[aq (ρ:=[0,1,2,4,5,6,3]) (n:=0) (k:=0) (fun _=>rfl),aq (ρ:=[0,1,2,4,5,6,3]) (n:=4) (k:=3) (fun _=>rfl),bJ (ρ:=[0,1,2,4,5,6,3]) (n:=4) (k:=3) (fun _=>rfl)]
       have hR4:=aG (n:=3) (m:=(gt w i).length) hil
       refine ab hcx 6 [.gv 3 w.length (1,46)] ?_
       refine ab hcx 3 (fV 3 i (gt w i).length w) ?_
       rw[a8]
       have hR1:=aP (n:=3) (m:=(gt (gt w i) q).2.length) hc88
       refine bd hcx aW [201] [198] _ [] rfl rfl rfl rfl ?_ ao
       refine Tr.k [1,3,9,10,11,14,15,16,20,21,22,23,24] ?_
       refine ab hcx 2 [.gv 0 w.length (1,46)] ?_
       refine bB hcx aW [212] _ [] rfl rfl rfl rfl ?_ ao
       refine Tr.k [1,3,9,10,11,14,15,16,20,21,23,24] ?_
       refine af fun K31 hK31=>?_
       refine ab hcx 7 (cl pC ((gt (gt w i) q).2++[p])) ?_
       rw[bK _ _ rfl,an]
       refine ab hcx 4 (cl aC ((gt w i).set q ((gt (gt w i) q).1,(gt (gt w i) q).2++[p]))) ?_
       rw[bM _ _ (List.length_set ..).symm]
       refine Tr.bxc 1 (q*2+1) (sl pC .no (p:: (gt (gt w i) q).2)) ((cl aC (gt w i)).set (q*2+1) (sl pC (.own 7) (p:: (gt (gt w i) q).2))) (by simp only[go_sem]) (List.getElem?_set_self (by rw[aw (f:=aC)];omega)) (CLe.noR (sl pC (.own 7) _)) rfl ?_
       rw[List.set_set,an]
       simp only[List.set_cons_succ,List.set_cons_zero]
       refine ab hcx 1 (cl aC ((gt w i).set q ((gt (gt w i) q).1,p:: (gt (gt w i) q).2))) ?_
       try rw[b8 (List.length_set ..).symm]
       refine ab hcx 0 (cl vC (w.set i ((gt w i).set q ((gt (gt w i) q).1,p:: (gt (gt w i) q).2)))) ?_
       rw[bf _ _ (List.length_set ..).symm]
       refine ah hcx [] ?_
       simp only[show ∀L,w.set i ((gt w i).set q ((gt (gt w i) q).1,L)) =aR w i q L from fun _=>rfl]
       refine Tr.w hcx [] [some 217,some 218,some 219,some 220,some 221,some 222] [] rfl rfl rfl ?_ ae
       refine au rfl ?_
       refine Tr.skip ?_
       refine hK31 _ ?_
       refine Tr.w hcx [] [some 227,some 228,some 229,some 230,some 231,some 232,some 233,some 234] [] rfl rfl rfl ?_ ae
       refine au rfl ?_
       refine Tr.skip ?_
       refine hK29 _ ?_
       refine Tr.k [1,3,9,10,11,14,15,16] ?_
       rw[show PA q++[aD w i q,bP w i q k] =PA (q+1) from by have:=bu hPB hPF (T:=[]) (H:=[]) (if_neg fun e=>e.2 c4o) (if_neg fun e=>e.1 c4o);simpa only[List.append_nil] using this]
       refine Tr.v hcx [1000090] _ [] rfl rfl rfl ?_ ae
       exact ⟨q+1,⟨(by omega),O1⟩,LT,rfl⟩
      have c4o:=c4
      replace c4:=eq_false c4
      by_cases c5:p.2.1= ((1:Nat):Int)
      ·
       have c5o:=c5
       replace c5:=eq_true c5
       have hR2:=ca (gt (gt w i) q).2
       refine Tr.w hcx [1000179] [some 166,some 167,some 168,some 169,some 170,some 171,some 172,some 173,some 174,some 175,some 176,some 177,some 178,some 179,some 23] [] rfl rfl rfl ?_ ae
       refine Tr.k [1,3,9,10,11,14,15,16,20,21,22,23] ?_
       refine Tr.w hcx [] _ [none] rfl rfl rfl ?_ ae
       refine Tr.k [1,3,9,10,11,14,15,16,20,21,22,23,24] ?_
       refine Tr.k [1,3,9,10,11,14,15,16,20,21,22,23,24] ?_
       refine ah hcx [0,1,2,4,5,6,3] ?_
       simp only[aq (ρ:=[0,1,2,4,5,6,3]) (n:=0) (k:=0) (fun _=>rfl),aq (ρ:=[0,1,2,4,5,6,3]) (n:=4) (k:=3) (fun _=>rfl),bJ (ρ:=[0,1,2,4,5,6,3]) (n:=4) (k:=3) (fun _=>rfl)]
       have hR4:=aG (n:=3) (m:=(gt w i).length) hil
       refine ab hcx 6 [.gv 3 w.length (1,46)] ?_
       refine ab hcx 3 (fV 3 i (gt w i).length w) ?_
       rw[a8]
       have hR1:=aP (n:=3) (m:=(gt (gt w i) q).2.length) hc88
       refine bd hcx aW [201] [198] _ [] rfl rfl rfl rfl ?_ ao
       refine Tr.k [1,3,9,10,11,14,15,16,20,21,22,23,24] ?_
       refine ab hcx 2 [.gv 0 w.length (1,46)] ?_
       refine bB hcx aW [212] _ [] rfl rfl rfl rfl ?_ ao
       refine Tr.k [1,3,9,10,11,14,15,16,20,21,23,24] ?_
       refine af fun K32 hK32=>?_
       refine ab hcx 7 (cl pC ((gt (gt w i) q).2++[p])) ?_
       rw[bK _ _ rfl,an]
       refine ab hcx 4 (cl aC ((gt w i).set q ((gt (gt w i) q).1,(gt (gt w i) q).2++[p]))) ?_
       rw[bM _ _ (List.length_set ..).symm]
       refine Tr.bxc 1 (q*2+1) (sl pC .no (p:: (gt (gt w i) q).2)) ((cl aC (gt w i)).set (q*2+1) (sl pC (.own 7) (p:: (gt (gt w i) q).2))) (by simp only[go_sem]) (List.getElem?_set_self (by rw[aw (f:=aC)];omega)) (CLe.noR (sl pC (.own 7) _)) rfl ?_
       rw[List.set_set,an]
       simp only[List.set_cons_succ,List.set_cons_zero]
       refine ab hcx 1 (cl aC ((gt w i).set q ((gt (gt w i) q).1,p:: (gt (gt w i) q).2))) ?_
       try rw[b8 (List.length_set ..).symm]
       refine ab hcx 0 (cl vC (w.set i ((gt w i).set q ((gt (gt w i) q).1,p:: (gt (gt w i) q).2)))) ?_
       rw[bf _ _ (List.length_set ..).symm]
       refine ah hcx [] ?_
       simp only[show ∀L,w.set i ((gt w i).set q ((gt (gt w i) q).1,L)) =aR w i q L from fun _=>rfl]
       refine Tr.w hcx [] [some 217,some 218,some 219,some 220,some 221,some 222] [] rfl rfl rfl ?_ ae
       refine au rfl ?_
       refine Tr.skip ?_
       refine hK32 _ ?_
       refine Tr.w hcx [] [some 227,some 228,some 229,some 230,some 231,some 232,some 233,some 234] [] rfl rfl rfl ?_ ae
       refine au rfl ?_
       refine Tr.skip ?_
       refine hK29 _ ?_
       refine Tr.k [1,3,9,10,11,14,15,16] ?_
       rw[show PA q++[aD w i q,bP w i q k] =PA (q+1) from by have:=bu hPB hPF (T:=[]) (H:=[]) (if_neg fun e=>e.1.2 c3o) (if_neg fun e=>e.2 c5o);simpa only[List.append_nil] using this]
       refine Tr.v hcx [1000090] _ [] rfl rfl rfl ?_ ae
       exact ⟨q+1,⟨(by omega),O1⟩,LT,rfl⟩
      have c5o:=c5
      replace c5:=eq_false c5
      have hR2:=ca (gt (gt w i) q).2
      refine Tr.w hcx [1000179] [some 166,some 167,some 168,some 169,some 170,some 171,some 172,some 173,some 174,some 175,some 176,some 177,some 178,some 179,some 23] [] rfl rfl rfl ?_ ae
      refine Tr.k [1,3,9,10,11,14,15,16,20,21,22,23] ?_
      refine Tr.w hcx [] _ [none] rfl rfl rfl ?_ ae
      refine Tr.k [1,3,9,10,11,14,15,16,20,21,22,23,24] ?_
      refine Tr.k [1,3,9,10,11,14,15,16,20,21,22,23,24] ?_
      refine ah hcx [0,1,2,4,5,6,3] ?_
      simp only[aq (ρ:=[0,1,2,4,5,6,3]) (n:=0) (k:=0) (fun _=>rfl),aq (ρ:=[0,1,2,4,5,6,3]) (n:=4) (k:=3) (fun _=>rfl),bJ (ρ:=[0,1,2,4,5,6,3]) (n:=4) (k:=3) (fun _=>rfl)]
      have hR4:=aG (n:=3) (m:=(gt w i).length) hil
      refine ab hcx 6 [.gv 3 w.length (1,46)] ?_
      refine ab hcx 3 (fV 3 i (gt w i).length w) ?_
      rw[a8]
      have hR1:=aP (n:=3) (m:=(gt (gt w i) q).2.length) hc88
      refine bd hcx aW [201] [198] _ [] rfl rfl rfl rfl ?_ ao
      refine Tr.k [1,3,9,10,11,14,15,16,20,21,22,23,24] ?_
      refine ab hcx 2 [.gv 0 w.length (1,46)] ?_
      refine bB hcx aW [212] _ [] rfl rfl rfl rfl ?_ ao
      refine Tr.k [1,3,9,10,11,14,15,16,20,21,23,24] ?_
      refine af fun K33 hK33=>?_
      refine ab hcx 7 (cl pC ((gt (gt w i) q).2++[p])) ?_
      rw[bK _ _ rfl,an]
      refine ab hcx 4 (cl aC ((gt w i).set q ((gt (gt w i) q).1,(gt (gt w i) q).2++[p]))) ?_
      rw[bM _ _ (List.length_set ..).symm]
      refine Tr.bxc 1 (q*2+1) (sl pC .no (p:: (gt (gt w i) q).2)) ((cl aC (gt w i)).set (q*2+1) (sl pC (.own 7) (p:: (gt (gt w i) q).2))) (by simp only[go_sem]) (List.getElem?_set_self (by rw[aw (f:=aC)];omega)) (CLe.noR (sl pC (.own 7) _)) rfl ?_
      rw[List.set_set,an]
      simp only[List.set_cons_succ,List.set_cons_zero]
      refine ab hcx 1 (cl aC ((gt w i).set q ((gt (gt w i) q).1,p:: (gt (gt w i) q).2))) ?_
      try rw[b8 (List.length_set ..).symm]
      refine ab hcx 0 (cl vC (w.set i ((gt w i).set q ((gt (gt w i) q).1,p:: (gt (gt w i) q).2)))) ?_
      rw[bf _ _ (List.length_set ..).symm]
      refine ah hcx [] ?_
      simp only[show ∀L,w.set i ((gt w i).set q ((gt (gt w i) q).1,L)) =aR w i q L from fun _=>rfl]
      refine Tr.w hcx [] [some 217,some 218,some 219,some 220,some 221,some 222] [] rfl rfl rfl ?_ ae
      refine au rfl ?_
      refine Tr.skip ?_
      refine hK33 _ ?_
      refine Tr.w hcx [] [some 227,some 228,some 229,some 230,some 231,some 232,some 233,some 234] [] rfl rfl rfl ?_ ae
      refine bh rfl ?_
      refine Tr.v hcx [235,1000238] _ [] rfl rfl rfl ?_ ae
      refine hK29 _ ?_
      refine Tr.k [1,3,9,10,11,14,15,16] ?_
      rw[show PA q++[aD w i q,bP w i q k]++[aR w i q (p:: (gt (gt w i) q).2)] =PA (q+1) from by have:=bu hPB hPF (T:=[]) (H:=[aR w i q (p:: (gt (gt w i) q).2)]) (if_neg fun e=>e.1.2 c3o) (if_pos ⟨c4o,c5o⟩);simpa only[List.append_nil] using this]
      refine Tr.v hcx [1000090] _ [] rfl rfl rfl ?_ ae
      exact ⟨q+1,⟨(by omega),O1⟩,LT,rfl⟩
     have c3o:=c3
     replace c3:=eq_false c3
     by_cases c4:p.2.1= ((2:Nat):Int)
     ·
      have c4o:=c4
      replace c4:=eq_true c4
      have hR2:=ca (gt (gt w i) q).2
      have c5:=True.intro
      refine Tr.w hcx [1000179] [some 166,some 167,some 168,some 169,some 170,some 171,some 172,some 173,some 174,some 175,some 176,some 177,some 178,some 179,some 23] [] rfl rfl rfl ?_ ae
      refine Tr.k [1,3,9,10,11,14,15,16,20,21,22,23] ?_
      refine Tr.w hcx [] _ [none] rfl rfl rfl ?_ ae
      refine Tr.k [1,3,9,10,11,14,15,16,20,21,22,23,24] ?_
      refine Tr.k [1,3,9,10,11,14,15,16,20,21,22,23,24] ?_
      refine ah hcx [0,1,2,4,5,6,3] ?_
      simp only[aq (ρ:=[0,1,2,4,5,6,3]) (n:=0) (k:=0) (fun _=>rfl),aq (ρ:=[0,1,2,4,5,6,3]) (n:=4) (k:=3) (fun _=>rfl),bJ (ρ:=[0,1,2,4,5,6,3]) (n:=4) (k:=3) (fun _=>rfl)]
      have hR4:=aG (n:=3) (m:=(gt w i).length) hil
      refine ab hcx 6 [.gv 3 w.length (1,46)] ?_
      refine ab hcx 3 (fV 3 i (gt w i).length w) ?_
      rw[a8]
      have hR1:=aP (n:=3) (m:=(gt (gt w i) q).2.length) hc88
      refine bd hcx aW [201] [198] _ [] rfl rfl rfl rfl ?_ ao
      refine Tr.k [1,3,9,10,11,14,15,16,20,21,22,23,24] ?_
      refine ab hcx 2 [.gv 0 w.length (1,46)] ?_
      refine bB hcx aW [212] _ [] rfl rfl rfl rfl ?_ ao
      refine Tr.k [1,3,9,10,11,14,15,16,20,21,23,24] ?_
      refine af fun K34 hK34=>?_
      refine ab hcx 7 (cl pC ((gt (gt w i) q).2++[p])) ?_
      rw[bK _ _ rfl,an]
      refine ab hcx 4 (cl aC ((gt w i).set q ((gt (gt w i) q).1,(gt (gt w i) q).2++[p]))) ?_
      rw[bM _ _ (List.length_set ..).symm]
      refine Tr.bxc 1 (q*2+1) (sl pC .no (p:: (gt (gt w i) q).2)) ((cl aC (gt w i)).set (q*2+1) (sl pC (.own 7) (p:: (gt (gt w i) q).2))) (by simp only[go_sem]) (List.getElem?_set_self (by rw[aw (f:=aC)];omega)) (CLe.noR (sl pC (.own 7) _)) rfl ?_
      rw[List.set_set,an]
      simp only[List.set_cons_succ,List.set_cons_zero]
      refine ab hcx 1 (cl aC ((gt w i).set q ((gt (gt w i) q).1,p:: (gt (gt w i) q).2))) ?_
      try rw[b8 (List.length_set ..).symm]
      refine ab hcx 0 (cl vC (w.set i ((gt w i).set q ((gt (gt w i) q).1,p:: (gt (gt w i) q).2)))) ?_
      rw[bf _ _ (List.length_set ..).symm]
      refine ah hcx [] ?_
      simp only[show ∀L,w.set i ((gt w i).set q ((gt (gt w i) q).1,L)) =aR w i q L from fun _=>rfl]
      refine Tr.w hcx [] [some 217,some 218,some 219,some 220,some 221,some 222] [] rfl rfl rfl ?_ ae
      refine au rfl ?_
      refine Tr.skip ?_
      refine hK34 _ ?_
      refine Tr.w hcx [] [some 227,some 228,some 229,some 230,some 231,some 232,some 233,some 234] [] rfl rfl rfl ?_ ae
      refine au rfl ?_
      refine Tr.skip ?_
      refine hK29 _ ?_
      refine Tr.k [1,3,9,10,11,14,15,16] ?_
      rw[show PA q++[aD w i q,bP w i q k] =PA (q+1) from by have:=bu hPB hPF (T:=[]) (H:=[]) (if_neg fun e=>e.2 c4o) (if_neg fun e=>e.1 c4o);simpa only[List.append_nil] using this]
      refine Tr.v hcx [1000090] _ [] rfl rfl rfl ?_ ae
      exact ⟨q+1,⟨(by omega),O1⟩,LT,rfl⟩
     have c4o:=c4
     replace c4:=eq_false c4
     by_cases c5:p.2.1= ((1:Nat):Int)
     ·
      have c5o:=c5
      replace c5:=eq_true c5
      have hR2:=ca (gt (gt w i) q).2
      refine Tr.w hcx [1000179] [some 166,some 167,some 168,some 169,some 170,some 171,some 172,some 173,some 174,some 175,some 176,some 177,some 178,some 179,some 23] [] rfl rfl rfl ?_ ae
      refine Tr.k [1,3,9,10,11,14,15,16,20,21,22,23] ?_
      refine Tr.w hcx [] _ [none] rfl rfl rfl ?_ ae
      refine Tr.k [1,3,9,10,11,14,15,16,20,21,22,23,24] ?_
      refine Tr.k [1,3,9,10,11,14,15,16,20,21,22,23,24] ?_
      refine ah hcx [0,1,2,4,5,6,3] ?_
      simp only[aq (ρ:=[0,1,2,4,5,6,3]) (n:=0) (k:=0) (fun _=>rfl),aq (ρ:=[0,1,2,4,5,6,3]) (n:=4) (k:=3) (fun _=>rfl),bJ (ρ:=[0,1,2,4,5,6,3]) (n:=4) (k:=3) (fun _=>rfl)]
      have hR4:=aG (n:=3) (m:=(gt w i).length) hil
      refine ab hcx 6 [.gv 3 w.length (1,46)] ?_
      refine ab hcx 3 (fV 3 i (gt w i).length w) ?_
      rw[a8]
      have hR1:=aP (n:=3) (m:=(gt (gt w i) q).2.length) hc88
      refine bd hcx aW [201] [198] _ [] rfl rfl rfl rfl ?_ ao
      refine Tr.k [1,3,9,10,11,14,15,16,20,21,22,23,24] ?_
      refine ab hcx 2 [.gv 0 w.length (1,46)] ?_
      refine bB hcx aW [212] _ [] rfl rfl rfl rfl ?_ ao
      refine Tr.k [1,3,9,10,11,14,15,16,20,21,23,24] ?_
      refine af fun K35 hK35=>?_
      refine ab hcx 7 (cl pC ((gt (gt w i) q).2++[p])) ?_
      rw[bK _ _ rfl,an]
      refine ab hcx 4 (cl aC ((gt w i).set q ((gt (gt w i) q).1,(gt (gt w i) q).2++[p]))) ?_
      rw[bM _ _ (List.length_set ..).symm]
      refine Tr.bxc 1 (q*2+1) (sl pC .no (p:: (gt (gt w i) q).2)) ((cl aC (gt w i)).set (q*2+1) (sl pC (.own 7) (p:: (gt (gt w i) q).2))) (by simp only[go_sem]) (List.getElem?_set_self (by rw[aw (f:=aC)];omega)) (CLe.noR (sl pC (.own 7) _)) rfl ?_
      rw[List.set_set,an]
      simp only[List.set_cons_succ,List.set_cons_zero]
      refine ab hcx 1 (cl aC ((gt w i).set q ((gt (gt w i) q).1,p:: (gt (gt w i) q).2))) ?_
      try rw[b8 (List.length_set ..).symm]
      refine ab hcx 0 (cl vC (w.set i ((gt w i).set q ((gt (gt w i) q).1,p:: (gt (gt w i) q).2)))) ?_
      rw[bf _ _ (List.length_set ..).symm]
      refine ah hcx [] ?_
      simp only[show ∀L,w.set i ((gt w i).set q ((gt (gt w i) q).1,L)) =aR w i q L from fun _=>rfl]
      refine Tr.w hcx [] [some 217,some 218,some 219,some 220,some 221,some 222] [] rfl rfl rfl ?_ ae
      refine bh rfl ?_
      refine Tr.v hcx [223,1000226] _ [] rfl rfl rfl ?_ ae
      refine hK35 _ ?_
      refine Tr.k [1,3,9,10,11,14,15,16,20,21] ?_
      refine Tr.w hcx [] [some 227,some 228,some 229,some 230,some 231,some 232,some 233,some 234] [] rfl rfl rfl ?_ ae
      refine au rfl ?_
      refine Tr.skip ?_
      refine hK29 _ ?_
      rw[show PA q++[aD w i q,bP w i q k]++[aR w i q ((gt (gt w i) q).2++[p])] =PA (q+1) from by have:=bu hPB hPF (T:=[aR w i q ((gt (gt w i) q).2++[p])]) (H:=[]) (if_pos ⟨⟨c2o,c3o⟩,c4o⟩) (if_neg fun e=>e.2 c5o);simpa only[List.append_nil] using this]
      refine Tr.v hcx [1000090] _ [] rfl rfl rfl ?_ ae
      exact ⟨q+1,⟨(by omega),O1⟩,LT,rfl⟩
     have c5o:=c5
     replace c5:=eq_false c5
     have hR2:=ca (gt (gt w i) q).2
     refine Tr.w hcx [1000179] [some 166,some 167,some 168,some 169,some 170,some 171,some 172,some 173,some 174,some 175,some 176,some 177,some 178,some 179,some 23] [] rfl rfl rfl ?_ ae
     refine Tr.k [1,3,9,10,11,14,15,16,20,21,22,23] ?_
     refine Tr.w hcx [] _ [none] rfl rfl rfl ?_ ae
     refine Tr.k [1,3,9,10,11,14,15,16,20,21,22,23,24] ?_
     refine Tr.k [1,3,9,10,11,14,15,16,20,21,22,23,24] ?_
     refine ah hcx [0,1,2,4,5,6,3] ?_
     simp only[aq (ρ:=[0,1,2,4,5,6,3]) (n:=0) (k:=0) (fun _=>rfl),aq (ρ:=[0,1,2,4,5,6,3]) (n:=4) (k:=3) (fun _=>rfl),bJ (ρ:=[0,1,2,4,5,6,3]) (n:=4) (k:=3) (fun _=>rfl)]
     have hR4:=aG (n:=3) (m:=(gt w i).length) hil
     refine ab hcx 6 [.gv 3 w.length (1,46)] ?_
     refine ab hcx 3 (fV 3 i (gt w i).length w) ?_
     rw[a8]
     have hR1:=aP (n:=3) (m:=(gt (gt w i) q).2.length) hc88
     refine bd hcx aW [201] [198] _ [] rfl rfl rfl rfl ?_ ao
     refine Tr.k [1,3,9,10,11,14,15,16,20,21,22,23,24] ?_
     refine ab hcx 2 [.gv 0 w.length (1,46)] ?_
     refine bB hcx aW [212] _ [] rfl rfl rfl rfl ?_ ao
     refine Tr.k [1,3,9,10,11,14,15,16,20,21,23,24] ?_
     refine af fun K36 hK36=>?_
     refine ab hcx 7 (cl pC ((gt (gt w i) q).2++[p])) ?_
     rw[bK _ _ rfl,an]
     refine ab hcx 4 (cl aC ((gt w i).set q ((gt (gt w i) q).1,(gt (gt w i) q).2++[p]))) ?_
     rw[bM _ _ (List.length_set ..).symm]
     refine Tr.bxc 1 (q*2+1) (sl pC .no (p:: (gt (gt w i) q).2)) ((cl aC (gt w i)).set (q*2+1) (sl pC (.own 7) (p:: (gt (gt w i) q).2))) (by simp only[go_sem]) (List.getElem?_set_self (by rw[aw (f:=aC)];omega)) (CLe.noR (sl pC (.own 7) _)) rfl ?_
     rw[List.set_set,an]
     simp only[List.set_cons_succ,List.set_cons_zero]
     refine ab hcx 1 (cl aC ((gt w i).set q ((gt (gt w i) q).1,p:: (gt (gt w i) q).2))) ?_
     try rw[b8 (List.length_set ..).symm]
     refine ab hcx 0 (cl vC (w.set i ((gt w i).set q ((gt (gt w i) q).1,p:: (gt (gt w i) q).2)))) ?_
     rw[bf _ _ (List.length_set ..).symm]
     refine ah hcx [] ?_
     simp only[show ∀L,w.set i ((gt w i).set q ((gt (gt w i) q).1,L)) =aR w i q L from fun _=>rfl]
     refine Tr.w hcx [] [some 217,some 218,some 219,some 220,some 221,some 222] [] rfl rfl rfl ?_ ae
     refine bh rfl ?_
     refine Tr.v hcx [223,1000226] _ [] rfl rfl rfl ?_ ae
     refine hK36 _ ?_
     refine Tr.k [1,3,9,10,11,14,15,16,20,21] ?_
     refine Tr.w hcx [] [some 227,some 228,some 229,some 230,some 231,some 232,some 233,some 234] [] rfl rfl rfl ?_ ae
     refine bh rfl ?_
     refine Tr.v hcx [235,1000238] _ [] rfl rfl rfl ?_ ae
     refine hK29 _ ?_
     rw[show PA q++[aD w i q,bP w i q k]++[aR w i q ((gt (gt w i) q).2++[p])]++[aR w i q (p:: (gt (gt w i) q).2)] =PA (q+1) from by have:=bu hPB hPF (T:=[aR w i q ((gt (gt w i) q).2++[p])]) (H:=[aR w i q (p:: (gt (gt w i) q).2)]) (if_pos ⟨⟨c2o,c3o⟩,c4o⟩) (if_pos ⟨c4o,c5o⟩);simpa only[List.append_nil] using this]
     refine Tr.v hcx [1000090] _ [] rfl rfl rfl ?_ ae
     exact ⟨q+1,⟨(by omega),O1⟩,LT,rfl⟩
    have c2o:=c2
    replace c2:=eq_false c2
    by_cases c4:p.2.1= ((2:Nat):Int)
    ·
     have c4o:=c4
     replace c4:=eq_true c4
     have hR2:=ca (gt (gt w i) q).2
     have c3:=True.intro
     have c5:=True.intro
     refine Tr.w hcx [1000179] [some 166,some 167,some 168,some 169,some 170,some 171,some 172,some 173,some 174,some 175,some 176,some 177,some 178,some 179,some 23] [] rfl rfl rfl ?_ ae
     refine Tr.k [1,3,9,10,11,14,15,16,20,21,22,23] ?_
     refine Tr.w hcx [] _ [none] rfl rfl rfl ?_ ae
     refine Tr.k [1,3,9,10,11,14,15,16,20,21,22,23,24] ?_
     refine Tr.k [1,3,9,10,11,14,15,16,20,21,22,23,24] ?_
     refine ah hcx [0,1,2,4,5,6,3] ?_
     simp only[aq (ρ:=[0,1,2,4,5,6,3]) (n:=0) (k:=0) (fun _=>rfl),aq (ρ:=[0,1,2,4,5,6,3]) (n:=4) (k:=3) (fun _=>rfl),bJ (ρ:=[0,1,2,4,5,6,3]) (n:=4) (k:=3) (fun _=>rfl)]
     have hR4:=aG (n:=3) (m:=(gt w i).length) hil
     refine ab hcx 6 [.gv 3 w.length (1,46)] ?_
     refine ab hcx 3 (fV 3 i (gt w i).length w) ?_
     rw[a8]
     have hR1:=aP (n:=3) (m:=(gt (gt w i) q).2.length) hc88
     refine bd hcx aW [201] [198] _ [] rfl rfl rfl rfl ?_ ao
     refine Tr.k [1,3,9,10,11,14,15,16,20,21,22,23,24] ?_
     refine ab hcx 2 [.gv 0 w.length (1,46)] ?_
     refine bB hcx aW [212] _ [] rfl rfl rfl rfl ?_ ao
     refine Tr.k [1,3,9,10,11,14,15,16,20,21,23,24] ?_
     refine af fun K37 hK37=>?_
     refine ab hcx 7 (cl pC ((gt (gt w i) q).2++[p])) ?_
     rw[bK _ _ rfl,an]
     refine ab hcx 4 (cl aC ((gt w i).set q ((gt (gt w i) q).1,(gt (gt w i) q).2++[p]))) ?_
     rw[bM _ _ (List.length_set ..).symm]
     refine Tr.bxc 1 (q*2+1) (sl pC .no (p:: (gt (gt w i) q).2)) ((cl aC (gt w i)).set (q*2+1) (sl pC (.own 7) (p:: (gt (gt w i) q).2))) (by simp only[go_sem]) (List.getElem?_set_self (by rw[aw (f:=aC)];omega)) (CLe.noR (sl pC (.own 7) _)) rfl ?_
     rw[List.set_set,an]
     simp only[List.set_cons_succ,List.set_cons_zero]
     refine ab hcx 1 (cl aC ((gt w i).set q ((gt (gt w i) q).1,p:: (gt (gt w i) q).2))) ?_
     try rw[b8 (List.length_set ..).symm]
     refine ab hcx 0 (cl vC (w.set i ((gt w i).set q ((gt (gt w i) q).1,p:: (gt (gt w i) q).2)))) ?_
     rw[bf _ _ (List.length_set ..).symm]
     refine ah hcx [] ?_
     simp only[show ∀L,w.set i ((gt w i).set q ((gt (gt w i) q).1,L)) =aR w i q L from fun _=>rfl]
     refine Tr.w hcx [] [some 217,some 218,some 219,some 220,some 221,some 222] [] rfl rfl rfl ?_ ae
     refine au rfl ?_
     refine Tr.skip ?_
     refine hK37 _ ?_
     refine Tr.w hcx [] [some 227,some 228,some 229,some 230,some 231,some 232,some 233,some 234] [] rfl rfl rfl ?_ ae
     refine au rfl ?_
     refine Tr.skip ?_
     refine hK29 _ ?_
     refine Tr.k [1,3,9,10,11,14,15,16] ?_
     rw[show PA q++[aD w i q,bP w i q k] =PA (q+1) from by have:=bu hPB hPF (T:=[]) (H:=[]) (if_neg fun e=>e.2 c4o) (if_neg fun e=>e.1 c4o);simpa only[List.append_nil] using this]
     refine Tr.v hcx [1000090] _ [] rfl rfl rfl ?_ ae
     exact ⟨q+1,⟨(by omega),O1⟩,LT,rfl⟩
    have c4o:=c4
    replace c4:=eq_false c4
    by_cases c5:p.2.1= ((1:Nat):Int)
    ·
     have c5o:=c5
     replace c5:=eq_true c5
     have hR2:=ca (gt (gt w i) q).2
     have c3:=True.intro
     refine Tr.w hcx [1000179] [some 166,some 167,some 168,some 169,some 170,some 171,some 172,some 173,some 174,some 175,some 176,some 177,some 178,some 179,some 23] [] rfl rfl rfl ?_ ae
     refine Tr.k [1,3,9,10,11,14,15,16,20,21,22,23] ?_
     refine Tr.w hcx [] _ [none] rfl rfl rfl ?_ ae
     refine Tr.k [1,3,9,10,11,14,15,16,20,21,22,23,24] ?_
     refine Tr.k [1,3,9,10,11,14,15,16,20,21,22,23,24] ?_
     refine ah hcx [0,1,2,4,5,6,3] ?_
     simp only[aq (ρ:=[0,1,2,4,5,6,3]) (n:=0) (k:=0) (fun _=>rfl),aq (ρ:=[0,1,2,4,5,6,3]) (n:=4) (k:=3) (fun _=>rfl),bJ (ρ:=[0,1,2,4,5,6,3]) (n:=4) (k:=3) (fun _=>rfl)]
     have hR4:=aG (n:=3) (m:=(gt w i).length) hil
     refine ab hcx 6 [.gv 3 w.length (1,46)] ?_
     refine ab hcx 3 (fV 3 i (gt w i).length w) ?_
     rw[a8]
     have hR1:=aP (n:=3) (m:=(gt (gt w i) q).2.length) hc88
     refine bd hcx aW [201] [198] _ [] rfl rfl rfl rfl ?_ ao
     refine Tr.k [1,3,9,10,11,14,15,16,20,21,22,23,24] ?_
     refine ab hcx 2 [.gv 0 w.length (1,46)] ?_
     refine bB hcx aW [212] _ [] rfl rfl rfl rfl ?_ ao
     refine Tr.k [1,3,9,10,11,14,15,16,20,21,23,24] ?_
     refine af fun K38 hK38=>?_
     refine ab hcx 7 (cl pC ((gt (gt w i) q).2++[p])) ?_
     rw[bK _ _ rfl,an]
     refine ab hcx 4 (cl aC ((gt w i).set q ((gt (gt w i) q).1,(gt (gt w i) q).2++[p]))) ?_
     rw[bM _ _ (List.length_set ..).symm]
     refine Tr.bxc 1 (q*2+1) (sl pC .no (p:: (gt (gt w i) q).2)) ((cl aC (gt w i)).set (q*2+1) (sl pC (.own 7) (p:: (gt (gt w i) q).2))) (by simp only[go_sem]) (List.getElem?_set_self (by rw[aw (f:=aC)];omega)) (CLe.noR (sl pC (.own 7) _)) rfl ?_
     rw[List.set_set,an]
     simp only[List.set_cons_succ,List.set_cons_zero]
     refine ab hcx 1 (cl aC ((gt w i).set q ((gt (gt w i) q).1,p:: (gt (gt w i) q).2))) ?_
     try rw[b8 (List.length_set ..).symm]
     refine ab hcx 0 (cl vC (w.set i ((gt w i).set q ((gt (gt w i) q).1,p:: (gt (gt w i) q).2)))) ?_
     rw[bf _ _ (List.length_set ..).symm]
     refine ah hcx [] ?_
     simp only[show ∀L,w.set i ((gt w i).set q ((gt (gt w i) q).1,L)) =aR w i q L from fun _=>rfl]
     refine Tr.w hcx [] [some 217,some 218,some 219,some 220,some 221,some 222] [] rfl rfl rfl ?_ ae
     refine au rfl ?_
     refine Tr.skip ?_
     refine hK38 _ ?_
     refine Tr.w hcx [] [some 227,some 228,some 229,some 230,some 231,some 232,some 233,some 234] [] rfl rfl rfl ?_ ae
     refine au rfl ?_
     refine Tr.skip ?_
     refine hK29 _ ?_
     refine Tr.k [1,3,9,10,11,14,15,16] ?_
     rw[show PA q++[aD w i q,bP w i q k] =PA (q+1) from by have:=bu hPB hPF (T:=[]) (H:=[]) (if_neg fun e=>c2o e.1.1) (if_neg fun e=>e.2 c5o);simpa only[List.append_nil] using this]
     refine Tr.v hcx [1000090] _ [] rfl rfl rfl ?_ ae
     exact ⟨q+1,⟨(by omega),O1⟩,LT,rfl⟩
    have c5o:=c5
    replace c5:=eq_false c5
    have hR2:=ca (gt (gt w i) q).2
    have c3:=True.intro
    refine Tr.w hcx [1000179] [some 166,some 167,some 168,some 169,some 170,some 171,some 172,some 173,some 174,some 175,some 176,some 177,some 178,some 179,some 23] [] rfl rfl rfl ?_ ae
    refine Tr.k [1,3,9,10,11,14,15,16,20,21,22,23] ?_
    refine Tr.w hcx [] _ [none] rfl rfl rfl ?_ ae
    refine Tr.k [1,3,9,10,11,14,15,16,20,21,22,23,24] ?_
    refine Tr.k [1,3,9,10,11,14,15,16,20,21,22,23,24] ?_
    refine ah hcx [0,1,2,4,5,6,3] ?_
    simp only[aq (ρ:=[0,1,2,4,5,6,3]) (n:=0) (k:=0) (fun _=>rfl),aq (ρ:=[0,1,2,4,5,6,3]) (n:=4) (k:=3) (fun _=>rfl),bJ (ρ:=[0,1,2,4,5,6,3]) (n:=4) (k:=3) (fun _=>rfl)]
    have hR4:=aG (n:=3) (m:=(gt w i).length) hil
    refine ab hcx 6 [.gv 3 w.length (1,46)] ?_
    refine ab hcx 3 (fV 3 i (gt w i).length w) ?_
    rw[a8]
    have hR1:=aP (n:=3) (m:=(gt (gt w i) q).2.length) hc88
    refine bd hcx aW [201] [198] _ [] rfl rfl rfl rfl ?_ ao
    refine Tr.k [1,3,9,10,11,14,15,16,20,21,22,23,24] ?_
    refine ab hcx 2 [.gv 0 w.length (1,46)] ?_
    refine bB hcx aW [212] _ [] rfl rfl rfl rfl ?_ ao
    refine Tr.k [1,3,9,10,11,14,15,16,20,21,23,24] ?_
    refine af fun K39 hK39=>?_
    refine ab hcx 7 (cl pC ((gt (gt w i) q).2++[p])) ?_
    rw[bK _ _ rfl,an]
    refine ab hcx 4 (cl aC ((gt w i).set q ((gt (gt w i) q).1,(gt (gt w i) q).2++[p]))) ?_
    rw[bM _ _ (List.length_set ..).symm]
    refine Tr.bxc 1 (q*2+1) (sl pC .no (p:: (gt (gt w i) q).2)) ((cl aC (gt w i)).set (q*2+1) (sl pC (.own 7) (p:: (gt (gt w i) q).2))) (by simp only[go_sem]) (List.getElem?_set_self (by rw[aw (f:=aC)];omega)) (CLe.noR (sl pC (.own 7) _)) rfl ?_
    rw[List.set_set,an]
    simp only[List.set_cons_succ,List.set_cons_zero]
    refine ab hcx 1 (cl aC ((gt w i).set q ((gt (gt w i) q).1,p:: (gt (gt w i) q).2))) ?_
    try rw[b8 (List.length_set ..).symm]
    refine ab hcx 0 (cl vC (w.set i ((gt w i).set q ((gt (gt w i) q).1,p:: (gt (gt w i) q).2)))) ?_
    rw[bf _ _ (List.length_set ..).symm]
    refine ah hcx [] ?_
    simp only[show ∀L,w.set i ((gt w i).set q ((gt (gt w i) q).1,L)) =aR w i q L from fun _=>rfl]
    refine Tr.w hcx [] [some 217,some 218,some 219,some 220,some 221,some 222] [] rfl rfl rfl ?_ ae
    refine au rfl ?_
    refine Tr.skip ?_
    refine hK39 _ ?_
    refine Tr.w hcx [] [some 227,some 228,some 229,some 230,some 231,some 232,some 233,some 234] [] rfl rfl rfl ?_ ae
    refine bh rfl ?_
    refine Tr.v hcx [235,1000238] _ [] rfl rfl rfl ?_ ae
    refine hK29 _ ?_
    refine Tr.k [1,3,9,10,11,14,15,16] ?_
    rw[show PA q++[aD w i q,bP w i q k]++[aR w i q (p:: (gt (gt w i) q).2)] =PA (q+1) from by have:=bu hPB hPF (T:=[]) (H:=[aR w i q (p:: (gt (gt w i) q).2)]) (if_neg fun e=>c2o e.1.1) (if_pos ⟨c4o,c5o⟩);simpa only[List.append_nil] using this]
    refine Tr.v hcx [1000090] _ [] rfl rfl rfl ?_ ae
    exact ⟨q+1,⟨(by omega),O1⟩,LT,rfl⟩
   have hR1:=rn q (gt w i) ⟨hc88,by omega⟩
   have hR2:=fun cx apps dsts lo id d e h fs K e9 b=>p5 cx apps dsts lo id d e h fs K aC e9 b q (gt w i) ⟨hc88,by omega⟩
   refine ab hcx 3 (aC (gt (gt w i) q)) ?_
   refine ab hcx 2 [.gv 0 w.length (1,46)] ?_
   refine bd hcx aW [127] [117] _ [] rfl rfl rfl rfl ?_ ao
   refine Tr.k [1,3,9,10,11,14,15,16,17,18] ?_
   refine ab hcx 1 (cl aC ((gt w i).take q++(gt w i).drop (q+1)++(gt w i).drop ((gt w i).length - 1))) ?_
   rw[wu aC hc88,e5]
   rw[show w.set i ((gt w i).take q++(gt w i).drop (q+1)) =aD w i q from rfl]
   refine ab hcx 0 (cl vC (aD w i q)) ?_
   rw[bf _ _ (dH w i q).symm]
   refine ah hcx [] ?_
   refine Tr.virt ?_
   refine Tr.virt ?_
   simp only[List.nil_append,List.cons_append]
   refine Tr.w hcx [] _ [none] rfl rfl rfl ?_ ae
   refine Tr.k [1,3,9,10,11,14,15,16,17,18,19] ?_
   have hP9: (gt (aD w i q) k).length≤4:=(hvs.cut hil hc88).v _ (ba _ k (by rw[dH];exact hkl))
   have hP8:k< (aD w i q).length:=by rw[dH];exact hkl
   have hR4:=aG (n:=0) (m:=(gt (aD w i q) k).length) hP8
   have hR1:=dH w i q
   refine Tr.k [1,3,9,10,11,14,15,16,17,18,19] ?_
   refine ah hcx [3,4,2] ?_
   simp only[aq (ρ:=[3,4,2]) (n:=3) (k:=0) (fun _=>rfl)]
   refine ab hcx 2 [.gv 0 (aD w i q).length (1,46)] ?_
   refine bd hcx aW [143] [140] _ [] rfl rfl rfl rfl ?_ ao
   refine Tr.k [1,3,9,10,11,14,15,16,17,19] ?_
   have hP9:=j5 hPB hPF q
   refine ab hcx 3 (cl aC (gt (aD w i q) k++[gt (gt w i) q])) ?_
   rw[j0 _ _ rfl,e5]
   rw[show (aD w i q).set k (gt (aD w i q) k++[gt (gt w i) q]) =bP w i q k from rfl]
   refine ab hcx 0 (cl vC (bP w i q k)) ?_
   rw[bf _ _ (kM w i q k)]
   refine ah hcx [] ?_
   refine Tr.w hcx [146,1000150] _ [] rfl rfl rfl ?_ ae
   refine Tr.w hcx [] _ [none] rfl rfl rfl ?_ ae
   refine ab hcx 0 (pC p) ?_
   refine ah hcx [] ?_
   refine Tr.virt ?_
   simp only[List.nil_append]
   refine Tr.w hcx [] _ [none] rfl rfl rfl ?_ ae
   refine Tr.k [1,3,9,10,11,14,15,16,20,21] ?_
   refine Tr.k [1,3,9,10,11,14,15,16,20,21] ?_
   refine ah hcx [2,3,1] ?_
   simp only[aq (ρ:=[2,3,1]) (n:=2) (k:=0) (fun _=>rfl)]
   refine Tr.w hcx [1000165] _ [] rfl rfl rfl ?_ ae
   refine Tr.k [1,3,9,10,11,14,15,16,20,21,22] ?_
   by_cases c2:0< (gt (gt w i) q).2.length
   ·
    have c2o:=c2
    replace c2:=eq_true c2
    by_cases c3: (gt (gt (gt w i) q).2 ((gt (gt w i) q).2.length - 1)).2.1= ((2:Nat):Int)
    ·
     have c3o:=c3
     replace c3:=eq_true c3
     by_cases c4:p.2.1= ((2:Nat):Int)
     ·
      have c4o:=c4
      replace c4:=eq_true c4
      have hR2:=ca (gt (gt w i) q).2
      have c5:=True.intro
      refine Tr.w hcx [1000179] [some 166,some 167,some 168,some 169,some 170,some 171,some 172,some 173,some 174,some 175,some 176,some 177,some 178,some 179,some 23] [] rfl rfl rfl ?_ ae
      refine Tr.k [1,3,9,10,11,14,15,16,20,21,22,23] ?_
      refine Tr.w hcx [] _ [none] rfl rfl rfl ?_ ae
      refine Tr.k [1,3,9,10,11,14,15,16,20,21,22,23,24] ?_
      refine Tr.k [1,3,9,10,11,14,15,16,20,21,22,23,24] ?_
      refine ah hcx [0,1,2,4,5,6,3] ?_
      simp only[aq (ρ:=[0,1,2,4,5,6,3]) (n:=0) (k:=0) (fun _=>rfl),aq (ρ:=[0,1,2,4,5,6,3]) (n:=4) (k:=3) (fun _=>rfl),bJ (ρ:=[0,1,2,4,5,6,3]) (n:=4) (k:=3) (fun _=>rfl)]
      have hR4:=aG (n:=3) (m:=(gt w i).length) hil
      refine ab hcx 6 [.gv 3 w.length (1,46)] ?_
      refine ab hcx 3 (fV 3 i (gt w i).length w) ?_
      rw[a8]
      have hR1:=aP (n:=3) (m:=(gt (gt w i) q).2.length) hc88
      refine bd hcx aW [201] [198] _ [] rfl rfl rfl rfl ?_ ao
      refine Tr.k [1,3,9,10,11,14,15,16,20,21,22,23,24] ?_
      refine ab hcx 2 [.gv 0 w.length (1,46)] ?_
      refine bB hcx aW [212] _ [] rfl rfl rfl rfl ?_ ao
      refine Tr.k [1,3,9,10,11,14,15,16,20,21,23,24] ?_
      refine af fun K40 hK40=>?_
      refine ab hcx 7 (cl pC ((gt (gt w i) q).2++[p])) ?_
      rw[bK _ _ rfl,an]
      refine ab hcx 4 (cl aC ((gt w i).set q ((gt (gt w i) q).1,(gt (gt w i) q).2++[p]))) ?_
      rw[bM _ _ (List.length_set ..).symm]
      refine Tr.bxc 1 (q*2+1) (sl pC .no (p:: (gt (gt w i) q).2)) ((cl aC (gt w i)).set (q*2+1) (sl pC (.own 7) (p:: (gt (gt w i) q).2))) (by simp only[go_sem]) (List.getElem?_set_self (by rw[aw (f:=aC)];omega)) (CLe.noR (sl pC (.own 7) _)) rfl ?_
      rw[List.set_set,an]
      simp only[List.set_cons_succ,List.set_cons_zero]
      refine ab hcx 1 (cl aC ((gt w i).set q ((gt (gt w i) q).1,p:: (gt (gt w i) q).2))) ?_
      try rw[b8 (List.length_set ..).symm]
      refine ab hcx 0 (cl vC (w.set i ((gt w i).set q ((gt (gt w i) q).1,p:: (gt (gt w i) q).2)))) ?_
      rw[bf _ _ (List.length_set ..).symm]
      refine ah hcx [] ?_
      simp only[show ∀L,w.set i ((gt w i).set q ((gt (gt w i) q).1,L)) =aR w i q L from fun _=>rfl]
      refine Tr.w hcx [] [some 217,some 218,some 219,some 220,some 221,some 222] [] rfl rfl rfl ?_ ae
      refine au rfl ?_
      refine Tr.skip ?_
      refine hK40 _ ?_
      refine Tr.w hcx [] [some 227,some 228,some 229,some 230,some 231,some 232,some 233,some 234] [] rfl rfl rfl ?_ ae
      refine au rfl ?_
      refine Tr.skip ?_
      refine hK29 _ ?_
      refine Tr.k [1,3,9,10,11,14,15,16] ?_
      rw[show PA q++[aD w i q,bP w i q k] =PA (q+1) from by have:=bu hPB hPF (T:=[]) (H:=[]) (if_neg fun e=>e.2 c4o) (if_neg fun e=>e.1 c4o);simpa only[List.append_nil] using this]
      refine Tr.v hcx [1000090] _ [] rfl rfl rfl ?_ ae
      exact ⟨q+1,⟨(by omega),O1⟩,LT,rfl⟩
     have c4o:=c4
     replace c4:=eq_false c4
     by_cases c5:p.2.1= ((1:Nat):Int)
     ·
      have c5o:=c5
      replace c5:=eq_true c5
      have hR2:=ca (gt (gt w i) q).2
      refine Tr.w hcx [1000179] [some 166,some 167,some 168,some 169,some 170,some 171,some 172,some 173,some 174,some 175,some 176,some 177,some 178,some 179,some 23] [] rfl rfl rfl ?_ ae
      refine Tr.k [1,3,9,10,11,14,15,16,20,21,22,23] ?_
      refine Tr.w hcx [] _ [none] rfl rfl rfl ?_ ae
      refine Tr.k [1,3,9,10,11,14,15,16,20,21,22,23,24] ?_
      refine Tr.k [1,3,9,10,11,14,15,16,20,21,22,23,24] ?_
      refine ah hcx [0,1,2,4,5,6,3] ?_
      simp only[aq (ρ:=[0,1,2,4,5,6,3]) (n:=0) (k:=0) (fun _=>rfl),aq (ρ:=[0,1,2,4,5,6,3]) (n:=4) (k:=3) (fun _=>rfl),bJ (ρ:=[0,1,2,4,5,6,3]) (n:=4) (k:=3) (fun _=>rfl)]
      have hR4:=aG (n:=3) (m:=(gt w i).length) hil
      refine ab hcx 6 [.gv 3 w.length (1,46)] ?_
      refine ab hcx 3 (fV 3 i (gt w i).length w) ?_
      rw[a8]
      have hR1:=aP (n:=3) (m:=(gt (gt w i) q).2.length) hc88
      refine bd hcx aW [201] [198] _ [] rfl rfl rfl rfl ?_ ao
      refine Tr.k [1,3,9,10,11,14,15,16,20,21,22,23,24] ?_
      refine ab hcx 2 [.gv 0 w.length (1,46)] ?_
      refine bB hcx aW [212] _ [] rfl rfl rfl rfl ?_ ao
      refine Tr.k [1,3,9,10,11,14,15,16,20,21,23,24] ?_
      refine af fun K41 hK41=>?_
      refine ab hcx 7 (cl pC ((gt (gt w i) q).2++[p])) ?_
      rw[bK _ _ rfl,an]
      refine ab hcx 4 (cl aC ((gt w i).set q ((gt (gt w i) q).1,(gt (gt w i) q).2++[p]))) ?_
      rw[bM _ _ (List.length_set ..).symm]
      refine Tr.bxc 1 (q*2+1) (sl pC .no (p:: (gt (gt w i) q).2)) ((cl aC (gt w i)).set (q*2+1) (sl pC (.own 7) (p:: (gt (gt w i) q).2))) (by simp only[go_sem]) (List.getElem?_set_self (by rw[aw (f:=aC)];omega)) (CLe.noR (sl pC (.own 7) _)) rfl ?_
      rw[List.set_set,an]
      simp only[List.set_cons_succ,List.set_cons_zero]
      refine ab hcx 1 (cl aC ((gt w i).set q ((gt (gt w i) q).1,p:: (gt (gt w i) q).2))) ?_
      try rw[b8 (List.length_set ..).symm]
      refine ab hcx 0 (cl vC (w.set i ((gt w i).set q ((gt (gt w i) q).1,p:: (gt (gt w i) q).2)))) ?_
      rw[bf _ _ (List.length_set ..).symm]
      refine ah hcx [] ?_
      simp only[show ∀L,w.set i ((gt w i).set q ((gt (gt w i) q).1,L)) =aR w i q L from fun _=>rfl]
      refine Tr.w hcx [] [some 217,some 218,some 219,some 220,some 221,some 222] [] rfl rfl rfl ?_ ae
      refine au rfl ?_
      refine Tr.skip ?_
      refine hK41 _ ?_
      refine Tr.w hcx [] [some 227,some 228,some 229,some 230,some 231,some 232,some 233,some 234] [] rfl rfl rfl ?_ ae
      refine au rfl ?_
      refine Tr.skip ?_
      refine hK29 _ ?_
      refine Tr.k [1,3,9,10,11,14,15,16] ?_
      rw[show PA q++[aD w i q,bP w i q k] =PA (q+1) from by have:=bu hPB hPF (T:=[]) (H:=[]) (if_neg fun e=>e.1.2 c3o) (if_neg fun e=>e.2 c5o);simpa only[List.append_nil] using this]
      refine Tr.v hcx [1000090] _ [] rfl rfl rfl ?_ ae
      exact ⟨q+1,⟨(by omega),O1⟩,LT,rfl⟩
     have c5o:=c5
     replace c5:=eq_false c5
     have hR2:=ca (gt (gt w i) q).2
     refine Tr.w hcx [1000179] [some 166,some 167,some 168,some 169,some 170,some 171,some 172,some 173,some 174,some 175,some 176,some 177,some 178,some 179,some 23] [] rfl rfl rfl ?_ ae
     refine Tr.k [1,3,9,10,11,14,15,16,20,21,22,23] ?_
     refine Tr.w hcx [] _ [none] rfl rfl rfl ?_ ae
     refine Tr.k [1,3,9,10,11,14,15,16,20,21,22,23,24] ?_
     refine Tr.k [1,3,9,10,11,14,15,16,20,21,22,23,24] ?_
     refine ah hcx [0,1,2,4,5,6,3] ?_
     simp only[aq (ρ:=[0,1,2,4,5,6,3]) (n:=0) (k:=0) (fun _=>rfl),aq (ρ:=[0,1,2,4,5,6,3]) (n:=4) (k:=3) (fun _=>rfl),bJ (ρ:=[0,1,2,4,5,6,3]) (n:=4) (k:=3) (fun _=>rfl)]
     have hR4:=aG (n:=3) (m:=(gt w i).length) hil
     refine ab hcx 6 [.gv 3 w.length (1,46)] ?_
     refine ab hcx 3 (fV 3 i (gt w i).length w) ?_
     rw[a8]
     have hR1:=aP (n:=3) (m:=(gt (gt w i) q).2.length) hc88
     refine bd hcx aW [201] [198] _ [] rfl rfl rfl rfl ?_ ao
     refine Tr.k [1,3,9,10,11,14,15,16,20,21,22,23,24] ?_
     refine ab hcx 2 [.gv 0 w.length (1,46)] ?_
     refine bB hcx aW [212] _ [] rfl rfl rfl rfl ?_ ao
     refine Tr.k [1,3,9,10,11,14,15,16,20,21,23,24] ?_
     refine af fun K42 hK42=>?_
     refine ab hcx 7 (cl pC ((gt (gt w i) q).2++[p])) ?_
     rw[bK _ _ rfl,an]
     refine ab hcx 4 (cl aC ((gt w i).set q ((gt (gt w i) q).1,(gt (gt w i) q).2++[p]))) ?_
     rw[bM _ _ (List.length_set ..).symm]
     refine Tr.bxc 1 (q*2+1) (sl pC .no (p:: (gt (gt w i) q).2)) ((cl aC (gt w i)).set (q*2+1) (sl pC (.own 7) (p:: (gt (gt w i) q).2))) (by simp only[go_sem]) (List.getElem?_set_self (by rw[aw (f:=aC)];omega)) (CLe.noR (sl pC (.own 7) _)) rfl ?_
     rw[List.set_set,an]
     simp only[List.set_cons_succ,List.set_cons_zero]
     refine ab hcx 1 (cl aC ((gt w i).set q ((gt (gt w i) q).1,p:: (gt (gt w i) q).2))) ?_
     try rw[b8 (List.length_set ..).symm]
     refine ab hcx 0 (cl vC (w.set i ((gt w i).set q ((gt (gt w i) q).1,p:: (gt (gt w i) q).2)))) ?_
     rw[bf _ _ (List.length_set ..).symm]
     refine ah hcx [] ?_
     simp only[show ∀L,w.set i ((gt w i).set q ((gt (gt w i) q).1,L)) =aR w i q L from fun _=>rfl]
     refine Tr.w hcx [] [some 217,some 218,some 219,some 220,some 221,some 222] [] rfl rfl rfl ?_ ae
     refine au rfl ?_
     refine Tr.skip ?_
     refine hK42 _ ?_
     refine Tr.w hcx [] [some 227,some 228,some 229,some 230,some 231,some 232,some 233,some 234] [] rfl rfl rfl ?_ ae
     refine bh rfl ?_
     refine Tr.v hcx [235,1000238] _ [] rfl rfl rfl ?_ ae
     refine hK29 _ ?_
     refine Tr.k [1,3,9,10,11,14,15,16] ?_
     rw[show PA q++[aD w i q,bP w i q k]++[aR w i q (p:: (gt (gt w i) q).2)] =PA (q+1) from by have:=bu hPB hPF (T:=[]) (H:=[aR w i q (p:: (gt (gt w i) q).2)]) (if_neg fun e=>e.1.2 c3o) (if_pos ⟨c4o,c5o⟩);simpa only[List.append_nil] using this]
     refine Tr.v hcx [1000090] _ [] rfl rfl rfl ?_ ae
     exact ⟨q+1,⟨(by omega),O1⟩,LT,rfl⟩
    have c3o:=c3
    replace c3:=eq_false c3
    by_cases c4:p.2.1= ((2:Nat):Int)
    ·
     have c4o:=c4
     replace c4:=eq_true c4
     have hR2:=ca (gt (gt w i) q).2
     have c5:=True.intro
     refine Tr.w hcx [1000179] [some 166,some 167,some 168,some 169,some 170,some 171,some 172,some 173,some 174,some 175,some 176,some 177,some 178,some 179,some 23] [] rfl rfl rfl ?_ ae
     refine Tr.k [1,3,9,10,11,14,15,16,20,21,22,23] ?_
     refine Tr.w hcx [] _ [none] rfl rfl rfl ?_ ae
     refine Tr.k [1,3,9,10,11,14,15,16,20,21,22,23,24] ?_
     refine Tr.k [1,3,9,10,11,14,15,16,20,21,22,23,24] ?_
     refine ah hcx [0,1,2,4,5,6,3] ?_
     simp only[aq (ρ:=[0,1,2,4,5,6,3]) (n:=0) (k:=0) (fun _=>rfl),aq (ρ:=[0,1,2,4,5,6,3]) (n:=4) (k:=3) (fun _=>rfl),bJ (ρ:=[0,1,2,4,5,6,3]) (n:=4) (k:=3) (fun _=>rfl)]
     have hR4:=aG (n:=3) (m:=(gt w i).length) hil
     refine ab hcx 6 [.gv 3 w.length (1,46)] ?_
     refine ab hcx 3 (fV 3 i (gt w i).length w) ?_
     rw[a8]
     have hR1:=aP (n:=3) (m:=(gt (gt w i) q).2.length) hc88
     refine bd hcx aW [201] [198] _ [] rfl rfl rfl rfl ?_ ao
     refine Tr.k [1,3,9,10,11,14,15,16,20,21,22,23,24] ?_
     refine ab hcx 2 [.gv 0 w.length (1,46)] ?_
     refine bB hcx aW [212] _ [] rfl rfl rfl rfl ?_ ao
     refine Tr.k [1,3,9,10,11,14,15,16,20,21,23,24] ?_
     refine af fun K43 hK43=>?_
     refine ab hcx 7 (cl pC ((gt (gt w i) q).2++[p])) ?_
     rw[bK _ _ rfl,an]
     refine ab hcx 4 (cl aC ((gt w i).set q ((gt (gt w i) q).1,(gt (gt w i) q).2++[p]))) ?_
     rw[bM _ _ (List.length_set ..).symm]
     refine Tr.bxc 1 (q*2+1) (sl pC .no (p:: (gt (gt w i) q).2)) ((cl aC (gt w i)).set (q*2+1) (sl pC (.own 7) (p:: (gt (gt w i) q).2))) (by simp only[go_sem]) (List.getElem?_set_self (by rw[aw (f:=aC)];omega)) (CLe.noR (sl pC (.own 7) _)) rfl ?_
     rw[List.set_set,an]
     simp only[List.set_cons_succ,List.set_cons_zero]
     refine ab hcx 1 (cl aC ((gt w i).set q ((gt (gt w i) q).1,p:: (gt (gt w i) q).2))) ?_
     try rw[b8 (List.length_set ..).symm]
     refine ab hcx 0 (cl vC (w.set i ((gt w i).set q ((gt (gt w i) q).1,p:: (gt (gt w i) q).2)))) ?_
     rw[bf _ _ (List.length_set ..).symm]
     refine ah hcx [] ?_
     simp only[show ∀L,w.set i ((gt w i).set q ((gt (gt w i) q).1,L)) =aR w i q L from fun _=>rfl]
     refine Tr.w hcx [] [some 217,some 218,some 219,some 220,some 221,some 222] [] rfl rfl rfl ?_ ae
     refine au rfl ?_
     refine Tr.skip ?_
     refine hK43 _ ?_
     refine Tr.w hcx [] [some 227,some 228,some 229,some 230,some 231,some 232,some 233,some 234] [] rfl rfl rfl ?_ ae
     refine au rfl ?_
     refine Tr.skip ?_
     refine hK29 _ ?_
     refine Tr.k [1,3,9,10,11,14,15,16] ?_
     rw[show PA q++[aD w i q,bP w i q k] =PA (q+1) from by have:=bu hPB hPF (T:=[]) (H:=[]) (if_neg fun e=>e.2 c4o) (if_neg fun e=>e.1 c4o);simpa only[List.append_nil] using this]
     refine Tr.v hcx [1000090] _ [] rfl rfl rfl ?_ ae
     exact ⟨q+1,⟨(by omega),O1⟩,LT,rfl⟩
    have c4o:=c4
    replace c4:=eq_false c4
    by_cases c5:p.2.1= ((1:Nat):Int)
    ·
     have c5o:=c5
     replace c5:=eq_true c5
     have hR2:=ca (gt (gt w i) q).2
     refine Tr.w hcx [1000179] [some 166,some 167,some 168,some 169,some 170,some 171,some 172,some 173,some 174,some 175,some 176,some 177,some 178,some 179,some 23] [] rfl rfl rfl ?_ ae
     refine Tr.k [1,3,9,10,11,14,15,16,20,21,22,23] ?_
     refine Tr.w hcx [] _ [none] rfl rfl rfl ?_ ae
     refine Tr.k [1,3,9,10,11,14,15,16,20,21,22,23,24] ?_
     refine Tr.k [1,3,9,10,11,14,15,16,20,21,22,23,24] ?_
     refine ah hcx [0,1,2,4,5,6,3] ?_
     simp only[aq (ρ:=[0,1,2,4,5,6,3]) (n:=0) (k:=0) (fun _=>rfl),aq (ρ:=[0,1,2,4,5,6,3]) (n:=4) (k:=3) (fun _=>rfl),bJ (ρ:=[0,1,2,4,5,6,3]) (n:=4) (k:=3) (fun _=>rfl)]
     have hR4:=aG (n:=3) (m:=(gt w i).length) hil
     refine ab hcx 6 [.gv 3 w.length (1,46)] ?_
     refine ab hcx 3 (fV 3 i (gt w i).length w) ?_
     rw[a8]
     have hR1:=aP (n:=3) (m:=(gt (gt w i) q).2.length) hc88
     refine bd hcx aW [201] [198] _ [] rfl rfl rfl rfl ?_ ao
     refine Tr.k [1,3,9,10,11,14,15,16,20,21,22,23,24] ?_
     refine ab hcx 2 [.gv 0 w.length (1,46)] ?_
     refine bB hcx aW [212] _ [] rfl rfl rfl rfl ?_ ao
     refine Tr.k [1,3,9,10,11,14,15,16,20,21,23,24] ?_
     refine af fun K44 hK44=>?_
     refine ab hcx 7 (cl pC ((gt (gt w i) q).2++[p])) ?_
     rw[bK _ _ rfl,an]
     refine ab hcx 4 (cl aC ((gt w i).set q ((gt (gt w i) q).1,(gt (gt w i) q).2++[p]))) ?_
     rw[bM _ _ (List.length_set ..).symm]
     refine Tr.bxc 1 (q*2+1) (sl pC .no (p:: (gt (gt w i) q).2)) ((cl aC (gt w i)).set (q*2+1) (sl pC (.own 7) (p:: (gt (gt w i) q).2))) (by simp only[go_sem]) (List.getElem?_set_self (by rw[aw (f:=aC)];omega)) (CLe.noR (sl pC (.own 7) _)) rfl ?_
     rw[List.set_set,an]
     simp only[List.set_cons_succ,List.set_cons_zero]
     refine ab hcx 1 (cl aC ((gt w i).set q ((gt (gt w i) q).1,p:: (gt (gt w i) q).2))) ?_
     try rw[b8 (List.length_set ..).symm]
     refine ab hcx 0 (cl vC (w.set i ((gt w i).set q ((gt (gt w i) q).1,p:: (gt (gt w i) q).2)))) ?_
     rw[bf _ _ (List.length_set ..).symm]
     refine ah hcx [] ?_
     simp only[show ∀L,w.set i ((gt w i).set q ((gt (gt w i) q).1,L)) =aR w i q L from fun _=>rfl]
     refine Tr.w hcx [] [some 217,some 218,some 219,some 220,some 221,some 222] [] rfl rfl rfl ?_ ae
     refine bh rfl ?_
     refine Tr.v hcx [223,1000226] _ [] rfl rfl rfl ?_ ae
     refine hK44 _ ?_
     refine Tr.k [1,3,9,10,11,14,15,16,20,21] ?_
     refine Tr.w hcx [] [some 227,some 228,some 229,some 230,some 231,some 232,some 233,some 234] [] rfl rfl rfl ?_ ae
     refine au rfl ?_
     refine Tr.skip ?_
     refine hK29 _ ?_
     rw[show PA q++[aD w i q,bP w i q k]++[aR w i q ((gt (gt w i) q).2++[p])] =PA (q+1) from by have:=bu hPB hPF (T:=[aR w i q ((gt (gt w i) q).2++[p])]) (H:=[]) (if_pos ⟨⟨c2o,c3o⟩,c4o⟩) (if_neg fun e=>e.2 c5o);simpa only[List.append_nil] using this]
     refine Tr.v hcx [1000090] _ [] rfl rfl rfl ?_ ae
     exact ⟨q+1,⟨(by omega),O1⟩,LT,rfl⟩
    have c5o:=c5
    replace c5:=eq_false c5
    have hR2:=ca (gt (gt w i) q).2
    refine Tr.w hcx [1000179] [some 166,some 167,some 168,some 169,some 170,some 171,some 172,some 173,some 174,some 175,some 176,some 177,some 178,some 179,some 23] [] rfl rfl rfl ?_ ae
    refine Tr.k [1,3,9,10,11,14,15,16,20,21,22,23] ?_
    refine Tr.w hcx [] _ [none] rfl rfl rfl ?_ ae
    refine Tr.k [1,3,9,10,11,14,15,16,20,21,22,23,24] ?_
    refine Tr.k [1,3,9,10,11,14,15,16,20,21,22,23,24] ?_
    refine ah hcx [0,1,2,4,5,6,3] ?_
    simp only[aq (ρ:=[0,1,2,4,5,6,3]) (n:=0) (k:=0) (fun _=>rfl),aq (ρ:=[0,1,2,4,5,6,3]) (n:=4) (k:=3) (fun _=>rfl),bJ (ρ:=[0,1,2,4,5,6,3]) (n:=4) (k:=3) (fun _=>rfl)]
    have hR4:=aG (n:=3) (m:=(gt w i).length) hil
    refine ab hcx 6 [.gv 3 w.length (1,46)] ?_
    refine ab hcx 3 (fV 3 i (gt w i).length w) ?_
    rw[a8]
    have hR1:=aP (n:=3) (m:=(gt (gt w i) q).2.length) hc88
    refine bd hcx aW [201] [198] _ [] rfl rfl rfl rfl ?_ ao
    refine Tr.k [1,3,9,10,11,14,15,16,20,21,22,23,24] ?_
    refine ab hcx 2 [.gv 0 w.length (1,46)] ?_
    refine bB hcx aW [212] _ [] rfl rfl rfl rfl ?_ ao
    refine Tr.k [1,3,9,10,11,14,15,16,20,21,23,24] ?_
    refine af fun K45 hK45=>?_
    refine ab hcx 7 (cl pC ((gt (gt w i) q).2++[p])) ?_
    rw[bK _ _ rfl,an]
    refine ab hcx 4 (cl aC ((gt w i).set q ((gt (gt w i) q).1,(gt (gt w i) q).2++[p]))) ?_
    rw[bM _ _ (List.length_set ..).symm]
    refine Tr.bxc 1 (q*2+1) (sl pC .no (p:: (gt (gt w i) q).2)) ((cl aC (gt w i)).set (q*2+1) (sl pC (.own 7) (p:: (gt (gt w i) q).2))) (by simp only[go_sem]) (List.getElem?_set_self (by rw[aw (f:=aC)];omega)) (CLe.noR (sl pC (.own 7) _)) rfl ?_
    rw[List.set_set,an]
    simp only[List.set_cons_succ,List.set_cons_zero]
    refine ab hcx 1 (cl aC ((gt w i).set q ((gt (gt w i) q).1,p:: (gt (gt w i) q).2))) ?_
    try rw[b8 (List.length_set ..).symm]
    refine ab hcx 0 (cl vC (w.set i ((gt w i).set q ((gt (gt w i) q).1,p:: (gt (gt w i) q).2)))) ?_
    rw[bf _ _ (List.length_set ..).symm]
    refine ah hcx [] ?_
    simp only[show ∀L,w.set i ((gt w i).set q ((gt (gt w i) q).1,L)) =aR w i q L from fun _=>rfl]
    refine Tr.w hcx [] [some 217,some 218,some 219,some 220,some 221,some 222] [] rfl rfl rfl ?_ ae
    refine bh rfl ?_
    refine Tr.v hcx [223,1000226] _ [] rfl rfl rfl ?_ ae
    refine hK45 _ ?_
    refine Tr.k [1,3,9,10,11,14,15,16,20,21] ?_
    refine Tr.w hcx [] [some 227,some 228,some 229,some 230,some 231,some 232,some 233,some 234] [] rfl rfl rfl ?_ ae
    refine bh rfl ?_
    refine Tr.v hcx [235,1000238] _ [] rfl rfl rfl ?_ ae
    refine hK29 _ ?_
    rw[show PA q++[aD w i q,bP w i q k]++[aR w i q ((gt (gt w i) q).2++[p])]++[aR w i q (p:: (gt (gt w i) q).2)] =PA (q+1) from by have:=bu hPB hPF (T:=[aR w i q ((gt (gt w i) q).2++[p])]) (H:=[aR w i q (p:: (gt (gt w i) q).2)]) (if_pos ⟨⟨c2o,c3o⟩,c4o⟩) (if_pos ⟨c4o,c5o⟩);simpa only[List.append_nil] using this]
    refine Tr.v hcx [1000090] _ [] rfl rfl rfl ?_ ae
    exact ⟨q+1,⟨(by omega),O1⟩,LT,rfl⟩
   have c2o:=c2
   replace c2:=eq_false c2
   by_cases c4:p.2.1= ((2:Nat):Int)
   ·
    have c4o:=c4
    replace c4:=eq_true c4
    have hR2:=ca (gt (gt w i) q).2
    have c3:=True.intro
    have c5:=True.intro
    refine Tr.w hcx [1000179] [some 166,some 167,some 168,some 169,some 170,some 171,some 172,some 173,some 174,some 175,some 176,some 177,some 178,some 179,some 23] [] rfl rfl rfl ?_ ae
    refine Tr.k [1,3,9,10,11,14,15,16,20,21,22,23] ?_
    refine Tr.w hcx [] _ [none] rfl rfl rfl ?_ ae
    refine Tr.k [1,3,9,10,11,14,15,16,20,21,22,23,24] ?_
    refine Tr.k [1,3,9,10,11,14,15,16,20,21,22,23,24] ?_
    refine ah hcx [0,1,2,4,5,6,3] ?_
    simp only[aq (ρ:=[0,1,2,4,5,6,3]) (n:=0) (k:=0) (fun _=>rfl),aq (ρ:=[0,1,2,4,5,6,3]) (n:=4) (k:=3) (fun _=>rfl),bJ (ρ:=[0,1,2,4,5,6,3]) (n:=4) (k:=3) (fun _=>rfl)]
    have hR4:=aG (n:=3) (m:=(gt w i).length) hil
    refine ab hcx 6 [.gv 3 w.length (1,46)] ?_
    refine ab hcx 3 (fV 3 i (gt w i).length w) ?_
    rw[a8]
    have hR1:=aP (n:=3) (m:=(gt (gt w i) q).2.length) hc88
    refine bd hcx aW [201] [198] _ [] rfl rfl rfl rfl ?_ ao
    refine Tr.k [1,3,9,10,11,14,15,16,20,21,22,23,24] ?_
    refine ab hcx 2 [.gv 0 w.length (1,46)] ?_
    refine bB hcx aW [212] _ [] rfl rfl rfl rfl ?_ ao
    refine Tr.k [1,3,9,10,11,14,15,16,20,21,23,24] ?_
    refine af fun K46 hK46=>?_
    refine ab hcx 7 (cl pC ((gt (gt w i) q).2++[p])) ?_
    rw[bK _ _ rfl,an]
    refine ab hcx 4 (cl aC ((gt w i).set q ((gt (gt w i) q).1,(gt (gt w i) q).2++[p]))) ?_
    rw[bM _ _ (List.length_set ..).symm]
    refine Tr.bxc 1 (q*2+1) (sl pC .no (p:: (gt (gt w i) q).2)) ((cl aC (gt w i)).set (q*2+1) (sl pC (.own 7) (p:: (gt (gt w i) q).2))) (by simp only[go_sem]) (List.getElem?_set_self (by rw[aw (f:=aC)];omega)) (CLe.noR (sl pC (.own 7) _)) rfl ?_
    rw[List.set_set,an]
    simp only[List.set_cons_succ,List.set_cons_zero]
    refine ab hcx 1 (cl aC ((gt w i).set q ((gt (gt w i) q).1,p:: (gt (gt w i) q).2))) ?_
    try rw[b8 (List.length_set ..).symm]
    refine ab hcx 0 (cl vC (w.set i ((gt w i).set q ((gt (gt w i) q).1,p:: (gt (gt w i) q).2)))) ?_
    rw[bf _ _ (List.length_set ..).symm]
    refine ah hcx [] ?_
    simp only[show ∀L,w.set i ((gt w i).set q ((gt (gt w i) q).1,L)) =aR w i q L from fun _=>rfl]
    refine Tr.w hcx [] [some 217,some 218,some 219,some 220,some 221,some 222] [] rfl rfl rfl ?_ ae
    refine au rfl ?_
    refine Tr.skip ?_
    refine hK46 _ ?_
    refine Tr.w hcx [] [some 227,some 228,some 229,some 230,some 231,some 232,some 233,some 234] [] rfl rfl rfl ?_ ae
    refine au rfl ?_
    refine Tr.skip ?_
    refine hK29 _ ?_
    refine Tr.k [1,3,9,10,11,14,15,16] ?_
    rw[show PA q++[aD w i q,bP w i q k] =PA (q+1) from by have:=bu hPB hPF (T:=[]) (H:=[]) (if_neg fun e=>e.2 c4o) (if_neg fun e=>e.1 c4o);simpa only[List.append_nil] using this]
    refine Tr.v hcx [1000090] _ [] rfl rfl rfl ?_ ae
    exact ⟨q+1,⟨(by omega),O1⟩,LT,rfl⟩
   have c4o:=c4
   replace c4:=eq_false c4
   by_cases c5:p.2.1= ((1:Nat):Int)
   ·
    have c5o:=c5
    replace c5:=eq_true c5
    have hR2:=ca (gt (gt w i) q).2
    have c3:=True.intro
    refine Tr.w hcx [1000179] [some 166,some 167,some 168,some 169,some 170,some 171,some 172,some 173,some 174,some 175,some 176,some 177,some 178,some 179,some 23] [] rfl rfl rfl ?_ ae
    refine Tr.k [1,3,9,10,11,14,15,16,20,21,22,23] ?_
    refine Tr.w hcx [] _ [none] rfl rfl rfl ?_ ae
    refine Tr.k [1,3,9,10,11,14,15,16,20,21,22,23,24] ?_
    refine Tr.k [1,3,9,10,11,14,15,16,20,21,22,23,24] ?_
    refine ah hcx [0,1,2,4,5,6,3] ?_
    simp only[aq (ρ:=[0,1,2,4,5,6,3]) (n:=0) (k:=0) (fun _=>rfl),aq (ρ:=[0,1,2,4,5,6,3]) (n:=4) (k:=3) (fun _=>rfl),bJ (ρ:=[0,1,2,4,5,6,3]) (n:=4) (k:=3) (fun _=>rfl)]
    have hR4:=aG (n:=3) (m:=(gt w i).length) hil
    refine ab hcx 6 [.gv 3 w.length (1,46)] ?_
    refine ab hcx 3 (fV 3 i (gt w i).length w) ?_
    rw[a8]
    have hR1:=aP (n:=3) (m:=(gt (gt w i) q).2.length) hc88
    refine bd hcx aW [201] [198] _ [] rfl rfl rfl rfl ?_ ao
    refine Tr.k [1,3,9,10,11,14,15,16,20,21,22,23,24] ?_
    refine ab hcx 2 [.gv 0 w.length (1,46)] ?_
    refine bB hcx aW [212] _ [] rfl rfl rfl rfl ?_ ao
    refine Tr.k [1,3,9,10,11,14,15,16,20,21,23,24] ?_
    refine af fun K47 hK47=>?_
    refine ab hcx 7 (cl pC ((gt (gt w i) q).2++[p])) ?_
    rw[bK _ _ rfl,an]
    refine ab hcx 4 (cl aC ((gt w i).set q ((gt (gt w i) q).1,(gt (gt w i) q).2++[p]))) ?_
    rw[bM _ _ (List.length_set ..).symm]
    refine Tr.bxc 1 (q*2+1) (sl pC .no (p:: (gt (gt w i) q).2)) ((cl aC (gt w i)).set (q*2+1) (sl pC (.own 7) (p:: (gt (gt w i) q).2))) (by simp only[go_sem]) (List.getElem?_set_self (by rw[aw (f:=aC)];omega)) (CLe.noR (sl pC (.own 7) _)) rfl ?_
    rw[List.set_set,an]
    simp only[List.set_cons_succ,List.set_cons_zero]
    refine ab hcx 1 (cl aC ((gt w i).set q ((gt (gt w i) q).1,p:: (gt (gt w i) q).2))) ?_
    try rw[b8 (List.length_set ..).symm]
    refine ab hcx 0 (cl vC (w.set i ((gt w i).set q ((gt (gt w i) q).1,p:: (gt (gt w i) q).2)))) ?_
    rw[bf _ _ (List.length_set ..).symm]
    refine ah hcx [] ?_
    simp only[show ∀L,w.set i ((gt w i).set q ((gt (gt w i) q).1,L)) =aR w i q L from fun _=>rfl]
    refine Tr.w hcx [] [some 217,some 218,some 219,some 220,some 221,some 222] [] rfl rfl rfl ?_ ae
    refine au rfl ?_
    refine Tr.skip ?_
    refine hK47 _ ?_
    refine Tr.w hcx [] [some 227,some 228,some 229,some 230,some 231,some 232,some 233,some 234] [] rfl rfl rfl ?_ ae
    refine au rfl ?_
    refine Tr.skip ?_
    refine hK29 _ ?_
    refine Tr.k [1,3,9,10,11,14,15,16] ?_
    rw[show PA q++[aD w i q,bP w i q k] =PA (q+1) from by have:=bu hPB hPF (T:=[]) (H:=[]) (if_neg fun e=>c2o e.1.1) (if_neg fun e=>e.2 c5o);simpa only[List.append_nil] using this]
    refine Tr.v hcx [1000090] _ [] rfl rfl rfl ?_ ae
    exact ⟨q+1,⟨(by omega),O1⟩,LT,rfl⟩
   have c5o:=c5
   replace c5:=eq_false c5
   have hR2:=ca (gt (gt w i) q).2
   have c3:=True.intro
   refine Tr.w hcx [1000179] [some 166,some 167,some 168,some 169,some 170,some 171,some 172,some 173,some 174,some 175,some 176,some 177,some 178,some 179,some 23] [] rfl rfl rfl ?_ ae
   refine Tr.k [1,3,9,10,11,14,15,16,20,21,22,23] ?_
   refine Tr.w hcx [] _ [none] rfl rfl rfl ?_ ae
   refine Tr.k [1,3,9,10,11,14,15,16,20,21,22,23,24] ?_
   refine Tr.k [1,3,9,10,11,14,15,16,20,21,22,23,24] ?_
   refine ah hcx [0,1,2,4,5,6,3] ?_
   simp only[aq (ρ:=[0,1,2,4,5,6,3]) (n:=0) (k:=0) (fun _=>rfl),aq (ρ:=[0,1,2,4,5,6,3]) (n:=4) (k:=3) (fun _=>rfl),bJ (ρ:=[0,1,2,4,5,6,3]) (n:=4) (k:=3) (fun _=>rfl)]
   have hR4:=aG (n:=3) (m:=(gt w i).length) hil
   refine ab hcx 6 [.gv 3 w.length (1,46)] ?_
   refine ab hcx 3 (fV 3 i (gt w i).length w) ?_
   rw[a8]
   have hR1:=aP (n:=3) (m:=(gt (gt w i) q).2.length) hc88
   refine bd hcx aW [201] [198] _ [] rfl rfl rfl rfl ?_ ao
   refine Tr.k [1,3,9,10,11,14,15,16,20,21,22,23,24] ?_
   refine ab hcx 2 [.gv 0 w.length (1,46)] ?_
   refine bB hcx aW [212] _ [] rfl rfl rfl rfl ?_ ao
   refine Tr.k [1,3,9,10,11,14,15,16,20,21,23,24] ?_
   refine af fun K48 hK48=>?_
   refine ab hcx 7 (cl pC ((gt (gt w i) q).2++[p])) ?_
   rw[bK _ _ rfl,an]
   refine ab hcx 4 (cl aC ((gt w i).set q ((gt (gt w i) q).1,(gt (gt w i) q).2++[p]))) ?_
   rw[bM _ _ (List.length_set ..).symm]
   refine Tr.bxc 1 (q*2+1) (sl pC .no (p:: (gt (gt w i) q).2)) ((cl aC (gt w i)).set (q*2+1) (sl pC (.own 7) (p:: (gt (gt w i) q).2))) (by simp only[go_sem]) (List.getElem?_set_self (by rw[aw (f:=aC)];omega)) (CLe.noR (sl pC (.own 7) _)) rfl ?_
   rw[List.set_set,an]
   simp only[List.set_cons_succ,List.set_cons_zero]
   refine ab hcx 1 (cl aC ((gt w i).set q ((gt (gt w i) q).1,p:: (gt (gt w i) q).2))) ?_
   try rw[b8 (List.length_set ..).symm]
   refine ab hcx 0 (cl vC (w.set i ((gt w i).set q ((gt (gt w i) q).1,p:: (gt (gt w i) q).2)))) ?_
   rw[bf _ _ (List.length_set ..).symm]
   refine ah hcx [] ?_
   simp only[show ∀L,w.set i ((gt w i).set q ((gt (gt w i) q).1,L)) =aR w i q L from fun _=>rfl]
   refine Tr.w hcx [] [some 217,some 218,some 219,some 220,some 221,some 222] [] rfl rfl rfl ?_ ae
   refine au rfl ?_
   refine Tr.skip ?_
   refine hK48 _ ?_
   refine Tr.w hcx [] [some 227,some 228,some 229,some 230,some 231,some 232,some 233,some 234] [] rfl rfl rfl ?_ ae
   refine bh rfl ?_
   refine Tr.v hcx [235,1000238] _ [] rfl rfl rfl ?_ ae
   refine hK29 _ ?_
   refine Tr.k [1,3,9,10,11,14,15,16] ?_
   rw[show PA q++[aD w i q,bP w i q k]++[aR w i q (p:: (gt (gt w i) q).2)] =PA (q+1) from by have:=bu hPB hPF (T:=[]) (H:=[aR w i q (p:: (gt (gt w i) q).2)]) (if_neg fun e=>c2o e.1.1) (if_pos ⟨c4o,c5o⟩);simpa only[List.append_nil] using this]
   refine Tr.v hcx [1000090] _ [] rfl rfl rfl ?_ ae
   exact ⟨q+1,⟨(by omega),O1⟩,LT,rfl⟩
  skip
  refine Tr.w hcx [] _ [] rfl rfl rfl ?_ ae
  refine bh rfl ?_
  refine Tr.exit ?_
  refine hK29 _ ?_
  rw[hPS q c1]
  refine Tr.v hcx [1000090] _ [] rfl rfl rfl ?_ ae
  exact ⟨q+1,⟨(by omega),O1⟩,LT,rfl⟩
 refine Tr.exit ?_
 refine hK27 _ ?_
 refine af fun K49 hK49=>?_
 have hP9:=j5 hPB hPF q
 obtain ⟨P,hP⟩:∃P,PA q=P:=⟨_,rfl⟩
 obtain rfl:q= (gt w i).length:=by omega
 have hPok:=u2 hvs hil hkl hpz (by rw[←hp];exact hnew) hPB hPF
 rw[hP] at hPok hP9 ⊢
 refine Tr.w hcx [] _ [] rfl rfl rfl ?_ ae
 refine Tr.k [14,25] ?_
 refine ax ?_
 refine bz (α:=Nat) (fun a=>[(14,?v14_4),(25,.val (nI a))]) (fun a=>[]) (fun a=>a≤P.length) (fun a=>P.length - a) (0) (Nat.zero_le _) ?le_4 ?hh_4 ?bd_4
 case hh_4=>exact rfl
 case le_4=>exact LT
 rintro z hz
 refine af fun K50 hK50=>?_
 refine Tr.w hcx [] _ [] rfl rfl rfl ?_ ae
 refine bc rfl (fun hc242=>?_) (fun hc242=>?_)
 ·
  have hgz:=hPok _ (ba P z hc242)
  have e12:=(h12 _ hgz.wg.ws hgz.wg.tx hgz.wg.tt hgz.wg.id).trans (by rw[hgz.val])
  refine Tr.skip ?_
  refine hK50 _ ?_
  refine af fun K51 hK51=>?_
  refine ax ?_
  refine Tr.w hcx [] _ [] rfl rfl rfl ?_ ae
  refine au rfl ?_
  refine Tr.skip ?_
  refine hK51 _ ?_
  refine Tr.v hcx [1000244] _ [] rfl rfl rfl ?_ ae
  exact ⟨z+1,⟨(by omega),O1⟩,LT,rfl⟩
 refine Tr.exit ?_
 refine hK49 _ ?_
 refine Tr.w hcx [1000251] _ [] rfl rfl rfl ?_ ae
 exact Tr.ret z0
end Go.Sx
