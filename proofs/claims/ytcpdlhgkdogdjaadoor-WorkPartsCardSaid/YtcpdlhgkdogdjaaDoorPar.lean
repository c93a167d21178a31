/-
   And what follows.
-/
import Derived.Test.YtcpdlhgkdogdjaaDoorRows
import Derived.Test.YtcpdlhgkdogdjaaDoorCards
import Derived.Test.YtcpdlhgkdogdjaaDoorTie
import Derived.SevenTiedAt
import Derived.Test.YtcpdlhgkdogdjaaDoorPaq
import Derived.Test.YtcpdlhgkdogdjaaDoorPal
import Derived.Test.YtcpdlhgkdogdjaaDoorPam
import Derived.Test.YtcpdlhgkdogdjaaDoorPan
import Derived.Test.YtcpdlhgkdogdjaaDoorPao
import Derived.Test.YtcpdlhgkdogdjaaDoorPai
set_option linter.unusedSimpArgs false
set_option linter.unusedVariables false
namespace Go.Sx
open Go.RowKit Go.Proofs
section
variable {gl:Nat→C} {pu:Nat→List C→Option C}
noncomputable def DY (pu:Nat→List C→Option C):Nat→List C→Option C:=fun f xs=>if f=20 then none else pu f xs
theorem MG {M:Nat}(hcx:CxOK (aS gl M pu)):CxOK (aS gl M (DY pu)):=by
 refine ⟨hcx.glo,fun f xs c hc h=>?_,(fun _ _ _ _ _ h=>by cases h),hcx.km⟩
 have hc:DY pu f xs=some c:=hc
 unfold DY at hc
 split at hc
 . cases hc
 . exact hcx.pu f xs c hc h
theorem l4 {f:Nat}(h:f≠20)(xs:List C):DY pu f xs=pu f xs:=if_neg h
theorem MH (n v m:Nat)(w:aj):fx (some (fV n v m w)) =true:=by unfold fx;rw[pT];rfl
theorem MI (l:bY):fx (some (cl aC l)) =true:=by unfold fx;rw[gn];rfl
theorem MJ {w:aj}(h:VS w){i j:Nat}(hi:i< w.length):WG (aD w i j):=by
 by_cases hj:j< (gt w i).length
 . exact (h.cut hi hj).o.wg
 . have e:aD w i j=w:=by
    unfold aD
    rw[List.take_of_length_le (by omega),List.drop_of_length_le (by omega),List.append_nil,Mp]
   rw[e];exact h.o.wg
end
theorem RA {gl:Nat→C}{M:Nat}{pu:Nat→List C→Option C}(hcx:CxOK (aS gl M pu))(h18:∀l:List Int,LI l→pu 18 [sl iC .no l] =some (.agg [sl vC .no (js l)]))(h19:∀ (n:Int) (m:Nat),-9223372036854775808≤n∧n≤9223372036854775807∧0< m∧m≤9223372036854775807→pu 19 [.val (.int .i64 n),.val (nI m)] =some (.val (nI (dQ n m))))(h21:∀ (l:List Int) (k:Nat) (id:ID),LI l→k≤900→pu 21 [sl iC .no l,.val (nI k),.agg (iD id)] =some (.agg (pC (fT l k id))))(h12:∀w:aj,WS w→(∀i,i< (aK w).length→(gt (aK w) i).2.2.2.2.1.length≤1000000)→(∀v a,v< w.length→a< (gt w v).length→(gt (gt w v) a).1.length≤1000000)→(∀i,i< (aK w).length→b9 (gt (aK w) i).2.1)→pu 12 [.agg [sl vC .no w]] =some (.val (nI (ec w))))(h17:pu 17 [] =some (.val (.bool true)))(l:List Int)(m:List Int)(vv aa:Int)(hl:LI l)(hm:LI m)(hvv: -9223372036854775808≤vv∧vv≤9223372036854775807)(haa: -9223372036854775808≤aa∧aa≤9223372036854775807):FC Tryd.prog gl 4 [sl iC .no l,sl iC .no m,.val (.int .i64 vv),.val (.int .i64 aa)] [] (.val (.bool true)) []:=by
 have hvs:=zY l
 have h0w:=pR l
 obtain ⟨w,hW⟩:∃w,js l=w:=⟨_,rfl⟩
 rw[hW] at hvs h0w
 obtain ⟨i,hi⟩:∃i,i=dQ vv w.length:=⟨_,rfl⟩
 obtain ⟨k,hk⟩:∃k,k=dQ (vv.tdiv ((4:Nat):Int)) w.length:=⟨_,rfl⟩
 obtain ⟨j,hj⟩:∃j,j=dQ aa (gt w i).length:=⟨_,rfl⟩
 have hil:i< w.length:=by rw[hi];exact jp vv (by omega)
 have hc:=MJ (j:=j) hvs hil
 have hcq:=MG hcx
 have look:=wx hcq w i j k hvs.o.wg hc (fun _ _ _=>none)
 have hcm:=Cp (M:=M) (oK hcq) (mn hcq w i j k hvs.o.wg hc)
 have oN:fx none=true:=rfl
 have oE:fx (some []) =true:=rfl
 have a1:=look [none] (OkH.cons oN OkH.nil) w w.length 0 rfl
 have a2:=look [some [],none] (OkH.cons oE (OkH.cons oN OkH.nil)) w i (gt w i).length rfl
 have a3:=look [some [],some [],none] (OkH.cons oE (OkH.cons oE (OkH.cons oN OkH.nil))) (aD w i j) k (gt (aD w i j) k).length rfl
 have a4:=look [some (fV 0 i (gt w i).length w),some (cl aC (gt w i)),some [.gv 0 w.length (1,46)],none] (OkH.cons (MH ..) (OkH.cons (MI ..) (OkH.cons rfl (OkH.cons oN OkH.nil)))) w i j rfl
 simp only[HE,HD,HC] at a1 a2 a3
 refine Qz hcm l m vv aa hl hm hvv haa w hW i k j hi hk hj (fun xs=>if_pos rfl) a1 a2 a3 a4 ?_ ?_ ?_ ?_ ?_
 . intros;rw[l4 (by decide)];apply h18<;>assumption
 . intros;rw[l4 (by decide)];apply h19<;>assumption
 . intros;rw[l4 (by decide)];apply h21<;>assumption
 . intros;rw[l4 (by decide)];apply h12<;>assumption
 . rw[l4 (by decide)];exact h17
end Go.Sx
namespace Go.Sx.T4
open Go.RowKit Go.Proofs Go.Sx
def MK:Nat→List C→Option C:=fun _ _=>none
theorem Pf {gl:Nat→C}(hgn:∀g,ag 0 (gl g) =true)(hg0:gl 0= .kp (iD (-1,0,0)))(M:Nat):CxOK (aS gl M MK):=CxOK.zero hgn
theorem QA:∀ (g:Nat)(xs:List C),dh xs=true→MK g xs=none:=Bz
abbrev D1:= {q0:Int×Nat // (-9223372036854775808≤(q0.1)∧(q0.1)≤9223372036854775807∧0< (q0.2)∧(q0.2)≤9223372036854775807)}
def p7 (q0:D1):List C:=[.val (.int .i64 (q0.1.1)),.val (nI (q0.1.2))]
noncomputable def wy (q0:D1):C:= .val (nI (dQ (q0.1.1) (q0.1.2)))
noncomputable def z4:Nat→List C→Option C:=Sx.ext MK 19 (bZ p7 wy)
theorem Pg (x:D1):noRefs 0 (p7 x) =true:=by
 simp only[p7,aV,bj,bl,bE,aI,aF,aE,aJ,aX,Bool.and_self,Bool.and_true,bF,a9]
theorem RB (x y:D1)(h:p7 x=p7 y):wy x=wy y:=by
 simp only[p7,List.cons.injEq,C.val.injEq,C.agg.injEq,C.kp.injEq,C.fn.injEq,bO,cn,cy,ct,bX,co,cg,cz,cA,Value.int.injEq,Value.bool.injEq,true_and,and_true] at h;simp only[wy,h]
theorem Ph {gl:Nat→C}(hgn:∀g,ag 0 (gl g) =true)(hg0:gl 0= .kp (iD (-1,0,0)))(M:Nat):CxOK (aS gl M z4):=bq (N:=0) (Pf hgn hg0 0) Pg fun q0=>PF (Pf hgn hg0 0) ((q0.1.1)) ((q0.1.2)) q0.2
theorem QB:∀ (g:Nat)(xs:List C),dh xs=true→z4 g xs=none:=dT QA Pg
theorem ML (n:Int)(m:Nat)(hc0: -9223372036854775808≤n∧n≤9223372036854775807∧0< m∧m≤9223372036854775807):z4 19 [.val (.int .i64 n),.val (nI m)] =some (.val (nI (dQ n m))):=
 (bN _).trans (bn RB ⟨(n,m),hc0⟩)
abbrev D2:= {q0: (List Int)×Nat×Nat // (LI (q0.1))∧((q0.2.1)≤1000000)∧(0< (q0.2.2)∧(q0.2.2)≤9223372036854775807)}
def p8 (q0:D2):List C:=[sl iC .no (q0.1.1),.val (nI (q0.1.2.1)),.val (nI (q0.1.2.2))]
noncomputable def wA (q0:D2):C:= .val (nI (bR (q0.1.1) (q0.1.2.1) (q0.1.2.2)))
noncomputable def z5:Nat→List C→Option C:=Sx.ext z4 65 (bZ p8 wA)
theorem Pi (x:D2):noRefs 0 (p8 x) =true:=by
 simp only[p8,aV,bj,bl,bE,aI,aF,aE,aJ,aX,Bool.and_self,Bool.and_true,bF,a9]
theorem RC (x y:D2)(h:p8 x=p8 y):wA x=wA y:=by
 simp only[p8,List.cons.injEq,C.val.injEq,C.agg.injEq,C.kp.injEq,C.fn.injEq,bO,cn,cy,ct,bX,co,cg,cz,cA,Value.int.injEq,Value.bool.injEq,true_and,and_true] at h;simp only[wA,h]
theorem Pj {gl:Nat→C}(hgn:∀g,ag 0 (gl g) =true)(hg0:gl 0= .kp (iD (-1,0,0)))(M:Nat):CxOK (aS gl M z5):=bq (N:=0) (Ph hgn hg0 0) Pi fun q0=>PH (Ph hgn hg0 0) (by intros;apply ML<;>first|assumption|omega) ((q0.1.1)) ((q0.1.2.1)) ((q0.1.2.2)) q0.2.1 q0.2.2.1 q0.2.2.2
theorem QC:∀ (g:Nat)(xs:List C),dh xs=true→z5 g xs=none:=dT QB Pi
theorem Dg (l:List Int)(i:Nat)(m:Nat)(hc0:LI l)(hc1:i≤1000000)(hc2:0< m∧m≤9223372036854775807):z5 65 [sl iC .no l,.val (nI i),.val (nI m)] =some (.val (nI (bR l i m))):=
 (bN _).trans (bn RC ⟨(l,i,m),⟨hc0,hc1,hc2⟩⟩)
abbrev D3:= {q0: (List UInt8) // ((q0).length≤1000000)}
def p9 (q0:D3):List C:=[.val (str (q0.1))]
noncomputable def wB (q0:D3):C:= .val (str (kF (q0.1)))
noncomputable def z6:Nat→List C→Option C:=Sx.ext z5 121 (bZ p9 wB)
theorem Pk (x:D3):noRefs 0 (p9 x) =true:=by
 simp only[p9,aV,bj,bl,bE,aI,aF,aE,aJ,aX,Bool.and_self,Bool.and_true,bF,a9]
theorem RD (x y:D3)(h:p9 x=p9 y):wB x=wB y:=by
 simp only[p9,List.cons.injEq,C.val.injEq,C.agg.injEq,C.kp.injEq,C.fn.injEq,bO,cn,cy,ct,bX,co,cg,cz,cA,Value.int.injEq,Value.bool.injEq,true_and,and_true] at h;simp only[wB,h]
theorem Pl {gl:Nat→C}(hgn:∀g,ag 0 (gl g) =true)(hg0:gl 0= .kp (iD (-1,0,0)))(M:Nat):CxOK (aS gl M z6):=bq (N:=0) (Pj hgn hg0 0) Pk fun q0=>Nl (Pj hgn hg0 0) ((q0.1)) q0.2
theorem QD:∀ (g:Nat)(xs:List C),dh xs=true→z6 g xs=none:=dT QC Pk
theorem QE (w:List UInt8)(hc0:w.length≤1000000):z6 121 [.val (str w)] =some (.val (str (kF w))):=
 (bN _).trans (bn RD ⟨(w),hc0⟩)
abbrev D4:= {q0: (List UInt8)×Nat // ((q0.1).length≤1000000)∧((q0.2)≤1000000)}
def qe (q0:D4):List C:=[.val (str (q0.1.1)),.val (nI (q0.1.2))]
noncomputable def wE (q0:D4):C:= .val (str (jq (q0.1.1) (q0.1.2)))
noncomputable def z7:Nat→List C→Option C:=Sx.ext z6 101 (bZ qe wE)
theorem Pm (x:D4):noRefs 0 (qe x) =true:=by
 simp only[qe,aV,bj,bl,bE,aI,aF,aE,aJ,aX,Bool.and_self,Bool.and_true,bF,a9]
theorem RE (x y:D4)(h:qe x=qe y):wE x=wE y:=by
 simp only[qe,List.cons.injEq,C.val.injEq,C.agg.injEq,C.kp.injEq,C.fn.injEq,bO,cn,cy,ct,bX,co,cg,cz,cA,Value.int.injEq,Value.bool.injEq,true_and,and_true] at h;simp only[wE,h]
theorem Pn {gl:Nat→C}(hgn:∀g,ag 0 (gl g) =true)(hg0:gl 0= .kp (iD (-1,0,0)))(M:Nat):CxOK (aS gl M z7):=bq (N:=0) (Pl hgn hg0 0) Pm fun q0=>Nm (Pl hgn hg0 0) (by intros;apply QE<;>first|assumption|omega) ((q0.1.1)) ((q0.1.2)) q0.2.1 q0.2.2
theorem QF:∀ (g:Nat)(xs:List C),dh xs=true→z7 g xs=none:=dT QD Pm
theorem QG (w:List UInt8)(n:Nat)(hc0:w.length≤1000000)(hc1:n≤1000000):z7 101 [.val (str w),.val (nI n)] =some (.val (str (jq w n))):=
 (bN _).trans (bn RE ⟨(w,n),⟨hc0,hc1⟩⟩)
abbrev D5:= {q0: (List Int)×Nat // (LI (q0.1))∧((q0.2)≤1000)}
def qf (q0:D5):List C:=[sl iC .no (q0.1.1),.val (nI (q0.1.2))]
noncomputable def wH (q0:D5):C:= .val (str (fj (q0.1.1) (q0.1.2)))
noncomputable def z8:Nat→List C→Option C:=Sx.ext z7 66 (bZ qf wH)
theorem Po (x:D5):noRefs 0 (qf x) =true:=by
 simp only[qf,aV,bj,bl,bE,aI,aF,aE,aJ,aX,Bool.and_self,Bool.and_true,bF,a9]
theorem RF (x y:D5)(h:qf x=qf y):wH x=wH y:=by
 simp only[qf,List.cons.injEq,C.val.injEq,C.agg.injEq,C.kp.injEq,C.fn.injEq,bO,cn,cy,ct,bX,co,cg,cz,cA,Value.int.injEq,Value.bool.injEq,true_and,and_true] at h;simp only[wH,h]
theorem Pp {gl:Nat→C}(hgn:∀g,ag 0 (gl g) =true)(hg0:gl 0= .kp (iD (-1,0,0)))(M:Nat):CxOK (aS gl M z8):=bq (N:=0) (Pn hgn hg0 0) Po fun q0=>PI (Pn hgn hg0 0) (by intros;(iterate 2 refine (ay (by decide) _).trans ?_);apply Dg<;>first|assumption|omega) (by intros;apply QG<;>first|assumption|omega) ((q0.1.1)) ((q0.1.2)) q0.2.1 q0.2.2
theorem QH:∀ (g:Nat)(xs:List C),dh xs=true→z8 g xs=none:=dT QF Po
theorem MM (l:List Int)(k:Nat)(hc0:LI l)(hc1:k≤1000):z8 66 [sl iC .no l,.val (nI k)] =some (.val (str (fj l k))):=
 (bN _).trans (bn RF ⟨(l,k),⟨hc0,hc1⟩⟩)
abbrev D6:= {q0:Unit // True}
def tJ (q0:D6):List C:=[]
noncomputable def Dh (q0:D6):C:= .agg [.val (.int .i64 (-1)),.val (nI 0),.val (nI 0)]
noncomputable def z9:Nat→List C→Option C:=Sx.ext z8 67 (bZ tJ Dh)
theorem Pq (x:D6):noRefs 0 (tJ x) =true:=by
 simp only[tJ,aV,bj,bl,bE,aI,aF,aE,aJ,aX,Bool.and_self,Bool.and_true,bF,a9]
theorem RG (x y:D6)(h:tJ x=tJ y):Dh x=Dh y:=by
 rfl
theorem Pr {gl:Nat→C}(hgn:∀g,ag 0 (gl g) =true)(hg0:gl 0= .kp (iD (-1,0,0)))(M:Nat):CxOK (aS gl M z9):=bq (N:=0) (Pp hgn hg0 0) Pq fun q0=>P2 (Pp hgn hg0 0)
theorem QI:∀ (g:Nat)(xs:List C),dh xs=true→z9 g xs=none:=dT QH Pq
theorem QJ:z9 67 [] =some (.agg [.val (.int .i64 (-1)),.val (nI 0),.val (nI 0)]):=
 (bN _).trans (bn RG ⟨(),trivial⟩)
abbrev D7:= {q0: (List Int)×Nat×ID // (LI (q0.1))∧((q0.2.1)≤900)}
def qg (q0:D7):List C:=[sl iC .no (q0.1.1),.val (nI (q0.1.2.1)),.agg (iD (q0.1.2.2))]
noncomputable def wI (q0:D7):C:= .agg (pC (fT (q0.1.1) (q0.1.2.1) (q0.1.2.2)))
noncomputable def Aa:Nat→List C→Option C:=Sx.ext z9 21 (bZ qg wI)
theorem Ps (x:D7):noRefs 0 (qg x) =true:=by
 simp only[qg,aV,bj,bl,bE,aI,aF,aE,aJ,aX,Bool.and_self,Bool.and_true,bF,a9]
theorem RH (x y:D7)(h:qg x=qg y):wI x=wI y:=by
 simp only[qg,List.cons.injEq,C.val.injEq,C.agg.injEq,C.kp.injEq,C.fn.injEq,bO,cn,cy,ct,bX,co,cg,cz,cA,Value.int.injEq,Value.bool.injEq,true_and,and_true] at h;simp only[wI,h]
theorem Pt {gl:Nat→C}(hgn:∀g,ag 0 (gl g) =true)(hg0:gl 0= .kp (iD (-1,0,0)))(M:Nat):CxOK (aS gl M Aa):=bq (N:=0) (Pr hgn hg0 0) Ps fun q0=>P3 (Pr hgn hg0 0) (by intros;(iterate 4 refine (ay (by decide) _).trans ?_);apply Dg<;>first|assumption|omega) (by intros;(iterate 1 refine (ay (by decide) _).trans ?_);apply MM<;>first|assumption|omega) (by intros;apply QJ<;>first|assumption|omega) ((q0.1.1)) ((q0.1.2.1)) ((q0.1.2.2)) q0.2.1 q0.2.2
theorem QK:∀ (g:Nat)(xs:List C),dh xs=true→Aa g xs=none:=dT QI Ps
theorem MN (l:List Int)(k:Nat)(id:ID)(hc0:LI l)(hc1:k≤900):Aa 21 [sl iC .no l,.val (nI k),.agg (iD id)] =some (.agg (pC (fT l k id))):=
 (bN _).trans (bn RH ⟨(l,k,id),⟨hc0,hc1⟩⟩)
abbrev D8:= {q0: (List Int) // (LI (q0))}
def qh (q0:D8):List C:=[sl iC .no (q0.1)]
noncomputable def wJ (q0:D8):C:= .agg [sl vC .no (js (q0.1))]
noncomputable def Ab:Nat→List C→Option C:=Sx.ext Aa 18 (bZ qh wJ)
theorem Pu (x:D8):noRefs 0 (qh x) =true:=by
 simp only[qh,aV,bj,bl,bE,aI,aF,aE,aJ,aX,Bool.and_self,Bool.and_true,bF,a9]
theorem RI (x y:D8)(h:qh x=qh y):wJ x=wJ y:=by
 simp only[qh,List.cons.injEq,C.val.injEq,C.agg.injEq,C.kp.injEq,C.fn.injEq,bO,cn,cy,ct,bX,co,cg,cz,cA,Value.int.injEq,Value.bool.injEq,true_and,and_true] at h;simp only[wJ,h]
theorem Pv {gl:Nat→C}(hgn:∀g,ag 0 (gl g) =true)(hg0:gl 0= .kp (iD (-1,0,0)))(M:Nat):CxOK (aS gl M Ab):=bq (N:=0) (Pt hgn hg0 0) Pu fun q0=>P5 (Pt hgn hg0 0) (by intros;(iterate 5 refine (ay (by decide) _).trans ?_);apply Dg<;>first|assumption|omega) (by intros;(iterate 2 refine (ay (by decide) _).trans ?_);apply MM<;>first|assumption|omega) (by intros;apply MN<;>first|assumption|omega) ((q0.1)) q0.2
theorem QL:∀ (g:Nat)(xs:List C),dh xs=true→Ab g xs=none:=dT QK Pu
theorem QM (l:List Int)(hc0:LI l):Ab 18 [sl iC .no l] =some (.agg [sl vC .no (js l)]):=
 (bN _).trans (bn RI ⟨(l),hc0⟩)
abbrev D9:= {q0:aj // (WS (q0))}
def qi (q0:D9):List C:=[.agg [sl vC .no (q0.1)]]
noncomputable def wK (q0:D9):C:= .val (.bool (du (q0.1)))
noncomputable def Ac:Nat→List C→Option C:=Sx.ext Ab 52 (bZ qi wK)
theorem Pw (x:D9):noRefs 0 (qi x) =true:=by
 simp only[qi,aV,bj,bl,bE,aI,aF,aE,aJ,aX,Bool.and_self,Bool.and_true,bF,a9]
theorem RJ (x y:D9)(h:qi x=qi y):wK x=wK y:=by
 simp only[qi,List.cons.injEq,C.val.injEq,C.agg.injEq,C.kp.injEq,C.fn.injEq,bO,cn,cy,ct,bX,co,cg,cz,cA,Value.int.injEq,Value.bool.injEq,true_and,and_true] at h;simp only[wK,h]
theorem Px {gl:Nat→C}(hgn:∀g,ag 0 (gl g) =true)(hg0:gl 0= .kp (iD (-1,0,0)))(M:Nat):CxOK (aS gl M Ac):=bq (N:=0) (Pv hgn hg0 0) Pw fun q0=>P8 (Pv hgn hg0 0) ((q0.1)) q0.2
theorem QN:∀ (g:Nat)(xs:List C),dh xs=true→Ac g xs=none:=dT QL Pw
theorem QO (w:aj)(hc0:WS w):Ac 52 [.agg [sl vC .no w]] =some (.val (.bool (du w))):=
 (bN _).trans (bn RJ ⟨(w),hc0⟩)
abbrev DZ:= {q0:aj // True}
def mq (q0:DZ):List C:=[.agg [sl vC .no (q0.1)]]
noncomputable def rp (q0:DZ):C:= .fn 93 [.kp [sl vC .no (q0.1)]]
noncomputable def tK:Nat→List C→Option C:=Sx.ext Ac 53 (bZ mq rp)
theorem MO (x:DZ):noRefs 0 (mq x) =true:=by
 simp only[mq,aV,bj,bl,bE,aI,aF,aE,aJ,aX,Bool.and_self,Bool.and_true,bF,a9]
theorem QP (x y:DZ)(h:mq x=mq y):rp x=rp y:=by
 simp only[mq,List.cons.injEq,C.val.injEq,C.agg.injEq,C.kp.injEq,C.fn.injEq,bO,cn,cy,ct,bX,co,cg,cz,cA,Value.int.injEq,Value.bool.injEq,true_and,and_true] at h;simp only[rp,h]
theorem MP {gl:Nat→C}(hgn:∀g,ag 0 (gl g) =true)(hg0:gl 0= .kp (iD (-1,0,0)))(M:Nat):CxOK (aS gl M tK):=bq (N:=0) (Px hgn hg0 0) MO fun q0=>Qw (Px hgn hg0 0) ((q0.1))
theorem Ot:∀ (g:Nat)(xs:List C),dh xs=true→tK g xs=none:=dT QN MO
theorem wL (w:aj):tK 53 [.agg [sl vC .no w]] =some (.fn 93 [.kp [sl vC .no w]]):=
 (bN _).trans (bn QP ⟨(w),trivial⟩)
abbrev Ea:= {q0:ID // True}
def mr (q0:Ea):List C:=[.agg (iD (q0.1))]
noncomputable def rq (q0:Ea):C:= .val (.bool (gO (q0.1)))
noncomputable def tL:Nat→List C→Option C:=Sx.ext tK 94 (bZ mr rq)
theorem MQ (x:Ea):noRefs 0 (mr x) =true:=by
 simp only[mr,aV,bj,bl,bE,aI,aF,aE,aJ,aX,Bool.and_self,Bool.and_true,bF,a9]
theorem QQ (x y:Ea)(h:mr x=mr y):rq x=rq y:=by
 simp only[mr,List.cons.injEq,C.val.injEq,C.agg.injEq,C.kp.injEq,C.fn.injEq,bO,cn,cy,ct,bX,co,cg,cz,cA,Value.int.injEq,Value.bool.injEq,true_and,and_true] at h;simp only[rq,h]
theorem MR {gl:Nat→C}(hgn:∀g,ag 0 (gl g) =true)(hg0:gl 0= .kp (iD (-1,0,0)))(M:Nat):CxOK (aS gl M tL):=bq (N:=0) (MP hgn hg0 0) MQ fun q0=>P6 (MP hgn hg0 0) ((q0.1))
theorem Ou:∀ (g:Nat)(xs:List C),dh xs=true→tL g xs=none:=dT Ot MQ
theorem Ov (x:ID):tL 94 [.agg (iD x)] =some (.val (.bool (gO x))):=
 (bN _).trans (bn QQ ⟨(x),trivial⟩)
abbrev Eb:= {q0:UInt8 // True}
def ms (q0:Eb):List C:=[.val (w8 (q0.1))]
noncomputable def rr (q0:Eb):C:= .val (nI (kd (q0.1)))
noncomputable def tM:Nat→List C→Option C:=Sx.ext tL 100 (bZ ms rr)
theorem MS (x:Eb):noRefs 0 (ms x) =true:=by
 simp only[ms,aV,bj,bl,bE,aI,aF,aE,aJ,aX,Bool.and_self,Bool.and_true,bF,a9]
theorem QR (x y:Eb)(h:ms x=ms y):rr x=rr y:=by
 simp only[ms,List.cons.injEq,C.val.injEq,C.agg.injEq,C.kp.injEq,C.fn.injEq,bO,cn,cy,ct,bX,co,cg,cz,cA,Value.int.injEq,Value.bool.injEq,true_and,and_true] at h;simp only[rr,h]
theorem MT {gl:Nat→C}(hgn:∀g,ag 0 (gl g) =true)(hg0:gl 0= .kp (iD (-1,0,0)))(M:Nat):CxOK (aS gl M tM):=bq (N:=0) (MR hgn hg0 0) MS fun q0=>Nj (MR hgn hg0 0) ((q0.1))
theorem Ox:∀ (g:Nat)(xs:List C),dh xs=true→tM g xs=none:=dT Ou MS
theorem Ec (c:UInt8):tM 100 [.val (w8 c)] =some (.val (nI (kd c))):=
 (bN _).trans (bn QR ⟨(c),trivial⟩)
abbrev Ed:= {q0: (List UInt8)×Nat // ((q0.2) < (q0.1).length∧(q0.1).length≤1000000)}
def mt (q0:Ed):List C:=[.val (nI (q0.1.2)),.kp [.val (str (q0.1.1))]]
noncomputable def rt (q0:Ed):C:= .val (nI (dK (q0.1.1) (q0.1.2)))
noncomputable def tN:Nat→List C→Option C:=Sx.ext tM 99 (bZ mt rt)
theorem MU (x:Ed):noRefs 0 (mt x) =true:=by
 simp only[mt,aV,bj,bl,bE,aI,aF,aE,aJ,aX,Bool.and_self,Bool.and_true,bF,a9]
theorem QS (x y:Ed)(h:mt x=mt y):rt x=rt y:=by
 simp only[mt,List.cons.injEq,C.val.injEq,C.agg.injEq,C.kp.injEq,C.fn.injEq,bO,cn,cy,ct,bX,co,cg,cz,cA,Value.int.injEq,Value.bool.injEq,true_and,and_true] at h;simp only[rt,h]
theorem MV {gl:Nat→C}(hgn:∀g,ag 0 (gl g) =true)(hg0:gl 0= .kp (iD (-1,0,0)))(M:Nat):CxOK (aS gl M tN):=bq (N:=0) (MT hgn hg0 0) MU fun q0=>Py (MT hgn hg0 0) (by intros;apply Ec<;>first|assumption|omega) ((q0.1.1)) ((q0.1.2)) q0.2
theorem Ee:∀ (g:Nat)(xs:List C),dh xs=true→tN g xs=none:=dT Ox MU
theorem Oy (s:List UInt8)(i:Nat)(hc0:i< s.length∧s.length≤1000000):tN 99 [.val (nI i),.kp [.val (str s)]] =some (.val (nI (dK s i))):=
 (bN _).trans (bn QS ⟨(s,i),hc0⟩)
abbrev Ef:= {q0: (List UInt8) // ((q0).length≤1000000)}
def mw (q0:Ef):List C:=[.val (str (q0.1))]
noncomputable def ru (q0:Ef):C:=sl tC (.own 3) (d9 (q0.1))
noncomputable def tO:Nat→List C→Option C:=Sx.ext tN 62 (bZ mw ru)
theorem MW (x:Ef):noRefs 0 (mw x) =true:=by
 simp only[mw,aV,bj,bl,bE,aI,aF,aE,aJ,aX,Bool.and_self,Bool.and_true,bF,a9]
theorem QT (x y:Ef)(h:mw x=mw y):ru x=ru y:=by
 simp only[mw,List.cons.injEq,C.val.injEq,C.agg.injEq,C.kp.injEq,C.fn.injEq,bO,cn,cy,ct,bX,co,cg,cz,cA,Value.int.injEq,Value.bool.injEq,true_and,and_true] at h;simp only[ru,h]
theorem C5 {gl:Nat→C}(hgn:∀g,ag 0 (gl g) =true)(hg0:gl 0= .kp (iD (-1,0,0)))(M:Nat):CxOK (aS gl M tO):=bq (N:=0) (MV hgn hg0 0) MW fun q0=>Pz (MV hgn hg0 0) (by intros;apply Oy<;>first|assumption|omega) (by intros;(iterate 1 refine (ay (by decide) _).trans ?_);apply Ec<;>first|assumption|omega) Ee ((q0.1)) q0.2
theorem Oz:∀ (g:Nat)(xs:List C),dh xs=true→tO g xs=none:=dT Ee MW
theorem Eg (s:List UInt8)(hc0:s.length≤1000000):tO 62 [.val (str s)] =some (sl tC (.own 3) (d9 s)):=
 (bN _).trans (bn QT ⟨(s),hc0⟩)
abbrev Eh:= {q0: (List UInt8)×Nat // ((q0.2) < (q0.1).length∧(q0.1).length≤1000000)}
def mz (q0:Eh):List C:=[.val (nI (q0.1.2)),.kp [.val (str (q0.1.1))]]
noncomputable def rx (q0:Eh):C:= .val (.bool (g4 (q0.1.1) (q0.1.2)))
noncomputable def tP:Nat→List C→Option C:=Sx.ext tO 61 (bZ mz rx)
theorem MX (x:Eh):noRefs 0 (mz x) =true:=by
 simp only[mz,aV,bj,bl,bE,aI,aF,aE,aJ,aX,Bool.and_self,Bool.and_true,bF,a9]
theorem QU (x y:Eh)(h:mz x=mz y):rx x=rx y:=by
 simp only[mz,List.cons.injEq,C.val.injEq,C.agg.injEq,C.kp.injEq,C.fn.injEq,bO,cn,cy,ct,bX,co,cg,cz,cA,Value.int.injEq,Value.bool.injEq,true_and,and_true] at h;simp only[rx,h]
theorem MY {gl:Nat→C}(hgn:∀g,ag 0 (gl g) =true)(hg0:gl 0= .kp (iD (-1,0,0)))(M:Nat):CxOK (aS gl M tP):=bq (N:=0) (C5 hgn hg0 0) MX fun q0=>PD (C5 hgn hg0 0) ((q0.1.1)) ((q0.1.2)) q0.2
theorem OA:∀ (g:Nat)(xs:List C),dh xs=true→tP g xs=none:=dT Oz MX
theorem OB (s:List UInt8)(i:Nat)(hc0:i< s.length∧s.length≤1000000):tP 61 [.val (nI i),.kp [.val (str s)]] =some (.val (.bool (g4 s i))):=
 (bN _).trans (bn QU ⟨(s,i),hc0⟩)
abbrev Ei:= {q0: (List UInt8) // ((q0).length≤1000000)}
def mA (q0:Ei):List C:=[.val (str (q0.1))]
noncomputable def ry (q0:Ei):C:= .val (nI (dN (q0.1)))
noncomputable def wM:Nat→List C→Option C:=Sx.ext tP 15 (bZ mA ry)
theorem QV (x:Ei):noRefs 0 (mA x) =true:=by
 simp only[mA,aV,bj,bl,bE,aI,aF,aE,aJ,aX,Bool.and_self,Bool.and_true,bF,a9]
theorem QW (x y:Ei)(h:mA x=mA y):ry x=ry y:=by
 simp only[mA,List.cons.injEq,C.val.injEq,C.agg.injEq,C.kp.injEq,C.fn.injEq,bO,cn,cy,ct,bX,co,cg,cz,cA,Value.int.injEq,Value.bool.injEq,true_and,and_true] at h;simp only[ry,h]
theorem MZ {gl:Nat→C}(hgn:∀g,ag 0 (gl g) =true)(hg0:gl 0= .kp (iD (-1,0,0)))(M:Nat):CxOK (aS gl M wM):=bq (N:=0) (MY hgn hg0 0) QV fun q0=>PE (MY hgn hg0 0) (by intros;(iterate 1 refine (ay (by decide) _).trans ?_);apply Eg<;>first|assumption|omega) (by intros;apply OB<;>first|assumption|omega) OA ((q0.1)) q0.2
theorem Ej (s:List UInt8)(hc0:s.length≤1000000):wM 15 [.val (str s)] =some (.val (nI (dN s))):=
 (bN _).trans (bn QW ⟨(s),hc0⟩)
abbrev Ek:= {q0: (List Tok)×Nat // ((q0.1).length≤1000000)}
def mB (q0:Ek):List C:=[sl tC .no (q0.1.1),.val (nI (q0.1.2))]
noncomputable def rz (q0:Ek):C:=sl nC (.own 1) (mW (q0.1.2) (q0.1.1))
noncomputable def wN:Nat→List C→Option C:=Sx.ext wM 63 (bZ mB rz)
theorem QX (x:Ek):noRefs 0 (mB x) =true:=by
 simp only[mB,aV,bj,bl,bE,aI,aF,aE,aJ,aX,Bool.and_self,Bool.and_true,bF,a9]
theorem QY (x y:Ek)(h:mB x=mB y):rz x=rz y:=by
 simp only[mB,List.cons.injEq,C.val.injEq,C.agg.injEq,C.kp.injEq,C.fn.injEq,bO,cn,cy,ct,bX,co,cg,cz,cA,Value.int.injEq,Value.bool.injEq,true_and,and_true] at h;simp only[rz,h]
theorem M1 {gl:Nat→C}(hgn:∀g,ag 0 (gl g) =true)(hg0:gl 0= .kp (iD (-1,0,0)))(M:Nat):CxOK (aS gl M wN):=bq (N:=0) (MZ hgn hg0 0) QX fun q0=>PB (MZ hgn hg0 0) ((q0.1.1)) ((q0.1.2)) q0.2
theorem OC (l:List Tok)(k:Nat)(hc0:l.length≤1000000):wN 63 [sl tC .no l,.val (nI k)] =some (sl nC (.own 1) (mW k l)):=
 (bN _).trans (bn QY ⟨(l,k),hc0⟩)
abbrev El:= {q0: (List UInt8) // ((q0).length≤1000000)}
def mC (q0:El):List C:=[.val (str (q0.1))]
noncomputable def rA (q0:El):C:=sl nC (.own 1) (cH (q0.1))
noncomputable def wO:Nat→List C→Option C:=Sx.ext wN 16 (bZ mC rA)
theorem QZ (x:El):noRefs 0 (mC x) =true:=by
 simp only[mC,aV,bj,bl,bE,aI,aF,aE,aJ,aX,Bool.and_self,Bool.and_true,bF,a9]
theorem Q0 (x y:El)(h:mC x=mC y):rA x=rA y:=by
 simp only[mC,List.cons.injEq,C.val.injEq,C.agg.injEq,C.kp.injEq,C.fn.injEq,bO,cn,cy,ct,bX,co,cg,cz,cA,Value.int.injEq,Value.bool.injEq,true_and,and_true] at h;simp only[rA,h]
theorem M2 {gl:Nat→C}(hgn:∀g,ag 0 (gl g) =true)(hg0:gl 0= .kp (iD (-1,0,0)))(M:Nat):CxOK (aS gl M wO):=bq (N:=0) (M1 hgn hg0 0) QZ fun q0=>PC (M1 hgn hg0 0) (by intros;(iterate 3 refine (ay (by decide) _).trans ?_);apply Eg<;>first|assumption|omega) (by intros;apply OC<;>first|assumption|omega) ((q0.1)) q0.2
theorem Em (s:List UInt8)(hc0:s.length≤1000000):wO 16 [.val (str s)] =some (sl nC (.own 1) (cH s)):=
 (bN _).trans (bn Q0 ⟨(s),hc0⟩)
abbrev En:= {q0:aN // ((q0).2.2.2.1.length≤1000000)∧((q0).2.2.2.2.length≤1000000)}
def mD (q0:En):List C:=[.agg (pC (q0.1))]
noncomputable def rB (q0:En):C:= .val (.bool (cI (q0.1)))
noncomputable def wP:Nat→List C→Option C:=Sx.ext wO 54 (bZ mD rB)
theorem Q2 (x:En):noRefs 0 (mD x) =true:=by
 simp only[mD,aV,bj,bl,bE,aI,aF,aE,aJ,aX,Bool.and_self,Bool.and_true,bF,a9]
theorem Q3 (x y:En)(h:mD x=mD y):rB x=rB y:=by
 simp only[mD,List.cons.injEq,C.val.injEq,C.agg.injEq,C.kp.injEq,C.fn.injEq,bO,cn,cy,ct,bX,co,cg,cz,cA,Value.int.injEq,Value.bool.injEq,true_and,and_true] at h;simp only[rB,h]
theorem M3 {gl:Nat→C}(hgn:∀g,ag 0 (gl g) =true)(hg0:gl 0= .kp (iD (-1,0,0)))(M:Nat):CxOK (aS gl M wP):=bq (N:=0) (M2 hgn hg0 0) Q2 fun q0=>P7 (M2 hgn hg0 0) hg0 (by intros;(iterate 7 refine (ay (by decide) _).trans ?_);apply Ov<;>first|assumption|omega) (by intros;(iterate 2 refine (ay (by decide) _).trans ?_);apply Ej<;>first|assumption|omega) (by intros;apply Em<;>first|assumption|omega) ((q0.1)) q0.2.1 q0.2.2
theorem OD (p:aN)(hc0:p.2.2.2.1.length≤1000000)(hc1:p.2.2.2.2.length≤1000000):wP 54 [.agg (pC p)] =some (.val (.bool (cI p))):=
 (bN _).trans (bn Q3 ⟨(p),⟨hc0,hc1⟩⟩)
abbrev Eo:= {q0:aj // (WB (q0))∧(∀v a,v< (q0).length→a< (gt (q0) v).length→(gt (gt (q0) v) a).1.length≤1000000)}
def mE (q0:Eo):List C:=[.agg [sl vC .no (q0.1)]]
noncomputable def rC (q0:Eo):C:= .val (.bool (gi (q0.1)))
noncomputable def wQ:Nat→List C→Option C:=Sx.ext wP 55 (bZ mE rC)
theorem Q4 (x:Eo):noRefs 0 (mE x) =true:=by
 simp only[mE,aV,bj,bl,bE,aI,aF,aE,aJ,aX,Bool.and_self,Bool.and_true,bF,a9]
theorem Q5 (x y:Eo)(h:mE x=mE y):rC x=rC y:=by
 simp only[mE,List.cons.injEq,C.val.injEq,C.agg.injEq,C.kp.injEq,C.fn.injEq,bO,cn,cy,ct,bX,co,cg,cz,cA,Value.int.injEq,Value.bool.injEq,true_and,and_true] at h;simp only[rC,h]
theorem C6 {gl:Nat→C}(hgn:∀g,ag 0 (gl g) =true)(hg0:gl 0= .kp (iD (-1,0,0)))(M:Nat):CxOK (aS gl M wQ):=bq (N:=0) (M3 hgn hg0 0) Q4 fun q0=>P9 (M3 hgn hg0 0) (by intros;(iterate 3 refine (ay (by decide) _).trans ?_);apply Ej<;>first|assumption|omega) (by intros;(iterate 1 refine (ay (by decide) _).trans ?_);apply Em<;>first|assumption|omega) ((q0.1)) q0.2.1 q0.2.2
theorem OE (w:aj)(hc0:WB w)(hc1:∀v a,v< w.length→a< (gt w v).length→(gt (gt w v) a).1.length≤1000000):wQ 55 [.agg [sl vC .no w]] =some (.val (.bool (gi w))):=
 (bN _).trans (bn Q5 ⟨(w),⟨hc0,hc1⟩⟩)
abbrev Ep:= {q0:aj // (WS (q0))∧(∀i,i< (aK (q0)).length→(gt (aK (q0)) i).2.2.2.2.1.length≤1000000)∧(∀v a,v< (q0).length→a< (gt (q0) v).length→(gt (gt (q0) v) a).1.length≤1000000)∧(∀i,i< (aK (q0)).length→b9 (gt (aK (q0)) i).2.1)}
def mF (q0:Ep):List C:=[.agg [sl vC .no (q0.1)]]
noncomputable def rD (q0:Ep):C:= .val (nI (ec (q0.1)))
noncomputable def wR:Nat→List C→Option C:=Sx.ext wQ 12 (bZ mF rD)
theorem Q6 (x:Ep):noRefs 0 (mF x) =true:=by
 simp only[mF,aV,bj,bl,bE,aI,aF,aE,aJ,aX,Bool.and_self,Bool.and_true,bF,a9]
theorem Q7 (x y:Ep)(h:mF x=mF y):rD x=rD y:=by
 simp only[mF,List.cons.injEq,C.val.injEq,C.agg.injEq,C.kp.injEq,C.fn.injEq,bO,cn,cy,ct,bX,co,cg,cz,cA,Value.int.injEq,Value.bool.injEq,true_and,and_true] at h;simp only[rD,h]
theorem M4 {gl:Nat→C}(hgn:∀g,ag 0 (gl g) =true)(hg0:gl 0= .kp (iD (-1,0,0)))(M:Nat):CxOK (aS gl M wR):=bq (N:=0) (C6 hgn hg0 0) Q6 fun q0=>Qb (oK (C6 hgn hg0 0)) (by intros;(iterate 11 refine (ay (by decide) _).trans ?_);apply QO<;>first|assumption|omega) (by intros;(iterate 10 refine (ay (by decide) _).trans ?_);apply wL<;>first|assumption|omega) (by intros;(iterate 1 refine (ay (by decide) _).trans ?_);apply OD<;>first|assumption|omega) (by intros;apply OE<;>first|assumption|omega) ((q0.1)) q0.2.1 q0.2.2.1 q0.2.2.2.1 q0.2.2.2.2
theorem Eq (w:aj)(hc0:WS w)(hc1:∀i,i< (aK w).length→(gt (aK w) i).2.2.2.2.1.length≤1000000)(hc2:∀v a,v< w.length→a< (gt w v).length→(gt (gt w v) a).1.length≤1000000)(hc3:∀i,i< (aK w).length→b9 (gt (aK w) i).2.1):wR 12 [.agg [sl vC .no w]] =some (.val (nI (ec w))):=
 (bN _).trans (bn Q7 ⟨(w),⟨hc0,hc1,hc2,hc3⟩⟩)
abbrev Er:= {q0:ID×ID // True}
def mG (q0:Er):List C:=[.agg (iD (q0.1.1)),.agg (iD (q0.1.2))]
noncomputable def rE (q0:Er):C:= .val (.bool (decide ((q0.1.1) = (q0.1.2))))
noncomputable def wS:Nat→List C→Option C:=Sx.ext wR 60 (bZ mG rE)
theorem Q8 (x:Er):noRefs 0 (mG x) =true:=by
 simp only[mG,aV,bj,bl,bE,aI,aF,aE,aJ,aX,Bool.and_self,Bool.and_true,bF,a9]
theorem Q9 (x y:Er)(h:mG x=mG y):rE x=rE y:=by
 simp only[mG,List.cons.injEq,C.val.injEq,C.agg.injEq,C.kp.injEq,C.fn.injEq,bO,cn,cy,ct,bX,co,cg,cz,cA,Value.int.injEq,Value.bool.injEq,true_and,and_true] at h;simp only[rE,h]
theorem M5 {gl:Nat→C}(hgn:∀g,ag 0 (gl g) =true)(hg0:gl 0= .kp (iD (-1,0,0)))(M:Nat):CxOK (aS gl M wS):=bq (N:=0) (M4 hgn hg0 0) Q8 fun q0=>PY (M4 hgn hg0 0) ((q0.1.1)) ((q0.1.2))
theorem OF (a:ID)(b:ID):wS 60 [.agg (iD a),.agg (iD b)] =some (.val (.bool (decide (a=b)))):=
 (bN _).trans (bn Q9 ⟨(a,b),trivial⟩)
abbrev Es:= {q0: (List ID)×(List ID) // ((q0.1).length≤1000000)∧((q0.2).length≤1000000)}
def mH (q0:Es):List C:=[sl iD .no (q0.1.1),sl iD .no (q0.1.2)]
noncomputable def rF (q0:Es):C:= .val (.bool (decide ((q0.1.1) = (q0.1.2))))
noncomputable def wT:Nat→List C→Option C:=Sx.ext wS 27 (bZ mH rF)
theorem Ra (x:Es):noRefs 0 (mH x) =true:=by
 simp only[mH,aV,bj,bl,bE,aI,aF,aE,aJ,aX,Bool.and_self,Bool.and_true,bF,a9]
theorem Rb (x y:Es)(h:mH x=mH y):rF x=rF y:=by
 simp only[mH,List.cons.injEq,C.val.injEq,C.agg.injEq,C.kp.injEq,C.fn.injEq,bO,cn,cy,ct,bX,co,cg,cz,cA,Value.int.injEq,Value.bool.injEq,true_and,and_true] at h;simp only[rF,h]
theorem M6 {gl:Nat→C}(hgn:∀g,ag 0 (gl g) =true)(hg0:gl 0= .kp (iD (-1,0,0)))(M:Nat):CxOK (aS gl M wT):=bq (N:=0) (M5 hgn hg0 0) Ra fun q0=>P0 (M5 hgn hg0 0) (by intros;apply OF<;>first|assumption|omega) ((q0.1.1)) ((q0.1.2)) q0.2.1 q0.2.2
theorem OG (l:List ID)(m:List ID)(hc0:l.length≤1000000)(hc1:m.length≤1000000):wT 27 [sl iD .no l,sl iD .no m] =some (.val (.bool (decide (l=m)))):=
 (bN _).trans (bn Rb ⟨(l,m),⟨hc0,hc1⟩⟩)
abbrev Et:= {q0:aj×(List ID) // (WS (q0.1))∧(∀x∈ (q0.2),b9 x)∧((q0.2).length≤1000000)∧(∀i,i< (aK (q0.1)).length→b9 (gt (aK (q0.1)) i).2.1)}
def mI (q0:Et):List C:=[.agg [sl vC .no (q0.1.1)],sl iD .no (q0.1.2)]
noncomputable def rG (q0:Et):C:=sl iD .no (cN (cR (q0.1.2)) (cB (q0.1.1))).2
noncomputable def wU:Nat→List C→Option C:=Sx.ext wT 28 (bZ mI rG)
theorem Rc (x:Et):noRefs 0 (mI x) =true:=by
 simp only[mI,aV,bj,bl,bE,aI,aF,aE,aJ,aX,Bool.and_self,Bool.and_true,bF,a9]
theorem Re (x y:Et)(h:mI x=mI y):rG x=rG y:=by
 simp only[mI,List.cons.injEq,C.val.injEq,C.agg.injEq,C.kp.injEq,C.fn.injEq,bO,cn,cy,ct,bX,co,cg,cz,cA,Value.int.injEq,Value.bool.injEq,true_and,and_true] at h;simp only[rG,h]
theorem M7 {gl:Nat→C}(hgn:∀g,ag 0 (gl g) =true)(hg0:gl 0= .kp (iD (-1,0,0)))(M:Nat):CxOK (aS gl M wU):=bq (N:=0) (M6 hgn hg0 0) Rc fun q0=>PW (oK (M6 hgn hg0 0)) (by intros;(iterate 13 refine (ay (by decide) _).trans ?_);apply wL<;>first|assumption|omega) ((q0.1.1)) ((q0.1.2)) q0.2.1 q0.2.2.1 q0.2.2.2.1 q0.2.2.2.2
theorem Eu (w:aj)(l:List ID)(hc0:WS w)(hc1:∀x∈l,b9 x)(hc2:l.length≤1000000)(hc3:∀i,i< (aK w).length→b9 (gt (aK w) i).2.1):wU 28 [.agg [sl vC .no w],sl iD .no l] =some (sl iD .no (cN (cR l) (cB w)).2):=
 (bN _).trans (bn Re ⟨(w,l),⟨hc0,hc1,hc2,hc3⟩⟩)
abbrev Ew:= {q0:aj×ID×ID // (WS (q0.1))∧(b9 (q0.2.1))∧(b9 (q0.2.2))∧(∀i,i< (aK (q0.1)).length→b9 (gt (aK (q0.1)) i).2.1)}
def mJ (q0:Ew):List C:=[.agg [sl vC .no (q0.1.1)],.agg (iD (q0.1.2.1)),.agg (iD (q0.1.2.2))]
noncomputable def rH (q0:Ew):C:= .val (.bool (decide ((cN (cR [(q0.1.2.1),(q0.1.2.2)]) (cB (q0.1.1))).2.length=2∧gt (cN (cR [(q0.1.2.1),(q0.1.2.2)]) (cB (q0.1.1))).2 0= (q0.1.2.1))))
noncomputable def wV:Nat→List C→Option C:=Sx.ext wU 30 (bZ mJ rH)
theorem Rf (x:Ew):noRefs 0 (mJ x) =true:=by
 simp only[mJ,aV,bj,bl,bE,aI,aF,aE,aJ,aX,Bool.and_self,Bool.and_true,bF,a9]
theorem Rg (x y:Ew)(h:mJ x=mJ y):rH x=rH y:=by
 simp only[mJ,List.cons.injEq,C.val.injEq,C.agg.injEq,C.kp.injEq,C.fn.injEq,bO,cn,cy,ct,bX,co,cg,cz,cA,Value.int.injEq,Value.bool.injEq,true_and,and_true] at h;simp only[rH,h]
theorem M8 {gl:Nat→C}(hgn:∀g,ag 0 (gl g) =true)(hg0:gl 0= .kp (iD (-1,0,0)))(M:Nat):CxOK (aS gl M wV):=bq (N:=0) (M7 hgn hg0 0) Rf fun q0=>PX (M7 hgn hg0 0) (by intros;apply Eu<;>first|assumption|omega) ((q0.1.1)) ((q0.1.2.1)) ((q0.1.2.2)) q0.2.1 q0.2.2.1 q0.2.2.2.1 q0.2.2.2.2
theorem OH (w:aj)(a:ID)(b:ID)(hc0:WS w)(hc1:b9 a)(hc2:b9 b)(hc3:∀i,i< (aK w).length→b9 (gt (aK w) i).2.1):wV 30 [.agg [sl vC .no w],.agg (iD a),.agg (iD b)] =some (.val (.bool (decide ((cN (cR [a,b]) (cB w)).2.length=2∧gt (cN (cR [a,b]) (cB w)).2 0=a)))):=
 (bN _).trans (bn Rg ⟨(w,a,b),⟨hc0,hc1,hc2,hc3⟩⟩)
abbrev Ey:= {q0:aj×ID // (WB (q0.1))}
def mK (q0:Ey):List C:=[.agg [sl vC .no (q0.1.1)],.agg (iD (q0.1.2))]
noncomputable def rI (q0:Ey):C:= .tup [.agg [.val (nI (ga (q0.1.1) (q0.1.2)).1.1),.val (nI (ga (q0.1.1) (q0.1.2)).1.2.1),.val (nI (ga (q0.1.1) (q0.1.2)).1.2.2)],.val (.bool (ga (q0.1.1) (q0.1.2)).2)]
noncomputable def wW:Nat→List C→Option C:=Sx.ext wV 32 (bZ mK rI)
theorem Rh (x:Ey):noRefs 0 (mK x) =true:=by
 simp only[mK,aV,bj,bl,bE,aI,aF,aE,aJ,aX,Bool.and_self,Bool.and_true,bF,a9]
theorem Ri (x y:Ey)(h:mK x=mK y):rI x=rI y:=by
 simp only[mK,List.cons.injEq,C.val.injEq,C.agg.injEq,C.kp.injEq,C.fn.injEq,bO,cn,cy,ct,bX,co,cg,cz,cA,Value.int.injEq,Value.bool.injEq,true_and,and_true] at h;simp only[rI,h]
theorem M9 {gl:Nat→C}(hgn:∀g,ag 0 (gl g) =true)(hg0:gl 0= .kp (iD (-1,0,0)))(M:Nat):CxOK (aS gl M wW):=bq (N:=0) (M8 hgn hg0 0) Rh fun q0=>Ro (M8 hgn hg0 0) (by intros;(iterate 15 refine (ay (by decide) _).trans ?_);apply wL<;>first|assumption|omega) ((q0.1.1)) ((q0.1.2)) q0.2
theorem OI (w:aj)(id:ID)(hc0:WB w):wW 32 [.agg [sl vC .no w],.agg (iD id)] =some (.tup [.agg [.val (nI (ga w id).1.1),.val (nI (ga w id).1.2.1),.val (nI (ga w id).1.2.2)],.val (.bool (ga w id).2)]):=
 (bN _).trans (bn Ri ⟨(w,id),hc0⟩)
abbrev Ez:= {q0:aj // (WS (q0))∧(nA (q0) (q0).length≤1000000)}
def mL (q0:Ez):List C:=[.agg [sl vC .no (q0.1)]]
noncomputable def rJ (q0:Ez):C:= .agg [.val (nI (q0.1).length),.val (nI (nA (q0.1) (q0.1).length)),.val (nI (cB (q0.1)).length)]
noncomputable def wX:Nat→List C→Option C:=Sx.ext wW 25 (bZ mL rJ)
theorem Rj (x:Ez):noRefs 0 (mL x) =true:=by
 simp only[mL,aV,bj,bl,bE,aI,aF,aE,aJ,aX,Bool.and_self,Bool.and_true,bF,a9]
theorem Rk (x y:Ez)(h:mL x=mL y):rJ x=rJ y:=by
 simp only[mL,List.cons.injEq,C.val.injEq,C.agg.injEq,C.kp.injEq,C.fn.injEq,bO,cn,cy,ct,bX,co,cg,cz,cA,Value.int.injEq,Value.bool.injEq,true_and,and_true] at h;simp only[rJ,h]
theorem Na {gl:Nat→C}(hgn:∀g,ag 0 (gl g) =true)(hg0:gl 0= .kp (iD (-1,0,0)))(M:Nat):CxOK (aS gl M wX):=bq (N:=0) (M9 hgn hg0 0) Rj fun q0=>Qa (M9 hgn hg0 0) ((q0.1)) q0.2.1 q0.2.2
theorem OJ (w:aj)(hc0:WS w)(hc1:nA w w.length≤1000000):wX 25 [.agg [sl vC .no w]] =some (.agg [.val (nI w.length),.val (nI (nA w w.length)),.val (nI (cB w).length)]):=
 (bN _).trans (bn Rk ⟨(w),⟨hc0,hc1⟩⟩)
abbrev EA:= {q0:Unit // True}
def o5 (q0:EA):List C:=[]
noncomputable def wY (q0:EA):C:= .val (.bool true)
noncomputable def Nb:Nat→List C→Option C:=Sx.ext wX 17 (bZ o5 wY)
theorem Rl (x:EA):noRefs 0 (o5 x) =true:=by
 simp only[o5,aV,bj,bl,bE,aI,aF,aE,aJ,aX,Bool.and_self,Bool.and_true,bF,a9]
theorem Rm (x y:EA)(h:o5 x=o5 y):wY x=wY y:=by
 rfl
theorem Rn {gl:Nat→C}(hgn:∀g,ag 0 (gl g) =true)(hg0:gl 0= .kp (iD (-1,0,0)))(M:Nat):CxOK (aS gl M Nb):=bq (N:=0) (Na hgn hg0 0) Rl fun q0=>Qo (Qp hgn (Na hgn hg0 0)) (fun xs=>by rw[wX,ay (by decide),wW,ay (by decide),wV,ay (by decide),wU,ay (by decide),wT,ay (by decide),wS,ay (by decide),wR,ay (by decide),wQ,ay (by decide),wP,ay (by decide),wO,ay (by decide),wN,ay (by decide),wM,ay (by decide),tP,ay (by decide),tO,ay (by decide),tN,ay (by decide),tM,ay (by decide),tL,ay (by decide),tK,ay (by decide),Ac,ay (by decide),Ab,ay (by decide),Aa,ay (by decide),z9,ay (by decide),z8,ay (by decide),z7,ay (by decide),z6,ay (by decide),z5,ay (by decide),z4,ay (by decide)];rfl) (Hf hgn) (by intros;(iterate 4 refine (ay (by decide) _).trans ?_);apply OG<;>first|assumption|omega) (by intros;(iterate 3 refine (ay (by decide) _).trans ?_);apply Eu<;>first|assumption|omega) (by intros;(iterate 2 refine (ay (by decide) _).trans ?_);apply OH<;>first|assumption|omega) (by intros;(iterate 6 refine (ay (by decide) _).trans ?_);apply Eq<;>first|assumption|omega) (by intros;(iterate 1 refine (ay (by decide) _).trans ?_);apply OI<;>first|assumption|omega) (by intros;apply OJ<;>first|assumption|omega)
theorem OK:Nb 17 [] =some (.val (.bool true)):=
 (bN _).trans (bn Rm ⟨(),trivial⟩)
theorem law4 {gl:Nat→C}(hgn:∀g,ag 0 (gl g) =true)(hg0:gl 0= .kp (iD (-1,0,0)))(l:List Int)(m:List Int)(vv:Int)(aa:Int)(hc0:LI l)(hc1:LI m)(hc2: -9223372036854775808≤vv∧vv≤9223372036854775807)(hc3: -9223372036854775808≤aa∧aa≤9223372036854775807):FC Tryd.prog gl 4 [sl iC .no l,sl iC .no m,.val (.int .i64 vv),.val (.int .i64 aa)] [] (.val (.bool true)) []:=RA (Rn hgn hg0 0) (by intros;(iterate 20 refine (ay (by decide) _).trans ?_);apply QM<;>first|assumption|omega) (by intros;(iterate 27 refine (ay (by decide) _).trans ?_);apply ML<;>first|assumption|omega) (by intros;(iterate 21 refine (ay (by decide) _).trans ?_);apply MN<;>first|assumption|omega) (by intros;(iterate 7 refine (ay (by decide) _).trans ?_);apply Eq<;>first|assumption|omega) (by intros;apply OK<;>first|assumption|omega) (l) (m) (vv) (aa) hc0 hc1 hc2 hc3
end Go.Sx.T4
namespace Go.Proofs.YtcpdlhgkdogdjaaDoor
open Go.ChangeShapes Go.WideShapes Go.RowKit Go.Sx
theorem Sx.PJ:ownKnob Tryd.prog.godebug=none:=by kernel_rfl
theorem Rp:laidOutB Tryd.prog=true:=by kernel_rfl
theorem Rq:mapsRowed Tryd.prog=true:=by kernel_rfl
theorem Rr:mc Tryd.prog=true:=by kernel_rfl
theorem g0T:Tryd.prog.globalNamed "passim/work.nowhere" =some 0:=by kernel_rfl
theorem t0T: (Tryd.prog.globals[0]?).map (·.type) =some 34:=by kernel_rfl
theorem c34:Tryd.prog.cellsOf 34=3:=by kernel_rfl
theorem c3:Tryd.prog.cellsOf 3=1:=by kernel_rfl
theorem EH {W:World}{n:String}{g fuel:Nat}{enc:TypeId×Value→Unit}{sp:Nat→Bool}{held:Bool}{cs:Array Value}{p:List MemPlace}{a b c:Int}
 (hg:Tryd.prog.globalNamed n=some g) (hv:W.var? Tryd.prog n=some cs)
 (h:DataW.trod enc Tryd.prog W 0 sp held fuel 34 cs.toList=some (.agg [.lit (.int .i64 a),.lit (.int .i64 b),.lit (.int .i64 c)],p)):Rep (GW W) (.kp (iD (a,b,c))) (.pointer (some ⟨g,0,none⟩)):=by
 obtain ⟨xs,m,_,hx,hl,hlen,hf⟩:=DataW.trod_struct (aH m5).1 h
 rw[c34] at hl
 have each:∀i,i< 3→∃z,cs.toList[i]? =some (.int .i64 z)∧(xs.map (·.1))[i]? =some (.lit (.int .i64 z)):=fun i hi=>by
  have hfi: ∃fd:Field,(#[Field.mk "By" 3 0 false "" "" 0,Field.mk "Seq" 3 1 false "" "" 8,Field.mk "K" 3 2 false "" "" 16])[i]? =some fd∧fd.type=3∧fd.offset=i:=by
   rcases i with _|_|_|i
   . exact ⟨_,rfl,rfl,rfl⟩
   . exact ⟨_,rfl,rfl,rfl⟩
   . exact ⟨_,rfl,rfl,rfl⟩
   . omega
  obtain ⟨fd,h1,h2,h3⟩:=hfi
  have h4:=hf i fd h1
  rw[h2,h3,c3] at h4
  have hi2:i< xs.length:=by rw[hlen];exact hi
  rw[List.getElem?_eq_getElem hi2] at h4
  obtain ⟨z,h5,h6,_⟩:=DataW.trod_int (aH Sx.gN).1 h4
  refine ⟨z,?_,?_⟩
  . have h7:=congrArg (fun l=>l[0]?) h5
    simpa[List.getElem?_take,List.getElem?_drop] using h7
  . rw[List.getElem?_map,List.getElem?_eq_getElem hi2,h6];rfl
 simp only[Prod.mk.injEq,DataW.agg.injEq] at hx
 rw[←hx.1] at each
 simp only[Rep]
 refine ⟨g,0,rfl,RepK.of_get fun i x hx=>?_⟩
 have hi:i< 3:=by
  have:=(List.getElem?_eq_some_iff.1 hx).1
  exact this
 obtain ⟨z,h1,h2⟩:=each i hi
 refine ⟨.int .i64 z,?_,rfl,?_⟩
 . show W.cell? ⟨g,0+i,none⟩ =_
   rw[World.var?_cell hg hv,Nat.zero_add,←Array.getElem?_toList,h1]
 . rcases i with _|_|_|i
   . cases h2;cases hx;exact am.2 rfl
   . cases h2;cases hx;exact am.2 rfl
   . cases h2;cases hx;exact am.2 rfl
   . omega
theorem Rs: (Rows.laid_passim_work_nowhere:DataW Unit) = .agg [.lit (.int .i64 (-1)),.lit (.int .i64 0),.lit (.int .i64 0)]:=rfl
abbrev qV:List (String×DataW Unit) := [("passim/work.nowhere",Rows.laid_passim_work_nowhere)]
theorem Ru (W:World)(h:laidMetH Tryd.prog qV W):∀g,Rep (GW W) (t0 g) (.pointer (some ⟨g,0,none⟩)):=by
 rw[MakeChecks.laidMetH_plain _ _ _ (by kernel_rfl)] at h
 obtain ⟨ps,⟨g1,t1,cs1,f1,p1,q1,hg1,ht1,hv1,hd1,_,_⟩,_,_⟩:=h
 obtain rfl:=Option.some.inj (g0T.symm.trans hg1)
 obtain rfl:=Option.some.inj (t0T.symm.trans ht1)
 rw[Rs] at hd1
 intro g
 unfold t0
 split
 . rename_i hg
   subst hg
   exact EH hg1 hv1 hd1
 . simp[Rep]
theorem PK (os:Os)(args:Array Value):laidMetH Tryd.prog qV ((World.doorLaid Tryd.prog 400 os).forCall (fun _ _=>0) ⟨#[],args,[]⟩).memory:=by
 rw[MakeChecks.laidMetH_plain _ _ _ (by kernel_rfl)]
 exact laidMet_of_run' 8 (by kernel_rfl) (by kernel_rfl)
theorem a3:AR Tryd.prog 3 (fun n:Int=> .val (.int .i64 n)) fun n=> -9223372036854775808≤n∧n≤9223372036854775807:=Jx Sx.gN
set_option maxRecDepth 100000
theorem EI {α:Type}[Inhabited α]{l:List α}{i:Nat}(h:i< l.length):gt l i=l[i]:=by simp[gt,List.getD,List.getElem?_eq_getElem h]
theorem Nn {l:List Int}(h:l.length≤9223372036854775807∧∀a∈l,-9223372036854775808≤a∧a≤9223372036854775807):LI l:=⟨h.1,fun i hi=>by rw[EI hi];exact h.2 _ (List.getElem_mem hi)⟩
theorem OQ:AR Tryd.prog 22 (fun l:List Int=>sl iC .no l) LI:=fun h1 h2=>by
 obtain ⟨l,q1,q2⟩:=Sx.BT Ib c3 (uq (aH Sx.gN).1) h1 h2
 exact ⟨l,Nn q1,q2⟩
end Go.Proofs.YtcpdlhgkdogdjaaDoor
