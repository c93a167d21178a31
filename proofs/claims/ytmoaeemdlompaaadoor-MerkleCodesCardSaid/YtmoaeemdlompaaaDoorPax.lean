/-
  
-/
import Derived.Test.YtmoaeemdlompaaaDoorPap
import Derived.Test.YtmoaeemdlompaaaDoorPaq
import Derived.Test.YtmoaeemdlompaaaDoorPar
import Derived.Test.YtmoaeemdlompaaaDoorPao
import Derived.Test.YtmoaeemdlompaaaDoorPas
import Derived.Test.YtmoaeemdlompaaaDoorPau
import Derived.Test.YtmoaeemdlompaaaDoorPav
import Derived.Test.YtmoaeemdlompaaaDoorPaw
import Derived.Test.YtmoaeemdlompaaaDoorPal
import Derived.Test.YtmoaeemdlompaaaDoorPam
import Derived.Test.YtmoaeemdlompaaaDoorPat
set_option linter.unusedSimpArgs false
set_option linter.unusedVariables false
namespace Go.Sx.T9
open Go.RowKit Go.Proofs
theorem bM {p:Prop}(h:p:=by simp only[d7,mZ,m0,fv,dU,jB,cV,c7,lE,Bool.and_self,Bool.and_true,BT,GA,J0,J1]):p:=h
def NX:Nat→List C→Option C:=fun _ _=>none
theorem ok0 {gl:Nat→C}(hgn:∀g,ah 0 (gl g) =true)(hg0:gl 0= .kp (cl wC kc))(hg2:gl 2= .kp (cl wC kc))(M:Nat):CxOK (af gl M NX):=CxOK.zero hgn
theorem agQ:∀ (g:Nat)(xs:List C),noRefs 0 xs=false→NX g xs=none:=fun _ _ _=>rfl
theorem agR:∀ (g:Nat)(xs:List C),dK xs=true→NX g xs=none:=Mf
abbrev D1:= {q0:Int×Nat // (-9223372036854775808≤(q0.1)∧(q0.1)≤9223372036854775807∧0< (q0.2)∧(q0.2)≤9223372036854775807)}
def vn (q0:D1):List C:=[.val (.int .i64 (q0.1.1)),.val (nI (q0.1.2))]
noncomputable def EB (q0:D1):C:= .val (nI (aG (q0.1.1) (q0.1.2)))
noncomputable def C3:Nat→List C→Option C:=Sx.ext NX 17 (aO vn EB)
theorem VS (x:D1):noRefs 0 (vn x) =true:=by
 unfold vn;exact bM
theorem ij1 (x y:D1)(h:vn x=vn y):EB x=EB y:=by
 simp only[vn,List.cons.injEq,C.val.injEq,C.agg.injEq,C.kp.injEq,C.fn.injEq,aT,ax,aI,aV,aU,aF,aM,aH,Value.int.injEq,Value.bool.injEq,true_and,and_true] at h;simp only[EB,h]
theorem ok1 {gl:Nat→C}(hgn:∀g,ah 0 (gl g) =true)(hg0:gl 0= .kp (cl wC kc))(hg2:gl 2= .kp (cl wC kc))(M:Nat):CxOK (af gl M C3):=am (N:=0) (ok0 hgn hg0 hg2 0) VS fun q0=>agB (ok0 hgn hg0 hg2 0) ((q0.1.1)) ((q0.1.2)) q0.2
theorem agS:∀ (g:Nat)(xs:List C),noRefs 0 xs=false→C3 g xs=none:=aJ agQ VS
theorem agT:∀ (g:Nat)(xs:List C),dK xs=true→C3 g xs=none:=fj agR VS
theorem EC (n:Int)(m:Nat)(hc0: -9223372036854775808≤n∧n≤9223372036854775807∧0< m∧m≤9223372036854775807):C3 17 [.val (.int .i64 n),.val (nI m)] =some (.val (nI (aG n m))):=
 (ar _).trans (aj ij1 ⟨(n,m),hc0⟩)
abbrev D2:= {q0: (List Int)×Nat×Nat // (LI (q0.1))∧((q0.2.1)≤1000000)∧(0< (q0.2.2)∧(q0.2.2)≤9223372036854775807)}
def vo (q0:D2):List C:=[sl iC .no (q0.1.1),.val (nI (q0.1.2.1)),.val (nI (q0.1.2.2))]
noncomputable def ED (q0:D2):C:= .val (nI (kI (q0.1.1) (q0.1.2.1) (q0.1.2.2)))
noncomputable def C4:Nat→List C→Option C:=Sx.ext C3 48 (aO vo ED)
theorem VT (x:D2):noRefs 0 (vo x) =true:=by
 unfold vo;exact bM
theorem ij2 (x y:D2)(h:vo x=vo y):ED x=ED y:=by
 simp only[vo,List.cons.injEq,C.val.injEq,C.agg.injEq,C.kp.injEq,C.fn.injEq,aT,ax,aI,aV,aU,aF,aM,aH,Value.int.injEq,Value.bool.injEq,true_and,and_true] at h;simp only[ED,h]
theorem ok2 {gl:Nat→C}(hgn:∀g,ah 0 (gl g) =true)(hg0:gl 0= .kp (cl wC kc))(hg2:gl 2= .kp (cl wC kc))(M:Nat):CxOK (af gl M C4):=am (N:=0) (ok1 hgn hg0 hg2 0) VT fun q0=>agC (ok1 hgn hg0 hg2 0) (by intros;apply EC<;>first|assumption|omega) ((q0.1.1)) ((q0.1.2.1)) ((q0.1.2.2)) q0.2.1 q0.2.2.1 q0.2.2.2
theorem agU:∀ (g:Nat)(xs:List C),noRefs 0 xs=false→C4 g xs=none:=aJ agS VT
theorem agV:∀ (g:Nat)(xs:List C),dK xs=true→C4 g xs=none:=fj agT VT
theorem agW (l:List Int)(i:Nat)(m:Nat)(hc0:LI l)(hc1:i≤1000000)(hc2:0< m∧m≤9223372036854775807):C4 48 [sl iC .no l,.val (nI i),.val (nI m)] =some (.val (nI (kI l i m))):=
 (ar _).trans (aj ij2 ⟨(l,i,m),⟨hc0,hc1,hc2⟩⟩)
abbrev D3:= {q0:Nat // ((q0)≤1000000000000)}
def vr (q0:D3):List C:=[.val (nI (q0.1))]
noncomputable def EE (q0:D3):C:= .val (str (ef (q0.1)))
noncomputable def C5:Nat→List C→Option C:=Sx.ext C4 49 (aO vr EE)
theorem VU (x:D3):noRefs 0 (vr x) =true:=by
 unfold vr;exact bM
theorem ij3 (x y:D3)(h:vr x=vr y):EE x=EE y:=by
 simp only[vr,List.cons.injEq,C.val.injEq,C.agg.injEq,C.kp.injEq,C.fn.injEq,aT,ax,aI,aV,aU,aF,aM,aH,Value.int.injEq,Value.bool.injEq,true_and,and_true] at h;simp only[EE,h]
theorem ok3 {gl:Nat→C}(hgn:∀g,ah 0 (gl g) =true)(hg0:gl 0= .kp (cl wC kc))(hg2:gl 2= .kp (cl wC kc))(M:Nat):CxOK (af gl M C5):=am (N:=0) (ok2 hgn hg0 hg2 0) VU fun q0=>agD (ok2 hgn hg0 hg2 0) ((q0.1)) q0.2
theorem agX:∀ (g:Nat)(xs:List C),noRefs 0 xs=false→C5 g xs=none:=aJ agU VU
theorem agY:∀ (g:Nat)(xs:List C),dK xs=true→C5 g xs=none:=fj agV VU
theorem J8 (n:Nat)(hc0:n≤1000000000000):C5 49 [.val (nI n)] =some (.val (str (ef n))):=
 (ar _).trans (aj ij3 ⟨(n),hc0⟩)
abbrev D4:= {q0: (List Int) // (LI (q0))}
def vt (q0:D4):List C:=[sl iC .no (q0.1)]
noncomputable def EF (q0:D4):C:=sl eC (.own 2) (iZ (q0.1))
noncomputable def C6:Nat→List C→Option C:=Sx.ext C5 10 (aO vt EF)
theorem VV (x:D4):noRefs 0 (vt x) =true:=by
 unfold vt;exact bM
theorem ij4 (x y:D4)(h:vt x=vt y):EF x=EF y:=by
 simp only[vt,List.cons.injEq,C.val.injEq,C.agg.injEq,C.kp.injEq,C.fn.injEq,aT,ax,aI,aV,aU,aF,aM,aH,Value.int.injEq,Value.bool.injEq,true_and,and_true] at h;simp only[EF,h]
theorem ok4 {gl:Nat→C}(hgn:∀g,ah 0 (gl g) =true)(hg0:gl 0= .kp (cl wC kc))(hg2:gl 2= .kp (cl wC kc))(M:Nat):CxOK (af gl M C6):=am (N:=0) (ok3 hgn hg0 hg2 0) VV fun q0=>aiR (ok3 hgn hg0 hg2 0) (by intros;(iterate 1 refine (ae (by decide) _).trans ?_);apply agW<;>first|assumption|omega) (by intros;apply J8<;>first|assumption|omega) ((q0.1)) q0.2
theorem agZ:∀ (g:Nat)(xs:List C),noRefs 0 xs=false→C6 g xs=none:=aJ agX VV
theorem ag0:∀ (g:Nat)(xs:List C),dK xs=true→C6 g xs=none:=fj agY VV
theorem ag1 (l:List Int)(hc0:LI l):C6 10 [sl iC .no l] =some (sl eC (.own 2) (iZ l)):=
 (ar _).trans (aj ij4 ⟨(l),hc0⟩)
abbrev D5:= {q0:ab // ((q0).1.length< 9223372036854775808∧(q0).2.length< 9223372036854775808)}
def vu (q0:D5):List C:=[.agg (eC (q0.1))]
noncomputable def EG (q0:D5):C:= .val (.bool (cE (q0.1)))
noncomputable def C7:Nat→List C→Option C:=Sx.ext C6 54 (aO vu EG)
theorem VW (x:D5):noRefs 0 (vu x) =true:=by
 unfold vu;exact bM
theorem ij5 (x y:D5)(h:vu x=vu y):EG x=EG y:=by
 simp only[vu,List.cons.injEq,C.val.injEq,C.agg.injEq,C.kp.injEq,C.fn.injEq,aT,ax,aI,aV,aU,aF,aM,aH,Value.int.injEq,Value.bool.injEq,true_and,and_true] at h;simp only[EG,h]
theorem ok5 {gl:Nat→C}(hgn:∀g,ah 0 (gl g) =true)(hg0:gl 0= .kp (cl wC kc))(hg2:gl 2= .kp (cl wC kc))(M:Nat):CxOK (af gl M C7):=am (N:=0) (ok4 hgn hg0 hg2 0) VW fun q0=>agq (ok4 hgn hg0 hg2 0) ((q0.1)) q0.2
theorem ag2:∀ (g:Nat)(xs:List C),noRefs 0 xs=false→C7 g xs=none:=aJ agZ VW
theorem ag3:∀ (g:Nat)(xs:List C),dK xs=true→C7 g xs=none:=fj ag0 VW
theorem ag4 (x:ab)(hc0:x.1.length< 9223372036854775808∧x.2.length< 9223372036854775808):C7 54 [.agg (eC x)] =some (.val (.bool (cE x))):=
 (ar _).trans (aj ij5 ⟨(x),hc0⟩)
abbrev D6:= {q0: (List ab) // (LB (q0))}
def vv (q0:D6):List C:=[sl eC .no (q0.1),.fn 54 []]
noncomputable def EH (q0:D6):C:= .val (.int .i64 (lY (q0.1)))
noncomputable def C8:Nat→List C→Option C:=Sx.ext C7 87 (aO vv EH)
theorem VX (x:D6):noRefs 0 (vv x) =true:=by
 unfold vv;exact bM
theorem ij6 (x y:D6)(h:vv x=vv y):EH x=EH y:=by
 simp only[vv,List.cons.injEq,C.val.injEq,C.agg.injEq,C.kp.injEq,C.fn.injEq,aT,ax,aI,aV,aU,aF,aM,aH,Value.int.injEq,Value.bool.injEq,true_and,and_true] at h;simp only[EH,h]
theorem ok6 {gl:Nat→C}(hgn:∀g,ah 0 (gl g) =true)(hg0:gl 0= .kp (cl wC kc))(hg2:gl 2= .kp (cl wC kc))(M:Nat):CxOK (af gl M C8):=am (N:=0) (ok5 hgn hg0 hg2 0) VX fun q0=>agx (ok5 hgn hg0 hg2 0) (by intros;apply ag4<;>first|assumption|omega) ((q0.1)) q0.2
theorem ag5:∀ (g:Nat)(xs:List C),noRefs 0 xs=false→C8 g xs=none:=aJ ag2 VX
theorem ag6:∀ (g:Nat)(xs:List C),dK xs=true→C8 g xs=none:=fj ag3 VX
theorem ag7 (l:List ab)(hc0:LB l):C8 87 [sl eC .no l,.fn 54 []] =some (.val (.int .i64 (lY l))):=
 (ar _).trans (aj ij6 ⟨(l),hc0⟩)
abbrev D7:= {q0: (List ab) // (LB (q0))}
def vw (q0:D7):List C:=[sl eC .no (q0.1),.fn 54 []]
noncomputable def EI (q0:D7):C:= .val (.bool ((q0.1).any cE))
noncomputable def C9:Nat→List C→Option C:=Sx.ext C8 53 (aO vw EI)
theorem VY (x:D7):noRefs 0 (vw x) =true:=by
 unfold vw;exact bM
theorem ij7 (x y:D7)(h:vw x=vw y):EI x=EI y:=by
 simp only[vw,List.cons.injEq,C.val.injEq,C.agg.injEq,C.kp.injEq,C.fn.injEq,aT,ax,aI,aV,aU,aF,aM,aH,Value.int.injEq,Value.bool.injEq,true_and,and_true] at h;simp only[EI,h]
theorem ok7 {gl:Nat→C}(hgn:∀g,ah 0 (gl g) =true)(hg0:gl 0= .kp (cl wC kc))(hg2:gl 2= .kp (cl wC kc))(M:Nat):CxOK (af gl M C9):=am (N:=0) (ok6 hgn hg0 hg2 0) VY fun q0=>agy (ok6 hgn hg0 hg2 0) (by intros;apply ag7<;>first|assumption|omega) ((q0.1)) q0.2
theorem ag8:∀ (g:Nat)(xs:List C),noRefs 0 xs=false→C9 g xs=none:=aJ ag5 VY
theorem ag9:∀ (g:Nat)(xs:List C),dK xs=true→C9 g xs=none:=fj ag6 VY
theorem aha (l:List ab)(hc0:LB l):C9 53 [sl eC .no l,.fn 54 []] =some (.val (.bool (l.any cE))):=
 (ar _).trans (aj ij7 ⟨(l),hc0⟩)
abbrev D8:= {q0: (List ab) // (LB (q0))}
def vx (q0:D8):List C:=[sl eC .no (q0.1)]
noncomputable def EJ (q0:D8):C:= .val (nI (cb (q0.1)))
noncomputable def Da:Nat→List C→Option C:=Sx.ext C9 15 (aO vx EJ)
theorem VZ (x:D8):noRefs 0 (vx x) =true:=by
 unfold vx;exact bM
theorem ij8 (x y:D8)(h:vx x=vx y):EJ x=EJ y:=by
 simp only[vx,List.cons.injEq,C.val.injEq,C.agg.injEq,C.kp.injEq,C.fn.injEq,aT,ax,aI,aV,aU,aF,aM,aH,Value.int.injEq,Value.bool.injEq,true_and,and_true] at h;simp only[EJ,h]
theorem ok8 {gl:Nat→C}(hgn:∀g,ah 0 (gl g) =true)(hg0:gl 0= .kp (cl wC kc))(hg2:gl 2= .kp (cl wC kc))(M:Nat):CxOK (af gl M Da):=am (N:=0) (ok7 hgn hg0 hg2 0) VZ fun q0=>agz (ok7 hgn hg0 hg2 0) (by intros;apply aha<;>first|assumption|omega) ((q0.1)) q0.2
theorem ahb:∀ (g:Nat)(xs:List C),noRefs 0 xs=false→Da g xs=none:=aJ ag8 VZ
theorem ahc:∀ (g:Nat)(xs:List C),dK xs=true→Da g xs=none:=fj ag9 VZ
theorem EK (l:List ab)(hc0:LB l):Da 15 [sl eC .no l] =some (.val (nI (cb l))):=
 (ar _).trans (aj ij8 ⟨(l),hc0⟩)
abbrev D9:= {q0:Unit // True}
def z4 (q0:D9):List C:=([]:List C)
noncomputable def J9 (q0:D9):C:= .agg F0.cells
noncomputable def Dc:Nat→List C→Option C:=Sx.ext Da 103 (aO z4 J9)
theorem V0 (x:D9):noRefs 0 (z4 x) =true:=by
 unfold z4;exact bM
theorem ij9 (x y:D9)(h:z4 x=z4 y):J9 x=J9 y:=by
 rfl
theorem ok9 {gl:Nat→C}(hgn:∀g,ah 0 (gl g) =true)(hg0:gl 0= .kp (cl wC kc))(hg2:gl 2= .kp (cl wC kc))(M:Nat):CxOK (af gl M Dc):=am (N:=0) (ok8 hgn hg0 hg2 0) V0 fun q0=>aei (ok8 hgn hg0 hg2 0)
theorem ahd:∀ (g:Nat)(xs:List C),noRefs 0 xs=false→Dc g xs=none:=aJ ahb V0
theorem ahe:∀ (g:Nat)(xs:List C),dK xs=true→Dc g xs=none:=fj ahc V0
theorem ahf:Dc 103 ([]:List C) =some (.agg F0.cells):=
 (ar _).trans (aj ij9 ⟨(),trivial⟩)
abbrev NY:= {q0: (BitVec 32)×Int // True}
def ql (q0:NY):List C:=[.val (bE (q0.1.1)),.val (.int .i64 (q0.1.2))]
noncomputable def xE (q0:NY):C:= .val (bE (mc (q0.1.1) (((q0.1.2) % 18446744073709551616).toNat % 32)))
noncomputable def vy:Nat→List C→Option C:=Sx.ext Dc 117 (aO ql xE)
theorem Ka (x:NY):noRefs 0 (ql x) =true:=by
 unfold ql;exact bM
theorem ahg (x y:NY)(h:ql x=ql y):xE x=xE y:=by
 simp only[ql,List.cons.injEq,C.val.injEq,C.agg.injEq,C.kp.injEq,C.fn.injEq,aT,ax,aI,aV,aU,aF,aM,aH,Value.int.injEq,Value.bool.injEq,true_and,and_true] at h;simp only[xE,h]
theorem V8 {gl:Nat→C}(hgn:∀g,ah 0 (gl g) =true)(hg0:gl 0= .kp (cl wC kc))(hg2:gl 2= .kp (cl wC kc))(M:Nat):CxOK (af gl M vy):=am (N:=0) (ok9 hgn hg0 hg2 0) Ka fun q0=>aed (ok9 hgn hg0 hg2 0) ((q0.1.1)) ((q0.1.2))
theorem abY:∀ (g:Nat)(xs:List C),noRefs 0 xs=false→vy g xs=none:=aJ ahd Ka
theorem abZ:∀ (g:Nat)(xs:List C),dK xs=true→vy g xs=none:=fj ahe Ka
theorem NZ (x:BitVec 32)(k:Int):vy 117 [.val (bE x),.val (.int .i64 k)] =some (.val (bE (mc x ((k % 18446744073709551616).toNat % 32)))):=
 (ar _).trans (aj ahg ⟨(x,k),trivial⟩)
abbrev N0:= {q0: (BitVec 32)×Nat×Nat×Nat // (0< (q0.2.1)∧(q0.2.1) < 32)∧(0< (q0.2.2.1)∧(q0.2.2.1) < 32)∧(0< (q0.2.2.2)∧(q0.2.2.2) < 32)}
def qm (q0:N0):List C:=[.val (bE (q0.1.1)),.val (nI (q0.1.2.1)),.val (nI (q0.1.2.2.1)),.val (nI (q0.1.2.2.2))]
noncomputable def xF (q0:N0):C:= .val (bE (rr (q0.1.1) (q0.1.2.1) ^^^ rr (q0.1.1) (q0.1.2.2.1) ^^^ rr (q0.1.1) (q0.1.2.2.2)))
noncomputable def vz:Nat→List C→Option C:=Sx.ext vy 116 (aO qm xF)
theorem Kb (x:N0):noRefs 0 (qm x) =true:=by
 unfold qm;exact bM
theorem ahh (x y:N0)(h:qm x=qm y):xF x=xF y:=by
 simp only[qm,List.cons.injEq,C.val.injEq,C.agg.injEq,C.kp.injEq,C.fn.injEq,aT,ax,aI,aV,aU,aF,aM,aH,Value.int.injEq,Value.bool.injEq,true_and,and_true] at h;simp only[xF,h]
theorem V9 {gl:Nat→C}(hgn:∀g,ah 0 (gl g) =true)(hg0:gl 0= .kp (cl wC kc))(hg2:gl 2= .kp (cl wC kc))(M:Nat):CxOK (af gl M vz):=am (N:=0) (V8 hgn hg0 hg2 0) Kb fun q0=>aee (V8 hgn hg0 hg2 0) (by intros;apply NZ<;>first|assumption|omega) ((q0.1.1)) ((q0.1.2.1)) ((q0.1.2.2.1)) ((q0.1.2.2.2)) q0.2.1 q0.2.2.1 q0.2.2.2
theorem ab0:∀ (g:Nat)(xs:List C),noRefs 0 xs=false→vz g xs=none:=aJ abY Kb
theorem ab1:∀ (g:Nat)(xs:List C),dK xs=true→vz g xs=none:=fj abZ Kb
theorem ab2 (x:BitVec 32)(i:Nat)(j:Nat)(k:Nat)(hc0:0< i∧i< 32)(hc1:0< j∧j< 32)(hc2:0< k∧k< 32):vz 116 [.val (bE x),.val (nI i),.val (nI j),.val (nI k)] =some (.val (bE (rr x i ^^^ rr x j ^^^ rr x k))):=
 (ar _).trans (aj ahh ⟨(x,i,j,k),⟨hc0,hc1,hc2⟩⟩)
abbrev N1:= {q0: (List UInt8) // ((q0).length=64)}
def qn (q0:N1):List C:=[sl bC .no (q0.1)]
noncomputable def xG (q0:N1):C:= .agg (cl wC (bh (q0.1) 64))
noncomputable def vA:Nat→List C→Option C:=Sx.ext vz 115 (aO qn xG)
theorem Kc (x:N1):noRefs 0 (qn x) =true:=by
 unfold qn;exact bM
theorem ahi (x y:N1)(h:qn x=qn y):xG x=xG y:=by
 simp only[qn,List.cons.injEq,C.val.injEq,C.agg.injEq,C.kp.injEq,C.fn.injEq,aT,ax,aI,aV,aU,aF,aM,aH,Value.int.injEq,Value.bool.injEq,true_and,and_true] at h;simp only[xG,h]
theorem Wa {gl:Nat→C}(hgn:∀g,ah 0 (gl g) =true)(hg0:gl 0= .kp (cl wC kc))(hg2:gl 2= .kp (cl wC kc))(M:Nat):CxOK (af gl M vA):=am (N:=0) (V9 hgn hg0 hg2 0) Kc fun q0=>aeg (V9 hgn hg0 hg2 0) (by intros;(iterate 1 refine (ae (by decide) _).trans ?_);apply NZ<;>first|assumption|omega) ((q0.1)) q0.2
theorem ab3:∀ (g:Nat)(xs:List C),noRefs 0 xs=false→vA g xs=none:=aJ ab0 Kc
theorem ab4:∀ (g:Nat)(xs:List C),dK xs=true→vA g xs=none:=fj ab1 Kc
theorem ab5 (b:List UInt8)(hc0:b.length=64):vA 115 [sl bC .no b] =some (.agg (cl wC (bh b 64))):=
 (ar _).trans (aj ahi ⟨(b),hc0⟩)
abbrev N2:= {q0:S8×(List UInt8) // ((q0.2).length=64)}
def qo (q0:N2):List C:=[.agg (cl wC (q0.1.1).l),sl bC .no (q0.1.2)]
noncomputable def xH (q0:N2):C:= .agg (cl wC (comp (q0.1.1) (q0.1.2)).l)
noncomputable def vB:Nat→List C→Option C:=Sx.ext vA 113 (aO qo xH)
theorem Kd (x:N2):noRefs 0 (qo x) =true:=by
 unfold qo;exact bM
theorem ahj (x y:N2)(h:qo x=qo y):xH x=xH y:=by
 simp only[qo,List.cons.injEq,C.agg.injEq,aM,aH,Gv,and_true] at h;simp only[xH,h]
theorem Wb {gl:Nat→C}(hgn:∀g,ah 0 (gl g) =true)(hg0:gl 0= .kp (cl wC kc))(hg2:gl 2= .kp (cl wC kc))(M:Nat):CxOK (af gl M vB):=am (N:=0) (Wa hgn hg0 hg2 0) Kd fun q0=>aeh (Wa hgn hg0 hg2 0) hg2 (by intros;(iterate 1 refine (ae (by decide) _).trans ?_);apply ab2<;>first|assumption|omega) (by intros;apply ab5<;>first|assumption|omega) ((q0.1.1)) ((q0.1.2)) q0.2
theorem ab6:∀ (g:Nat)(xs:List C),noRefs 0 xs=false→vB g xs=none:=aJ ab3 Kd
theorem ab7:∀ (g:Nat)(xs:List C),dK xs=true→vB g xs=none:=fj ab4 Kd
theorem ab8 (s:S8)(b:List UInt8)(hc0:b.length=64):vB 113 [.agg (cl wC s.l),sl bC .no b] =some (.agg (cl wC (comp s b).l)):=
 (ar _).trans (aj ahj ⟨(s,b),hc0⟩)
abbrev N3:= {q0:S8×(List UInt8)×Nat×(List UInt8) // ((q0.2.1).length=64)∧((q0.2.2.1)+(q0.2.2.2).length< 1152921504606846976)}
def tU (q0:N3):List C:=[.agg (cl wC (q0.1.1).l++(cl bC (q0.1.2.1)++[.val (nU (q0.1.2.2.1))])),.val (str (q0.1.2.2.2))]
noncomputable def EL (q0:N3):C:= .agg (cz ⟨(q0.1.1),(q0.1.2.1),(q0.1.2.2.1)⟩ (q0.1.2.2.2)).cells
noncomputable def z5:Nat→List C→Option C:=Sx.ext vB 104 (aO tU EL)
theorem Wc (x:N3):noRefs 0 (tU x) =true:=by
 unfold tU;exact bM
theorem ahk (x y:N3)(h:tU x=tU y):EL x=EL y:=by
 exact JZ x.1.1 y.1.1 x.1.2.1 y.1.2.1 x.1.2.2.1 y.1.2.2.1 x.1.2.2.2 y.1.2.2.2 x.2.1 y.2.1 h
theorem Wd {gl:Nat→C}(hgn:∀g,ah 0 (gl g) =true)(hg0:gl 0= .kp (cl wC kc))(hg2:gl 2= .kp (cl wC kc))(M:Nat):CxOK (af gl M z5):=am (N:=0) (Wb hgn hg0 hg2 0) Wc fun q0=>aej (Wb hgn hg0 hg2 0) (by intros;apply ab8<;>first|assumption|omega) ab7 (⟨(q0.1.1),(q0.1.2.1),(q0.1.2.2.1)⟩) ((q0.1.2.2.2)) q0.2.1 q0.2.2
theorem ab9:∀ (g:Nat)(xs:List C),noRefs 0 xs=false→z5 g xs=none:=aJ ab6 Wc
theorem N4 (s:S8)(blk:List UInt8)(n:Nat)(t:List UInt8)(hc0:blk.length=64)(hc1:n+t.length< 1152921504606846976):z5 104 [.agg (cl wC s.l++(cl bC blk++[.val (nU n)])),.val (str t)] =some (.agg (cz ⟨s,blk,n⟩ t).cells):=
 (ar _).trans (aj ahk ⟨(s,blk,n,t),⟨hc0,hc1⟩⟩)
abbrev N5:= {q0:S8×(List UInt8)×Nat // ((q0.2.1).length=64)∧((q0.2.2) < 576460752303423488)}
def tV (q0:N5):List C:=[.agg (cl wC (q0.1.1).l++(cl bC (q0.1.2.1)++[.val (nU (q0.1.2.2))]))]
noncomputable def EM (q0:N5):C:= .agg (cl bC (nf ⟨(q0.1.1),(q0.1.2.1),(q0.1.2.2)⟩))
noncomputable def z6:Nat→List C→Option C:=Sx.ext z5 105 (aO tV EM)
theorem We (x:N5):noRefs 0 (tV x) =true:=by
 unfold tV;exact bM
theorem ahl (x y:N5)(h:tV x=tV y):EM x=EM y:=by
 exact QH x.1.1 y.1.1 x.1.2.1 y.1.2.1 x.1.2.2 y.1.2.2 x.2.1 y.2.1 h
theorem Wf {gl:Nat→C}(hgn:∀g,ah 0 (gl g) =true)(hg0:gl 0= .kp (cl wC kc))(hg2:gl 2= .kp (cl wC kc))(M:Nat):CxOK (af gl M z6):=am (N:=0) (Wd hgn hg0 hg2 0) We fun q0=>aek (Wd hgn hg0 hg2 0) (by intros;apply N4<;>first|assumption|omega) (⟨(q0.1.1),(q0.1.2.1),(q0.1.2.2)⟩) q0.2.1 q0.2.2
theorem aca:∀ (g:Nat)(xs:List C),noRefs 0 xs=false→z6 g xs=none:=aJ ab9 We
theorem acb (s:S8)(blk:List UInt8)(n:Nat)(hc0:blk.length=64)(hc1:n< 576460752303423488):z6 105 [.agg (cl wC s.l++(cl bC blk++[.val (nU n)]))] =some (.agg (cl bC (nf ⟨s,blk,n⟩))):=
 (ar _).trans (aj ahl ⟨(s,blk,n),⟨hc0,hc1⟩⟩)
abbrev N6:= {q0:Int // (-9223372036854775808≤(q0)∧(q0)≤9223372036854775807)}
def qp (q0:N6):List C:=[.val (.int .i64 (q0.1))]
noncomputable def xI (q0:N6):C:=sl bC (.own 1) (aA (q0.1))
noncomputable def z7:Nat→List C→Option C:=Sx.ext z6 39 (aO qp xI)
theorem Wg (x:N6):noRefs 0 (qp x) =true:=by
 unfold qp;exact bM
theorem ahm (x y:N6)(h:qp x=qp y):xI x=xI y:=by
 simp only[qp,List.cons.injEq,C.val.injEq,C.agg.injEq,C.kp.injEq,C.fn.injEq,aT,ax,aI,aV,aU,aF,aM,aH,Value.int.injEq,Value.bool.injEq,true_and,and_true] at h;simp only[xI,h]
theorem Wh {gl:Nat→C}(hgn:∀g,ah 0 (gl g) =true)(hg0:gl 0= .kp (cl wC kc))(hg2:gl 2= .kp (cl wC kc))(M:Nat):CxOK (af gl M z7):=am (N:=0) (Wf hgn hg0 hg2 0) Wg fun q0=>agu (Wf hgn hg0 hg2 0) ((q0.1)) q0.2
theorem acd:∀ (g:Nat)(xs:List C),noRefs 0 xs=false→z7 g xs=none:=aJ aca Wg
theorem tW (n:Int)(hc0: -9223372036854775808≤n∧n≤9223372036854775807):z7 39 [.val (.int .i64 n)] =some (sl bC (.own 1) (aA n)):=
 (ar _).trans (aj ahm ⟨(n),hc0⟩)
abbrev N7:= {q0: (List UInt8) // ((q0).length< 70368744177664)}
def qq (q0:N7):List C:=[.val (str (q0.1))]
noncomputable def xJ (q0:N7):C:=sl bC (.own 1) (wb (q0.1))
noncomputable def z8:Nat→List C→Option C:=Sx.ext z7 74 (aO qq xJ)
theorem Wi (x:N7):noRefs 0 (qq x) =true:=by
 unfold qq;exact bM
theorem ahn (x y:N7)(h:qq x=qq y):xJ x=xJ y:=by
 simp only[qq,List.cons.injEq,C.val.injEq,C.agg.injEq,C.kp.injEq,C.fn.injEq,aT,ax,aI,aV,aU,aF,aM,aH,Value.int.injEq,Value.bool.injEq,true_and,and_true] at h;simp only[xJ,h]
theorem Wj {gl:Nat→C}(hgn:∀g,ah 0 (gl g) =true)(hg0:gl 0= .kp (cl wC kc))(hg2:gl 2= .kp (cl wC kc))(M:Nat):CxOK (af gl M z8):=am (N:=0) (Wh hgn hg0 hg2 0) Wi fun q0=>ai0 (Wh hgn hg0 hg2 0) (by intros;rename_i m hm;exact (tW (m:Int) (by omega)).trans (by rw[gC])) ((q0.1)) q0.2
theorem ace:∀ (g:Nat)(xs:List C),noRefs 0 xs=false→z8 g xs=none:=aJ acd Wi
theorem N8 (s:List UInt8)(hc0:s.length< 70368744177664):z8 74 [.val (str s)] =some (sl bC (.own 1) (wb s)):=
 (ar _).trans (aj ahn ⟨(s),hc0⟩)
abbrev N9:= {q0:Int×(List (List UInt8)) // ((co (q0.1) (q0.2)).length< 1099511627776)}
def qr (q0:N9):List C:=[.val (.int .i64 (q0.1.1)),sl sC .no (q0.1.2)]
noncomputable def xK (q0:N9):C:= .agg (cl bC ((gx (co (q0.1.1) (q0.1.2))).take 16))
noncomputable def Aa:Nat→List C→Option C:=Sx.ext z8 78 (aO qr xK)
theorem Wk (x:N9):noRefs 0 (qr x) =true:=by
 unfold qr;exact bM
theorem aho (x y:N9)(h:qr x=qr y):xK x=xK y:=by
 simp only[qr,List.cons.injEq,C.val.injEq,C.agg.injEq,C.kp.injEq,C.fn.injEq,aT,ax,aI,aV,aU,aF,aM,aH,Value.int.injEq,Value.bool.injEq,true_and,and_true] at h;simp only[xK,h]
theorem Wl {gl:Nat→C}(hgn:∀g,ah 0 (gl g) =true)(hg0:gl 0= .kp (cl wC kc))(hg2:gl 2= .kp (cl wC kc))(M:Nat):CxOK (af gl M Aa):=am (N:=0) (Wj hgn hg0 hg2 0) Wk fun q0=>aiZ (Wj hgn hg0 hg2 0) (by intros;(iterate 8 refine (ae (by decide) _).trans ?_);apply ahf<;>first|assumption|omega) (by intros;(iterate 3 refine (ae (by decide) _).trans ?_);apply N4<;>first|assumption|omega) (by intros;(iterate 2 refine (ae (by decide) _).trans ?_);apply acb<;>first|assumption|omega) (by intros;apply N8<;>first|assumption|omega) ((q0.1.1)) ((q0.1.2)) q0.2
theorem acf:∀ (g:Nat)(xs:List C),noRefs 0 xs=false→Aa g xs=none:=aJ ace Wk
theorem EN (tag:Int)(parts:List (List UInt8))(hc0: (co tag parts).length< 1099511627776):Aa 78 [.val (.int .i64 tag),sl sC .no parts] =some (.agg (cl bC ((gx (co tag parts)).take 16))):=
 (ar _).trans (aj aho ⟨(tag,parts),hc0⟩)
abbrev Oa:= {q0:Nat×(List UInt8) // ((q0.1)≤4096)∧((q0.2).length=16)}
def qs (q0:Oa):List C:=[.val (nI (q0.1.1)),.agg (cl bC (q0.1.2))]
noncomputable def xL (q0:Oa):C:= .agg (cl bC (g8 (q0.1.1) (q0.1.2)))
noncomputable def Ab:Nat→List C→Option C:=Sx.ext Aa 50 (aO qs xL)
theorem Wm (x:Oa):noRefs 0 (qs x) =true:=by
 unfold qs;exact bM
theorem ahp (x y:Oa)(h:qs x=qs y):xL x=xL y:=by
 simp only[qs,List.cons.injEq,C.val.injEq,C.agg.injEq,C.kp.injEq,C.fn.injEq,aT,ax,aI,aV,aU,aF,aM,aH,Value.int.injEq,Value.bool.injEq,true_and,and_true] at h;simp only[xL,h]
theorem Wn {gl:Nat→C}(hgn:∀g,ah 0 (gl g) =true)(hg0:gl 0= .kp (cl wC kc))(hg2:gl 2= .kp (cl wC kc))(M:Nat):CxOK (af gl M Ab):=am (N:=0) (Wl hgn hg0 hg2 0) Wm fun q0=>agr (Wl hgn hg0 hg2 0) (by intros;apply EN<;>first|assumption|omega) (by intros;(iterate 2 refine (ae (by decide) _).trans ?_);apply tW<;>first|assumption|omega) ((q0.1.1)) ((q0.1.2)) q0.2.1 q0.2.2
theorem acg:∀ (g:Nat)(xs:List C),noRefs 0 xs=false→Ab g xs=none:=aJ acf Wm
theorem Ob (n:Nat)(d:List UInt8)(hc0:n≤4096)(hc1:d.length=16):Ab 50 [.val (nI n),.agg (cl bC d)] =some (.agg (cl bC (g8 n d))):=
 (ar _).trans (aj ahp ⟨(n,d),⟨hc0,hc1⟩⟩)
abbrev Oc:= {q0:ab // ((q0).1.length≤65536∧(q0).2.length≤65536)}
def qt (q0:Oc):List C:=[.agg (eC (q0.1))]
noncomputable def xM (q0:Oc):C:= .agg (cl bC (fK (q0.1)))
noncomputable def Ac:Nat→List C→Option C:=Sx.ext Ab 80 (aO qt xM)
theorem Wo (x:Oc):noRefs 0 (qt x) =true:=by
 unfold qt;exact bM
theorem ahq (x y:Oc)(h:qt x=qt y):xM x=xM y:=by
 simp only[qt,List.cons.injEq,C.val.injEq,C.agg.injEq,C.kp.injEq,C.fn.injEq,aT,ax,aI,aV,aU,aF,aM,aH,Value.int.injEq,Value.bool.injEq,true_and,and_true] at h;simp only[xM,h]
theorem Wp {gl:Nat→C}(hgn:∀g,ah 0 (gl g) =true)(hg0:gl 0= .kp (cl wC kc))(hg2:gl 2= .kp (cl wC kc))(M:Nat):CxOK (af gl M Ac):=am (N:=0) (Wn hgn hg0 hg2 0) Wo fun q0=>ago (Wn hgn hg0 hg2 0) (by intros;(iterate 1 refine (ae (by decide) _).trans ?_);apply EN<;>first|assumption|omega) ((q0.1)) q0.2
theorem ach:∀ (g:Nat)(xs:List C),noRefs 0 xs=false→Ac g xs=none:=aJ acg Wo
theorem Od (x:ab)(hc0:x.1.length≤65536∧x.2.length≤65536):Ac 80 [.agg (eC x)] =some (.agg (cl bC (fK x))):=
 (ar _).trans (aj ahq ⟨(x),hc0⟩)
abbrev Oe:= {q0:Nat×Nat // ((q0.1)≤(q0.2)∧(q0.2)≤4611686018427387000)}
def qu (q0:Oe):List C:=[.val (nI (q0.1.1)),.val (nI (q0.1.2))]
noncomputable def xN (q0:Oe):C:= .val (nI ((q0.1.1)+aR ((q0.1.2) - (q0.1.1))))
noncomputable def Ad:Nat→List C→Option C:=Sx.ext Ac 81 (aO qu xN)
theorem Wq (x:Oe):noRefs 0 (qu x) =true:=by
 unfold qu;exact bM
theorem ahr (x y:Oe)(h:qu x=qu y):xN x=xN y:=by
 simp only[qu,List.cons.injEq,C.val.injEq,C.agg.injEq,C.kp.injEq,C.fn.injEq,aT,ax,aI,aV,aU,aF,aM,aH,Value.int.injEq,Value.bool.injEq,true_and,and_true] at h;simp only[xN,h]
theorem Wr {gl:Nat→C}(hgn:∀g,ah 0 (gl g) =true)(hg0:gl 0= .kp (cl wC kc))(hg2:gl 2= .kp (cl wC kc))(M:Nat):CxOK (af gl M Ad):=am (N:=0) (Wp hgn hg0 hg2 0) Wq fun q0=>agn (Wp hgn hg0 hg2 0) ((q0.1.1)) ((q0.1.2)) q0.2
theorem aci:∀ (g:Nat)(xs:List C),noRefs 0 xs=false→Ad g xs=none:=aJ ach Wq
theorem EO (x:Nat)(y:Nat)(hc0:x≤y∧y≤4611686018427387000):Ad 81 [.val (nI x),.val (nI y)] =some (.val (nI (x+aR (y - x)))):=
 (ar _).trans (aj ahr ⟨(x,y),hc0⟩)
abbrev Of:= {q0: (List UInt8)×(List UInt8) // ((q0.1).length=16)∧((q0.2).length=16)}
def qv (q0:Of):List C:=[.agg (cl bC (q0.1.1)),.agg (cl bC (q0.1.2))]
noncomputable def xO (q0:Of):C:= .agg (cl bC (iQ (q0.1.1) (q0.1.2)))
noncomputable def Ae:Nat→List C→Option C:=Sx.ext Ad 82 (aO qv xO)
theorem Ws (x:Of):noRefs 0 (qv x) =true:=by
 unfold qv;exact bM
theorem ahs (x y:Of)(h:qv x=qv y):xO x=xO y:=by
 simp only[qv,List.cons.injEq,C.val.injEq,C.agg.injEq,C.kp.injEq,C.fn.injEq,aT,ax,aI,aV,aU,aF,aM,aH,Value.int.injEq,Value.bool.injEq,true_and,and_true] at h;simp only[xO,h]
theorem Wt {gl:Nat→C}(hgn:∀g,ah 0 (gl g) =true)(hg0:gl 0= .kp (cl wC kc))(hg2:gl 2= .kp (cl wC kc))(M:Nat):CxOK (af gl M Ae):=am (N:=0) (Wr hgn hg0 hg2 0) Ws fun q0=>agp (Wr hgn hg0 hg2 0) (by intros;(iterate 3 refine (ae (by decide) _).trans ?_);apply EN<;>first|assumption|omega) ((q0.1.1)) ((q0.1.2)) q0.2.1 q0.2.2
theorem acj:∀ (g:Nat)(xs:List C),noRefs 0 xs=false→Ae g xs=none:=aJ aci Ws
theorem Og (a:List UInt8)(b:List UInt8)(hc0:a.length=16)(hc1:b.length=16):Ae 82 [.agg (cl bC a),.agg (cl bC b)] =some (.agg (cl bC (iQ a b))):=
 (ar _).trans (aj ahs ⟨(a,b),⟨hc0,hc1⟩⟩)
abbrev Oh:= {q0:Nat×(List ab)×Nat×Nat // (OkL (q0.2.1))∧((q0.2.2.1) < (q0.2.2.2)∧(q0.2.2.2)≤(q0.2.1).length∧(q0.2.2.2) - (q0.2.2.1)≤2 ^ (q0.1))}
def qw (q0:Oh):List C:=[.val (nI (q0.1.2.2.1)),.val (nI (q0.1.2.2.2)),.kp [sl eC .no (q0.1.2.1)],cy 79 [.kp [sl eC .no (q0.1.2.1)]] (q0.1.1)]
noncomputable def xP (q0:Oh):C:= .agg (cl bC (du (q0.1.2.1) (q0.1.1) (q0.1.2.2.1) (q0.1.2.2.2)))
noncomputable def Af:Nat→List C→Option C:=Sx.ext Ae 79 (aO qw xP)
theorem Wu (x:Oh):noRefs 0 (qw x) =true:=by
 unfold qw;exact bM
theorem aht (x y:Oh)(h:qw x=qw y):xP x=xP y:=by
 simp only[qw,List.cons.injEq,C.val.injEq,C.kp.injEq,aI,aH,true_and,and_true] at h;have e:=qj h.2.2.2;simp only[xP,h,e]
theorem Wv {gl:Nat→C}(hgn:∀g,ah 0 (gl g) =true)(hg0:gl 0= .kp (cl wC kc))(hg2:gl 2= .kp (cl wC kc))(M:Nat):CxOK (af gl M Af):=am (N:=0) (Wt hgn hg0 hg2 0) Wu fun q0=>Vd (Wt hgn hg0 hg2 0) (by intros;(iterate 2 refine (ae (by decide) _).trans ?_);apply Od<;>first|assumption|omega) (by intros;(iterate 1 refine (ae (by decide) _).trans ?_);apply EO<;>first|assumption|omega) (by intros;apply Og<;>first|assumption|omega) ((q0.1.1)) ((q0.1.2.1)) ((q0.1.2.2.1)) ((q0.1.2.2.2)) q0.2.1 q0.2.2
theorem ack:∀ (g:Nat)(xs:List C),noRefs 0 xs=false→Af g xs=none:=aJ acj Wu
theorem acl (d:Nat)(l:List ab)(a:Nat)(b:Nat)(hc0:OkL l)(hc1:a< b∧b≤l.length∧b - a≤2 ^ d):Af 79 [.val (nI a),.val (nI b),.kp [sl eC .no l],cy 79 [.kp [sl eC .no l]] d] =some (.agg (cl bC (du l d a b))):=
 (ar _).trans (aj aht ⟨(d,l,a,b),⟨hc0,hc1⟩⟩)
abbrev Oi:= {q0: (List ab) // (OkL (q0))∧(0< (q0).length)}
def qx (q0:Oi):List C:=[sl eC .no (q0.1)]
noncomputable def xQ (q0:Oi):C:= .agg (cl bC (lm (q0.1)))
noncomputable def Ag:Nat→List C→Option C:=Sx.ext Af 51 (aO qx xQ)
theorem Ww (x:Oi):noRefs 0 (qx x) =true:=by
 unfold qx;exact bM
theorem ahu (x y:Oi)(h:qx x=qx y):xQ x=xQ y:=by
 simp only[qx,List.cons.injEq,C.val.injEq,C.agg.injEq,C.kp.injEq,C.fn.injEq,aT,ax,aI,aV,aU,aF,aM,aH,Value.int.injEq,Value.bool.injEq,true_and,and_true] at h;simp only[xQ,h]
theorem Wx {gl:Nat→C}(hgn:∀g,ah 0 (gl g) =true)(hg0:gl 0= .kp (cl wC kc))(hg2:gl 2= .kp (cl wC kc))(M:Nat):CxOK (af gl M Ag):=am (N:=0) (Wv hgn hg0 hg2 0) Ww fun q0=>aiS (Wv hgn hg0 hg2 0) (by intros;apply acl<;>first|assumption|omega) ((q0.1)) q0.2.1 q0.2.2
theorem acm:∀ (g:Nat)(xs:List C),noRefs 0 xs=false→Ag g xs=none:=aJ ack Ww
theorem Oj (l:List ab)(hc0:OkL l)(hc1:0< l.length):Ag 51 [sl eC .no l] =some (.agg (cl bC (lm l))):=
 (ar _).trans (aj ahu ⟨(l),⟨hc0,hc1⟩⟩)
abbrev Ok:= {q0: (List ab) // (LB (q0))}
def qy (q0:Ok):List C:=[sl eC .no (q0.1)]
noncomputable def xR (q0:Ok):C:= .tup [.agg (cl bC (na (q0.1)).1),.val (nI (na (q0.1)).2)]
noncomputable def Ah:Nat→List C→Option C:=Sx.ext Ag 12 (aO qy xR)
theorem Wy (x:Ok):noRefs 0 (qy x) =true:=by
 unfold qy;exact bM
theorem ahv (x y:Ok)(h:qy x=qy y):xR x=xR y:=by
 simp only[qy,List.cons.injEq,C.val.injEq,C.agg.injEq,C.kp.injEq,C.fn.injEq,aT,ax,aI,aV,aU,aF,aM,aH,Value.int.injEq,Value.bool.injEq,true_and,and_true] at h;simp only[xR,h]
theorem Wz {gl:Nat→C}(hgn:∀g,ah 0 (gl g) =true)(hg0:gl 0= .kp (cl wC kc))(hg2:gl 2= .kp (cl wC kc))(M:Nat):CxOK (af gl M Ah):=am (N:=0) (Wx hgn hg0 hg2 0) Wy fun q0=>aiT (Wx hgn hg0 hg2 0) (by intros;(iterate 16 refine (ae (by decide) _).trans ?_);apply EK<;>first|assumption|omega) (by intros;(iterate 5 refine (ae (by decide) _).trans ?_);apply Ob<;>first|assumption|omega) (by intros;apply Oj<;>first|assumption|omega) ((q0.1)) q0.2
theorem acn:∀ (g:Nat)(xs:List C),noRefs 0 xs=false→Ah g xs=none:=aJ acm Wy
theorem aco (l:List ab)(hc0:LB l):Ah 12 [sl eC .no l] =some (.tup [.agg (cl bC (na l).1),.val (nI (na l).2)]):=
 (ar _).trans (aj ahv ⟨(l),hc0⟩)
abbrev Ol:= {q0: (List UInt8)×(List UInt8) // True}
def qz (q0:Ol):List C:=[.val (str (q0.1.1)),.val (str (q0.1.2))]
noncomputable def xS (q0:Ol):C:= .val (.int .i64 (fF (q0.1.1) (q0.1.2)))
noncomputable def Ai:Nat→List C→Option C:=Sx.ext Ah 90 (aO qz xS)
theorem WA (x:Ol):noRefs 0 (qz x) =true:=by
 unfold qz;exact bM
theorem ahw (x y:Ol)(h:qz x=qz y):xS x=xS y:=by
 simp only[qz,List.cons.injEq,C.val.injEq,C.agg.injEq,C.kp.injEq,C.fn.injEq,aT,ax,aI,aV,aU,aF,aM,aH,Value.int.injEq,Value.bool.injEq,true_and,and_true] at h;simp only[xS,h]
theorem WB {gl:Nat→C}(hgn:∀g,ah 0 (gl g) =true)(hg0:gl 0= .kp (cl wC kc))(hg2:gl 2= .kp (cl wC kc))(M:Nat):CxOK (af gl M Ai):=am (N:=0) (Wz hgn hg0 hg2 0) WA fun q0=>abO (Wz hgn hg0 hg2 0) ((q0.1.1)) ((q0.1.2))
theorem acp:∀ (g:Nat)(xs:List C),noRefs 0 xs=false→Ai g xs=none:=aJ acn WA
theorem acq (a:List UInt8)(b:List UInt8):Ai 90 [.val (str a),.val (str b)] =some (.val (.int .i64 (fF a b))):=
 (ar _).trans (aj ahw ⟨(a,b),trivial⟩)
abbrev Om:= {q0:ab×(List UInt8) // True}
def qA (q0:Om):List C:=[.agg (eC (q0.1.1)),.val (str (q0.1.2))]
noncomputable def xT (q0:Om):C:= .val (.int .i64 (fF (q0.1.1).1 (q0.1.2)))
noncomputable def Aj:Nat→List C→Option C:=Sx.ext Ai 89 (aO qA xT)
theorem WC (x:Om):noRefs 0 (qA x) =true:=by
 unfold qA;exact bM
theorem ahx (x y:Om)(h:qA x=qA y):xT x=xT y:=by
 simp only[qA,List.cons.injEq,C.val.injEq,C.agg.injEq,C.kp.injEq,C.fn.injEq,aT,ax,aI,aV,aU,aF,aM,aH,Value.int.injEq,Value.bool.injEq,true_and,and_true] at h;simp only[xT,h]
theorem WD {gl:Nat→C}(hgn:∀g,ah 0 (gl g) =true)(hg0:gl 0= .kp (cl wC kc))(hg2:gl 2= .kp (cl wC kc))(M:Nat):CxOK (af gl M Aj):=am (N:=0) (WB hgn hg0 hg2 0) WC fun q0=>af1 (WB hgn hg0 hg2 0) (by intros;apply acq<;>first|assumption|omega) ((q0.1.1)) ((q0.1.2))
theorem acr:∀ (g:Nat)(xs:List C),noRefs 0 xs=false→Aj g xs=none:=aJ acp WC
theorem acs (x:ab)(k:List UInt8):Aj 89 [.agg (eC x),.val (str k)] =some (.val (.int .i64 (fF x.1 k))):=
 (ar _).trans (aj ahx ⟨(x,k),trivial⟩)
abbrev On:= {q0: (List ab)×(List UInt8) // (Srt (q0.1))∧((q0.1).length≤1000000)}
def qB (q0:On):List C:=[sl eC .no (q0.1.1),.val (str (q0.1.2)),.fn 89 []]
noncomputable def xU (q0:On):C:= .tup [.val (nI (bg (q0.1.1) (q0.1.2))),.val (.bool (zp (q0.1.1) (q0.1.2)))]
noncomputable def Ak:Nat→List C→Option C:=Sx.ext Aj 88 (aO qB xU)
theorem WE (x:On):noRefs 0 (qB x) =true:=by
 unfold qB;exact bM
theorem ahy (x y:On)(h:qB x=qB y):xU x=xU y:=by
 simp only[qB,List.cons.injEq,C.val.injEq,C.agg.injEq,C.kp.injEq,C.fn.injEq,aT,ax,aI,aV,aU,aF,aM,aH,Value.int.injEq,Value.bool.injEq,true_and,and_true] at h;simp only[xU,h]
theorem WF {gl:Nat→C}(hgn:∀g,ah 0 (gl g) =true)(hg0:gl 0= .kp (cl wC kc))(hg2:gl 2= .kp (cl wC kc))(M:Nat):CxOK (af gl M Ak):=am (N:=0) (WD hgn hg0 hg2 0) WE fun q0=>af2 (WD hgn hg0 hg2 0) (by intros;apply acs<;>first|assumption|omega) ((q0.1.1)) ((q0.1.2)) q0.2.1 q0.2.2
theorem acu:∀ (g:Nat)(xs:List C),noRefs 0 xs=false→Ak g xs=none:=aJ acr WE
theorem acv (l:List ab)(k:List UInt8)(hc0:Srt l)(hc1:l.length≤1000000):Ak 88 [sl eC .no l,.val (str k),.fn 89 []] =some (.tup [.val (nI (bg l k)),.val (.bool (zp l k))]):=
 (ar _).trans (aj ahy ⟨(l,k),⟨hc0,hc1⟩⟩)
abbrev Oo:= {q0: (List ab)×(List UInt8) // (Srt (q0.1))∧((q0.1).length≤1000000)}
def qC (q0:Oo):List C:=[sl eC .no (q0.1.1),.val (str (q0.1.2))]
noncomputable def xV (q0:Oo):C:= .val (nI (bg (q0.1.1) (q0.1.2)))
noncomputable def Al:Nat→List C→Option C:=Sx.ext Ak 56 (aO qC xV)
theorem WG (x:Oo):noRefs 0 (qC x) =true:=by
 unfold qC;exact bM
theorem ahz (x y:Oo)(h:qC x=qC y):xV x=xV y:=by
 simp only[qC,List.cons.injEq,C.val.injEq,C.agg.injEq,C.kp.injEq,C.fn.injEq,aT,ax,aI,aV,aU,aF,aM,aH,Value.int.injEq,Value.bool.injEq,true_and,and_true] at h;simp only[xV,h]
theorem WH {gl:Nat→C}(hgn:∀g,ah 0 (gl g) =true)(hg0:gl 0= .kp (cl wC kc))(hg2:gl 2= .kp (cl wC kc))(M:Nat):CxOK (af gl M Al):=am (N:=0) (WF hgn hg0 hg2 0) WG fun q0=>af3 (WF hgn hg0 hg2 0) (by intros;apply acv<;>first|assumption|omega) ((q0.1.1)) ((q0.1.2)) q0.2.1 q0.2.2
theorem acw:∀ (g:Nat)(xs:List C),noRefs 0 xs=false→Al g xs=none:=aJ acu WG
theorem xW (l:List ab)(k:List UInt8)(hc0:Srt l)(hc1:l.length≤1000000):Al 56 [sl eC .no l,.val (str k)] =some (.val (nI (bg l k))):=
 (ar _).trans (aj ahz ⟨(l,k),⟨hc0,hc1⟩⟩)
abbrev Oq:= {q0: (List ab) // ((q0).length≤1000000)}
def qD (q0:Oq):List C:=[sl eC .no (q0.1)]
noncomputable def xX (q0:Oq):C:=sl eC (.own 2) (q0.1)
noncomputable def Am:Nat→List C→Option C:=Sx.ext Al 63 (aO qD xX)
theorem WI (x:Oq):noRefs 0 (qD x) =true:=by
 unfold qD;exact bM
theorem ahA (x y:Oq)(h:qD x=qD y):xX x=xX y:=by
 simp only[qD,List.cons.injEq,C.val.injEq,C.agg.injEq,C.kp.injEq,C.fn.injEq,aT,ax,aI,aV,aU,aF,aM,aH,Value.int.injEq,Value.bool.injEq,true_and,and_true] at h;simp only[xX,h]
theorem WJ {gl:Nat→C}(hgn:∀g,ah 0 (gl g) =true)(hg0:gl 0= .kp (cl wC kc))(hg2:gl 2= .kp (cl wC kc))(M:Nat):CxOK (af gl M Am):=am (N:=0) (WH hgn hg0 hg2 0) WI fun q0=>agt (WH hgn hg0 hg2 0) ((q0.1)) q0.2
theorem Ot:∀ (g:Nat)(xs:List C),noRefs 0 xs=false→Am g xs=none:=aJ acw WI
theorem Ou (l:List ab)(hc0:l.length≤1000000):Am 63 [sl eC .no l] =some (sl eC (.own 2) l):=
 (ar _).trans (aj ahA ⟨(l),hc0⟩)
abbrev Ov:= {q0: (List ab)×Nat×Nat // (OkL (q0.1))∧((q0.2.1)≤(q0.2.2)∧(q0.2.2)≤(q0.1).length)}
def qE (q0:Ov):List C:=[sl eC .no (q0.1.1),.val (nI (q0.1.2.1)),.val (nI (q0.1.2.2))]
noncomputable def xY (q0:Ov):C:= .agg [.val (nI (q0.1.2.1)),.val (nI (q0.1.1).length),sl eC .no (((q0.1.1).drop (q0.1.2.1)).take ((q0.1.2.2) - (q0.1.2.1))),sl dC .no (cd (q0.1.1) (q0.1.2.1) (q0.1.2.2))]
noncomputable def An:Nat→List C→Option C:=Sx.ext Am 57 (aO qE xY)
theorem WK (x:Ov):noRefs 0 (qE x) =true:=by
 unfold qE;exact bM
theorem ahB (x y:Ov)(h:qE x=qE y):xY x=xY y:=by
 simp only[qE,List.cons.injEq,C.val.injEq,C.agg.injEq,C.kp.injEq,C.fn.injEq,aT,ax,aI,aV,aU,aF,aM,aH,Value.int.injEq,Value.bool.injEq,true_and,and_true] at h;simp only[xY,h]
theorem WL {gl:Nat→C}(hgn:∀g,ah 0 (gl g) =true)(hg0:gl 0= .kp (cl wC kc))(hg2:gl 2= .kp (cl wC kc))(M:Nat):CxOK (af gl M An):=am (N:=0) (WJ hgn hg0 hg2 0) WK fun q0=>abM (WJ hgn hg0 hg2 0) Ot (by intros;apply Ou<;>first|assumption|omega) (by intros;(iterate 6 refine (ae (by decide) _).trans ?_);apply Oj<;>first|assumption|omega) (by intros;(iterate 9 refine (ae (by decide) _).trans ?_);apply EO<;>first|assumption|omega) ((q0.1.1)) ((q0.1.2.1)) ((q0.1.2.2)) q0.2.1 q0.2.2
theorem acx:∀ (g:Nat)(xs:List C),noRefs 0 xs=false→An g xs=none:=aJ Ot WK
theorem Ox (l:List ab)(f:Nat)(e:Nat)(hc0:OkL l)(hc1:f≤e∧e≤l.length):An 57 [sl eC .no l,.val (nI f),.val (nI e)] =some (.agg [.val (nI f),.val (nI l.length),sl eC .no ((l.drop f).take (e - f)),sl dC .no (cd l f e)]):=
 (ar _).trans (aj ahB ⟨(l,f,e),⟨hc0,hc1⟩⟩)
abbrev Oy:= {q0: (List ab)×(List UInt8) // (LB (q0.1))}
def qF (q0:Oy):List C:=[sl eC .no (q0.1.1),.val (str (q0.1.2))]
noncomputable def xZ (q0:Oy):C:= .tup [.agg [.val (nI (bR (q0.1.1) (q0.1.2)).1.1),.val (nI (bR (q0.1.1) (q0.1.2)).1.2.1),sl eC .no (bR (q0.1.1) (q0.1.2)).1.2.2.1,sl dC .no (bR (q0.1.1) (q0.1.2)).1.2.2.2],.val (nI (bR (q0.1.1) (q0.1.2)).2)]
noncomputable def Ao:Nat→List C→Option C:=Sx.ext An 22 (aO qF xZ)
theorem WM (x:Oy):noRefs 0 (qF x) =true:=by
 unfold qF;exact bM
theorem ahC (x y:Oy)(h:qF x=qF y):xZ x=xZ y:=by
 simp only[qF,List.cons.injEq,C.val.injEq,C.agg.injEq,C.kp.injEq,C.fn.injEq,aT,ax,aI,aV,aU,aF,aM,aH,Value.int.injEq,Value.bool.injEq,true_and,and_true] at h;simp only[xZ,h]
theorem WN {gl:Nat→C}(hgn:∀g,ah 0 (gl g) =true)(hg0:gl 0= .kp (cl wC kc))(hg2:gl 2= .kp (cl wC kc))(M:Nat):CxOK (af gl M Ao):=am (N:=0) (WL hgn hg0 hg2 0) WM fun q0=>af6 (WL hgn hg0 hg2 0) (by intros;(iterate 23 refine (ae (by decide) _).trans ?_);apply EK<;>first|assumption|omega) (by intros;(iterate 2 refine (ae (by decide) _).trans ?_);apply xW<;>first|assumption|omega) (by intros;apply Ox<;>first|assumption|omega) ((q0.1.1)) ((q0.1.2)) q0.2
theorem acy:∀ (g:Nat)(xs:List C),noRefs 0 xs=false→Ao g xs=none:=aJ acx WM
theorem acz (l:List ab)(k:List UInt8)(hc0:LB l):Ao 22 [sl eC .no l,.val (str k)] =some (.tup [.agg [.val (nI (bR l k).1.1),.val (nI (bR l k).1.2.1),sl eC .no (bR l k).1.2.2.1,sl dC .no (bR l k).1.2.2.2],.val (nI (bR l k).2)]):=
 (ar _).trans (aj ahC ⟨(l,k),hc0⟩)
abbrev Oz:= {q0: (List ab)×(List UInt8)×(List UInt8) // (LB (q0.1))}
def qG (q0:Oz):List C:=[sl eC .no (q0.1.1),.val (str (q0.1.2.1)),.val (str (q0.1.2.2))]
noncomputable def x3 (q0:Oz):C:= .tup [.agg [.val (nI (ex (q0.1.1) (q0.1.2.1) (q0.1.2.2)).1.1),.val (nI (ex (q0.1.1) (q0.1.2.1) (q0.1.2.2)).1.2.1),sl eC .no (ex (q0.1.1) (q0.1.2.1) (q0.1.2.2)).1.2.2.1,sl dC .no (ex (q0.1.1) (q0.1.2.1) (q0.1.2.2)).1.2.2.2],.val (nI (ex (q0.1.1) (q0.1.2.1) (q0.1.2.2)).2)]
noncomputable def Ap:Nat→List C→Option C:=Sx.ext Ao 24 (aO qG x3)
theorem WO (x:Oz):noRefs 0 (qG x) =true:=by
 unfold qG;exact bM
theorem ahD (x y:Oz)(h:qG x=qG y):x3 x=x3 y:=by
 simp only[qG,List.cons.injEq,C.val.injEq,C.agg.injEq,C.kp.injEq,C.fn.injEq,aT,ax,aI,aV,aU,aF,aM,aH,Value.int.injEq,Value.bool.injEq,true_and,and_true] at h;simp only[x3,h]
theorem WP {gl:Nat→C}(hgn:∀g,ah 0 (gl g) =true)(hg0:gl 0= .kp (cl wC kc))(hg2:gl 2= .kp (cl wC kc))(M:Nat):CxOK (af gl M Ap):=am (N:=0) (WN hgn hg0 hg2 0) WO fun q0=>af7 (WN hgn hg0 hg2 0) (by intros;(iterate 24 refine (ae (by decide) _).trans ?_);apply EK<;>first|assumption|omega) (by intros;(iterate 3 refine (ae (by decide) _).trans ?_);apply xW<;>first|assumption|omega) (by intros;(iterate 1 refine (ae (by decide) _).trans ?_);apply Ox<;>first|assumption|omega) ((q0.1.1)) ((q0.1.2.1)) ((q0.1.2.2)) q0.2
theorem OA:∀ (g:Nat)(xs:List C),noRefs 0 xs=false→Ap g xs=none:=aJ acy WO
theorem acA (l:List ab)(x:List UInt8)(y:List UInt8)(hc0:LB l):Ap 24 [sl eC .no l,.val (str x),.val (str y)] =some (.tup [.agg [.val (nI (ex l x y).1.1),.val (nI (ex l x y).1.2.1),sl eC .no (ex l x y).1.2.2.1,sl dC .no (ex l x y).1.2.2.2],.val (nI (ex l x y).2)]):=
 (ar _).trans (aj ahD ⟨(l,x,y),hc0⟩)
abbrev OB:= {q0: (List UInt8)×Int×Int×(List ab)×(List ba) // ((q0.1).length=16)∧(-9223372036854775808≤(q0.2.1)∧(q0.2.1)≤9223372036854775807)∧(-9223372036854775808≤(q0.2.2.1)∧(q0.2.2.1)≤9223372036854775807)∧(LB (q0.2.2.2.1))∧((q0.2.2.2.2).length≤1000000)}
def qH (q0:OB):List C:=[.agg [.val (.int .i64 (q0.1.2.1)),.val (.int .i64 (q0.1.2.2.1)),sl eC .no (q0.1.2.2.2.1),sl dC .no (q0.1.2.2.2.2)],.agg (cl bC (q0.1.1))]
noncomputable def x4 (q0:OB):C:= .val (.bool (d9 (q0.1.1) (q0.1.2.1) (q0.1.2.2.1) (q0.1.2.2.2.1) (q0.1.2.2.2.2)))
noncomputable def Aq:Nat→List C→Option C:=Sx.ext Ap 61 (aO qH x4)
theorem WQ (x:OB):noRefs 0 (qH x) =true:=by
 unfold qH;exact bM
theorem ahE (x y:OB)(h:qH x=qH y):x4 x=x4 y:=by
 simp only[qH,List.cons.injEq,C.val.injEq,C.agg.injEq,C.kp.injEq,C.fn.injEq,aT,ax,aI,aV,aU,aF,aM,aH,Value.int.injEq,Value.bool.injEq,true_and,and_true] at h;simp only[x4,h]
theorem WR {gl:Nat→C}(hgn:∀g,ah 0 (gl g) =true)(hg0:gl 0= .kp (cl wC kc))(hg2:gl 2= .kp (cl wC kc))(M:Nat):CxOK (af gl M Aq):=am (N:=0) (WP hgn hg0 hg2 0) WQ fun q0=>abN (WP hgn hg0 hg2 0) OA (by intros;(iterate 25 refine (ae (by decide) _).trans ?_);apply EK<;>first|assumption|omega) (by intros;(iterate 14 refine (ae (by decide) _).trans ?_);apply Ob<;>first|assumption|omega) (by intros;(iterate 13 refine (ae (by decide) _).trans ?_);apply Od<;>first|assumption|omega) (by intros;(iterate 12 refine (ae (by decide) _).trans ?_);apply EO<;>first|assumption|omega) (by intros;(iterate 11 refine (ae (by decide) _).trans ?_);apply Og<;>first|assumption|omega) ((q0.1.1)) ((q0.1.2.1)) ((q0.1.2.2.1)) ((q0.1.2.2.2.1)) ((q0.1.2.2.2.2)) q0.2.1 q0.2.2.1 q0.2.2.2.1 q0.2.2.2.2.1 q0.2.2.2.2.2
theorem acB:∀ (g:Nat)(xs:List C),noRefs 0 xs=false→Aq g xs=none:=aJ OA WQ
theorem OC (r:List UInt8)(f:Int)(z:Int)(l:List ab)(S:List ba)(hc0:r.length=16)(hc1: -9223372036854775808≤f∧f≤9223372036854775807)(hc2: -9223372036854775808≤z∧z≤9223372036854775807)(hc3:LB l)(hc4:S.length≤1000000):Aq 61 [.agg [.val (.int .i64 f),.val (.int .i64 z),sl eC .no l,sl dC .no S],.agg (cl bC r)] =some (.val (.bool (d9 r f z l S))):=
 (ar _).trans (aj ahE ⟨(r,f,z,l,S),⟨hc0,hc1,hc2,hc3,hc4⟩⟩)
abbrev OD:= {q0: (List UInt8)×(List UInt8)×Int×Int×(List ab)×(List ba) // ((q0.1).length=16)∧(-9223372036854775808≤(q0.2.2.1)∧(q0.2.2.1)≤9223372036854775807)∧(-9223372036854775808≤(q0.2.2.2.1)∧(q0.2.2.2.1)≤9223372036854775807)∧(LB (q0.2.2.2.2.1))∧((q0.2.2.2.2.2).length≤1000000)}
def qI (q0:OD):List C:=[.agg (cl bC (q0.1.1)),.val (str (q0.1.2.1)),.agg [.val (.int .i64 (q0.1.2.2.1)),.val (.int .i64 (q0.1.2.2.2.1)),sl eC .no (q0.1.2.2.2.2.1),sl dC .no (q0.1.2.2.2.2.2)]]
noncomputable def x5 (q0:OD):C:= .tup [.val (str (eP (q0.1.1) (q0.1.2.1) (q0.1.2.2.1) (q0.1.2.2.2.1) (q0.1.2.2.2.2.1) (q0.1.2.2.2.2.2)).1),.val (.bool (eP (q0.1.1) (q0.1.2.1) (q0.1.2.2.1) (q0.1.2.2.2.1) (q0.1.2.2.2.2.1) (q0.1.2.2.2.2.2)).2.1),.val (nI (eP (q0.1.1) (q0.1.2.1) (q0.1.2.2.1) (q0.1.2.2.2.1) (q0.1.2.2.2.2.1) (q0.1.2.2.2.2.2)).2.2)]
noncomputable def Ar:Nat→List C→Option C:=Sx.ext Aq 29 (aO qI x5)
theorem WS (x:OD):noRefs 0 (qI x) =true:=by
 unfold qI;exact bM
theorem ahF (x y:OD)(h:qI x=qI y):x5 x=x5 y:=by
 simp only[qI,List.cons.injEq,C.val.injEq,C.agg.injEq,C.kp.injEq,C.fn.injEq,aT,ax,aI,aV,aU,aF,aM,aH,Value.int.injEq,Value.bool.injEq,true_and,and_true] at h;simp only[x5,h]
theorem WT {gl:Nat→C}(hgn:∀g,ah 0 (gl g) =true)(hg0:gl 0= .kp (cl wC kc))(hg2:gl 2= .kp (cl wC kc))(M:Nat):CxOK (af gl M Ar):=am (N:=0) (WR hgn hg0 hg2 0) WS fun q0=>af9 (WR hgn hg0 hg2 0) (by intros;apply OC<;>first|assumption|omega) (by intros;(iterate 5 refine (ae (by decide) _).trans ?_);apply xW<;>first|assumption|omega) ((q0.1.1)) ((q0.1.2.1)) ((q0.1.2.2.1)) ((q0.1.2.2.2.1)) ((q0.1.2.2.2.2.1)) ((q0.1.2.2.2.2.2)) q0.2.1 q0.2.2.1 q0.2.2.2.1 q0.2.2.2.2.1 q0.2.2.2.2.2
theorem acC:∀ (g:Nat)(xs:List C),noRefs 0 xs=false→Ar g xs=none:=aJ acB WS
theorem acD (r:List UInt8)(k:List UInt8)(f:Int)(z:Int)(l:List ab)(S:List ba)(hc0:r.length=16)(hc1: -9223372036854775808≤f∧f≤9223372036854775807)(hc2: -9223372036854775808≤z∧z≤9223372036854775807)(hc3:LB l)(hc4:S.length≤1000000):Ar 29 [.agg (cl bC r),.val (str k),.agg [.val (.int .i64 f),.val (.int .i64 z),sl eC .no l,sl dC .no S]] =some (.tup [.val (str (eP r k f z l S).1),.val (.bool (eP r k f z l S).2.1),.val (nI (eP r k f z l S).2.2)]):=
 (ar _).trans (aj ahF ⟨(r,k,f,z,l,S),⟨hc0,hc1,hc2,hc3,hc4⟩⟩)
abbrev OE:= {q0: (List UInt8)×(List UInt8)×(List UInt8)×Int×Int×(List ab)×(List ba) // ((q0.1).length=16)∧(-9223372036854775808≤(q0.2.2.2.1)∧(q0.2.2.2.1)≤9223372036854775807)∧(-9223372036854775808≤(q0.2.2.2.2.1)∧(q0.2.2.2.2.1)≤9223372036854775807)∧(LB (q0.2.2.2.2.2.1))∧((q0.2.2.2.2.2.2).length≤1000000)}
def qJ (q0:OE):List C:=[.agg (cl bC (q0.1.1)),.val (str (q0.1.2.1)),.val (str (q0.1.2.2.1)),.agg [.val (.int .i64 (q0.1.2.2.2.1)),.val (.int .i64 (q0.1.2.2.2.2.1)),sl eC .no (q0.1.2.2.2.2.2.1),sl dC .no (q0.1.2.2.2.2.2.2)]]
noncomputable def x6 (q0:OE):C:= .tup [sl eC .no (iS (q0.1.1) (q0.1.2.1) (q0.1.2.2.1) (q0.1.2.2.2.1) (q0.1.2.2.2.2.1) (q0.1.2.2.2.2.2.1) (q0.1.2.2.2.2.2.2)).1,.val (nI (iS (q0.1.1) (q0.1.2.1) (q0.1.2.2.1) (q0.1.2.2.2.1) (q0.1.2.2.2.2.1) (q0.1.2.2.2.2.2.1) (q0.1.2.2.2.2.2.2)).2)]
noncomputable def As:Nat→List C→Option C:=Sx.ext Ar 32 (aO qJ x6)
theorem WU (x:OE):noRefs 0 (qJ x) =true:=by
 unfold qJ;exact bM
theorem ahG (x y:OE)(h:qJ x=qJ y):x6 x=x6 y:=by
 simp only[qJ,List.cons.injEq,C.val.injEq,C.agg.injEq,C.kp.injEq,C.fn.injEq,aT,ax,aI,aV,aU,aF,aM,aH,Value.int.injEq,Value.bool.injEq,true_and,and_true] at h;simp only[x6,h]
theorem WV {gl:Nat→C}(hgn:∀g,ah 0 (gl g) =true)(hg0:gl 0= .kp (cl wC kc))(hg2:gl 2= .kp (cl wC kc))(M:Nat):CxOK (af gl M As):=am (N:=0) (WT hgn hg0 hg2 0) WU fun q0=>aga (WT hgn hg0 hg2 0) (by intros;(iterate 1 refine (ae (by decide) _).trans ?_);apply OC<;>first|assumption|omega) (by intros;(iterate 6 refine (ae (by decide) _).trans ?_);apply xW<;>first|assumption|omega) (by intros;(iterate 5 refine (ae (by decide) _).trans ?_);apply Ou<;>first|assumption|omega) ((q0.1.1)) ((q0.1.2.1)) ((q0.1.2.2.1)) ((q0.1.2.2.2.1)) ((q0.1.2.2.2.2.1)) ((q0.1.2.2.2.2.2.1)) ((q0.1.2.2.2.2.2.2)) q0.2.1 q0.2.2.1 q0.2.2.2.1 q0.2.2.2.2.1 q0.2.2.2.2.2
theorem acE:∀ (g:Nat)(xs:List C),noRefs 0 xs=false→As g xs=none:=aJ acC WU
theorem acF (r:List UInt8)(x:List UInt8)(y:List UInt8)(f:Int)(z:Int)(l:List ab)(S:List ba)(hc0:r.length=16)(hc1: -9223372036854775808≤f∧f≤9223372036854775807)(hc2: -9223372036854775808≤z∧z≤9223372036854775807)(hc3:LB l)(hc4:S.length≤1000000):As 32 [.agg (cl bC r),.val (str x),.val (str y),.agg [.val (.int .i64 f),.val (.int .i64 z),sl eC .no l,sl dC .no S]] =some (.tup [sl eC .no (iS r x y f z l S).1,.val (nI (iS r x y f z l S).2)]):=
 (ar _).trans (aj ahG ⟨(r,x,y,f,z,l,S),⟨hc0,hc1,hc2,hc3,hc4⟩⟩)
abbrev OF:= {q0:Unit // True}
def tX (q0:OF):List C:=([]:List C)
noncomputable def EP (q0:OF):C:=sl eC .full bT
noncomputable def Au:Nat→List C→Option C:=Sx.ext As 55 (aO tX EP)
theorem WW (x:OF):noRefs 0 (tX x) =true:=by
 unfold tX;exact bM
theorem ahH (x y:OF)(h:tX x=tX y):EP x=EP y:=by
 rfl
theorem WX {gl:Nat→C}(hgn:∀g,ah 0 (gl g) =true)(hg0:gl 0= .kp (cl wC kc))(hg2:gl 2= .kp (cl wC kc))(M:Nat):CxOK (af gl M Au):=am (N:=0) (WV hgn hg0 hg2 0) WW fun q0=>age (WV hgn hg0 hg2 0)
theorem acG:∀ (g:Nat)(xs:List C),noRefs 0 xs=false→Au g xs=none:=aJ acE WW
theorem acH:Au 55 ([]:List C) =some (sl eC .full bT):=
 (ar _).trans (aj ahH ⟨(),trivial⟩)
abbrev OG:= {q0:Unit // True}
def tY (q0:OG):List C:=([]:List C)
noncomputable def EQ (q0:OG):C:= .val (.bool true)
noncomputable def Av:Nat→List C→Option C:=Sx.ext Au 19 (aO tY EQ)
theorem WY (x:OG):noRefs 0 (tY x) =true:=by
 unfold tY;exact bM
theorem ahI (x y:OG)(h:tY x=tY y):EQ x=EQ y:=by
 rfl
theorem WZ {gl:Nat→C}(hgn:∀g,ah 0 (gl g) =true)(hg0:gl 0= .kp (cl wC kc))(hg2:gl 2= .kp (cl wC kc))(M:Nat):CxOK (af gl M Av):=am (N:=0) (WX hgn hg0 hg2 0) WY fun q0=>agf (WX hgn hg0 hg2 0) (by intros;(iterate 12 refine (ae (by decide) _).trans ?_);apply aco<;>first|assumption|omega) (by intros;(iterate 5 refine (ae (by decide) _).trans ?_);apply acz<;>first|assumption|omega) (by intros;(iterate 4 refine (ae (by decide) _).trans ?_);apply acA<;>first|assumption|omega) (by intros;(iterate 2 refine (ae (by decide) _).trans ?_);apply acD<;>first|assumption|omega) (by intros;(iterate 1 refine (ae (by decide) _).trans ?_);apply acF<;>first|assumption|omega) (by intros;apply acH<;>first|assumption|omega)
theorem acI:∀ (g:Nat)(xs:List C),noRefs 0 xs=false→Av g xs=none:=aJ acG WY
theorem acJ:Av 19 ([]:List C) =some (.val (.bool true)):=
 (ar _).trans (aj ahI ⟨(),trivial⟩)
abbrev OH:= {q0: (List ab)×Int // ((q0.1).length≤1000000)∧(∀i,i< (q0.1).length→(gt (q0.1) i).1.length< 1000000)∧(-9223372036854775808≤(q0.2)∧(q0.2)≤9223372036854775807)}
def qK (q0:OH):List C:=[sl eC .no (q0.1.1),.val (.int .i64 (q0.1.2))]
noncomputable def x7 (q0:OH):C:= .val (str (o8 (q0.1.1) (q0.1.2)))
noncomputable def Aw:Nat→List C→Option C:=Sx.ext Av 20 (aO qK x7)
theorem W0 (x:OH):noRefs 0 (qK x) =true:=by
 unfold qK;exact bM
theorem ahJ (x y:OH)(h:qK x=qK y):x7 x=x7 y:=by
 simp only[qK,List.cons.injEq,C.val.injEq,C.agg.injEq,C.kp.injEq,C.fn.injEq,aT,ax,aI,aV,aU,aF,aM,aH,Value.int.injEq,Value.bool.injEq,true_and,and_true] at h;simp only[x7,h]
theorem W5 {gl:Nat→C}(hgn:∀g,ah 0 (gl g) =true)(hg0:gl 0= .kp (cl wC kc))(hg2:gl 2= .kp (cl wC kc))(M:Nat):CxOK (af gl M Aw):=am (N:=0) (WZ hgn hg0 hg2 0) W0 fun q0=>aiQ (WZ hgn hg0 hg2 0) (by intros;(iterate 37 refine (ae (by decide) _).trans ?_);apply EC<;>first|assumption|omega) (by intros;(iterate 35 refine (ae (by decide) _).trans ?_);apply J8<;>first|assumption|omega) ((q0.1.1)) ((q0.1.2)) q0.2.1 q0.2.2.1 q0.2.2.2
theorem acK:∀ (g:Nat)(xs:List C),noRefs 0 xs=false→Aw g xs=none:=aJ acI W0
theorem acL (l:List ab)(n:Int)(hc0:l.length≤1000000)(hc1:∀i,i< l.length→(gt l i).1.length< 1000000)(hc2: -9223372036854775808≤n∧n≤9223372036854775807):Aw 20 [sl eC .no l,.val (.int .i64 n)] =some (.val (str (o8 l n))):=
 (ar _).trans (aj ahJ ⟨(l,n),⟨hc0,hc1,hc2⟩⟩)
abbrev OI:= {q0: (List ab) // (LB (q0))}
def qL (q0:OI):List C:=[sl eC .no (q0.1)]
noncomputable def x8 (q0:OI):C:= .val (nI (cb (q0.1)))
noncomputable def Ax:Nat→List C→Option C:=Sx.ext Aw 16 (aO qL x8)
theorem W6 (x:OI):noRefs 0 (qL x) =true:=by
 unfold qL;exact bM
theorem ahK (x y:OI)(h:qL x=qL y):x8 x=x8 y:=by
 simp only[qL,List.cons.injEq,C.val.injEq,C.agg.injEq,C.kp.injEq,C.fn.injEq,aT,ax,aI,aV,aU,aF,aM,aH,Value.int.injEq,Value.bool.injEq,true_and,and_true] at h;simp only[x8,h]
theorem W7 {gl:Nat→C}(hgn:∀g,ah 0 (gl g) =true)(hg0:gl 0= .kp (cl wC kc))(hg2:gl 2= .kp (cl wC kc))(M:Nat):CxOK (af gl M Ax):=am (N:=0) (W5 hgn hg0 hg2 0) W6 fun q0=>agA (W5 hgn hg0 hg2 0) ((q0.1)) q0.2
theorem acM:∀ (g:Nat)(xs:List C),noRefs 0 xs=false→Ax g xs=none:=aJ acK W6
theorem acN (l:List ab)(hc0:LB l):Ax 16 [sl eC .no l] =some (.val (nI (cb l))):=
 (ar _).trans (aj ahK ⟨(l),hc0⟩)
abbrev OJ:= {q0: (List ab)×(List UInt8) // ((q0.1).length≤1000000)}
def qM (q0:OJ):List C:=[sl eC .no (q0.1.1),.val (str (q0.1.2))]
noncomputable def x9 (q0:OJ):C:= .val (nI (bg (q0.1.1) (q0.1.2)))
noncomputable def Ay:Nat→List C→Option C:=Sx.ext Ax 58 (aO qM x9)
theorem W8 (x:OJ):noRefs 0 (qM x) =true:=by
 unfold qM;exact bM
theorem ahL (x y:OJ)(h:qM x=qM y):x9 x=x9 y:=by
 simp only[qM,List.cons.injEq,C.val.injEq,C.agg.injEq,C.kp.injEq,C.fn.injEq,aT,ax,aI,aV,aU,aF,aM,aH,Value.int.injEq,Value.bool.injEq,true_and,and_true] at h;simp only[x9,h]
theorem W9 {gl:Nat→C}(hgn:∀g,ah 0 (gl g) =true)(hg0:gl 0= .kp (cl wC kc))(hg2:gl 2= .kp (cl wC kc))(M:Nat):CxOK (af gl M Ay):=am (N:=0) (W7 hgn hg0 hg2 0) W8 fun q0=>aiN (W7 hgn hg0 hg2 0) ((q0.1.1)) ((q0.1.2)) q0.2
theorem acO:∀ (g:Nat)(xs:List C),noRefs 0 xs=false→Ay g xs=none:=aJ acM W8
theorem acP (l:List ab)(k:List UInt8)(hc0:l.length≤1000000):Ay 58 [sl eC .no l,.val (str k)] =some (.val (nI (bg l k))):=
 (ar _).trans (aj ahL ⟨(l,k),hc0⟩)
abbrev OK:= {q0: (List ab)×(List UInt8) // ((q0.1).length≤1000000)}
def qN (q0:OK):List C:=[sl eC .no (q0.1.1),.val (str (q0.1.2))]
noncomputable def ya (q0:OK):C:= .val (.int .i64 (lp (q0.1.1) (q0.1.2)))
noncomputable def Az:Nat→List C→Option C:=Sx.ext Ay 35 (aO qN ya)
theorem Xa (x:OK):noRefs 0 (qN x) =true:=by
 unfold qN;exact bM
theorem ahM (x y:OK)(h:qN x=qN y):ya x=ya y:=by
 simp only[qN,List.cons.injEq,C.val.injEq,C.agg.injEq,C.kp.injEq,C.fn.injEq,aT,ax,aI,aV,aU,aF,aM,aH,Value.int.injEq,Value.bool.injEq,true_and,and_true] at h;simp only[ya,h]
theorem Xb {gl:Nat→C}(hgn:∀g,ah 0 (gl g) =true)(hg0:gl 0= .kp (cl wC kc))(hg2:gl 2= .kp (cl wC kc))(M:Nat):CxOK (af gl M Az):=am (N:=0) (W9 hgn hg0 hg2 0) Xa fun q0=>aiO (W9 hgn hg0 hg2 0) ((q0.1.1)) ((q0.1.2)) q0.2
theorem acQ:∀ (g:Nat)(xs:List C),noRefs 0 xs=false→Az g xs=none:=aJ acO Xa
theorem acR (l:List ab)(k:List UInt8)(hc0:l.length≤1000000):Az 35 [sl eC .no l,.val (str k)] =some (.val (.int .i64 (lp l k))):=
 (ar _).trans (aj ahM ⟨(l,k),hc0⟩)
abbrev OL:= {q0:Int // (-9223372036854775808≤(q0)∧(q0)≤9223372036854775807)}
def qO (q0:OL):List C:=[.val (.int .i64 (q0.1))]
noncomputable def yb (q0:OL):C:=sl bC (.own 1) (aA (q0.1))
noncomputable def AA:Nat→List C→Option C:=Sx.ext Az 83 (aO qO yb)
theorem Xc (x:OL):noRefs 0 (qO x) =true:=by
 unfold qO;exact bM
theorem ahN (x y:OL)(h:qO x=qO y):yb x=yb y:=by
 simp only[qO,List.cons.injEq,C.val.injEq,C.agg.injEq,C.kp.injEq,C.fn.injEq,aT,ax,aI,aV,aU,aF,aM,aH,Value.int.injEq,Value.bool.injEq,true_and,and_true] at h;simp only[yb,h]
theorem Xd {gl:Nat→C}(hgn:∀g,ah 0 (gl g) =true)(hg0:gl 0= .kp (cl wC kc))(hg2:gl 2= .kp (cl wC kc))(M:Nat):CxOK (af gl M AA):=am (N:=0) (Xb hgn hg0 hg2 0) Xc fun q0=>agv (Xb hgn hg0 hg2 0) ((q0.1)) q0.2
theorem acS:∀ (g:Nat)(xs:List C),noRefs 0 xs=false→AA g xs=none:=aJ acQ Xc
theorem tZ (n:Int)(hc0: -9223372036854775808≤n∧n≤9223372036854775807):AA 83 [.val (.int .i64 n)] =some (sl bC (.own 1) (aA n)):=
 (ar _).trans (aj ahN ⟨(n),hc0⟩)
abbrev OM:= {q0: (List UInt8) // ((q0).length< 70368744177664)}
def qP (q0:OM):List C:=[.val (str (q0.1))]
noncomputable def yd (q0:OM):C:=sl bC (.own 1) (wb (q0.1))
noncomputable def AB:Nat→List C→Option C:=Sx.ext AA 95 (aO qP yd)
theorem Xe (x:OM):noRefs 0 (qP x) =true:=by
 unfold qP;exact bM
theorem ahO (x y:OM)(h:qP x=qP y):yd x=yd y:=by
 simp only[qP,List.cons.injEq,C.val.injEq,C.agg.injEq,C.kp.injEq,C.fn.injEq,aT,ax,aI,aV,aU,aF,aM,aH,Value.int.injEq,Value.bool.injEq,true_and,and_true] at h;simp only[yd,h]
theorem Xf {gl:Nat→C}(hgn:∀g,ah 0 (gl g) =true)(hg0:gl 0= .kp (cl wC kc))(hg2:gl 2= .kp (cl wC kc))(M:Nat):CxOK (af gl M AB):=am (N:=0) (Xd hgn hg0 hg2 0) Xe fun q0=>ai1 (Xd hgn hg0 hg2 0) (by intros;rename_i m hm;exact (tZ (m:Int) (by omega)).trans (by rw[gC])) ((q0.1)) q0.2
theorem acT:∀ (g:Nat)(xs:List C),noRefs 0 xs=false→AB g xs=none:=aJ acS Xe
theorem ON (s:List UInt8)(hc0:s.length< 70368744177664):AB 95 [.val (str s)] =some (sl bC (.own 1) (wb s)):=
 (ar _).trans (aj ahO ⟨(s),hc0⟩)
abbrev OO:= {q0:Int×(List (List UInt8)) // ((co (q0.1) (q0.2)).length< 1099511627776)}
def qQ (q0:OO):List C:=[.val (.int .i64 (q0.1.1)),sl sC .no (q0.1.2)]
noncomputable def ye (q0:OO):C:=sl bC (.own 1) (co (q0.1.1) (q0.1.2))
noncomputable def AC:Nat→List C→Option C:=Sx.ext AB 65 (aO qQ ye)
theorem Xg (x:OO):noRefs 0 (qQ x) =true:=by
 unfold qQ;exact bM
theorem ahP (x y:OO)(h:qQ x=qQ y):ye x=ye y:=by
 simp only[qQ,List.cons.injEq,C.val.injEq,C.agg.injEq,C.kp.injEq,C.fn.injEq,aT,ax,aI,aV,aU,aF,aM,aH,Value.int.injEq,Value.bool.injEq,true_and,and_true] at h;simp only[ye,h]
theorem Xh {gl:Nat→C}(hgn:∀g,ah 0 (gl g) =true)(hg0:gl 0= .kp (cl wC kc))(hg2:gl 2= .kp (cl wC kc))(M:Nat):CxOK (af gl M AC):=am (N:=0) (Xf hgn hg0 hg2 0) Xg fun q0=>ai5 (Xf hgn hg0 hg2 0) (by intros;apply ON<;>first|assumption|omega) ((q0.1.1)) ((q0.1.2)) q0.2
theorem acU:∀ (g:Nat)(xs:List C),noRefs 0 xs=false→AC g xs=none:=aJ acT Xg
theorem acV (tag:Int)(parts:List (List UInt8))(hc0: (co tag parts).length< 1099511627776):AC 65 [.val (.int .i64 tag),sl sC .no parts] =some (sl bC (.own 1) (co tag parts)):=
 (ar _).trans (aj ahP ⟨(tag,parts),hc0⟩)
abbrev OP:= {q0: (List UInt8) // ((q0).length< 35184372088832)}
def qR (q0:OP):List C:=[sl bC .no (q0.1)]
noncomputable def yf (q0:OP):C:=sl bC (.own 1) ((q0.1)++me (q0.1).length)
noncomputable def AD:Nat→List C→Option C:=Sx.ext AC 108 (aO qR yf)
theorem Xi (x:OP):noRefs 0 (qR x) =true:=by
 unfold qR;exact bM
theorem ahQ (x y:OP)(h:qR x=qR y):yf x=yf y:=by
 simp only[qR,List.cons.injEq,C.val.injEq,C.agg.injEq,C.kp.injEq,C.fn.injEq,aT,ax,aI,aV,aU,aF,aM,aH,Value.int.injEq,Value.bool.injEq,true_and,and_true] at h;simp only[yf,h]
theorem Xj {gl:Nat→C}(hgn:∀g,ah 0 (gl g) =true)(hg0:gl 0= .kp (cl wC kc))(hg2:gl 2= .kp (cl wC kc))(M:Nat):CxOK (af gl M AD):=am (N:=0) (Xh hgn hg0 hg2 0) Xi fun q0=>aep (Xh hgn hg0 hg2 0) ((q0.1)) q0.2
theorem acW:∀ (g:Nat)(xs:List C),noRefs 0 xs=false→AD g xs=none:=aJ acU Xi
theorem acX (b:List UInt8)(hc0:b.length< 35184372088832):AD 108 [sl bC .no b] =some (sl bC (.own 1) (b++me b.length)):=
 (ar _).trans (aj ahQ ⟨(b),hc0⟩)
abbrev OQ:= {q0: (BitVec 32)×Nat // ((q0.2) < 32)}
def qS (q0:OQ):List C:=[.val (bE (q0.1.1)),.val (nI (q0.1.2))]
noncomputable def yg (q0:OQ):C:= .val (bE (rr (q0.1.1) (q0.1.2)))
noncomputable def AE:Nat→List C→Option C:=Sx.ext AD 110 (aO qS yg)
theorem Xk (x:OQ):noRefs 0 (qS x) =true:=by
 unfold qS;exact bM
theorem ahR (x y:OQ)(h:qS x=qS y):yg x=yg y:=by
 simp only[qS,List.cons.injEq,C.val.injEq,C.agg.injEq,C.kp.injEq,C.fn.injEq,aT,ax,aI,aV,aU,aF,aM,aH,Value.int.injEq,Value.bool.injEq,true_and,and_true] at h;simp only[yg,h]
theorem Xl {gl:Nat→C}(hgn:∀g,ah 0 (gl g) =true)(hg0:gl 0= .kp (cl wC kc))(hg2:gl 2= .kp (cl wC kc))(M:Nat):CxOK (af gl M AE):=am (N:=0) (Xj hgn hg0 hg2 0) Xk fun q0=>aef (Xj hgn hg0 hg2 0) ((q0.1.1)) ((q0.1.2)) q0.2
theorem acY:∀ (g:Nat)(xs:List C),noRefs 0 xs=false→AE g xs=none:=aJ acW Xk
theorem OR (x:BitVec 32)(n:Nat)(hc0:n< 32):AE 110 [.val (bE x),.val (nI n)] =some (.val (bE (rr x n))):=
 (ar _).trans (aj ahR ⟨(x,n),hc0⟩)
abbrev OS:= {q0: (List UInt8) // ((q0).length=64)}
def qT (q0:OS):List C:=[sl bC .no (q0.1)]
noncomputable def yh (q0:OS):C:= .agg (cl wC (bh (q0.1) 64))
noncomputable def AF:Nat→List C→Option C:=Sx.ext AE 109 (aO qT yh)
theorem Xm (x:OS):noRefs 0 (qT x) =true:=by
 unfold qT;exact bM
theorem ahS (x y:OS)(h:qT x=qT y):yh x=yh y:=by
 simp only[qT,List.cons.injEq,C.val.injEq,C.agg.injEq,C.kp.injEq,C.fn.injEq,aT,ax,aI,aV,aU,aF,aM,aH,Value.int.injEq,Value.bool.injEq,true_and,and_true] at h;simp only[yh,h]
theorem Xn {gl:Nat→C}(hgn:∀g,ah 0 (gl g) =true)(hg0:gl 0= .kp (cl wC kc))(hg2:gl 2= .kp (cl wC kc))(M:Nat):CxOK (af gl M AF):=am (N:=0) (Xl hgn hg0 hg2 0) Xm fun q0=>aeq (Xl hgn hg0 hg2 0) (by intros;apply OR<;>first|assumption|omega) ((q0.1)) q0.2
theorem acZ:∀ (g:Nat)(xs:List C),noRefs 0 xs=false→AF g xs=none:=aJ acY Xm
theorem ac0 (b:List UInt8)(hc0:b.length=64):AF 109 [sl bC .no b] =some (.agg (cl wC (bh b 64))):=
 (ar _).trans (aj ahS ⟨(b),hc0⟩)
abbrev OT:= {q0: (List UInt8) // ((q0).length< 35184372088832)}
def qU (q0:OT):List C:=[sl bC .no (q0.1)]
noncomputable def yi (q0:OT):C:= .agg (cl bC (gx (q0.1)))
noncomputable def AG:Nat→List C→Option C:=Sx.ext AF 94 (aO qU yi)
theorem Xo (x:OT):noRefs 0 (qU x) =true:=by
 unfold qU;exact bM
theorem ahT (x y:OT)(h:qU x=qU y):yi x=yi y:=by
 simp only[qU,List.cons.injEq,C.val.injEq,C.agg.injEq,C.kp.injEq,C.fn.injEq,aT,ax,aI,aV,aU,aF,aM,aH,Value.int.injEq,Value.bool.injEq,true_and,and_true] at h;simp only[yi,h]
theorem Xp {gl:Nat→C}(hgn:∀g,ah 0 (gl g) =true)(hg0:gl 0= .kp (cl wC kc))(hg2:gl 2= .kp (cl wC kc))(M:Nat):CxOK (af gl M AG):=am (N:=0) (Xn hgn hg0 hg2 0) Xo fun q0=>ai3 (Xn hgn hg0 hg2 0) hg0 (by intros;(iterate 2 refine (ae (by decide) _).trans ?_);apply acX<;>first|assumption|omega) (by intros;apply ac0<;>first|assumption|omega) (by intros;(iterate 1 refine (ae (by decide) _).trans ?_);apply OR<;>first|assumption|omega) ((q0.1)) q0.2
theorem ac1:∀ (g:Nat)(xs:List C),noRefs 0 xs=false→AG g xs=none:=aJ acZ Xo
theorem ac2 (b:List UInt8)(hc0:b.length< 35184372088832):AG 94 [sl bC .no b] =some (.agg (cl bC (gx b))):=
 (ar _).trans (aj ahT ⟨(b),hc0⟩)
abbrev OU:= {q0: (List UInt8) // ((q0).length< 35184372088832)}
def qV (q0:OU):List C:=[sl bC .no (q0.1)]
noncomputable def yj (q0:OU):C:= .agg (cl bC ((gx (q0.1)).take 16))
noncomputable def AH:Nat→List C→Option C:=Sx.ext AG 64 (aO qV yj)
theorem Xq (x:OU):noRefs 0 (qV x) =true:=by
 unfold qV;exact bM
theorem ahU (x y:OU)(h:qV x=qV y):yj x=yj y:=by
 simp only[qV,List.cons.injEq,C.val.injEq,C.agg.injEq,C.kp.injEq,C.fn.injEq,aT,ax,aI,aV,aU,aF,aM,aH,Value.int.injEq,Value.bool.injEq,true_and,and_true] at h;simp only[yj,h]
theorem Xr {gl:Nat→C}(hgn:∀g,ah 0 (gl g) =true)(hg0:gl 0= .kp (cl wC kc))(hg2:gl 2= .kp (cl wC kc))(M:Nat):CxOK (af gl M AH):=am (N:=0) (Xp hgn hg0 hg2 0) Xq fun q0=>ai4 (Xp hgn hg0 hg2 0) (by intros;apply ac2<;>first|assumption|omega) ((q0.1)) q0.2
theorem ac3:∀ (g:Nat)(xs:List C),noRefs 0 xs=false→AH g xs=none:=aJ ac1 Xq
theorem ac4 (b:List UInt8)(hc0:b.length< 35184372088832):AH 64 [sl bC .no b] =some (.agg (cl bC ((gx b).take 16))):=
 (ar _).trans (aj ahU ⟨(b),hc0⟩)
abbrev OV:= {q0: (List UInt8) // ((q0).length=16)}
def qW (q0:OV):List C:=[.agg (cl bC (q0.1))]
noncomputable def yk (q0:OV):C:= .val (str (q0.1))
noncomputable def AI:Nat→List C→Option C:=Sx.ext AH 84 (aO qW yk)
theorem Xs (x:OV):noRefs 0 (qW x) =true:=by
 unfold qW;exact bM
theorem ahV (x y:OV)(h:qW x=qW y):yk x=yk y:=by
 simp only[qW,List.cons.injEq,C.val.injEq,C.agg.injEq,C.kp.injEq,C.fn.injEq,aT,ax,aI,aV,aU,aF,aM,aH,Value.int.injEq,Value.bool.injEq,true_and,and_true] at h;simp only[yk,h]
theorem Xt {gl:Nat→C}(hgn:∀g,ah 0 (gl g) =true)(hg0:gl 0= .kp (cl wC kc))(hg2:gl 2= .kp (cl wC kc))(M:Nat):CxOK (af gl M AI):=am (N:=0) (Xr hgn hg0 hg2 0) Xs fun q0=>ai2 (Xr hgn hg0 hg2 0) ((q0.1)) q0.2
theorem ac5:∀ (g:Nat)(xs:List C),noRefs 0 xs=false→AI g xs=none:=aJ ac3 Xs
theorem ac6 (h:List UInt8)(hc0:h.length=16):AI 84 [.agg (cl bC h)] =some (.val (str h)):=
 (ar _).trans (aj ahV ⟨(h),hc0⟩)
abbrev OW:= {q0:Nat // ((q0)≤4611686018427387000)}
def qX (q0:OW):List C:=[.val (nI (q0.1))]
noncomputable def yl (q0:OW):C:= .val (nI (aR (q0.1)))
noncomputable def AJ:Nat→List C→Option C:=Sx.ext AI 106 (aO qX yl)
theorem Xu (x:OW):noRefs 0 (qX x) =true:=by
 unfold qX;exact bM
theorem ahW (x y:OW)(h:qX x=qX y):yl x=yl y:=by
 simp only[qX,List.cons.injEq,C.val.injEq,C.agg.injEq,C.kp.injEq,C.fn.injEq,aT,ax,aI,aV,aU,aF,aM,aH,Value.int.injEq,Value.bool.injEq,true_and,and_true] at h;simp only[yl,h]
theorem Xv {gl:Nat→C}(hgn:∀g,ah 0 (gl g) =true)(hg0:gl 0= .kp (cl wC kc))(hg2:gl 2= .kp (cl wC kc))(M:Nat):CxOK (af gl M AJ):=am (N:=0) (Xt hgn hg0 hg2 0) Xu fun q0=>abL (Xt hgn hg0 hg2 0) ((q0.1)) q0.2
theorem OX:∀ (g:Nat)(xs:List C),noRefs 0 xs=false→AJ g xs=none:=aJ ac5 Xu
theorem ac7 (n:Nat)(hc0:n≤4611686018427387000):AJ 106 [.val (nI n)] =some (.val (nI (aR n))):=
 (ar _).trans (aj ahW ⟨(n),hc0⟩)
abbrev OY:= {q0: (List ab)×Nat×Nat×Nat×Nat // (OkL (q0.1))∧((q0.2.1)≤5000∧(q0.2.2.1)≤5000)∧((q0.2.2.2.1) < (q0.2.2.2.2)∧(q0.2.2.2.2)≤(q0.1).length)}
def qY (q0:OY):List C:=[sl eC .no (q0.1.1),.val (nI (q0.1.2.1)),.val (nI (q0.1.2.2.1)),.val (nI (q0.1.2.2.2.1)),.val (nI (q0.1.2.2.2.2))]
noncomputable def ym (q0:OY):C:=sl dC (.own 16) (cr (q0.1.1) (q0.1.2.1) (q0.1.2.2.1) 12 (q0.1.2.2.2.1) (q0.1.2.2.2.2))
noncomputable def AK:Nat→List C→Option C:=Sx.ext AJ 92 (aO qY ym)
theorem Xw (x:OY):noRefs 0 (qY x) =true:=by
 unfold qY;exact bM
theorem ahX (x y:OY)(h:qY x=qY y):ym x=ym y:=by
 simp only[qY,List.cons.injEq,C.val.injEq,C.agg.injEq,C.kp.injEq,C.fn.injEq,aT,ax,aI,aV,aU,aF,aM,aH,Value.int.injEq,Value.bool.injEq,true_and,and_true] at h;simp only[ym,h]
theorem Xx {gl:Nat→C}(hgn:∀g,ah 0 (gl g) =true)(hg0:gl 0= .kp (cl wC kc))(hg2:gl 2= .kp (cl wC kc))(M:Nat):CxOK (af gl M AK):=am (N:=0) (Xv hgn hg0 hg2 0) Xw fun q0=>ags (Xv hgn hg0 hg2 0) OX (by intros;(iterate 7 refine (ae (by decide) _).trans ?_);apply acV<;>first|assumption|omega) (by intros;(iterate 2 refine (ae (by decide) _).trans ?_);apply ac4<;>first|assumption|omega) (by intros;(iterate 1 refine (ae (by decide) _).trans ?_);apply ac6<;>first|assumption|omega) (by intros;apply ac7<;>first|assumption|omega) ((q0.1.1)) ((q0.1.2.1)) ((q0.1.2.2.1)) ((q0.1.2.2.2.1)) ((q0.1.2.2.2.2)) q0.2.1 q0.2.2.1 q0.2.2.2
theorem ac8:∀ (g:Nat)(xs:List C),noRefs 0 xs=false→AK g xs=none:=aJ OX Xw
theorem ac9 (l:List ab)(f:Nat)(e:Nat)(a:Nat)(b:Nat)(hc0:OkL l)(hc1:f≤5000∧e≤5000)(hc2:a< b∧b≤l.length):AK 92 [sl eC .no l,.val (nI f),.val (nI e),.val (nI a),.val (nI b)] =some (sl dC (.own 16) (cr l f e 12 a b)):=
 (ar _).trans (aj ahX ⟨(l,f,e,a,b),⟨hc0,hc1,hc2⟩⟩)
abbrev OZ:= {q0: (List ab)×Nat×Nat // (OkL (q0.1))∧((q0.2.1)≤(q0.2.2)∧(q0.2.2)≤(q0.1).length)}
def qZ (q0:OZ):List C:=[sl eC .no (q0.1.1),.val (nI (q0.1.2.1)),.val (nI (q0.1.2.2))]
noncomputable def yn (q0:OZ):C:= .agg [.val (nI (q0.1.2.1)),.val (nI (q0.1.1).length),sl eC .no (((q0.1.1).drop (q0.1.2.1)).take ((q0.1.2.2) - (q0.1.2.1))),sl dC .no (cd (q0.1.1) (q0.1.2.1) (q0.1.2.2))]
noncomputable def AL:Nat→List C→Option C:=Sx.ext AK 59 (aO qZ yn)
theorem Xy (x:OZ):noRefs 0 (qZ x) =true:=by
 unfold qZ;exact bM
theorem ahY (x y:OZ)(h:qZ x=qZ y):yn x=yn y:=by
 simp only[qZ,List.cons.injEq,C.val.injEq,C.agg.injEq,C.kp.injEq,C.fn.injEq,aT,ax,aI,aV,aU,aF,aM,aH,Value.int.injEq,Value.bool.injEq,true_and,and_true] at h;simp only[yn,h]
theorem Xz {gl:Nat→C}(hgn:∀g,ah 0 (gl g) =true)(hg0:gl 0= .kp (cl wC kc))(hg2:gl 2= .kp (cl wC kc))(M:Nat):CxOK (af gl M AL):=am (N:=0) (Xx hgn hg0 hg2 0) Xy fun q0=>agl (Xx hgn hg0 hg2 0) (by intros;apply ac9<;>first|assumption|omega) ((q0.1.1)) ((q0.1.2.1)) ((q0.1.2.2)) q0.2.1 q0.2.2
theorem ada:∀ (g:Nat)(xs:List C),noRefs 0 xs=false→AL g xs=none:=aJ ac8 Xy
theorem adb (l:List ab)(f:Nat)(e:Nat)(hc0:OkL l)(hc1:f≤e∧e≤l.length):AL 59 [sl eC .no l,.val (nI f),.val (nI e)] =some (.agg [.val (nI f),.val (nI l.length),sl eC .no ((l.drop f).take (e - f)),sl dC .no (cd l f e)]):=
 (ar _).trans (aj ahY ⟨(l,f,e),⟨hc0,hc1⟩⟩)
abbrev O0:= {q0: (List ab)×(List UInt8) // (LB (q0.1))}
def rc (q0:O0):List C:=[sl eC .no (q0.1.1),.val (str (q0.1.2))]
noncomputable def yp (q0:O0):C:= .tup [.agg [.val (nI (bR (q0.1.1) (q0.1.2)).1.1),.val (nI (bR (q0.1.1) (q0.1.2)).1.2.1),sl eC .no (bR (q0.1.1) (q0.1.2)).1.2.2.1,sl dC .no (bR (q0.1.1) (q0.1.2)).1.2.2.2],.val (nI (bR (q0.1.1) (q0.1.2)).2)]
noncomputable def AM:Nat→List C→Option C:=Sx.ext AL 23 (aO rc yp)
theorem XA (x:O0):noRefs 0 (rc x) =true:=by
 unfold rc;exact bM
theorem ahZ (x y:O0)(h:rc x=rc y):yp x=yp y:=by
 simp only[rc,List.cons.injEq,C.val.injEq,C.agg.injEq,C.kp.injEq,C.fn.injEq,aT,ax,aI,aV,aU,aF,aM,aH,Value.int.injEq,Value.bool.injEq,true_and,and_true] at h;simp only[yp,h]
theorem XB {gl:Nat→C}(hgn:∀g,ah 0 (gl g) =true)(hg0:gl 0= .kp (cl wC kc))(hg2:gl 2= .kp (cl wC kc))(M:Nat):CxOK (af gl M AM):=am (N:=0) (Xz hgn hg0 hg2 0) XA fun q0=>agm (Xz hgn hg0 hg2 0) (by intros;(iterate 14 refine (ae (by decide) _).trans ?_);apply acN<;>first|assumption|omega) (by intros;(iterate 13 refine (ae (by decide) _).trans ?_);apply acP<;>first|assumption|omega) (by intros;(iterate 12 refine (ae (by decide) _).trans ?_);apply acR<;>first|assumption|omega) (by intros;apply adb<;>first|assumption|omega) ((q0.1.1)) ((q0.1.2)) q0.2
theorem adc:∀ (g:Nat)(xs:List C),noRefs 0 xs=false→AM g xs=none:=aJ ada XA
theorem ade (l:List ab)(k:List UInt8)(hc0:LB l):AM 23 [sl eC .no l,.val (str k)] =some (.tup [.agg [.val (nI (bR l k).1.1),.val (nI (bR l k).1.2.1),sl eC .no (bR l k).1.2.2.1,sl dC .no (bR l k).1.2.2.2],.val (nI (bR l k).2)]):=
 (ar _).trans (aj ahZ ⟨(l,k),hc0⟩)
abbrev O3:= {q0: (List ab)×(List ab) // ((q0.1).length≤1000000)∧((q0.2).length≤1000000)}
def re (q0:O3):List C:=[sl eC .no (q0.1.1),sl eC .no (q0.1.2)]
noncomputable def yq (q0:O3):C:= .val (.bool (decide ((q0.1.1) = (q0.1.2))))
noncomputable def AO:Nat→List C→Option C:=Sx.ext AM 34 (aO re yq)
theorem XC (x:O3):noRefs 0 (re x) =true:=by
 unfold re;exact bM
theorem ah0 (x y:O3)(h:re x=re y):yq x=yq y:=by
 simp only[re,List.cons.injEq,C.val.injEq,C.agg.injEq,C.kp.injEq,C.fn.injEq,aT,ax,aI,aV,aU,aF,aM,aH,Value.int.injEq,Value.bool.injEq,true_and,and_true] at h;simp only[yq,h]
theorem XD {gl:Nat→C}(hgn:∀g,ah 0 (gl g) =true)(hg0:gl 0= .kp (cl wC kc))(hg2:gl 2= .kp (cl wC kc))(M:Nat):CxOK (af gl M AO):=am (N:=0) (XB hgn hg0 hg2 0) XC fun q0=>aiP (XB hgn hg0 hg2 0) ((q0.1.1)) ((q0.1.2)) q0.2.1 q0.2.2
theorem adf:∀ (g:Nat)(xs:List C),noRefs 0 xs=false→AO g xs=none:=aJ adc XC
theorem adg (x:List ab)(y:List ab)(hc0:x.length≤1000000)(hc1:y.length≤1000000):AO 34 [sl eC .no x,sl eC .no y] =some (.val (.bool (decide (x=y)))):=
 (ar _).trans (aj ah0 ⟨(x,y),⟨hc0,hc1⟩⟩)
abbrev O4:= {q0: (List ba)×(List ba) // ((q0.1).length< 9223372036854775807)}
def rh (q0:O4):List C:=[sl dC .no (q0.1.1),sl dC .no (q0.1.2)]
noncomputable def yr (q0:O4):C:= .val (.bool (decide ((q0.1.1) = (q0.1.2))))
noncomputable def AP:Nat→List C→Option C:=Sx.ext AO 60 (aO rh yr)
theorem XE (x:O4):noRefs 0 (rh x) =true:=by
 unfold rh;exact bM
theorem ah1 (x y:O4)(h:rh x=rh y):yr x=yr y:=by
 simp only[rh,List.cons.injEq,C.val.injEq,C.agg.injEq,C.kp.injEq,C.fn.injEq,aT,ax,aI,aV,aU,aF,aM,aH,Value.int.injEq,Value.bool.injEq,true_and,and_true] at h;simp only[yr,h]
theorem XF {gl:Nat→C}(hgn:∀g,ah 0 (gl g) =true)(hg0:gl 0= .kp (cl wC kc))(hg2:gl 2= .kp (cl wC kc))(M:Nat):CxOK (af gl M AP):=am (N:=0) (XD hgn hg0 hg2 0) XE fun q0=>agh (XD hgn hg0 hg2 0) ((q0.1.1)) ((q0.1.2)) q0.2
theorem adh:∀ (g:Nat)(xs:List C),noRefs 0 xs=false→AP g xs=none:=aJ adf XE
theorem adi (x:List ba)(y:List ba)(hc0:x.length< 9223372036854775807):AP 60 [sl dC .no x,sl dC .no y] =some (.val (.bool (decide (x=y)))):=
 (ar _).trans (aj ah1 ⟨(x,y),hc0⟩)
abbrev O5:= {q0:Int×Int×(List ab)×(List ba)×Int×Int×(List ab)×(List ba) // ((q0.2.2.1).length≤1000000)∧((q0.2.2.2.2.2.2.1).length≤1000000)∧((q0.2.2.2.1).length≤1000000)}
def rj (q0:O5):List C:=[.agg [.val (.int .i64 (q0.1.1)),.val (.int .i64 (q0.1.2.1)),sl eC .no (q0.1.2.2.1),sl dC .no (q0.1.2.2.2.1)],.agg [.val (.int .i64 (q0.1.2.2.2.2.1)),.val (.int .i64 (q0.1.2.2.2.2.2.1)),sl eC .no (q0.1.2.2.2.2.2.2.1),sl dC .no (q0.1.2.2.2.2.2.2.2)]]
noncomputable def yu (q0:O5):C:=(.val (.bool (decide ((q0.1.1) = (q0.1.2.2.2.2.1)∧(q0.1.2.1) = (q0.1.2.2.2.2.2.1)∧(q0.1.2.2.1) = (q0.1.2.2.2.2.2.2.1)∧(q0.1.2.2.2.1) = (q0.1.2.2.2.2.2.2.2)))))
noncomputable def AQ:Nat→List C→Option C:=Sx.ext AP 26 (aO rj yu)
theorem XG (x:O5):noRefs 0 (rj x) =true:=by
 unfold rj;exact bM
theorem ah2 (x y:O5)(h:rj x=rj y):yu x=yu y:=by
 simp only[rj,List.cons.injEq,C.val.injEq,C.agg.injEq,C.kp.injEq,C.fn.injEq,aT,ax,aI,aV,aU,aF,aM,aH,Value.int.injEq,Value.bool.injEq,true_and,and_true] at h;simp only[yu,h]
theorem XH {gl:Nat→C}(hgn:∀g,ah 0 (gl g) =true)(hg0:gl 0= .kp (cl wC kc))(hg2:gl 2= .kp (cl wC kc))(M:Nat):CxOK (af gl M AQ):=am (N:=0) (XF hgn hg0 hg2 0) XG fun q0=>agk (XF hgn hg0 hg2 0) (by intros;(iterate 1 refine (ae (by decide) _).trans ?_);apply adg<;>first|assumption|omega) (by intros;apply adi<;>first|assumption|omega) ((q0.1.1)) ((q0.1.2.1)) ((q0.1.2.2.1)) ((q0.1.2.2.2.1)) ((q0.1.2.2.2.2.1)) ((q0.1.2.2.2.2.2.1)) ((q0.1.2.2.2.2.2.2.1)) ((q0.1.2.2.2.2.2.2.2)) q0.2.1 q0.2.2.1 q0.2.2.2
theorem adj:∀ (g:Nat)(xs:List C),noRefs 0 xs=false→AQ g xs=none:=aJ adh XG
theorem adk (f:Int)(z:Int)(l:List ab)(S:List ba)(f':Int)(z':Int)(l':List ab)(S':List ba)(hc0:l.length≤1000000)(hc1:l'.length≤1000000)(hc2:S.length≤1000000):AQ 26 [.agg [.val (.int .i64 f),.val (.int .i64 z),sl eC .no l,sl dC .no S],.agg [.val (.int .i64 f'),.val (.int .i64 z'),sl eC .no l',sl dC .no S']] =some ((.val (.bool (decide (f=f'∧z=z'∧l=l'∧S=S'))))):=
 (ar _).trans (aj ah2 ⟨(f,z,l,S,f',z',l',S'),⟨hc0,hc1,hc2⟩⟩)
abbrev O6:= {q0: (List ab) // ((q0).length≤1000000)}
def rl (q0:O6):List C:=[sl eC .no (q0.1)]
noncomputable def yx (q0:O6):C:=sl eC (.own 2) (q0.1)
noncomputable def AS:Nat→List C→Option C:=Sx.ext AQ 18 (aO rl yx)
theorem XI (x:O6):noRefs 0 (rl x) =true:=by
 unfold rl;exact bM
theorem ah3 (x y:O6)(h:rl x=rl y):yx x=yx y:=by
 simp only[rl,List.cons.injEq,C.val.injEq,C.agg.injEq,C.kp.injEq,C.fn.injEq,aT,ax,aI,aV,aU,aF,aM,aH,Value.int.injEq,Value.bool.injEq,true_and,and_true] at h;simp only[yx,h]
theorem XJ {gl:Nat→C}(hgn:∀g,ah 0 (gl g) =true)(hg0:gl 0= .kp (cl wC kc))(hg2:gl 2= .kp (cl wC kc))(M:Nat):CxOK (af gl M AS):=am (N:=0) (XH hgn hg0 hg2 0) XI fun q0=>agF (XH hgn hg0 hg2 0) ((q0.1)) q0.2
theorem adl:∀ (g:Nat)(xs:List C),noRefs 0 xs=false→AS g xs=none:=aJ adj XI
theorem adm (l:List ab)(hc0:l.length≤1000000):AS 18 [sl eC .no l] =some (sl eC (.own 2) l):=
 (ar _).trans (aj ah3 ⟨(l),hc0⟩)
abbrev O7:= {q0:Int×Int×(List ab)×(List ba) // ((q0.2.2.1).length≤1000000)}
def rm (q0:O7):List C:=[.agg [.val (.int .i64 (q0.1.1)),.val (.int .i64 (q0.1.2.1)),sl eC .no (q0.1.2.2.1),sl dC .no (q0.1.2.2.2)]]
noncomputable def yz (q0:O7):C:= .agg [.val (.int .i64 (q0.1.1)),.val (.int .i64 (q0.1.2.1)),sl eC .no (q0.1.2.2.1),sl dC .no (q0.1.2.2.2)]
noncomputable def AT:Nat→List C→Option C:=Sx.ext AS 27 (aO rm yz)
theorem XK (x:O7):noRefs 0 (rm x) =true:=by
 unfold rm;exact bM
theorem ah4 (x y:O7)(h:rm x=rm y):yz x=yz y:=by
 simp only[rm,List.cons.injEq,C.val.injEq,C.agg.injEq,C.kp.injEq,C.fn.injEq,aT,ax,aI,aV,aU,aF,aM,aH,Value.int.injEq,Value.bool.injEq,true_and,and_true] at h;simp only[yz,h]
theorem XL {gl:Nat→C}(hgn:∀g,ah 0 (gl g) =true)(hg0:gl 0= .kp (cl wC kc))(hg2:gl 2= .kp (cl wC kc))(M:Nat):CxOK (af gl M AT):=am (N:=0) (XJ hgn hg0 hg2 0) XK fun q0=>agi (XJ hgn hg0 hg2 0) (by intros;apply adm<;>first|assumption|omega) ((q0.1.1)) ((q0.1.2.1)) ((q0.1.2.2.1)) ((q0.1.2.2.2)) q0.2
theorem adn:∀ (g:Nat)(xs:List C),noRefs 0 xs=false→AT g xs=none:=aJ adl XK
theorem ado (f:Int)(z:Int)(l:List ab)(S:List ba)(hc0:l.length≤1000000):AT 27 [.agg [.val (.int .i64 f),.val (.int .i64 z),sl eC .no l,sl dC .no S]] =some (.agg [.val (.int .i64 f),.val (.int .i64 z),sl eC .no l,sl dC .no S]):=
 (ar _).trans (aj ah4 ⟨(f,z,l,S),hc0⟩)
abbrev O8:= {q0:Int×Int×(List ab)×(List ba)×Int×Int // (-9223372036854775808≤(q0.2.2.2.2.1)∧(q0.2.2.2.2.1)≤9223372036854775807)∧(-9223372036854775808≤(q0.2.2.2.2.2)∧(q0.2.2.2.2.2)≤9223372036854775807)∧((q0.2.2.1).length≤1000000)∧(∀i,i< (q0.2.2.1).length→(gt (q0.2.2.1) i).1.length≤1000000∧(gt (q0.2.2.1) i).2.length≤1000000)∧((q0.2.2.2.1).length≤1000000)}
def rn (q0:O8):List C:=[.agg [.val (.int .i64 (q0.1.1)),.val (.int .i64 (q0.1.2.1)),sl eC .no (q0.1.2.2.1),sl dC .no (q0.1.2.2.2.1)],.val (.int .i64 (q0.1.2.2.2.2.1)),.val (.int .i64 (q0.1.2.2.2.2.2))]
noncomputable def yA (q0:O8):C:= .agg [.val (.int .i64 (bZ ((q0.1.1),(q0.1.2.1),(q0.1.2.2.1),(q0.1.2.2.2.1)) (q0.1.2.2.2.2.1) (q0.1.2.2.2.2.2)).1),.val (.int .i64 (bZ ((q0.1.1),(q0.1.2.1),(q0.1.2.2.1),(q0.1.2.2.2.1)) (q0.1.2.2.2.2.1) (q0.1.2.2.2.2.2)).2.1),sl eC .no (bZ ((q0.1.1),(q0.1.2.1),(q0.1.2.2.1),(q0.1.2.2.2.1)) (q0.1.2.2.2.2.1) (q0.1.2.2.2.2.2)).2.2.1,sl dC .no (bZ ((q0.1.1),(q0.1.2.1),(q0.1.2.2.1),(q0.1.2.2.2.1)) (q0.1.2.2.2.2.1) (q0.1.2.2.2.2.2)).2.2.2]
noncomputable def AU:Nat→List C→Option C:=Sx.ext AT 28 (aO rn yA)
theorem XM (x:O8):noRefs 0 (rn x) =true:=by
 unfold rn;exact bM
theorem ah5 (x y:O8)(h:rn x=rn y):yA x=yA y:=by
 simp only[rn,List.cons.injEq,C.val.injEq,C.agg.injEq,C.kp.injEq,C.fn.injEq,aT,ax,aI,aV,aU,aF,aM,aH,Value.int.injEq,Value.bool.injEq,true_and,and_true] at h;simp only[yA,h]
theorem XN {gl:Nat→C}(hgn:∀g,ah 0 (gl g) =true)(hg0:gl 0= .kp (cl wC kc))(hg2:gl 2= .kp (cl wC kc))(M:Nat):CxOK (af gl M AU):=am (N:=0) (XL hgn hg0 hg2 0) XM fun q0=>agw (XL hgn hg0 hg2 0) (by intros;(iterate 59 refine (ae (by decide) _).trans ?_);apply EC<;>first|assumption|omega) (by intros;(iterate 57 refine (ae (by decide) _).trans ?_);apply J8<;>first|assumption|omega) ((q0.1.1)) ((q0.1.2.1)) ((q0.1.2.2.1)) ((q0.1.2.2.2.1)) ((q0.1.2.2.2.2.1)) ((q0.1.2.2.2.2.2)) q0.2.1 q0.2.2.1 q0.2.2.2.1 q0.2.2.2.2.1 q0.2.2.2.2.2
theorem adp:∀ (g:Nat)(xs:List C),noRefs 0 xs=false→AU g xs=none:=aJ adn XM
theorem adq (f:Int)(z:Int)(l:List ab)(S:List ba)(w:Int)(y:Int)(hc0: -9223372036854775808≤w∧w≤9223372036854775807)(hc1: -9223372036854775808≤y∧y≤9223372036854775807)(hc2:l.length≤1000000)(hc3:∀i,i< l.length→(gt l i).1.length≤1000000∧(gt l i).2.length≤1000000)(hc4:S.length≤1000000):AU 28 [.agg [.val (.int .i64 f),.val (.int .i64 z),sl eC .no l,sl dC .no S],.val (.int .i64 w),.val (.int .i64 y)] =some (.agg [.val (.int .i64 (bZ (f,z,l,S) w y).1),.val (.int .i64 (bZ (f,z,l,S) w y).2.1),sl eC .no (bZ (f,z,l,S) w y).2.2.1,sl dC .no (bZ (f,z,l,S) w y).2.2.2]):=
 (ar _).trans (aj ah5 ⟨(f,z,l,S,w,y),⟨hc0,hc1,hc2,hc3,hc4⟩⟩)
abbrev O9:= {q0: (List ab) // ((q0).length≤1000000)}
def rp (q0:O9):List C:=[sl eC .no (q0.1)]
noncomputable def yB (q0:O9):C:=sl eC (.own 2) (q0.1)
noncomputable def AV:Nat→List C→Option C:=Sx.ext AU 13 (aO rp yB)
theorem XO (x:O9):noRefs 0 (rp x) =true:=by
 unfold rp;exact bM
theorem ah6 (x y:O9)(h:rp x=rp y):yB x=yB y:=by
 simp only[rp,List.cons.injEq,C.val.injEq,C.agg.injEq,C.kp.injEq,C.fn.injEq,aT,ax,aI,aV,aU,aF,aM,aH,Value.int.injEq,Value.bool.injEq,true_and,and_true] at h;simp only[yB,h]
theorem XP {gl:Nat→C}(hgn:∀g,ah 0 (gl g) =true)(hg0:gl 0= .kp (cl wC kc))(hg2:gl 2= .kp (cl wC kc))(M:Nat):CxOK (af gl M AV):=am (N:=0) (XN hgn hg0 hg2 0) XO fun q0=>agE (XN hgn hg0 hg2 0) ((q0.1)) q0.2
theorem adr:∀ (g:Nat)(xs:List C),noRefs 0 xs=false→AV g xs=none:=aJ adp XO
theorem ads (l:List ab)(hc0:l.length≤1000000):AV 13 [sl eC .no l] =some (sl eC (.own 2) l):=
 (ar _).trans (aj ah6 ⟨(l),hc0⟩)
abbrev Pa:= {q0:Int×Int×(List ab)×(List ba) // ((q0.2.2.1).length≤1000000)}
def rq (q0:Pa):List C:=[.agg [.val (.int .i64 (q0.1.1)),.val (.int .i64 (q0.1.2.1)),sl eC .no (q0.1.2.2.1),sl dC .no (q0.1.2.2.2)]]
noncomputable def yC (q0:Pa):C:= .agg [.val (.int .i64 (q0.1.1)),.val (.int .i64 (q0.1.2.1)),sl eC .no (q0.1.2.2.1),sl dC .no (q0.1.2.2.2)]
noncomputable def AW:Nat→List C→Option C:=Sx.ext AV 30 (aO rq yC)
theorem XQ (x:Pa):noRefs 0 (rq x) =true:=by
 unfold rq;exact bM
theorem ah7 (x y:Pa)(h:rq x=rq y):yC x=yC y:=by
 simp only[rq,List.cons.injEq,C.val.injEq,C.agg.injEq,C.kp.injEq,C.fn.injEq,aT,ax,aI,aV,aU,aF,aM,aH,Value.int.injEq,Value.bool.injEq,true_and,and_true] at h;simp only[yC,h]
theorem XR {gl:Nat→C}(hgn:∀g,ah 0 (gl g) =true)(hg0:gl 0= .kp (cl wC kc))(hg2:gl 2= .kp (cl wC kc))(M:Nat):CxOK (af gl M AW):=am (N:=0) (XP hgn hg0 hg2 0) XQ fun q0=>agj (XP hgn hg0 hg2 0) (by intros;apply ads<;>first|assumption|omega) ((q0.1.1)) ((q0.1.2.1)) ((q0.1.2.2.1)) ((q0.1.2.2.2)) q0.2
theorem adt:∀ (g:Nat)(xs:List C),noRefs 0 xs=false→AW g xs=none:=aJ adr XQ
theorem adu (f:Int)(z:Int)(l:List ab)(S:List ba)(hc0:l.length≤1000000):AW 30 [.agg [.val (.int .i64 f),.val (.int .i64 z),sl eC .no l,sl dC .no S]] =some (.agg [.val (.int .i64 f),.val (.int .i64 z),sl eC .no l,sl dC .no S]):=
 (ar _).trans (aj ah7 ⟨(f,z,l,S),hc0⟩)
abbrev Pb:= {q0: (List Int) // ((q0).length< 1099511627776)∧(∀x∈ (q0),-9223372036854775808≤x∧x≤9223372036854775807)}
def rt (q0:Pb):List C:=[sl iC .no (q0.1)]
noncomputable def yD (q0:Pb):C:=sl bC (.own 1) (bV (q0.1))
noncomputable def AX:Nat→List C→Option C:=Sx.ext AW 45 (aO rt yD)
theorem XS (x:Pb):noRefs 0 (rt x) =true:=by
 unfold rt;exact bM
theorem ah8 (x y:Pb)(h:rt x=rt y):yD x=yD y:=by
 simp only[rt,List.cons.injEq,C.val.injEq,C.agg.injEq,C.kp.injEq,C.fn.injEq,aT,ax,aI,aV,aU,aF,aM,aH,Value.int.injEq,Value.bool.injEq,true_and,and_true] at h;simp only[yD,h]
theorem XT {gl:Nat→C}(hgn:∀g,ah 0 (gl g) =true)(hg0:gl 0= .kp (cl wC kc))(hg2:gl 2= .kp (cl wC kc))(M:Nat):CxOK (af gl M AX):=am (N:=0) (XR hgn hg0 hg2 0) XS fun q0=>aje (XR hgn hg0 hg2 0) (by intros;(iterate 47 refine (ae (by decide) _).trans ?_);apply tW<;>first|assumption|omega) ((q0.1)) q0.2.1 q0.2.2
theorem adv:∀ (g:Nat)(xs:List C),noRefs 0 xs=false→AX g xs=none:=aJ adt XS
theorem Pc (l:List Int)(hc0:l.length< 1099511627776)(hc1:∀x∈l,-9223372036854775808≤x∧x≤9223372036854775807):AX 45 [sl iC .no l] =some (sl bC (.own 1) (bV l)):=
 (ar _).trans (aj ah8 ⟨(l),⟨hc0,hc1⟩⟩)
abbrev Pd:= {q0: (List (List UInt8)) // ((q0).length< 1099511627776)∧((q0).flatten.length< 1099511627776)}
def ru (q0:Pd):List C:=[sl sC .no (q0.1)]
noncomputable def yE (q0:Pd):C:=sl bC (.own 1) (cf (q0.1))
noncomputable def AY:Nat→List C→Option C:=Sx.ext AX 46 (aO ru yE)
theorem XU (x:Pd):noRefs 0 (ru x) =true:=by
 unfold ru;exact bM
theorem ah9 (x y:Pd)(h:ru x=ru y):yE x=yE y:=by
 simp only[ru,List.cons.injEq,C.val.injEq,C.agg.injEq,C.kp.injEq,C.fn.injEq,aT,ax,aI,aV,aU,aF,aM,aH,Value.int.injEq,Value.bool.injEq,true_and,and_true] at h;simp only[yE,h]
theorem XV {gl:Nat→C}(hgn:∀g,ah 0 (gl g) =true)(hg0:gl 0= .kp (cl wC kc))(hg2:gl 2= .kp (cl wC kc))(M:Nat):CxOK (af gl M AY):=am (N:=0) (XT hgn hg0 hg2 0) XU fun q0=>aji (XT hgn hg0 hg2 0) (by intros;(iterate 48 refine (ae (by decide) _).trans ?_);apply tW<;>first|assumption|omega) (by intros;(iterate 47 refine (ae (by decide) _).trans ?_);apply N8<;>first|assumption|omega) ((q0.1)) q0.2.1 q0.2.2
theorem adw:∀ (g:Nat)(xs:List C),noRefs 0 xs=false→AY g xs=none:=aJ adv XU
theorem Pe (l:List (List UInt8))(hc0:l.length< 1099511627776)(hc1:l.flatten.length< 1099511627776):AY 46 [sl sC .no l] =some (sl bC (.own 1) (cf l)):=
 (ar _).trans (aj ah9 ⟨(l),⟨hc0,hc1⟩⟩)
abbrev Pf:= {q0: (List ba) // ((q0).length< 1099511627776)}
def rx (q0:Pf):List C:=[sl dC .no (q0.1)]
noncomputable def yF (q0:Pf):C:=sl bC (.own 1) (db (q0.1))
noncomputable def AZ:Nat→List C→Option C:=Sx.ext AY 66 (aO rx yF)
theorem XW (x:Pf):noRefs 0 (rx x) =true:=by
 unfold rx;exact bM
theorem aia (x y:Pf)(h:rx x=rx y):yF x=yF y:=by
 simp only[rx,List.cons.injEq,C.val.injEq,C.agg.injEq,C.kp.injEq,C.fn.injEq,aT,ax,aI,aV,aU,aF,aM,aH,Value.int.injEq,Value.bool.injEq,true_and,and_true] at h;simp only[yF,h]
theorem XX {gl:Nat→C}(hgn:∀g,ah 0 (gl g) =true)(hg0:gl 0= .kp (cl wC kc))(hg2:gl 2= .kp (cl wC kc))(M:Nat):CxOK (af gl M AZ):=am (N:=0) (XV hgn hg0 hg2 0) XW fun q0=>ajk (XV hgn hg0 hg2 0) (by intros;(iterate 49 refine (ae (by decide) _).trans ?_);apply tW<;>first|assumption|omega) ((q0.1)) q0.2
theorem adx:∀ (g:Nat)(xs:List C),noRefs 0 xs=false→AZ g xs=none:=aJ adw XW
theorem ady (l:List ba)(hc0:l.length< 1099511627776):AZ 66 [sl dC .no l] =some (sl bC (.own 1) (db l)):=
 (ar _).trans (aj aia ⟨(l),hc0⟩)
abbrev Pg:= {q0:fB // (PB 10000 (q0))}
def ry (q0:Pg):List C:=[.agg [.val (.int .i64 (q0.1).1),.val (.int .i64 (q0.1).2.1),sl eC .no (q0.1).2.2.1,sl dC .no (q0.1).2.2.2]]
noncomputable def yG (q0:Pg):C:=sl bC (.own 1) (dv (q0.1))
noncomputable def A0:Nat→List C→Option C:=Sx.ext AZ 40 (aO ry yG)
theorem XY (x:Pg):noRefs 0 (ry x) =true:=by
 unfold ry;exact bM
theorem aib (x y:Pg)(h:ry x=ry y):yG x=yG y:=by
 simp only[ry,List.cons.injEq,C.val.injEq,C.agg.injEq,aT,aM,aH,Value.int.injEq,true_and,and_true] at h;have e:x.1=y.1:=Prod.ext h.1 (Prod.ext h.2.1 (Prod.ext h.2.2.1 h.2.2.2));simp only[yG];rw[e]
theorem XZ {gl:Nat→C}(hgn:∀g,ah 0 (gl g) =true)(hg0:gl 0= .kp (cl wC kc))(hg2:gl 2= .kp (cl wC kc))(M:Nat):CxOK (af gl M A0):=am (N:=0) (XX hgn hg0 hg2 0) XY fun q0=>agI (XX hgn hg0 hg2 0) (by intros;(iterate 2 refine (ae (by decide) _).trans ?_);apply Pc<;>first|assumption|omega) (by intros;(iterate 1 refine (ae (by decide) _).trans ?_);apply Pe<;>first|assumption|omega) (by intros;apply ady<;>first|assumption|omega) ((q0.1)) q0.2
theorem adz:∀ (g:Nat)(xs:List C),noRefs 0 xs=false→A0 g xs=none:=aJ adx XY
theorem adA (p:fB)(hc0:PB 10000 p):A0 40 [.agg [.val (.int .i64 p.1),.val (.int .i64 p.2.1),sl eC .no p.2.2.1,sl dC .no p.2.2.2]] =some (sl bC (.own 1) (dv p)):=
 (ar _).trans (aj aib ⟨(p),hc0⟩)
abbrev Ph:= {q0: (List UInt8)×(List UInt8) // ((q0.1).length< 9223372036854775807)}
def rz (q0:Ph):List C:=[sl bC .no (q0.1.1),sl bC .no (q0.1.2)]
noncomputable def yH (q0:Ph):C:= .val (.bool (decide ((q0.1.1) = (q0.1.2))))
noncomputable def A1:Nat→List C→Option C:=Sx.ext A0 41 (aO rz yH)
theorem X0 (x:Ph):noRefs 0 (rz x) =true:=by
 unfold rz;exact bM
theorem aic (x y:Ph)(h:rz x=rz y):yH x=yH y:=by
 simp only[rz,List.cons.injEq,C.val.injEq,C.agg.injEq,C.kp.injEq,C.fn.injEq,aT,ax,aI,aV,aU,aF,aM,aH,Value.int.injEq,Value.bool.injEq,true_and,and_true] at h;simp only[yH,h]
theorem X1 {gl:Nat→C}(hgn:∀g,ah 0 (gl g) =true)(hg0:gl 0= .kp (cl wC kc))(hg2:gl 2= .kp (cl wC kc))(M:Nat):CxOK (af gl M A1):=am (N:=0) (XZ hgn hg0 hg2 0) X0 fun q0=>ajg (XZ hgn hg0 hg2 0) ((q0.1.1)) ((q0.1.2)) q0.2
theorem adB:∀ (g:Nat)(xs:List C),noRefs 0 xs=false→A1 g xs=none:=aJ adz X0
theorem Pi (x:List UInt8)(y:List UInt8)(hc0:x.length< 9223372036854775807):A1 41 [sl bC .no x,sl bC .no y] =some (.val (.bool (decide (x=y)))):=
 (ar _).trans (aj aic ⟨(x,y),hc0⟩)
abbrev Pj:= {q0: (List Int) // ((q0).length< 1099511627776)∧(∀x∈ (q0),-9223372036854775808≤x∧x≤9223372036854775807)}
def rA (q0:Pj):List C:=[sl iC .no (q0.1)]
noncomputable def yI (q0:Pj):C:=sl bC (.own 1) (bV (q0.1))
noncomputable def A2:Nat→List C→Option C:=Sx.ext A1 67 (aO rA yI)
theorem X2 (x:Pj):noRefs 0 (rA x) =true:=by
 unfold rA;exact bM
theorem aid (x y:Pj)(h:rA x=rA y):yI x=yI y:=by
 simp only[rA,List.cons.injEq,C.val.injEq,C.agg.injEq,C.kp.injEq,C.fn.injEq,aT,ax,aI,aV,aU,aF,aM,aH,Value.int.injEq,Value.bool.injEq,true_and,and_true] at h;simp only[yI,h]
theorem X3 {gl:Nat→C}(hgn:∀g,ah 0 (gl g) =true)(hg0:gl 0= .kp (cl wC kc))(hg2:gl 2= .kp (cl wC kc))(M:Nat):CxOK (af gl M A2):=am (N:=0) (X1 hgn hg0 hg2 0) X2 fun q0=>ajf (X1 hgn hg0 hg2 0) (by intros;(iterate 25 refine (ae (by decide) _).trans ?_);apply tZ<;>first|assumption|omega) ((q0.1)) q0.2.1 q0.2.2
theorem adC:∀ (g:Nat)(xs:List C),noRefs 0 xs=false→A2 g xs=none:=aJ adB X2
theorem adD (l:List Int)(hc0:l.length< 1099511627776)(hc1:∀x∈l,-9223372036854775808≤x∧x≤9223372036854775807):A2 67 [sl iC .no l] =some (sl bC (.own 1) (bV l)):=
 (ar _).trans (aj aid ⟨(l),⟨hc0,hc1⟩⟩)
abbrev Pk:= {q0: (List (List UInt8)) // ((q0).length< 1099511627776)∧((q0).flatten.length< 1099511627776)}
def rB (q0:Pk):List C:=[sl sC .no (q0.1)]
noncomputable def yJ (q0:Pk):C:=sl bC (.own 1) (cf (q0.1))
noncomputable def A3:Nat→List C→Option C:=Sx.ext A2 68 (aO rB yJ)
theorem X4 (x:Pk):noRefs 0 (rB x) =true:=by
 unfold rB;exact bM
theorem aie (x y:Pk)(h:rB x=rB y):yJ x=yJ y:=by
 simp only[rB,List.cons.injEq,C.val.injEq,C.agg.injEq,C.kp.injEq,C.fn.injEq,aT,ax,aI,aV,aU,aF,aM,aH,Value.int.injEq,Value.bool.injEq,true_and,and_true] at h;simp only[yJ,h]
theorem X5 {gl:Nat→C}(hgn:∀g,ah 0 (gl g) =true)(hg0:gl 0= .kp (cl wC kc))(hg2:gl 2= .kp (cl wC kc))(M:Nat):CxOK (af gl M A3):=am (N:=0) (X3 hgn hg0 hg2 0) X4 fun q0=>ajj (X3 hgn hg0 hg2 0) (by intros;(iterate 26 refine (ae (by decide) _).trans ?_);apply tZ<;>first|assumption|omega) (by intros;(iterate 25 refine (ae (by decide) _).trans ?_);apply ON<;>first|assumption|omega) ((q0.1)) q0.2.1 q0.2.2
theorem adE:∀ (g:Nat)(xs:List C),noRefs 0 xs=false→A3 g xs=none:=aJ adC X4
theorem adF (l:List (List UInt8))(hc0:l.length< 1099511627776)(hc1:l.flatten.length< 1099511627776):A3 68 [sl sC .no l] =some (sl bC (.own 1) (cf l)):=
 (ar _).trans (aj aie ⟨(l),⟨hc0,hc1⟩⟩)
abbrev Pl:= {q0: (List ba) // ((q0).length< 1099511627776)}
def rC (q0:Pl):List C:=[sl dC .no (q0.1)]
noncomputable def yK (q0:Pl):C:=sl bC (.own 1) (db (q0.1))
noncomputable def A4:Nat→List C→Option C:=Sx.ext A3 69 (aO rC yK)
theorem X6 (x:Pl):noRefs 0 (rC x) =true:=by
 unfold rC;exact bM
theorem aif (x y:Pl)(h:rC x=rC y):yK x=yK y:=by
 simp only[rC,List.cons.injEq,C.val.injEq,C.agg.injEq,C.kp.injEq,C.fn.injEq,aT,ax,aI,aV,aU,aF,aM,aH,Value.int.injEq,Value.bool.injEq,true_and,and_true] at h;simp only[yK,h]
theorem X7 {gl:Nat→C}(hgn:∀g,ah 0 (gl g) =true)(hg0:gl 0= .kp (cl wC kc))(hg2:gl 2= .kp (cl wC kc))(M:Nat):CxOK (af gl M A4):=am (N:=0) (X5 hgn hg0 hg2 0) X6 fun q0=>ajl (X5 hgn hg0 hg2 0) (by intros;(iterate 27 refine (ae (by decide) _).trans ?_);apply tZ<;>first|assumption|omega) ((q0.1)) q0.2
theorem adG:∀ (g:Nat)(xs:List C),noRefs 0 xs=false→A4 g xs=none:=aJ adE X6
theorem adH (l:List ba)(hc0:l.length< 1099511627776):A4 69 [sl dC .no l] =some (sl bC (.own 1) (db l)):=
 (ar _).trans (aj aif ⟨(l),hc0⟩)
abbrev Pm:= {q0:fB // (PB 10000 (q0))}
def rD (q0:Pm):List C:=[.agg [.val (.int .i64 (q0.1).1),.val (.int .i64 (q0.1).2.1),sl eC .no (q0.1).2.2.1,sl dC .no (q0.1).2.2.2]]
noncomputable def yL (q0:Pm):C:=sl bC (.own 1) (dv (q0.1))
noncomputable def A5:Nat→List C→Option C:=Sx.ext A4 42 (aO rD yL)
theorem X8 (x:Pm):noRefs 0 (rD x) =true:=by
 unfold rD;exact bM
theorem aig (x y:Pm)(h:rD x=rD y):yL x=yL y:=by
 simp only[rD,List.cons.injEq,C.val.injEq,C.agg.injEq,aT,aM,aH,Value.int.injEq,true_and,and_true] at h;have e:x.1=y.1:=Prod.ext h.1 (Prod.ext h.2.1 (Prod.ext h.2.2.1 h.2.2.2));simp only[yL];rw[e]
theorem X9 {gl:Nat→C}(hgn:∀g,ah 0 (gl g) =true)(hg0:gl 0= .kp (cl wC kc))(hg2:gl 2= .kp (cl wC kc))(M:Nat):CxOK (af gl M A5):=am (N:=0) (X7 hgn hg0 hg2 0) X8 fun q0=>agJ (X7 hgn hg0 hg2 0) (by intros;(iterate 2 refine (ae (by decide) _).trans ?_);apply adD<;>first|assumption|omega) (by intros;(iterate 1 refine (ae (by decide) _).trans ?_);apply adF<;>first|assumption|omega) (by intros;apply adH<;>first|assumption|omega) ((q0.1)) q0.2
theorem adI:∀ (g:Nat)(xs:List C),noRefs 0 xs=false→A5 g xs=none:=aJ adG X8
theorem adJ (p:fB)(hc0:PB 10000 p):A5 42 [.agg [.val (.int .i64 p.1),.val (.int .i64 p.2.1),sl eC .no p.2.2.1,sl dC .no p.2.2.2]] =some (sl bC (.own 1) (dv p)):=
 (ar _).trans (aj aig ⟨(p),hc0⟩)
abbrev Pn:= {q0: (List UInt8) // ((q0).length< 9223372036854775807)}
def rE (q0:Pn):List C:=[sl bC .no (q0.1)]
noncomputable def yM (q0:Pn):C:= .tup [.val (.int .i64 (ag (q0.1)).1),.val (nI (ag (q0.1)).2.1),.val (nI (ag (q0.1)).2.2)]
noncomputable def A6:Nat→List C→Option C:=Sx.ext A5 111 (aO rE yM)
theorem Ya (x:Pn):noRefs 0 (rE x) =true:=by
 unfold rE;exact bM
theorem aih (x y:Pn)(h:rE x=rE y):yM x=yM y:=by
 simp only[rE,List.cons.injEq,C.val.injEq,C.agg.injEq,C.kp.injEq,C.fn.injEq,aT,ax,aI,aV,aU,aF,aM,aH,Value.int.injEq,Value.bool.injEq,true_and,and_true] at h;simp only[yM,h]
theorem Yb {gl:Nat→C}(hgn:∀g,ah 0 (gl g) =true)(hg0:gl 0= .kp (cl wC kc))(hg2:gl 2= .kp (cl wC kc))(M:Nat):CxOK (af gl M A6):=am (N:=0) (X9 hgn hg0 hg2 0) Ya fun q0=>afr (X9 hgn hg0 hg2 0) ((q0.1)) q0.2
theorem adK:∀ (g:Nat)(xs:List C),noRefs 0 xs=false→A6 g xs=none:=aJ adI Ya
theorem Po (b:List UInt8)(hc0:b.length< 9223372036854775807):A6 111 [sl bC .no b] =some (.tup [.val (.int .i64 (ag b).1),.val (nI (ag b).2.1),.val (nI (ag b).2.2)]):=
 (ar _).trans (aj aih ⟨(b),hc0⟩)
abbrev Pp:= {q0: (List UInt8)×Nat // ((q0.1).length< 1099511627776)∧(0< (q0.2)∧(q0.2)≤16)}
def rF (q0:Pp):List C:=[sl bC .no (q0.1.1),.val (nI (q0.1.2))]
noncomputable def yN (q0:Pp):C:=lj (q0.1.1) (q0.1.2)
noncomputable def A7:Nat→List C→Option C:=Sx.ext A6 96 (aO rF yN)
theorem Yc (x:Pp):noRefs 0 (rF x) =true:=by
 unfold rF;exact bM
theorem aii (x y:Pp)(h:rF x=rF y):yN x=yN y:=by
 simp only[rF,List.cons.injEq,C.val.injEq,C.agg.injEq,C.kp.injEq,C.fn.injEq,aT,ax,aI,aV,aU,aF,aM,aH,Value.int.injEq,Value.bool.injEq,true_and,and_true] at h;simp only[yN,h]
theorem Yd {gl:Nat→C}(hgn:∀g,ah 0 (gl g) =true)(hg0:gl 0= .kp (cl wC kc))(hg2:gl 2= .kp (cl wC kc))(M:Nat):CxOK (af gl M A7):=am (N:=0) (Yb hgn hg0 hg2 0) Yc fun q0=>afq (Yb hgn hg0 hg2 0) (by intros;apply Po<;>first|assumption|omega) ((q0.1.1)) ((q0.1.2)) q0.2.1 q0.2.2
theorem adL:∀ (g:Nat)(xs:List C),noRefs 0 xs=false→A7 g xs=none:=aJ adK Yc
theorem yO (b:List UInt8)(s:Nat)(hc0:b.length< 1099511627776)(hc1:0< s∧s≤16):A7 96 [sl bC .no b,.val (nI s)] =some (lj b s):=
 (ar _).trans (aj aii ⟨(b,s),⟨hc0,hc1⟩⟩)
abbrev Pq:= {q0: (List UInt8) // ((q0).length< 1099511627776)}
def rG (q0:Pq):List C:=[sl bC .no (q0.1)]
noncomputable def yP (q0:Pq):C:= .tup [sl iC .no (aX ag 1 (q0.1)).1,.val (nI (aX ag 1 (q0.1)).2.1),.val (nI (aX ag 1 (q0.1)).2.2)]
noncomputable def Ke:Nat→List C→Option C:=Sx.ext A7 70 (aO rG yP)
theorem aij (x:Pq):noRefs 0 (rG x) =true:=by
 unfold rG;exact bM
theorem aik (x y:Pq)(h:rG x=rG y):yP x=yP y:=by
 simp only[rG,List.cons.injEq,C.val.injEq,C.agg.injEq,C.kp.injEq,C.fn.injEq,aT,ax,aI,aV,aU,aF,aM,aH,Value.int.injEq,Value.bool.injEq,true_and,and_true] at h;simp only[yP,h]
theorem Ye {gl:Nat→C}(hgn:∀g,ah 0 (gl g) =true)(hg0:gl 0= .kp (cl wC kc))(hg2:gl 2= .kp (cl wC kc))(M:Nat):CxOK (af gl M Ke):=am (N:=0) (Yd hgn hg0 hg2 0) aij fun q0=>afp (Yd hgn hg0 hg2 0) adL (fun xs=>by rw[A7,ae (by decide),A6,ae (by decide),A5,ae (by decide),A4,ae (by decide),A3,ae (by decide),A2,ae (by decide),A1,ae (by decide),A0,ae (by decide),AZ,ae (by decide),AY,ae (by decide),AX,ae (by decide),AW,ae (by decide),AV,ae (by decide),AU,ae (by decide),AT,ae (by decide),AS,ae (by decide),AQ,ae (by decide),AP,ae (by decide),AO,ae (by decide),AM,ae (by decide),AL,ae (by decide),AK,ae (by decide),AJ,ae (by decide),AI,ae (by decide),AH,ae (by decide),AG,ae (by decide),AF,ae (by decide),AE,ae (by decide),AD,ae (by decide),AC,ae (by decide),AB,ae (by decide),AA,ae (by decide),Az,ae (by decide),Ay,ae (by decide),Ax,ae (by decide),Aw,ae (by decide),Av,ae (by decide),Au,ae (by decide),As,ae (by decide),Ar,ae (by decide),Aq,ae (by decide),Ap,ae (by decide),Ao,ae (by decide),An,ae (by decide),Am,ae (by decide),Al,ae (by decide),Ak,ae (by decide),Aj,ae (by decide),Ai,ae (by decide),Ah,ae (by decide),Ag,ae (by decide),Af,ae (by decide),Ae,ae (by decide),Ad,ae (by decide),Ac,ae (by decide),Ab,ae (by decide),Aa,ae (by decide),z8,ae (by decide),z7,ae (by decide),z6,ae (by decide),z5,ae (by decide),vB,ae (by decide),vA,ae (by decide),vz,ae (by decide),vy,ae (by decide),Dc,ae (by decide),Da,ae (by decide),C9,ae (by decide),C8,ae (by decide),C7,ae (by decide),C6,ae (by decide),C5,ae (by decide),C4,ae (by decide),C3,ae (by decide)];rfl) (by intros;(iterate 1 refine (ae (by decide) _).trans ?_);apply Po<;>first|assumption|omega) (by intros;apply yO<;>first|assumption|omega) ((q0.1)) q0.2
theorem adM (b:List UInt8)(hc0:b.length< 1099511627776):Ke 70 [sl bC .no b] =some (.tup [sl iC .no (aX ag 1 b).1,.val (nI (aX ag 1 b).2.1),.val (nI (aX ag 1 b).2.2)]):=
 (ar _).trans (aj aik ⟨(b),hc0⟩)
abbrev Pr:= {q0: (List UInt8) // ((q0).length< 1099511627776)}
def rH (q0:Pr):List C:=[sl bC .no (q0.1)]
noncomputable def yQ (q0:Pr):C:= .tup [.val (str (bn (q0.1)).1),.val (nI (bn (q0.1)).2.1),.val (nI (bn (q0.1)).2.2)]
noncomputable def Kf:Nat→List C→Option C:=Sx.ext Ke 98 (aO rH yQ)
theorem ail (x:Pr):noRefs 0 (rH x) =true:=by
 unfold rH;exact bM
theorem aim (x y:Pr)(h:rH x=rH y):yQ x=yQ y:=by
 simp only[rH,List.cons.injEq,C.val.injEq,C.agg.injEq,C.kp.injEq,C.fn.injEq,aT,ax,aI,aV,aU,aF,aM,aH,Value.int.injEq,Value.bool.injEq,true_and,and_true] at h;simp only[yQ,h]
theorem Yf {gl:Nat→C}(hgn:∀g,ah 0 (gl g) =true)(hg0:gl 0= .kp (cl wC kc))(hg2:gl 2= .kp (cl wC kc))(M:Nat):CxOK (af gl M Kf):=am (N:=0) (Ye hgn hg0 hg2 0) ail fun q0=>ajn (Ye hgn hg0 hg2 0) (by intros;(iterate 1 refine (ae (by decide) _).trans ?_);apply yO<;>first|assumption|omega) ((q0.1)) q0.2
theorem adN (b:List UInt8)(hc0:b.length< 1099511627776):Kf 98 [sl bC .no b] =some (.tup [.val (str (bn b).1),.val (nI (bn b).2.1),.val (nI (bn b).2.2)]):=
 (ar _).trans (aj aim ⟨(b),hc0⟩)
abbrev Ps:= {q0: (List UInt8) // ((q0).length< 1099511627776)}
def rI (q0:Ps):List C:=[sl bC .no (q0.1)]
noncomputable def yR (q0:Ps):C:= .tup [sl sC .no (aX bn 1 (q0.1)).1,.val (nI (aX bn 1 (q0.1)).2.1),.val (nI (aX bn 1 (q0.1)).2.2)]
noncomputable def Kg:Nat→List C→Option C:=Sx.ext Kf 71 (aO rI yR)
theorem ain (x:Ps):noRefs 0 (rI x) =true:=by
 unfold rI;exact bM
theorem aio (x y:Ps)(h:rI x=rI y):yR x=yR y:=by
 simp only[rI,List.cons.injEq,C.val.injEq,C.agg.injEq,C.kp.injEq,C.fn.injEq,aT,ax,aI,aV,aU,aF,aM,aH,Value.int.injEq,Value.bool.injEq,true_and,and_true] at h;simp only[yR,h]
theorem Yg {gl:Nat→C}(hgn:∀g,ah 0 (gl g) =true)(hg0:gl 0= .kp (cl wC kc))(hg2:gl 2= .kp (cl wC kc))(M:Nat):CxOK (af gl M Kg):=am (N:=0) (Yf hgn hg0 hg2 0) ain fun q0=>ajq (Yf hgn hg0 hg2 0) (by intros;(iterate 2 refine (ae (by decide) _).trans ?_);apply yO<;>first|assumption|omega) (by intros;apply adN<;>first|assumption|omega) ((q0.1)) q0.2
theorem adO (b:List UInt8)(hc0:b.length< 1099511627776):Kg 71 [sl bC .no b] =some (.tup [sl sC .no (aX bn 1 b).1,.val (nI (aX bn 1 b).2.1),.val (nI (aX bn 1 b).2.2)]):=
 (ar _).trans (aj aio ⟨(b),hc0⟩)
abbrev Pt:= {q0: (List UInt8) // ((q0).length< 1099511627776)}
def rJ (q0:Pt):List C:=[sl bC .no (q0.1)]
noncomputable def yS (q0:Pt):C:= .tup [sl dC .no (aX b8 16 (q0.1)).1,.val (nI (aX b8 16 (q0.1)).2.1),.val (nI (aX b8 16 (q0.1)).2.2)]
noncomputable def Kh:Nat→List C→Option C:=Sx.ext Kg 72 (aO rJ yS)
theorem aip (x:Pt):noRefs 0 (rJ x) =true:=by
 unfold rJ;exact bM
theorem aiq (x y:Pt)(h:rJ x=rJ y):yS x=yS y:=by
 simp only[rJ,List.cons.injEq,C.val.injEq,C.agg.injEq,C.kp.injEq,C.fn.injEq,aT,ax,aI,aV,aU,aF,aM,aH,Value.int.injEq,Value.bool.injEq,true_and,and_true] at h;simp only[yS,h]
theorem Yh {gl:Nat→C}(hgn:∀g,ah 0 (gl g) =true)(hg0:gl 0= .kp (cl wC kc))(hg2:gl 2= .kp (cl wC kc))(M:Nat):CxOK (af gl M Kh):=am (N:=0) (Yg hgn hg0 hg2 0) aip fun q0=>ajr (Yg hgn hg0 hg2 0) (by intros;(iterate 3 refine (ae (by decide) _).trans ?_);apply yO<;>first|assumption|omega) ((q0.1)) q0.2
theorem adP (b:List UInt8)(hc0:b.length< 1099511627776):Kh 72 [sl bC .no b] =some (.tup [sl dC .no (aX b8 16 b).1,.val (nI (aX b8 16 b).2.1),.val (nI (aX b8 16 b).2.2)]):=
 (ar _).trans (aj aiq ⟨(b),hc0⟩)
abbrev wv:= {q0: (List (List UInt8)) // True}
def rK (q0:wv):List C:=[sl sC .no (q0.1),.val (nI 2)]
noncomputable def yT (q0:wv):C:= .fn 99 [.kp [sl sC .no (q0.1)],.kp [.val (nI 2)]]
noncomputable def Ki:Nat→List C→Option C:=Sx.ext Kh 73 (aO rK yT)
theorem air (x:wv):noRefs 0 (rK x) =true:=by
 unfold rK;exact bM
theorem ais (x y:wv)(h:rK x=rK y):yT x=yT y:=by
 simp only[rK,List.cons.injEq,C.val.injEq,C.agg.injEq,C.kp.injEq,C.fn.injEq,aT,ax,aI,aV,aU,aF,aM,aH,Value.int.injEq,Value.bool.injEq,true_and,and_true] at h;simp only[yT,h]
theorem Yi {gl:Nat→C}(hgn:∀g,ah 0 (gl g) =true)(hg0:gl 0= .kp (cl wC kc))(hg2:gl 2= .kp (cl wC kc))(M:Nat):CxOK (af gl M Ki):=am (N:=0) (Yh hgn hg0 hg2 0) air fun q0=>agK (Yh hgn hg0 hg2 0) ((q0.1))
theorem adQ (l:List (List UInt8)):Ki 73 [sl sC .no l,.val (nI 2)] =some (.fn 99 [.kp [sl sC .no l],.kp [.val (nI 2)]]):=
 (ar _).trans (aj ais ⟨(l),trivial⟩)
abbrev Pu:= {q0: (List UInt8) // ((q0).length< 1099511627776)}
def rL (q0:Pu):List C:=[sl bC .no (q0.1)]
noncomputable def yU (q0:Pu):C:= .tup [.agg [.val (.int .i64 (bF (q0.1)).1.1),.val (.int .i64 (bF (q0.1)).1.2.1),sl eC .no (bF (q0.1)).1.2.2.1,sl dC .no (bF (q0.1)).1.2.2.2],.val (nI (bF (q0.1)).2.1),.val (nI (bF (q0.1)).2.2)]
noncomputable def Kj:Nat→List C→Option C:=Sx.ext Ki 43 (aO rL yU)
theorem ait (x:Pu):noRefs 0 (rL x) =true:=by
 unfold rL;exact bM
theorem aiu (x y:Pu)(h:rL x=rL y):yU x=yU y:=by
 simp only[rL,List.cons.injEq,C.val.injEq,C.agg.injEq,C.kp.injEq,C.fn.injEq,aT,ax,aI,aV,aU,aF,aM,aH,Value.int.injEq,Value.bool.injEq,true_and,and_true] at h;simp only[yU,h]
theorem Yj {gl:Nat→C}(hgn:∀g,ah 0 (gl g) =true)(hg0:gl 0= .kp (cl wC kc))(hg2:gl 2= .kp (cl wC kc))(M:Nat):CxOK (af gl M Kj):=am (N:=0) (Yi hgn hg0 hg2 0) ait fun q0=>agL (Yi hgn hg0 hg2 0) (by intros;(iterate 4 refine (ae (by decide) _).trans ?_);apply adM<;>first|assumption|omega) (by intros;(iterate 2 refine (ae (by decide) _).trans ?_);apply adO<;>first|assumption|omega) (by intros;(iterate 1 refine (ae (by decide) _).trans ?_);apply adP<;>first|assumption|omega) (by intros;apply adQ<;>first|assumption|omega) ((q0.1)) q0.2
theorem adR (b:List UInt8)(hc0:b.length< 1099511627776):Kj 43 [sl bC .no b] =some (.tup [.agg [.val (.int .i64 (bF b).1.1),.val (.int .i64 (bF b).1.2.1),sl eC .no (bF b).1.2.2.1,sl dC .no (bF b).1.2.2.2],.val (nI (bF b).2.1),.val (nI (bF b).2.2)]):=
 (ar _).trans (aj aiu ⟨(b),hc0⟩)
abbrev Pv:= {q0: (List UInt8)×Nat // ((q0.2)≤1000000)∧((q0.1).length< 9223372036854775808)}
def rM (q0:Pv):List C:=[sl bC .no (q0.1.1),.val (nI (q0.1.2))]
noncomputable def yV (q0:Pv):C:=sl bC (.own 1) ((q0.1.1).take (q0.1.2))
noncomputable def Kk:Nat→List C→Option C:=Sx.ext Kj 44 (aO rM yV)
theorem aiv (x:Pv):noRefs 0 (rM x) =true:=by
 unfold rM;exact bM
theorem aiw (x y:Pv)(h:rM x=rM y):yV x=yV y:=by
 simp only[rM,List.cons.injEq,C.val.injEq,C.agg.injEq,C.kp.injEq,C.fn.injEq,aT,ax,aI,aV,aU,aF,aM,aH,Value.int.injEq,Value.bool.injEq,true_and,and_true] at h;simp only[yV,h]
theorem Yk {gl:Nat→C}(hgn:∀g,ah 0 (gl g) =true)(hg0:gl 0= .kp (cl wC kc))(hg2:gl 2= .kp (cl wC kc))(M:Nat):CxOK (af gl M Kk):=am (N:=0) (Yj hgn hg0 hg2 0) aiv fun q0=>agN (Yj hgn hg0 hg2 0) ((q0.1.1)) ((q0.1.2)) q0.2.1 q0.2.2
theorem adS (b:List UInt8)(n:Nat)(hc0:n≤1000000)(hc1:b.length< 9223372036854775808):Kk 44 [sl bC .no b,.val (nI n)] =some (sl bC (.own 1) (b.take n)):=
 (ar _).trans (aj aiw ⟨(b,n),⟨hc0,hc1⟩⟩)
abbrev Pw:= {q0: (List UInt8) // ((q0).length< 9223372036854775807)}
def rN (q0:Pw):List C:=[sl bC .no (q0.1)]
noncomputable def yW (q0:Pw):C:= .tup [.val (.int .i64 (ag (q0.1)).1),.val (nI (ag (q0.1)).2.1),.val (nI (ag (q0.1)).2.2)]
noncomputable def Kl:Nat→List C→Option C:=Sx.ext Kk 101 (aO rN yW)
theorem aix (x:Pw):noRefs 0 (rN x) =true:=by
 unfold rN;exact bM
theorem aiy (x y:Pw)(h:rN x=rN y):yW x=yW y:=by
 simp only[rN,List.cons.injEq,C.val.injEq,C.agg.injEq,C.kp.injEq,C.fn.injEq,aT,ax,aI,aV,aU,aF,aM,aH,Value.int.injEq,Value.bool.injEq,true_and,and_true] at h;simp only[yW,h]
theorem Yl {gl:Nat→C}(hgn:∀g,ah 0 (gl g) =true)(hg0:gl 0= .kp (cl wC kc))(hg2:gl 2= .kp (cl wC kc))(M:Nat):CxOK (af gl M Kl):=am (N:=0) (Yk hgn hg0 hg2 0) aix fun q0=>afs (Yk hgn hg0 hg2 0) (by intros;(iterate 38 refine (ae (by decide) _).trans ?_);apply tZ<;>first|assumption|omega) (by intros;(iterate 13 refine (ae (by decide) _).trans ?_);apply Pi<;>first|assumption|omega) ((q0.1)) q0.2
theorem Px (b:List UInt8)(hc0:b.length< 9223372036854775807):Kl 101 [sl bC .no b] =some (.tup [.val (.int .i64 (ag b).1),.val (nI (ag b).2.1),.val (nI (ag b).2.2)]):=
 (ar _).trans (aj aiy ⟨(b),hc0⟩)
abbrev Py:= {q0: (List UInt8)×Nat // ((q0.1).length< 1099511627776)∧(0< (q0.2)∧(q0.2)≤16)}
def rO (q0:Py):List C:=[sl bC .no (q0.1.1),.val (nI (q0.1.2))]
noncomputable def yX (q0:Py):C:=lx (q0.1.1) (q0.1.2)
noncomputable def Km:Nat→List C→Option C:=Sx.ext Kl 100 (aO rO yX)
theorem aiz (x:Py):noRefs 0 (rO x) =true:=by
 unfold rO;exact bM
theorem aiA (x y:Py)(h:rO x=rO y):yX x=yX y:=by
 simp only[rO,List.cons.injEq,C.val.injEq,C.agg.injEq,C.kp.injEq,C.fn.injEq,aT,ax,aI,aV,aU,aF,aM,aH,Value.int.injEq,Value.bool.injEq,true_and,and_true] at h;simp only[yX,h]
theorem Ym {gl:Nat→C}(hgn:∀g,ah 0 (gl g) =true)(hg0:gl 0= .kp (cl wC kc))(hg2:gl 2= .kp (cl wC kc))(M:Nat):CxOK (af gl M Km):=am (N:=0) (Yl hgn hg0 hg2 0) aiz fun q0=>aa2 (Yl hgn hg0 hg2 0) (by intros;apply Px<;>first|assumption|omega) ((q0.1.1)) ((q0.1.2)) q0.2.1 q0.2.2
theorem yY (b:List UInt8)(s:Nat)(hc0:b.length< 1099511627776)(hc1:0< s∧s≤16):Km 100 [sl bC .no b,.val (nI s)] =some (lx b s):=
 (ar _).trans (aj aiA ⟨(b,s),⟨hc0,hc1⟩⟩)
abbrev Pz:= {q0: (List UInt8) // ((q0).length< 1099511627776)}
def rP (q0:Pz):List C:=[sl bC .no (q0.1)]
noncomputable def yZ (q0:Pz):C:= .tup [sl iC .no (aX ag 1 (q0.1)).1,.val (nI (aX ag 1 (q0.1)).2.1),.val (nI (aX ag 1 (q0.1)).2.2)]
noncomputable def Kn:Nat→List C→Option C:=Sx.ext Km 75 (aO rP yZ)
theorem aiB (x:Pz):noRefs 0 (rP x) =true:=by
 unfold rP;exact bM
theorem aiC (x y:Pz)(h:rP x=rP y):yZ x=yZ y:=by
 simp only[rP,List.cons.injEq,C.val.injEq,C.agg.injEq,C.kp.injEq,C.fn.injEq,aT,ax,aI,aV,aU,aF,aM,aH,Value.int.injEq,Value.bool.injEq,true_and,and_true] at h;simp only[yZ,h]
theorem Yn {gl:Nat→C}(hgn:∀g,ah 0 (gl g) =true)(hg0:gl 0= .kp (cl wC kc))(hg2:gl 2= .kp (cl wC kc))(M:Nat):CxOK (af gl M Kn):=am (N:=0) (Ym hgn hg0 hg2 0) aiB fun q0=>ajo (Ym hgn hg0 hg2 0) (by intros;apply yY<;>first|assumption|omega) (by intros;(iterate 1 refine (ae (by decide) _).trans ?_);apply Px<;>first|assumption|omega) ((q0.1)) q0.2
theorem adT (b:List UInt8)(hc0:b.length< 1099511627776):Kn 75 [sl bC .no b] =some (.tup [sl iC .no (aX ag 1 b).1,.val (nI (aX ag 1 b).2.1),.val (nI (aX ag 1 b).2.2)]):=
 (ar _).trans (aj aiC ⟨(b),hc0⟩)
abbrev PA:= {q0: (List UInt8) // ((q0).length< 1099511627776)}
def rQ (q0:PA):List C:=[sl bC .no (q0.1)]
noncomputable def y0 (q0:PA):C:= .tup [.val (str (bn (q0.1)).1),.val (nI (bn (q0.1)).2.1),.val (nI (bn (q0.1)).2.2)]
noncomputable def Ko:Nat→List C→Option C:=Sx.ext Kn 102 (aO rQ y0)
theorem aiD (x:PA):noRefs 0 (rQ x) =true:=by
 unfold rQ;exact bM
theorem aiE (x y:PA)(h:rQ x=rQ y):y0 x=y0 y:=by
 simp only[rQ,List.cons.injEq,C.val.injEq,C.agg.injEq,C.kp.injEq,C.fn.injEq,aT,ax,aI,aV,aU,aF,aM,aH,Value.int.injEq,Value.bool.injEq,true_and,and_true] at h;simp only[y0,h]
theorem Yo {gl:Nat→C}(hgn:∀g,ah 0 (gl g) =true)(hg0:gl 0= .kp (cl wC kc))(hg2:gl 2= .kp (cl wC kc))(M:Nat):CxOK (af gl M Ko):=am (N:=0) (Yn hgn hg0 hg2 0) aiD fun q0=>afu (Yn hgn hg0 hg2 0) (by intros;(iterate 1 refine (ae (by decide) _).trans ?_);apply yY<;>first|assumption|omega) ((q0.1)) q0.2
theorem adU (b:List UInt8)(hc0:b.length< 1099511627776):Ko 102 [sl bC .no b] =some (.tup [.val (str (bn b).1),.val (nI (bn b).2.1),.val (nI (bn b).2.2)]):=
 (ar _).trans (aj aiE ⟨(b),hc0⟩)
abbrev PC:= {q0: (List UInt8) // ((q0).length< 1099511627776)}
def rR (q0:PC):List C:=[sl bC .no (q0.1)]
noncomputable def y3 (q0:PC):C:= .tup [sl sC .no (aX bn 1 (q0.1)).1,.val (nI (aX bn 1 (q0.1)).2.1),.val (nI (aX bn 1 (q0.1)).2.2)]
noncomputable def Kp:Nat→List C→Option C:=Sx.ext Ko 76 (aO rR y3)
theorem aiF (x:PC):noRefs 0 (rR x) =true:=by
 unfold rR;exact bM
theorem aiG (x y:PC)(h:rR x=rR y):y3 x=y3 y:=by
 simp only[rR,List.cons.injEq,C.val.injEq,C.agg.injEq,C.kp.injEq,C.fn.injEq,aT,ax,aI,aV,aU,aF,aM,aH,Value.int.injEq,Value.bool.injEq,true_and,and_true] at h;simp only[y3,h]
theorem Yp {gl:Nat→C}(hgn:∀g,ah 0 (gl g) =true)(hg0:gl 0= .kp (cl wC kc))(hg2:gl 2= .kp (cl wC kc))(M:Nat):CxOK (af gl M Kp):=am (N:=0) (Yo hgn hg0 hg2 0) aiF fun q0=>ajp (Yo hgn hg0 hg2 0) (by intros;(iterate 2 refine (ae (by decide) _).trans ?_);apply yY<;>first|assumption|omega) (by intros;apply adU<;>first|assumption|omega) ((q0.1)) q0.2
theorem adV (b:List UInt8)(hc0:b.length< 1099511627776):Kp 76 [sl bC .no b] =some (.tup [sl sC .no (aX bn 1 b).1,.val (nI (aX bn 1 b).2.1),.val (nI (aX bn 1 b).2.2)]):=
 (ar _).trans (aj aiG ⟨(b),hc0⟩)
abbrev PD:= {q0: (List UInt8) // ((q0).length< 1099511627776)}
def rS (q0:PD):List C:=[sl bC .no (q0.1)]
noncomputable def y4 (q0:PD):C:= .tup [sl dC .no (aX b8 16 (q0.1)).1,.val (nI (aX b8 16 (q0.1)).2.1),.val (nI (aX b8 16 (q0.1)).2.2)]
noncomputable def Kq:Nat→List C→Option C:=Sx.ext Kp 77 (aO rS y4)
theorem aiH (x:PD):noRefs 0 (rS x) =true:=by
 unfold rS;exact bM
theorem aiI (x y:PD)(h:rS x=rS y):y4 x=y4 y:=by
 simp only[rS,List.cons.injEq,C.val.injEq,C.agg.injEq,C.kp.injEq,C.fn.injEq,aT,ax,aI,aV,aU,aF,aM,aH,Value.int.injEq,Value.bool.injEq,true_and,and_true] at h;simp only[y4,h]
theorem Yq {gl:Nat→C}(hgn:∀g,ah 0 (gl g) =true)(hg0:gl 0= .kp (cl wC kc))(hg2:gl 2= .kp (cl wC kc))(M:Nat):CxOK (af gl M Kq):=am (N:=0) (Yp hgn hg0 hg2 0) aiH fun q0=>ajs (Yp hgn hg0 hg2 0) (by intros;(iterate 3 refine (ae (by decide) _).trans ?_);apply yY<;>first|assumption|omega) ((q0.1)) q0.2
theorem adW (b:List UInt8)(hc0:b.length< 1099511627776):Kq 77 [sl bC .no b] =some (.tup [sl dC .no (aX b8 16 b).1,.val (nI (aX b8 16 b).2.1),.val (nI (aX b8 16 b).2.2)]):=
 (ar _).trans (aj aiI ⟨(b),hc0⟩)
abbrev PE:= {q0: (List UInt8) // ((q0).length< 1099511627776)}
def rT (q0:PE):List C:=[sl bC .no (q0.1)]
noncomputable def y5 (q0:PE):C:= .tup [.agg [.val (.int .i64 (bF (q0.1)).1.1),.val (.int .i64 (bF (q0.1)).1.2.1),sl eC .no (bF (q0.1)).1.2.2.1,sl dC .no (bF (q0.1)).1.2.2.2],.val (nI (bF (q0.1)).2.1),.val (nI (bF (q0.1)).2.2)]
noncomputable def Yr:Nat→List C→Option C:=Sx.ext Kq 47 (aO rT y5)
theorem aiJ (x:PE):noRefs 0 (rT x) =true:=by
 unfold rT;exact bM
theorem aiK (x y:PE)(h:rT x=rT y):y5 x=y5 y:=by
 simp only[rT,List.cons.injEq,C.val.injEq,C.agg.injEq,C.kp.injEq,C.fn.injEq,aT,ax,aI,aV,aU,aF,aM,aH,Value.int.injEq,Value.bool.injEq,true_and,and_true] at h;simp only[y5,h]
theorem aiL {gl:Nat→C}(hgn:∀g,ah 0 (gl g) =true)(hg0:gl 0= .kp (cl wC kc))(hg2:gl 2= .kp (cl wC kc))(M:Nat):CxOK (af gl M Yr):=am (N:=0) (Yq hgn hg0 hg2 0) aiJ fun q0=>agM (Yq hgn hg0 hg2 0) (by intros;(iterate 3 refine (ae (by decide) _).trans ?_);apply adT<;>first|assumption|omega) (by intros;(iterate 1 refine (ae (by decide) _).trans ?_);apply adV<;>first|assumption|omega) (by intros;apply adW<;>first|assumption|omega) ((q0.1)) q0.2
theorem adX (b:List UInt8)(hc0:b.length< 1099511627776):Yr 47 [sl bC .no b] =some (.tup [.agg [.val (.int .i64 (bF b).1.1),.val (.int .i64 (bF b).1.2.1),sl eC .no (bF b).1.2.2.1,sl dC .no (bF b).1.2.2.2],.val (nI (bF b).2.1),.val (nI (bF b).2.2)]):=
 (ar _).trans (aj aiK ⟨(b),hc0⟩)
theorem law9 {gl:Nat→C}(hgn:∀g,ah 0 (gl g) =true)(hg0:gl 0= .kp (cl wC kc))(hg2:gl 2= .kp (cl wC kc))(l:List Int)(k:Int)(w:Int)(u:Int)(t:Int)(raw:List UInt8)(hc0:LI l)(hc1: -9223372036854775808≤k∧k≤9223372036854775807)(hc2: -9223372036854775808≤w∧w≤9223372036854775807)(hc3: -9223372036854775808≤u∧u≤9223372036854775807)(hc4: -9223372036854775808≤t∧t≤9223372036854775807)(hc5:raw.length< 9223372036854775808):FC Tryd.prog gl 9 [sl iC .no l,.val (.int .i64 k),.val (.int .i64 w),.val (.int .i64 u),.val (.int .i64 t),sl bC .no raw] [] (.val (.bool true)) []:=fc9 (aiL hgn hg0 hg2 0) (by intros;(iterate 84 refine (ae (by decide) _).trans ?_);apply ag1<;>first|assumption|omega) (by intros;(iterate 87 refine (ae (by decide) _).trans ?_);apply EC<;>first|assumption|omega) (by intros;(iterate 50 refine (ae (by decide) _).trans ?_);apply acJ<;>first|assumption|omega) (by intros;(iterate 49 refine (ae (by decide) _).trans ?_);apply acL<;>first|assumption|omega) (by intros;(iterate 33 refine (ae (by decide) _).trans ?_);apply ade<;>first|assumption|omega) (by intros;(iterate 30 refine (ae (by decide) _).trans ?_);apply adk<;>first|assumption|omega) (by intros;(iterate 28 refine (ae (by decide) _).trans ?_);apply ado<;>first|assumption|omega) (by intros;(iterate 27 refine (ae (by decide) _).trans ?_);apply adq<;>first|assumption|omega) (by intros;(iterate 25 refine (ae (by decide) _).trans ?_);apply adu<;>first|assumption|omega) (by intros;(iterate 21 refine (ae (by decide) _).trans ?_);apply adA<;>first|assumption|omega) (by intros;(iterate 20 refine (ae (by decide) _).trans ?_);apply Pi<;>first|assumption|omega) (by intros;(iterate 16 refine (ae (by decide) _).trans ?_);apply adJ<;>first|assumption|omega) (by intros;(iterate 8 refine (ae (by decide) _).trans ?_);apply adR<;>first|assumption|omega) (by intros;(iterate 7 refine (ae (by decide) _).trans ?_);apply adS<;>first|assumption|omega) (by intros;(iterate 24 refine (ae (by decide) _).trans ?_);apply Pc<;>first|assumption|omega) (by intros;(iterate 23 refine (ae (by decide) _).trans ?_);apply Pe<;>first|assumption|omega) (by intros;apply adX<;>first|assumption|omega) (l) (k) (w) (u) (t) (raw) hc0 hc1 hc2 hc3 hc4 hc5
end Go.Sx.T9
