/-
  
-/
import Derived.Test.YtmoaeemdlompaaaDoorPap
import Derived.Test.YtmoaeemdlompaaaDoorPaq
import Derived.Test.YtmoaeemdlompaaaDoorPar
import Derived.Test.YtmoaeemdlompaaaDoorPao
import Derived.Test.YtmoaeemdlompaaaDoorPal
import Derived.Test.YtmoaeemdlompaaaDoorPam
set_option linter.unusedSimpArgs false
set_option linter.unusedVariables false
namespace Go.Sx.T3
open Go.RowKit Go.Proofs
def Fa:Nat→List C→Option C:=fun _ _=>none
theorem SP {gl:Nat→C}(hgn:∀g,ah 0 (gl g) =true)(hg0:gl 0= .kp (cl wC kc))(hg2:gl 2= .kp (cl wC kc))(M:Nat):CxOK (ao gl M Fa):=CxOK.zero hgn
theorem T6:∀ (g:Nat)(xs:List C),noRefs 0 xs=false→Fa g xs=none:=fun _ _ _=>rfl
theorem T7:∀ (g:Nat)(xs:List C),cM xs=true→Fa g xs=none:=DQ
abbrev D1:= {q0:Int×Nat // (-9223372036854775808≤(q0.1)∧(q0.1)≤9223372036854775807∧0< (q0.2)∧(q0.2)≤9223372036854775807)}
def qG (q0:D1):List C:=[.val (.int .i64 (q0.1.1)),.val (nI (q0.1.2))]
noncomputable def xd (q0:D1):C:= .val (nI (eo (q0.1.1) (q0.1.2)))
noncomputable def zS:Nat→List C→Option C:=Sx.ext Fa 17 (aV qG xd)
theorem Lm (x:D1):noRefs 0 (qG x) =true:=by
 simp only[qG,am,aw,ax,ay,ar,au,af,ag,an,Bool.and_self,Bool.and_true,aF,aC,aG,aH]
theorem VN (x y:D1)(h:qG x=qG y):xd x=xd y:=by
 simp only[qG,List.cons.injEq,C.val.injEq,C.agg.injEq,C.kp.injEq,C.fn.injEq,bh,aQ,aT,ba,a8,aR,a0,aU,Value.int.injEq,Value.bool.injEq,true_and,and_true] at h;simp only[xd,h]
theorem SQ {gl:Nat→C}(hgn:∀g,ah 0 (gl g) =true)(hg0:gl 0= .kp (cl wC kc))(hg2:gl 2= .kp (cl wC kc))(M:Nat):CxOK (ao gl M zS):=aB (N:=0) (SP hgn hg0 hg2 0) Lm fun q0=>TV (SP hgn hg0 hg2 0) ((q0.1.1)) ((q0.1.2)) q0.2
theorem T8:∀ (g:Nat)(xs:List C),noRefs 0 xs=false→zS g xs=none:=aM T6 Lm
theorem T9:∀ (g:Nat)(xs:List C),cM xs=true→zS g xs=none:=dz T7 Lm
theorem Ln (n:Int)(m:Nat)(hc0: -9223372036854775808≤n∧n≤9223372036854775807∧0< m∧m≤9223372036854775807):zS 17 [.val (.int .i64 n),.val (nI m)] =some (.val (nI (eo n m))):=
 (aK _).trans (aA VN ⟨(n,m),hc0⟩)
abbrev D2:= {q0: (List Int)×Nat×Nat // (LI (q0.1))∧((q0.2.1)≤1000000)∧(0< (q0.2.2)∧(q0.2.2)≤9223372036854775807)}
def qH (q0:D2):List C:=[sl iC .no (q0.1.1),.val (nI (q0.1.2.1)),.val (nI (q0.1.2.2))]
noncomputable def xe (q0:D2):C:= .val (nI (iW (q0.1.1) (q0.1.2.1) (q0.1.2.2)))
noncomputable def zT:Nat→List C→Option C:=Sx.ext zS 48 (aV qH xe)
theorem Lo (x:D2):noRefs 0 (qH x) =true:=by
 simp only[qH,am,aw,ax,ay,ar,au,af,ag,an,Bool.and_self,Bool.and_true,aF,aC,aG,aH]
theorem VO (x y:D2)(h:qH x=qH y):xe x=xe y:=by
 simp only[qH,List.cons.injEq,C.val.injEq,C.agg.injEq,C.kp.injEq,C.fn.injEq,bh,aQ,aT,ba,a8,aR,a0,aU,Value.int.injEq,Value.bool.injEq,true_and,and_true] at h;simp only[xe,h]
theorem SS {gl:Nat→C}(hgn:∀g,ah 0 (gl g) =true)(hg0:gl 0= .kp (cl wC kc))(hg2:gl 2= .kp (cl wC kc))(M:Nat):CxOK (ao gl M zT):=aB (N:=0) (SQ hgn hg0 hg2 0) Lo fun q0=>TW (SQ hgn hg0 hg2 0) (by intros;apply Ln<;>first|assumption|omega) ((q0.1.1)) ((q0.1.2.1)) ((q0.1.2.2)) q0.2.1 q0.2.2.1 q0.2.2.2
theorem Ua:∀ (g:Nat)(xs:List C),noRefs 0 xs=false→zT g xs=none:=aM T8 Lo
theorem Ub:∀ (g:Nat)(xs:List C),cM xs=true→zT g xs=none:=dz T9 Lo
theorem Uc (l:List Int)(i:Nat)(m:Nat)(hc0:LI l)(hc1:i≤1000000)(hc2:0< m∧m≤9223372036854775807):zT 48 [sl iC .no l,.val (nI i),.val (nI m)] =some (.val (nI (iW l i m))):=
 (aK _).trans (aA VO ⟨(l,i,m),⟨hc0,hc1,hc2⟩⟩)
abbrev D3:= {q0:Nat // ((q0)≤1000000000000)}
def qI (q0:D3):List C:=[.val (nI (q0.1))]
noncomputable def xf (q0:D3):C:= .val (str (jP (q0.1)))
noncomputable def zU:Nat→List C→Option C:=Sx.ext zT 49 (aV qI xf)
theorem Lp (x:D3):noRefs 0 (qI x) =true:=by
 simp only[qI,am,aw,ax,ay,ar,au,af,ag,an,Bool.and_self,Bool.and_true,aF,aC,aG,aH]
theorem VP (x y:D3)(h:qI x=qI y):xf x=xf y:=by
 simp only[qI,List.cons.injEq,C.val.injEq,C.agg.injEq,C.kp.injEq,C.fn.injEq,bh,aQ,aT,ba,a8,aR,a0,aU,Value.int.injEq,Value.bool.injEq,true_and,and_true] at h;simp only[xf,h]
theorem ST {gl:Nat→C}(hgn:∀g,ah 0 (gl g) =true)(hg0:gl 0= .kp (cl wC kc))(hg2:gl 2= .kp (cl wC kc))(M:Nat):CxOK (ao gl M zU):=aB (N:=0) (SS hgn hg0 hg2 0) Lp fun q0=>TX (SS hgn hg0 hg2 0) ((q0.1)) q0.2
theorem Ud:∀ (g:Nat)(xs:List C),noRefs 0 xs=false→zU g xs=none:=aM Ua Lp
theorem Ue:∀ (g:Nat)(xs:List C),cM xs=true→zU g xs=none:=dz Ub Lp
theorem Uf (n:Nat)(hc0:n≤1000000000000):zU 49 [.val (nI n)] =some (.val (str (jP n))):=
 (aK _).trans (aA VP ⟨(n),hc0⟩)
abbrev D4:= {q0: (List Int) // (LI (q0))}
def qJ (q0:D4):List C:=[sl iC .no (q0.1)]
noncomputable def xg (q0:D4):C:=sl eC (.own 2) (gG (q0.1))
noncomputable def zV:Nat→List C→Option C:=Sx.ext zU 10 (aV qJ xg)
theorem Lq (x:D4):noRefs 0 (qJ x) =true:=by
 simp only[qJ,am,aw,ax,ay,ar,au,af,ag,an,Bool.and_self,Bool.and_true,aF,aC,aG,aH]
theorem VQ (x y:D4)(h:qJ x=qJ y):xg x=xg y:=by
 simp only[qJ,List.cons.injEq,C.val.injEq,C.agg.injEq,C.kp.injEq,C.fn.injEq,bh,aQ,aT,ba,a8,aR,a0,aU,Value.int.injEq,Value.bool.injEq,true_and,and_true] at h;simp only[xg,h]
theorem SU {gl:Nat→C}(hgn:∀g,ah 0 (gl g) =true)(hg0:gl 0= .kp (cl wC kc))(hg2:gl 2= .kp (cl wC kc))(M:Nat):CxOK (ao gl M zV):=aB (N:=0) (ST hgn hg0 hg2 0) Lq fun q0=>T4 (ST hgn hg0 hg2 0) (by intros;(iterate 1 refine (aE (by decide) _).trans ?_);apply Uc<;>first|assumption|omega) (by intros;apply Uf<;>first|assumption|omega) ((q0.1)) q0.2
theorem Ug:∀ (g:Nat)(xs:List C),noRefs 0 xs=false→zV g xs=none:=aM Ud Lq
theorem Uh:∀ (g:Nat)(xs:List C),cM xs=true→zV g xs=none:=dz Ue Lq
theorem Ui (l:List Int)(hc0:LI l):zV 10 [sl iC .no l] =some (sl eC (.own 2) (gG l)):=
 (aK _).trans (aA VQ ⟨(l),hc0⟩)
abbrev D5:= {q0: (List UInt8)×Nat // ((q0.1).length< 9223372036854775808)∧((q0.2)≤1000000)}
def qK (q0:D5):List C:=[.val (str (q0.1.1)),.val (nI (q0.1.2))]
noncomputable def xh (q0:D5):C:= .val (str (js (q0.1.1) (q0.1.2)))
noncomputable def zW:Nat→List C→Option C:=Sx.ext zV 21 (aV qK xh)
theorem Lr (x:D5):noRefs 0 (qK x) =true:=by
 simp only[qK,am,aw,ax,ay,ar,au,af,ag,an,Bool.and_self,Bool.and_true,aF,aC,aG,aH]
theorem VR (x y:D5)(h:qK x=qK y):xh x=xh y:=by
 simp only[qK,List.cons.injEq,C.val.injEq,C.agg.injEq,C.kp.injEq,C.fn.injEq,bh,aQ,aT,ba,a8,aR,a0,aU,Value.int.injEq,Value.bool.injEq,true_and,and_true] at h;simp only[xh,h]
theorem SV {gl:Nat→C}(hgn:∀g,ah 0 (gl g) =true)(hg0:gl 0= .kp (cl wC kc))(hg2:gl 2= .kp (cl wC kc))(M:Nat):CxOK (ao gl M zW):=aB (N:=0) (SU hgn hg0 hg2 0) Lr fun q0=>TY (SU hgn hg0 hg2 0) ((q0.1.1)) ((q0.1.2)) q0.2.1 q0.2.2
theorem Uj:∀ (g:Nat)(xs:List C),noRefs 0 xs=false→zW g xs=none:=aM Ug Lr
theorem Uk:∀ (g:Nat)(xs:List C),cM xs=true→zW g xs=none:=dz Uh Lr
theorem Ul (s:List UInt8)(n:Nat)(hc0:s.length< 9223372036854775808)(hc1:n≤1000000):zW 21 [.val (str s),.val (nI n)] =some (.val (str (js s n))):=
 (aK _).trans (aA VR ⟨(s,n),⟨hc0,hc1⟩⟩)
abbrev D6:= {q0: (List ab) // ((q0).length< 9223372036854775808)∧(∀i,i< (q0).length→(gt (q0) i).1.length< 9223372036854775808∧(gt (q0) i).2.length< 9223372036854775808)}
def qL (q0:D6):List C:=[sl eC .no (q0.1)]
noncomputable def xi (q0:D6):C:=sl eC (.own 2) (gH (q0.1))
noncomputable def zX:Nat→List C→Option C:=Sx.ext zW 11 (aV qL xi)
theorem Ls (x:D6):noRefs 0 (qL x) =true:=by
 simp only[qL,am,aw,ax,ay,ar,au,af,ag,an,Bool.and_self,Bool.and_true,aF,aC,aG,aH]
theorem VS (x y:D6)(h:qL x=qL y):xi x=xi y:=by
 simp only[qL,List.cons.injEq,C.val.injEq,C.agg.injEq,C.kp.injEq,C.fn.injEq,bh,aQ,aT,ba,a8,aR,a0,aU,Value.int.injEq,Value.bool.injEq,true_and,and_true] at h;simp only[xi,h]
theorem SW {gl:Nat→C}(hgn:∀g,ah 0 (gl g) =true)(hg0:gl 0= .kp (cl wC kc))(hg2:gl 2= .kp (cl wC kc))(M:Nat):CxOK (ao gl M zX):=aB (N:=0) (SV hgn hg0 hg2 0) Ls fun q0=>T5 (SV hgn hg0 hg2 0) (by intros;apply Ul<;>first|assumption|omega) ((q0.1)) q0.2.1 q0.2.2
theorem Um:∀ (g:Nat)(xs:List C),noRefs 0 xs=false→zX g xs=none:=aM Uj Ls
theorem Un:∀ (g:Nat)(xs:List C),cM xs=true→zX g xs=none:=dz Uk Ls
theorem Uo (r:List ab)(hc0:r.length< 9223372036854775808)(hc1:∀i,i< r.length→(gt r i).1.length< 9223372036854775808∧(gt r i).2.length< 9223372036854775808):zX 11 [sl eC .no r] =some (sl eC (.own 2) (gH r)):=
 (aK _).trans (aA VS ⟨(r),⟨hc0,hc1⟩⟩)
abbrev D7:= {q0:ab // ((q0).1.length< 9223372036854775808∧(q0).2.length< 9223372036854775808)}
def qM (q0:D7):List C:=[.agg (eC (q0.1))]
noncomputable def xj (q0:D7):C:= .val (.bool (cg (q0.1)))
noncomputable def zY:Nat→List C→Option C:=Sx.ext zX 54 (aV qM xj)
theorem Lt (x:D7):noRefs 0 (qM x) =true:=by
 simp only[qM,am,aw,ax,ay,ar,au,af,ag,an,Bool.and_self,Bool.and_true,aF,aC,aG,aH]
theorem VT (x y:D7)(h:qM x=qM y):xj x=xj y:=by
 simp only[qM,List.cons.injEq,C.val.injEq,C.agg.injEq,C.kp.injEq,C.fn.injEq,bh,aQ,aT,ba,a8,aR,a0,aU,Value.int.injEq,Value.bool.injEq,true_and,and_true] at h;simp only[xj,h]
theorem SX {gl:Nat→C}(hgn:∀g,ah 0 (gl g) =true)(hg0:gl 0= .kp (cl wC kc))(hg2:gl 2= .kp (cl wC kc))(M:Nat):CxOK (ao gl M zY):=aB (N:=0) (SW hgn hg0 hg2 0) Lt fun q0=>TK (SW hgn hg0 hg2 0) ((q0.1)) q0.2
theorem Up:∀ (g:Nat)(xs:List C),noRefs 0 xs=false→zY g xs=none:=aM Um Lt
theorem Uq:∀ (g:Nat)(xs:List C),cM xs=true→zY g xs=none:=dz Un Lt
theorem Ur (x:ab)(hc0:x.1.length< 9223372036854775808∧x.2.length< 9223372036854775808):zY 54 [.agg (eC x)] =some (.val (.bool (cg x))):=
 (aK _).trans (aA VT ⟨(x),hc0⟩)
abbrev D8:= {q0: (List ab) // (LB (q0))}
def qN (q0:D8):List C:=[sl eC .no (q0.1),.fn 54 []]
noncomputable def xk (q0:D8):C:= .val (.int .i64 (iV (q0.1)))
noncomputable def zZ:Nat→List C→Option C:=Sx.ext zY 87 (aV qN xk)
theorem Lu (x:D8):noRefs 0 (qN x) =true:=by
 simp only[qN,am,aw,ax,ay,ar,au,af,ag,an,Bool.and_self,Bool.and_true,aF,aC,aG,aH]
theorem VU (x y:D8)(h:qN x=qN y):xk x=xk y:=by
 simp only[qN,List.cons.injEq,C.val.injEq,C.agg.injEq,C.kp.injEq,C.fn.injEq,bh,aQ,aT,ba,a8,aR,a0,aU,Value.int.injEq,Value.bool.injEq,true_and,and_true] at h;simp only[xk,h]
theorem SY {gl:Nat→C}(hgn:∀g,ah 0 (gl g) =true)(hg0:gl 0= .kp (cl wC kc))(hg2:gl 2= .kp (cl wC kc))(M:Nat):CxOK (ao gl M zZ):=aB (N:=0) (SX hgn hg0 hg2 0) Lu fun q0=>TQ (SX hgn hg0 hg2 0) (by intros;apply Ur<;>first|assumption|omega) ((q0.1)) q0.2
theorem Us:∀ (g:Nat)(xs:List C),noRefs 0 xs=false→zZ g xs=none:=aM Up Lu
theorem Ut:∀ (g:Nat)(xs:List C),cM xs=true→zZ g xs=none:=dz Uq Lu
theorem Uu (l:List ab)(hc0:LB l):zZ 87 [sl eC .no l,.fn 54 []] =some (.val (.int .i64 (iV l))):=
 (aK _).trans (aA VU ⟨(l),hc0⟩)
abbrev D9:= {q0: (List ab) // (LB (q0))}
def qO (q0:D9):List C:=[sl eC .no (q0.1),.fn 54 []]
noncomputable def xl (q0:D9):C:= .val (.bool ((q0.1).any cg))
noncomputable def z0:Nat→List C→Option C:=Sx.ext zZ 53 (aV qO xl)
theorem Lv (x:D9):noRefs 0 (qO x) =true:=by
 simp only[qO,am,aw,ax,ay,ar,au,af,ag,an,Bool.and_self,Bool.and_true,aF,aC,aG,aH]
theorem VV (x y:D9)(h:qO x=qO y):xl x=xl y:=by
 simp only[qO,List.cons.injEq,C.val.injEq,C.agg.injEq,C.kp.injEq,C.fn.injEq,bh,aQ,aT,ba,a8,aR,a0,aU,Value.int.injEq,Value.bool.injEq,true_and,and_true] at h;simp only[xl,h]
theorem SZ {gl:Nat→C}(hgn:∀g,ah 0 (gl g) =true)(hg0:gl 0= .kp (cl wC kc))(hg2:gl 2= .kp (cl wC kc))(M:Nat):CxOK (ao gl M z0):=aB (N:=0) (SY hgn hg0 hg2 0) Lv fun q0=>TR (SY hgn hg0 hg2 0) (by intros;apply Uu<;>first|assumption|omega) ((q0.1)) q0.2
theorem Uv:∀ (g:Nat)(xs:List C),noRefs 0 xs=false→z0 g xs=none:=aM Us Lv
theorem Uw:∀ (g:Nat)(xs:List C),cM xs=true→z0 g xs=none:=dz Ut Lv
theorem Ux (l:List ab)(hc0:LB l):z0 53 [sl eC .no l,.fn 54 []] =some (.val (.bool (l.any cg))):=
 (aK _).trans (aA VV ⟨(l),hc0⟩)
abbrev Fb:= {q0: (List ab) // (LB (q0))}
def mA (q0:Fb):List C:=[sl eC .no (q0.1)]
noncomputable def sJ (q0:Fb):C:= .val (nI (bR (q0.1)))
noncomputable def uf:Nat→List C→Option C:=Sx.ext z0 15 (aV mA sJ)
theorem Ck (x:Fb):noRefs 0 (mA x) =true:=by
 simp only[mA,am,aw,ax,ay,ar,au,af,ag,an,Bool.and_self,Bool.and_true,aF,aC,aG,aH]
theorem Uy (x y:Fb)(h:mA x=mA y):sJ x=sJ y:=by
 simp only[mA,List.cons.injEq,C.val.injEq,C.agg.injEq,C.kp.injEq,C.fn.injEq,bh,aQ,aT,ba,a8,aR,a0,aU,Value.int.injEq,Value.bool.injEq,true_and,and_true] at h;simp only[sJ,h]
theorem Lw {gl:Nat→C}(hgn:∀g,ah 0 (gl g) =true)(hg0:gl 0= .kp (cl wC kc))(hg2:gl 2= .kp (cl wC kc))(M:Nat):CxOK (ao gl M uf):=aB (N:=0) (SZ hgn hg0 hg2 0) Ck fun q0=>TT (SZ hgn hg0 hg2 0) (by intros;apply Ux<;>first|assumption|omega) ((q0.1)) q0.2
theorem Qh:∀ (g:Nat)(xs:List C),noRefs 0 xs=false→uf g xs=none:=aM Uv Ck
theorem Qi:∀ (g:Nat)(xs:List C),cM xs=true→uf g xs=none:=dz Uw Ck
theorem o9 (l:List ab)(hc0:LB l):uf 15 [sl eC .no l] =some (.val (nI (bR l))):=
 (aK _).trans (aA Uy ⟨(l),hc0⟩)
abbrev Fc:= {q0:Unit // True}
def pc (q0:Fc):List C:=([]:List C)
noncomputable def xm (q0:Fc):C:= .agg F0.cells
noncomputable def ug:Nat→List C→Option C:=Sx.ext uf 103 (aV pc xm)
theorem Cl (x:Fc):noRefs 0 (pc x) =true:=by
 simp only[pc,am,aw,ax,ay,ar,au,af,ag,an,Bool.and_self,Bool.and_true,aF,aC,aG,aH]
theorem Uz (x y:Fc)(h:pc x=pc y):xm x=xm y:=by
 rfl
theorem Lx {gl:Nat→C}(hgn:∀g,ah 0 (gl g) =true)(hg0:gl 0= .kp (cl wC kc))(hg2:gl 2= .kp (cl wC kc))(M:Nat):CxOK (ao gl M ug):=aB (N:=0) (Lw hgn hg0 hg2 0) Cl fun q0=>RN (Lw hgn hg0 hg2 0)
theorem Qj:∀ (g:Nat)(xs:List C),noRefs 0 xs=false→ug g xs=none:=aM Qh Cl
theorem Qk:∀ (g:Nat)(xs:List C),cM xs=true→ug g xs=none:=dz Qi Cl
theorem Ql:ug 103 ([]:List C) =some (.agg F0.cells):=
 (aK _).trans (aA Uz ⟨(),trivial⟩)
abbrev Fd:= {q0: (BitVec 32)×Int // True}
def mB (q0:Fd):List C:=[.val (bf (q0.1.1)),.val (.int .i64 (q0.1.2))]
noncomputable def sK (q0:Fd):C:= .val (bf (i2 (q0.1.1) (((q0.1.2) % 18446744073709551616).toNat % 32)))
noncomputable def uh:Nat→List C→Option C:=Sx.ext ug 117 (aV mB sK)
theorem Cm (x:Fd):noRefs 0 (mB x) =true:=by
 simp only[mB,am,aw,ax,ay,ar,au,af,ag,an,Bool.and_self,Bool.and_true,aF,aC,aG,aH]
theorem UA (x y:Fd)(h:mB x=mB y):sK x=sK y:=by
 simp only[mB,List.cons.injEq,C.val.injEq,C.agg.injEq,C.kp.injEq,C.fn.injEq,bh,aQ,aT,ba,a8,aR,a0,aU,Value.int.injEq,Value.bool.injEq,true_and,and_true] at h;simp only[sK,h]
theorem Ly {gl:Nat→C}(hgn:∀g,ah 0 (gl g) =true)(hg0:gl 0= .kp (cl wC kc))(hg2:gl 2= .kp (cl wC kc))(M:Nat):CxOK (ao gl M uh):=aB (N:=0) (Lx hgn hg0 hg2 0) Cm fun q0=>RI (Lx hgn hg0 hg2 0) ((q0.1.1)) ((q0.1.2))
theorem Qm:∀ (g:Nat)(xs:List C),noRefs 0 xs=false→uh g xs=none:=aM Qj Cm
theorem Qn:∀ (g:Nat)(xs:List C),cM xs=true→uh g xs=none:=dz Qk Cm
theorem Fe (x:BitVec 32)(k:Int):uh 117 [.val (bf x),.val (.int .i64 k)] =some (.val (bf (i2 x ((k % 18446744073709551616).toNat % 32)))):=
 (aK _).trans (aA UA ⟨(x,k),trivial⟩)
abbrev Ff:= {q0: (BitVec 32)×Nat×Nat×Nat // (0< (q0.2.1)∧(q0.2.1) < 32)∧(0< (q0.2.2.1)∧(q0.2.2.1) < 32)∧(0< (q0.2.2.2)∧(q0.2.2.2) < 32)}
def mC (q0:Ff):List C:=[.val (bf (q0.1.1)),.val (nI (q0.1.2.1)),.val (nI (q0.1.2.2.1)),.val (nI (q0.1.2.2.2))]
noncomputable def sL (q0:Ff):C:= .val (bf (rr (q0.1.1) (q0.1.2.1) ^^^ rr (q0.1.1) (q0.1.2.2.1) ^^^ rr (q0.1.1) (q0.1.2.2.2)))
noncomputable def ui:Nat→List C→Option C:=Sx.ext uh 116 (aV mC sL)
theorem Cn (x:Ff):noRefs 0 (mC x) =true:=by
 simp only[mC,am,aw,ax,ay,ar,au,af,ag,an,Bool.and_self,Bool.and_true,aF,aC,aG,aH]
theorem UB (x y:Ff)(h:mC x=mC y):sL x=sL y:=by
 simp only[mC,List.cons.injEq,C.val.injEq,C.agg.injEq,C.kp.injEq,C.fn.injEq,bh,aQ,aT,ba,a8,aR,a0,aU,Value.int.injEq,Value.bool.injEq,true_and,and_true] at h;simp only[sL,h]
theorem Lz {gl:Nat→C}(hgn:∀g,ah 0 (gl g) =true)(hg0:gl 0= .kp (cl wC kc))(hg2:gl 2= .kp (cl wC kc))(M:Nat):CxOK (ao gl M ui):=aB (N:=0) (Ly hgn hg0 hg2 0) Cn fun q0=>RJ (Ly hgn hg0 hg2 0) (by intros;apply Fe<;>first|assumption|omega) ((q0.1.1)) ((q0.1.2.1)) ((q0.1.2.2.1)) ((q0.1.2.2.2)) q0.2.1 q0.2.2.1 q0.2.2.2
theorem Qo:∀ (g:Nat)(xs:List C),noRefs 0 xs=false→ui g xs=none:=aM Qm Cn
theorem Qp:∀ (g:Nat)(xs:List C),cM xs=true→ui g xs=none:=dz Qn Cn
theorem Qq (x:BitVec 32)(i:Nat)(j:Nat)(k:Nat)(hc0:0< i∧i< 32)(hc1:0< j∧j< 32)(hc2:0< k∧k< 32):ui 116 [.val (bf x),.val (nI i),.val (nI j),.val (nI k)] =some (.val (bf (rr x i ^^^ rr x j ^^^ rr x k))):=
 (aK _).trans (aA UB ⟨(x,i,j,k),⟨hc0,hc1,hc2⟩⟩)
abbrev Fg:= {q0: (List UInt8) // ((q0).length=64)}
def mD (q0:Fg):List C:=[sl bC .no (q0.1)]
noncomputable def sM (q0:Fg):C:= .agg (cl wC (aN (q0.1) 64))
noncomputable def uj:Nat→List C→Option C:=Sx.ext ui 115 (aV mD sM)
theorem Co (x:Fg):noRefs 0 (mD x) =true:=by
 simp only[mD,am,aw,ax,ay,ar,au,af,ag,an,Bool.and_self,Bool.and_true,aF,aC,aG,aH]
theorem UC (x y:Fg)(h:mD x=mD y):sM x=sM y:=by
 simp only[mD,List.cons.injEq,C.val.injEq,C.agg.injEq,C.kp.injEq,C.fn.injEq,bh,aQ,aT,ba,a8,aR,a0,aU,Value.int.injEq,Value.bool.injEq,true_and,and_true] at h;simp only[sM,h]
theorem LA {gl:Nat→C}(hgn:∀g,ah 0 (gl g) =true)(hg0:gl 0= .kp (cl wC kc))(hg2:gl 2= .kp (cl wC kc))(M:Nat):CxOK (ao gl M uj):=aB (N:=0) (Lz hgn hg0 hg2 0) Co fun q0=>RL (Lz hgn hg0 hg2 0) (by intros;(iterate 1 refine (aE (by decide) _).trans ?_);apply Fe<;>first|assumption|omega) ((q0.1)) q0.2
theorem Qr:∀ (g:Nat)(xs:List C),noRefs 0 xs=false→uj g xs=none:=aM Qo Co
theorem Qs:∀ (g:Nat)(xs:List C),cM xs=true→uj g xs=none:=dz Qp Co
theorem Qt (b:List UInt8)(hc0:b.length=64):uj 115 [sl bC .no b] =some (.agg (cl wC (aN b 64))):=
 (aK _).trans (aA UC ⟨(b),hc0⟩)
abbrev Fh:= {q0:S8×(List UInt8) // ((q0.2).length=64)}
def mE (q0:Fh):List C:=[.agg (cl wC (q0.1.1).l),sl bC .no (q0.1.2)]
noncomputable def sN (q0:Fh):C:= .agg (cl wC (comp (q0.1.1) (q0.1.2)).l)
noncomputable def uk:Nat→List C→Option C:=Sx.ext uj 113 (aV mE sN)
theorem Cp (x:Fh):noRefs 0 (mE x) =true:=by
 simp only[mE,am,aw,ax,ay,ar,au,af,ag,an,Bool.and_self,Bool.and_true,aF,aC,aG,aH]
theorem UD (x y:Fh)(h:mE x=mE y):sN x=sN y:=by
 simp only[mE,List.cons.injEq,C.agg.injEq,a0,aU,zB,and_true] at h;simp only[sN,h]
theorem LD {gl:Nat→C}(hgn:∀g,ah 0 (gl g) =true)(hg0:gl 0= .kp (cl wC kc))(hg2:gl 2= .kp (cl wC kc))(M:Nat):CxOK (ao gl M uk):=aB (N:=0) (LA hgn hg0 hg2 0) Cp fun q0=>RM (LA hgn hg0 hg2 0) hg2 (by intros;(iterate 1 refine (aE (by decide) _).trans ?_);apply Qq<;>first|assumption|omega) (by intros;apply Qt<;>first|assumption|omega) ((q0.1.1)) ((q0.1.2)) q0.2
theorem Qu:∀ (g:Nat)(xs:List C),noRefs 0 xs=false→uk g xs=none:=aM Qr Cp
theorem Qv:∀ (g:Nat)(xs:List C),cM xs=true→uk g xs=none:=dz Qs Cp
theorem Qw (s:S8)(b:List UInt8)(hc0:b.length=64):uk 113 [.agg (cl wC s.l),sl bC .no b] =some (.agg (cl wC (comp s b).l)):=
 (aK _).trans (aA UD ⟨(s,b),hc0⟩)
abbrev Fi:= {q0:S8×(List UInt8)×Nat×(List UInt8) // ((q0.2.1).length=64)∧((q0.2.2.1)+(q0.2.2.2).length< 1152921504606846976)}
def pd (q0:Fi):List C:=[.agg (cl wC (q0.1.1).l++(cl bC (q0.1.2.1)++[.val (nU (q0.1.2.2.1))])),.val (str (q0.1.2.2.2))]
noncomputable def xn (q0:Fi):C:= .agg (b9 ⟨(q0.1.1),(q0.1.2.1),(q0.1.2.2.1)⟩ (q0.1.2.2.2)).cells
noncomputable def xp:Nat→List C→Option C:=Sx.ext uk 104 (aV pd xn)
theorem LF (x:Fi):noRefs 0 (pd x) =true:=by
 simp only[pd,am,aw,ax,ay,ar,au,af,ag,an,Bool.and_self,Bool.and_true,aF,aC,aG,aH]
theorem UE (x y:Fi)(h:pd x=pd y):xn x=xn y:=by
 exact Cg x.1.1 y.1.1 x.1.2.1 y.1.2.1 x.1.2.2.1 y.1.2.2.1 x.1.2.2.2 y.1.2.2.2 x.2.1 y.2.1 h
theorem LG {gl:Nat→C}(hgn:∀g,ah 0 (gl g) =true)(hg0:gl 0= .kp (cl wC kc))(hg2:gl 2= .kp (cl wC kc))(M:Nat):CxOK (ao gl M xp):=aB (N:=0) (LD hgn hg0 hg2 0) LF fun q0=>RO (LD hgn hg0 hg2 0) (by intros;apply Qw<;>first|assumption|omega) Qv (⟨(q0.1.1),(q0.1.2.1),(q0.1.2.2.1)⟩) ((q0.1.2.2.2)) q0.2.1 q0.2.2
theorem Qx:∀ (g:Nat)(xs:List C),noRefs 0 xs=false→xp g xs=none:=aM Qu LF
theorem Fj (s:S8)(blk:List UInt8)(n:Nat)(t:List UInt8)(hc0:blk.length=64)(hc1:n+t.length< 1152921504606846976):xp 104 [.agg (cl wC s.l++(cl bC blk++[.val (nU n)])),.val (str t)] =some (.agg (b9 ⟨s,blk,n⟩ t).cells):=
 (aK _).trans (aA UE ⟨(s,blk,n,t),⟨hc0,hc1⟩⟩)
abbrev Fk:= {q0:S8×(List UInt8)×Nat // ((q0.2.1).length=64)∧((q0.2.2) < 576460752303423488)}
def pe (q0:Fk):List C:=[.agg (cl wC (q0.1.1).l++(cl bC (q0.1.2.1)++[.val (nU (q0.1.2.2))]))]
noncomputable def xq (q0:Fk):C:= .agg (cl bC (jU ⟨(q0.1.1),(q0.1.2.1),(q0.1.2.2)⟩))
noncomputable def xu:Nat→List C→Option C:=Sx.ext xp 105 (aV pe xq)
theorem LH (x:Fk):noRefs 0 (pe x) =true:=by
 simp only[pe,am,aw,ax,ay,ar,au,af,ag,an,Bool.and_self,Bool.and_true,aF,aC,aG,aH]
theorem UF (x y:Fk)(h:pe x=pe y):xq x=xq y:=by
 exact Hh x.1.1 y.1.1 x.1.2.1 y.1.2.1 x.1.2.2 y.1.2.2 x.2.1 y.2.1 h
theorem LJ {gl:Nat→C}(hgn:∀g,ah 0 (gl g) =true)(hg0:gl 0= .kp (cl wC kc))(hg2:gl 2= .kp (cl wC kc))(M:Nat):CxOK (ao gl M xu):=aB (N:=0) (LG hgn hg0 hg2 0) LH fun q0=>RP (LG hgn hg0 hg2 0) (by intros;apply Fj<;>first|assumption|omega) (⟨(q0.1.1),(q0.1.2.1),(q0.1.2.2)⟩) q0.2.1 q0.2.2
theorem Qy:∀ (g:Nat)(xs:List C),noRefs 0 xs=false→xu g xs=none:=aM Qx LH
theorem Qz (s:S8)(blk:List UInt8)(n:Nat)(hc0:blk.length=64)(hc1:n< 576460752303423488):xu 105 [.agg (cl wC s.l++(cl bC blk++[.val (nU n)]))] =some (.agg (cl bC (jU ⟨s,blk,n⟩))):=
 (aK _).trans (aA UF ⟨(s,blk,n),⟨hc0,hc1⟩⟩)
abbrev Fl:= {q0:Int // (-9223372036854775808≤(q0)∧(q0)≤9223372036854775807)}
def mF (q0:Fl):List C:=[.val (.int .i64 (q0.1))]
noncomputable def sO (q0:Fl):C:=sl bC (.own 1) (co (q0.1))
noncomputable def xw:Nat→List C→Option C:=Sx.ext xu 39 (aV mF sO)
theorem LK (x:Fl):noRefs 0 (mF x) =true:=by
 simp only[mF,am,aw,ax,ay,ar,au,af,ag,an,Bool.and_self,Bool.and_true,aF,aC,aG,aH]
theorem UG (x y:Fl)(h:mF x=mF y):sO x=sO y:=by
 simp only[mF,List.cons.injEq,C.val.injEq,C.agg.injEq,C.kp.injEq,C.fn.injEq,bh,aQ,aT,ba,a8,aR,a0,aU,Value.int.injEq,Value.bool.injEq,true_and,and_true] at h;simp only[sO,h]
theorem LL {gl:Nat→C}(hgn:∀g,ah 0 (gl g) =true)(hg0:gl 0= .kp (cl wC kc))(hg2:gl 2= .kp (cl wC kc))(M:Nat):CxOK (ao gl M xw):=aB (N:=0) (LJ hgn hg0 hg2 0) LK fun q0=>TO (LJ hgn hg0 hg2 0) ((q0.1)) q0.2
theorem QA:∀ (g:Nat)(xs:List C),noRefs 0 xs=false→xw g xs=none:=aM Qy LK
theorem Fm (n:Int)(hc0: -9223372036854775808≤n∧n≤9223372036854775807):xw 39 [.val (.int .i64 n)] =some (sl bC (.own 1) (co n)):=
 (aK _).trans (aA UG ⟨(n),hc0⟩)
abbrev Fn:= {q0: (List UInt8) // ((q0).length< 70368744177664)}
def mG (q0:Fn):List C:=[.val (str (q0.1))]
noncomputable def sP (q0:Fn):C:=sl bC (.own 1) (wb (q0.1))
noncomputable def xx:Nat→List C→Option C:=Sx.ext xw 74 (aV mG sP)
theorem LM (x:Fn):noRefs 0 (mG x) =true:=by
 simp only[mG,am,aw,ax,ay,ar,au,af,ag,an,Bool.and_self,Bool.and_true,aF,aC,aG,aH]
theorem UH (x y:Fn)(h:mG x=mG y):sP x=sP y:=by
 simp only[mG,List.cons.injEq,C.val.injEq,C.agg.injEq,C.kp.injEq,C.fn.injEq,bh,aQ,aT,ba,a8,aR,a0,aU,Value.int.injEq,Value.bool.injEq,true_and,and_true] at h;simp only[sP,h]
theorem LN {gl:Nat→C}(hgn:∀g,ah 0 (gl g) =true)(hg0:gl 0= .kp (cl wC kc))(hg2:gl 2= .kp (cl wC kc))(M:Nat):CxOK (ao gl M xx):=aB (N:=0) (LL hgn hg0 hg2 0) LM fun q0=>Vu (LL hgn hg0 hg2 0) (by intros;rename_i m hm;exact (Fm (m:Int) (by omega)).trans (by rw[fW])) ((q0.1)) q0.2
theorem QB:∀ (g:Nat)(xs:List C),noRefs 0 xs=false→xx g xs=none:=aM QA LM
theorem QC (s:List UInt8)(hc0:s.length< 70368744177664):xx 74 [.val (str s)] =some (sl bC (.own 1) (wb s)):=
 (aK _).trans (aA UH ⟨(s),hc0⟩)
abbrev Fo:= {q0:Int×(List (List UInt8)) // ((bU (q0.1) (q0.2)).length< 1099511627776)}
def mH (q0:Fo):List C:=[.val (.int .i64 (q0.1.1)),sl sC .no (q0.1.2)]
noncomputable def sQ (q0:Fo):C:= .agg (cl bC ((eA (bU (q0.1.1) (q0.1.2))).take 16))
noncomputable def xy:Nat→List C→Option C:=Sx.ext xx 78 (aV mH sQ)
theorem LO (x:Fo):noRefs 0 (mH x) =true:=by
 simp only[mH,am,aw,ax,ay,ar,au,af,ag,an,Bool.and_self,Bool.and_true,aF,aC,aG,aH]
theorem UI (x y:Fo)(h:mH x=mH y):sQ x=sQ y:=by
 simp only[mH,List.cons.injEq,C.val.injEq,C.agg.injEq,C.kp.injEq,C.fn.injEq,bh,aQ,aT,ba,a8,aR,a0,aU,Value.int.injEq,Value.bool.injEq,true_and,and_true] at h;simp only[sQ,h]
theorem LP {gl:Nat→C}(hgn:∀g,ah 0 (gl g) =true)(hg0:gl 0= .kp (cl wC kc))(hg2:gl 2= .kp (cl wC kc))(M:Nat):CxOK (ao gl M xy):=aB (N:=0) (LN hgn hg0 hg2 0) LO fun q0=>Vt (LN hgn hg0 hg2 0) (by intros;(iterate 8 refine (aE (by decide) _).trans ?_);apply Ql<;>first|assumption|omega) (by intros;(iterate 3 refine (aE (by decide) _).trans ?_);apply Fj<;>first|assumption|omega) (by intros;(iterate 2 refine (aE (by decide) _).trans ?_);apply Qz<;>first|assumption|omega) (by intros;apply QC<;>first|assumption|omega) ((q0.1.1)) ((q0.1.2)) q0.2
theorem QD:∀ (g:Nat)(xs:List C),noRefs 0 xs=false→xy g xs=none:=aM QB LO
theorem xz (tag:Int)(parts:List (List UInt8))(hc0: (bU tag parts).length< 1099511627776):xy 78 [.val (.int .i64 tag),sl sC .no parts] =some (.agg (cl bC ((eA (bU tag parts)).take 16))):=
 (aK _).trans (aA UI ⟨(tag,parts),hc0⟩)
abbrev Fp:= {q0:Nat×(List UInt8) // ((q0.1)≤4096)∧((q0.2).length=16)}
def mI (q0:Fp):List C:=[.val (nI (q0.1.1)),.agg (cl bC (q0.1.2))]
noncomputable def sR (q0:Fp):C:= .agg (cl bC (d6 (q0.1.1) (q0.1.2)))
noncomputable def xA:Nat→List C→Option C:=Sx.ext xy 50 (aV mI sR)
theorem LS (x:Fp):noRefs 0 (mI x) =true:=by
 simp only[mI,am,aw,ax,ay,ar,au,af,ag,an,Bool.and_self,Bool.and_true,aF,aC,aG,aH]
theorem UJ (x y:Fp)(h:mI x=mI y):sR x=sR y:=by
 simp only[mI,List.cons.injEq,C.val.injEq,C.agg.injEq,C.kp.injEq,C.fn.injEq,bh,aQ,aT,ba,a8,aR,a0,aU,Value.int.injEq,Value.bool.injEq,true_and,and_true] at h;simp only[sR,h]
theorem LU {gl:Nat→C}(hgn:∀g,ah 0 (gl g) =true)(hg0:gl 0= .kp (cl wC kc))(hg2:gl 2= .kp (cl wC kc))(M:Nat):CxOK (ao gl M xA):=aB (N:=0) (LP hgn hg0 hg2 0) LS fun q0=>TL (LP hgn hg0 hg2 0) (by intros;apply xz<;>first|assumption|omega) (by intros;(iterate 2 refine (aE (by decide) _).trans ?_);apply Fm<;>first|assumption|omega) ((q0.1.1)) ((q0.1.2)) q0.2.1 q0.2.2
theorem QE:∀ (g:Nat)(xs:List C),noRefs 0 xs=false→xA g xs=none:=aM QD LS
theorem Fq (n:Nat)(d:List UInt8)(hc0:n≤4096)(hc1:d.length=16):xA 50 [.val (nI n),.agg (cl bC d)] =some (.agg (cl bC (d6 n d))):=
 (aK _).trans (aA UJ ⟨(n,d),⟨hc0,hc1⟩⟩)
abbrev Fr:= {q0:ab // ((q0).1.length≤65536∧(q0).2.length≤65536)}
def mJ (q0:Fr):List C:=[.agg (eC (q0.1))]
noncomputable def sS (q0:Fr):C:= .agg (cl bC (d5 (q0.1)))
noncomputable def xB:Nat→List C→Option C:=Sx.ext xA 80 (aV mJ sS)
theorem LV (x:Fr):noRefs 0 (mJ x) =true:=by
 simp only[mJ,am,aw,ax,ay,ar,au,af,ag,an,Bool.and_self,Bool.and_true,aF,aC,aG,aH]
theorem UK (x y:Fr)(h:mJ x=mJ y):sS x=sS y:=by
 simp only[mJ,List.cons.injEq,C.val.injEq,C.agg.injEq,C.kp.injEq,C.fn.injEq,bh,aQ,aT,ba,a8,aR,a0,aU,Value.int.injEq,Value.bool.injEq,true_and,and_true] at h;simp only[sS,h]
theorem LW {gl:Nat→C}(hgn:∀g,ah 0 (gl g) =true)(hg0:gl 0= .kp (cl wC kc))(hg2:gl 2= .kp (cl wC kc))(M:Nat):CxOK (ao gl M xB):=aB (N:=0) (LU hgn hg0 hg2 0) LV fun q0=>TI (LU hgn hg0 hg2 0) (by intros;(iterate 1 refine (aE (by decide) _).trans ?_);apply xz<;>first|assumption|omega) ((q0.1)) q0.2
theorem QF:∀ (g:Nat)(xs:List C),noRefs 0 xs=false→xB g xs=none:=aM QE LV
theorem Ft (x:ab)(hc0:x.1.length≤65536∧x.2.length≤65536):xB 80 [.agg (eC x)] =some (.agg (cl bC (d5 x))):=
 (aK _).trans (aA UK ⟨(x),hc0⟩)
abbrev Fu:= {q0:Nat×Nat // ((q0.1)≤(q0.2)∧(q0.2)≤4611686018427387000)}
def mK (q0:Fu):List C:=[.val (nI (q0.1.1)),.val (nI (q0.1.2))]
noncomputable def sT (q0:Fu):C:= .val (nI ((q0.1.1)+aD ((q0.1.2) - (q0.1.1))))
noncomputable def xC:Nat→List C→Option C:=Sx.ext xB 81 (aV mK sT)
theorem LX (x:Fu):noRefs 0 (mK x) =true:=by
 simp only[mK,am,aw,ax,ay,ar,au,af,ag,an,Bool.and_self,Bool.and_true,aF,aC,aG,aH]
theorem UL (x y:Fu)(h:mK x=mK y):sT x=sT y:=by
 simp only[mK,List.cons.injEq,C.val.injEq,C.agg.injEq,C.kp.injEq,C.fn.injEq,bh,aQ,aT,ba,a8,aR,a0,aU,Value.int.injEq,Value.bool.injEq,true_and,and_true] at h;simp only[sT,h]
theorem LY {gl:Nat→C}(hgn:∀g,ah 0 (gl g) =true)(hg0:gl 0= .kp (cl wC kc))(hg2:gl 2= .kp (cl wC kc))(M:Nat):CxOK (ao gl M xC):=aB (N:=0) (LW hgn hg0 hg2 0) LX fun q0=>TH (LW hgn hg0 hg2 0) ((q0.1.1)) ((q0.1.2)) q0.2
theorem QG:∀ (g:Nat)(xs:List C),noRefs 0 xs=false→xC g xs=none:=aM QF LX
theorem xD (x:Nat)(y:Nat)(hc0:x≤y∧y≤4611686018427387000):xC 81 [.val (nI x),.val (nI y)] =some (.val (nI (x+aD (y - x)))):=
 (aK _).trans (aA UL ⟨(x,y),hc0⟩)
abbrev Fv:= {q0: (List UInt8)×(List UInt8) // ((q0.1).length=16)∧((q0.2).length=16)}
def mL (q0:Fv):List C:=[.agg (cl bC (q0.1.1)),.agg (cl bC (q0.1.2))]
noncomputable def sU (q0:Fv):C:= .agg (cl bC (fJ (q0.1.1) (q0.1.2)))
noncomputable def xE:Nat→List C→Option C:=Sx.ext xC 82 (aV mL sU)
theorem L0 (x:Fv):noRefs 0 (mL x) =true:=by
 simp only[mL,am,aw,ax,ay,ar,au,af,ag,an,Bool.and_self,Bool.and_true,aF,aC,aG,aH]
theorem UM (x y:Fv)(h:mL x=mL y):sU x=sU y:=by
 simp only[mL,List.cons.injEq,C.val.injEq,C.agg.injEq,C.kp.injEq,C.fn.injEq,bh,aQ,aT,ba,a8,aR,a0,aU,Value.int.injEq,Value.bool.injEq,true_and,and_true] at h;simp only[sU,h]
theorem L1 {gl:Nat→C}(hgn:∀g,ah 0 (gl g) =true)(hg0:gl 0= .kp (cl wC kc))(hg2:gl 2= .kp (cl wC kc))(M:Nat):CxOK (ao gl M xE):=aB (N:=0) (LY hgn hg0 hg2 0) L0 fun q0=>TJ (LY hgn hg0 hg2 0) (by intros;(iterate 3 refine (aE (by decide) _).trans ?_);apply xz<;>first|assumption|omega) ((q0.1.1)) ((q0.1.2)) q0.2.1 q0.2.2
theorem QH:∀ (g:Nat)(xs:List C),noRefs 0 xs=false→xE g xs=none:=aM QG L0
theorem Fw (a:List UInt8)(b:List UInt8)(hc0:a.length=16)(hc1:b.length=16):xE 82 [.agg (cl bC a),.agg (cl bC b)] =some (.agg (cl bC (fJ a b))):=
 (aK _).trans (aA UM ⟨(a,b),⟨hc0,hc1⟩⟩)
abbrev Fx:= {q0:Nat×(List ab)×Nat×Nat // (OkL (q0.2.1))∧((q0.2.2.1) < (q0.2.2.2)∧(q0.2.2.2)≤(q0.2.1).length∧(q0.2.2.2) - (q0.2.2.1)≤2 ^ (q0.1))}
def mM (q0:Fx):List C:=[.val (nI (q0.1.2.2.1)),.val (nI (q0.1.2.2.2)),.kp [sl eC .no (q0.1.2.1)],b8 79 [.kp [sl eC .no (q0.1.2.1)]] (q0.1.1)]
noncomputable def sV (q0:Fx):C:= .agg (cl bC (cK (q0.1.2.1) (q0.1.1) (q0.1.2.2.1) (q0.1.2.2.2)))
noncomputable def xF:Nat→List C→Option C:=Sx.ext xE 79 (aV mM sV)
theorem L2 (x:Fx):noRefs 0 (mM x) =true:=by
 simp only[mM,am,aw,ax,ay,ar,au,af,ag,an,Bool.and_self,Bool.and_true,aF,aC,aG,aH]
theorem UN (x y:Fx)(h:mM x=mM y):sV x=sV y:=by
 simp only[mM,List.cons.injEq,C.val.injEq,C.kp.injEq,aT,aU,true_and,and_true] at h;have e:=mz h.2.2.2;simp only[sV,h,e]
theorem L3 {gl:Nat→C}(hgn:∀g,ah 0 (gl g) =true)(hg0:gl 0= .kp (cl wC kc))(hg2:gl 2= .kp (cl wC kc))(M:Nat):CxOK (ao gl M xF):=aB (N:=0) (L1 hgn hg0 hg2 0) L2 fun q0=>KN (L1 hgn hg0 hg2 0) (by intros;(iterate 2 refine (aE (by decide) _).trans ?_);apply Ft<;>first|assumption|omega) (by intros;(iterate 1 refine (aE (by decide) _).trans ?_);apply xD<;>first|assumption|omega) (by intros;apply Fw<;>first|assumption|omega) ((q0.1.1)) ((q0.1.2.1)) ((q0.1.2.2.1)) ((q0.1.2.2.2)) q0.2.1 q0.2.2
theorem QI:∀ (g:Nat)(xs:List C),noRefs 0 xs=false→xF g xs=none:=aM QH L2
theorem QJ (d:Nat)(l:List ab)(a:Nat)(b:Nat)(hc0:OkL l)(hc1:a< b∧b≤l.length∧b - a≤2 ^ d):xF 79 [.val (nI a),.val (nI b),.kp [sl eC .no l],b8 79 [.kp [sl eC .no l]] d] =some (.agg (cl bC (cK l d a b))):=
 (aK _).trans (aA UN ⟨(d,l,a,b),⟨hc0,hc1⟩⟩)
abbrev Fy:= {q0: (List ab) // (OkL (q0))∧(0< (q0).length)}
def mN (q0:Fy):List C:=[sl eC .no (q0.1)]
noncomputable def sW (q0:Fy):C:= .agg (cl bC (iu (q0.1)))
noncomputable def xG:Nat→List C→Option C:=Sx.ext xF 51 (aV mN sW)
theorem L4 (x:Fy):noRefs 0 (mN x) =true:=by
 simp only[mN,am,aw,ax,ay,ar,au,af,ag,an,Bool.and_self,Bool.and_true,aF,aC,aG,aH]
theorem UO (x y:Fy)(h:mN x=mN y):sW x=sW y:=by
 simp only[mN,List.cons.injEq,C.val.injEq,C.agg.injEq,C.kp.injEq,C.fn.injEq,bh,aQ,aT,ba,a8,aR,a0,aU,Value.int.injEq,Value.bool.injEq,true_and,and_true] at h;simp only[sW,h]
theorem L5 {gl:Nat→C}(hgn:∀g,ah 0 (gl g) =true)(hg0:gl 0= .kp (cl wC kc))(hg2:gl 2= .kp (cl wC kc))(M:Nat):CxOK (ao gl M xG):=aB (N:=0) (L3 hgn hg0 hg2 0) L4 fun q0=>Vj (L3 hgn hg0 hg2 0) (by intros;apply QJ<;>first|assumption|omega) ((q0.1)) q0.2.1 q0.2.2
theorem QK:∀ (g:Nat)(xs:List C),noRefs 0 xs=false→xG g xs=none:=aM QI L4
theorem Fz (l:List ab)(hc0:OkL l)(hc1:0< l.length):xG 51 [sl eC .no l] =some (.agg (cl bC (iu l))):=
 (aK _).trans (aA UO ⟨(l),⟨hc0,hc1⟩⟩)
abbrev FA:= {q0: (List ab) // (LB (q0))}
def mO (q0:FA):List C:=[sl eC .no (q0.1)]
noncomputable def sX (q0:FA):C:= .tup [.agg (cl bC (dO (q0.1)).1),.val (nI (dO (q0.1)).2)]
noncomputable def xH:Nat→List C→Option C:=Sx.ext xG 12 (aV mO sX)
theorem L6 (x:FA):noRefs 0 (mO x) =true:=by
 simp only[mO,am,aw,ax,ay,ar,au,af,ag,an,Bool.and_self,Bool.and_true,aF,aC,aG,aH]
theorem UP (x y:FA)(h:mO x=mO y):sX x=sX y:=by
 simp only[mO,List.cons.injEq,C.val.injEq,C.agg.injEq,C.kp.injEq,C.fn.injEq,bh,aQ,aT,ba,a8,aR,a0,aU,Value.int.injEq,Value.bool.injEq,true_and,and_true] at h;simp only[sX,h]
theorem L7 {gl:Nat→C}(hgn:∀g,ah 0 (gl g) =true)(hg0:gl 0= .kp (cl wC kc))(hg2:gl 2= .kp (cl wC kc))(M:Nat):CxOK (ao gl M xH):=aB (N:=0) (L5 hgn hg0 hg2 0) L6 fun q0=>Vk (L5 hgn hg0 hg2 0) (by intros;(iterate 16 refine (aE (by decide) _).trans ?_);apply o9<;>first|assumption|omega) (by intros;(iterate 5 refine (aE (by decide) _).trans ?_);apply Fq<;>first|assumption|omega) (by intros;apply Fz<;>first|assumption|omega) ((q0.1)) q0.2
theorem QL:∀ (g:Nat)(xs:List C),noRefs 0 xs=false→xH g xs=none:=aM QK L6
theorem FB (l:List ab)(hc0:LB l):xH 12 [sl eC .no l] =some (.tup [.agg (cl bC (dO l).1),.val (nI (dO l).2)]):=
 (aK _).trans (aA UP ⟨(l),hc0⟩)
abbrev FD:= {q0: (List ab) // ((q0).length≤1000000)}
def mP (q0:FD):List C:=[sl eC .no (q0.1)]
noncomputable def sY (q0:FD):C:=sl eC (.own 2) (q0.1)
noncomputable def xI:Nat→List C→Option C:=Sx.ext xH 13 (aV mP sY)
theorem L8 (x:FD):noRefs 0 (mP x) =true:=by
 simp only[mP,am,aw,ax,ay,ar,au,af,ag,an,Bool.and_self,Bool.and_true,aF,aC,aG,aH]
theorem UQ (x y:FD)(h:mP x=mP y):sY x=sY y:=by
 simp only[mP,List.cons.injEq,C.val.injEq,C.agg.injEq,C.kp.injEq,C.fn.injEq,bh,aQ,aT,ba,a8,aR,a0,aU,Value.int.injEq,Value.bool.injEq,true_and,and_true] at h;simp only[sY,h]
theorem L9 {gl:Nat→C}(hgn:∀g,ah 0 (gl g) =true)(hg0:gl 0= .kp (cl wC kc))(hg2:gl 2= .kp (cl wC kc))(M:Nat):CxOK (ao gl M xI):=aB (N:=0) (L7 hgn hg0 hg2 0) L8 fun q0=>TZ (L7 hgn hg0 hg2 0) ((q0.1)) q0.2
theorem QM:∀ (g:Nat)(xs:List C),noRefs 0 xs=false→xI g xs=none:=aM QL L8
theorem QN (l:List ab)(hc0:l.length≤1000000):xI 13 [sl eC .no l] =some (sl eC (.own 2) l):=
 (aK _).trans (aA UQ ⟨(l),hc0⟩)
abbrev FE:= {q0:Int // (-9223372036854775808≤(q0)∧(q0)≤9223372036854775807)}
def mQ (q0:FE):List C:=[.val (.int .i64 (q0.1))]
noncomputable def sZ (q0:FE):C:=sl bC (.own 1) (co (q0.1))
noncomputable def xJ:Nat→List C→Option C:=Sx.ext xI 83 (aV mQ sZ)
theorem Ma (x:FE):noRefs 0 (mQ x) =true:=by
 simp only[mQ,am,aw,ax,ay,ar,au,af,ag,an,Bool.and_self,Bool.and_true,aF,aC,aG,aH]
theorem UR (x y:FE)(h:mQ x=mQ y):sZ x=sZ y:=by
 simp only[mQ,List.cons.injEq,C.val.injEq,C.agg.injEq,C.kp.injEq,C.fn.injEq,bh,aQ,aT,ba,a8,aR,a0,aU,Value.int.injEq,Value.bool.injEq,true_and,and_true] at h;simp only[sZ,h]
theorem Mb {gl:Nat→C}(hgn:∀g,ah 0 (gl g) =true)(hg0:gl 0= .kp (cl wC kc))(hg2:gl 2= .kp (cl wC kc))(M:Nat):CxOK (ao gl M xJ):=aB (N:=0) (L9 hgn hg0 hg2 0) Ma fun q0=>TP (L9 hgn hg0 hg2 0) ((q0.1)) q0.2
theorem QO:∀ (g:Nat)(xs:List C),noRefs 0 xs=false→xJ g xs=none:=aM QM Ma
theorem FF (n:Int)(hc0: -9223372036854775808≤n∧n≤9223372036854775807):xJ 83 [.val (.int .i64 n)] =some (sl bC (.own 1) (co n)):=
 (aK _).trans (aA UR ⟨(n),hc0⟩)
abbrev FG:= {q0: (List UInt8) // ((q0).length< 70368744177664)}
def mR (q0:FG):List C:=[.val (str (q0.1))]
noncomputable def s3 (q0:FG):C:=sl bC (.own 1) (wb (q0.1))
noncomputable def xK:Nat→List C→Option C:=Sx.ext xJ 95 (aV mR s3)
theorem Mc (x:FG):noRefs 0 (mR x) =true:=by
 simp only[mR,am,aw,ax,ay,ar,au,af,ag,an,Bool.and_self,Bool.and_true,aF,aC,aG,aH]
theorem UT (x y:FG)(h:mR x=mR y):s3 x=s3 y:=by
 simp only[mR,List.cons.injEq,C.val.injEq,C.agg.injEq,C.kp.injEq,C.fn.injEq,bh,aQ,aT,ba,a8,aR,a0,aU,Value.int.injEq,Value.bool.injEq,true_and,and_true] at h;simp only[s3,h]
theorem Md {gl:Nat→C}(hgn:∀g,ah 0 (gl g) =true)(hg0:gl 0= .kp (cl wC kc))(hg2:gl 2= .kp (cl wC kc))(M:Nat):CxOK (ao gl M xK):=aB (N:=0) (Mb hgn hg0 hg2 0) Mc fun q0=>Vv (Mb hgn hg0 hg2 0) (by intros;rename_i m hm;exact (FF (m:Int) (by omega)).trans (by rw[fW])) ((q0.1)) q0.2
theorem QP:∀ (g:Nat)(xs:List C),noRefs 0 xs=false→xK g xs=none:=aM QO Mc
theorem QQ (s:List UInt8)(hc0:s.length< 70368744177664):xK 95 [.val (str s)] =some (sl bC (.own 1) (wb s)):=
 (aK _).trans (aA UT ⟨(s),hc0⟩)
abbrev FH:= {q0:Int×(List (List UInt8)) // ((bU (q0.1) (q0.2)).length< 1099511627776)}
def mS (q0:FH):List C:=[.val (.int .i64 (q0.1.1)),sl sC .no (q0.1.2)]
noncomputable def s4 (q0:FH):C:=sl bC (.own 1) (bU (q0.1.1) (q0.1.2))
noncomputable def xL:Nat→List C→Option C:=Sx.ext xK 65 (aV mS s4)
theorem Me (x:FH):noRefs 0 (mS x) =true:=by
 simp only[mS,am,aw,ax,ay,ar,au,af,ag,an,Bool.and_self,Bool.and_true,aF,aC,aG,aH]
theorem UU (x y:FH)(h:mS x=mS y):s4 x=s4 y:=by
 simp only[mS,List.cons.injEq,C.val.injEq,C.agg.injEq,C.kp.injEq,C.fn.injEq,bh,aQ,aT,ba,a8,aR,a0,aU,Value.int.injEq,Value.bool.injEq,true_and,and_true] at h;simp only[s4,h]
theorem Mf {gl:Nat→C}(hgn:∀g,ah 0 (gl g) =true)(hg0:gl 0= .kp (cl wC kc))(hg2:gl 2= .kp (cl wC kc))(M:Nat):CxOK (ao gl M xL):=aB (N:=0) (Md hgn hg0 hg2 0) Me fun q0=>Vz (Md hgn hg0 hg2 0) (by intros;apply QQ<;>first|assumption|omega) ((q0.1.1)) ((q0.1.2)) q0.2
theorem QR:∀ (g:Nat)(xs:List C),noRefs 0 xs=false→xL g xs=none:=aM QP Me
theorem QS (tag:Int)(parts:List (List UInt8))(hc0: (bU tag parts).length< 1099511627776):xL 65 [.val (.int .i64 tag),sl sC .no parts] =some (sl bC (.own 1) (bU tag parts)):=
 (aK _).trans (aA UU ⟨(tag,parts),hc0⟩)
abbrev FI:= {q0: (List UInt8) // ((q0).length< 35184372088832)}
def mT (q0:FI):List C:=[sl bC .no (q0.1)]
noncomputable def s5 (q0:FI):C:=sl bC (.own 1) ((q0.1)++i6 (q0.1).length)
noncomputable def xM:Nat→List C→Option C:=Sx.ext xL 108 (aV mT s5)
theorem Mg (x:FI):noRefs 0 (mT x) =true:=by
 simp only[mT,am,aw,ax,ay,ar,au,af,ag,an,Bool.and_self,Bool.and_true,aF,aC,aG,aH]
theorem UV (x y:FI)(h:mT x=mT y):s5 x=s5 y:=by
 simp only[mT,List.cons.injEq,C.val.injEq,C.agg.injEq,C.kp.injEq,C.fn.injEq,bh,aQ,aT,ba,a8,aR,a0,aU,Value.int.injEq,Value.bool.injEq,true_and,and_true] at h;simp only[s5,h]
theorem Mh {gl:Nat→C}(hgn:∀g,ah 0 (gl g) =true)(hg0:gl 0= .kp (cl wC kc))(hg2:gl 2= .kp (cl wC kc))(M:Nat):CxOK (ao gl M xM):=aB (N:=0) (Mf hgn hg0 hg2 0) Mg fun q0=>RU (Mf hgn hg0 hg2 0) ((q0.1)) q0.2
theorem QT:∀ (g:Nat)(xs:List C),noRefs 0 xs=false→xM g xs=none:=aM QR Mg
theorem QU (b:List UInt8)(hc0:b.length< 35184372088832):xM 108 [sl bC .no b] =some (sl bC (.own 1) (b++i6 b.length)):=
 (aK _).trans (aA UV ⟨(b),hc0⟩)
abbrev FJ:= {q0: (BitVec 32)×Nat // ((q0.2) < 32)}
def mU (q0:FJ):List C:=[.val (bf (q0.1.1)),.val (nI (q0.1.2))]
noncomputable def s6 (q0:FJ):C:= .val (bf (rr (q0.1.1) (q0.1.2)))
noncomputable def xN:Nat→List C→Option C:=Sx.ext xM 110 (aV mU s6)
theorem Mi (x:FJ):noRefs 0 (mU x) =true:=by
 simp only[mU,am,aw,ax,ay,ar,au,af,ag,an,Bool.and_self,Bool.and_true,aF,aC,aG,aH]
theorem UW (x y:FJ)(h:mU x=mU y):s6 x=s6 y:=by
 simp only[mU,List.cons.injEq,C.val.injEq,C.agg.injEq,C.kp.injEq,C.fn.injEq,bh,aQ,aT,ba,a8,aR,a0,aU,Value.int.injEq,Value.bool.injEq,true_and,and_true] at h;simp only[s6,h]
theorem Mj {gl:Nat→C}(hgn:∀g,ah 0 (gl g) =true)(hg0:gl 0= .kp (cl wC kc))(hg2:gl 2= .kp (cl wC kc))(M:Nat):CxOK (ao gl M xN):=aB (N:=0) (Mh hgn hg0 hg2 0) Mi fun q0=>RK (Mh hgn hg0 hg2 0) ((q0.1.1)) ((q0.1.2)) q0.2
theorem QV:∀ (g:Nat)(xs:List C),noRefs 0 xs=false→xN g xs=none:=aM QT Mi
theorem FK (x:BitVec 32)(n:Nat)(hc0:n< 32):xN 110 [.val (bf x),.val (nI n)] =some (.val (bf (rr x n))):=
 (aK _).trans (aA UW ⟨(x,n),hc0⟩)
abbrev FL:= {q0: (List UInt8) // ((q0).length=64)}
def mV (q0:FL):List C:=[sl bC .no (q0.1)]
noncomputable def s7 (q0:FL):C:= .agg (cl wC (aN (q0.1) 64))
noncomputable def xO:Nat→List C→Option C:=Sx.ext xN 109 (aV mV s7)
theorem Mk (x:FL):noRefs 0 (mV x) =true:=by
 simp only[mV,am,aw,ax,ay,ar,au,af,ag,an,Bool.and_self,Bool.and_true,aF,aC,aG,aH]
theorem UX (x y:FL)(h:mV x=mV y):s7 x=s7 y:=by
 simp only[mV,List.cons.injEq,C.val.injEq,C.agg.injEq,C.kp.injEq,C.fn.injEq,bh,aQ,aT,ba,a8,aR,a0,aU,Value.int.injEq,Value.bool.injEq,true_and,and_true] at h;simp only[s7,h]
theorem Ml {gl:Nat→C}(hgn:∀g,ah 0 (gl g) =true)(hg0:gl 0= .kp (cl wC kc))(hg2:gl 2= .kp (cl wC kc))(M:Nat):CxOK (ao gl M xO):=aB (N:=0) (Mj hgn hg0 hg2 0) Mk fun q0=>RV (Mj hgn hg0 hg2 0) (by intros;apply FK<;>first|assumption|omega) ((q0.1)) q0.2
theorem QW:∀ (g:Nat)(xs:List C),noRefs 0 xs=false→xO g xs=none:=aM QV Mk
theorem QX (b:List UInt8)(hc0:b.length=64):xO 109 [sl bC .no b] =some (.agg (cl wC (aN b 64))):=
 (aK _).trans (aA UX ⟨(b),hc0⟩)
abbrev FM:= {q0: (List UInt8) // ((q0).length< 35184372088832)}
def mW (q0:FM):List C:=[sl bC .no (q0.1)]
noncomputable def s8 (q0:FM):C:= .agg (cl bC (eA (q0.1)))
noncomputable def xP:Nat→List C→Option C:=Sx.ext xO 94 (aV mW s8)
theorem Mm (x:FM):noRefs 0 (mW x) =true:=by
 simp only[mW,am,aw,ax,ay,ar,au,af,ag,an,Bool.and_self,Bool.and_true,aF,aC,aG,aH]
theorem UY (x y:FM)(h:mW x=mW y):s8 x=s8 y:=by
 simp only[mW,List.cons.injEq,C.val.injEq,C.agg.injEq,C.kp.injEq,C.fn.injEq,bh,aQ,aT,ba,a8,aR,a0,aU,Value.int.injEq,Value.bool.injEq,true_and,and_true] at h;simp only[s8,h]
theorem Mn {gl:Nat→C}(hgn:∀g,ah 0 (gl g) =true)(hg0:gl 0= .kp (cl wC kc))(hg2:gl 2= .kp (cl wC kc))(M:Nat):CxOK (ao gl M xP):=aB (N:=0) (Ml hgn hg0 hg2 0) Mm fun q0=>Vx (Ml hgn hg0 hg2 0) hg0 (by intros;(iterate 2 refine (aE (by decide) _).trans ?_);apply QU<;>first|assumption|omega) (by intros;apply QX<;>first|assumption|omega) (by intros;(iterate 1 refine (aE (by decide) _).trans ?_);apply FK<;>first|assumption|omega) ((q0.1)) q0.2
theorem QY:∀ (g:Nat)(xs:List C),noRefs 0 xs=false→xP g xs=none:=aM QW Mm
theorem QZ (b:List UInt8)(hc0:b.length< 35184372088832):xP 94 [sl bC .no b] =some (.agg (cl bC (eA b))):=
 (aK _).trans (aA UY ⟨(b),hc0⟩)
abbrev FN:= {q0: (List UInt8) // ((q0).length< 35184372088832)}
def mX (q0:FN):List C:=[sl bC .no (q0.1)]
noncomputable def s9 (q0:FN):C:= .agg (cl bC ((eA (q0.1)).take 16))
noncomputable def xQ:Nat→List C→Option C:=Sx.ext xP 64 (aV mX s9)
theorem Mo (x:FN):noRefs 0 (mX x) =true:=by
 simp only[mX,am,aw,ax,ay,ar,au,af,ag,an,Bool.and_self,Bool.and_true,aF,aC,aG,aH]
theorem UZ (x y:FN)(h:mX x=mX y):s9 x=s9 y:=by
 simp only[mX,List.cons.injEq,C.val.injEq,C.agg.injEq,C.kp.injEq,C.fn.injEq,bh,aQ,aT,ba,a8,aR,a0,aU,Value.int.injEq,Value.bool.injEq,true_and,and_true] at h;simp only[s9,h]
theorem Mp {gl:Nat→C}(hgn:∀g,ah 0 (gl g) =true)(hg0:gl 0= .kp (cl wC kc))(hg2:gl 2= .kp (cl wC kc))(M:Nat):CxOK (ao gl M xQ):=aB (N:=0) (Mn hgn hg0 hg2 0) Mo fun q0=>Vy (Mn hgn hg0 hg2 0) (by intros;apply QZ<;>first|assumption|omega) ((q0.1)) q0.2
theorem Q0:∀ (g:Nat)(xs:List C),noRefs 0 xs=false→xQ g xs=none:=aM QY Mo
theorem Q1 (b:List UInt8)(hc0:b.length< 35184372088832):xQ 64 [sl bC .no b] =some (.agg (cl bC ((eA b).take 16))):=
 (aK _).trans (aA UZ ⟨(b),hc0⟩)
abbrev FO:= {q0: (List UInt8) // ((q0).length=16)}
def mY (q0:FO):List C:=[.agg (cl bC (q0.1))]
noncomputable def tc (q0:FO):C:= .val (str (q0.1))
noncomputable def xR:Nat→List C→Option C:=Sx.ext xQ 84 (aV mY tc)
theorem Mq (x:FO):noRefs 0 (mY x) =true:=by
 simp only[mY,am,aw,ax,ay,ar,au,af,ag,an,Bool.and_self,Bool.and_true,aF,aC,aG,aH]
theorem U0 (x y:FO)(h:mY x=mY y):tc x=tc y:=by
 simp only[mY,List.cons.injEq,C.val.injEq,C.agg.injEq,C.kp.injEq,C.fn.injEq,bh,aQ,aT,ba,a8,aR,a0,aU,Value.int.injEq,Value.bool.injEq,true_and,and_true] at h;simp only[tc,h]
theorem Mr {gl:Nat→C}(hgn:∀g,ah 0 (gl g) =true)(hg0:gl 0= .kp (cl wC kc))(hg2:gl 2= .kp (cl wC kc))(M:Nat):CxOK (ao gl M xR):=aB (N:=0) (Mp hgn hg0 hg2 0) Mq fun q0=>Vw (Mp hgn hg0 hg2 0) ((q0.1)) q0.2
theorem Q2:∀ (g:Nat)(xs:List C),noRefs 0 xs=false→xR g xs=none:=aM Q0 Mq
theorem Q3 (h:List UInt8)(hc0:h.length=16):xR 84 [.agg (cl bC h)] =some (.val (str h)):=
 (aK _).trans (aA U0 ⟨(h),hc0⟩)
abbrev FQ:= {q0:Nat // ((q0)≤4611686018427387000)}
def mZ (q0:FQ):List C:=[.val (nI (q0.1))]
noncomputable def te (q0:FQ):C:= .val (nI (aD (q0.1)))
noncomputable def xS:Nat→List C→Option C:=Sx.ext xR 106 (aV mZ te)
theorem Ms (x:FQ):noRefs 0 (mZ x) =true:=by
 simp only[mZ,am,aw,ax,ay,ar,au,af,ag,an,Bool.and_self,Bool.and_true,aF,aC,aG,aH]
theorem U1 (x y:FQ)(h:mZ x=mZ y):te x=te y:=by
 simp only[mZ,List.cons.injEq,C.val.injEq,C.agg.injEq,C.kp.injEq,C.fn.injEq,bh,aQ,aT,ba,a8,aR,a0,aU,Value.int.injEq,Value.bool.injEq,true_and,and_true] at h;simp only[te,h]
theorem Mt {gl:Nat→C}(hgn:∀g,ah 0 (gl g) =true)(hg0:gl 0= .kp (cl wC kc))(hg2:gl 2= .kp (cl wC kc))(M:Nat):CxOK (ao gl M xS):=aB (N:=0) (Mr hgn hg0 hg2 0) Ms fun q0=>P9 (Mr hgn hg0 hg2 0) ((q0.1)) q0.2
theorem Q4:∀ (g:Nat)(xs:List C),noRefs 0 xs=false→xS g xs=none:=aM Q2 Ms
theorem Q5 (n:Nat)(hc0:n≤4611686018427387000):xS 106 [.val (nI n)] =some (.val (nI (aD n))):=
 (aK _).trans (aA U1 ⟨(n),hc0⟩)
abbrev FR:= {q0: (List ab) // (LB (q0))}
def m0 (q0:FR):List C:=[sl eC .no (q0.1)]
noncomputable def tf (q0:FR):C:= .val (nI (bR (q0.1)))
noncomputable def xT:Nat→List C→Option C:=Sx.ext xS 16 (aV m0 tf)
theorem Mu (x:FR):noRefs 0 (m0 x) =true:=by
 simp only[m0,am,aw,ax,ay,ar,au,af,ag,an,Bool.and_self,Bool.and_true,aF,aC,aG,aH]
theorem U2 (x y:FR)(h:m0 x=m0 y):tf x=tf y:=by
 simp only[m0,List.cons.injEq,C.val.injEq,C.agg.injEq,C.kp.injEq,C.fn.injEq,bh,aQ,aT,ba,a8,aR,a0,aU,Value.int.injEq,Value.bool.injEq,true_and,and_true] at h;simp only[tf,h]
theorem Mv {gl:Nat→C}(hgn:∀g,ah 0 (gl g) =true)(hg0:gl 0= .kp (cl wC kc))(hg2:gl 2= .kp (cl wC kc))(M:Nat):CxOK (ao gl M xT):=aB (N:=0) (Mt hgn hg0 hg2 0) Mu fun q0=>TU (Mt hgn hg0 hg2 0) ((q0.1)) q0.2
theorem FSq:∀ (g:Nat)(xs:List C),noRefs 0 xs=false→xT g xs=none:=aM Q4 Mu
theorem FT (l:List ab)(hc0:LB l):xT 16 [sl eC .no l] =some (.val (nI (bR l))):=
 (aK _).trans (aA U2 ⟨(l),hc0⟩)
abbrev FU:= {q0: (List ab) // (LB (q0))}
def m3 (q0:FU):List C:=[sl eC .no (q0.1)]
noncomputable def th (q0:FU):C:= .tup [.agg (cl bC (dO (q0.1)).1),.val (nI (dO (q0.1)).2)]
noncomputable def xU:Nat→List C→Option C:=Sx.ext xT 14 (aV m3 th)
theorem Mw (x:FU):noRefs 0 (m3 x) =true:=by
 simp only[m3,am,aw,ax,ay,ar,au,af,ag,an,Bool.and_self,Bool.and_true,aF,aC,aG,aH]
theorem U3 (x y:FU)(h:m3 x=m3 y):th x=th y:=by
 simp only[m3,List.cons.injEq,C.val.injEq,C.agg.injEq,C.kp.injEq,C.fn.injEq,bh,aQ,aT,ba,a8,aR,a0,aU,Value.int.injEq,Value.bool.injEq,true_and,and_true] at h;simp only[th,h]
theorem Mx {gl:Nat→C}(hgn:∀g,ah 0 (gl g) =true)(hg0:gl 0= .kp (cl wC kc))(hg2:gl 2= .kp (cl wC kc))(M:Nat):CxOK (ao gl M xU):=aB (N:=0) (Mv hgn hg0 hg2 0) Mw fun q0=>Qa (Mv hgn hg0 hg2 0) FSq (by intros;(iterate 8 refine (aE (by decide) _).trans ?_);apply QS<;>first|assumption|omega) (by intros;(iterate 3 refine (aE (by decide) _).trans ?_);apply Q1<;>first|assumption|omega) (by intros;(iterate 2 refine (aE (by decide) _).trans ?_);apply Q3<;>first|assumption|omega) (by intros;(iterate 1 refine (aE (by decide) _).trans ?_);apply Q5<;>first|assumption|omega) (by intros;(iterate 10 refine (aE (by decide) _).trans ?_);apply FF<;>first|assumption|omega) (by intros;apply FT<;>first|assumption|omega) ((q0.1)) q0.2
theorem Q6:∀ (g:Nat)(xs:List C),noRefs 0 xs=false→xU g xs=none:=aM FSq Mw
theorem Q7 (l:List ab)(hc0:LB l):xU 14 [sl eC .no l] =some (.tup [.agg (cl bC (dO l).1),.val (nI (dO l).2)]):=
 (aK _).trans (aA U3 ⟨(l),hc0⟩)
abbrev FV:= {q0: (List ab) // ((q0).length≤1000000)}
def m4 (q0:FV):List C:=[sl eC .no (q0.1)]
noncomputable def ti (q0:FV):C:=sl eC (.own 2) (q0.1)
noncomputable def xV:Nat→List C→Option C:=Sx.ext xU 18 (aV m4 ti)
theorem My (x:FV):noRefs 0 (m4 x) =true:=by
 simp only[m4,am,aw,ax,ay,ar,au,af,ag,an,Bool.and_self,Bool.and_true,aF,aC,aG,aH]
theorem U4 (x y:FV)(h:m4 x=m4 y):ti x=ti y:=by
 simp only[m4,List.cons.injEq,C.val.injEq,C.agg.injEq,C.kp.injEq,C.fn.injEq,bh,aQ,aT,ba,a8,aR,a0,aU,Value.int.injEq,Value.bool.injEq,true_and,and_true] at h;simp only[ti,h]
theorem Mz {gl:Nat→C}(hgn:∀g,ah 0 (gl g) =true)(hg0:gl 0= .kp (cl wC kc))(hg2:gl 2= .kp (cl wC kc))(M:Nat):CxOK (ao gl M xV):=aB (N:=0) (Mx hgn hg0 hg2 0) My fun q0=>T0 (Mx hgn hg0 hg2 0) ((q0.1)) q0.2
theorem Q8:∀ (g:Nat)(xs:List C),noRefs 0 xs=false→xV g xs=none:=aM Q6 My
theorem Q9 (l:List ab)(hc0:l.length≤1000000):xV 18 [sl eC .no l] =some (sl eC (.own 2) l):=
 (aK _).trans (aA U4 ⟨(l),hc0⟩)
abbrev FW:= {q0: (List UInt8)×(List UInt8) // True}
def m5 (q0:FW):List C:=[.val (str (q0.1.1)),.val (str (q0.1.2))]
noncomputable def tj (q0:FW):C:= .val (.int .i64 (dY (q0.1.1) (q0.1.2)))
noncomputable def xW:Nat→List C→Option C:=Sx.ext xV 90 (aV m5 tj)
theorem MA (x:FW):noRefs 0 (m5 x) =true:=by
 simp only[m5,am,aw,ax,ay,ar,au,af,ag,an,Bool.and_self,Bool.and_true,aF,aC,aG,aH]
theorem U5 (x y:FW)(h:m5 x=m5 y):tj x=tj y:=by
 simp only[m5,List.cons.injEq,C.val.injEq,C.agg.injEq,C.kp.injEq,C.fn.injEq,bh,aQ,aT,ba,a8,aR,a0,aU,Value.int.injEq,Value.bool.injEq,true_and,and_true] at h;simp only[tj,h]
theorem MB {gl:Nat→C}(hgn:∀g,ah 0 (gl g) =true)(hg0:gl 0= .kp (cl wC kc))(hg2:gl 2= .kp (cl wC kc))(M:Nat):CxOK (ao gl M xW):=aB (N:=0) (Mz hgn hg0 hg2 0) MA fun q0=>Qd (Mz hgn hg0 hg2 0) ((q0.1.1)) ((q0.1.2))
theorem Ra:∀ (g:Nat)(xs:List C),noRefs 0 xs=false→xW g xs=none:=aM Q8 MA
theorem Rb (a:List UInt8)(b:List UInt8):xW 90 [.val (str a),.val (str b)] =some (.val (.int .i64 (dY a b))):=
 (aK _).trans (aA U5 ⟨(a,b),trivial⟩)
abbrev FX:= {q0:ab×(List UInt8) // True}
def m6 (q0:FX):List C:=[.agg (eC (q0.1.1)),.val (str (q0.1.2))]
noncomputable def tk (q0:FX):C:= .val (.int .i64 (dY (q0.1.1).1 (q0.1.2)))
noncomputable def xX:Nat→List C→Option C:=Sx.ext xW 89 (aV m6 tk)
theorem MC (x:FX):noRefs 0 (m6 x) =true:=by
 simp only[m6,am,aw,ax,ay,ar,au,af,ag,an,Bool.and_self,Bool.and_true,aF,aC,aG,aH]
theorem U6 (x y:FX)(h:m6 x=m6 y):tk x=tk y:=by
 simp only[m6,List.cons.injEq,C.val.injEq,C.agg.injEq,C.kp.injEq,C.fn.injEq,bh,aQ,aT,ba,a8,aR,a0,aU,Value.int.injEq,Value.bool.injEq,true_and,and_true] at h;simp only[tk,h]
theorem MD {gl:Nat→C}(hgn:∀g,ah 0 (gl g) =true)(hg0:gl 0= .kp (cl wC kc))(hg2:gl 2= .kp (cl wC kc))(M:Nat):CxOK (ao gl M xX):=aB (N:=0) (MB hgn hg0 hg2 0) MC fun q0=>Tq (MB hgn hg0 hg2 0) (by intros;apply Rb<;>first|assumption|omega) ((q0.1.1)) ((q0.1.2))
theorem Rc:∀ (g:Nat)(xs:List C),noRefs 0 xs=false→xX g xs=none:=aM Ra MC
theorem Rd (x:ab)(k:List UInt8):xX 89 [.agg (eC x),.val (str k)] =some (.val (.int .i64 (dY x.1 k))):=
 (aK _).trans (aA U6 ⟨(x,k),trivial⟩)
abbrev FY:= {q0: (List ab)×(List UInt8) // (Srt (q0.1))∧((q0.1).length≤1000000)}
def m7 (q0:FY):List C:=[sl eC .no (q0.1.1),.val (str (q0.1.2)),.fn 89 []]
noncomputable def tl (q0:FY):C:= .tup [.val (nI (bm (q0.1.1) (q0.1.2))),.val (.bool (tO (q0.1.1) (q0.1.2)))]
noncomputable def xY:Nat→List C→Option C:=Sx.ext xX 88 (aV m7 tl)
theorem ME (x:FY):noRefs 0 (m7 x) =true:=by
 simp only[m7,am,aw,ax,ay,ar,au,af,ag,an,Bool.and_self,Bool.and_true,aF,aC,aG,aH]
theorem U7 (x y:FY)(h:m7 x=m7 y):tl x=tl y:=by
 simp only[m7,List.cons.injEq,C.val.injEq,C.agg.injEq,C.kp.injEq,C.fn.injEq,bh,aQ,aT,ba,a8,aR,a0,aU,Value.int.injEq,Value.bool.injEq,true_and,and_true] at h;simp only[tl,h]
theorem MF {gl:Nat→C}(hgn:∀g,ah 0 (gl g) =true)(hg0:gl 0= .kp (cl wC kc))(hg2:gl 2= .kp (cl wC kc))(M:Nat):CxOK (ao gl M xY):=aB (N:=0) (MD hgn hg0 hg2 0) ME fun q0=>Ts (MD hgn hg0 hg2 0) (by intros;apply Rd<;>first|assumption|omega) ((q0.1.1)) ((q0.1.2)) q0.2.1 q0.2.2
theorem Re:∀ (g:Nat)(xs:List C),noRefs 0 xs=false→xY g xs=none:=aM Rc ME
theorem Rf (l:List ab)(k:List UInt8)(hc0:Srt l)(hc1:l.length≤1000000):xY 88 [sl eC .no l,.val (str k),.fn 89 []] =some (.tup [.val (nI (bm l k)),.val (.bool (tO l k))]):=
 (aK _).trans (aA U7 ⟨(l,k),⟨hc0,hc1⟩⟩)
abbrev FZ:= {q0: (List ab)×(List UInt8) // (Srt (q0.1))∧((q0.1).length≤1000000)}
def m8 (q0:FZ):List C:=[sl eC .no (q0.1.1),.val (str (q0.1.2))]
noncomputable def tm (q0:FZ):C:= .val (nI (bm (q0.1.1) (q0.1.2)))
noncomputable def xZ:Nat→List C→Option C:=Sx.ext xY 56 (aV m8 tm)
theorem MG (x:FZ):noRefs 0 (m8 x) =true:=by
 simp only[m8,am,aw,ax,ay,ar,au,af,ag,an,Bool.and_self,Bool.and_true,aF,aC,aG,aH]
theorem U8 (x y:FZ)(h:m8 x=m8 y):tm x=tm y:=by
 simp only[m8,List.cons.injEq,C.val.injEq,C.agg.injEq,C.kp.injEq,C.fn.injEq,bh,aQ,aT,ba,a8,aR,a0,aU,Value.int.injEq,Value.bool.injEq,true_and,and_true] at h;simp only[tm,h]
theorem MH {gl:Nat→C}(hgn:∀g,ah 0 (gl g) =true)(hg0:gl 0= .kp (cl wC kc))(hg2:gl 2= .kp (cl wC kc))(M:Nat):CxOK (ao gl M xZ):=aB (N:=0) (MF hgn hg0 hg2 0) MG fun q0=>Tt (MF hgn hg0 hg2 0) (by intros;apply Rf<;>first|assumption|omega) ((q0.1.1)) ((q0.1.2)) q0.2.1 q0.2.2
theorem Rg:∀ (g:Nat)(xs:List C),noRefs 0 xs=false→xZ g xs=none:=aM Re MG
theorem tn (l:List ab)(k:List UInt8)(hc0:Srt l)(hc1:l.length≤1000000):xZ 56 [sl eC .no l,.val (str k)] =some (.val (nI (bm l k))):=
 (aK _).trans (aA U8 ⟨(l,k),⟨hc0,hc1⟩⟩)
abbrev F4:= {q0: (List ab) // ((q0).length≤1000000)}
def m9 (q0:F4):List C:=[sl eC .no (q0.1)]
noncomputable def tp (q0:F4):C:=sl eC (.own 2) (q0.1)
noncomputable def x3:Nat→List C→Option C:=Sx.ext xZ 63 (aV m9 tp)
theorem MI (x:F4):noRefs 0 (m9 x) =true:=by
 simp only[m9,am,aw,ax,ay,ar,au,af,ag,an,Bool.and_self,Bool.and_true,aF,aC,aG,aH]
theorem U9 (x y:F4)(h:m9 x=m9 y):tp x=tp y:=by
 simp only[m9,List.cons.injEq,C.val.injEq,C.agg.injEq,C.kp.injEq,C.fn.injEq,bh,aQ,aT,ba,a8,aR,a0,aU,Value.int.injEq,Value.bool.injEq,true_and,and_true] at h;simp only[tp,h]
theorem MJ {gl:Nat→C}(hgn:∀g,ah 0 (gl g) =true)(hg0:gl 0= .kp (cl wC kc))(hg2:gl 2= .kp (cl wC kc))(M:Nat):CxOK (ao gl M x3):=aB (N:=0) (MH hgn hg0 hg2 0) MI fun q0=>TN (MH hgn hg0 hg2 0) ((q0.1)) q0.2
theorem F5:∀ (g:Nat)(xs:List C),noRefs 0 xs=false→x3 g xs=none:=aM Rg MI
theorem F6 (l:List ab)(hc0:l.length≤1000000):x3 63 [sl eC .no l] =some (sl eC (.own 2) l):=
 (aK _).trans (aA U9 ⟨(l),hc0⟩)
abbrev F7:= {q0: (List ab)×Nat×Nat // (OkL (q0.1))∧((q0.2.1)≤(q0.2.2)∧(q0.2.2)≤(q0.1).length)}
def na (q0:F7):List C:=[sl eC .no (q0.1.1),.val (nI (q0.1.2.1)),.val (nI (q0.1.2.2))]
noncomputable def tq (q0:F7):C:= .agg [.val (nI (q0.1.2.1)),.val (nI (q0.1.1).length),sl eC .no (((q0.1.1).drop (q0.1.2.1)).take ((q0.1.2.2) - (q0.1.2.1))),sl dC .no (cd (q0.1.1) (q0.1.2.1) (q0.1.2.2))]
noncomputable def x4:Nat→List C→Option C:=Sx.ext x3 57 (aV na tq)
theorem MK (x:F7):noRefs 0 (na x) =true:=by
 simp only[na,am,aw,ax,ay,ar,au,af,ag,an,Bool.and_self,Bool.and_true,aF,aC,aG,aH]
theorem Va (x y:F7)(h:na x=na y):tq x=tq y:=by
 simp only[na,List.cons.injEq,C.val.injEq,C.agg.injEq,C.kp.injEq,C.fn.injEq,bh,aQ,aT,ba,a8,aR,a0,aU,Value.int.injEq,Value.bool.injEq,true_and,and_true] at h;simp only[tq,h]
theorem ML {gl:Nat→C}(hgn:∀g,ah 0 (gl g) =true)(hg0:gl 0= .kp (cl wC kc))(hg2:gl 2= .kp (cl wC kc))(M:Nat):CxOK (ao gl M x4):=aB (N:=0) (MJ hgn hg0 hg2 0) MK fun q0=>Qb (MJ hgn hg0 hg2 0) F5 (by intros;apply F6<;>first|assumption|omega) (by intros;(iterate 20 refine (aE (by decide) _).trans ?_);apply Fz<;>first|assumption|omega) (by intros;(iterate 23 refine (aE (by decide) _).trans ?_);apply xD<;>first|assumption|omega) ((q0.1.1)) ((q0.1.2.1)) ((q0.1.2.2)) q0.2.1 q0.2.2
theorem Rh:∀ (g:Nat)(xs:List C),noRefs 0 xs=false→x4 g xs=none:=aM F5 MK
theorem F8 (l:List ab)(f:Nat)(e:Nat)(hc0:OkL l)(hc1:f≤e∧e≤l.length):x4 57 [sl eC .no l,.val (nI f),.val (nI e)] =some (.agg [.val (nI f),.val (nI l.length),sl eC .no ((l.drop f).take (e - f)),sl dC .no (cd l f e)]):=
 (aK _).trans (aA Va ⟨(l,f,e),⟨hc0,hc1⟩⟩)
abbrev F9:= {q0: (List ab)×(List UInt8) // (LB (q0.1))}
def nb (q0:F9):List C:=[sl eC .no (q0.1.1),.val (str (q0.1.2))]
noncomputable def tr (q0:F9):C:= .tup [.agg [.val (nI (dn (q0.1.1) (q0.1.2)).1.1),.val (nI (dn (q0.1.1) (q0.1.2)).1.2.1),sl eC .no (dn (q0.1.1) (q0.1.2)).1.2.2.1,sl dC .no (dn (q0.1.1) (q0.1.2)).1.2.2.2],.val (nI (dn (q0.1.1) (q0.1.2)).2)]
noncomputable def x5:Nat→List C→Option C:=Sx.ext x4 22 (aV nb tr)
theorem MM (x:F9):noRefs 0 (nb x) =true:=by
 simp only[nb,am,aw,ax,ay,ar,au,af,ag,an,Bool.and_self,Bool.and_true,aF,aC,aG,aH]
theorem Vb (x y:F9)(h:nb x=nb y):tr x=tr y:=by
 simp only[nb,List.cons.injEq,C.val.injEq,C.agg.injEq,C.kp.injEq,C.fn.injEq,bh,aQ,aT,ba,a8,aR,a0,aU,Value.int.injEq,Value.bool.injEq,true_and,and_true] at h;simp only[tr,h]
theorem MN {gl:Nat→C}(hgn:∀g,ah 0 (gl g) =true)(hg0:gl 0= .kp (cl wC kc))(hg2:gl 2= .kp (cl wC kc))(M:Nat):CxOK (ao gl M x5):=aB (N:=0) (ML hgn hg0 hg2 0) MM fun q0=>Tw (ML hgn hg0 hg2 0) (by intros;(iterate 37 refine (aE (by decide) _).trans ?_);apply o9<;>first|assumption|omega) (by intros;(iterate 2 refine (aE (by decide) _).trans ?_);apply tn<;>first|assumption|omega) (by intros;apply F8<;>first|assumption|omega) ((q0.1.1)) ((q0.1.2)) q0.2
theorem Ri:∀ (g:Nat)(xs:List C),noRefs 0 xs=false→x5 g xs=none:=aM Rh MM
theorem Rj (l:List ab)(k:List UInt8)(hc0:LB l):x5 22 [sl eC .no l,.val (str k)] =some (.tup [.agg [.val (nI (dn l k).1.1),.val (nI (dn l k).1.2.1),sl eC .no (dn l k).1.2.2.1,sl dC .no (dn l k).1.2.2.2],.val (nI (dn l k).2)]):=
 (aK _).trans (aA Vb ⟨(l,k),hc0⟩)
abbrev Ga:= {q0: (List ab)×(List UInt8)×(List UInt8) // (LB (q0.1))}
def nc (q0:Ga):List C:=[sl eC .no (q0.1.1),.val (str (q0.1.2.1)),.val (str (q0.1.2.2))]
noncomputable def tt (q0:Ga):C:= .tup [.agg [.val (nI (dF (q0.1.1) (q0.1.2.1) (q0.1.2.2)).1.1),.val (nI (dF (q0.1.1) (q0.1.2.1) (q0.1.2.2)).1.2.1),sl eC .no (dF (q0.1.1) (q0.1.2.1) (q0.1.2.2)).1.2.2.1,sl dC .no (dF (q0.1.1) (q0.1.2.1) (q0.1.2.2)).1.2.2.2],.val (nI (dF (q0.1.1) (q0.1.2.1) (q0.1.2.2)).2)]
noncomputable def x6:Nat→List C→Option C:=Sx.ext x5 24 (aV nc tt)
theorem MO (x:Ga):noRefs 0 (nc x) =true:=by
 simp only[nc,am,aw,ax,ay,ar,au,af,ag,an,Bool.and_self,Bool.and_true,aF,aC,aG,aH]
theorem Vc (x y:Ga)(h:nc x=nc y):tt x=tt y:=by
 simp only[nc,List.cons.injEq,C.val.injEq,C.agg.injEq,C.kp.injEq,C.fn.injEq,bh,aQ,aT,ba,a8,aR,a0,aU,Value.int.injEq,Value.bool.injEq,true_and,and_true] at h;simp only[tt,h]
theorem MP {gl:Nat→C}(hgn:∀g,ah 0 (gl g) =true)(hg0:gl 0= .kp (cl wC kc))(hg2:gl 2= .kp (cl wC kc))(M:Nat):CxOK (ao gl M x6):=aB (N:=0) (MN hgn hg0 hg2 0) MO fun q0=>Tx (MN hgn hg0 hg2 0) (by intros;(iterate 38 refine (aE (by decide) _).trans ?_);apply o9<;>first|assumption|omega) (by intros;(iterate 3 refine (aE (by decide) _).trans ?_);apply tn<;>first|assumption|omega) (by intros;(iterate 1 refine (aE (by decide) _).trans ?_);apply F8<;>first|assumption|omega) ((q0.1.1)) ((q0.1.2.1)) ((q0.1.2.2)) q0.2
theorem Gb:∀ (g:Nat)(xs:List C),noRefs 0 xs=false→x6 g xs=none:=aM Ri MO
theorem Rk (l:List ab)(x:List UInt8)(y:List UInt8)(hc0:LB l):x6 24 [sl eC .no l,.val (str x),.val (str y)] =some (.tup [.agg [.val (nI (dF l x y).1.1),.val (nI (dF l x y).1.2.1),sl eC .no (dF l x y).1.2.2.1,sl dC .no (dF l x y).1.2.2.2],.val (nI (dF l x y).2)]):=
 (aK _).trans (aA Vc ⟨(l,x,y),hc0⟩)
abbrev Gc:= {q0: (List UInt8)×Int×Int×(List ab)×(List bL) // ((q0.1).length=16)∧(-9223372036854775808≤(q0.2.1)∧(q0.2.1)≤9223372036854775807)∧(-9223372036854775808≤(q0.2.2.1)∧(q0.2.2.1)≤9223372036854775807)∧(LB (q0.2.2.2.1))∧((q0.2.2.2.2).length≤1000000)}
def nd (q0:Gc):List C:=[.agg [.val (.int .i64 (q0.1.2.1)),.val (.int .i64 (q0.1.2.2.1)),sl eC .no (q0.1.2.2.2.1),sl dC .no (q0.1.2.2.2.2)],.agg (cl bC (q0.1.1))]
noncomputable def tu (q0:Gc):C:= .val (.bool (dq (q0.1.1) (q0.1.2.1) (q0.1.2.2.1) (q0.1.2.2.2.1) (q0.1.2.2.2.2)))
noncomputable def x7:Nat→List C→Option C:=Sx.ext x6 61 (aV nd tu)
theorem MQ (x:Gc):noRefs 0 (nd x) =true:=by
 simp only[nd,am,aw,ax,ay,ar,au,af,ag,an,Bool.and_self,Bool.and_true,aF,aC,aG,aH]
theorem Vd (x y:Gc)(h:nd x=nd y):tu x=tu y:=by
 simp only[nd,List.cons.injEq,C.val.injEq,C.agg.injEq,C.kp.injEq,C.fn.injEq,bh,aQ,aT,ba,a8,aR,a0,aU,Value.int.injEq,Value.bool.injEq,true_and,and_true] at h;simp only[tu,h]
theorem MR {gl:Nat→C}(hgn:∀g,ah 0 (gl g) =true)(hg0:gl 0= .kp (cl wC kc))(hg2:gl 2= .kp (cl wC kc))(M:Nat):CxOK (ao gl M x7):=aB (N:=0) (MP hgn hg0 hg2 0) MQ fun q0=>Qc (MP hgn hg0 hg2 0) Gb (by intros;(iterate 39 refine (aE (by decide) _).trans ?_);apply o9<;>first|assumption|omega) (by intros;(iterate 28 refine (aE (by decide) _).trans ?_);apply Fq<;>first|assumption|omega) (by intros;(iterate 27 refine (aE (by decide) _).trans ?_);apply Ft<;>first|assumption|omega) (by intros;(iterate 26 refine (aE (by decide) _).trans ?_);apply xD<;>first|assumption|omega) (by intros;(iterate 25 refine (aE (by decide) _).trans ?_);apply Fw<;>first|assumption|omega) ((q0.1.1)) ((q0.1.2.1)) ((q0.1.2.2.1)) ((q0.1.2.2.2.1)) ((q0.1.2.2.2.2)) q0.2.1 q0.2.2.1 q0.2.2.2.1 q0.2.2.2.2.1 q0.2.2.2.2.2
theorem Rl:∀ (g:Nat)(xs:List C),noRefs 0 xs=false→x7 g xs=none:=aM Gb MQ
theorem Gd (r:List UInt8)(f:Int)(z:Int)(l:List ab)(S:List bL)(hc0:r.length=16)(hc1: -9223372036854775808≤f∧f≤9223372036854775807)(hc2: -9223372036854775808≤z∧z≤9223372036854775807)(hc3:LB l)(hc4:S.length≤1000000):x7 61 [.agg [.val (.int .i64 f),.val (.int .i64 z),sl eC .no l,sl dC .no S],.agg (cl bC r)] =some (.val (.bool (dq r f z l S))):=
 (aK _).trans (aA Vd ⟨(r,f,z,l,S),⟨hc0,hc1,hc2,hc3,hc4⟩⟩)
abbrev Ge:= {q0: (List UInt8)×(List UInt8)×Int×Int×(List ab)×(List bL) // ((q0.1).length=16)∧(-9223372036854775808≤(q0.2.2.1)∧(q0.2.2.1)≤9223372036854775807)∧(-9223372036854775808≤(q0.2.2.2.1)∧(q0.2.2.2.1)≤9223372036854775807)∧(LB (q0.2.2.2.2.1))∧((q0.2.2.2.2.2).length≤1000000)}
def nf (q0:Ge):List C:=[.agg (cl bC (q0.1.1)),.val (str (q0.1.2.1)),.agg [.val (.int .i64 (q0.1.2.2.1)),.val (.int .i64 (q0.1.2.2.2.1)),sl eC .no (q0.1.2.2.2.2.1),sl dC .no (q0.1.2.2.2.2.2)]]
noncomputable def tv (q0:Ge):C:= .tup [.val (str (dN (q0.1.1) (q0.1.2.1) (q0.1.2.2.1) (q0.1.2.2.2.1) (q0.1.2.2.2.2.1) (q0.1.2.2.2.2.2)).1),.val (.bool (dN (q0.1.1) (q0.1.2.1) (q0.1.2.2.1) (q0.1.2.2.2.1) (q0.1.2.2.2.2.1) (q0.1.2.2.2.2.2)).2.1),.val (nI (dN (q0.1.1) (q0.1.2.1) (q0.1.2.2.1) (q0.1.2.2.2.1) (q0.1.2.2.2.2.1) (q0.1.2.2.2.2.2)).2.2)]
noncomputable def x8:Nat→List C→Option C:=Sx.ext x7 29 (aV nf tv)
theorem MS (x:Ge):noRefs 0 (nf x) =true:=by
 simp only[nf,am,aw,ax,ay,ar,au,af,ag,an,Bool.and_self,Bool.and_true,aF,aC,aG,aH]
theorem Ve (x y:Ge)(h:nf x=nf y):tv x=tv y:=by
 simp only[nf,List.cons.injEq,C.val.injEq,C.agg.injEq,C.kp.injEq,C.fn.injEq,bh,aQ,aT,ba,a8,aR,a0,aU,Value.int.injEq,Value.bool.injEq,true_and,and_true] at h;simp only[tv,h]
theorem MT {gl:Nat→C}(hgn:∀g,ah 0 (gl g) =true)(hg0:gl 0= .kp (cl wC kc))(hg2:gl 2= .kp (cl wC kc))(M:Nat):CxOK (ao gl M x8):=aB (N:=0) (MR hgn hg0 hg2 0) MS fun q0=>Tz (MR hgn hg0 hg2 0) (by intros;apply Gd<;>first|assumption|omega) (by intros;(iterate 5 refine (aE (by decide) _).trans ?_);apply tn<;>first|assumption|omega) ((q0.1.1)) ((q0.1.2.1)) ((q0.1.2.2.1)) ((q0.1.2.2.2.1)) ((q0.1.2.2.2.2.1)) ((q0.1.2.2.2.2.2)) q0.2.1 q0.2.2.1 q0.2.2.2.1 q0.2.2.2.2.1 q0.2.2.2.2.2
theorem Rm:∀ (g:Nat)(xs:List C),noRefs 0 xs=false→x8 g xs=none:=aM Rl MS
theorem Rn (r:List UInt8)(k:List UInt8)(f:Int)(z:Int)(l:List ab)(S:List bL)(hc0:r.length=16)(hc1: -9223372036854775808≤f∧f≤9223372036854775807)(hc2: -9223372036854775808≤z∧z≤9223372036854775807)(hc3:LB l)(hc4:S.length≤1000000):x8 29 [.agg (cl bC r),.val (str k),.agg [.val (.int .i64 f),.val (.int .i64 z),sl eC .no l,sl dC .no S]] =some (.tup [.val (str (dN r k f z l S).1),.val (.bool (dN r k f z l S).2.1),.val (nI (dN r k f z l S).2.2)]):=
 (aK _).trans (aA Ve ⟨(r,k,f,z,l,S),⟨hc0,hc1,hc2,hc3,hc4⟩⟩)
abbrev Gf:= {q0: (List UInt8)×(List UInt8)×(List UInt8)×Int×Int×(List ab)×(List bL) // ((q0.1).length=16)∧(-9223372036854775808≤(q0.2.2.2.1)∧(q0.2.2.2.1)≤9223372036854775807)∧(-9223372036854775808≤(q0.2.2.2.2.1)∧(q0.2.2.2.2.1)≤9223372036854775807)∧(LB (q0.2.2.2.2.2.1))∧((q0.2.2.2.2.2.2).length≤1000000)}
def ng (q0:Gf):List C:=[.agg (cl bC (q0.1.1)),.val (str (q0.1.2.1)),.val (str (q0.1.2.2.1)),.agg [.val (.int .i64 (q0.1.2.2.2.1)),.val (.int .i64 (q0.1.2.2.2.2.1)),sl eC .no (q0.1.2.2.2.2.2.1),sl dC .no (q0.1.2.2.2.2.2.2)]]
noncomputable def tw (q0:Gf):C:= .tup [sl eC .no (fK (q0.1.1) (q0.1.2.1) (q0.1.2.2.1) (q0.1.2.2.2.1) (q0.1.2.2.2.2.1) (q0.1.2.2.2.2.2.1) (q0.1.2.2.2.2.2.2)).1,.val (nI (fK (q0.1.1) (q0.1.2.1) (q0.1.2.2.1) (q0.1.2.2.2.1) (q0.1.2.2.2.2.1) (q0.1.2.2.2.2.2.1) (q0.1.2.2.2.2.2.2)).2)]
noncomputable def x9:Nat→List C→Option C:=Sx.ext x8 32 (aV ng tw)
theorem MU (x:Gf):noRefs 0 (ng x) =true:=by
 simp only[ng,am,aw,ax,ay,ar,au,af,ag,an,Bool.and_self,Bool.and_true,aF,aC,aG,aH]
theorem Vf (x y:Gf)(h:ng x=ng y):tw x=tw y:=by
 simp only[ng,List.cons.injEq,C.val.injEq,C.agg.injEq,C.kp.injEq,C.fn.injEq,bh,aQ,aT,ba,a8,aR,a0,aU,Value.int.injEq,Value.bool.injEq,true_and,and_true] at h;simp only[tw,h]
theorem MV {gl:Nat→C}(hgn:∀g,ah 0 (gl g) =true)(hg0:gl 0= .kp (cl wC kc))(hg2:gl 2= .kp (cl wC kc))(M:Nat):CxOK (ao gl M x9):=aB (N:=0) (MT hgn hg0 hg2 0) MU fun q0=>TA (MT hgn hg0 hg2 0) (by intros;(iterate 1 refine (aE (by decide) _).trans ?_);apply Gd<;>first|assumption|omega) (by intros;(iterate 6 refine (aE (by decide) _).trans ?_);apply tn<;>first|assumption|omega) (by intros;(iterate 5 refine (aE (by decide) _).trans ?_);apply F6<;>first|assumption|omega) ((q0.1.1)) ((q0.1.2.1)) ((q0.1.2.2.1)) ((q0.1.2.2.2.1)) ((q0.1.2.2.2.2.1)) ((q0.1.2.2.2.2.2.1)) ((q0.1.2.2.2.2.2.2)) q0.2.1 q0.2.2.1 q0.2.2.2.1 q0.2.2.2.2.1 q0.2.2.2.2.2
theorem Ro:∀ (g:Nat)(xs:List C),noRefs 0 xs=false→x9 g xs=none:=aM Rm MU
theorem Rp (r:List UInt8)(x:List UInt8)(y:List UInt8)(f:Int)(z:Int)(l:List ab)(S:List bL)(hc0:r.length=16)(hc1: -9223372036854775808≤f∧f≤9223372036854775807)(hc2: -9223372036854775808≤z∧z≤9223372036854775807)(hc3:LB l)(hc4:S.length≤1000000):x9 32 [.agg (cl bC r),.val (str x),.val (str y),.agg [.val (.int .i64 f),.val (.int .i64 z),sl eC .no l,sl dC .no S]] =some (.tup [sl eC .no (fK r x y f z l S).1,.val (nI (fK r x y f z l S).2)]):=
 (aK _).trans (aA Vf ⟨(r,x,y,f,z,l,S),⟨hc0,hc1,hc2,hc3,hc4⟩⟩)
abbrev Gg:= {q0:Unit // True}
def pf (q0:Gg):List C:=([]:List C)
noncomputable def ya (q0:Gg):C:=sl eC .full bK
noncomputable def yb:Nat→List C→Option C:=Sx.ext x9 55 (aV pf ya)
theorem MW (x:Gg):noRefs 0 (pf x) =true:=by
 simp only[pf,am,aw,ax,ay,ar,au,af,ag,an,Bool.and_self,Bool.and_true,aF,aC,aG,aH]
theorem Vg (x y:Gg)(h:pf x=pf y):ya x=ya y:=by
 rfl
theorem MX {gl:Nat→C}(hgn:∀g,ah 0 (gl g) =true)(hg0:gl 0= .kp (cl wC kc))(hg2:gl 2= .kp (cl wC kc))(M:Nat):CxOK (ao gl M yb):=aB (N:=0) (MV hgn hg0 hg2 0) MW fun q0=>TF (MV hgn hg0 hg2 0)
theorem Rq:∀ (g:Nat)(xs:List C),noRefs 0 xs=false→yb g xs=none:=aM Ro MW
theorem Rr:yb 55 ([]:List C) =some (sl eC .full bK):=
 (aK _).trans (aA Vg ⟨(),trivial⟩)
abbrev Gi:= {q0:Unit // True}
def pg (q0:Gi):List C:=([]:List C)
noncomputable def yd (q0:Gi):C:= .val (.bool true)
noncomputable def Cq:Nat→List C→Option C:=Sx.ext yb 19 (aV pg yd)
theorem MY (x:Gi):noRefs 0 (pg x) =true:=by
 simp only[pg,am,aw,ax,ay,ar,au,af,ag,an,Bool.and_self,Bool.and_true,aF,aC,aG,aH]
theorem Vh (x y:Gi)(h:pg x=pg y):yd x=yd y:=by
 rfl
theorem Vi {gl:Nat→C}(hgn:∀g,ah 0 (gl g) =true)(hg0:gl 0= .kp (cl wC kc))(hg2:gl 2= .kp (cl wC kc))(M:Nat):CxOK (ao gl M Cq):=aB (N:=0) (MX hgn hg0 hg2 0) MY fun q0=>TG (MX hgn hg0 hg2 0) (by intros;(iterate 26 refine (aE (by decide) _).trans ?_);apply FB<;>first|assumption|omega) (by intros;(iterate 5 refine (aE (by decide) _).trans ?_);apply Rj<;>first|assumption|omega) (by intros;(iterate 4 refine (aE (by decide) _).trans ?_);apply Rk<;>first|assumption|omega) (by intros;(iterate 2 refine (aE (by decide) _).trans ?_);apply Rn<;>first|assumption|omega) (by intros;(iterate 1 refine (aE (by decide) _).trans ?_);apply Rp<;>first|assumption|omega) (by intros;apply Rr<;>first|assumption|omega)
theorem Rs:∀ (g:Nat)(xs:List C),noRefs 0 xs=false→Cq g xs=none:=aM Rq MY
theorem Ru:Cq 19 ([]:List C) =some (.val (.bool true)):=
 (aK _).trans (aA Vh ⟨(),trivial⟩)
theorem law3 {gl:Nat→C}(hgn:∀g,ah 0 (gl g) =true)(hg0:gl 0= .kp (cl wC kc))(hg2:gl 2= .kp (cl wC kc))(l:List Int)(raw:List ab)(w:Int)(hc0:LI l)(hc1:raw.length< 9223372036854775808)(hc2:∀i,i< raw.length→(gt raw i).1.length< 9223372036854775808∧(gt raw i).2.length< 9223372036854775808)(hc3: -9223372036854775808≤w∧w≤9223372036854775807):FC Tryd.prog gl 3 [sl iC .no l,sl eC .no raw,.val (.int .i64 w)] [] (.val (.bool true)) []:=VM (Vi hgn hg0 hg2 0) Rs (by intros;(iterate 50 refine (aE (by decide) _).trans ?_);apply Ui<;>first|assumption|omega) (by intros;(iterate 48 refine (aE (by decide) _).trans ?_);apply Uo<;>first|assumption|omega) (by intros;(iterate 27 refine (aE (by decide) _).trans ?_);apply FB<;>first|assumption|omega) (by intros;(iterate 26 refine (aE (by decide) _).trans ?_);apply QN<;>first|assumption|omega) (by intros;(iterate 14 refine (aE (by decide) _).trans ?_);apply Q7<;>first|assumption|omega) (by intros;(iterate 44 refine (aE (by decide) _).trans ?_);apply o9<;>first|assumption|omega) (by intros;(iterate 15 refine (aE (by decide) _).trans ?_);apply FT<;>first|assumption|omega) (by intros;(iterate 53 refine (aE (by decide) _).trans ?_);apply Ln<;>first|assumption|omega) (by intros;(iterate 13 refine (aE (by decide) _).trans ?_);apply Q9<;>first|assumption|omega) (by intros;apply Ru<;>first|assumption|omega) (l) (raw) (w) hc0 hc1 hc2 hc3
end Go.Sx.T3
