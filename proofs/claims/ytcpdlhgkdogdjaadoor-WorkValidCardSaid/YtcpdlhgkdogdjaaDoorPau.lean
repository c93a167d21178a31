/-
   And what follows.
-/
import Derived.Test.YtcpdlhgkdogdjaaDoorRows
import Derived.Test.YtcpdlhgkdogdjaaDoorCards
import Derived.Test.YtcpdlhgkdogdjaaDoorTie
import Derived.SevenTiedAt
import Derived.Test.YtcpdlhgkdogdjaaDoorPal
import Derived.Test.YtcpdlhgkdogdjaaDoorPam
import Derived.Test.YtcpdlhgkdogdjaaDoorPan
import Derived.Test.YtcpdlhgkdogdjaaDoorPao
import Derived.Test.YtcpdlhgkdogdjaaDoorPap
import Derived.Test.YtcpdlhgkdogdjaaDoorPas
import Derived.Test.YtcpdlhgkdogdjaaDoorPat
import Derived.Test.YtcpdlhgkdogdjaaDoorPai
set_option linter.unusedSimpArgs false
set_option linter.unusedVariables false
namespace Go.Sx.T3
open Go.RowKit Go.Proofs Go.Sx
def QA:Nat→List C→Option C:=fun _ _=>none
theorem TY {gl:Nat→C}(hgn:∀g,af 0 (gl g) =true)(hg0:gl 0= .kp (iD (-1,0,0)))(M:Nat):CxOK (aD gl M QA):=CxOK.zero hgn
theorem VC:∀ (g:Nat)(xs:List C),dS xs=true→QA g xs=none:=Er
abbrev D1:= {q0:Int×Nat // (-9223372036854775808≤(q0.1)∧(q0.1)≤9223372036854775807∧0< (q0.2)∧(q0.2)≤9223372036854775807)}
def rU (q0:D1):List C:=[.val (.int .i64 (q0.1.1)),.val (nI (q0.1.2))]
noncomputable def y7 (q0:D1):C:= .val (nI (aa (q0.1.1) (q0.1.2)))
noncomputable def CN:Nat→List C→Option C:=Sx.ext QA 19 (bO rU y7)
theorem TZ (x:D1):noRefs 0 (rU x) =true:=by
 simp only[rU,aF,aJ,aK,aW,ax,au,aq,ay,aE,Bool.and_self,Bool.and_true,aX,aH]
theorem Xf (x y:D1)(h:rU x=rU y):y7 x=y7 y:=by
 simp only[rU,List.cons.injEq,C.val.injEq,C.agg.injEq,C.kp.injEq,C.fn.injEq,bh,bP,bW,bT,bq,bR,bJ,cm,cn,Value.int.injEq,Value.bool.injEq,true_and,and_true] at h;simp only[y7,h]
theorem T1 {gl:Nat→C}(hgn:∀g,af 0 (gl g) =true)(hg0:gl 0= .kp (iD (-1,0,0)))(M:Nat):CxOK (aD gl M CN):=aM (N:=0) (TY hgn hg0 0) TZ fun q0=>Uu (TY hgn hg0 0) ((q0.1.1)) ((q0.1.2)) q0.2
theorem VD:∀ (g:Nat)(xs:List C),dS xs=true→CN g xs=none:=eh VC TZ
theorem QB (n:Int)(m:Nat)(hc0: -9223372036854775808≤n∧n≤9223372036854775807∧0< m∧m≤9223372036854775807):CN 19 [.val (.int .i64 n),.val (nI m)] =some (.val (nI (aa n m))):=
 (bd _).trans (aL Xf ⟨(n,m),hc0⟩)
abbrev D2:= {q0: (List Int)×Nat×Nat // (LI (q0.1))∧((q0.2.1)≤1000000)∧(0< (q0.2.2)∧(q0.2.2)≤9223372036854775807)}
def rV (q0:D2):List C:=[sl iC .no (q0.1.1),.val (nI (q0.1.2.1)),.val (nI (q0.1.2.2))]
noncomputable def y8 (q0:D2):C:= .val (nI (cK (q0.1.1) (q0.1.2.1) (q0.1.2.2)))
noncomputable def CO:Nat→List C→Option C:=Sx.ext CN 65 (bO rV y8)
theorem T6 (x:D2):noRefs 0 (rV x) =true:=by
 simp only[rV,aF,aJ,aK,aW,ax,au,aq,ay,aE,Bool.and_self,Bool.and_true,aX,aH]
theorem Xg (x y:D2)(h:rV x=rV y):y8 x=y8 y:=by
 simp only[rV,List.cons.injEq,C.val.injEq,C.agg.injEq,C.kp.injEq,C.fn.injEq,bh,bP,bW,bT,bq,bR,bJ,cm,cn,Value.int.injEq,Value.bool.injEq,true_and,and_true] at h;simp only[y8,h]
theorem T7 {gl:Nat→C}(hgn:∀g,af 0 (gl g) =true)(hg0:gl 0= .kp (iD (-1,0,0)))(M:Nat):CxOK (aD gl M CO):=aM (N:=0) (T1 hgn hg0 0) T6 fun q0=>Uv (T1 hgn hg0 0) (by intros;apply QB<;>first|assumption|omega) ((q0.1.1)) ((q0.1.2.1)) ((q0.1.2.2)) q0.2.1 q0.2.2.1 q0.2.2.2
theorem VE:∀ (g:Nat)(xs:List C),dS xs=true→CO g xs=none:=eh VD T6
theorem Gy (l:List Int)(i:Nat)(m:Nat)(hc0:LI l)(hc1:i≤1000000)(hc2:0< m∧m≤9223372036854775807):CO 65 [sl iC .no l,.val (nI i),.val (nI m)] =some (.val (nI (cK l i m))):=
 (bd _).trans (aL Xg ⟨(l,i,m),⟨hc0,hc1,hc2⟩⟩)
abbrev D3:= {q0: (List UInt8) // ((q0).length≤1000000)}
def rW (q0:D3):List C:=[.val (str (q0.1))]
noncomputable def y9 (q0:D3):C:= .val (str (mE (q0.1)))
noncomputable def CP:Nat→List C→Option C:=Sx.ext CO 121 (bO rW y9)
theorem T8 (x:D3):noRefs 0 (rW x) =true:=by
 simp only[rW,aF,aJ,aK,aW,ax,au,aq,ay,aE,Bool.and_self,Bool.and_true,aX,aH]
theorem Xh (x y:D3)(h:rW x=rW y):y9 x=y9 y:=by
 simp only[rW,List.cons.injEq,C.val.injEq,C.agg.injEq,C.kp.injEq,C.fn.injEq,bh,bP,bW,bT,bq,bR,bJ,cm,cn,Value.int.injEq,Value.bool.injEq,true_and,and_true] at h;simp only[y9,h]
theorem T9 {gl:Nat→C}(hgn:∀g,af 0 (gl g) =true)(hg0:gl 0= .kp (iD (-1,0,0)))(M:Nat):CxOK (aD gl M CP):=aM (N:=0) (T7 hgn hg0 0) T8 fun q0=>Ry (T7 hgn hg0 0) ((q0.1)) q0.2
theorem VF:∀ (g:Nat)(xs:List C),dS xs=true→CP g xs=none:=eh VE T8
theorem VG (w:List UInt8)(hc0:w.length≤1000000):CP 121 [.val (str w)] =some (.val (str (mE w))):=
 (bd _).trans (aL Xh ⟨(w),hc0⟩)
abbrev D4:= {q0: (List UInt8)×Nat // ((q0.1).length≤1000000)∧((q0.2)≤1000000)}
def rX (q0:D4):List C:=[.val (str (q0.1.1)),.val (nI (q0.1.2))]
noncomputable def za (q0:D4):C:= .val (str (kY (q0.1.1) (q0.1.2)))
noncomputable def CQ:Nat→List C→Option C:=Sx.ext CP 101 (bO rX za)
theorem Ua (x:D4):noRefs 0 (rX x) =true:=by
 simp only[rX,aF,aJ,aK,aW,ax,au,aq,ay,aE,Bool.and_self,Bool.and_true,aX,aH]
theorem Xi (x y:D4)(h:rX x=rX y):za x=za y:=by
 simp only[rX,List.cons.injEq,C.val.injEq,C.agg.injEq,C.kp.injEq,C.fn.injEq,bh,bP,bW,bT,bq,bR,bJ,cm,cn,Value.int.injEq,Value.bool.injEq,true_and,and_true] at h;simp only[za,h]
theorem Ub {gl:Nat→C}(hgn:∀g,af 0 (gl g) =true)(hg0:gl 0= .kp (iD (-1,0,0)))(M:Nat):CxOK (aD gl M CQ):=aM (N:=0) (T9 hgn hg0 0) Ua fun q0=>Rz (T9 hgn hg0 0) (by intros;apply VG<;>first|assumption|omega) ((q0.1.1)) ((q0.1.2)) q0.2.1 q0.2.2
theorem VH:∀ (g:Nat)(xs:List C),dS xs=true→CQ g xs=none:=eh VF Ua
theorem VI (w:List UInt8)(n:Nat)(hc0:w.length≤1000000)(hc1:n≤1000000):CQ 101 [.val (str w),.val (nI n)] =some (.val (str (kY w n))):=
 (bd _).trans (aL Xi ⟨(w,n),⟨hc0,hc1⟩⟩)
abbrev D5:= {q0: (List Int)×Nat // (LI (q0.1))∧((q0.2)≤1000)}
def rY (q0:D5):List C:=[sl iC .no (q0.1.1),.val (nI (q0.1.2))]
noncomputable def zb (q0:D5):C:= .val (str (fR (q0.1.1) (q0.1.2)))
noncomputable def CR:Nat→List C→Option C:=Sx.ext CQ 66 (bO rY zb)
theorem Uc (x:D5):noRefs 0 (rY x) =true:=by
 simp only[rY,aF,aJ,aK,aW,ax,au,aq,ay,aE,Bool.and_self,Bool.and_true,aX,aH]
theorem Xj (x y:D5)(h:rY x=rY y):zb x=zb y:=by
 simp only[rY,List.cons.injEq,C.val.injEq,C.agg.injEq,C.kp.injEq,C.fn.injEq,bh,bP,bW,bT,bq,bR,bJ,cm,cn,Value.int.injEq,Value.bool.injEq,true_and,and_true] at h;simp only[zb,h]
theorem Ud {gl:Nat→C}(hgn:∀g,af 0 (gl g) =true)(hg0:gl 0= .kp (iD (-1,0,0)))(M:Nat):CxOK (aD gl M CR):=aM (N:=0) (Ub hgn hg0 0) Uc fun q0=>Uw (Ub hgn hg0 0) (by intros;(iterate 2 refine (aj (by decide) _).trans ?_);apply Gy<;>first|assumption|omega) (by intros;apply VI<;>first|assumption|omega) ((q0.1.1)) ((q0.1.2)) q0.2.1 q0.2.2
theorem VJ:∀ (g:Nat)(xs:List C),dS xs=true→CR g xs=none:=eh VH Uc
theorem QC (l:List Int)(k:Nat)(hc0:LI l)(hc1:k≤1000):CR 66 [sl iC .no l,.val (nI k)] =some (.val (str (fR l k))):=
 (bd _).trans (aL Xj ⟨(l,k),⟨hc0,hc1⟩⟩)
abbrev D6:= {q0:Unit // True}
def vO (q0:D6):List C:=[]
noncomputable def Gz (q0:D6):C:= .agg [.val (.int .i64 (-1)),.val (nI 0),.val (nI 0)]
noncomputable def CS:Nat→List C→Option C:=Sx.ext CR 67 (bO vO Gz)
theorem Ue (x:D6):noRefs 0 (vO x) =true:=by
 simp only[vO,aF,aJ,aK,aW,ax,au,aq,ay,aE,Bool.and_self,Bool.and_true,aX,aH]
theorem Xk (x y:D6)(h:vO x=vO y):Gz x=Gz y:=by
 rfl
theorem Uf {gl:Nat→C}(hgn:∀g,af 0 (gl g) =true)(hg0:gl 0= .kp (iD (-1,0,0)))(M:Nat):CxOK (aD gl M CS):=aM (N:=0) (Ud hgn hg0 0) Ue fun q0=>UP (Ud hgn hg0 0)
theorem VK:∀ (g:Nat)(xs:List C),dS xs=true→CS g xs=none:=eh VJ Ue
theorem QD:CS 67 [] =some (.agg [.val (.int .i64 (-1)),.val (nI 0),.val (nI 0)]):=
 (bd _).trans (aL Xk ⟨(),trivial⟩)
abbrev D7:= {q0: (List Int)×Nat×ID // (LI (q0.1))∧((q0.2.1)≤900)}
def rZ (q0:D7):List C:=[sl iC .no (q0.1.1),.val (nI (q0.1.2.1)),.agg (iD (q0.1.2.2))]
noncomputable def zd (q0:D7):C:= .agg (pC (aY (q0.1.1) (q0.1.2.1) (q0.1.2.2)))
noncomputable def CT:Nat→List C→Option C:=Sx.ext CS 21 (bO rZ zd)
theorem Ug (x:D7):noRefs 0 (rZ x) =true:=by
 simp only[rZ,aF,aJ,aK,aW,ax,au,aq,ay,aE,Bool.and_self,Bool.and_true,aX,aH]
theorem Xl (x y:D7)(h:rZ x=rZ y):zd x=zd y:=by
 simp only[rZ,List.cons.injEq,C.val.injEq,C.agg.injEq,C.kp.injEq,C.fn.injEq,bh,bP,bW,bT,bq,bR,bJ,cm,cn,Value.int.injEq,Value.bool.injEq,true_and,and_true] at h;simp only[zd,h]
theorem Uh {gl:Nat→C}(hgn:∀g,af 0 (gl g) =true)(hg0:gl 0= .kp (iD (-1,0,0)))(M:Nat):CxOK (aD gl M CT):=aM (N:=0) (Uf hgn hg0 0) Ug fun q0=>UQ (Uf hgn hg0 0) (by intros;(iterate 4 refine (aj (by decide) _).trans ?_);apply Gy<;>first|assumption|omega) (by intros;(iterate 1 refine (aj (by decide) _).trans ?_);apply QC<;>first|assumption|omega) (by intros;apply QD<;>first|assumption|omega) ((q0.1.1)) ((q0.1.2.1)) ((q0.1.2.2)) q0.2.1 q0.2.2
theorem VL:∀ (g:Nat)(xs:List C),dS xs=true→CT g xs=none:=eh VK Ug
theorem QE (l:List Int)(k:Nat)(id:ID)(hc0:LI l)(hc1:k≤900):CT 21 [sl iC .no l,.val (nI k),.agg (iD id)] =some (.agg (pC (aY l k id))):=
 (bd _).trans (aL Xl ⟨(l,k,id),⟨hc0,hc1⟩⟩)
abbrev D8:= {q0: (List Int) // (LI (q0))}
def r8 (q0:D8):List C:=[sl iC .no (q0.1)]
noncomputable def ze (q0:D8):C:= .agg [sl vC .no (ib (q0.1))]
noncomputable def CU:Nat→List C→Option C:=Sx.ext CT 18 (bO r8 ze)
theorem Ui (x:D8):noRefs 0 (r8 x) =true:=by
 simp only[r8,aF,aJ,aK,aW,ax,au,aq,ay,aE,Bool.and_self,Bool.and_true,aX,aH]
theorem Xm (x y:D8)(h:r8 x=r8 y):ze x=ze y:=by
 simp only[r8,List.cons.injEq,C.val.injEq,C.agg.injEq,C.kp.injEq,C.fn.injEq,bh,bP,bW,bT,bq,bR,bJ,cm,cn,Value.int.injEq,Value.bool.injEq,true_and,and_true] at h;simp only[ze,h]
theorem Uj {gl:Nat→C}(hgn:∀g,af 0 (gl g) =true)(hg0:gl 0= .kp (iD (-1,0,0)))(M:Nat):CxOK (aD gl M CU):=aM (N:=0) (Uh hgn hg0 0) Ui fun q0=>UR (Uh hgn hg0 0) (by intros;(iterate 5 refine (aj (by decide) _).trans ?_);apply Gy<;>first|assumption|omega) (by intros;(iterate 2 refine (aj (by decide) _).trans ?_);apply QC<;>first|assumption|omega) (by intros;apply QE<;>first|assumption|omega) ((q0.1)) q0.2
theorem VM:∀ (g:Nat)(xs:List C),dS xs=true→CU g xs=none:=eh VL Ui
theorem VN (l:List Int)(hc0:LI l):CU 18 [sl iC .no l] =some (.agg [sl vC .no (ib l)]):=
 (bd _).trans (aL Xm ⟨(l),hc0⟩)
abbrev D9:= {q0:ID×ID // True}
def r9 (q0:D9):List C:=[.agg (iD (q0.1.1)),.agg (iD (q0.1.2))]
noncomputable def zf (q0:D9):C:= .val (.bool (decide ((q0.1.1) = (q0.1.2))))
noncomputable def CV:Nat→List C→Option C:=Sx.ext CU 60 (bO r9 zf)
theorem Uk (x:D9):noRefs 0 (r9 x) =true:=by
 simp only[r9,aF,aJ,aK,aW,ax,au,aq,ay,aE,Bool.and_self,Bool.and_true,aX,aH]
theorem Xn (x y:D9)(h:r9 x=r9 y):zf x=zf y:=by
 simp only[r9,List.cons.injEq,C.val.injEq,C.agg.injEq,C.kp.injEq,C.fn.injEq,bh,bP,bW,bT,bq,bR,bJ,cm,cn,Value.int.injEq,Value.bool.injEq,true_and,and_true] at h;simp only[zf,h]
theorem Ul {gl:Nat→C}(hgn:∀g,af 0 (gl g) =true)(hg0:gl 0= .kp (iD (-1,0,0)))(M:Nat):CxOK (aD gl M CV):=aM (N:=0) (Uj hgn hg0 0) Uk fun q0=>UM (Uj hgn hg0 0) ((q0.1.1)) ((q0.1.2))
theorem VO:∀ (g:Nat)(xs:List C),dS xs=true→CV g xs=none:=eh VM Uk
theorem zg (a:ID)(b:ID):CV 60 [.agg (iD a),.agg (iD b)] =some (.val (.bool (decide (a=b)))):=
 (bd _).trans (aL Xn ⟨(a,b),trivial⟩)
abbrev Hk:= {q0:ah×ID // (WB (q0.1))}
def nX (q0:Hk):List C:=[.agg [sl vC .no (q0.1.1)],.agg (iD (q0.1.2))]
noncomputable def tc (q0:Hk):C:= .tup [.agg [.val (nI (dI (q0.1.1) (q0.1.2)).1.1),.val (nI (dI (q0.1.1) (q0.1.2)).1.2.1),.val (nI (dI (q0.1.1) (q0.1.2)).1.2.2)],.val (.bool (dI (q0.1.1) (q0.1.2)).2)]
noncomputable def vP:Nat→List C→Option C:=Sx.ext CV 33 (bO nX tc)
theorem QF (x:Hk):noRefs 0 (nX x) =true:=by
 simp only[nX,aF,aJ,aK,aW,ax,au,aq,ay,aE,Bool.and_self,Bool.and_true,aX,aH]
theorem VP (x y:Hk)(h:nX x=nX y):tc x=tc y:=by
 simp only[nX,List.cons.injEq,C.val.injEq,C.agg.injEq,C.kp.injEq,C.fn.injEq,bh,bP,bW,bT,bq,bR,bJ,cm,cn,Value.int.injEq,Value.bool.injEq,true_and,and_true] at h;simp only[tc,h]
theorem QG {gl:Nat→C}(hgn:∀g,af 0 (gl g) =true)(hg0:gl 0= .kp (iD (-1,0,0)))(M:Nat):CxOK (aD gl M vP):=aM (N:=0) (Ul hgn hg0 0) QF fun q0=>Vo (Ul hgn hg0 0) (by intros;apply zg<;>first|assumption|omega) ((q0.1.1)) ((q0.1.2)) q0.2
theorem S6:∀ (g:Nat)(xs:List C),dS xs=true→vP g xs=none:=eh VO QF
theorem S7 (w:ah)(id:ID)(hc0:WB w):vP 33 [.agg [sl vC .no w],.agg (iD id)] =some (.tup [.agg [.val (nI (dI w id).1.1),.val (nI (dI w id).1.2.1),.val (nI (dI w id).1.2.2)],.val (.bool (dI w id).2)]):=
 (bd _).trans (aL VP ⟨(w,id),hc0⟩)
abbrev Hl:= {q0:ah×Int×Int // (WG (q0.1))∧(-9223372036854775808≤(q0.2.1)∧(q0.2.1)≤9223372036854775807)∧(-9223372036854775808≤(q0.2.2)∧(q0.2.2)≤9223372036854775807)}
def nY (q0:Hl):List C:=[.agg [sl vC .no (q0.1.1)],.val (.int .i64 (q0.1.2.1)),.val (.int .i64 (q0.1.2.2))]
noncomputable def te (q0:Hl):C:= .agg [sl vC .no (ao (q0.1.1) (q0.1.2.1) (q0.1.2.2))]
noncomputable def vQ:Nat→List C→Option C:=Sx.ext vP 51 (bO nY te)
theorem QH (x:Hl):noRefs 0 (nY x) =true:=by
 simp only[nY,aF,aJ,aK,aW,ax,au,aq,ay,aE,Bool.and_self,Bool.and_true,aX,aH]
theorem VQ (x y:Hl)(h:nY x=nY y):te x=te y:=by
 simp only[nY,List.cons.injEq,C.val.injEq,C.agg.injEq,C.kp.injEq,C.fn.injEq,bh,bP,bW,bT,bq,bR,bJ,cm,cn,Value.int.injEq,Value.bool.injEq,true_and,and_true] at h;simp only[te,h]
theorem QI {gl:Nat→C}(hgn:∀g,af 0 (gl g) =true)(hg0:gl 0= .kp (iD (-1,0,0)))(M:Nat):CxOK (aD gl M vQ):=aM (N:=0) (QG hgn hg0 0) QH fun q0=>ST (QG hgn hg0 0) (by intros;(iterate 9 refine (aj (by decide) _).trans ?_);apply QB<;>first|assumption|omega) (by intros;(iterate 3 refine (aj (by decide) _).trans ?_);apply QE<;>first|assumption|omega) (by intros;apply S7<;>first|assumption|omega) ((q0.1.1)) ((q0.1.2.1)) ((q0.1.2.2)) q0.2.1 q0.2.2.1 q0.2.2.2
theorem S8:∀ (g:Nat)(xs:List C),dS xs=true→vQ g xs=none:=eh S6 QH
theorem S9 (w:ah)(how:Int)(y:Int)(hc0:WG w)(hc1: -9223372036854775808≤how∧how≤9223372036854775807)(hc2: -9223372036854775808≤y∧y≤9223372036854775807):vQ 51 [.agg [sl vC .no w],.val (.int .i64 how),.val (.int .i64 y)] =some (.agg [sl vC .no (ao w how y)]):=
 (bd _).trans (aL VQ ⟨(w,how,y),⟨hc0,hc1,hc2⟩⟩)
abbrev Hm:= {q0: (List Int)×Int×Int // (LI (q0.1))∧((-9223372036854775808≤(q0.2.1)∧(q0.2.1)≤9223372036854775807))∧((-9223372036854775808≤(q0.2.2)∧(q0.2.2)≤9223372036854775807))}
def nZ (q0:Hm):List C:=[sl iC .no (q0.1.1),.val (.int .i64 (q0.1.2.1)),.val (.int .i64 (q0.1.2.2))]
noncomputable def tf (q0:Hm):C:=sl k8 .full (gg (q0.1.1) (q0.1.2.1) (q0.1.2.2))
noncomputable def vR:Nat→List C→Option C:=Sx.ext vQ 11 (bO nZ tf)
theorem QJ (x:Hm):noRefs 0 (nZ x) =true:=by
 simp only[nZ,aF,aJ,aK,aW,ax,au,aq,ay,aE,Bool.and_self,Bool.and_true,aX,aH]
theorem VR (x y:Hm)(h:nZ x=nZ y):tf x=tf y:=by
 simp only[nZ,List.cons.injEq,C.val.injEq,C.agg.injEq,C.kp.injEq,C.fn.injEq,bh,bP,bW,bT,bq,bR,bJ,cm,cn,Value.int.injEq,Value.bool.injEq,true_and,and_true] at h;simp only[tf,h]
theorem QK {gl:Nat→C}(hgn:∀g,af 0 (gl g) =true)(hg0:gl 0= .kp (iD (-1,0,0)))(M:Nat):CxOK (aD gl M vR):=aM (N:=0) (QI hgn hg0 0) QJ fun q0=>Vr (QI hgn hg0 0) (by intros;(iterate 3 refine (aj (by decide) _).trans ?_);apply VN<;>first|assumption|omega) (by intros;apply S9<;>first|assumption|omega) ((q0.1.1)) ((q0.1.2.1)) ((q0.1.2.2)) q0.2.1 q0.2.2.1 q0.2.2.2
theorem Ta:∀ (g:Nat)(xs:List C),dS xs=true→vR g xs=none:=eh S8 QJ
theorem Tb (l:List Int)(how:Int)(y:Int)(hc0:LI l)(hc1: (-9223372036854775808≤how∧how≤9223372036854775807))(hc2: (-9223372036854775808≤y∧y≤9223372036854775807)):vR 11 [sl iC .no l,.val (.int .i64 how),.val (.int .i64 y)] =some (sl k8 .full (gg l how y)):=
 (bd _).trans (aL VR ⟨(l,how,y),⟨hc0,hc1,hc2⟩⟩)
abbrev Ho:= {q0:ah // (WS (q0))}
def n4 (q0:Ho):List C:=[.agg [sl vC .no (q0.1)]]
noncomputable def th (q0:Ho):C:= .val (.bool (c7 (q0.1)))
noncomputable def vS:Nat→List C→Option C:=Sx.ext vR 52 (bO n4 th)
theorem QL (x:Ho):noRefs 0 (n4 x) =true:=by
 simp only[n4,aF,aJ,aK,aW,ax,au,aq,ay,aE,Bool.and_self,Bool.and_true,aX,aH]
theorem VS (x y:Ho)(h:n4 x=n4 y):th x=th y:=by
 simp only[n4,List.cons.injEq,C.val.injEq,C.agg.injEq,C.kp.injEq,C.fn.injEq,bh,bP,bW,bT,bq,bR,bJ,cm,cn,Value.int.injEq,Value.bool.injEq,true_and,and_true] at h;simp only[th,h]
theorem QM {gl:Nat→C}(hgn:∀g,af 0 (gl g) =true)(hg0:gl 0= .kp (iD (-1,0,0)))(M:Nat):CxOK (aD gl M vS):=aM (N:=0) (QK hgn hg0 0) QL fun q0=>UU (QK hgn hg0 0) ((q0.1)) q0.2
theorem Tc:∀ (g:Nat)(xs:List C),dS xs=true→vS g xs=none:=eh Ta QL
theorem Td (w:ah)(hc0:WS w):vS 52 [.agg [sl vC .no w]] =some (.val (.bool (c7 w))):=
 (bd _).trans (aL VS ⟨(w),hc0⟩)
abbrev Hq:= {q0:ah // True}
def n5 (q0:Hq):List C:=[.agg [sl vC .no (q0.1)]]
noncomputable def ti (q0:Hq):C:= .fn 93 [.kp [sl vC .no (q0.1)]]
noncomputable def vT:Nat→List C→Option C:=Sx.ext vS 53 (bO n5 ti)
theorem QN (x:Hq):noRefs 0 (n5 x) =true:=by
 simp only[n5,aF,aJ,aK,aW,ax,au,aq,ay,aE,Bool.and_self,Bool.and_true,aX,aH]
theorem VT (x y:Hq)(h:n5 x=n5 y):ti x=ti y:=by
 simp only[n5,List.cons.injEq,C.val.injEq,C.agg.injEq,C.kp.injEq,C.fn.injEq,bh,bP,bW,bT,bq,bR,bJ,cm,cn,Value.int.injEq,Value.bool.injEq,true_and,and_true] at h;simp only[ti,h]
theorem vy {gl:Nat→C}(hgn:∀g,af 0 (gl g) =true)(hg0:gl 0= .kp (iD (-1,0,0)))(M:Nat):CxOK (aD gl M vT):=aM (N:=0) (QM hgn hg0 0) QN fun q0=>Vs (QM hgn hg0 0) ((q0.1))
theorem Te:∀ (g:Nat)(xs:List C),dS xs=true→vT g xs=none:=eh Tc QN
theorem zh (w:ah):vT 53 [.agg [sl vC .no w]] =some (.fn 93 [.kp [sl vC .no w]]):=
 (bd _).trans (aL VT ⟨(w),trivial⟩)
abbrev Hr:= {q0:ID // True}
def n6 (q0:Hr):List C:=[.agg (iD (q0.1))]
noncomputable def tj (q0:Hr):C:= .val (.bool (gz (q0.1)))
noncomputable def vU:Nat→List C→Option C:=Sx.ext vT 94 (bO n6 tj)
theorem QO (x:Hr):noRefs 0 (n6 x) =true:=by
 simp only[n6,aF,aJ,aK,aW,ax,au,aq,ay,aE,Bool.and_self,Bool.and_true,aX,aH]
theorem VU (x y:Hr)(h:n6 x=n6 y):tj x=tj y:=by
 simp only[n6,List.cons.injEq,C.val.injEq,C.agg.injEq,C.kp.injEq,C.fn.injEq,bh,bP,bW,bT,bq,bR,bJ,cm,cn,Value.int.injEq,Value.bool.injEq,true_and,and_true] at h;simp only[tj,h]
theorem QP {gl:Nat→C}(hgn:∀g,af 0 (gl g) =true)(hg0:gl 0= .kp (iD (-1,0,0)))(M:Nat):CxOK (aD gl M vU):=aM (N:=0) (vy hgn hg0 0) QO fun q0=>US (vy hgn hg0 0) ((q0.1))
theorem Tf:∀ (g:Nat)(xs:List C),dS xs=true→vU g xs=none:=eh Te QO
theorem Tg (x:ID):vU 94 [.agg (iD x)] =some (.val (.bool (gz x))):=
 (bd _).trans (aL VU ⟨(x),trivial⟩)
abbrev Ht:= {q0:UInt8 // True}
def n7 (q0:Ht):List C:=[.val (w8 (q0.1))]
noncomputable def tk (q0:Ht):C:= .val (nI (kd (q0.1)))
noncomputable def vV:Nat→List C→Option C:=Sx.ext vU 100 (bO n7 tk)
theorem QQ (x:Ht):noRefs 0 (n7 x) =true:=by
 simp only[n7,aF,aJ,aK,aW,ax,au,aq,ay,aE,Bool.and_self,Bool.and_true,aX,aH]
theorem VV (x y:Ht)(h:n7 x=n7 y):tk x=tk y:=by
 simp only[n7,List.cons.injEq,C.val.injEq,C.agg.injEq,C.kp.injEq,C.fn.injEq,bh,bP,bW,bT,bq,bR,bJ,cm,cn,Value.int.injEq,Value.bool.injEq,true_and,and_true] at h;simp only[tk,h]
theorem QR {gl:Nat→C}(hgn:∀g,af 0 (gl g) =true)(hg0:gl 0= .kp (iD (-1,0,0)))(M:Nat):CxOK (aD gl M vV):=aM (N:=0) (QP hgn hg0 0) QQ fun q0=>Rw (QP hgn hg0 0) ((q0.1))
theorem Th:∀ (g:Nat)(xs:List C),dS xs=true→vV g xs=none:=eh Tf QQ
theorem Hu (c:UInt8):vV 100 [.val (w8 c)] =some (.val (nI (kd c))):=
 (bd _).trans (aL VV ⟨(c),trivial⟩)
abbrev Hv:= {q0: (List UInt8)×Nat // ((q0.2) < (q0.1).length∧(q0.1).length≤1000000)}
def n8 (q0:Hv):List C:=[.val (nI (q0.1.2)),.kp [.val (str (q0.1.1))]]
noncomputable def tl (q0:Hv):C:= .val (nI (eH (q0.1.1) (q0.1.2)))
noncomputable def vW:Nat→List C→Option C:=Sx.ext vV 99 (bO n8 tl)
theorem QS (x:Hv):noRefs 0 (n8 x) =true:=by
 simp only[n8,aF,aJ,aK,aW,ax,au,aq,ay,aE,Bool.and_self,Bool.and_true,aX,aH]
theorem VW (x y:Hv)(h:n8 x=n8 y):tl x=tl y:=by
 simp only[n8,List.cons.injEq,C.val.injEq,C.agg.injEq,C.kp.injEq,C.fn.injEq,bh,bP,bW,bT,bq,bR,bJ,cm,cn,Value.int.injEq,Value.bool.injEq,true_and,and_true] at h;simp only[tl,h]
theorem QT {gl:Nat→C}(hgn:∀g,af 0 (gl g) =true)(hg0:gl 0= .kp (iD (-1,0,0)))(M:Nat):CxOK (aD gl M vW):=aM (N:=0) (QR hgn hg0 0) QS fun q0=>Um (QR hgn hg0 0) (by intros;apply Hu<;>first|assumption|omega) ((q0.1.1)) ((q0.1.2)) q0.2
theorem Hw:∀ (g:Nat)(xs:List C),dS xs=true→vW g xs=none:=eh Th QS
theorem Ti (s:List UInt8)(i:Nat)(hc0:i< s.length∧s.length≤1000000):vW 99 [.val (nI i),.kp [.val (str s)]] =some (.val (nI (eH s i))):=
 (bd _).trans (aL VW ⟨(s,i),hc0⟩)
abbrev Hx:= {q0: (List UInt8) // ((q0).length≤1000000)}
def n9 (q0:Hx):List C:=[.val (str (q0.1))]
noncomputable def tn (q0:Hx):C:=sl tC (.own 3) (dO (q0.1))
noncomputable def vX:Nat→List C→Option C:=Sx.ext vW 62 (bO n9 tn)
theorem QU (x:Hx):noRefs 0 (n9 x) =true:=by
 simp only[n9,aF,aJ,aK,aW,ax,au,aq,ay,aE,Bool.and_self,Bool.and_true,aX,aH]
theorem VX (x y:Hx)(h:n9 x=n9 y):tn x=tn y:=by
 simp only[n9,List.cons.injEq,C.val.injEq,C.agg.injEq,C.kp.injEq,C.fn.injEq,bh,bP,bW,bT,bq,bR,bJ,cm,cn,Value.int.injEq,Value.bool.injEq,true_and,and_true] at h;simp only[tn,h]
theorem QV {gl:Nat→C}(hgn:∀g,af 0 (gl g) =true)(hg0:gl 0= .kp (iD (-1,0,0)))(M:Nat):CxOK (aD gl M vX):=aM (N:=0) (QT hgn hg0 0) QU fun q0=>Un (QT hgn hg0 0) (by intros;apply Ti<;>first|assumption|omega) (by intros;(iterate 1 refine (aj (by decide) _).trans ?_);apply Hu<;>first|assumption|omega) Hw ((q0.1)) q0.2
theorem Tj:∀ (g:Nat)(xs:List C),dS xs=true→vX g xs=none:=eh Hw QU
theorem Hy (s:List UInt8)(hc0:s.length≤1000000):vX 62 [.val (str s)] =some (sl tC (.own 3) (dO s)):=
 (bd _).trans (aL VX ⟨(s),hc0⟩)
abbrev Hz:= {q0: (List UInt8)×Nat // ((q0.2) < (q0.1).length∧(q0.1).length≤1000000)}
def oa (q0:Hz):List C:=[.val (nI (q0.1.2)),.kp [.val (str (q0.1.1))]]
noncomputable def tp (q0:Hz):C:= .val (.bool (eM (q0.1.1) (q0.1.2)))
noncomputable def vY:Nat→List C→Option C:=Sx.ext vX 61 (bO oa tp)
theorem QW (x:Hz):noRefs 0 (oa x) =true:=by
 simp only[oa,aF,aJ,aK,aW,ax,au,aq,ay,aE,Bool.and_self,Bool.and_true,aX,aH]
theorem VY (x y:Hz)(h:oa x=oa y):tp x=tp y:=by
 simp only[oa,List.cons.injEq,C.val.injEq,C.agg.injEq,C.kp.injEq,C.fn.injEq,bh,bP,bW,bT,bq,bR,bJ,cm,cn,Value.int.injEq,Value.bool.injEq,true_and,and_true] at h;simp only[tp,h]
theorem QX {gl:Nat→C}(hgn:∀g,af 0 (gl g) =true)(hg0:gl 0= .kp (iD (-1,0,0)))(M:Nat):CxOK (aD gl M vY):=aM (N:=0) (QV hgn hg0 0) QW fun q0=>Ur (QV hgn hg0 0) ((q0.1.1)) ((q0.1.2)) q0.2
theorem Tk:∀ (g:Nat)(xs:List C),dS xs=true→vY g xs=none:=eh Tj QW
theorem Tl (s:List UInt8)(i:Nat)(hc0:i< s.length∧s.length≤1000000):vY 61 [.val (nI i),.kp [.val (str s)]] =some (.val (.bool (eM s i))):=
 (bd _).trans (aL VY ⟨(s,i),hc0⟩)
abbrev HA:= {q0: (List UInt8) // ((q0).length≤1000000)}
def oc (q0:HA):List C:=[.val (str (q0.1))]
noncomputable def tq (q0:HA):C:= .val (nI (cC (q0.1)))
noncomputable def zi:Nat→List C→Option C:=Sx.ext vY 15 (bO oc tq)
theorem VZ (x:HA):noRefs 0 (oc x) =true:=by
 simp only[oc,aF,aJ,aK,aW,ax,au,aq,ay,aE,Bool.and_self,Bool.and_true,aX,aH]
theorem V0 (x y:HA)(h:oc x=oc y):tq x=tq y:=by
 simp only[oc,List.cons.injEq,C.val.injEq,C.agg.injEq,C.kp.injEq,C.fn.injEq,bh,bP,bW,bT,bq,bR,bJ,cm,cn,Value.int.injEq,Value.bool.injEq,true_and,and_true] at h;simp only[tq,h]
theorem vz {gl:Nat→C}(hgn:∀g,af 0 (gl g) =true)(hg0:gl 0= .kp (iD (-1,0,0)))(M:Nat):CxOK (aD gl M zi):=aM (N:=0) (QX hgn hg0 0) VZ fun q0=>Us (QX hgn hg0 0) (by intros;(iterate 1 refine (aj (by decide) _).trans ?_);apply Hy<;>first|assumption|omega) (by intros;apply Tl<;>first|assumption|omega) Tk ((q0.1)) q0.2
theorem zj (s:List UInt8)(hc0:s.length≤1000000):zi 15 [.val (str s)] =some (.val (nI (cC s))):=
 (bd _).trans (aL V0 ⟨(s),hc0⟩)
abbrev HB:= {q0: (List Tok)×Nat // ((q0.1).length≤1000000)}
def od (q0:HB):List C:=[sl tC .no (q0.1.1),.val (nI (q0.1.2))]
noncomputable def tr (q0:HB):C:=sl nC (.own 1) (oS (q0.1.2) (q0.1.1))
noncomputable def zk:Nat→List C→Option C:=Sx.ext zi 63 (bO od tr)
theorem V1 (x:HB):noRefs 0 (od x) =true:=by
 simp only[od,aF,aJ,aK,aW,ax,au,aq,ay,aE,Bool.and_self,Bool.and_true,aX,aH]
theorem V2 (x y:HB)(h:od x=od y):tr x=tr y:=by
 simp only[od,List.cons.injEq,C.val.injEq,C.agg.injEq,C.kp.injEq,C.fn.injEq,bh,bP,bW,bT,bq,bR,bJ,cm,cn,Value.int.injEq,Value.bool.injEq,true_and,and_true] at h;simp only[tr,h]
theorem QY {gl:Nat→C}(hgn:∀g,af 0 (gl g) =true)(hg0:gl 0= .kp (iD (-1,0,0)))(M:Nat):CxOK (aD gl M zk):=aM (N:=0) (vz hgn hg0 0) V1 fun q0=>Up (vz hgn hg0 0) ((q0.1.1)) ((q0.1.2)) q0.2
theorem Tm (l:List Tok)(k:Nat)(hc0:l.length≤1000000):zk 63 [sl tC .no l,.val (nI k)] =some (sl nC (.own 1) (oS k l)):=
 (bd _).trans (aL V2 ⟨(l,k),hc0⟩)
abbrev HC:= {q0: (List UInt8) // ((q0).length≤1000000)}
def oe (q0:HC):List C:=[.val (str (q0.1))]
noncomputable def tu (q0:HC):C:=sl nC (.own 1) (cG (q0.1))
noncomputable def zl:Nat→List C→Option C:=Sx.ext zk 16 (bO oe tu)
theorem V3 (x:HC):noRefs 0 (oe x) =true:=by
 simp only[oe,aF,aJ,aK,aW,ax,au,aq,ay,aE,Bool.and_self,Bool.and_true,aX,aH]
theorem V4 (x y:HC)(h:oe x=oe y):tu x=tu y:=by
 simp only[oe,List.cons.injEq,C.val.injEq,C.agg.injEq,C.kp.injEq,C.fn.injEq,bh,bP,bW,bT,bq,bR,bJ,cm,cn,Value.int.injEq,Value.bool.injEq,true_and,and_true] at h;simp only[tu,h]
theorem QZ {gl:Nat→C}(hgn:∀g,af 0 (gl g) =true)(hg0:gl 0= .kp (iD (-1,0,0)))(M:Nat):CxOK (aD gl M zl):=aM (N:=0) (QY hgn hg0 0) V3 fun q0=>Uq (QY hgn hg0 0) (by intros;(iterate 3 refine (aj (by decide) _).trans ?_);apply Hy<;>first|assumption|omega) (by intros;apply Tm<;>first|assumption|omega) ((q0.1)) q0.2
theorem zm (s:List UInt8)(hc0:s.length≤1000000):zl 16 [.val (str s)] =some (sl nC (.own 1) (cG s)):=
 (bd _).trans (aL V4 ⟨(s),hc0⟩)
abbrev HD:= {q0:aI // ((q0).2.2.2.1.length≤1000000)∧((q0).2.2.2.2.length≤1000000)}
def og (q0:HD):List C:=[.agg (pC (q0.1))]
noncomputable def tv (q0:HD):C:= .val (.bool (dL (q0.1)))
noncomputable def zn:Nat→List C→Option C:=Sx.ext zl 54 (bO og tv)
theorem V5 (x:HD):noRefs 0 (og x) =true:=by
 simp only[og,aF,aJ,aK,aW,ax,au,aq,ay,aE,Bool.and_self,Bool.and_true,aX,aH]
theorem V6 (x y:HD)(h:og x=og y):tv x=tv y:=by
 simp only[og,List.cons.injEq,C.val.injEq,C.agg.injEq,C.kp.injEq,C.fn.injEq,bh,bP,bW,bT,bq,bR,bJ,cm,cn,Value.int.injEq,Value.bool.injEq,true_and,and_true] at h;simp only[tv,h]
theorem Q0 {gl:Nat→C}(hgn:∀g,af 0 (gl g) =true)(hg0:gl 0= .kp (iD (-1,0,0)))(M:Nat):CxOK (aD gl M zn):=aM (N:=0) (QZ hgn hg0 0) V5 fun q0=>UT (QZ hgn hg0 0) hg0 (by intros;(iterate 7 refine (aj (by decide) _).trans ?_);apply Tg<;>first|assumption|omega) (by intros;(iterate 2 refine (aj (by decide) _).trans ?_);apply zj<;>first|assumption|omega) (by intros;apply zm<;>first|assumption|omega) ((q0.1)) q0.2.1 q0.2.2
theorem Tn (p:aI)(hc0:p.2.2.2.1.length≤1000000)(hc1:p.2.2.2.2.length≤1000000):zn 54 [.agg (pC p)] =some (.val (.bool (dL p))):=
 (bd _).trans (aL V6 ⟨(p),⟨hc0,hc1⟩⟩)
abbrev HE:= {q0:ah // (WB (q0))∧(∀v a,v< (q0).length→a< (gt (q0) v).length→(gt (gt (q0) v) a).1.length≤1000000)}
def oh (q0:HE):List C:=[.agg [sl vC .no (q0.1)]]
noncomputable def tw (q0:HE):C:= .val (.bool (gY (q0.1)))
noncomputable def zo:Nat→List C→Option C:=Sx.ext zn 55 (bO oh tw)
theorem V7 (x:HE):noRefs 0 (oh x) =true:=by
 simp only[oh,aF,aJ,aK,aW,ax,au,aq,ay,aE,Bool.and_self,Bool.and_true,aX,aH]
theorem V8 (x y:HE)(h:oh x=oh y):tw x=tw y:=by
 simp only[oh,List.cons.injEq,C.val.injEq,C.agg.injEq,C.kp.injEq,C.fn.injEq,bh,bP,bW,bT,bq,bR,bJ,cm,cn,Value.int.injEq,Value.bool.injEq,true_and,and_true] at h;simp only[tw,h]
theorem Q2 {gl:Nat→C}(hgn:∀g,af 0 (gl g) =true)(hg0:gl 0= .kp (iD (-1,0,0)))(M:Nat):CxOK (aD gl M zo):=aM (N:=0) (Q0 hgn hg0 0) V7 fun q0=>UV (Q0 hgn hg0 0) (by intros;(iterate 3 refine (aj (by decide) _).trans ?_);apply zj<;>first|assumption|omega) (by intros;(iterate 1 refine (aj (by decide) _).trans ?_);apply zm<;>first|assumption|omega) ((q0.1)) q0.2.1 q0.2.2
theorem To (w:ah)(hc0:WB w)(hc1:∀v a,v< w.length→a< (gt w v).length→(gt (gt w v) a).1.length≤1000000):zo 55 [.agg [sl vC .no w]] =some (.val (.bool (gY w))):=
 (bd _).trans (aL V8 ⟨(w),⟨hc0,hc1⟩⟩)
abbrev HF:= {q0:ah // (WS (q0))∧(∀i,i< (aS (q0)).length→(gt (aS (q0)) i).2.2.2.2.1.length≤1000000)∧(∀v a,v< (q0).length→a< (gt (q0) v).length→(gt (gt (q0) v) a).1.length≤1000000)∧(∀i,i< (aS (q0)).length→c9 (gt (aS (q0)) i).2.1)}
def ol (q0:HF):List C:=[.agg [sl vC .no (q0.1)]]
noncomputable def tz (q0:HF):C:= .val (nI (eF (q0.1)))
noncomputable def zp:Nat→List C→Option C:=Sx.ext zo 12 (bO ol tz)
theorem V9 (x:HF):noRefs 0 (ol x) =true:=by
 simp only[ol,aF,aJ,aK,aW,ax,au,aq,ay,aE,Bool.and_self,Bool.and_true,aX,aH]
theorem Wa (x y:HF)(h:ol x=ol y):tz x=tz y:=by
 simp only[ol,List.cons.injEq,C.val.injEq,C.agg.injEq,C.kp.injEq,C.fn.injEq,bh,bP,bW,bT,bq,bR,bJ,cm,cn,Value.int.injEq,Value.bool.injEq,true_and,and_true] at h;simp only[tz,h]
theorem Q3 {gl:Nat→C}(hgn:∀g,af 0 (gl g) =true)(hg0:gl 0= .kp (iD (-1,0,0)))(M:Nat):CxOK (aD gl M zp):=aM (N:=0) (Q2 hgn hg0 0) V9 fun q0=>UX (qC (Q2 hgn hg0 0)) (by intros;(iterate 11 refine (aj (by decide) _).trans ?_);apply Td<;>first|assumption|omega) (by intros;(iterate 10 refine (aj (by decide) _).trans ?_);apply zh<;>first|assumption|omega) (by intros;(iterate 1 refine (aj (by decide) _).trans ?_);apply Tn<;>first|assumption|omega) (by intros;apply To<;>first|assumption|omega) ((q0.1)) q0.2.1 q0.2.2.1 q0.2.2.2.1 q0.2.2.2.2
theorem HG (w:ah)(hc0:WS w)(hc1:∀i,i< (aS w).length→(gt (aS w) i).2.2.2.2.1.length≤1000000)(hc2:∀v a,v< w.length→a< (gt w v).length→(gt (gt w v) a).1.length≤1000000)(hc3:∀i,i< (aS w).length→c9 (gt (aS w) i).2.1):zp 12 [.agg [sl vC .no w]] =some (.val (nI (eF w))):=
 (bd _).trans (aL Wa ⟨(w),⟨hc0,hc1,hc2,hc3⟩⟩)
abbrev HH:= {q0:ah // (WS (q0))}
def om (q0:HH):List C:=[.agg [sl vC .no (q0.1)]]
noncomputable def tA (q0:HH):C:=sl pC (.own 7) (aZ (q0.1))
noncomputable def zq:Nat→List C→Option C:=Sx.ext zp 14 (bO om tA)
theorem Wb (x:HH):noRefs 0 (om x) =true:=by
 simp only[om,aF,aJ,aK,aW,ax,au,aq,ay,aE,Bool.and_self,Bool.and_true,aX,aH]
theorem Wc (x y:HH)(h:om x=om y):tA x=tA y:=by
 simp only[om,List.cons.injEq,C.val.injEq,C.agg.injEq,C.kp.injEq,C.fn.injEq,bh,bP,bW,bT,bq,bR,bJ,cm,cn,Value.int.injEq,Value.bool.injEq,true_and,and_true] at h;simp only[tA,h]
theorem Q4 {gl:Nat→C}(hgn:∀g,af 0 (gl g) =true)(hg0:gl 0= .kp (iD (-1,0,0)))(M:Nat):CxOK (aD gl M zq):=aM (N:=0) (Q3 hgn hg0 0) Wb fun q0=>UO (Q3 hgn hg0 0) ((q0.1)) q0.2
theorem zr (w:ah)(hc0:WS w):zq 14 [.agg [sl vC .no w]] =some (sl pC (.own 7) (aZ w)):=
 (bd _).trans (aL Wc ⟨(w),hc0⟩)
abbrev HI:= {q0:ah // (WG (q0))}
def oo (q0:HI):List C:=[.agg [sl vC .no (q0.1)]]
noncomputable def tB (q0:HI):C:= .val (.bool (c7 (q0.1)))
noncomputable def zt:Nat→List C→Option C:=Sx.ext zq 56 (bO oo tB)
theorem Wd (x:HI):noRefs 0 (oo x) =true:=by
 simp only[oo,aF,aJ,aK,aW,ax,au,aq,ay,aE,Bool.and_self,Bool.and_true,aX,aH]
theorem We (x y:HI)(h:oo x=oo y):tB x=tB y:=by
 simp only[oo,List.cons.injEq,C.val.injEq,C.agg.injEq,C.kp.injEq,C.fn.injEq,bh,bP,bW,bT,bq,bR,bJ,cm,cn,Value.int.injEq,Value.bool.injEq,true_and,and_true] at h;simp only[tB,h]
theorem Q5 {gl:Nat→C}(hgn:∀g,af 0 (gl g) =true)(hg0:gl 0= .kp (iD (-1,0,0)))(M:Nat):CxOK (aD gl M zt):=aM (N:=0) (Q4 hgn hg0 0) Wd fun q0=>Vy (Q4 hgn hg0 0) (by intros;apply zr<;>first|assumption|omega) ((q0.1)) q0.2
theorem Tp (w:ah)(hc0:WG w):zt 56 [.agg [sl vC .no w]] =some (.val (.bool (c7 w))):=
 (bd _).trans (aL We ⟨(w),hc0⟩)
abbrev HJ:= {q0:ID // True}
def oq (q0:HJ):List C:=[.agg (iD (q0.1))]
noncomputable def tD (q0:HJ):C:= .val (.bool (gz (q0.1)))
noncomputable def zu:Nat→List C→Option C:=Sx.ext zt 95 (bO oq tD)
theorem Wf (x:HJ):noRefs 0 (oq x) =true:=by
 simp only[oq,aF,aJ,aK,aW,ax,au,aq,ay,aE,Bool.and_self,Bool.and_true,aX,aH]
theorem Wg (x y:HJ)(h:oq x=oq y):tD x=tD y:=by
 simp only[oq,List.cons.injEq,C.val.injEq,C.agg.injEq,C.kp.injEq,C.fn.injEq,bh,bP,bW,bT,bq,bR,bJ,cm,cn,Value.int.injEq,Value.bool.injEq,true_and,and_true] at h;simp only[tD,h]
theorem Q6 {gl:Nat→C}(hgn:∀g,af 0 (gl g) =true)(hg0:gl 0= .kp (iD (-1,0,0)))(M:Nat):CxOK (aD gl M zu):=aM (N:=0) (Q5 hgn hg0 0) Wf fun q0=>Vt (Q5 hgn hg0 0) ((q0.1))
theorem HK (x:ID):zu 95 [.agg (iD x)] =some (.val (.bool (gz x))):=
 (bd _).trans (aL Wg ⟨(x),trivial⟩)
abbrev HL:= {q0:UInt8 // True}
def ot (q0:HL):List C:=[.val (w8 (q0.1))]
noncomputable def tE (q0:HL):C:= .val (.int .i64 (fT (q0.1)))
noncomputable def zv:Nat→List C→Option C:=Sx.ext zu 127 (bO ot tE)
theorem Wh (x:HL):noRefs 0 (ot x) =true:=by
 simp only[ot,aF,aJ,aK,aW,ax,au,aq,ay,aE,Bool.and_self,Bool.and_true,aX,aH]
theorem Wi (x y:HL)(h:ot x=ot y):tE x=tE y:=by
 simp only[ot,List.cons.injEq,C.val.injEq,C.agg.injEq,C.kp.injEq,C.fn.injEq,bh,bP,bW,bT,bq,bR,bJ,cm,cn,Value.int.injEq,Value.bool.injEq,true_and,and_true] at h;simp only[tE,h]
theorem Q7 {gl:Nat→C}(hgn:∀g,af 0 (gl g) =true)(hg0:gl 0= .kp (iD (-1,0,0)))(M:Nat):CxOK (aD gl M zv):=aM (N:=0) (Q6 hgn hg0 0) Wh fun q0=>Ru (Q6 hgn hg0 0) ((q0.1))
theorem Tq (c:UInt8):zv 127 [.val (w8 c)] =some (.val (.int .i64 (fT c))):=
 (bd _).trans (aL Wi ⟨(c),trivial⟩)
abbrev HM:= {q0: (List UInt8) // ((q0).length≤1000000)}
def ou (q0:HM):List C:=[.val (str (q0.1))]
noncomputable def tF (q0:HM):C:=sl tC .no (dO (q0.1))
noncomputable def zw:Nat→List C→Option C:=Sx.ext zv 120 (bO ou tF)
theorem Wj (x:HM):noRefs 0 (ou x) =true:=by
 simp only[ou,aF,aJ,aK,aW,ax,au,aq,ay,aE,Bool.and_self,Bool.and_true,aX,aH]
theorem Wk (x y:HM)(h:ou x=ou y):tF x=tF y:=by
 simp only[ou,List.cons.injEq,C.val.injEq,C.agg.injEq,C.kp.injEq,C.fn.injEq,bh,bP,bW,bT,bq,bR,bJ,cm,cn,Value.int.injEq,Value.bool.injEq,true_and,and_true] at h;simp only[tF,h]
theorem Q8 {gl:Nat→C}(hgn:∀g,af 0 (gl g) =true)(hg0:gl 0= .kp (iD (-1,0,0)))(M:Nat):CxOK (aD gl M zw):=aM (N:=0) (Q7 hgn hg0 0) Wj fun q0=>Rv (Q7 hgn hg0 0) (by intros;apply Tq<;>first|assumption|omega) ((q0.1)) q0.2
theorem HN (s:List UInt8)(hc0:s.length≤1000000):zw 120 [.val (str s)] =some (sl tC .no (dO s)):=
 (bd _).trans (aL Wk ⟨(s),hc0⟩)
abbrev HO:= {q0: (List UInt8) // ((q0).length≤1000000)}
def ov (q0:HO):List C:=[.val (str (q0.1))]
noncomputable def tG (q0:HO):C:= .val (nI (cC (q0.1)))
noncomputable def zx:Nat→List C→Option C:=Sx.ext zw 96 (bO ov tG)
theorem Wl (x:HO):noRefs 0 (ov x) =true:=by
 simp only[ov,aF,aJ,aK,aW,ax,au,aq,ay,aE,Bool.and_self,Bool.and_true,aX,aH]
theorem Wm (x y:HO)(h:ov x=ov y):tG x=tG y:=by
 simp only[ov,List.cons.injEq,C.val.injEq,C.agg.injEq,C.kp.injEq,C.fn.injEq,bh,bP,bW,bT,bq,bR,bJ,cm,cn,Value.int.injEq,Value.bool.injEq,true_and,and_true] at h;simp only[tG,h]
theorem Q9 {gl:Nat→C}(hgn:∀g,af 0 (gl g) =true)(hg0:gl 0= .kp (iD (-1,0,0)))(M:Nat):CxOK (aD gl M zx):=aM (N:=0) (Q8 hgn hg0 0) Wl fun q0=>Ut (Q8 hgn hg0 0) (by intros;apply HN<;>first|assumption|omega) ((q0.1)) q0.2
theorem HP (s:List UInt8)(hc0:s.length≤1000000):zx 96 [.val (str s)] =some (.val (nI (cC s))):=
 (bd _).trans (aL Wm ⟨(s),hc0⟩)
abbrev HQ:= {q0: (List UInt8) // ((q0).length≤1000000)}
def ow (q0:HQ):List C:=[.val (str (q0.1))]
noncomputable def tH (q0:HQ):C:=sl nC (.own 1) (cG (q0.1))
noncomputable def zy:Nat→List C→Option C:=Sx.ext zx 97 (bO ow tH)
theorem Wn (x:HQ):noRefs 0 (ow x) =true:=by
 simp only[ow,aF,aJ,aK,aW,ax,au,aq,ay,aE,Bool.and_self,Bool.and_true,aX,aH]
theorem Wo (x y:HQ)(h:ow x=ow y):tH x=tH y:=by
 simp only[ow,List.cons.injEq,C.val.injEq,C.agg.injEq,C.kp.injEq,C.fn.injEq,bh,bP,bW,bT,bq,bR,bJ,cm,cn,Value.int.injEq,Value.bool.injEq,true_and,and_true] at h;simp only[tH,h]
theorem Ra {gl:Nat→C}(hgn:∀g,af 0 (gl g) =true)(hg0:gl 0= .kp (iD (-1,0,0)))(M:Nat):CxOK (aD gl M zy):=aM (N:=0) (Q9 hgn hg0 0) Wn fun q0=>Uo (Q9 hgn hg0 0) (by intros;(iterate 1 refine (aj (by decide) _).trans ?_);apply HN<;>first|assumption|omega) ((q0.1)) q0.2
theorem HR (s:List UInt8)(hc0:s.length≤1000000):zy 97 [.val (str s)] =some (sl nC (.own 1) (cG s)):=
 (bd _).trans (aL Wo ⟨(s),hc0⟩)
abbrev HS:= {q0:ID // True}
def ox (q0:HS):List C:=[.agg (iD (q0.1))]
noncomputable def tJ (q0:HS):C:= .val (.bool (jf (q0.1)))
noncomputable def zz:Nat→List C→Option C:=Sx.ext zy 98 (bO ox tJ)
theorem Wp (x:HS):noRefs 0 (ox x) =true:=by
 simp only[ox,aF,aJ,aK,aW,ax,au,aq,ay,aE,Bool.and_self,Bool.and_true,aX,aH]
theorem Wq (x y:HS)(h:ox x=ox y):tJ x=tJ y:=by
 simp only[ox,List.cons.injEq,C.val.injEq,C.agg.injEq,C.kp.injEq,C.fn.injEq,bh,bP,bW,bT,bq,bR,bJ,cm,cn,Value.int.injEq,Value.bool.injEq,true_and,and_true] at h;simp only[tJ,h]
theorem Rb {gl:Nat→C}(hgn:∀g,af 0 (gl g) =true)(hg0:gl 0= .kp (iD (-1,0,0)))(M:Nat):CxOK (aD gl M zz):=aM (N:=0) (Ra hgn hg0 0) Wp fun q0=>Vu (Ra hgn hg0 0) (by intros;(iterate 4 refine (aj (by decide) _).trans ?_);apply HK<;>first|assumption|omega) (by intros;(iterate 26 refine (aj (by decide) _).trans ?_);apply QD<;>first|assumption|omega) (by intros;(iterate 23 refine (aj (by decide) _).trans ?_);apply zg<;>first|assumption|omega) ((q0.1))
theorem Ts (x:ID):zz 98 [.agg (iD x)] =some (.val (.bool (jf x))):=
 (bd _).trans (aL Wq ⟨(x),trivial⟩)
abbrev HT:= {q0:aI // ((q0).2.2.2.1.length≤1000000)∧((q0).2.2.2.2.length≤1000000)}
def oy (q0:HT):List C:=[.agg (pC (q0.1))]
noncomputable def tK (q0:HT):C:= .val (.bool (dL (q0.1)))
noncomputable def zB:Nat→List C→Option C:=Sx.ext zz 57 (bO oy tK)
theorem Wr (x:HT):noRefs 0 (oy x) =true:=by
 simp only[oy,aF,aJ,aK,aW,ax,au,aq,ay,aE,Bool.and_self,Bool.and_true,aX,aH]
theorem Ws (x y:HT)(h:oy x=oy y):tK x=tK y:=by
 simp only[oy,List.cons.injEq,C.val.injEq,C.agg.injEq,C.kp.injEq,C.fn.injEq,bh,bP,bW,bT,bq,bR,bJ,cm,cn,Value.int.injEq,Value.bool.injEq,true_and,and_true] at h;simp only[tK,h]
theorem Rc {gl:Nat→C}(hgn:∀g,af 0 (gl g) =true)(hg0:gl 0= .kp (iD (-1,0,0)))(M:Nat):CxOK (aD gl M zB):=aM (N:=0) (Rb hgn hg0 0) Wr fun q0=>Vw (Rb hgn hg0 0) (by intros;(iterate 5 refine (aj (by decide) _).trans ?_);apply HK<;>first|assumption|omega) (by intros;(iterate 2 refine (aj (by decide) _).trans ?_);apply HP<;>first|assumption|omega) (by intros;(iterate 1 refine (aj (by decide) _).trans ?_);apply HR<;>first|assumption|omega) (by intros;apply Ts<;>first|assumption|omega) ((q0.1)) q0.2.1 q0.2.2
theorem Tt (p:aI)(hc0:p.2.2.2.1.length≤1000000)(hc1:p.2.2.2.2.length≤1000000):zB 57 [.agg (pC p)] =some (.val (.bool (dL p))):=
 (bd _).trans (aL Ws ⟨(p),⟨hc0,hc1⟩⟩)
abbrev HU:= {q0: (List UInt8) // ((q0).length≤1000000)}
def oz (q0:HU):List C:=[.val (str (q0.1))]
noncomputable def tL (q0:HU):C:= .val (.bool (fP (q0.1)))
noncomputable def zC:Nat→List C→Option C:=Sx.ext zB 58 (bO oz tL)
theorem Wt (x:HU):noRefs 0 (oz x) =true:=by
 simp only[oz,aF,aJ,aK,aW,ax,au,aq,ay,aE,Bool.and_self,Bool.and_true,aX,aH]
theorem Wu (x y:HU)(h:oz x=oz y):tL x=tL y:=by
 simp only[oz,List.cons.injEq,C.val.injEq,C.agg.injEq,C.kp.injEq,C.fn.injEq,bh,bP,bW,bT,bq,bR,bJ,cm,cn,Value.int.injEq,Value.bool.injEq,true_and,and_true] at h;simp only[tL,h]
theorem Re {gl:Nat→C}(hgn:∀g,af 0 (gl g) =true)(hg0:gl 0= .kp (iD (-1,0,0)))(M:Nat):CxOK (aD gl M zC):=aM (N:=0) (Rc hgn hg0 0) Wt fun q0=>Vv (Rc hgn hg0 0) (by intros;(iterate 3 refine (aj (by decide) _).trans ?_);apply HP<;>first|assumption|omega) (by intros;(iterate 2 refine (aj (by decide) _).trans ?_);apply HR<;>first|assumption|omega) ((q0.1)) q0.2
theorem Tu (s:List UInt8)(hc0:s.length≤1000000):zC 58 [.val (str s)] =some (.val (.bool (fP s))):=
 (bd _).trans (aL Wu ⟨(s),hc0⟩)
abbrev HV:= {q0: (List aI) // ((q0).length≤1000000)}
def oB (q0:HV):List C:=[sl pC .no (q0.1)]
noncomputable def tM (q0:HV):C:= .val (.bool (j7 (q0.1)))
noncomputable def zD:Nat→List C→Option C:=Sx.ext zC 59 (bO oB tM)
theorem Wv (x:HV):noRefs 0 (oB x) =true:=by
 simp only[oB,aF,aJ,aK,aW,ax,au,aq,ay,aE,Bool.and_self,Bool.and_true,aX,aH]
theorem Ww (x y:HV)(h:oB x=oB y):tM x=tM y:=by
 simp only[oB,List.cons.injEq,C.val.injEq,C.agg.injEq,C.kp.injEq,C.fn.injEq,bh,bP,bW,bT,bq,bR,bJ,cm,cn,Value.int.injEq,Value.bool.injEq,true_and,and_true] at h;simp only[tM,h]
theorem Rf {gl:Nat→C}(hgn:∀g,af 0 (gl g) =true)(hg0:gl 0= .kp (iD (-1,0,0)))(M:Nat):CxOK (aD gl M zD):=aM (N:=0) (Re hgn hg0 0) Wv fun q0=>Vx (Re hgn hg0 0) ((q0.1)) q0.2
theorem Tv (l:List aI)(hc0:l.length≤1000000):zD 59 [sl pC .no l] =some (.val (.bool (j7 l))):=
 (bd _).trans (aL Ww ⟨(l),hc0⟩)
abbrev HW:= {q0:ah // (WG (q0))}
def oD (q0:HW):List C:=[.agg [sl vC .no (q0.1)]]
noncomputable def tN (q0:HW):C:= .val (nI (gx (q0.1)))
noncomputable def zE:Nat→List C→Option C:=Sx.ext zD 13 (bO oD tN)
theorem Wx (x:HW):noRefs 0 (oD x) =true:=by
 simp only[oD,aF,aJ,aK,aW,ax,au,aq,ay,aE,Bool.and_self,Bool.and_true,aX,aH]
theorem Wy (x y:HW)(h:oD x=oD y):tN x=tN y:=by
 simp only[oD,List.cons.injEq,C.val.injEq,C.agg.injEq,C.kp.injEq,C.fn.injEq,bh,bP,bW,bT,bq,bR,bJ,cm,cn,Value.int.injEq,Value.bool.injEq,true_and,and_true] at h;simp only[tN,h]
theorem Rg {gl:Nat→C}(hgn:∀g,af 0 (gl g) =true)(hg0:gl 0= .kp (iD (-1,0,0)))(M:Nat):CxOK (aD gl M zE):=aM (N:=0) (Rf hgn hg0 0) Wx fun q0=>VB (Rf hgn hg0 0) (by intros;(iterate 9 refine (aj (by decide) _).trans ?_);apply Tp<;>first|assumption|omega) (by intros;(iterate 10 refine (aj (by decide) _).trans ?_);apply zr<;>first|assumption|omega) (by intros;(iterate 2 refine (aj (by decide) _).trans ?_);apply Tt<;>first|assumption|omega) (by intros;(iterate 1 refine (aj (by decide) _).trans ?_);apply Tu<;>first|assumption|omega) (by intros;apply Tv<;>first|assumption|omega) (by intros;(iterate 27 refine (aj (by decide) _).trans ?_);apply zg<;>first|assumption|omega) ((q0.1)) q0.2
theorem Tw (w:ah)(hc0:WG w):zE 13 [.agg [sl vC .no w]] =some (.val (nI (gx w))):=
 (bd _).trans (aL Wy ⟨(w),hc0⟩)
abbrev HX:= {q0: (List ID)×(List ID) // ((q0.1).length≤1000000)∧((q0.2).length≤1000000)}
def oE (q0:HX):List C:=[sl iD .no (q0.1.1),sl iD .no (q0.1.2)]
noncomputable def tO (q0:HX):C:= .val (.bool (decide ((q0.1.1) = (q0.1.2))))
noncomputable def zF:Nat→List C→Option C:=Sx.ext zE 27 (bO oE tO)
theorem Wz (x:HX):noRefs 0 (oE x) =true:=by
 simp only[oE,aF,aJ,aK,aW,ax,au,aq,ay,aE,Bool.and_self,Bool.and_true,aX,aH]
theorem WA (x y:HX)(h:oE x=oE y):tO x=tO y:=by
 simp only[oE,List.cons.injEq,C.val.injEq,C.agg.injEq,C.kp.injEq,C.fn.injEq,bh,bP,bW,bT,bq,bR,bJ,cm,cn,Value.int.injEq,Value.bool.injEq,true_and,and_true] at h;simp only[tO,h]
theorem Rh {gl:Nat→C}(hgn:∀g,af 0 (gl g) =true)(hg0:gl 0= .kp (iD (-1,0,0)))(M:Nat):CxOK (aD gl M zF):=aM (N:=0) (Rg hgn hg0 0) Wz fun q0=>UN (Rg hgn hg0 0) (by intros;(iterate 28 refine (aj (by decide) _).trans ?_);apply zg<;>first|assumption|omega) ((q0.1.1)) ((q0.1.2)) q0.2.1 q0.2.2
theorem Tx (l:List ID)(m:List ID)(hc0:l.length≤1000000)(hc1:m.length≤1000000):zF 27 [sl iD .no l,sl iD .no m] =some (.val (.bool (decide (l=m)))):=
 (bd _).trans (aL WA ⟨(l,m),⟨hc0,hc1⟩⟩)
abbrev HY:= {q0:ah×(List ID) // (WS (q0.1))∧(∀x∈ (q0.2),c9 x)∧((q0.2).length≤1000000)∧(∀i,i< (aS (q0.1)).length→c9 (gt (aS (q0.1)) i).2.1)}
def oF (q0:HY):List C:=[.agg [sl vC .no (q0.1.1)],sl iD .no (q0.1.2)]
noncomputable def tP (q0:HY):C:=sl iD .no (dW (d4 (q0.1.2)) (aZ (q0.1.1))).2
noncomputable def zG:Nat→List C→Option C:=Sx.ext zF 28 (bO oF tP)
theorem WC (x:HY):noRefs 0 (oF x) =true:=by
 simp only[oF,aF,aJ,aK,aW,ax,au,aq,ay,aE,Bool.and_self,Bool.and_true,aX,aH]
theorem WD (x y:HY)(h:oF x=oF y):tP x=tP y:=by
 simp only[oF,List.cons.injEq,C.val.injEq,C.agg.injEq,C.kp.injEq,C.fn.injEq,bh,bP,bW,bT,bq,bR,bJ,cm,cn,Value.int.injEq,Value.bool.injEq,true_and,and_true] at h;simp only[tP,h]
theorem Ri {gl:Nat→C}(hgn:∀g,af 0 (gl g) =true)(hg0:gl 0= .kp (iD (-1,0,0)))(M:Nat):CxOK (aD gl M zG):=aM (N:=0) (Rh hgn hg0 0) WC fun q0=>UK (qC (Rh hgn hg0 0)) (by intros;(iterate 24 refine (aj (by decide) _).trans ?_);apply zh<;>first|assumption|omega) ((q0.1.1)) ((q0.1.2)) q0.2.1 q0.2.2.1 q0.2.2.2.1 q0.2.2.2.2
theorem HZ (w:ah)(l:List ID)(hc0:WS w)(hc1:∀x∈l,c9 x)(hc2:l.length≤1000000)(hc3:∀i,i< (aS w).length→c9 (gt (aS w) i).2.1):zG 28 [.agg [sl vC .no w],sl iD .no l] =some (sl iD .no (dW (d4 l) (aZ w)).2):=
 (bd _).trans (aL WD ⟨(w,l),⟨hc0,hc1,hc2,hc3⟩⟩)
abbrev H3:= {q0:ah×ID×ID // (WS (q0.1))∧(c9 (q0.2.1))∧(c9 (q0.2.2))∧(∀i,i< (aS (q0.1)).length→c9 (gt (aS (q0.1)) i).2.1)}
def oG (q0:H3):List C:=[.agg [sl vC .no (q0.1.1)],.agg (iD (q0.1.2.1)),.agg (iD (q0.1.2.2))]
noncomputable def tQ (q0:H3):C:= .val (.bool (decide ((dW (d4 [(q0.1.2.1),(q0.1.2.2)]) (aZ (q0.1.1))).2.length=2∧gt (dW (d4 [(q0.1.2.1),(q0.1.2.2)]) (aZ (q0.1.1))).2 0= (q0.1.2.1))))
noncomputable def zH:Nat→List C→Option C:=Sx.ext zG 30 (bO oG tQ)
theorem WE (x:H3):noRefs 0 (oG x) =true:=by
 simp only[oG,aF,aJ,aK,aW,ax,au,aq,ay,aE,Bool.and_self,Bool.and_true,aX,aH]
theorem WF (x y:H3)(h:oG x=oG y):tQ x=tQ y:=by
 simp only[oG,List.cons.injEq,C.val.injEq,C.agg.injEq,C.kp.injEq,C.fn.injEq,bh,bP,bW,bT,bq,bR,bJ,cm,cn,Value.int.injEq,Value.bool.injEq,true_and,and_true] at h;simp only[tQ,h]
theorem Rj {gl:Nat→C}(hgn:∀g,af 0 (gl g) =true)(hg0:gl 0= .kp (iD (-1,0,0)))(M:Nat):CxOK (aD gl M zH):=aM (N:=0) (Ri hgn hg0 0) WE fun q0=>UL (Ri hgn hg0 0) (by intros;apply HZ<;>first|assumption|omega) ((q0.1.1)) ((q0.1.2.1)) ((q0.1.2.2)) q0.2.1 q0.2.2.1 q0.2.2.2.1 q0.2.2.2.2
theorem Ty (w:ah)(a:ID)(b:ID)(hc0:WS w)(hc1:c9 a)(hc2:c9 b)(hc3:∀i,i< (aS w).length→c9 (gt (aS w) i).2.1):zH 30 [.agg [sl vC .no w],.agg (iD a),.agg (iD b)] =some (.val (.bool (decide ((dW (d4 [a,b]) (aZ w)).2.length=2∧gt (dW (d4 [a,b]) (aZ w)).2 0=a)))):=
 (bd _).trans (aL WF ⟨(w,a,b),⟨hc0,hc1,hc2,hc3⟩⟩)
abbrev H4:= {q0:ah×ID // (WB (q0.1))}
def oH (q0:H4):List C:=[.agg [sl vC .no (q0.1.1)],.agg (iD (q0.1.2))]
noncomputable def tR (q0:H4):C:= .tup [.agg [.val (nI (dI (q0.1.1) (q0.1.2)).1.1),.val (nI (dI (q0.1.1) (q0.1.2)).1.2.1),.val (nI (dI (q0.1.1) (q0.1.2)).1.2.2)],.val (.bool (dI (q0.1.1) (q0.1.2)).2)]
noncomputable def zI:Nat→List C→Option C:=Sx.ext zH 32 (bO oH tR)
theorem WH (x:H4):noRefs 0 (oH x) =true:=by
 simp only[oH,aF,aJ,aK,aW,ax,au,aq,ay,aE,Bool.and_self,Bool.and_true,aX,aH]
theorem WI (x y:H4)(h:oH x=oH y):tR x=tR y:=by
 simp only[oH,List.cons.injEq,C.val.injEq,C.agg.injEq,C.kp.injEq,C.fn.injEq,bh,bP,bW,bT,bq,bR,bJ,cm,cn,Value.int.injEq,Value.bool.injEq,true_and,and_true] at h;simp only[tR,h]
theorem Rk {gl:Nat→C}(hgn:∀g,af 0 (gl g) =true)(hg0:gl 0= .kp (iD (-1,0,0)))(M:Nat):CxOK (aD gl M zI):=aM (N:=0) (Rj hgn hg0 0) WH fun q0=>WO (Rj hgn hg0 0) (by intros;(iterate 26 refine (aj (by decide) _).trans ?_);apply zh<;>first|assumption|omega) ((q0.1.1)) ((q0.1.2)) q0.2
theorem Tz (w:ah)(id:ID)(hc0:WB w):zI 32 [.agg [sl vC .no w],.agg (iD id)] =some (.tup [.agg [.val (nI (dI w id).1.1),.val (nI (dI w id).1.2.1),.val (nI (dI w id).1.2.2)],.val (.bool (dI w id).2)]):=
 (bd _).trans (aL WI ⟨(w,id),hc0⟩)
abbrev H5:= {q0:ah // (WS (q0))∧(nA (q0) (q0).length≤1000000)}
def oI (q0:H5):List C:=[.agg [sl vC .no (q0.1)]]
noncomputable def tS (q0:H5):C:= .agg [.val (nI (q0.1).length),.val (nI (nA (q0.1) (q0.1).length)),.val (nI (aZ (q0.1)).length)]
noncomputable def zJ:Nat→List C→Option C:=Sx.ext zI 25 (bO oI tS)
theorem WJ (x:H5):noRefs 0 (oI x) =true:=by
 simp only[oI,aF,aJ,aK,aW,ax,au,aq,ay,aE,Bool.and_self,Bool.and_true,aX,aH]
theorem WK (x y:H5)(h:oI x=oI y):tS x=tS y:=by
 simp only[oI,List.cons.injEq,C.val.injEq,C.agg.injEq,C.kp.injEq,C.fn.injEq,bh,bP,bW,bT,bq,bR,bJ,cm,cn,Value.int.injEq,Value.bool.injEq,true_and,and_true] at h;simp only[tS,h]
theorem Rl {gl:Nat→C}(hgn:∀g,af 0 (gl g) =true)(hg0:gl 0= .kp (iD (-1,0,0)))(M:Nat):CxOK (aD gl M zJ):=aM (N:=0) (Rk hgn hg0 0) WJ fun q0=>UW (Rk hgn hg0 0) ((q0.1)) q0.2.1 q0.2.2
theorem TA (w:ah)(hc0:WS w)(hc1:nA w w.length≤1000000):zJ 25 [.agg [sl vC .no w]] =some (.agg [.val (nI w.length),.val (nI (nA w w.length)),.val (nI (aZ w).length)]):=
 (bd _).trans (aL WK ⟨(w),⟨hc0,hc1⟩⟩)
abbrev H6:= {q0:Unit // True}
def qQ (q0:H6):List C:=[]
noncomputable def zK (q0:H6):C:= .val (.bool true)
noncomputable def Rm:Nat→List C→Option C:=Sx.ext zJ 17 (bO qQ zK)
theorem WL (x:H6):noRefs 0 (qQ x) =true:=by
 simp only[qQ,aF,aJ,aK,aW,ax,au,aq,ay,aE,Bool.and_self,Bool.and_true,aX,aH]
theorem WM (x y:H6)(h:qQ x=qQ y):zK x=zK y:=by
 rfl
theorem WN {gl:Nat→C}(hgn:∀g,af 0 (gl g) =true)(hg0:gl 0= .kp (iD (-1,0,0)))(M:Nat):CxOK (aD gl M Rm):=aM (N:=0) (Rl hgn hg0 0) WL fun q0=>U9 (Va hgn (Rl hgn hg0 0)) (fun xs=>by rw[zJ,aj (by decide),zI,aj (by decide),zH,aj (by decide),zG,aj (by decide),zF,aj (by decide),zE,aj (by decide),zD,aj (by decide),zC,aj (by decide),zB,aj (by decide),zz,aj (by decide),zy,aj (by decide),zx,aj (by decide),zw,aj (by decide),zv,aj (by decide),zu,aj (by decide),zt,aj (by decide),zq,aj (by decide),zp,aj (by decide),zo,aj (by decide),zn,aj (by decide),zl,aj (by decide),zk,aj (by decide),zi,aj (by decide),vY,aj (by decide),vX,aj (by decide),vW,aj (by decide),vV,aj (by decide),vU,aj (by decide),vT,aj (by decide),vS,aj (by decide),vR,aj (by decide),vQ,aj (by decide),vP,aj (by decide),CV,aj (by decide),CU,aj (by decide),CT,aj (by decide),CS,aj (by decide),CR,aj (by decide),CQ,aj (by decide),CP,aj (by decide),CO,aj (by decide),CN,aj (by decide)];rfl) (KE hgn) (by intros;(iterate 4 refine (aj (by decide) _).trans ?_);apply Tx<;>first|assumption|omega) (by intros;(iterate 3 refine (aj (by decide) _).trans ?_);apply HZ<;>first|assumption|omega) (by intros;(iterate 2 refine (aj (by decide) _).trans ?_);apply Ty<;>first|assumption|omega) (by intros;(iterate 17 refine (aj (by decide) _).trans ?_);apply HG<;>first|assumption|omega) (by intros;(iterate 1 refine (aj (by decide) _).trans ?_);apply Tz<;>first|assumption|omega) (by intros;apply TA<;>first|assumption|omega)
theorem TB:Rm 17 [] =some (.val (.bool true)):=
 (bd _).trans (aL WM ⟨(),trivial⟩)
theorem law3 {gl:Nat→C}(hgn:∀g,af 0 (gl g) =true)(hg0:gl 0= .kp (iD (-1,0,0)))(l:List Int)(how:Int)(y:Int)(hc0:LI l)(hc1: (-9223372036854775808≤how∧how≤9223372036854775807))(hc2: (-9223372036854775808≤y∧y≤9223372036854775807)):FC Tryd.prog gl 3 [sl iC .no l,.val (.int .i64 how),.val (.int .i64 y)] [] (.val (.bool true)) []:=Xe (WN hgn hg0 0) (by intros;(iterate 31 refine (aj (by decide) _).trans ?_);apply Tb<;>first|assumption|omega) (by intros;(iterate 18 refine (aj (by decide) _).trans ?_);apply HG<;>first|assumption|omega) (by intros;(iterate 6 refine (aj (by decide) _).trans ?_);apply Tw<;>first|assumption|omega) (by intros;(iterate 17 refine (aj (by decide) _).trans ?_);apply zr<;>first|assumption|omega) (by intros;(iterate 23 refine (aj (by decide) _).trans ?_);apply zj<;>first|assumption|omega) (by intros;(iterate 21 refine (aj (by decide) _).trans ?_);apply zm<;>first|assumption|omega) (by intros;apply TB<;>first|assumption|omega) (l) (how) (y) hc0 hc1 hc2
end Go.Sx.T3
namespace Go.Proofs.YtcpdlhgkdogdjaaDoor
open Go.ChangeShapes Go.WideShapes Go.RowKit Go.Sx
theorem Ux:ownKnob Tryd.prog.godebug=none:=by kernel_rfl
theorem WP:laidOutB Tryd.prog=true:=by kernel_rfl
theorem WQ:mapsRowed Tryd.prog=true:=by kernel_rfl
theorem WR:nL Tryd.prog=true:=by kernel_rfl
theorem g0T:Tryd.prog.globalNamed "passim/work.nowhere" =some 0:=by kernel_rfl
theorem t0T: (Tryd.prog.globals[0]?).map (·.type) =some 34:=by kernel_rfl
theorem c34:Tryd.prog.cellsOf 34=3:=by kernel_rfl
theorem c3:Tryd.prog.cellsOf 3=1:=by kernel_rfl
theorem Io {W:World}{n:String}{g fuel:Nat}{enc:TypeId×Value→Unit}{sp:Nat→Bool}{held:Bool}{cs:Array Value}{p:List MemPlace}{a b c:Int}
 (hg:Tryd.prog.globalNamed n=some g) (hv:W.var? Tryd.prog n=some cs)
 (h:DataW.trod enc Tryd.prog W 0 sp held fuel 34 cs.toList=some (.agg [.lit (.int .i64 a),.lit (.int .i64 b),.lit (.int .i64 c)],p)):Rep (GW W) (.kp (iD (a,b,c))) (.pointer (some ⟨g,0,none⟩)):=by
 obtain ⟨xs,m,_,hx,hl,hlen,hf⟩:=DataW.trod_struct (aN mP).1 h
 rw[c34] at hl
 have each:∀i,i< 3→∃z,cs.toList[i]? =some (.int .i64 z)∧(xs.map (·.1))[i]? =some (.lit (.int .i64 z)):=fun i hi=>by
  have hfi: ∃fd:Field,(#[Field.mk "By" 3 0 false "" "" 0,Field.mk "Seq" 3 1 false "" "" 8,Field.mk "K" 3 2 false "" "" 16])[i]? =some fd∧fd.type=3∧fd.offset=i:=by
   rcases i with _|_|_|i
   . exact ⟨_,rfl,rfl,rfl⟩
   . exact ⟨_,rfl,rfl,rfl⟩
   . exact ⟨_,rfl,rfl,rfl⟩
   . omega
  obtain ⟨fd,h1,h2,h3⟩:=hfi
  have h4:=hf i fd h1
  rw[h2,h3,c3] at h4
  have hi2:i< xs.length:=by rw[hlen];exact hi
  rw[List.getElem?_eq_getElem hi2] at h4
  obtain ⟨z,h5,h6,_⟩:=DataW.trod_int (aN iF).1 h4
  refine ⟨z,?_,?_⟩
  . have h7:=congrArg (fun l=>l[0]?) h5
    simpa[List.getElem?_take,List.getElem?_drop] using h7
  . rw[List.getElem?_map,List.getElem?_eq_getElem hi2,h6];rfl
 simp only[Prod.mk.injEq,DataW.agg.injEq] at hx
 rw[←hx.1] at each
 simp only[Rep]
 refine ⟨g,0,rfl,RepK.of_get fun i x hx=>?_⟩
 have hi:i< 3:=by
  have:=(List.getElem?_eq_some_iff.1 hx).1
  exact this
 obtain ⟨z,h1,h2⟩:=each i hi
 refine ⟨.int .i64 z,?_,rfl,?_⟩
 . show W.cell? ⟨g,0+i,none⟩ =_
   rw[World.var?_cell hg hv,Nat.zero_add,←Array.getElem?_toList,h1]
 . rcases i with _|_|_|i
   . cases h2;cases hx;exact an.2 rfl
   . cases h2;cases hx;exact an.2 rfl
   . cases h2;cases hx;exact an.2 rfl
   . omega
theorem WT: (Rows.laid_passim_work_nowhere:DataW Unit) = .agg [.lit (.int .i64 (-1)),.lit (.int .i64 0),.lit (.int .i64 0)]:=rfl
abbrev sS:List (String×DataW Unit) := [("passim/work.nowhere",Rows.laid_passim_work_nowhere)]
theorem WU (W:World)(h:laidMetH Tryd.prog sS W):∀g,Rep (GW W) (wh g) (.pointer (some ⟨g,0,none⟩)):=by
 rw[MakeChecks.laidMetH_plain _ _ _ (by kernel_rfl)] at h
 obtain ⟨ps,⟨g1,t1,cs1,f1,p1,q1,hg1,ht1,hv1,hd1,_,_⟩,_,_⟩:=h
 obtain rfl:=Option.some.inj (g0T.symm.trans hg1)
 obtain rfl:=Option.some.inj (t0T.symm.trans ht1)
 rw[WT] at hd1
 intro g
 unfold wh
 split
 . rename_i hg
   subst hg
   exact Io hg1 hv1 hd1
 . simp[Rep]
theorem Uy (os:Os)(args:Array Value):laidMetH Tryd.prog sS ((World.doorLaid Tryd.prog 400 os).forCall (fun _ _=>0) ⟨#[],args,[]⟩).memory:=by
 rw[MakeChecks.laidMetH_plain _ _ _ (by kernel_rfl)]
 exact laidMet_of_run' 8 (by kernel_rfl) (by kernel_rfl)
theorem a3:AR Tryd.prog 3 (fun n:Int=> .val (.int .i64 n)) fun n=> -9223372036854775808≤n∧n≤9223372036854775807:=M9 iF
set_option maxRecDepth 100000
theorem Ip {α:Type}[Inhabited α]{l:List α}{i:Nat}(h:i< l.length):gt l i=l[i]:=by simp[gt,List.getD,List.getElem?_eq_getElem h]
theorem RA {l:List Int}(h:l.length≤9223372036854775807∧∀a∈l,-9223372036854775808≤a∧a≤9223372036854775807):LI l:=⟨h.1,fun i hi=>by rw[Ip hi];exact h.2 _ (List.getElem_mem hi)⟩
theorem WV:AR Tryd.prog 22 (fun l:List Int=>sl iC .no l) LI:=fun h1 h2=>by
 obtain ⟨l,q1,q2⟩:=EM LO c3 (wN (aN iF).1) h1 h2
 exact ⟨l,RA q1,q2⟩
end Go.Proofs.YtcpdlhgkdogdjaaDoor
