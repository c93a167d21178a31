/-
  
-/
import Derived.Test.YtmoaeemdlompaaaDoorPap
import Derived.Test.YtmoaeemdlompaaaDoorPaq
import Derived.Test.YtmoaeemdlompaaaDoorPar
import Derived.Test.YtmoaeemdlompaaaDoorPao
import Derived.Test.YtmoaeemdlompaaaDoorPas
import Derived.Test.YtmoaeemdlompaaaDoorPat
import Derived.Test.YtmoaeemdlompaaaDoorPav
import Derived.Test.YtmoaeemdlompaaaDoorPal
import Derived.Test.YtmoaeemdlompaaaDoorPam
set_option linter.unusedSimpArgs false
set_option linter.unusedVariables false
namespace Go.Sx.T7
open Go.RowKit Go.Proofs
def IT:Nat→List C→Option C:=fun _ _=>none
theorem X3 {gl:Nat→C} (hgn: ∀g,aF 0 (gl g) =true) (hg0:gl 0= .kp (cl wC kc)) (hg2:gl 2= .kp (cl wC kc)) (M:Nat) :CxOK (aN gl M IT) :=CxOK.zero hgn
theorem Zc: ∀ (g:Nat) (xs:List C),noRefs 0 xs=false→IT g xs=none:=fun _ _ _=>rfl
theorem Zd: ∀ (g:Nat) (xs:List C),eu xs=true→IT g xs=none:=Hu
abbrev D1:= {q0:Int×Nat // (-9223372036854775808≤(q0.1)∧(q0.1)≤9223372036854775807∧0< (q0.2)∧(q0.2)≤9223372036854775807)}
def tp (q0:D1) :List C:= [.val (.int .i64 (q0.1.1)),.val (nI (q0.1.2))]
noncomputable def zZ (q0:D1) :C:= .val (nI (bE (q0.1.1) (q0.1.2)))
noncomputable def C5:Nat→List C→Option C:=Sx.ext IT 17 (cd tp zZ)
theorem PX (x:D1) :noRefs 0 (tp x) =true:=by
 simp only[tp,aL,bn,bq,bz,aS,aT,ax,aC,aM,Bool.and_self,Bool.and_true,bH,bA,bI,bJ]
theorem ij1 (x y:D1) (h:tp x=tp y) :zZ x=zZ y:=by
 simp only[tp,List.cons.injEq,C.val.injEq,C.agg.injEq,C.kp.injEq,C.fn.injEq,cq,bZ,b9,cn,cm,b7,ch,ca,Value.int.injEq,Value.bool.injEq,true_and,and_true] at h;simp only[zZ,h]
theorem X4 {gl:Nat→C} (hgn: ∀g,aF 0 (gl g) =true) (hg0:gl 0= .kp (cl wC kc)) (hg2:gl 2= .kp (cl wC kc)) (M:Nat) :CxOK (aN gl M C5) :=bv (N:=0) (X3 hgn hg0 hg2 0) PX fun q0=>Y7 (X3 hgn hg0 hg2 0) ((q0.1.1)) ((q0.1.2)) q0.2
theorem Ze: ∀ (g:Nat) (xs:List C),noRefs 0 xs=false→C5 g xs=none:=bV Zc PX
theorem Zf: ∀ (g:Nat) (xs:List C),eu xs=true→C5 g xs=none:=fv Zd PX
theorem FN (n:Int) (m:Nat) (hc0: -9223372036854775808≤n∧n≤9223372036854775807∧0< m∧m≤9223372036854775807) :C5 17 [.val (.int .i64 n),.val (nI m)] =some (.val (nI (bE n m))) :=
 (bL _).trans (bu ij1 ⟨(n,m),hc0⟩)
abbrev D2:= {q0: (List Int)×Nat×Nat // (LI (q0.1))∧((q0.2.1)≤1000000)∧(0< (q0.2.2)∧(q0.2.2)≤9223372036854775807)}
def tq (q0:D2) :List C:= [sl iC .no (q0.1.1),.val (nI (q0.1.2.1)),.val (nI (q0.1.2.2))]
noncomputable def z0 (q0:D2) :C:= .val (nI (j3 (q0.1.1) (q0.1.2.1) (q0.1.2.2)))
noncomputable def C6:Nat→List C→Option C:=Sx.ext C5 48 (cd tq z0)
theorem PY (x:D2) :noRefs 0 (tq x) =true:=by
 simp only[tq,aL,bn,bq,bz,aS,aT,ax,aC,aM,Bool.and_self,Bool.and_true,bH,bA,bI,bJ]
theorem ij2 (x y:D2) (h:tq x=tq y) :z0 x=z0 y:=by
 simp only[tq,List.cons.injEq,C.val.injEq,C.agg.injEq,C.kp.injEq,C.fn.injEq,cq,bZ,b9,cn,cm,b7,ch,ca,Value.int.injEq,Value.bool.injEq,true_and,and_true] at h;simp only[z0,h]
theorem X5 {gl:Nat→C} (hgn: ∀g,aF 0 (gl g) =true) (hg0:gl 0= .kp (cl wC kc)) (hg2:gl 2= .kp (cl wC kc)) (M:Nat) :CxOK (aN gl M C6) :=bv (N:=0) (X4 hgn hg0 hg2 0) PY fun q0=>Y8 (X4 hgn hg0 hg2 0) (by intros;apply FN<;>first|assumption|omega) ((q0.1.1)) ((q0.1.2.1)) ((q0.1.2.2)) q0.2.1 q0.2.2.1 q0.2.2.2
theorem Zg: ∀ (g:Nat) (xs:List C),noRefs 0 xs=false→C6 g xs=none:=bV Ze PY
theorem Zh: ∀ (g:Nat) (xs:List C),eu xs=true→C6 g xs=none:=fv Zf PY
theorem Zi (l:List Int) (i:Nat) (m:Nat) (hc0:LI l) (hc1:i≤1000000) (hc2:0< m∧m≤9223372036854775807) :C6 48 [sl iC .no l,.val (nI i),.val (nI m)] =some (.val (nI (j3 l i m))) :=
 (bL _).trans (bu ij2 ⟨(l,i,m),⟨hc0,hc1,hc2⟩⟩)
abbrev D3:= {q0:Nat // ((q0)≤1000000000000)}
def tr (q0:D3) :List C:= [.val (nI (q0.1))]
noncomputable def z4 (q0:D3) :C:= .val (str (eN (q0.1)))
noncomputable def C7:Nat→List C→Option C:=Sx.ext C6 49 (cd tr z4)
theorem PZ (x:D3) :noRefs 0 (tr x) =true:=by
 simp only[tr,aL,bn,bq,bz,aS,aT,ax,aC,aM,Bool.and_self,Bool.and_true,bH,bA,bI,bJ]
theorem ij3 (x y:D3) (h:tr x=tr y) :z4 x=z4 y:=by
 simp only[tr,List.cons.injEq,C.val.injEq,C.agg.injEq,C.kp.injEq,C.fn.injEq,cq,bZ,b9,cn,cm,b7,ch,ca,Value.int.injEq,Value.bool.injEq,true_and,and_true] at h;simp only[z4,h]
theorem X6 {gl:Nat→C} (hgn: ∀g,aF 0 (gl g) =true) (hg0:gl 0= .kp (cl wC kc)) (hg2:gl 2= .kp (cl wC kc)) (M:Nat) :CxOK (aN gl M C7) :=bv (N:=0) (X5 hgn hg0 hg2 0) PZ fun q0=>Y9 (X5 hgn hg0 hg2 0) ((q0.1)) q0.2
theorem Zj: ∀ (g:Nat) (xs:List C),noRefs 0 xs=false→C7 g xs=none:=bV Zg PZ
theorem Zk: ∀ (g:Nat) (xs:List C),eu xs=true→C7 g xs=none:=fv Zh PZ
theorem FO (n:Nat) (hc0:n≤1000000000000) :C7 49 [.val (nI n)] =some (.val (str (eN n))) :=
 (bL _).trans (bu ij3 ⟨(n),hc0⟩)
abbrev D4:= {q0: (List Int) // (LI (q0))}
def tt (q0:D4) :List C:= [sl iC .no (q0.1)]
noncomputable def z5 (q0:D4) :C:=sl eC (.own 2) (hV (q0.1))
noncomputable def C8:Nat→List C→Option C:=Sx.ext C7 10 (cd tt z5)
theorem P0 (x:D4) :noRefs 0 (tt x) =true:=by
 simp only[tt,aL,bn,bq,bz,aS,aT,ax,aC,aM,Bool.and_self,Bool.and_true,bH,bA,bI,bJ]
theorem ij4 (x y:D4) (h:tt x=tt y) :z5 x=z5 y:=by
 simp only[tt,List.cons.injEq,C.val.injEq,C.agg.injEq,C.kp.injEq,C.fn.injEq,cq,bZ,b9,cn,cm,b7,ch,ca,Value.int.injEq,Value.bool.injEq,true_and,and_true] at h;simp only[z5,h]
theorem X7 {gl:Nat→C} (hgn: ∀g,aF 0 (gl g) =true) (hg0:gl 0= .kp (cl wC kc)) (hg2:gl 2= .kp (cl wC kc)) (M:Nat) :CxOK (aN gl M C8) :=bv (N:=0) (X6 hgn hg0 hg2 0) P0 fun q0=>aaD (X6 hgn hg0 hg2 0) (by intros;(iterate 1 refine (aW (by decide) _).trans ?_);apply Zi<;>first|assumption|omega) (by intros;apply FO<;>first|assumption|omega) ((q0.1)) q0.2
theorem Zl: ∀ (g:Nat) (xs:List C),noRefs 0 xs=false→C8 g xs=none:=bV Zj P0
theorem Zm: ∀ (g:Nat) (xs:List C),eu xs=true→C8 g xs=none:=fv Zk P0
theorem Zn (l:List Int) (hc0:LI l) :C8 10 [sl iC .no l] =some (sl eC (.own 2) (hV l)) :=
 (bL _).trans (bu ij4 ⟨(l),hc0⟩)
abbrev D5:= {q0:ab // ((q0).1.length< 9223372036854775808∧(q0).2.length< 9223372036854775808)}
def tu (q0:D5) :List C:= [.agg (eC (q0.1))]
noncomputable def z6 (q0:D5) :C:= .val (.bool (du (q0.1)))
noncomputable def C9:Nat→List C→Option C:=Sx.ext C8 54 (cd tu z6)
theorem P1 (x:D5) :noRefs 0 (tu x) =true:=by
 simp only[tu,aL,bn,bq,bz,aS,aT,ax,aC,aM,Bool.and_self,Bool.and_true,bH,bA,bI,bJ]
theorem ij5 (x y:D5) (h:tu x=tu y) :z6 x=z6 y:=by
 simp only[tu,List.cons.injEq,C.val.injEq,C.agg.injEq,C.kp.injEq,C.fn.injEq,cq,bZ,b9,cn,cm,b7,ch,ca,Value.int.injEq,Value.bool.injEq,true_and,and_true] at h;simp only[z6,h]
theorem X8 {gl:Nat→C} (hgn: ∀g,aF 0 (gl g) =true) (hg0:gl 0= .kp (cl wC kc)) (hg2:gl 2= .kp (cl wC kc)) (M:Nat) :CxOK (aN gl M C9) :=bv (N:=0) (X7 hgn hg0 hg2 0) P1 fun q0=>YU (X7 hgn hg0 hg2 0) ((q0.1)) q0.2
theorem Zo: ∀ (g:Nat) (xs:List C),noRefs 0 xs=false→C9 g xs=none:=bV Zl P1
theorem Zp: ∀ (g:Nat) (xs:List C),eu xs=true→C9 g xs=none:=fv Zm P1
theorem Zq (x:ab) (hc0:x.1.length< 9223372036854775808∧x.2.length< 9223372036854775808) :C9 54 [.agg (eC x)] =some (.val (.bool (du x))) :=
 (bL _).trans (bu ij5 ⟨(x),hc0⟩)
abbrev D6:= {q0: (List ab) // (LB (q0))}
def tv (q0:D6) :List C:= [sl eC .no (q0.1),.fn 54 []]
noncomputable def z7 (q0:D6) :C:= .val (.int .i64 (kY (q0.1)))
noncomputable def Da:Nat→List C→Option C:=Sx.ext C9 87 (cd tv z7)
theorem P2 (x:D6) :noRefs 0 (tv x) =true:=by
 simp only[tv,aL,bn,bq,bz,aS,aT,ax,aC,aM,Bool.and_self,Bool.and_true,bH,bA,bI,bJ]
theorem ij6 (x y:D6) (h:tv x=tv y) :z7 x=z7 y:=by
 simp only[tv,List.cons.injEq,C.val.injEq,C.agg.injEq,C.kp.injEq,C.fn.injEq,cq,bZ,b9,cn,cm,b7,ch,ca,Value.int.injEq,Value.bool.injEq,true_and,and_true] at h;simp only[z7,h]
theorem X9 {gl:Nat→C} (hgn: ∀g,aF 0 (gl g) =true) (hg0:gl 0= .kp (cl wC kc)) (hg2:gl 2= .kp (cl wC kc)) (M:Nat) :CxOK (aN gl M Da) :=bv (N:=0) (X8 hgn hg0 hg2 0) P2 fun q0=>Y2 (X8 hgn hg0 hg2 0) (by intros;apply Zq<;>first|assumption|omega) ((q0.1)) q0.2
theorem Zr: ∀ (g:Nat) (xs:List C),noRefs 0 xs=false→Da g xs=none:=bV Zo P2
theorem Zs: ∀ (g:Nat) (xs:List C),eu xs=true→Da g xs=none:=fv Zp P2
theorem Zt (l:List ab) (hc0:LB l) :Da 87 [sl eC .no l,.fn 54 []] =some (.val (.int .i64 (kY l))) :=
 (bL _).trans (bu ij6 ⟨(l),hc0⟩)
abbrev D7:= {q0: (List ab) // (LB (q0))}
def tw (q0:D7) :List C:= [sl eC .no (q0.1),.fn 54 []]
noncomputable def z8 (q0:D7) :C:= .val (.bool ((q0.1).any du))
noncomputable def Db:Nat→List C→Option C:=Sx.ext Da 53 (cd tw z8)
theorem P3 (x:D7) :noRefs 0 (tw x) =true:=by
 simp only[tw,aL,bn,bq,bz,aS,aT,ax,aC,aM,Bool.and_self,Bool.and_true,bH,bA,bI,bJ]
theorem ij7 (x y:D7) (h:tw x=tw y) :z8 x=z8 y:=by
 simp only[tw,List.cons.injEq,C.val.injEq,C.agg.injEq,C.kp.injEq,C.fn.injEq,cq,bZ,b9,cn,cm,b7,ch,ca,Value.int.injEq,Value.bool.injEq,true_and,and_true] at h;simp only[z8,h]
theorem Ya {gl:Nat→C} (hgn: ∀g,aF 0 (gl g) =true) (hg0:gl 0= .kp (cl wC kc)) (hg2:gl 2= .kp (cl wC kc)) (M:Nat) :CxOK (aN gl M Db) :=bv (N:=0) (X9 hgn hg0 hg2 0) P3 fun q0=>Y3 (X9 hgn hg0 hg2 0) (by intros;apply Zt<;>first|assumption|omega) ((q0.1)) q0.2
theorem Zu: ∀ (g:Nat) (xs:List C),noRefs 0 xs=false→Db g xs=none:=bV Zr P3
theorem Zv: ∀ (g:Nat) (xs:List C),eu xs=true→Db g xs=none:=fv Zs P3
theorem Zw (l:List ab) (hc0:LB l) :Db 53 [sl eC .no l,.fn 54 []] =some (.val (.bool (l.any du))) :=
 (bL _).trans (bu ij7 ⟨(l),hc0⟩)
abbrev D8:= {q0: (List ab) // (LB (q0))}
def tx (q0:D8) :List C:= [sl eC .no (q0.1)]
noncomputable def Aa (q0:D8) :C:= .val (nI (cV (q0.1)))
noncomputable def Dc:Nat→List C→Option C:=Sx.ext Db 15 (cd tx Aa)
theorem P4 (x:D8) :noRefs 0 (tx x) =true:=by
 simp only[tx,aL,bn,bq,bz,aS,aT,ax,aC,aM,Bool.and_self,Bool.and_true,bH,bA,bI,bJ]
theorem ij8 (x y:D8) (h:tx x=tx y) :Aa x=Aa y:=by
 simp only[tx,List.cons.injEq,C.val.injEq,C.agg.injEq,C.kp.injEq,C.fn.injEq,cq,bZ,b9,cn,cm,b7,ch,ca,Value.int.injEq,Value.bool.injEq,true_and,and_true] at h;simp only[Aa,h]
theorem Yb {gl:Nat→C} (hgn: ∀g,aF 0 (gl g) =true) (hg0:gl 0= .kp (cl wC kc)) (hg2:gl 2= .kp (cl wC kc)) (M:Nat) :CxOK (aN gl M Dc) :=bv (N:=0) (Ya hgn hg0 hg2 0) P4 fun q0=>Y4 (Ya hgn hg0 hg2 0) (by intros;apply Zw<;>first|assumption|omega) ((q0.1)) q0.2
theorem Zx: ∀ (g:Nat) (xs:List C),noRefs 0 xs=false→Dc g xs=none:=bV Zu P4
theorem Zy: ∀ (g:Nat) (xs:List C),eu xs=true→Dc g xs=none:=fv Zv P4
theorem Ab (l:List ab) (hc0:LB l) :Dc 15 [sl eC .no l] =some (.val (nI (cV l))) :=
 (bL _).trans (bu ij8 ⟨(l),hc0⟩)
abbrev D9:= {q0:Unit // True}
def w6 (q0:D9) :List C:= ([] :List C)
noncomputable def FQ (q0:D9) :C:= .agg F0.cells
noncomputable def Dd:Nat→List C→Option C:=Sx.ext Dc 103 (cd w6 FQ)
theorem P5 (x:D9) :noRefs 0 (w6 x) =true:=by
 simp only[w6,aL,bn,bq,bz,aS,aT,ax,aC,aM,Bool.and_self,Bool.and_true,bH,bA,bI,bJ]
theorem ij9 (x y:D9) (h:w6 x=w6 y) :FQ x=FQ y:=by
 rfl
theorem Yc {gl:Nat→C} (hgn: ∀g,aF 0 (gl g) =true) (hg0:gl 0= .kp (cl wC kc)) (hg2:gl 2= .kp (cl wC kc)) (M:Nat) :CxOK (aN gl M Dd) :=bv (N:=0) (Yb hgn hg0 hg2 0) P5 fun q0=>WU (Yb hgn hg0 hg2 0)
theorem Zz: ∀ (g:Nat) (xs:List C),noRefs 0 xs=false→Dd g xs=none:=bV Zx P5
theorem ZA: ∀ (g:Nat) (xs:List C),eu xs=true→Dd g xs=none:=fv Zy P5
theorem ZB:Dd 103 ([] :List C) =some (.agg F0.cells) :=
 (bL _).trans (bu ij9 ⟨(),trivial⟩)
abbrev IU:= {q0: (BitVec 32)×Int // True}
def oU (q0:IU) :List C:= [.val (cA (q0.1.1)),.val (.int .i64 (q0.1.2))]
noncomputable def u0 (q0:IU) :C:= .val (cA (lm (q0.1.1) (((q0.1.2) % 18446744073709551616).toNat % 32)))
noncomputable def w7:Nat→List C→Option C:=Sx.ext Dd 117 (cd oU u0)
theorem FR (x:IU) :noRefs 0 (oU x) =true:=by
 simp only[oU,aL,bn,bq,bz,aS,aT,ax,aC,aM,Bool.and_self,Bool.and_true,bH,bA,bI,bJ]
theorem ZC (x y:IU) (h:oU x=oU y) :u0 x=u0 y:=by
 simp only[oU,List.cons.injEq,C.val.injEq,C.agg.injEq,C.kp.injEq,C.fn.injEq,cq,bZ,b9,cn,cm,b7,ch,ca,Value.int.injEq,Value.bool.injEq,true_and,and_true] at h;simp only[u0,h]
theorem P6 {gl:Nat→C} (hgn: ∀g,aF 0 (gl g) =true) (hg0:gl 0= .kp (cl wC kc)) (hg2:gl 2= .kp (cl wC kc)) (M:Nat) :CxOK (aN gl M w7) :=bv (N:=0) (Yc hgn hg0 hg2 0) FR fun q0=>WP (Yc hgn hg0 hg2 0) ((q0.1.1)) ((q0.1.2))
theorem Vg: ∀ (g:Nat) (xs:List C),noRefs 0 xs=false→w7 g xs=none:=bV Zz FR
theorem Vh: ∀ (g:Nat) (xs:List C),eu xs=true→w7 g xs=none:=fv ZA FR
theorem IW (x:BitVec 32) (k:Int) :w7 117 [.val (cA x),.val (.int .i64 k)] =some (.val (cA (lm x ((k % 18446744073709551616).toNat % 32)))) :=
 (bL _).trans (bu ZC ⟨(x,k),trivial⟩)
abbrev IX:= {q0: (BitVec 32)×Nat×Nat×Nat // (0< (q0.2.1)∧(q0.2.1) < 32)∧(0< (q0.2.2.1)∧(q0.2.2.1) < 32)∧(0< (q0.2.2.2)∧(q0.2.2.2) < 32)}
def oV (q0:IX) :List C:= [.val (cA (q0.1.1)),.val (nI (q0.1.2.1)),.val (nI (q0.1.2.2.1)),.val (nI (q0.1.2.2.2))]
noncomputable def u2 (q0:IX) :C:= .val (cA (rr (q0.1.1) (q0.1.2.1) ^^^ rr (q0.1.1) (q0.1.2.2.1) ^^^ rr (q0.1.1) (q0.1.2.2.2)))
noncomputable def w9:Nat→List C→Option C:=Sx.ext w7 116 (cd oV u2)
theorem FS (x:IX) :noRefs 0 (oV x) =true:=by
 simp only[oV,aL,bn,bq,bz,aS,aT,ax,aC,aM,Bool.and_self,Bool.and_true,bH,bA,bI,bJ]
theorem ZD (x y:IX) (h:oV x=oV y) :u2 x=u2 y:=by
 simp only[oV,List.cons.injEq,C.val.injEq,C.agg.injEq,C.kp.injEq,C.fn.injEq,cq,bZ,b9,cn,cm,b7,ch,ca,Value.int.injEq,Value.bool.injEq,true_and,and_true] at h;simp only[u2,h]
theorem P7 {gl:Nat→C} (hgn: ∀g,aF 0 (gl g) =true) (hg0:gl 0= .kp (cl wC kc)) (hg2:gl 2= .kp (cl wC kc)) (M:Nat) :CxOK (aN gl M w9) :=bv (N:=0) (P6 hgn hg0 hg2 0) FS fun q0=>WQ (P6 hgn hg0 hg2 0) (by intros;apply IW<;>first|assumption|omega) ((q0.1.1)) ((q0.1.2.1)) ((q0.1.2.2.1)) ((q0.1.2.2.2)) q0.2.1 q0.2.2.1 q0.2.2.2
theorem Vi: ∀ (g:Nat) (xs:List C),noRefs 0 xs=false→w9 g xs=none:=bV Vg FS
theorem Vj: ∀ (g:Nat) (xs:List C),eu xs=true→w9 g xs=none:=fv Vh FS
theorem Vk (x:BitVec 32) (i:Nat) (j:Nat) (k:Nat) (hc0:0< i∧i< 32) (hc1:0< j∧j< 32) (hc2:0< k∧k< 32) :w9 116 [.val (cA x),.val (nI i),.val (nI j),.val (nI k)] =some (.val (cA (rr x i ^^^ rr x j ^^^ rr x k))) :=
 (bL _).trans (bu ZD ⟨(x,i,j,k),⟨hc0,hc1,hc2⟩⟩)
abbrev IY:= {q0: (List UInt8) // ((q0).length=64)}
def oW (q0:IY) :List C:= [sl bC .no (q0.1)]
noncomputable def u3 (q0:IY) :C:= .agg (cl wC (cb (q0.1) 64))
noncomputable def xa:Nat→List C→Option C:=Sx.ext w9 115 (cd oW u3)
theorem FT (x:IY) :noRefs 0 (oW x) =true:=by
 simp only[oW,aL,bn,bq,bz,aS,aT,ax,aC,aM,Bool.and_self,Bool.and_true,bH,bA,bI,bJ]
theorem ZE (x y:IY) (h:oW x=oW y) :u3 x=u3 y:=by
 simp only[oW,List.cons.injEq,C.val.injEq,C.agg.injEq,C.kp.injEq,C.fn.injEq,cq,bZ,b9,cn,cm,b7,ch,ca,Value.int.injEq,Value.bool.injEq,true_and,and_true] at h;simp only[u3,h]
theorem P8 {gl:Nat→C} (hgn: ∀g,aF 0 (gl g) =true) (hg0:gl 0= .kp (cl wC kc)) (hg2:gl 2= .kp (cl wC kc)) (M:Nat) :CxOK (aN gl M xa) :=bv (N:=0) (P7 hgn hg0 hg2 0) FT fun q0=>WS (P7 hgn hg0 hg2 0) (by intros;(iterate 1 refine (aW (by decide) _).trans ?_);apply IW<;>first|assumption|omega) ((q0.1)) q0.2
theorem Vl: ∀ (g:Nat) (xs:List C),noRefs 0 xs=false→xa g xs=none:=bV Vi FT
theorem Vm: ∀ (g:Nat) (xs:List C),eu xs=true→xa g xs=none:=fv Vj FT
theorem Vn (b:List UInt8) (hc0:b.length=64) :xa 115 [sl bC .no b] =some (.agg (cl wC (cb b 64))) :=
 (bL _).trans (bu ZE ⟨(b),hc0⟩)
abbrev IZ:= {q0:S8×(List UInt8) // ((q0.2).length=64)}
def oY (q0:IZ) :List C:= [.agg (cl wC (q0.1.1).l),sl bC .no (q0.1.2)]
noncomputable def u4 (q0:IZ) :C:= .agg (cl wC (comp (q0.1.1) (q0.1.2)).l)
noncomputable def xb:Nat→List C→Option C:=Sx.ext xa 113 (cd oY u4)
theorem FU (x:IZ) :noRefs 0 (oY x) =true:=by
 simp only[oY,aL,bn,bq,bz,aS,aT,ax,aC,aM,Bool.and_self,Bool.and_true,bH,bA,bI,bJ]
theorem ZF (x y:IZ) (h:oY x=oY y) :u4 x=u4 y:=by
 simp only[oY,List.cons.injEq,C.agg.injEq,ch,ca,Ct,and_true] at h;simp only[u4,h]
theorem P9 {gl:Nat→C} (hgn: ∀g,aF 0 (gl g) =true) (hg0:gl 0= .kp (cl wC kc)) (hg2:gl 2= .kp (cl wC kc)) (M:Nat) :CxOK (aN gl M xb) :=bv (N:=0) (P8 hgn hg0 hg2 0) FU fun q0=>WT (P8 hgn hg0 hg2 0) hg2 (by intros;(iterate 1 refine (aW (by decide) _).trans ?_);apply Vk<;>first|assumption|omega) (by intros;apply Vn<;>first|assumption|omega) ((q0.1.1)) ((q0.1.2)) q0.2
theorem Vo: ∀ (g:Nat) (xs:List C),noRefs 0 xs=false→xb g xs=none:=bV Vl FU
theorem Vp: ∀ (g:Nat) (xs:List C),eu xs=true→xb g xs=none:=fv Vm FU
theorem Vq (s:S8) (b:List UInt8) (hc0:b.length=64) :xb 113 [.agg (cl wC s.l),sl bC .no b] =some (.agg (cl wC (comp s b).l)) :=
 (bL _).trans (bu ZF ⟨(s,b),hc0⟩)
abbrev I0:= {q0:S8×(List UInt8)×Nat×(List UInt8) // ((q0.2.1).length=64)∧((q0.2.2.1)+(q0.2.2.2).length< 1152921504606846976)}
def rP (q0:I0) :List C:= [.agg (cl wC (q0.1.1).l++(cl bC (q0.1.2.1)++[.val (nU (q0.1.2.2.1))])),.val (str (q0.1.2.2.2))]
noncomputable def Ac (q0:I0) :C:= .agg (dm ⟨(q0.1.1),(q0.1.2.1),(q0.1.2.2.1)⟩ (q0.1.2.2.2)).cells
noncomputable def Ad:Nat→List C→Option C:=Sx.ext xb 104 (cd rP Ac)
theorem Qa (x:I0) :noRefs 0 (rP x) =true:=by
 simp only[rP,aL,bn,bq,bz,aS,aT,ax,aC,aM,Bool.and_self,Bool.and_true,bH,bA,bI,bJ]
theorem ZG (x y:I0) (h:rP x=rP y) :Ac x=Ac y:=by
 exact FK x.1.1 y.1.1 x.1.2.1 y.1.2.1 x.1.2.2.1 y.1.2.2.1 x.1.2.2.2 y.1.2.2.2 x.2.1 y.2.1 h
theorem Qb {gl:Nat→C} (hgn: ∀g,aF 0 (gl g) =true) (hg0:gl 0= .kp (cl wC kc)) (hg2:gl 2= .kp (cl wC kc)) (M:Nat) :CxOK (aN gl M Ad) :=bv (N:=0) (P9 hgn hg0 hg2 0) Qa fun q0=>WV (P9 hgn hg0 hg2 0) (by intros;apply Vq<;>first|assumption|omega) Vp (⟨(q0.1.1),(q0.1.2.1),(q0.1.2.2.1)⟩) ((q0.1.2.2.2)) q0.2.1 q0.2.2
theorem Vr: ∀ (g:Nat) (xs:List C),noRefs 0 xs=false→Ad g xs=none:=bV Vo Qa
theorem I1 (s:S8) (blk:List UInt8) (n:Nat) (t:List UInt8) (hc0:blk.length=64) (hc1:n+t.length< 1152921504606846976) :Ad 104 [.agg (cl wC s.l++(cl bC blk++[.val (nU n)])),.val (str t)] =some (.agg (dm ⟨s,blk,n⟩ t).cells) :=
 (bL _).trans (bu ZG ⟨(s,blk,n,t),⟨hc0,hc1⟩⟩)
abbrev I2:= {q0:S8×(List UInt8)×Nat // ((q0.2.1).length=64)∧((q0.2.2) < 576460752303423488)}
def rQ (q0:I2) :List C:= [.agg (cl wC (q0.1.1).l++(cl bC (q0.1.2.1)++[.val (nU (q0.1.2.2))]))]
noncomputable def Ae (q0:I2) :C:= .agg (cl bC (mc ⟨(q0.1.1),(q0.1.2.1),(q0.1.2.2)⟩))
noncomputable def Af:Nat→List C→Option C:=Sx.ext Ad 105 (cd rQ Ae)
theorem Qc (x:I2) :noRefs 0 (rQ x) =true:=by
 simp only[rQ,aL,bn,bq,bz,aS,aT,ax,aC,aM,Bool.and_self,Bool.and_true,bH,bA,bI,bJ]
theorem ZH (x y:I2) (h:rQ x=rQ y) :Ae x=Ae y:=by
 exact Lj x.1.1 y.1.1 x.1.2.1 y.1.2.1 x.1.2.2 y.1.2.2 x.2.1 y.2.1 h
theorem Qd {gl:Nat→C} (hgn: ∀g,aF 0 (gl g) =true) (hg0:gl 0= .kp (cl wC kc)) (hg2:gl 2= .kp (cl wC kc)) (M:Nat) :CxOK (aN gl M Af) :=bv (N:=0) (Qb hgn hg0 hg2 0) Qc fun q0=>WW (Qb hgn hg0 hg2 0) (by intros;apply I1<;>first|assumption|omega) (⟨(q0.1.1),(q0.1.2.1),(q0.1.2.2)⟩) q0.2.1 q0.2.2
theorem Vs: ∀ (g:Nat) (xs:List C),noRefs 0 xs=false→Af g xs=none:=bV Vr Qc
theorem Vt (s:S8) (blk:List UInt8) (n:Nat) (hc0:blk.length=64) (hc1:n< 576460752303423488) :Af 105 [.agg (cl wC s.l++(cl bC blk++[.val (nU n)]))] =some (.agg (cl bC (mc ⟨s,blk,n⟩))) :=
 (bL _).trans (bu ZH ⟨(s,blk,n),⟨hc0,hc1⟩⟩)
abbrev I3:= {q0:Int // (-9223372036854775808≤(q0)∧(q0)≤9223372036854775807)}
def oZ (q0:I3) :List C:= [.val (.int .i64 (q0.1))]
noncomputable def u5 (q0:I3) :C:=sl bC (.own 1) (cW (q0.1))
noncomputable def Ag:Nat→List C→Option C:=Sx.ext Af 39 (cd oZ u5)
theorem Qe (x:I3) :noRefs 0 (oZ x) =true:=by
 simp only[oZ,aL,bn,bq,bz,aS,aT,ax,aC,aM,Bool.and_self,Bool.and_true,bH,bA,bI,bJ]
theorem ZI (x y:I3) (h:oZ x=oZ y) :u5 x=u5 y:=by
 simp only[oZ,List.cons.injEq,C.val.injEq,C.agg.injEq,C.kp.injEq,C.fn.injEq,cq,bZ,b9,cn,cm,b7,ch,ca,Value.int.injEq,Value.bool.injEq,true_and,and_true] at h;simp only[u5,h]
theorem Qf {gl:Nat→C} (hgn: ∀g,aF 0 (gl g) =true) (hg0:gl 0= .kp (cl wC kc)) (hg2:gl 2= .kp (cl wC kc)) (M:Nat) :CxOK (aN gl M Ag) :=bv (N:=0) (Qd hgn hg0 hg2 0) Qe fun q0=>YZ (Qd hgn hg0 hg2 0) ((q0.1)) q0.2
theorem Vu: ∀ (g:Nat) (xs:List C),noRefs 0 xs=false→Ag g xs=none:=bV Vs Qe
theorem I4 (n:Int) (hc0: -9223372036854775808≤n∧n≤9223372036854775807) :Ag 39 [.val (.int .i64 n)] =some (sl bC (.own 1) (cW n)) :=
 (bL _).trans (bu ZI ⟨(n),hc0⟩)
abbrev I5:= {q0: (List UInt8) // ((q0).length< 70368744177664)}
def o5 (q0:I5) :List C:= [.val (str (q0.1))]
noncomputable def u6 (q0:I5) :C:=sl bC (.own 1) (wb (q0.1))
noncomputable def Ah:Nat→List C→Option C:=Sx.ext Ag 74 (cd o5 u6)
theorem Qg (x:I5) :noRefs 0 (o5 x) =true:=by
 simp only[o5,aL,bn,bq,bz,aS,aT,ax,aC,aM,Bool.and_self,Bool.and_true,bH,bA,bI,bJ]
theorem ZJ (x y:I5) (h:o5 x=o5 y) :u6 x=u6 y:=by
 simp only[o5,List.cons.injEq,C.val.injEq,C.agg.injEq,C.kp.injEq,C.fn.injEq,cq,bZ,b9,cn,cm,b7,ch,ca,Value.int.injEq,Value.bool.injEq,true_and,and_true] at h;simp only[u6,h]
theorem Qh {gl:Nat→C} (hgn: ∀g,aF 0 (gl g) =true) (hg0:gl 0= .kp (cl wC kc)) (hg2:gl 2= .kp (cl wC kc)) (M:Nat) :CxOK (aN gl M Ah) :=bv (N:=0) (Qf hgn hg0 hg2 0) Qg fun q0=>aaN (Qf hgn hg0 hg2 0) (by intros;rename_i m hm;exact (I4 (m:Int) (by omega)).trans (by rw[ii])) ((q0.1)) q0.2
theorem Vv: ∀ (g:Nat) (xs:List C),noRefs 0 xs=false→Ah g xs=none:=bV Vu Qg
theorem Vw (s:List UInt8) (hc0:s.length< 70368744177664) :Ah 74 [.val (str s)] =some (sl bC (.own 1) (wb s)) :=
 (bL _).trans (bu ZJ ⟨(s),hc0⟩)
abbrev I6:= {q0:Int×(List (List UInt8)) // ((cK (q0.1) (q0.2)).length< 1099511627776)}
def o6 (q0:I6) :List C:= [.val (.int .i64 (q0.1.1)),sl sC .no (q0.1.2)]
noncomputable def u7 (q0:I6) :C:= .agg (cl bC ((eQ (cK (q0.1.1) (q0.1.2))).take 16))
noncomputable def Ai:Nat→List C→Option C:=Sx.ext Ah 78 (cd o6 u7)
theorem Qi (x:I6) :noRefs 0 (o6 x) =true:=by
 simp only[o6,aL,bn,bq,bz,aS,aT,ax,aC,aM,Bool.and_self,Bool.and_true,bH,bA,bI,bJ]
theorem ZK (x y:I6) (h:o6 x=o6 y) :u7 x=u7 y:=by
 simp only[o6,List.cons.injEq,C.val.injEq,C.agg.injEq,C.kp.injEq,C.fn.injEq,cq,bZ,b9,cn,cm,b7,ch,ca,Value.int.injEq,Value.bool.injEq,true_and,and_true] at h;simp only[u7,h]
theorem Qj {gl:Nat→C} (hgn: ∀g,aF 0 (gl g) =true) (hg0:gl 0= .kp (cl wC kc)) (hg2:gl 2= .kp (cl wC kc)) (M:Nat) :CxOK (aN gl M Ai) :=bv (N:=0) (Qh hgn hg0 hg2 0) Qi fun q0=>aaM (Qh hgn hg0 hg2 0) (by intros;(iterate 8 refine (aW (by decide) _).trans ?_);apply ZB<;>first|assumption|omega) (by intros;(iterate 3 refine (aW (by decide) _).trans ?_);apply I1<;>first|assumption|omega) (by intros;(iterate 2 refine (aW (by decide) _).trans ?_);apply Vt<;>first|assumption|omega) (by intros;apply Vw<;>first|assumption|omega) ((q0.1.1)) ((q0.1.2)) q0.2
theorem Vx: ∀ (g:Nat) (xs:List C),noRefs 0 xs=false→Ai g xs=none:=bV Vv Qi
theorem Aj (tag:Int) (parts:List (List UInt8)) (hc0: (cK tag parts).length< 1099511627776) :Ai 78 [.val (.int .i64 tag),sl sC .no parts] =some (.agg (cl bC ((eQ (cK tag parts)).take 16))) :=
 (bL _).trans (bu ZK ⟨(tag,parts),hc0⟩)
abbrev I7:= {q0:Nat×(List UInt8) // ((q0.1)≤4096)∧((q0.2).length=16)}
def o7 (q0:I7) :List C:= [.val (nI (q0.1.1)),.agg (cl bC (q0.1.2))]
noncomputable def u9 (q0:I7) :C:= .agg (cl bC (gA (q0.1.1) (q0.1.2)))
noncomputable def Ak:Nat→List C→Option C:=Sx.ext Ai 50 (cd o7 u9)
theorem Qk (x:I7) :noRefs 0 (o7 x) =true:=by
 simp only[o7,aL,bn,bq,bz,aS,aT,ax,aC,aM,Bool.and_self,Bool.and_true,bH,bA,bI,bJ]
theorem ZL (x y:I7) (h:o7 x=o7 y) :u9 x=u9 y:=by
 simp only[o7,List.cons.injEq,C.val.injEq,C.agg.injEq,C.kp.injEq,C.fn.injEq,cq,bZ,b9,cn,cm,b7,ch,ca,Value.int.injEq,Value.bool.injEq,true_and,and_true] at h;simp only[u9,h]
theorem Ql {gl:Nat→C} (hgn: ∀g,aF 0 (gl g) =true) (hg0:gl 0= .kp (cl wC kc)) (hg2:gl 2= .kp (cl wC kc)) (M:Nat) :CxOK (aN gl M Ak) :=bv (N:=0) (Qj hgn hg0 hg2 0) Qk fun q0=>YV (Qj hgn hg0 hg2 0) (by intros;apply Aj<;>first|assumption|omega) (by intros;(iterate 2 refine (aW (by decide) _).trans ?_);apply I4<;>first|assumption|omega) ((q0.1.1)) ((q0.1.2)) q0.2.1 q0.2.2
theorem Vy: ∀ (g:Nat) (xs:List C),noRefs 0 xs=false→Ak g xs=none:=bV Vx Qk
theorem I8 (n:Nat) (d:List UInt8) (hc0:n≤4096) (hc1:d.length=16) :Ak 50 [.val (nI n),.agg (cl bC d)] =some (.agg (cl bC (gA n d))) :=
 (bL _).trans (bu ZL ⟨(n,d),⟨hc0,hc1⟩⟩)
abbrev I9:= {q0:ab // ((q0).1.length≤65536∧(q0).2.length≤65536)}
def o8 (q0:I9) :List C:= [.agg (eC (q0.1))]
noncomputable def vc (q0:I9) :C:= .agg (cl bC (fU (q0.1)))
noncomputable def Al:Nat→List C→Option C:=Sx.ext Ak 80 (cd o8 vc)
theorem Qm (x:I9) :noRefs 0 (o8 x) =true:=by
 simp only[o8,aL,bn,bq,bz,aS,aT,ax,aC,aM,Bool.and_self,Bool.and_true,bH,bA,bI,bJ]
theorem ZM (x y:I9) (h:o8 x=o8 y) :vc x=vc y:=by
 simp only[o8,List.cons.injEq,C.val.injEq,C.agg.injEq,C.kp.injEq,C.fn.injEq,cq,bZ,b9,cn,cm,b7,ch,ca,Value.int.injEq,Value.bool.injEq,true_and,and_true] at h;simp only[vc,h]
theorem Qn {gl:Nat→C} (hgn: ∀g,aF 0 (gl g) =true) (hg0:gl 0= .kp (cl wC kc)) (hg2:gl 2= .kp (cl wC kc)) (M:Nat) :CxOK (aN gl M Al) :=bv (N:=0) (Ql hgn hg0 hg2 0) Qm fun q0=>YS (Ql hgn hg0 hg2 0) (by intros;(iterate 1 refine (aW (by decide) _).trans ?_);apply Aj<;>first|assumption|omega) ((q0.1)) q0.2
theorem Vz: ∀ (g:Nat) (xs:List C),noRefs 0 xs=false→Al g xs=none:=bV Vy Qm
theorem Ja (x:ab) (hc0:x.1.length≤65536∧x.2.length≤65536) :Al 80 [.agg (eC x)] =some (.agg (cl bC (fU x))) :=
 (bL _).trans (bu ZM ⟨(x),hc0⟩)
abbrev Jb:= {q0:Nat×Nat // ((q0.1)≤(q0.2)∧(q0.2)≤4611686018427387000)}
def o9 (q0:Jb) :List C:= [.val (nI (q0.1.1)),.val (nI (q0.1.2))]
noncomputable def vd (q0:Jb) :C:= .val (nI ((q0.1.1)+aU ((q0.1.2) - (q0.1.1))))
noncomputable def Am:Nat→List C→Option C:=Sx.ext Al 81 (cd o9 vd)
theorem Qo (x:Jb) :noRefs 0 (o9 x) =true:=by
 simp only[o9,aL,bn,bq,bz,aS,aT,ax,aC,aM,Bool.and_self,Bool.and_true,bH,bA,bI,bJ]
theorem ZN (x y:Jb) (h:o9 x=o9 y) :vd x=vd y:=by
 simp only[o9,List.cons.injEq,C.val.injEq,C.agg.injEq,C.kp.injEq,C.fn.injEq,cq,bZ,b9,cn,cm,b7,ch,ca,Value.int.injEq,Value.bool.injEq,true_and,and_true] at h;simp only[vd,h]
theorem Qp {gl:Nat→C} (hgn: ∀g,aF 0 (gl g) =true) (hg0:gl 0= .kp (cl wC kc)) (hg2:gl 2= .kp (cl wC kc)) (M:Nat) :CxOK (aN gl M Am) :=bv (N:=0) (Qn hgn hg0 hg2 0) Qo fun q0=>YR (Qn hgn hg0 hg2 0) ((q0.1.1)) ((q0.1.2)) q0.2
theorem VA: ∀ (g:Nat) (xs:List C),noRefs 0 xs=false→Am g xs=none:=bV Vz Qo
theorem An (x:Nat) (y:Nat) (hc0:x≤y∧y≤4611686018427387000) :Am 81 [.val (nI x),.val (nI y)] =some (.val (nI (x+aU (y - x)))) :=
 (bL _).trans (bu ZN ⟨(x,y),hc0⟩)
abbrev Jc:= {q0: (List UInt8)×(List UInt8) // ((q0.1).length=16)∧((q0.2).length=16)}
def pc (q0:Jc) :List C:= [.agg (cl bC (q0.1.1)),.agg (cl bC (q0.1.2))]
noncomputable def ve (q0:Jc) :C:= .agg (cl bC (iH (q0.1.1) (q0.1.2)))
noncomputable def Ao:Nat→List C→Option C:=Sx.ext Am 82 (cd pc ve)
theorem Qq (x:Jc) :noRefs 0 (pc x) =true:=by
 simp only[pc,aL,bn,bq,bz,aS,aT,ax,aC,aM,Bool.and_self,Bool.and_true,bH,bA,bI,bJ]
theorem ZO (x y:Jc) (h:pc x=pc y) :ve x=ve y:=by
 simp only[pc,List.cons.injEq,C.val.injEq,C.agg.injEq,C.kp.injEq,C.fn.injEq,cq,bZ,b9,cn,cm,b7,ch,ca,Value.int.injEq,Value.bool.injEq,true_and,and_true] at h;simp only[ve,h]
theorem Qr {gl:Nat→C} (hgn: ∀g,aF 0 (gl g) =true) (hg0:gl 0= .kp (cl wC kc)) (hg2:gl 2= .kp (cl wC kc)) (M:Nat) :CxOK (aN gl M Ao) :=bv (N:=0) (Qp hgn hg0 hg2 0) Qq fun q0=>YT (Qp hgn hg0 hg2 0) (by intros;(iterate 3 refine (aW (by decide) _).trans ?_);apply Aj<;>first|assumption|omega) ((q0.1.1)) ((q0.1.2)) q0.2.1 q0.2.2
theorem VB: ∀ (g:Nat) (xs:List C),noRefs 0 xs=false→Ao g xs=none:=bV VA Qq
theorem Jd (a:List UInt8) (b:List UInt8) (hc0:a.length=16) (hc1:b.length=16) :Ao 82 [.agg (cl bC a),.agg (cl bC b)] =some (.agg (cl bC (iH a b))) :=
 (bL _).trans (bu ZO ⟨(a,b),⟨hc0,hc1⟩⟩)
abbrev Je:= {q0:Nat×(List ab)×Nat×Nat // (OkL (q0.2.1))∧((q0.2.2.1) < (q0.2.2.2)∧(q0.2.2.2)≤(q0.2.1).length∧(q0.2.2.2) - (q0.2.2.1)≤2 ^ (q0.1))}
def pd (q0:Je) :List C:= [.val (nI (q0.1.2.2.1)),.val (nI (q0.1.2.2.2)),.kp [sl eC .no (q0.1.2.1)],dl 79 [.kp [sl eC .no (q0.1.2.1)]] (q0.1.1)]
noncomputable def vf (q0:Je) :C:= .agg (cl bC (dB (q0.1.2.1) (q0.1.1) (q0.1.2.2.1) (q0.1.2.2.2)))
noncomputable def Ap:Nat→List C→Option C:=Sx.ext Ao 79 (cd pd vf)
theorem Qs (x:Je) :noRefs 0 (pd x) =true:=by
 simp only[pd,aL,bn,bq,bz,aS,aT,ax,aC,aM,Bool.and_self,Bool.and_true,bH,bA,bI,bJ]
theorem ZP (x y:Je) (h:pd x=pd y) :vf x=vf y:=by
 simp only[pd,List.cons.injEq,C.val.injEq,C.kp.injEq,b9,ca,true_and,and_true] at h;have e:=oQ h.2.2.2;simp only[vf,h,e]
theorem Qt {gl:Nat→C} (hgn: ∀g,aF 0 (gl g) =true) (hg0:gl 0= .kp (cl wC kc)) (hg2:gl 2= .kp (cl wC kc)) (M:Nat) :CxOK (aN gl M Ap) :=bv (N:=0) (Qr hgn hg0 hg2 0) Qs fun q0=>Pn (Qr hgn hg0 hg2 0) (by intros;(iterate 2 refine (aW (by decide) _).trans ?_);apply Ja<;>first|assumption|omega) (by intros;(iterate 1 refine (aW (by decide) _).trans ?_);apply An<;>first|assumption|omega) (by intros;apply Jd<;>first|assumption|omega) ((q0.1.1)) ((q0.1.2.1)) ((q0.1.2.2.1)) ((q0.1.2.2.2)) q0.2.1 q0.2.2
theorem VC: ∀ (g:Nat) (xs:List C),noRefs 0 xs=false→Ap g xs=none:=bV VB Qs
theorem VD (d:Nat) (l:List ab) (a:Nat) (b:Nat) (hc0:OkL l) (hc1:a< b∧b≤l.length∧b - a≤2 ^ d) :Ap 79 [.val (nI a),.val (nI b),.kp [sl eC .no l],dl 79 [.kp [sl eC .no l]] d] =some (.agg (cl bC (dB l d a b))) :=
 (bL _).trans (bu ZP ⟨(d,l,a,b),⟨hc0,hc1⟩⟩)
abbrev Jf:= {q0: (List ab) // (OkL (q0))∧(0< (q0).length)}
def pe (q0:Jf) :List C:= [sl eC .no (q0.1)]
noncomputable def vg (q0:Jf) :C:= .agg (cl bC (jC (q0.1)))
noncomputable def Aq:Nat→List C→Option C:=Sx.ext Ap 51 (cd pe vg)
theorem Qu (x:Jf) :noRefs 0 (pe x) =true:=by
 simp only[pe,aL,bn,bq,bz,aS,aT,ax,aC,aM,Bool.and_self,Bool.and_true,bH,bA,bI,bJ]
theorem ZQ (x y:Jf) (h:pe x=pe y) :vg x=vg y:=by
 simp only[pe,List.cons.injEq,C.val.injEq,C.agg.injEq,C.kp.injEq,C.fn.injEq,cq,bZ,b9,cn,cm,b7,ch,ca,Value.int.injEq,Value.bool.injEq,true_and,and_true] at h;simp only[vg,h]
theorem Qv {gl:Nat→C} (hgn: ∀g,aF 0 (gl g) =true) (hg0:gl 0= .kp (cl wC kc)) (hg2:gl 2= .kp (cl wC kc)) (M:Nat) :CxOK (aN gl M Aq) :=bv (N:=0) (Qt hgn hg0 hg2 0) Qu fun q0=>aaE (Qt hgn hg0 hg2 0) (by intros;apply VD<;>first|assumption|omega) ((q0.1)) q0.2.1 q0.2.2
theorem VE: ∀ (g:Nat) (xs:List C),noRefs 0 xs=false→Aq g xs=none:=bV VC Qu
theorem Jg (l:List ab) (hc0:OkL l) (hc1:0< l.length) :Aq 51 [sl eC .no l] =some (.agg (cl bC (jC l))) :=
 (bL _).trans (bu ZQ ⟨(l),⟨hc0,hc1⟩⟩)
abbrev Jh:= {q0: (List ab) // (LB (q0))}
def pf (q0:Jh) :List C:= [sl eC .no (q0.1)]
noncomputable def vh (q0:Jh) :C:= .tup [.agg (cl bC (kC (q0.1)).1),.val (nI (kC (q0.1)).2)]
noncomputable def Ar:Nat→List C→Option C:=Sx.ext Aq 12 (cd pf vh)
theorem Qw (x:Jh) :noRefs 0 (pf x) =true:=by
 simp only[pf,aL,bn,bq,bz,aS,aT,ax,aC,aM,Bool.and_self,Bool.and_true,bH,bA,bI,bJ]
theorem ZR (x y:Jh) (h:pf x=pf y) :vh x=vh y:=by
 simp only[pf,List.cons.injEq,C.val.injEq,C.agg.injEq,C.kp.injEq,C.fn.injEq,cq,bZ,b9,cn,cm,b7,ch,ca,Value.int.injEq,Value.bool.injEq,true_and,and_true] at h;simp only[vh,h]
theorem Qx {gl:Nat→C} (hgn: ∀g,aF 0 (gl g) =true) (hg0:gl 0= .kp (cl wC kc)) (hg2:gl 2= .kp (cl wC kc)) (M:Nat) :CxOK (aN gl M Ar) :=bv (N:=0) (Qv hgn hg0 hg2 0) Qw fun q0=>aaF (Qv hgn hg0 hg2 0) (by intros;(iterate 16 refine (aW (by decide) _).trans ?_);apply Ab<;>first|assumption|omega) (by intros;(iterate 5 refine (aW (by decide) _).trans ?_);apply I8<;>first|assumption|omega) (by intros;apply Jg<;>first|assumption|omega) ((q0.1)) q0.2
theorem VF: ∀ (g:Nat) (xs:List C),noRefs 0 xs=false→Ar g xs=none:=bV VE Qw
theorem Ji (l:List ab) (hc0:LB l) :Ar 12 [sl eC .no l] =some (.tup [.agg (cl bC (kC l).1),.val (nI (kC l).2)]) :=
 (bL _).trans (bu ZR ⟨(l),hc0⟩)
abbrev Jj:= {q0: (List ab) // ((q0).length≤1000000)}
def pg (q0:Jj) :List C:= [sl eC .no (q0.1)]
noncomputable def vi (q0:Jj) :C:=sl eC (.own 2) (q0.1)
noncomputable def As:Nat→List C→Option C:=Sx.ext Ar 13 (cd pg vi)
theorem Qy (x:Jj) :noRefs 0 (pg x) =true:=by
 simp only[pg,aL,bn,bq,bz,aS,aT,ax,aC,aM,Bool.and_self,Bool.and_true,bH,bA,bI,bJ]
theorem ZS (x y:Jj) (h:pg x=pg y) :vi x=vi y:=by
 simp only[pg,List.cons.injEq,C.val.injEq,C.agg.injEq,C.kp.injEq,C.fn.injEq,cq,bZ,b9,cn,cm,b7,ch,ca,Value.int.injEq,Value.bool.injEq,true_and,and_true] at h;simp only[vi,h]
theorem Qz {gl:Nat→C} (hgn: ∀g,aF 0 (gl g) =true) (hg0:gl 0= .kp (cl wC kc)) (hg2:gl 2= .kp (cl wC kc)) (M:Nat) :CxOK (aN gl M As) :=bv (N:=0) (Qx hgn hg0 hg2 0) Qy fun q0=>Za (Qx hgn hg0 hg2 0) ((q0.1)) q0.2
theorem VG: ∀ (g:Nat) (xs:List C),noRefs 0 xs=false→As g xs=none:=bV VF Qy
theorem Jk (l:List ab) (hc0:l.length≤1000000) :As 13 [sl eC .no l] =some (sl eC (.own 2) l) :=
 (bL _).trans (bu ZS ⟨(l),hc0⟩)
abbrev Jl:= {q0: (List ab) // ((q0).length≤1000000)}
def ph (q0:Jl) :List C:= [sl eC .no (q0.1)]
noncomputable def vj (q0:Jl) :C:=sl eC (.own 2) (q0.1)
noncomputable def Au:Nat→List C→Option C:=Sx.ext As 18 (cd ph vj)
theorem QA (x:Jl) :noRefs 0 (ph x) =true:=by
 simp only[ph,aL,bn,bq,bz,aS,aT,ax,aC,aM,Bool.and_self,Bool.and_true,bH,bA,bI,bJ]
theorem ZT (x y:Jl) (h:ph x=ph y) :vj x=vj y:=by
 simp only[ph,List.cons.injEq,C.val.injEq,C.agg.injEq,C.kp.injEq,C.fn.injEq,cq,bZ,b9,cn,cm,b7,ch,ca,Value.int.injEq,Value.bool.injEq,true_and,and_true] at h;simp only[vj,h]
theorem QB {gl:Nat→C} (hgn: ∀g,aF 0 (gl g) =true) (hg0:gl 0= .kp (cl wC kc)) (hg2:gl 2= .kp (cl wC kc)) (M:Nat) :CxOK (aN gl M Au) :=bv (N:=0) (Qz hgn hg0 hg2 0) QA fun q0=>Zb (Qz hgn hg0 hg2 0) ((q0.1)) q0.2
theorem VH: ∀ (g:Nat) (xs:List C),noRefs 0 xs=false→Au g xs=none:=bV VG QA
theorem VI (l:List ab) (hc0:l.length≤1000000) :Au 18 [sl eC .no l] =some (sl eC (.own 2) l) :=
 (bL _).trans (bu ZT ⟨(l),hc0⟩)
abbrev Jm:= {q0: (List UInt8)×(List UInt8) // True}
def pj (q0:Jm) :List C:= [.val (str (q0.1.1)),.val (str (q0.1.2))]
noncomputable def vk (q0:Jm) :C:= .val (.int .i64 (fK (q0.1.1) (q0.1.2)))
noncomputable def Av:Nat→List C→Option C:=Sx.ext Au 90 (cd pj vk)
theorem QC (x:Jm) :noRefs 0 (pj x) =true:=by
 simp only[pj,aL,bn,bq,bz,aS,aT,ax,aC,aM,Bool.and_self,Bool.and_true,bH,bA,bI,bJ]
theorem ZU (x y:Jm) (h:pj x=pj y) :vk x=vk y:=by
 simp only[pj,List.cons.injEq,C.val.injEq,C.agg.injEq,C.kp.injEq,C.fn.injEq,cq,bZ,b9,cn,cm,b7,ch,ca,Value.int.injEq,Value.bool.injEq,true_and,and_true] at h;simp only[vk,h]
theorem QD {gl:Nat→C} (hgn: ∀g,aF 0 (gl g) =true) (hg0:gl 0= .kp (cl wC kc)) (hg2:gl 2= .kp (cl wC kc)) (M:Nat) :CxOK (aN gl M Av) :=bv (N:=0) (QB hgn hg0 hg2 0) QC fun q0=>U9 (QB hgn hg0 hg2 0) ((q0.1.1)) ((q0.1.2))
theorem VJ: ∀ (g:Nat) (xs:List C),noRefs 0 xs=false→Av g xs=none:=bV VH QC
theorem VK (a:List UInt8) (b:List UInt8) :Av 90 [.val (str a),.val (str b)] =some (.val (.int .i64 (fK a b))) :=
 (bL _).trans (bu ZU ⟨(a,b),trivial⟩)
abbrev Jn:= {q0:ab×(List UInt8) // True}
def pm (q0:Jn) :List C:= [.agg (eC (q0.1.1)),.val (str (q0.1.2))]
noncomputable def vl (q0:Jn) :C:= .val (.int .i64 (fK (q0.1.1).1 (q0.1.2)))
noncomputable def Aw:Nat→List C→Option C:=Sx.ext Av 89 (cd pm vl)
theorem QE (x:Jn) :noRefs 0 (pm x) =true:=by
 simp only[pm,aL,bn,bq,bz,aS,aT,ax,aC,aM,Bool.and_self,Bool.and_true,bH,bA,bI,bJ]
theorem ZV (x y:Jn) (h:pm x=pm y) :vl x=vl y:=by
 simp only[pm,List.cons.injEq,C.val.injEq,C.agg.injEq,C.kp.injEq,C.fn.injEq,cq,bZ,b9,cn,cm,b7,ch,ca,Value.int.injEq,Value.bool.injEq,true_and,and_true] at h;simp only[vl,h]
theorem QF {gl:Nat→C} (hgn: ∀g,aF 0 (gl g) =true) (hg0:gl 0= .kp (cl wC kc)) (hg2:gl 2= .kp (cl wC kc)) (M:Nat) :CxOK (aN gl M Aw) :=bv (N:=0) (QD hgn hg0 hg2 0) QE fun q0=>Yy (QD hgn hg0 hg2 0) (by intros;apply VK<;>first|assumption|omega) ((q0.1.1)) ((q0.1.2))
theorem VL: ∀ (g:Nat) (xs:List C),noRefs 0 xs=false→Aw g xs=none:=bV VJ QE
theorem VM (x:ab) (k:List UInt8) :Aw 89 [.agg (eC x),.val (str k)] =some (.val (.int .i64 (fK x.1 k))) :=
 (bL _).trans (bu ZV ⟨(x,k),trivial⟩)
abbrev Jo:= {q0: (List ab)×(List UInt8) // (Srt (q0.1))∧((q0.1).length≤1000000)}
def pn (q0:Jo) :List C:= [sl eC .no (q0.1.1),.val (str (q0.1.2)),.fn 89 []]
noncomputable def vm (q0:Jo) :C:= .tup [.val (nI (br (q0.1.1) (q0.1.2))),.val (.bool (wu (q0.1.1) (q0.1.2)))]
noncomputable def Ax:Nat→List C→Option C:=Sx.ext Aw 88 (cd pn vm)
theorem QG (x:Jo) :noRefs 0 (pn x) =true:=by
 simp only[pn,aL,bn,bq,bz,aS,aT,ax,aC,aM,Bool.and_self,Bool.and_true,bH,bA,bI,bJ]
theorem ZW (x y:Jo) (h:pn x=pn y) :vm x=vm y:=by
 simp only[pn,List.cons.injEq,C.val.injEq,C.agg.injEq,C.kp.injEq,C.fn.injEq,cq,bZ,b9,cn,cm,b7,ch,ca,Value.int.injEq,Value.bool.injEq,true_and,and_true] at h;simp only[vm,h]
theorem QH {gl:Nat→C} (hgn: ∀g,aF 0 (gl g) =true) (hg0:gl 0= .kp (cl wC kc)) (hg2:gl 2= .kp (cl wC kc)) (M:Nat) :CxOK (aN gl M Ax) :=bv (N:=0) (QF hgn hg0 hg2 0) QG fun q0=>Yz (QF hgn hg0 hg2 0) (by intros;apply VM<;>first|assumption|omega) ((q0.1.1)) ((q0.1.2)) q0.2.1 q0.2.2
theorem VN: ∀ (g:Nat) (xs:List C),noRefs 0 xs=false→Ax g xs=none:=bV VL QG
theorem VO (l:List ab) (k:List UInt8) (hc0:Srt l) (hc1:l.length≤1000000) :Ax 88 [sl eC .no l,.val (str k),.fn 89 []] =some (.tup [.val (nI (br l k)),.val (.bool (wu l k))]) :=
 (bL _).trans (bu ZW ⟨(l,k),⟨hc0,hc1⟩⟩)
abbrev Jp:= {q0: (List ab)×(List UInt8) // (Srt (q0.1))∧((q0.1).length≤1000000)}
def pq (q0:Jp) :List C:= [sl eC .no (q0.1.1),.val (str (q0.1.2))]
noncomputable def vn (q0:Jp) :C:= .val (nI (br (q0.1.1) (q0.1.2)))
noncomputable def Ay:Nat→List C→Option C:=Sx.ext Ax 56 (cd pq vn)
theorem QI (x:Jp) :noRefs 0 (pq x) =true:=by
 simp only[pq,aL,bn,bq,bz,aS,aT,ax,aC,aM,Bool.and_self,Bool.and_true,bH,bA,bI,bJ]
theorem ZX (x y:Jp) (h:pq x=pq y) :vn x=vn y:=by
 simp only[pq,List.cons.injEq,C.val.injEq,C.agg.injEq,C.kp.injEq,C.fn.injEq,cq,bZ,b9,cn,cm,b7,ch,ca,Value.int.injEq,Value.bool.injEq,true_and,and_true] at h;simp only[vn,h]
theorem QJ {gl:Nat→C} (hgn: ∀g,aF 0 (gl g) =true) (hg0:gl 0= .kp (cl wC kc)) (hg2:gl 2= .kp (cl wC kc)) (M:Nat) :CxOK (aN gl M Ay) :=bv (N:=0) (QH hgn hg0 hg2 0) QI fun q0=>YA (QH hgn hg0 hg2 0) (by intros;apply VO<;>first|assumption|omega) ((q0.1.1)) ((q0.1.2)) q0.2.1 q0.2.2
theorem VP: ∀ (g:Nat) (xs:List C),noRefs 0 xs=false→Ay g xs=none:=bV VN QI
theorem vo (l:List ab) (k:List UInt8) (hc0:Srt l) (hc1:l.length≤1000000) :Ay 56 [sl eC .no l,.val (str k)] =some (.val (nI (br l k))) :=
 (bL _).trans (bu ZX ⟨(l,k),⟨hc0,hc1⟩⟩)
abbrev Jq:= {q0: (List ab) // ((q0).length≤1000000)}
def pr (q0:Jq) :List C:= [sl eC .no (q0.1)]
noncomputable def vr (q0:Jq) :C:=sl eC (.own 2) (q0.1)
noncomputable def Az:Nat→List C→Option C:=Sx.ext Ay 63 (cd pr vr)
theorem QK (x:Jq) :noRefs 0 (pr x) =true:=by
 simp only[pr,aL,bn,bq,bz,aS,aT,ax,aC,aM,Bool.and_self,Bool.and_true,bH,bA,bI,bJ]
theorem ZY (x y:Jq) (h:pr x=pr y) :vr x=vr y:=by
 simp only[pr,List.cons.injEq,C.val.injEq,C.agg.injEq,C.kp.injEq,C.fn.injEq,cq,bZ,b9,cn,cm,b7,ch,ca,Value.int.injEq,Value.bool.injEq,true_and,and_true] at h;simp only[vr,h]
theorem QL {gl:Nat→C} (hgn: ∀g,aF 0 (gl g) =true) (hg0:gl 0= .kp (cl wC kc)) (hg2:gl 2= .kp (cl wC kc)) (M:Nat) :CxOK (aN gl M Az) :=bv (N:=0) (QJ hgn hg0 hg2 0) QK fun q0=>YY (QJ hgn hg0 hg2 0) ((q0.1)) q0.2
theorem Jr: ∀ (g:Nat) (xs:List C),noRefs 0 xs=false→Az g xs=none:=bV VP QK
theorem Js (l:List ab) (hc0:l.length≤1000000) :Az 63 [sl eC .no l] =some (sl eC (.own 2) l) :=
 (bL _).trans (bu ZY ⟨(l),hc0⟩)
abbrev Jt:= {q0: (List ab)×Nat×Nat // (OkL (q0.1))∧((q0.2.1)≤(q0.2.2)∧(q0.2.2)≤(q0.1).length)}
def pt (q0:Jt) :List C:= [sl eC .no (q0.1.1),.val (nI (q0.1.2.1)),.val (nI (q0.1.2.2))]
noncomputable def vt (q0:Jt) :C:= .agg [.val (nI (q0.1.2.1)),.val (nI (q0.1.1).length),sl eC .no (((q0.1.1).drop (q0.1.2.1)).take ((q0.1.2.2) - (q0.1.2.1))),sl dC .no (c8 (q0.1.1) (q0.1.2.1) (q0.1.2.2))]
noncomputable def AA:Nat→List C→Option C:=Sx.ext Az 57 (cd pt vt)
theorem QM (x:Jt) :noRefs 0 (pt x) =true:=by
 simp only[pt,aL,bn,bq,bz,aS,aT,ax,aC,aM,Bool.and_self,Bool.and_true,bH,bA,bI,bJ]
theorem ZZ (x y:Jt) (h:pt x=pt y) :vt x=vt y:=by
 simp only[pt,List.cons.injEq,C.val.injEq,C.agg.injEq,C.kp.injEq,C.fn.injEq,cq,bZ,b9,cn,cm,b7,ch,ca,Value.int.injEq,Value.bool.injEq,true_and,and_true] at h;simp only[vt,h]
theorem QN {gl:Nat→C} (hgn: ∀g,aF 0 (gl g) =true) (hg0:gl 0= .kp (cl wC kc)) (hg2:gl 2= .kp (cl wC kc)) (M:Nat) :CxOK (aN gl M AA) :=bv (N:=0) (QL hgn hg0 hg2 0) QM fun q0=>U7 (QL hgn hg0 hg2 0) Jr (by intros;apply Js<;>first|assumption|omega) (by intros;(iterate 8 refine (aW (by decide) _).trans ?_);apply Jg<;>first|assumption|omega) (by intros;(iterate 11 refine (aW (by decide) _).trans ?_);apply An<;>first|assumption|omega) ((q0.1.1)) ((q0.1.2.1)) ((q0.1.2.2)) q0.2.1 q0.2.2
theorem VQ: ∀ (g:Nat) (xs:List C),noRefs 0 xs=false→AA g xs=none:=bV Jr QM
theorem Ju (l:List ab) (f:Nat) (e:Nat) (hc0:OkL l) (hc1:f≤e∧e≤l.length) :AA 57 [sl eC .no l,.val (nI f),.val (nI e)] =some (.agg [.val (nI f),.val (nI l.length),sl eC .no ((l.drop f).take (e - f)),sl dC .no (c8 l f e)]) :=
 (bL _).trans (bu ZZ ⟨(l,f,e),⟨hc0,hc1⟩⟩)
abbrev Jv:= {q0: (List ab)×(List UInt8) // (LB (q0.1))}
def pv (q0:Jv) :List C:= [sl eC .no (q0.1.1),.val (str (q0.1.2))]
noncomputable def vu (q0:Jv) :C:= .tup [.agg [.val (nI (da (q0.1.1) (q0.1.2)).1.1),.val (nI (da (q0.1.1) (q0.1.2)).1.2.1),sl eC .no (da (q0.1.1) (q0.1.2)).1.2.2.1,sl dC .no (da (q0.1.1) (q0.1.2)).1.2.2.2],.val (nI (da (q0.1.1) (q0.1.2)).2)]
noncomputable def AB:Nat→List C→Option C:=Sx.ext AA 22 (cd pv vu)
theorem QO (x:Jv) :noRefs 0 (pv x) =true:=by
 simp only[pv,aL,bn,bq,bz,aS,aT,ax,aC,aM,Bool.and_self,Bool.and_true,bH,bA,bI,bJ]
theorem Z0 (x y:Jv) (h:pv x=pv y) :vu x=vu y:=by
 simp only[pv,List.cons.injEq,C.val.injEq,C.agg.injEq,C.kp.injEq,C.fn.injEq,cq,bZ,b9,cn,cm,b7,ch,ca,Value.int.injEq,Value.bool.injEq,true_and,and_true] at h;simp only[vu,h]
theorem QP {gl:Nat→C} (hgn: ∀g,aF 0 (gl g) =true) (hg0:gl 0= .kp (cl wC kc)) (hg2:gl 2= .kp (cl wC kc)) (M:Nat) :CxOK (aN gl M AB) :=bv (N:=0) (QN hgn hg0 hg2 0) QO fun q0=>YD (QN hgn hg0 hg2 0) (by intros;(iterate 25 refine (aW (by decide) _).trans ?_);apply Ab<;>first|assumption|omega) (by intros;(iterate 2 refine (aW (by decide) _).trans ?_);apply vo<;>first|assumption|omega) (by intros;apply Ju<;>first|assumption|omega) ((q0.1.1)) ((q0.1.2)) q0.2
theorem VR: ∀ (g:Nat) (xs:List C),noRefs 0 xs=false→AB g xs=none:=bV VQ QO
theorem VS (l:List ab) (k:List UInt8) (hc0:LB l) :AB 22 [sl eC .no l,.val (str k)] =some (.tup [.agg [.val (nI (da l k).1.1),.val (nI (da l k).1.2.1),sl eC .no (da l k).1.2.2.1,sl dC .no (da l k).1.2.2.2],.val (nI (da l k).2)]) :=
 (bL _).trans (bu Z0 ⟨(l,k),hc0⟩)
abbrev Jw:= {q0: (List ab)×(List UInt8)×(List UInt8) // (LB (q0.1))}
def pw (q0:Jw) :List C:= [sl eC .no (q0.1.1),.val (str (q0.1.2.1)),.val (str (q0.1.2.2))]
noncomputable def vv (q0:Jw) :C:= .tup [.agg [.val (nI (db (q0.1.1) (q0.1.2.1) (q0.1.2.2)).1.1),.val (nI (db (q0.1.1) (q0.1.2.1) (q0.1.2.2)).1.2.1),sl eC .no (db (q0.1.1) (q0.1.2.1) (q0.1.2.2)).1.2.2.1,sl dC .no (db (q0.1.1) (q0.1.2.1) (q0.1.2.2)).1.2.2.2],.val (nI (db (q0.1.1) (q0.1.2.1) (q0.1.2.2)).2)]
noncomputable def AC:Nat→List C→Option C:=Sx.ext AB 24 (cd pw vv)
theorem QQ (x:Jw) :noRefs 0 (pw x) =true:=by
 simp only[pw,aL,bn,bq,bz,aS,aT,ax,aC,aM,Bool.and_self,Bool.and_true,bH,bA,bI,bJ]
theorem Z1 (x y:Jw) (h:pw x=pw y) :vv x=vv y:=by
 simp only[pw,List.cons.injEq,C.val.injEq,C.agg.injEq,C.kp.injEq,C.fn.injEq,cq,bZ,b9,cn,cm,b7,ch,ca,Value.int.injEq,Value.bool.injEq,true_and,and_true] at h;simp only[vv,h]
theorem QR {gl:Nat→C} (hgn: ∀g,aF 0 (gl g) =true) (hg0:gl 0= .kp (cl wC kc)) (hg2:gl 2= .kp (cl wC kc)) (M:Nat) :CxOK (aN gl M AC) :=bv (N:=0) (QP hgn hg0 hg2 0) QQ fun q0=>YE (QP hgn hg0 hg2 0) (by intros;(iterate 26 refine (aW (by decide) _).trans ?_);apply Ab<;>first|assumption|omega) (by intros;(iterate 3 refine (aW (by decide) _).trans ?_);apply vo<;>first|assumption|omega) (by intros;(iterate 1 refine (aW (by decide) _).trans ?_);apply Ju<;>first|assumption|omega) ((q0.1.1)) ((q0.1.2.1)) ((q0.1.2.2)) q0.2
theorem Jx: ∀ (g:Nat) (xs:List C),noRefs 0 xs=false→AC g xs=none:=bV VR QQ
theorem VT (l:List ab) (x:List UInt8) (y:List UInt8) (hc0:LB l) :AC 24 [sl eC .no l,.val (str x),.val (str y)] =some (.tup [.agg [.val (nI (db l x y).1.1),.val (nI (db l x y).1.2.1),sl eC .no (db l x y).1.2.2.1,sl dC .no (db l x y).1.2.2.2],.val (nI (db l x y).2)]) :=
 (bL _).trans (bu Z1 ⟨(l,x,y),hc0⟩)
abbrev Jy:= {q0: (List UInt8)×Int×Int×(List ab)×(List ce) // ((q0.1).length=16)∧(-9223372036854775808≤(q0.2.1)∧(q0.2.1)≤9223372036854775807)∧(-9223372036854775808≤(q0.2.2.1)∧(q0.2.2.1)≤9223372036854775807)∧(LB (q0.2.2.2.1))∧((q0.2.2.2.2).length≤1000000)}
def px (q0:Jy) :List C:= [.agg [.val (.int .i64 (q0.1.2.1)),.val (.int .i64 (q0.1.2.2.1)),sl eC .no (q0.1.2.2.2.1),sl dC .no (q0.1.2.2.2.2)],.agg (cl bC (q0.1.1))]
noncomputable def vw (q0:Jy) :C:= .val (.bool (dY (q0.1.1) (q0.1.2.1) (q0.1.2.2.1) (q0.1.2.2.2.1) (q0.1.2.2.2.2)))
noncomputable def AD:Nat→List C→Option C:=Sx.ext AC 61 (cd px vw)
theorem QS (x:Jy) :noRefs 0 (px x) =true:=by
 simp only[px,aL,bn,bq,bz,aS,aT,ax,aC,aM,Bool.and_self,Bool.and_true,bH,bA,bI,bJ]
theorem Z2 (x y:Jy) (h:px x=px y) :vw x=vw y:=by
 simp only[px,List.cons.injEq,C.val.injEq,C.agg.injEq,C.kp.injEq,C.fn.injEq,cq,bZ,b9,cn,cm,b7,ch,ca,Value.int.injEq,Value.bool.injEq,true_and,and_true] at h;simp only[vw,h]
theorem QT {gl:Nat→C} (hgn: ∀g,aF 0 (gl g) =true) (hg0:gl 0= .kp (cl wC kc)) (hg2:gl 2= .kp (cl wC kc)) (M:Nat) :CxOK (aN gl M AD) :=bv (N:=0) (QR hgn hg0 hg2 0) QS fun q0=>U8 (QR hgn hg0 hg2 0) Jx (by intros;(iterate 27 refine (aW (by decide) _).trans ?_);apply Ab<;>first|assumption|omega) (by intros;(iterate 16 refine (aW (by decide) _).trans ?_);apply I8<;>first|assumption|omega) (by intros;(iterate 15 refine (aW (by decide) _).trans ?_);apply Ja<;>first|assumption|omega) (by intros;(iterate 14 refine (aW (by decide) _).trans ?_);apply An<;>first|assumption|omega) (by intros;(iterate 13 refine (aW (by decide) _).trans ?_);apply Jd<;>first|assumption|omega) ((q0.1.1)) ((q0.1.2.1)) ((q0.1.2.2.1)) ((q0.1.2.2.2.1)) ((q0.1.2.2.2.2)) q0.2.1 q0.2.2.1 q0.2.2.2.1 q0.2.2.2.2.1 q0.2.2.2.2.2
theorem VU: ∀ (g:Nat) (xs:List C),noRefs 0 xs=false→AD g xs=none:=bV Jx QS
theorem Jz (r:List UInt8) (f:Int) (z:Int) (l:List ab) (S:List ce) (hc0:r.length=16) (hc1: -9223372036854775808≤f∧f≤9223372036854775807) (hc2: -9223372036854775808≤z∧z≤9223372036854775807) (hc3:LB l) (hc4:S.length≤1000000) :AD 61 [.agg [.val (.int .i64 f),.val (.int .i64 z),sl eC .no l,sl dC .no S],.agg (cl bC r)] =some (.val (.bool (dY r f z l S))) :=
 (bL _).trans (bu Z2 ⟨(r,f,z,l,S),⟨hc0,hc1,hc2,hc3,hc4⟩⟩)
abbrev JA:= {q0: (List UInt8)×(List UInt8)×Int×Int×(List ab)×(List ce) // ((q0.1).length=16)∧(-9223372036854775808≤(q0.2.2.1)∧(q0.2.2.1)≤9223372036854775807)∧(-9223372036854775808≤(q0.2.2.2.1)∧(q0.2.2.2.1)≤9223372036854775807)∧(LB (q0.2.2.2.2.1))∧((q0.2.2.2.2.2).length≤1000000)}
def py (q0:JA) :List C:= [.agg (cl bC (q0.1.1)),.val (str (q0.1.2.1)),.agg [.val (.int .i64 (q0.1.2.2.1)),.val (.int .i64 (q0.1.2.2.2.1)),sl eC .no (q0.1.2.2.2.2.1),sl dC .no (q0.1.2.2.2.2.2)]]
noncomputable def vx (q0:JA) :C:= .tup [.val (str (eo (q0.1.1) (q0.1.2.1) (q0.1.2.2.1) (q0.1.2.2.2.1) (q0.1.2.2.2.2.1) (q0.1.2.2.2.2.2)).1),.val (.bool (eo (q0.1.1) (q0.1.2.1) (q0.1.2.2.1) (q0.1.2.2.2.1) (q0.1.2.2.2.2.1) (q0.1.2.2.2.2.2)).2.1),.val (nI (eo (q0.1.1) (q0.1.2.1) (q0.1.2.2.1) (q0.1.2.2.2.1) (q0.1.2.2.2.2.1) (q0.1.2.2.2.2.2)).2.2)]
noncomputable def AE:Nat→List C→Option C:=Sx.ext AD 29 (cd py vx)
theorem QU (x:JA) :noRefs 0 (py x) =true:=by
 simp only[py,aL,bn,bq,bz,aS,aT,ax,aC,aM,Bool.and_self,Bool.and_true,bH,bA,bI,bJ]
theorem Z3 (x y:JA) (h:py x=py y) :vx x=vx y:=by
 simp only[py,List.cons.injEq,C.val.injEq,C.agg.injEq,C.kp.injEq,C.fn.injEq,cq,bZ,b9,cn,cm,b7,ch,ca,Value.int.injEq,Value.bool.injEq,true_and,and_true] at h;simp only[vx,h]
theorem QV {gl:Nat→C} (hgn: ∀g,aF 0 (gl g) =true) (hg0:gl 0= .kp (cl wC kc)) (hg2:gl 2= .kp (cl wC kc)) (M:Nat) :CxOK (aN gl M AE) :=bv (N:=0) (QT hgn hg0 hg2 0) QU fun q0=>YG (QT hgn hg0 hg2 0) (by intros;apply Jz<;>first|assumption|omega) (by intros;(iterate 5 refine (aW (by decide) _).trans ?_);apply vo<;>first|assumption|omega) ((q0.1.1)) ((q0.1.2.1)) ((q0.1.2.2.1)) ((q0.1.2.2.2.1)) ((q0.1.2.2.2.2.1)) ((q0.1.2.2.2.2.2)) q0.2.1 q0.2.2.1 q0.2.2.2.1 q0.2.2.2.2.1 q0.2.2.2.2.2
theorem VV: ∀ (g:Nat) (xs:List C),noRefs 0 xs=false→AE g xs=none:=bV VU QU
theorem JB (r:List UInt8) (k:List UInt8) (f:Int) (z:Int) (l:List ab) (S:List ce) (hc0:r.length=16) (hc1: -9223372036854775808≤f∧f≤9223372036854775807) (hc2: -9223372036854775808≤z∧z≤9223372036854775807) (hc3:LB l) (hc4:S.length≤1000000) :AE 29 [.agg (cl bC r),.val (str k),.agg [.val (.int .i64 f),.val (.int .i64 z),sl eC .no l,sl dC .no S]] =some (.tup [.val (str (eo r k f z l S).1),.val (.bool (eo r k f z l S).2.1),.val (nI (eo r k f z l S).2.2)]) :=
 (bL _).trans (bu Z3 ⟨(r,k,f,z,l,S),⟨hc0,hc1,hc2,hc3,hc4⟩⟩)
abbrev JC:= {q0: (List UInt8)×(List UInt8)×(List UInt8)×Int×Int×(List ab)×(List ce) // ((q0.1).length=16)∧(-9223372036854775808≤(q0.2.2.2.1)∧(q0.2.2.2.1)≤9223372036854775807)∧(-9223372036854775808≤(q0.2.2.2.2.1)∧(q0.2.2.2.2.1)≤9223372036854775807)∧(LB (q0.2.2.2.2.2.1))∧((q0.2.2.2.2.2.2).length≤1000000)}
def pz (q0:JC) :List C:= [.agg (cl bC (q0.1.1)),.val (str (q0.1.2.1)),.val (str (q0.1.2.2.1)),.agg [.val (.int .i64 (q0.1.2.2.2.1)),.val (.int .i64 (q0.1.2.2.2.2.1)),sl eC .no (q0.1.2.2.2.2.2.1),sl dC .no (q0.1.2.2.2.2.2.2)]]
noncomputable def vy (q0:JC) :C:= .tup [sl eC .no (fo (q0.1.1) (q0.1.2.1) (q0.1.2.2.1) (q0.1.2.2.2.1) (q0.1.2.2.2.2.1) (q0.1.2.2.2.2.2.1) (q0.1.2.2.2.2.2.2)).1,.val (nI (fo (q0.1.1) (q0.1.2.1) (q0.1.2.2.1) (q0.1.2.2.2.1) (q0.1.2.2.2.2.1) (q0.1.2.2.2.2.2.1) (q0.1.2.2.2.2.2.2)).2)]
noncomputable def AF:Nat→List C→Option C:=Sx.ext AE 32 (cd pz vy)
theorem QW (x:JC) :noRefs 0 (pz x) =true:=by
 simp only[pz,aL,bn,bq,bz,aS,aT,ax,aC,aM,Bool.and_self,Bool.and_true,bH,bA,bI,bJ]
theorem Z4 (x y:JC) (h:pz x=pz y) :vy x=vy y:=by
 simp only[pz,List.cons.injEq,C.val.injEq,C.agg.injEq,C.kp.injEq,C.fn.injEq,cq,bZ,b9,cn,cm,b7,ch,ca,Value.int.injEq,Value.bool.injEq,true_and,and_true] at h;simp only[vy,h]
theorem QX {gl:Nat→C} (hgn: ∀g,aF 0 (gl g) =true) (hg0:gl 0= .kp (cl wC kc)) (hg2:gl 2= .kp (cl wC kc)) (M:Nat) :CxOK (aN gl M AF) :=bv (N:=0) (QV hgn hg0 hg2 0) QW fun q0=>YH (QV hgn hg0 hg2 0) (by intros;(iterate 1 refine (aW (by decide) _).trans ?_);apply Jz<;>first|assumption|omega) (by intros;(iterate 6 refine (aW (by decide) _).trans ?_);apply vo<;>first|assumption|omega) (by intros;(iterate 5 refine (aW (by decide) _).trans ?_);apply Js<;>first|assumption|omega) ((q0.1.1)) ((q0.1.2.1)) ((q0.1.2.2.1)) ((q0.1.2.2.2.1)) ((q0.1.2.2.2.2.1)) ((q0.1.2.2.2.2.2.1)) ((q0.1.2.2.2.2.2.2)) q0.2.1 q0.2.2.1 q0.2.2.2.1 q0.2.2.2.2.1 q0.2.2.2.2.2
theorem VW: ∀ (g:Nat) (xs:List C),noRefs 0 xs=false→AF g xs=none:=bV VV QW
theorem JD (r:List UInt8) (x:List UInt8) (y:List UInt8) (f:Int) (z:Int) (l:List ab) (S:List ce) (hc0:r.length=16) (hc1: -9223372036854775808≤f∧f≤9223372036854775807) (hc2: -9223372036854775808≤z∧z≤9223372036854775807) (hc3:LB l) (hc4:S.length≤1000000) :AF 32 [.agg (cl bC r),.val (str x),.val (str y),.agg [.val (.int .i64 f),.val (.int .i64 z),sl eC .no l,sl dC .no S]] =some (.tup [sl eC .no (fo r x y f z l S).1,.val (nI (fo r x y f z l S).2)]) :=
 (bL _).trans (bu Z4 ⟨(r,x,y,f,z,l,S),⟨hc0,hc1,hc2,hc3,hc4⟩⟩)
abbrev JE:= {q0:Unit // True}
def rR (q0:JE) :List C:= ([] :List C)
noncomputable def AG (q0:JE) :C:=sl eC .full cQ
noncomputable def AH:Nat→List C→Option C:=Sx.ext AF 55 (cd rR AG)
theorem QY (x:JE) :noRefs 0 (rR x) =true:=by
 simp only[rR,aL,bn,bq,bz,aS,aT,ax,aC,aM,Bool.and_self,Bool.and_true,bH,bA,bI,bJ]
theorem Z5 (x y:JE) (h:rR x=rR y) :AG x=AG y:=by
 rfl
theorem QZ {gl:Nat→C} (hgn: ∀g,aF 0 (gl g) =true) (hg0:gl 0= .kp (cl wC kc)) (hg2:gl 2= .kp (cl wC kc)) (M:Nat) :CxOK (aN gl M AH) :=bv (N:=0) (QX hgn hg0 hg2 0) QY fun q0=>YL (QX hgn hg0 hg2 0)
theorem VX: ∀ (g:Nat) (xs:List C),noRefs 0 xs=false→AH g xs=none:=bV VW QY
theorem VY:AH 55 ([] :List C) =some (sl eC .full cQ) :=
 (bL _).trans (bu Z5 ⟨(),trivial⟩)
abbrev JF:= {q0:Unit // True}
def rS (q0:JF) :List C:= ([] :List C)
noncomputable def AI (q0:JF) :C:= .val (.bool true)
noncomputable def AJ:Nat→List C→Option C:=Sx.ext AH 19 (cd rS AI)
theorem Q0 (x:JF) :noRefs 0 (rS x) =true:=by
 simp only[rS,aL,bn,bq,bz,aS,aT,ax,aC,aM,Bool.and_self,Bool.and_true,bH,bA,bI,bJ]
theorem Z6 (x y:JF) (h:rS x=rS y) :AI x=AI y:=by
 rfl
theorem Q1 {gl:Nat→C} (hgn: ∀g,aF 0 (gl g) =true) (hg0:gl 0= .kp (cl wC kc)) (hg2:gl 2= .kp (cl wC kc)) (M:Nat) :CxOK (aN gl M AJ) :=bv (N:=0) (QZ hgn hg0 hg2 0) Q0 fun q0=>YM (QZ hgn hg0 hg2 0) (by intros;(iterate 14 refine (aW (by decide) _).trans ?_);apply Ji<;>first|assumption|omega) (by intros;(iterate 5 refine (aW (by decide) _).trans ?_);apply VS<;>first|assumption|omega) (by intros;(iterate 4 refine (aW (by decide) _).trans ?_);apply VT<;>first|assumption|omega) (by intros;(iterate 2 refine (aW (by decide) _).trans ?_);apply JB<;>first|assumption|omega) (by intros;(iterate 1 refine (aW (by decide) _).trans ?_);apply JD<;>first|assumption|omega) (by intros;apply VY<;>first|assumption|omega)
theorem VZ: ∀ (g:Nat) (xs:List C),noRefs 0 xs=false→AJ g xs=none:=bV VX Q0
theorem V0:AJ 19 ([] :List C) =some (.val (.bool true)) :=
 (bL _).trans (bu Z6 ⟨(),trivial⟩)
abbrev JG:= {q0: (List ab)×Int // ((q0.1).length≤1000000)∧(∀i,i< (q0.1).length→(gt (q0.1) i).1.length< 1000000)∧(-9223372036854775808≤(q0.2)∧(q0.2)≤9223372036854775807)}
def pA (q0:JG) :List C:= [sl eC .no (q0.1.1),.val (.int .i64 (q0.1.2))]
noncomputable def vz (q0:JG) :C:= .val (str (lS (q0.1.1) (q0.1.2)))
noncomputable def AK:Nat→List C→Option C:=Sx.ext AJ 20 (cd pA vz)
theorem Q2 (x:JG) :noRefs 0 (pA x) =true:=by
 simp only[pA,aL,bn,bq,bz,aS,aT,ax,aC,aM,Bool.and_self,Bool.and_true,bH,bA,bI,bJ]
theorem Z7 (x y:JG) (h:pA x=pA y) :vz x=vz y:=by
 simp only[pA,List.cons.injEq,C.val.injEq,C.agg.injEq,C.kp.injEq,C.fn.injEq,cq,bZ,b9,cn,cm,b7,ch,ca,Value.int.injEq,Value.bool.injEq,true_and,and_true] at h;simp only[vz,h]
theorem Q3 {gl:Nat→C} (hgn: ∀g,aF 0 (gl g) =true) (hg0:gl 0= .kp (cl wC kc)) (hg2:gl 2= .kp (cl wC kc)) (M:Nat) :CxOK (aN gl M AK) :=bv (N:=0) (Q1 hgn hg0 hg2 0) Q2 fun q0=>aaC (Q1 hgn hg0 hg2 0) (by intros;(iterate 39 refine (aW (by decide) _).trans ?_);apply FN<;>first|assumption|omega) (by intros;(iterate 37 refine (aW (by decide) _).trans ?_);apply FO<;>first|assumption|omega) ((q0.1.1)) ((q0.1.2)) q0.2.1 q0.2.2.1 q0.2.2.2
theorem V1: ∀ (g:Nat) (xs:List C),noRefs 0 xs=false→AK g xs=none:=bV VZ Q2
theorem V2 (l:List ab) (n:Int) (hc0:l.length≤1000000) (hc1: ∀i,i< l.length→(gt l i).1.length< 1000000) (hc2: -9223372036854775808≤n∧n≤9223372036854775807) :AK 20 [sl eC .no l,.val (.int .i64 n)] =some (.val (str (lS l n))) :=
 (bL _).trans (bu Z7 ⟨(l,n),⟨hc0,hc1,hc2⟩⟩)
abbrev JH:= {q0: (List ab) // (LB (q0))}
def pB (q0:JH) :List C:= [sl eC .no (q0.1)]
noncomputable def vA (q0:JH) :C:= .val (nI (cV (q0.1)))
noncomputable def AL:Nat→List C→Option C:=Sx.ext AK 16 (cd pB vA)
theorem Q4 (x:JH) :noRefs 0 (pB x) =true:=by
 simp only[pB,aL,bn,bq,bz,aS,aT,ax,aC,aM,Bool.and_self,Bool.and_true,bH,bA,bI,bJ]
theorem Z9 (x y:JH) (h:pB x=pB y) :vA x=vA y:=by
 simp only[pB,List.cons.injEq,C.val.injEq,C.agg.injEq,C.kp.injEq,C.fn.injEq,cq,bZ,b9,cn,cm,b7,ch,ca,Value.int.injEq,Value.bool.injEq,true_and,and_true] at h;simp only[vA,h]
theorem Q5 {gl:Nat→C} (hgn: ∀g,aF 0 (gl g) =true) (hg0:gl 0= .kp (cl wC kc)) (hg2:gl 2= .kp (cl wC kc)) (M:Nat) :CxOK (aN gl M AL) :=bv (N:=0) (Q3 hgn hg0 hg2 0) Q4 fun q0=>Y5 (Q3 hgn hg0 hg2 0) ((q0.1)) q0.2
theorem V3: ∀ (g:Nat) (xs:List C),noRefs 0 xs=false→AL g xs=none:=bV V1 Q4
theorem JI (l:List ab) (hc0:LB l) :AL 16 [sl eC .no l] =some (.val (nI (cV l))) :=
 (bL _).trans (bu Z9 ⟨(l),hc0⟩)
abbrev JJ:= {q0: (List ab)×(List UInt8) // ((q0.1).length≤1000000)}
def pD (q0:JJ) :List C:= [sl eC .no (q0.1.1),.val (str (q0.1.2))]
noncomputable def vB (q0:JJ) :C:= .val (nI (br (q0.1.1) (q0.1.2)))
noncomputable def AM:Nat→List C→Option C:=Sx.ext AL 58 (cd pD vB)
theorem Q6 (x:JJ) :noRefs 0 (pD x) =true:=by
 simp only[pD,aL,bn,bq,bz,aS,aT,ax,aC,aM,Bool.and_self,Bool.and_true,bH,bA,bI,bJ]
theorem aaa (x y:JJ) (h:pD x=pD y) :vB x=vB y:=by
 simp only[pD,List.cons.injEq,C.val.injEq,C.agg.injEq,C.kp.injEq,C.fn.injEq,cq,bZ,b9,cn,cm,b7,ch,ca,Value.int.injEq,Value.bool.injEq,true_and,and_true] at h;simp only[vB,h]
theorem Q7 {gl:Nat→C} (hgn: ∀g,aF 0 (gl g) =true) (hg0:gl 0= .kp (cl wC kc)) (hg2:gl 2= .kp (cl wC kc)) (M:Nat) :CxOK (aN gl M AM) :=bv (N:=0) (Q5 hgn hg0 hg2 0) Q6 fun q0=>aay (Q5 hgn hg0 hg2 0) ((q0.1.1)) ((q0.1.2)) q0.2
theorem V4: ∀ (g:Nat) (xs:List C),noRefs 0 xs=false→AM g xs=none:=bV V3 Q6
theorem JK (l:List ab) (k:List UInt8) (hc0:l.length≤1000000) :AM 58 [sl eC .no l,.val (str k)] =some (.val (nI (br l k))) :=
 (bL _).trans (bu aaa ⟨(l,k),hc0⟩)
abbrev JL:= {q0: (List ab)×(List UInt8) // ((q0.1).length≤1000000)}
def pE (q0:JL) :List C:= [sl eC .no (q0.1.1),.val (str (q0.1.2))]
noncomputable def vC (q0:JL) :C:= .val (.int .i64 (g5 (q0.1.1) (q0.1.2)))
noncomputable def AO:Nat→List C→Option C:=Sx.ext AM 35 (cd pE vC)
theorem Q8 (x:JL) :noRefs 0 (pE x) =true:=by
 simp only[pE,aL,bn,bq,bz,aS,aT,ax,aC,aM,Bool.and_self,Bool.and_true,bH,bA,bI,bJ]
theorem aab (x y:JL) (h:pE x=pE y) :vC x=vC y:=by
 simp only[pE,List.cons.injEq,C.val.injEq,C.agg.injEq,C.kp.injEq,C.fn.injEq,cq,bZ,b9,cn,cm,b7,ch,ca,Value.int.injEq,Value.bool.injEq,true_and,and_true] at h;simp only[vC,h]
theorem Q9 {gl:Nat→C} (hgn: ∀g,aF 0 (gl g) =true) (hg0:gl 0= .kp (cl wC kc)) (hg2:gl 2= .kp (cl wC kc)) (M:Nat) :CxOK (aN gl M AO) :=bv (N:=0) (Q7 hgn hg0 hg2 0) Q8 fun q0=>aaz (Q7 hgn hg0 hg2 0) ((q0.1.1)) ((q0.1.2)) q0.2
theorem V5: ∀ (g:Nat) (xs:List C),noRefs 0 xs=false→AO g xs=none:=bV V4 Q8
theorem JM (l:List ab) (k:List UInt8) (hc0:l.length≤1000000) :AO 35 [sl eC .no l,.val (str k)] =some (.val (.int .i64 (g5 l k))) :=
 (bL _).trans (bu aab ⟨(l,k),hc0⟩)
abbrev JN:= {q0:Int // (-9223372036854775808≤(q0)∧(q0)≤9223372036854775807)}
def pF (q0:JN) :List C:= [.val (.int .i64 (q0.1))]
noncomputable def vE (q0:JN) :C:=sl bC (.own 1) (cW (q0.1))
noncomputable def AP:Nat→List C→Option C:=Sx.ext AO 83 (cd pF vE)
theorem Ra (x:JN) :noRefs 0 (pF x) =true:=by
 simp only[pF,aL,bn,bq,bz,aS,aT,ax,aC,aM,Bool.and_self,Bool.and_true,bH,bA,bI,bJ]
theorem aac (x y:JN) (h:pF x=pF y) :vE x=vE y:=by
 simp only[pF,List.cons.injEq,C.val.injEq,C.agg.injEq,C.kp.injEq,C.fn.injEq,cq,bZ,b9,cn,cm,b7,ch,ca,Value.int.injEq,Value.bool.injEq,true_and,and_true] at h;simp only[vE,h]
theorem Rb {gl:Nat→C} (hgn: ∀g,aF 0 (gl g) =true) (hg0:gl 0= .kp (cl wC kc)) (hg2:gl 2= .kp (cl wC kc)) (M:Nat) :CxOK (aN gl M AP) :=bv (N:=0) (Q9 hgn hg0 hg2 0) Ra fun q0=>Y0 (Q9 hgn hg0 hg2 0) ((q0.1)) q0.2
theorem V6: ∀ (g:Nat) (xs:List C),noRefs 0 xs=false→AP g xs=none:=bV V5 Ra
theorem JO (n:Int) (hc0: -9223372036854775808≤n∧n≤9223372036854775807) :AP 83 [.val (.int .i64 n)] =some (sl bC (.own 1) (cW n)) :=
 (bL _).trans (bu aac ⟨(n),hc0⟩)
abbrev JP:= {q0: (List UInt8) // ((q0).length< 70368744177664)}
def pG (q0:JP) :List C:= [.val (str (q0.1))]
noncomputable def vF (q0:JP) :C:=sl bC (.own 1) (wb (q0.1))
noncomputable def AQ:Nat→List C→Option C:=Sx.ext AP 95 (cd pG vF)
theorem Rc (x:JP) :noRefs 0 (pG x) =true:=by
 simp only[pG,aL,bn,bq,bz,aS,aT,ax,aC,aM,Bool.and_self,Bool.and_true,bH,bA,bI,bJ]
theorem aad (x y:JP) (h:pG x=pG y) :vF x=vF y:=by
 simp only[pG,List.cons.injEq,C.val.injEq,C.agg.injEq,C.kp.injEq,C.fn.injEq,cq,bZ,b9,cn,cm,b7,ch,ca,Value.int.injEq,Value.bool.injEq,true_and,and_true] at h;simp only[vF,h]
theorem Rd {gl:Nat→C} (hgn: ∀g,aF 0 (gl g) =true) (hg0:gl 0= .kp (cl wC kc)) (hg2:gl 2= .kp (cl wC kc)) (M:Nat) :CxOK (aN gl M AQ) :=bv (N:=0) (Rb hgn hg0 hg2 0) Rc fun q0=>aaO (Rb hgn hg0 hg2 0) (by intros;rename_i m hm;exact (JO (m:Int) (by omega)).trans (by rw[ii])) ((q0.1)) q0.2
theorem V7: ∀ (g:Nat) (xs:List C),noRefs 0 xs=false→AQ g xs=none:=bV V6 Rc
theorem V8 (s:List UInt8) (hc0:s.length< 70368744177664) :AQ 95 [.val (str s)] =some (sl bC (.own 1) (wb s)) :=
 (bL _).trans (bu aad ⟨(s),hc0⟩)
abbrev JQ:= {q0:Int×(List (List UInt8)) // ((cK (q0.1) (q0.2)).length< 1099511627776)}
def pH (q0:JQ) :List C:= [.val (.int .i64 (q0.1.1)),sl sC .no (q0.1.2)]
noncomputable def vH (q0:JQ) :C:=sl bC (.own 1) (cK (q0.1.1) (q0.1.2))
noncomputable def AS:Nat→List C→Option C:=Sx.ext AQ 65 (cd pH vH)
theorem Re (x:JQ) :noRefs 0 (pH x) =true:=by
 simp only[pH,aL,bn,bq,bz,aS,aT,ax,aC,aM,Bool.and_self,Bool.and_true,bH,bA,bI,bJ]
theorem aae (x y:JQ) (h:pH x=pH y) :vH x=vH y:=by
 simp only[pH,List.cons.injEq,C.val.injEq,C.agg.injEq,C.kp.injEq,C.fn.injEq,cq,bZ,b9,cn,cm,b7,ch,ca,Value.int.injEq,Value.bool.injEq,true_and,and_true] at h;simp only[vH,h]
theorem Rf {gl:Nat→C} (hgn: ∀g,aF 0 (gl g) =true) (hg0:gl 0= .kp (cl wC kc)) (hg2:gl 2= .kp (cl wC kc)) (M:Nat) :CxOK (aN gl M AS) :=bv (N:=0) (Rd hgn hg0 hg2 0) Re fun q0=>aaS (Rd hgn hg0 hg2 0) (by intros;apply V8<;>first|assumption|omega) ((q0.1.1)) ((q0.1.2)) q0.2
theorem V9: ∀ (g:Nat) (xs:List C),noRefs 0 xs=false→AS g xs=none:=bV V7 Re
theorem JR (tag:Int) (parts:List (List UInt8)) (hc0: (cK tag parts).length< 1099511627776) :AS 65 [.val (.int .i64 tag),sl sC .no parts] =some (sl bC (.own 1) (cK tag parts)) :=
 (bL _).trans (bu aae ⟨(tag,parts),hc0⟩)
abbrev JS:= {q0: (List UInt8) // ((q0).length< 35184372088832)}
def pI (q0:JS) :List C:= [sl bC .no (q0.1)]
noncomputable def vI (q0:JS) :C:=sl bC (.own 1) ((q0.1)++lp (q0.1).length)
noncomputable def AT:Nat→List C→Option C:=Sx.ext AS 108 (cd pI vI)
theorem Rg (x:JS) :noRefs 0 (pI x) =true:=by
 simp only[pI,aL,bn,bq,bz,aS,aT,ax,aC,aM,Bool.and_self,Bool.and_true,bH,bA,bI,bJ]
theorem aaf (x y:JS) (h:pI x=pI y) :vI x=vI y:=by
 simp only[pI,List.cons.injEq,C.val.injEq,C.agg.injEq,C.kp.injEq,C.fn.injEq,cq,bZ,b9,cn,cm,b7,ch,ca,Value.int.injEq,Value.bool.injEq,true_and,and_true] at h;simp only[vI,h]
theorem Rh {gl:Nat→C} (hgn: ∀g,aF 0 (gl g) =true) (hg0:gl 0= .kp (cl wC kc)) (hg2:gl 2= .kp (cl wC kc)) (M:Nat) :CxOK (aN gl M AT) :=bv (N:=0) (Rf hgn hg0 hg2 0) Rg fun q0=>W4 (Rf hgn hg0 hg2 0) ((q0.1)) q0.2
theorem Wa: ∀ (g:Nat) (xs:List C),noRefs 0 xs=false→AT g xs=none:=bV V9 Rg
theorem Wb (b:List UInt8) (hc0:b.length< 35184372088832) :AT 108 [sl bC .no b] =some (sl bC (.own 1) (b++lp b.length)) :=
 (bL _).trans (bu aaf ⟨(b),hc0⟩)
abbrev JT:= {q0: (BitVec 32)×Nat // ((q0.2) < 32)}
def pJ (q0:JT) :List C:= [.val (cA (q0.1.1)),.val (nI (q0.1.2))]
noncomputable def vJ (q0:JT) :C:= .val (cA (rr (q0.1.1) (q0.1.2)))
noncomputable def AU:Nat→List C→Option C:=Sx.ext AT 110 (cd pJ vJ)
theorem Ri (x:JT) :noRefs 0 (pJ x) =true:=by
 simp only[pJ,aL,bn,bq,bz,aS,aT,ax,aC,aM,Bool.and_self,Bool.and_true,bH,bA,bI,bJ]
theorem aag (x y:JT) (h:pJ x=pJ y) :vJ x=vJ y:=by
 simp only[pJ,List.cons.injEq,C.val.injEq,C.agg.injEq,C.kp.injEq,C.fn.injEq,cq,bZ,b9,cn,cm,b7,ch,ca,Value.int.injEq,Value.bool.injEq,true_and,and_true] at h;simp only[vJ,h]
theorem Rj {gl:Nat→C} (hgn: ∀g,aF 0 (gl g) =true) (hg0:gl 0= .kp (cl wC kc)) (hg2:gl 2= .kp (cl wC kc)) (M:Nat) :CxOK (aN gl M AU) :=bv (N:=0) (Rh hgn hg0 hg2 0) Ri fun q0=>WR (Rh hgn hg0 hg2 0) ((q0.1.1)) ((q0.1.2)) q0.2
theorem Wc: ∀ (g:Nat) (xs:List C),noRefs 0 xs=false→AU g xs=none:=bV Wa Ri
theorem JU (x:BitVec 32) (n:Nat) (hc0:n< 32) :AU 110 [.val (cA x),.val (nI n)] =some (.val (cA (rr x n))) :=
 (bL _).trans (bu aag ⟨(x,n),hc0⟩)
abbrev JV:= {q0: (List UInt8) // ((q0).length=64)}
def pK (q0:JV) :List C:= [sl bC .no (q0.1)]
noncomputable def vK (q0:JV) :C:= .agg (cl wC (cb (q0.1) 64))
noncomputable def AV:Nat→List C→Option C:=Sx.ext AU 109 (cd pK vK)
theorem Rk (x:JV) :noRefs 0 (pK x) =true:=by
 simp only[pK,aL,bn,bq,bz,aS,aT,ax,aC,aM,Bool.and_self,Bool.and_true,bH,bA,bI,bJ]
theorem aah (x y:JV) (h:pK x=pK y) :vK x=vK y:=by
 simp only[pK,List.cons.injEq,C.val.injEq,C.agg.injEq,C.kp.injEq,C.fn.injEq,cq,bZ,b9,cn,cm,b7,ch,ca,Value.int.injEq,Value.bool.injEq,true_and,and_true] at h;simp only[vK,h]
theorem Rl {gl:Nat→C} (hgn: ∀g,aF 0 (gl g) =true) (hg0:gl 0= .kp (cl wC kc)) (hg2:gl 2= .kp (cl wC kc)) (M:Nat) :CxOK (aN gl M AV) :=bv (N:=0) (Rj hgn hg0 hg2 0) Rk fun q0=>W5 (Rj hgn hg0 hg2 0) (by intros;apply JU<;>first|assumption|omega) ((q0.1)) q0.2
theorem Wd: ∀ (g:Nat) (xs:List C),noRefs 0 xs=false→AV g xs=none:=bV Wc Rk
theorem We (b:List UInt8) (hc0:b.length=64) :AV 109 [sl bC .no b] =some (.agg (cl wC (cb b 64))) :=
 (bL _).trans (bu aah ⟨(b),hc0⟩)
abbrev JW:= {q0: (List UInt8) // ((q0).length< 35184372088832)}
def pL (q0:JW) :List C:= [sl bC .no (q0.1)]
noncomputable def vL (q0:JW) :C:= .agg (cl bC (eQ (q0.1)))
noncomputable def AW:Nat→List C→Option C:=Sx.ext AV 94 (cd pL vL)
theorem Rm (x:JW) :noRefs 0 (pL x) =true:=by
 simp only[pL,aL,bn,bq,bz,aS,aT,ax,aC,aM,Bool.and_self,Bool.and_true,bH,bA,bI,bJ]
theorem aai (x y:JW) (h:pL x=pL y) :vL x=vL y:=by
 simp only[pL,List.cons.injEq,C.val.injEq,C.agg.injEq,C.kp.injEq,C.fn.injEq,cq,bZ,b9,cn,cm,b7,ch,ca,Value.int.injEq,Value.bool.injEq,true_and,and_true] at h;simp only[vL,h]
theorem Rn {gl:Nat→C} (hgn: ∀g,aF 0 (gl g) =true) (hg0:gl 0= .kp (cl wC kc)) (hg2:gl 2= .kp (cl wC kc)) (M:Nat) :CxOK (aN gl M AW) :=bv (N:=0) (Rl hgn hg0 hg2 0) Rm fun q0=>aaQ (Rl hgn hg0 hg2 0) hg0 (by intros;(iterate 2 refine (aW (by decide) _).trans ?_);apply Wb<;>first|assumption|omega) (by intros;apply We<;>first|assumption|omega) (by intros;(iterate 1 refine (aW (by decide) _).trans ?_);apply JU<;>first|assumption|omega) ((q0.1)) q0.2
theorem Wf: ∀ (g:Nat) (xs:List C),noRefs 0 xs=false→AW g xs=none:=bV Wd Rm
theorem Wg (b:List UInt8) (hc0:b.length< 35184372088832) :AW 94 [sl bC .no b] =some (.agg (cl bC (eQ b))) :=
 (bL _).trans (bu aai ⟨(b),hc0⟩)
abbrev JX:= {q0: (List UInt8) // ((q0).length< 35184372088832)}
def pM (q0:JX) :List C:= [sl bC .no (q0.1)]
noncomputable def vM (q0:JX) :C:= .agg (cl bC ((eQ (q0.1)).take 16))
noncomputable def AX:Nat→List C→Option C:=Sx.ext AW 64 (cd pM vM)
theorem Ro (x:JX) :noRefs 0 (pM x) =true:=by
 simp only[pM,aL,bn,bq,bz,aS,aT,ax,aC,aM,Bool.and_self,Bool.and_true,bH,bA,bI,bJ]
theorem aaj (x y:JX) (h:pM x=pM y) :vM x=vM y:=by
 simp only[pM,List.cons.injEq,C.val.injEq,C.agg.injEq,C.kp.injEq,C.fn.injEq,cq,bZ,b9,cn,cm,b7,ch,ca,Value.int.injEq,Value.bool.injEq,true_and,and_true] at h;simp only[vM,h]
theorem Rp {gl:Nat→C} (hgn: ∀g,aF 0 (gl g) =true) (hg0:gl 0= .kp (cl wC kc)) (hg2:gl 2= .kp (cl wC kc)) (M:Nat) :CxOK (aN gl M AX) :=bv (N:=0) (Rn hgn hg0 hg2 0) Ro fun q0=>aaR (Rn hgn hg0 hg2 0) (by intros;apply Wg<;>first|assumption|omega) ((q0.1)) q0.2
theorem Wh: ∀ (g:Nat) (xs:List C),noRefs 0 xs=false→AX g xs=none:=bV Wf Ro
theorem JY (b:List UInt8) (hc0:b.length< 35184372088832) :AX 64 [sl bC .no b] =some (.agg (cl bC ((eQ b).take 16))) :=
 (bL _).trans (bu aaj ⟨(b),hc0⟩)
abbrev JZ:= {q0: (List UInt8) // ((q0).length=16)}
def pN (q0:JZ) :List C:= [.agg (cl bC (q0.1))]
noncomputable def vN (q0:JZ) :C:= .val (str (q0.1))
noncomputable def AY:Nat→List C→Option C:=Sx.ext AX 84 (cd pN vN)
theorem Rq (x:JZ) :noRefs 0 (pN x) =true:=by
 simp only[pN,aL,bn,bq,bz,aS,aT,ax,aC,aM,Bool.and_self,Bool.and_true,bH,bA,bI,bJ]
theorem aak (x y:JZ) (h:pN x=pN y) :vN x=vN y:=by
 simp only[pN,List.cons.injEq,C.val.injEq,C.agg.injEq,C.kp.injEq,C.fn.injEq,cq,bZ,b9,cn,cm,b7,ch,ca,Value.int.injEq,Value.bool.injEq,true_and,and_true] at h;simp only[vN,h]
theorem Rr {gl:Nat→C} (hgn: ∀g,aF 0 (gl g) =true) (hg0:gl 0= .kp (cl wC kc)) (hg2:gl 2= .kp (cl wC kc)) (M:Nat) :CxOK (aN gl M AY) :=bv (N:=0) (Rp hgn hg0 hg2 0) Rq fun q0=>aaP (Rp hgn hg0 hg2 0) ((q0.1)) q0.2
theorem Wi: ∀ (g:Nat) (xs:List C),noRefs 0 xs=false→AY g xs=none:=bV Wh Rq
theorem J0 (h:List UInt8) (hc0:h.length=16) :AY 84 [.agg (cl bC h)] =some (.val (str h)) :=
 (bL _).trans (bu aak ⟨(h),hc0⟩)
abbrev J1:= {q0:Nat // ((q0)≤4611686018427387000)}
def pO (q0:J1) :List C:= [.val (nI (q0.1))]
noncomputable def vO (q0:J1) :C:= .val (nI (aU (q0.1)))
noncomputable def AZ:Nat→List C→Option C:=Sx.ext AY 106 (cd pO vO)
theorem Rs (x:J1) :noRefs 0 (pO x) =true:=by
 simp only[pO,aL,bn,bq,bz,aS,aT,ax,aC,aM,Bool.and_self,Bool.and_true,bH,bA,bI,bJ]
theorem aal (x y:J1) (h:pO x=pO y) :vO x=vO y:=by
 simp only[pO,List.cons.injEq,C.val.injEq,C.agg.injEq,C.kp.injEq,C.fn.injEq,cq,bZ,b9,cn,cm,b7,ch,ca,Value.int.injEq,Value.bool.injEq,true_and,and_true] at h;simp only[vO,h]
theorem Ru {gl:Nat→C} (hgn: ∀g,aF 0 (gl g) =true) (hg0:gl 0= .kp (cl wC kc)) (hg2:gl 2= .kp (cl wC kc)) (M:Nat) :CxOK (aN gl M AZ) :=bv (N:=0) (Rr hgn hg0 hg2 0) Rs fun q0=>U6 (Rr hgn hg0 hg2 0) ((q0.1)) q0.2
theorem J2: ∀ (g:Nat) (xs:List C),noRefs 0 xs=false→AZ g xs=none:=bV Wi Rs
theorem J3 (n:Nat) (hc0:n≤4611686018427387000) :AZ 106 [.val (nI n)] =some (.val (nI (aU n))) :=
 (bL _).trans (bu aal ⟨(n),hc0⟩)
abbrev J4:= {q0: (List ab)×Nat×Nat×Nat×Nat // (OkL (q0.1))∧((q0.2.1)≤5000∧(q0.2.2.1)≤5000)∧((q0.2.2.2.1) < (q0.2.2.2.2)∧(q0.2.2.2.2)≤(q0.1).length)}
def pP (q0:J4) :List C:= [sl eC .no (q0.1.1),.val (nI (q0.1.2.1)),.val (nI (q0.1.2.2.1)),.val (nI (q0.1.2.2.2.1)),.val (nI (q0.1.2.2.2.2))]
noncomputable def vP (q0:J4) :C:=sl dC (.own 16) (dz (q0.1.1) (q0.1.2.1) (q0.1.2.2.1) 12 (q0.1.2.2.2.1) (q0.1.2.2.2.2))
noncomputable def A0:Nat→List C→Option C:=Sx.ext AZ 92 (cd pP vP)
theorem Rv (x:J4) :noRefs 0 (pP x) =true:=by
 simp only[pP,aL,bn,bq,bz,aS,aT,ax,aC,aM,Bool.and_self,Bool.and_true,bH,bA,bI,bJ]
theorem aam (x y:J4) (h:pP x=pP y) :vP x=vP y:=by
 simp only[pP,List.cons.injEq,C.val.injEq,C.agg.injEq,C.kp.injEq,C.fn.injEq,cq,bZ,b9,cn,cm,b7,ch,ca,Value.int.injEq,Value.bool.injEq,true_and,and_true] at h;simp only[vP,h]
theorem Rw {gl:Nat→C} (hgn: ∀g,aF 0 (gl g) =true) (hg0:gl 0= .kp (cl wC kc)) (hg2:gl 2= .kp (cl wC kc)) (M:Nat) :CxOK (aN gl M A0) :=bv (N:=0) (Ru hgn hg0 hg2 0) Rv fun q0=>YX (Ru hgn hg0 hg2 0) J2 (by intros;(iterate 7 refine (aW (by decide) _).trans ?_);apply JR<;>first|assumption|omega) (by intros;(iterate 2 refine (aW (by decide) _).trans ?_);apply JY<;>first|assumption|omega) (by intros;(iterate 1 refine (aW (by decide) _).trans ?_);apply J0<;>first|assumption|omega) (by intros;apply J3<;>first|assumption|omega) ((q0.1.1)) ((q0.1.2.1)) ((q0.1.2.2.1)) ((q0.1.2.2.2.1)) ((q0.1.2.2.2.2)) q0.2.1 q0.2.2.1 q0.2.2.2
theorem Wj: ∀ (g:Nat) (xs:List C),noRefs 0 xs=false→A0 g xs=none:=bV J2 Rv
theorem Wk (l:List ab) (f:Nat) (e:Nat) (a:Nat) (b:Nat) (hc0:OkL l) (hc1:f≤5000∧e≤5000) (hc2:a< b∧b≤l.length) :A0 92 [sl eC .no l,.val (nI f),.val (nI e),.val (nI a),.val (nI b)] =some (sl dC (.own 16) (dz l f e 12 a b)) :=
 (bL _).trans (bu aam ⟨(l,f,e,a,b),⟨hc0,hc1,hc2⟩⟩)
abbrev J5:= {q0: (List ab)×Nat×Nat // (OkL (q0.1))∧((q0.2.1)≤(q0.2.2)∧(q0.2.2)≤(q0.1).length)}
def pQ (q0:J5) :List C:= [sl eC .no (q0.1.1),.val (nI (q0.1.2.1)),.val (nI (q0.1.2.2))]
noncomputable def vQ (q0:J5) :C:= .agg [.val (nI (q0.1.2.1)),.val (nI (q0.1.1).length),sl eC .no (((q0.1.1).drop (q0.1.2.1)).take ((q0.1.2.2) - (q0.1.2.1))),sl dC .no (c8 (q0.1.1) (q0.1.2.1) (q0.1.2.2))]
noncomputable def A1:Nat→List C→Option C:=Sx.ext A0 59 (cd pQ vQ)
theorem Rx (x:J5) :noRefs 0 (pQ x) =true:=by
 simp only[pQ,aL,bn,bq,bz,aS,aT,ax,aC,aM,Bool.and_self,Bool.and_true,bH,bA,bI,bJ]
theorem aan (x y:J5) (h:pQ x=pQ y) :vQ x=vQ y:=by
 simp only[pQ,List.cons.injEq,C.val.injEq,C.agg.injEq,C.kp.injEq,C.fn.injEq,cq,bZ,b9,cn,cm,b7,ch,ca,Value.int.injEq,Value.bool.injEq,true_and,and_true] at h;simp only[vQ,h]
theorem Ry {gl:Nat→C} (hgn: ∀g,aF 0 (gl g) =true) (hg0:gl 0= .kp (cl wC kc)) (hg2:gl 2= .kp (cl wC kc)) (M:Nat) :CxOK (aN gl M A1) :=bv (N:=0) (Rw hgn hg0 hg2 0) Rx fun q0=>YO (Rw hgn hg0 hg2 0) (by intros;apply Wk<;>first|assumption|omega) ((q0.1.1)) ((q0.1.2.1)) ((q0.1.2.2)) q0.2.1 q0.2.2
theorem Wl: ∀ (g:Nat) (xs:List C),noRefs 0 xs=false→A1 g xs=none:=bV Wj Rx
theorem J6 (l:List ab) (f:Nat) (e:Nat) (hc0:OkL l) (hc1:f≤e∧e≤l.length) :A1 59 [sl eC .no l,.val (nI f),.val (nI e)] =some (.agg [.val (nI f),.val (nI l.length),sl eC .no ((l.drop f).take (e - f)),sl dC .no (c8 l f e)]) :=
 (bL _).trans (bu aan ⟨(l,f,e),⟨hc0,hc1⟩⟩)
abbrev J7:= {q0: (List ab)×(List UInt8) // (LB (q0.1))}
def pR (q0:J7) :List C:= [sl eC .no (q0.1.1),.val (str (q0.1.2))]
noncomputable def vR (q0:J7) :C:= .tup [.agg [.val (nI (da (q0.1.1) (q0.1.2)).1.1),.val (nI (da (q0.1.1) (q0.1.2)).1.2.1),sl eC .no (da (q0.1.1) (q0.1.2)).1.2.2.1,sl dC .no (da (q0.1.1) (q0.1.2)).1.2.2.2],.val (nI (da (q0.1.1) (q0.1.2)).2)]
noncomputable def A2:Nat→List C→Option C:=Sx.ext A1 23 (cd pR vR)
theorem Rz (x:J7) :noRefs 0 (pR x) =true:=by
 simp only[pR,aL,bn,bq,bz,aS,aT,ax,aC,aM,Bool.and_self,Bool.and_true,bH,bA,bI,bJ]
theorem aao (x y:J7) (h:pR x=pR y) :vR x=vR y:=by
 simp only[pR,List.cons.injEq,C.val.injEq,C.agg.injEq,C.kp.injEq,C.fn.injEq,cq,bZ,b9,cn,cm,b7,ch,ca,Value.int.injEq,Value.bool.injEq,true_and,and_true] at h;simp only[vR,h]
theorem RA {gl:Nat→C} (hgn: ∀g,aF 0 (gl g) =true) (hg0:gl 0= .kp (cl wC kc)) (hg2:gl 2= .kp (cl wC kc)) (M:Nat) :CxOK (aN gl M A2) :=bv (N:=0) (Ry hgn hg0 hg2 0) Rz fun q0=>YP (Ry hgn hg0 hg2 0) (by intros;(iterate 14 refine (aW (by decide) _).trans ?_);apply JI<;>first|assumption|omega) (by intros;(iterate 13 refine (aW (by decide) _).trans ?_);apply JK<;>first|assumption|omega) (by intros;(iterate 12 refine (aW (by decide) _).trans ?_);apply JM<;>first|assumption|omega) (by intros;apply J6<;>first|assumption|omega) ((q0.1.1)) ((q0.1.2)) q0.2
theorem Wm: ∀ (g:Nat) (xs:List C),noRefs 0 xs=false→A2 g xs=none:=bV Wl Rz
theorem Wn (l:List ab) (k:List UInt8) (hc0:LB l) :A2 23 [sl eC .no l,.val (str k)] =some (.tup [.agg [.val (nI (da l k).1.1),.val (nI (da l k).1.2.1),sl eC .no (da l k).1.2.2.1,sl dC .no (da l k).1.2.2.2],.val (nI (da l k).2)]) :=
 (bL _).trans (bu aao ⟨(l,k),hc0⟩)
abbrev J8:= {q0: (List ab)×(List UInt8)×(List UInt8) // (LB (q0.1))}
def pS (q0:J8) :List C:= [sl eC .no (q0.1.1),.val (str (q0.1.2.1)),.val (str (q0.1.2.2))]
noncomputable def vS (q0:J8) :C:= .tup [.agg [.val (nI (db (q0.1.1) (q0.1.2.1) (q0.1.2.2)).1.1),.val (nI (db (q0.1.1) (q0.1.2.1) (q0.1.2.2)).1.2.1),sl eC .no (db (q0.1.1) (q0.1.2.1) (q0.1.2.2)).1.2.2.1,sl dC .no (db (q0.1.1) (q0.1.2.1) (q0.1.2.2)).1.2.2.2],.val (nI (db (q0.1.1) (q0.1.2.1) (q0.1.2.2)).2)]
noncomputable def A3:Nat→List C→Option C:=Sx.ext A2 25 (cd pS vS)
theorem RB (x:J8) :noRefs 0 (pS x) =true:=by
 simp only[pS,aL,bn,bq,bz,aS,aT,ax,aC,aM,Bool.and_self,Bool.and_true,bH,bA,bI,bJ]
theorem aap (x y:J8) (h:pS x=pS y) :vS x=vS y:=by
 simp only[pS,List.cons.injEq,C.val.injEq,C.agg.injEq,C.kp.injEq,C.fn.injEq,cq,bZ,b9,cn,cm,b7,ch,ca,Value.int.injEq,Value.bool.injEq,true_and,and_true] at h;simp only[vS,h]
theorem RC {gl:Nat→C} (hgn: ∀g,aF 0 (gl g) =true) (hg0:gl 0= .kp (cl wC kc)) (hg2:gl 2= .kp (cl wC kc)) (M:Nat) :CxOK (aN gl M A3) :=bv (N:=0) (RA hgn hg0 hg2 0) RB fun q0=>YQ (RA hgn hg0 hg2 0) (by intros;(iterate 15 refine (aW (by decide) _).trans ?_);apply JI<;>first|assumption|omega) (by intros;(iterate 14 refine (aW (by decide) _).trans ?_);apply JK<;>first|assumption|omega) (by intros;(iterate 1 refine (aW (by decide) _).trans ?_);apply J6<;>first|assumption|omega) ((q0.1.1)) ((q0.1.2.1)) ((q0.1.2.2)) q0.2
theorem Wo: ∀ (g:Nat) (xs:List C),noRefs 0 xs=false→A3 g xs=none:=bV Wm RB
theorem Wp (l:List ab) (x:List UInt8) (y:List UInt8) (hc0:LB l) :A3 25 [sl eC .no l,.val (str x),.val (str y)] =some (.tup [.agg [.val (nI (db l x y).1.1),.val (nI (db l x y).1.2.1),sl eC .no (db l x y).1.2.2.1,sl dC .no (db l x y).1.2.2.2],.val (nI (db l x y).2)]) :=
 (bL _).trans (bu aap ⟨(l,x,y),hc0⟩)
abbrev J9:= {q0:Int×Int×(List ab)×(List ce)×Int×Int // (-9223372036854775808≤(q0.2.2.2.2.1)∧(q0.2.2.2.2.1)≤9223372036854775807)∧(-9223372036854775808≤(q0.2.2.2.2.2)∧(q0.2.2.2.2.2)≤9223372036854775807)∧((q0.2.2.1).length≤1000000)∧(∀i,i< (q0.2.2.1).length→(gt (q0.2.2.1) i).1.length≤1000000∧(gt (q0.2.2.1) i).2.length≤1000000)∧((q0.2.2.2.1).length≤1000000)}
def pT (q0:J9) :List C:= [.agg [.val (.int .i64 (q0.1.1)),.val (.int .i64 (q0.1.2.1)),sl eC .no (q0.1.2.2.1),sl dC .no (q0.1.2.2.2.1)],.val (.int .i64 (q0.1.2.2.2.2.1)),.val (.int .i64 (q0.1.2.2.2.2.2))]
noncomputable def vT (q0:J9) :C:= .agg [.val (.int .i64 (cO ((q0.1.1),(q0.1.2.1),(q0.1.2.2.1),(q0.1.2.2.2.1)) (q0.1.2.2.2.2.1) (q0.1.2.2.2.2.2)).1),.val (.int .i64 (cO ((q0.1.1),(q0.1.2.1),(q0.1.2.2.1),(q0.1.2.2.2.1)) (q0.1.2.2.2.2.1) (q0.1.2.2.2.2.2)).2.1),sl eC .no (cO ((q0.1.1),(q0.1.2.1),(q0.1.2.2.1),(q0.1.2.2.2.1)) (q0.1.2.2.2.2.1) (q0.1.2.2.2.2.2)).2.2.1,sl dC .no (cO ((q0.1.1),(q0.1.2.1),(q0.1.2.2.1),(q0.1.2.2.2.1)) (q0.1.2.2.2.2.1) (q0.1.2.2.2.2.2)).2.2.2]
noncomputable def A4:Nat→List C→Option C:=Sx.ext A3 28 (cd pT vT)
theorem RD (x:J9) :noRefs 0 (pT x) =true:=by
 simp only[pT,aL,bn,bq,bz,aS,aT,ax,aC,aM,Bool.and_self,Bool.and_true,bH,bA,bI,bJ]
theorem aaq (x y:J9) (h:pT x=pT y) :vT x=vT y:=by
 simp only[pT,List.cons.injEq,C.val.injEq,C.agg.injEq,C.kp.injEq,C.fn.injEq,cq,bZ,b9,cn,cm,b7,ch,ca,Value.int.injEq,Value.bool.injEq,true_and,and_true] at h;simp only[vT,h]
theorem RE {gl:Nat→C} (hgn: ∀g,aF 0 (gl g) =true) (hg0:gl 0= .kp (cl wC kc)) (hg2:gl 2= .kp (cl wC kc)) (M:Nat) :CxOK (aN gl M A4) :=bv (N:=0) (RC hgn hg0 hg2 0) RD fun q0=>Y1 (RC hgn hg0 hg2 0) (by intros;(iterate 57 refine (aW (by decide) _).trans ?_);apply FN<;>first|assumption|omega) (by intros;(iterate 55 refine (aW (by decide) _).trans ?_);apply FO<;>first|assumption|omega) ((q0.1.1)) ((q0.1.2.1)) ((q0.1.2.2.1)) ((q0.1.2.2.2.1)) ((q0.1.2.2.2.2.1)) ((q0.1.2.2.2.2.2)) q0.2.1 q0.2.2.1 q0.2.2.2.1 q0.2.2.2.2.1 q0.2.2.2.2.2
theorem Wq: ∀ (g:Nat) (xs:List C),noRefs 0 xs=false→A4 g xs=none:=bV Wo RD
theorem Wr (f:Int) (z:Int) (l:List ab) (S:List ce) (w:Int) (y:Int) (hc0: -9223372036854775808≤w∧w≤9223372036854775807) (hc1: -9223372036854775808≤y∧y≤9223372036854775807) (hc2:l.length≤1000000) (hc3: ∀i,i< l.length→(gt l i).1.length≤1000000∧(gt l i).2.length≤1000000) (hc4:S.length≤1000000) :A4 28 [.agg [.val (.int .i64 f),.val (.int .i64 z),sl eC .no l,sl dC .no S],.val (.int .i64 w),.val (.int .i64 y)] =some (.agg [.val (.int .i64 (cO (f,z,l,S) w y).1),.val (.int .i64 (cO (f,z,l,S) w y).2.1),sl eC .no (cO (f,z,l,S) w y).2.2.1,sl dC .no (cO (f,z,l,S) w y).2.2.2]) :=
 (bL _).trans (bu aaq ⟨(f,z,l,S,w,y),⟨hc0,hc1,hc2,hc3,hc4⟩⟩)
abbrev Ka:= {q0:Int×Int×(List ab)×(List ce) // ((q0.2.2.1).length≤1000000)}
def pU (q0:Ka) :List C:= [.agg [.val (.int .i64 (q0.1.1)),.val (.int .i64 (q0.1.2.1)),sl eC .no (q0.1.2.2.1),sl dC .no (q0.1.2.2.2)]]
noncomputable def vU (q0:Ka) :C:= .agg [.val (.int .i64 (q0.1.1)),.val (.int .i64 (q0.1.2.1)),sl eC .no (q0.1.2.2.1),sl dC .no (q0.1.2.2.2)]
noncomputable def A5:Nat→List C→Option C:=Sx.ext A4 30 (cd pU vU)
theorem RF (x:Ka) :noRefs 0 (pU x) =true:=by
 simp only[pU,aL,bn,bq,bz,aS,aT,ax,aC,aM,Bool.and_self,Bool.and_true,bH,bA,bI,bJ]
theorem aar (x y:Ka) (h:pU x=pU y) :vU x=vU y:=by
 simp only[pU,List.cons.injEq,C.val.injEq,C.agg.injEq,C.kp.injEq,C.fn.injEq,cq,bZ,b9,cn,cm,b7,ch,ca,Value.int.injEq,Value.bool.injEq,true_and,and_true] at h;simp only[vU,h]
theorem RG {gl:Nat→C} (hgn: ∀g,aF 0 (gl g) =true) (hg0:gl 0= .kp (cl wC kc)) (hg2:gl 2= .kp (cl wC kc)) (M:Nat) :CxOK (aN gl M A5) :=bv (N:=0) (RE hgn hg0 hg2 0) RF fun q0=>YN (RE hgn hg0 hg2 0) (by intros;(iterate 33 refine (aW (by decide) _).trans ?_);apply Jk<;>first|assumption|omega) ((q0.1.1)) ((q0.1.2.1)) ((q0.1.2.2.1)) ((q0.1.2.2.2)) q0.2
theorem Ws: ∀ (g:Nat) (xs:List C),noRefs 0 xs=false→A5 g xs=none:=bV Wq RF
theorem Wt (f:Int) (z:Int) (l:List ab) (S:List ce) (hc0:l.length≤1000000) :A5 30 [.agg [.val (.int .i64 f),.val (.int .i64 z),sl eC .no l,sl dC .no S]] =some (.agg [.val (.int .i64 f),.val (.int .i64 z),sl eC .no l,sl dC .no S]) :=
 (bL _).trans (bu aar ⟨(f,z,l,S),hc0⟩)
abbrev Kb:= {q0: (List ab)×(List ab) // ((q0.1).length≤1000000)∧((q0.2).length≤1000000)}
def pV (q0:Kb) :List C:= [sl eC .no (q0.1.1),sl eC .no (q0.1.2)]
noncomputable def vV (q0:Kb) :C:= .val (.bool (decide ((q0.1.1) = (q0.1.2))))
noncomputable def A6:Nat→List C→Option C:=Sx.ext A5 34 (cd pV vV)
theorem RH (x:Kb) :noRefs 0 (pV x) =true:=by
 simp only[pV,aL,bn,bq,bz,aS,aT,ax,aC,aM,Bool.and_self,Bool.and_true,bH,bA,bI,bJ]
theorem aas (x y:Kb) (h:pV x=pV y) :vV x=vV y:=by
 simp only[pV,List.cons.injEq,C.val.injEq,C.agg.injEq,C.kp.injEq,C.fn.injEq,cq,bZ,b9,cn,cm,b7,ch,ca,Value.int.injEq,Value.bool.injEq,true_and,and_true] at h;simp only[vV,h]
theorem RI {gl:Nat→C} (hgn: ∀g,aF 0 (gl g) =true) (hg0:gl 0= .kp (cl wC kc)) (hg2:gl 2= .kp (cl wC kc)) (M:Nat) :CxOK (aN gl M A6) :=bv (N:=0) (RG hgn hg0 hg2 0) RH fun q0=>aaA (RG hgn hg0 hg2 0) ((q0.1.1)) ((q0.1.2)) q0.2.1 q0.2.2
theorem Wu: ∀ (g:Nat) (xs:List C),noRefs 0 xs=false→A6 g xs=none:=bV Ws RH
theorem Wv (x:List ab) (y:List ab) (hc0:x.length≤1000000) (hc1:y.length≤1000000) :A6 34 [sl eC .no x,sl eC .no y] =some (.val (.bool (decide (x=y)))) :=
 (bL _).trans (bu aas ⟨(x,y),⟨hc0,hc1⟩⟩)
abbrev Kc:= {q0: (List ab)×(List UInt8)×(List UInt8) // ((q0.1).length≤1000000)}
def pW (q0:Kc) :List C:= [sl eC .no (q0.1.1),.val (str (q0.1.2.1)),.val (str (q0.1.2.2))]
noncomputable def vW (q0:Kc) :C:=sl eC (.own 2) (ib (q0.1.1) (q0.1.2.1) (q0.1.2.2) (q0.1.1).length)
noncomputable def A7:Nat→List C→Option C:=Sx.ext A6 36 (cd pW vW)
theorem RJ (x:Kc) :noRefs 0 (pW x) =true:=by
 simp only[pW,aL,bn,bq,bz,aS,aT,ax,aC,aM,Bool.and_self,Bool.and_true,bH,bA,bI,bJ]
theorem aat (x y:Kc) (h:pW x=pW y) :vW x=vW y:=by
 simp only[pW,List.cons.injEq,C.val.injEq,C.agg.injEq,C.kp.injEq,C.fn.injEq,cq,bZ,b9,cn,cm,b7,ch,ca,Value.int.injEq,Value.bool.injEq,true_and,and_true] at h;simp only[vW,h]
theorem RK {gl:Nat→C} (hgn: ∀g,aF 0 (gl g) =true) (hg0:gl 0= .kp (cl wC kc)) (hg2:gl 2= .kp (cl wC kc)) (M:Nat) :CxOK (aN gl M A7) :=bv (N:=0) (RI hgn hg0 hg2 0) RJ fun q0=>aaB (RI hgn hg0 hg2 0) ((q0.1.1)) ((q0.1.2.1)) ((q0.1.2.2)) q0.2
theorem Ww: ∀ (g:Nat) (xs:List C),noRefs 0 xs=false→A7 g xs=none:=bV Wu RJ
theorem Wx (l:List ab) (x:List UInt8) (y:List UInt8) (hc0:l.length≤1000000) :A7 36 [sl eC .no l,.val (str x),.val (str y)] =some (sl eC (.own 2) (ib l x y l.length)) :=
 (bL _).trans (bu aat ⟨(l,x,y),hc0⟩)
abbrev Kd:= {q0: (List ab)×Int×Int×(List ab)×(List ce) // (LZ (q0.1))∧((q0.1).length≤4096)∧(-9223372036854775808≤(q0.2.1)∧(q0.2.1)≤9223372036854775807)∧(-9223372036854775808≤(q0.2.2.1)∧(q0.2.2.1)≤9223372036854775807)∧((q0.2.2.2.1).length≤1000000)∧(∀i,i< (q0.2.2.2.1).length→(gt (q0.2.2.2.1) i).1.length< 1000000∧(gt (q0.2.2.2.1) i).2.length< 1000000)∧((q0.2.2.2.2).length≤1000000)}
def pX (q0:Kd) :List C:= [sl eC .no (q0.1.1),.agg [.val (.int .i64 (q0.1.2.1)),.val (.int .i64 (q0.1.2.2.1)),sl eC .no (q0.1.2.2.2.1),sl dC .no (q0.1.2.2.2.2)]]
noncomputable def vX (q0:Kd) :C:= .val (.bool (fL (iT (q0.1.1)++jz (q0.1.2.1) (q0.1.2.2.1) (q0.1.2.2.2.1) (q0.1.2.2.2.2))))
noncomputable def RL:Nat→List C→Option C:=Sx.ext A7 37 (cd pX vX)
theorem aau (x:Kd) :noRefs 0 (pX x) =true:=by
 simp only[pX,aL,bn,bq,bz,aS,aT,ax,aC,aM,Bool.and_self,Bool.and_true,bH,bA,bI,bJ]
theorem aav (x y:Kd) (h:pX x=pX y) :vX x=vX y:=by
 simp only[pX,List.cons.injEq,C.val.injEq,C.agg.injEq,C.kp.injEq,C.fn.injEq,cq,bZ,b9,cn,cm,b7,ch,ca,Value.int.injEq,Value.bool.injEq,true_and,and_true] at h;simp only[vX,h]
theorem aaw {gl:Nat→C} (hgn: ∀g,aF 0 (gl g) =true) (hg0:gl 0= .kp (cl wC kc)) (hg2:gl 2= .kp (cl wC kc)) (M:Nat) :CxOK (aN gl M RL) :=bv (N:=0) (RK hgn hg0 hg2 0) aau fun q0=>Va (RK hgn hg0 hg2 0) Ww (by intros;(iterate 15 refine (aW (by decide) _).trans ?_);apply JR<;>first|assumption|omega) (by intros;(iterate 10 refine (aW (by decide) _).trans ?_);apply JY<;>first|assumption|omega) (by intros;(iterate 9 refine (aW (by decide) _).trans ?_);apply J0<;>first|assumption|omega) (by intros;(iterate 8 refine (aW (by decide) _).trans ?_);apply J3<;>first|assumption|omega) (by intros;(iterate 17 refine (aW (by decide) _).trans ?_);apply JO<;>first|assumption|omega) ((q0.1.1)) ((q0.1.2.1)) ((q0.1.2.2.1)) ((q0.1.2.2.2.1)) ((q0.1.2.2.2.2)) q0.2.1 q0.2.2.1 q0.2.2.2.1 q0.2.2.2.2.1 q0.2.2.2.2.2.1 q0.2.2.2.2.2.2.1 q0.2.2.2.2.2.2.2
theorem Wy (a:List ab) (f:Int) (z:Int) (l:List ab) (S:List ce) (hc0:LZ a) (hc1:a.length≤4096) (hc2: -9223372036854775808≤f∧f≤9223372036854775807) (hc3: -9223372036854775808≤z∧z≤9223372036854775807) (hc4:l.length≤1000000) (hc5: ∀i,i< l.length→(gt l i).1.length< 1000000∧(gt l i).2.length< 1000000) (hc6:S.length≤1000000) :RL 37 [sl eC .no a,.agg [.val (.int .i64 f),.val (.int .i64 z),sl eC .no l,sl dC .no S]] =some (.val (.bool (fL (iT a++jz f z l S)))) :=
 (bL _).trans (bu aav ⟨(a,f,z,l,S),⟨hc0,hc1,hc2,hc3,hc4,hc5,hc6⟩⟩)
theorem law7 {gl:Nat→C} (hgn: ∀g,aF 0 (gl g) =true) (hg0:gl 0= .kp (cl wC kc)) (hg2:gl 2= .kp (cl wC kc)) (l:List Int) (l':List Int) (k:Int) (m:Int) (w:Int) (u:Int) (v:Int) (hc0:LI l) (hc1:LI l') (hc2: -9223372036854775808≤k∧k≤9223372036854775807) (hc3: -9223372036854775808≤m∧m≤9223372036854775807) (hc4: -9223372036854775808≤w∧w≤9223372036854775807) (hc5: -9223372036854775808≤u∧u≤9223372036854775807) (hc6: -9223372036854775808≤v∧v≤9223372036854775807) :FC Tryd.prog gl 7 [sl iC .no l,sl iC .no l',.val (.int .i64 k),.val (.int .i64 m),.val (.int .i64 w),.val (.int .i64 u),.val (.int .i64 v)] [] (.val (.bool true)) [] :=fc7 (aaw hgn hg0 hg2 0) (by intros;(iterate 59 refine (aW (by decide) _).trans ?_);apply Zn<;>first|assumption|omega) (by intros;(iterate 38 refine (aW (by decide) _).trans ?_);apply Ji<;>first|assumption|omega) (by intros;(iterate 37 refine (aW (by decide) _).trans ?_);apply Jk<;>first|assumption|omega) (by intros;(iterate 36 refine (aW (by decide) _).trans ?_);apply VI<;>first|assumption|omega) (by intros;(iterate 23 refine (aW (by decide) _).trans ?_);apply V0<;>first|assumption|omega) (by intros;(iterate 22 refine (aW (by decide) _).trans ?_);apply V2<;>first|assumption|omega) (by intros;(iterate 6 refine (aW (by decide) _).trans ?_);apply Wn<;>first|assumption|omega) (by intros;(iterate 5 refine (aW (by decide) _).trans ?_);apply Wp<;>first|assumption|omega) (by intros;(iterate 4 refine (aW (by decide) _).trans ?_);apply Wr<;>first|assumption|omega) (by intros;(iterate 26 refine (aW (by decide) _).trans ?_);apply JB<;>first|assumption|omega) (by intros;(iterate 3 refine (aW (by decide) _).trans ?_);apply Wt<;>first|assumption|omega) (by intros;(iterate 25 refine (aW (by decide) _).trans ?_);apply JD<;>first|assumption|omega) (by intros;(iterate 2 refine (aW (by decide) _).trans ?_);apply Wv<;>first|assumption|omega) (by intros;(iterate 19 refine (aW (by decide) _).trans ?_);apply JM<;>first|assumption|omega) (by intros;(iterate 1 refine (aW (by decide) _).trans ?_);apply Wx<;>first|assumption|omega) (by intros;apply Wy<;>first|assumption|omega) (l) (l') (k) (m) (w) (u) (v) hc0 hc1 hc2 hc3 hc4 hc5 hc6
end Go.Sx.T7
