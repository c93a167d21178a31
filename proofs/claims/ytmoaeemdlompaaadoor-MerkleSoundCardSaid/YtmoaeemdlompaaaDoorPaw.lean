/-
  
-/
import Derived.Test.YtmoaeemdlompaaaDoorPap
import Derived.Test.YtmoaeemdlompaaaDoorPaq
import Derived.Test.YtmoaeemdlompaaaDoorPar
import Derived.Test.YtmoaeemdlompaaaDoorPao
import Derived.Test.YtmoaeemdlompaaaDoorPas
import Derived.Test.YtmoaeemdlompaaaDoorPat
import Derived.Test.YtmoaeemdlompaaaDoorPav
import Derived.Test.YtmoaeemdlompaaaDoorPal
import Derived.Test.YtmoaeemdlompaaaDoorPam
set_option linter.unusedSimpArgs false
set_option linter.unusedVariables false
namespace Go.Sx.T7
open Go.RowKit Go.Proofs
def IW:Nat→List C→Option C:=fun _ _=>none
theorem X5 {gl:Nat→C} (hgn: ∀g,aG 0 (gl g) =true) (hg0:gl 0= .kp (cl wC kc)) (hg2:gl 2= .kp (cl wC kc)) (M:Nat) :CxOK (aO gl M IW) :=CxOK.zero hgn
theorem Ze: ∀ (g:Nat) (xs:List C),noRefs 0 xs=false→IW g xs=none:=fun _ _ _=>rfl
theorem Zf: ∀ (g:Nat) (xs:List C),ew xs=true→IW g xs=none:=Hw
abbrev D1:= {q0:Int×Nat // (-9223372036854775808≤(q0.1)∧(q0.1)≤9223372036854775807∧0< (q0.2)∧(q0.2)≤9223372036854775807)}
def tr (q0:D1) :List C:= [.val (.int .i64 (q0.1.1)),.val (nI (q0.1.2))]
noncomputable def z4 (q0:D1) :C:= .val (nI (bF (q0.1.1) (q0.1.2)))
noncomputable def C7:Nat→List C→Option C:=Sx.ext IW 17 (ce tr z4)
theorem PZ (x:D1) :noRefs 0 (tr x) =true:=by
 simp only[tr,aM,bq,br,bA,aT,aU,ay,aD,aN,Bool.and_self,Bool.and_true,bI,bB,bJ,bK]
theorem ij1 (x y:D1) (h:tr x=tr y) :z4 x=z4 y:=by
 simp only[tr,List.cons.injEq,C.val.injEq,C.agg.injEq,C.kp.injEq,C.fn.injEq,cr,b7,ca,co,cn,b8,cj,cb,Value.int.injEq,Value.bool.injEq,true_and,and_true] at h;simp only[z4,h]
theorem X6 {gl:Nat→C} (hgn: ∀g,aG 0 (gl g) =true) (hg0:gl 0= .kp (cl wC kc)) (hg2:gl 2= .kp (cl wC kc)) (M:Nat) :CxOK (aO gl M C7) :=bz (N:=0) (X5 hgn hg0 hg2 0) PZ fun q0=>Y9 (X5 hgn hg0 hg2 0) ((q0.1.1)) ((q0.1.2)) q0.2
theorem Zg: ∀ (g:Nat) (xs:List C),noRefs 0 xs=false→C7 g xs=none:=bW Ze PZ
theorem Zh: ∀ (g:Nat) (xs:List C),ew xs=true→C7 g xs=none:=fw Zf PZ
theorem FQ (n:Int) (m:Nat) (hc0: -9223372036854775808≤n∧n≤9223372036854775807∧0< m∧m≤9223372036854775807) :C7 17 [.val (.int .i64 n),.val (nI m)] =some (.val (nI (bF n m))) :=
 (bM _).trans (bv ij1 ⟨(n,m),hc0⟩)
abbrev D2:= {q0: (List Int)×Nat×Nat // (LI (q0.1))∧((q0.2.1)≤1000000)∧(0< (q0.2.2)∧(q0.2.2)≤9223372036854775807)}
def tt (q0:D2) :List C:= [sl iC .no (q0.1.1),.val (nI (q0.1.2.1)),.val (nI (q0.1.2.2))]
noncomputable def z5 (q0:D2) :C:= .val (nI (j4 (q0.1.1) (q0.1.2.1) (q0.1.2.2)))
noncomputable def C8:Nat→List C→Option C:=Sx.ext C7 48 (ce tt z5)
theorem P0 (x:D2) :noRefs 0 (tt x) =true:=by
 simp only[tt,aM,bq,br,bA,aT,aU,ay,aD,aN,Bool.and_self,Bool.and_true,bI,bB,bJ,bK]
theorem ij2 (x y:D2) (h:tt x=tt y) :z5 x=z5 y:=by
 simp only[tt,List.cons.injEq,C.val.injEq,C.agg.injEq,C.kp.injEq,C.fn.injEq,cr,b7,ca,co,cn,b8,cj,cb,Value.int.injEq,Value.bool.injEq,true_and,and_true] at h;simp only[z5,h]
theorem X7 {gl:Nat→C} (hgn: ∀g,aG 0 (gl g) =true) (hg0:gl 0= .kp (cl wC kc)) (hg2:gl 2= .kp (cl wC kc)) (M:Nat) :CxOK (aO gl M C8) :=bz (N:=0) (X6 hgn hg0 hg2 0) P0 fun q0=>Za (X6 hgn hg0 hg2 0) (by intros;apply FQ<;>first|assumption|omega) ((q0.1.1)) ((q0.1.2.1)) ((q0.1.2.2)) q0.2.1 q0.2.2.1 q0.2.2.2
theorem Zi: ∀ (g:Nat) (xs:List C),noRefs 0 xs=false→C8 g xs=none:=bW Zg P0
theorem Zj: ∀ (g:Nat) (xs:List C),ew xs=true→C8 g xs=none:=fw Zh P0
theorem Zk (l:List Int) (i:Nat) (m:Nat) (hc0:LI l) (hc1:i≤1000000) (hc2:0< m∧m≤9223372036854775807) :C8 48 [sl iC .no l,.val (nI i),.val (nI m)] =some (.val (nI (j4 l i m))) :=
 (bM _).trans (bv ij2 ⟨(l,i,m),⟨hc0,hc1,hc2⟩⟩)
abbrev D3:= {q0:Nat // ((q0)≤1000000000000)}
def tu (q0:D3) :List C:= [.val (nI (q0.1))]
noncomputable def z6 (q0:D3) :C:= .val (str (eO (q0.1)))
noncomputable def C9:Nat→List C→Option C:=Sx.ext C8 49 (ce tu z6)
theorem P1 (x:D3) :noRefs 0 (tu x) =true:=by
 simp only[tu,aM,bq,br,bA,aT,aU,ay,aD,aN,Bool.and_self,Bool.and_true,bI,bB,bJ,bK]
theorem ij3 (x y:D3) (h:tu x=tu y) :z6 x=z6 y:=by
 simp only[tu,List.cons.injEq,C.val.injEq,C.agg.injEq,C.kp.injEq,C.fn.injEq,cr,b7,ca,co,cn,b8,cj,cb,Value.int.injEq,Value.bool.injEq,true_and,and_true] at h;simp only[z6,h]
theorem X8 {gl:Nat→C} (hgn: ∀g,aG 0 (gl g) =true) (hg0:gl 0= .kp (cl wC kc)) (hg2:gl 2= .kp (cl wC kc)) (M:Nat) :CxOK (aO gl M C9) :=bz (N:=0) (X7 hgn hg0 hg2 0) P1 fun q0=>Zb (X7 hgn hg0 hg2 0) ((q0.1)) q0.2
theorem Zl: ∀ (g:Nat) (xs:List C),noRefs 0 xs=false→C9 g xs=none:=bW Zi P1
theorem Zm: ∀ (g:Nat) (xs:List C),ew xs=true→C9 g xs=none:=fw Zj P1
theorem FR (n:Nat) (hc0:n≤1000000000000) :C9 49 [.val (nI n)] =some (.val (str (eO n))) :=
 (bM _).trans (bv ij3 ⟨(n),hc0⟩)
abbrev D4:= {q0: (List Int) // (LI (q0))}
def tv (q0:D4) :List C:= [sl iC .no (q0.1)]
noncomputable def z7 (q0:D4) :C:=sl eC (.own 2) (ib (q0.1))
noncomputable def Da:Nat→List C→Option C:=Sx.ext C9 10 (ce tv z7)
theorem P2 (x:D4) :noRefs 0 (tv x) =true:=by
 simp only[tv,aM,bq,br,bA,aT,aU,ay,aD,aN,Bool.and_self,Bool.and_true,bI,bB,bJ,bK]
theorem ij4 (x y:D4) (h:tv x=tv y) :z7 x=z7 y:=by
 simp only[tv,List.cons.injEq,C.val.injEq,C.agg.injEq,C.kp.injEq,C.fn.injEq,cr,b7,ca,co,cn,b8,cj,cb,Value.int.injEq,Value.bool.injEq,true_and,and_true] at h;simp only[z7,h]
theorem X9 {gl:Nat→C} (hgn: ∀g,aG 0 (gl g) =true) (hg0:gl 0= .kp (cl wC kc)) (hg2:gl 2= .kp (cl wC kc)) (M:Nat) :CxOK (aO gl M Da) :=bz (N:=0) (X8 hgn hg0 hg2 0) P2 fun q0=>aaF (X8 hgn hg0 hg2 0) (by intros;(iterate 1 refine (aX (by decide) _).trans ?_);apply Zk<;>first|assumption|omega) (by intros;apply FR<;>first|assumption|omega) ((q0.1)) q0.2
theorem Zn: ∀ (g:Nat) (xs:List C),noRefs 0 xs=false→Da g xs=none:=bW Zl P2
theorem Zo: ∀ (g:Nat) (xs:List C),ew xs=true→Da g xs=none:=fw Zm P2
theorem Zp (l:List Int) (hc0:LI l) :Da 10 [sl iC .no l] =some (sl eC (.own 2) (ib l)) :=
 (bM _).trans (bv ij4 ⟨(l),hc0⟩)
abbrev D5:= {q0:ab // ((q0).1.length< 9223372036854775808∧(q0).2.length< 9223372036854775808)}
def tw (q0:D5) :List C:= [.agg (eC (q0.1))]
noncomputable def z8 (q0:D5) :C:= .val (.bool (dv (q0.1)))
noncomputable def Db:Nat→List C→Option C:=Sx.ext Da 54 (ce tw z8)
theorem P3 (x:D5) :noRefs 0 (tw x) =true:=by
 simp only[tw,aM,bq,br,bA,aT,aU,ay,aD,aN,Bool.and_self,Bool.and_true,bI,bB,bJ,bK]
theorem ij5 (x y:D5) (h:tw x=tw y) :z8 x=z8 y:=by
 simp only[tw,List.cons.injEq,C.val.injEq,C.agg.injEq,C.kp.injEq,C.fn.injEq,cr,b7,ca,co,cn,b8,cj,cb,Value.int.injEq,Value.bool.injEq,true_and,and_true] at h;simp only[z8,h]
theorem Ya {gl:Nat→C} (hgn: ∀g,aG 0 (gl g) =true) (hg0:gl 0= .kp (cl wC kc)) (hg2:gl 2= .kp (cl wC kc)) (M:Nat) :CxOK (aO gl M Db) :=bz (N:=0) (X9 hgn hg0 hg2 0) P3 fun q0=>YW (X9 hgn hg0 hg2 0) ((q0.1)) q0.2
theorem Zq: ∀ (g:Nat) (xs:List C),noRefs 0 xs=false→Db g xs=none:=bW Zn P3
theorem Zr: ∀ (g:Nat) (xs:List C),ew xs=true→Db g xs=none:=fw Zo P3
theorem Zs (x:ab) (hc0:x.1.length< 9223372036854775808∧x.2.length< 9223372036854775808) :Db 54 [.agg (eC x)] =some (.val (.bool (dv x))) :=
 (bM _).trans (bv ij5 ⟨(x),hc0⟩)
abbrev D6:= {q0: (List ab) // (LB (q0))}
def tx (q0:D6) :List C:= [sl eC .no (q0.1),.fn 54 []]
noncomputable def Aa (q0:D6) :C:= .val (.int .i64 (kZ (q0.1)))
noncomputable def Dc:Nat→List C→Option C:=Sx.ext Db 87 (ce tx Aa)
theorem P4 (x:D6) :noRefs 0 (tx x) =true:=by
 simp only[tx,aM,bq,br,bA,aT,aU,ay,aD,aN,Bool.and_self,Bool.and_true,bI,bB,bJ,bK]
theorem ij6 (x y:D6) (h:tx x=tx y) :Aa x=Aa y:=by
 simp only[tx,List.cons.injEq,C.val.injEq,C.agg.injEq,C.kp.injEq,C.fn.injEq,cr,b7,ca,co,cn,b8,cj,cb,Value.int.injEq,Value.bool.injEq,true_and,and_true] at h;simp only[Aa,h]
theorem Yb {gl:Nat→C} (hgn: ∀g,aG 0 (gl g) =true) (hg0:gl 0= .kp (cl wC kc)) (hg2:gl 2= .kp (cl wC kc)) (M:Nat) :CxOK (aO gl M Dc) :=bz (N:=0) (Ya hgn hg0 hg2 0) P4 fun q0=>Y4 (Ya hgn hg0 hg2 0) (by intros;apply Zs<;>first|assumption|omega) ((q0.1)) q0.2
theorem Zt: ∀ (g:Nat) (xs:List C),noRefs 0 xs=false→Dc g xs=none:=bW Zq P4
theorem Zu: ∀ (g:Nat) (xs:List C),ew xs=true→Dc g xs=none:=fw Zr P4
theorem Zv (l:List ab) (hc0:LB l) :Dc 87 [sl eC .no l,.fn 54 []] =some (.val (.int .i64 (kZ l))) :=
 (bM _).trans (bv ij6 ⟨(l),hc0⟩)
abbrev D7:= {q0: (List ab) // (LB (q0))}
def tz (q0:D7) :List C:= [sl eC .no (q0.1),.fn 54 []]
noncomputable def Ab (q0:D7) :C:= .val (.bool ((q0.1).any dv))
noncomputable def Dd:Nat→List C→Option C:=Sx.ext Dc 53 (ce tz Ab)
theorem P5 (x:D7) :noRefs 0 (tz x) =true:=by
 simp only[tz,aM,bq,br,bA,aT,aU,ay,aD,aN,Bool.and_self,Bool.and_true,bI,bB,bJ,bK]
theorem ij7 (x y:D7) (h:tz x=tz y) :Ab x=Ab y:=by
 simp only[tz,List.cons.injEq,C.val.injEq,C.agg.injEq,C.kp.injEq,C.fn.injEq,cr,b7,ca,co,cn,b8,cj,cb,Value.int.injEq,Value.bool.injEq,true_and,and_true] at h;simp only[Ab,h]
theorem Yc {gl:Nat→C} (hgn: ∀g,aG 0 (gl g) =true) (hg0:gl 0= .kp (cl wC kc)) (hg2:gl 2= .kp (cl wC kc)) (M:Nat) :CxOK (aO gl M Dd) :=bz (N:=0) (Yb hgn hg0 hg2 0) P5 fun q0=>Y5 (Yb hgn hg0 hg2 0) (by intros;apply Zv<;>first|assumption|omega) ((q0.1)) q0.2
theorem Zw: ∀ (g:Nat) (xs:List C),noRefs 0 xs=false→Dd g xs=none:=bW Zt P5
theorem Zx: ∀ (g:Nat) (xs:List C),ew xs=true→Dd g xs=none:=fw Zu P5
theorem Zy (l:List ab) (hc0:LB l) :Dd 53 [sl eC .no l,.fn 54 []] =some (.val (.bool (l.any dv))) :=
 (bM _).trans (bv ij7 ⟨(l),hc0⟩)
abbrev D8:= {q0: (List ab) // (LB (q0))}
def tA (q0:D8) :List C:= [sl eC .no (q0.1)]
noncomputable def Ac (q0:D8) :C:= .val (nI (cW (q0.1)))
noncomputable def De:Nat→List C→Option C:=Sx.ext Dd 15 (ce tA Ac)
theorem P6 (x:D8) :noRefs 0 (tA x) =true:=by
 simp only[tA,aM,bq,br,bA,aT,aU,ay,aD,aN,Bool.and_self,Bool.and_true,bI,bB,bJ,bK]
theorem ij8 (x y:D8) (h:tA x=tA y) :Ac x=Ac y:=by
 simp only[tA,List.cons.injEq,C.val.injEq,C.agg.injEq,C.kp.injEq,C.fn.injEq,cr,b7,ca,co,cn,b8,cj,cb,Value.int.injEq,Value.bool.injEq,true_and,and_true] at h;simp only[Ac,h]
theorem Yd {gl:Nat→C} (hgn: ∀g,aG 0 (gl g) =true) (hg0:gl 0= .kp (cl wC kc)) (hg2:gl 2= .kp (cl wC kc)) (M:Nat) :CxOK (aO gl M De) :=bz (N:=0) (Yc hgn hg0 hg2 0) P6 fun q0=>Y6 (Yc hgn hg0 hg2 0) (by intros;apply Zy<;>first|assumption|omega) ((q0.1)) q0.2
theorem Zz: ∀ (g:Nat) (xs:List C),noRefs 0 xs=false→De g xs=none:=bW Zw P6
theorem ZA: ∀ (g:Nat) (xs:List C),ew xs=true→De g xs=none:=fw Zx P6
theorem Ad (l:List ab) (hc0:LB l) :De 15 [sl eC .no l] =some (.val (nI (cW l))) :=
 (bM _).trans (bv ij8 ⟨(l),hc0⟩)
abbrev D9:= {q0:Unit // True}
def w9 (q0:D9) :List C:= ([] :List C)
noncomputable def FSq (q0:D9) :C:= .agg F0.cells
noncomputable def Df:Nat→List C→Option C:=Sx.ext De 103 (ce w9 FSq)
theorem P7 (x:D9) :noRefs 0 (w9 x) =true:=by
 simp only[w9,aM,bq,br,bA,aT,aU,ay,aD,aN,Bool.and_self,Bool.and_true,bI,bB,bJ,bK]
theorem ij9 (x y:D9) (h:w9 x=w9 y) :FSq x=FSq y:=by
 rfl
theorem Ye {gl:Nat→C} (hgn: ∀g,aG 0 (gl g) =true) (hg0:gl 0= .kp (cl wC kc)) (hg2:gl 2= .kp (cl wC kc)) (M:Nat) :CxOK (aO gl M Df) :=bz (N:=0) (Yd hgn hg0 hg2 0) P7 fun q0=>WW (Yd hgn hg0 hg2 0)
theorem ZB: ∀ (g:Nat) (xs:List C),noRefs 0 xs=false→Df g xs=none:=bW Zz P7
theorem ZC: ∀ (g:Nat) (xs:List C),ew xs=true→Df g xs=none:=fw ZA P7
theorem ZD:Df 103 ([] :List C) =some (.agg F0.cells) :=
 (bM _).trans (bv ij9 ⟨(),trivial⟩)
abbrev IX:= {q0: (BitVec 32)×Int // True}
def oV (q0:IX) :List C:= [.val (cB (q0.1.1)),.val (.int .i64 (q0.1.2))]
noncomputable def u3 (q0:IX) :C:= .val (cB (ln (q0.1.1) (((q0.1.2) % 18446744073709551616).toNat % 32)))
noncomputable def xa:Nat→List C→Option C:=Sx.ext Df 117 (ce oV u3)
theorem FT (x:IX) :noRefs 0 (oV x) =true:=by
 simp only[oV,aM,bq,br,bA,aT,aU,ay,aD,aN,Bool.and_self,Bool.and_true,bI,bB,bJ,bK]
theorem ZE (x y:IX) (h:oV x=oV y) :u3 x=u3 y:=by
 simp only[oV,List.cons.injEq,C.val.injEq,C.agg.injEq,C.kp.injEq,C.fn.injEq,cr,b7,ca,co,cn,b8,cj,cb,Value.int.injEq,Value.bool.injEq,true_and,and_true] at h;simp only[u3,h]
theorem P8 {gl:Nat→C} (hgn: ∀g,aG 0 (gl g) =true) (hg0:gl 0= .kp (cl wC kc)) (hg2:gl 2= .kp (cl wC kc)) (M:Nat) :CxOK (aO gl M xa) :=bz (N:=0) (Ye hgn hg0 hg2 0) FT fun q0=>WR (Ye hgn hg0 hg2 0) ((q0.1.1)) ((q0.1.2))
theorem Vi: ∀ (g:Nat) (xs:List C),noRefs 0 xs=false→xa g xs=none:=bW ZB FT
theorem Vj: ∀ (g:Nat) (xs:List C),ew xs=true→xa g xs=none:=fw ZC FT
theorem IY (x:BitVec 32) (k:Int) :xa 117 [.val (cB x),.val (.int .i64 k)] =some (.val (cB (ln x ((k % 18446744073709551616).toNat % 32)))) :=
 (bM _).trans (bv ZE ⟨(x,k),trivial⟩)
abbrev IZ:= {q0: (BitVec 32)×Nat×Nat×Nat // (0< (q0.2.1)∧(q0.2.1) < 32)∧(0< (q0.2.2.1)∧(q0.2.2.1) < 32)∧(0< (q0.2.2.2)∧(q0.2.2.2) < 32)}
def oW (q0:IZ) :List C:= [.val (cB (q0.1.1)),.val (nI (q0.1.2.1)),.val (nI (q0.1.2.2.1)),.val (nI (q0.1.2.2.2))]
noncomputable def u4 (q0:IZ) :C:= .val (cB (rr (q0.1.1) (q0.1.2.1) ^^^ rr (q0.1.1) (q0.1.2.2.1) ^^^ rr (q0.1.1) (q0.1.2.2.2)))
noncomputable def xb:Nat→List C→Option C:=Sx.ext xa 116 (ce oW u4)
theorem FU (x:IZ) :noRefs 0 (oW x) =true:=by
 simp only[oW,aM,bq,br,bA,aT,aU,ay,aD,aN,Bool.and_self,Bool.and_true,bI,bB,bJ,bK]
theorem ZF (x y:IZ) (h:oW x=oW y) :u4 x=u4 y:=by
 simp only[oW,List.cons.injEq,C.val.injEq,C.agg.injEq,C.kp.injEq,C.fn.injEq,cr,b7,ca,co,cn,b8,cj,cb,Value.int.injEq,Value.bool.injEq,true_and,and_true] at h;simp only[u4,h]
theorem P9 {gl:Nat→C} (hgn: ∀g,aG 0 (gl g) =true) (hg0:gl 0= .kp (cl wC kc)) (hg2:gl 2= .kp (cl wC kc)) (M:Nat) :CxOK (aO gl M xb) :=bz (N:=0) (P8 hgn hg0 hg2 0) FU fun q0=>WS (P8 hgn hg0 hg2 0) (by intros;apply IY<;>first|assumption|omega) ((q0.1.1)) ((q0.1.2.1)) ((q0.1.2.2.1)) ((q0.1.2.2.2)) q0.2.1 q0.2.2.1 q0.2.2.2
theorem Vk: ∀ (g:Nat) (xs:List C),noRefs 0 xs=false→xb g xs=none:=bW Vi FU
theorem Vl: ∀ (g:Nat) (xs:List C),ew xs=true→xb g xs=none:=fw Vj FU
theorem Vm (x:BitVec 32) (i:Nat) (j:Nat) (k:Nat) (hc0:0< i∧i< 32) (hc1:0< j∧j< 32) (hc2:0< k∧k< 32) :xb 116 [.val (cB x),.val (nI i),.val (nI j),.val (nI k)] =some (.val (cB (rr x i ^^^ rr x j ^^^ rr x k))) :=
 (bM _).trans (bv ZF ⟨(x,i,j,k),⟨hc0,hc1,hc2⟩⟩)
abbrev I0:= {q0: (List UInt8) // ((q0).length=64)}
def oY (q0:I0) :List C:= [sl bC .no (q0.1)]
noncomputable def u5 (q0:I0) :C:= .agg (cl wC (cd (q0.1) 64))
noncomputable def xd:Nat→List C→Option C:=Sx.ext xb 115 (ce oY u5)
theorem FV (x:I0) :noRefs 0 (oY x) =true:=by
 simp only[oY,aM,bq,br,bA,aT,aU,ay,aD,aN,Bool.and_self,Bool.and_true,bI,bB,bJ,bK]
theorem ZG (x y:I0) (h:oY x=oY y) :u5 x=u5 y:=by
 simp only[oY,List.cons.injEq,C.val.injEq,C.agg.injEq,C.kp.injEq,C.fn.injEq,cr,b7,ca,co,cn,b8,cj,cb,Value.int.injEq,Value.bool.injEq,true_and,and_true] at h;simp only[u5,h]
theorem Qa {gl:Nat→C} (hgn: ∀g,aG 0 (gl g) =true) (hg0:gl 0= .kp (cl wC kc)) (hg2:gl 2= .kp (cl wC kc)) (M:Nat) :CxOK (aO gl M xd) :=bz (N:=0) (P9 hgn hg0 hg2 0) FV fun q0=>WU (P9 hgn hg0 hg2 0) (by intros;(iterate 1 refine (aX (by decide) _).trans ?_);apply IY<;>first|assumption|omega) ((q0.1)) q0.2
theorem Vn: ∀ (g:Nat) (xs:List C),noRefs 0 xs=false→xd g xs=none:=bW Vk FV
theorem Vo: ∀ (g:Nat) (xs:List C),ew xs=true→xd g xs=none:=fw Vl FV
theorem Vp (b:List UInt8) (hc0:b.length=64) :xd 115 [sl bC .no b] =some (.agg (cl wC (cd b 64))) :=
 (bM _).trans (bv ZG ⟨(b),hc0⟩)
abbrev I1:= {q0:S8×(List UInt8) // ((q0.2).length=64)}
def oZ (q0:I1) :List C:= [.agg (cl wC (q0.1.1).l),sl bC .no (q0.1.2)]
noncomputable def u6 (q0:I1) :C:= .agg (cl wC (comp (q0.1.1) (q0.1.2)).l)
noncomputable def xe:Nat→List C→Option C:=Sx.ext xd 113 (ce oZ u6)
theorem FW (x:I1) :noRefs 0 (oZ x) =true:=by
 simp only[oZ,aM,bq,br,bA,aT,aU,ay,aD,aN,Bool.and_self,Bool.and_true,bI,bB,bJ,bK]
theorem ZH (x y:I1) (h:oZ x=oZ y) :u6 x=u6 y:=by
 simp only[oZ,List.cons.injEq,C.agg.injEq,cj,cb,Cv,and_true] at h;simp only[u6,h]
theorem Qb {gl:Nat→C} (hgn: ∀g,aG 0 (gl g) =true) (hg0:gl 0= .kp (cl wC kc)) (hg2:gl 2= .kp (cl wC kc)) (M:Nat) :CxOK (aO gl M xe) :=bz (N:=0) (Qa hgn hg0 hg2 0) FW fun q0=>WV (Qa hgn hg0 hg2 0) hg2 (by intros;(iterate 1 refine (aX (by decide) _).trans ?_);apply Vm<;>first|assumption|omega) (by intros;apply Vp<;>first|assumption|omega) ((q0.1.1)) ((q0.1.2)) q0.2
theorem Vq: ∀ (g:Nat) (xs:List C),noRefs 0 xs=false→xe g xs=none:=bW Vn FW
theorem Vr: ∀ (g:Nat) (xs:List C),ew xs=true→xe g xs=none:=fw Vo FW
theorem Vs (s:S8) (b:List UInt8) (hc0:b.length=64) :xe 113 [.agg (cl wC s.l),sl bC .no b] =some (.agg (cl wC (comp s b).l)) :=
 (bM _).trans (bv ZH ⟨(s,b),hc0⟩)
abbrev I2:= {q0:S8×(List UInt8)×Nat×(List UInt8) // ((q0.2.1).length=64)∧((q0.2.2.1)+(q0.2.2.2).length< 1152921504606846976)}
def rQ (q0:I2) :List C:= [.agg (cl wC (q0.1.1).l++(cl bC (q0.1.2.1)++[.val (nU (q0.1.2.2.1))])),.val (str (q0.1.2.2.2))]
noncomputable def Ae (q0:I2) :C:= .agg (dn ⟨(q0.1.1),(q0.1.2.1),(q0.1.2.2.1)⟩ (q0.1.2.2.2)).cells
noncomputable def Af:Nat→List C→Option C:=Sx.ext xe 104 (ce rQ Ae)
theorem Qc (x:I2) :noRefs 0 (rQ x) =true:=by
 simp only[rQ,aM,bq,br,bA,aT,aU,ay,aD,aN,Bool.and_self,Bool.and_true,bI,bB,bJ,bK]
theorem ZI (x y:I2) (h:rQ x=rQ y) :Ae x=Ae y:=by
 exact FM x.1.1 y.1.1 x.1.2.1 y.1.2.1 x.1.2.2.1 y.1.2.2.1 x.1.2.2.2 y.1.2.2.2 x.2.1 y.2.1 h
theorem Qd {gl:Nat→C} (hgn: ∀g,aG 0 (gl g) =true) (hg0:gl 0= .kp (cl wC kc)) (hg2:gl 2= .kp (cl wC kc)) (M:Nat) :CxOK (aO gl M Af) :=bz (N:=0) (Qb hgn hg0 hg2 0) Qc fun q0=>WX (Qb hgn hg0 hg2 0) (by intros;apply Vs<;>first|assumption|omega) Vr (⟨(q0.1.1),(q0.1.2.1),(q0.1.2.2.1)⟩) ((q0.1.2.2.2)) q0.2.1 q0.2.2
theorem Vt: ∀ (g:Nat) (xs:List C),noRefs 0 xs=false→Af g xs=none:=bW Vq Qc
theorem I3 (s:S8) (blk:List UInt8) (n:Nat) (t:List UInt8) (hc0:blk.length=64) (hc1:n+t.length< 1152921504606846976) :Af 104 [.agg (cl wC s.l++(cl bC blk++[.val (nU n)])),.val (str t)] =some (.agg (dn ⟨s,blk,n⟩ t).cells) :=
 (bM _).trans (bv ZI ⟨(s,blk,n,t),⟨hc0,hc1⟩⟩)
abbrev I4:= {q0:S8×(List UInt8)×Nat // ((q0.2.1).length=64)∧((q0.2.2) < 576460752303423488)}
def rR (q0:I4) :List C:= [.agg (cl wC (q0.1.1).l++(cl bC (q0.1.2.1)++[.val (nU (q0.1.2.2))]))]
noncomputable def Ag (q0:I4) :C:= .agg (cl bC (md ⟨(q0.1.1),(q0.1.2.1),(q0.1.2.2)⟩))
noncomputable def Ah:Nat→List C→Option C:=Sx.ext Af 105 (ce rR Ag)
theorem Qe (x:I4) :noRefs 0 (rR x) =true:=by
 simp only[rR,aM,bq,br,bA,aT,aU,ay,aD,aN,Bool.and_self,Bool.and_true,bI,bB,bJ,bK]
theorem ZJ (x y:I4) (h:rR x=rR y) :Ag x=Ag y:=by
 exact Ll x.1.1 y.1.1 x.1.2.1 y.1.2.1 x.1.2.2 y.1.2.2 x.2.1 y.2.1 h
theorem Qf {gl:Nat→C} (hgn: ∀g,aG 0 (gl g) =true) (hg0:gl 0= .kp (cl wC kc)) (hg2:gl 2= .kp (cl wC kc)) (M:Nat) :CxOK (aO gl M Ah) :=bz (N:=0) (Qd hgn hg0 hg2 0) Qe fun q0=>WY (Qd hgn hg0 hg2 0) (by intros;apply I3<;>first|assumption|omega) (⟨(q0.1.1),(q0.1.2.1),(q0.1.2.2)⟩) q0.2.1 q0.2.2
theorem Vu: ∀ (g:Nat) (xs:List C),noRefs 0 xs=false→Ah g xs=none:=bW Vt Qe
theorem Vv (s:S8) (blk:List UInt8) (n:Nat) (hc0:blk.length=64) (hc1:n< 576460752303423488) :Ah 105 [.agg (cl wC s.l++(cl bC blk++[.val (nU n)]))] =some (.agg (cl bC (md ⟨s,blk,n⟩))) :=
 (bM _).trans (bv ZJ ⟨(s,blk,n),⟨hc0,hc1⟩⟩)
abbrev I5:= {q0:Int // (-9223372036854775808≤(q0)∧(q0)≤9223372036854775807)}
def o5 (q0:I5) :List C:= [.val (.int .i64 (q0.1))]
noncomputable def u7 (q0:I5) :C:=sl bC (.own 1) (cX (q0.1))
noncomputable def Ai:Nat→List C→Option C:=Sx.ext Ah 39 (ce o5 u7)
theorem Qg (x:I5) :noRefs 0 (o5 x) =true:=by
 simp only[o5,aM,bq,br,bA,aT,aU,ay,aD,aN,Bool.and_self,Bool.and_true,bI,bB,bJ,bK]
theorem ZK (x y:I5) (h:o5 x=o5 y) :u7 x=u7 y:=by
 simp only[o5,List.cons.injEq,C.val.injEq,C.agg.injEq,C.kp.injEq,C.fn.injEq,cr,b7,ca,co,cn,b8,cj,cb,Value.int.injEq,Value.bool.injEq,true_and,and_true] at h;simp only[u7,h]
theorem Qh {gl:Nat→C} (hgn: ∀g,aG 0 (gl g) =true) (hg0:gl 0= .kp (cl wC kc)) (hg2:gl 2= .kp (cl wC kc)) (M:Nat) :CxOK (aO gl M Ai) :=bz (N:=0) (Qf hgn hg0 hg2 0) Qg fun q0=>Y1 (Qf hgn hg0 hg2 0) ((q0.1)) q0.2
theorem Vw: ∀ (g:Nat) (xs:List C),noRefs 0 xs=false→Ai g xs=none:=bW Vu Qg
theorem I6 (n:Int) (hc0: -9223372036854775808≤n∧n≤9223372036854775807) :Ai 39 [.val (.int .i64 n)] =some (sl bC (.own 1) (cX n)) :=
 (bM _).trans (bv ZK ⟨(n),hc0⟩)
abbrev I7:= {q0: (List UInt8) // ((q0).length< 70368744177664)}
def o6 (q0:I7) :List C:= [.val (str (q0.1))]
noncomputable def u9 (q0:I7) :C:=sl bC (.own 1) (wb (q0.1))
noncomputable def Aj:Nat→List C→Option C:=Sx.ext Ai 74 (ce o6 u9)
theorem Qi (x:I7) :noRefs 0 (o6 x) =true:=by
 simp only[o6,aM,bq,br,bA,aT,aU,ay,aD,aN,Bool.and_self,Bool.and_true,bI,bB,bJ,bK]
theorem ZL (x y:I7) (h:o6 x=o6 y) :u9 x=u9 y:=by
 simp only[o6,List.cons.injEq,C.val.injEq,C.agg.injEq,C.kp.injEq,C.fn.injEq,cr,b7,ca,co,cn,b8,cj,cb,Value.int.injEq,Value.bool.injEq,true_and,and_true] at h;simp only[u9,h]
theorem Qj {gl:Nat→C} (hgn: ∀g,aG 0 (gl g) =true) (hg0:gl 0= .kp (cl wC kc)) (hg2:gl 2= .kp (cl wC kc)) (M:Nat) :CxOK (aO gl M Aj) :=bz (N:=0) (Qh hgn hg0 hg2 0) Qi fun q0=>aaP (Qh hgn hg0 hg2 0) (by intros;rename_i m hm;exact (I6 (m:Int) (by omega)).trans (by rw[ik])) ((q0.1)) q0.2
theorem Vx: ∀ (g:Nat) (xs:List C),noRefs 0 xs=false→Aj g xs=none:=bW Vw Qi
theorem Vy (s:List UInt8) (hc0:s.length< 70368744177664) :Aj 74 [.val (str s)] =some (sl bC (.own 1) (wb s)) :=
 (bM _).trans (bv ZL ⟨(s),hc0⟩)
abbrev I8:= {q0:Int×(List (List UInt8)) // ((cL (q0.1) (q0.2)).length< 1099511627776)}
def o7 (q0:I8) :List C:= [.val (.int .i64 (q0.1.1)),sl sC .no (q0.1.2)]
noncomputable def vc (q0:I8) :C:= .agg (cl bC ((eR (cL (q0.1.1) (q0.1.2))).take 16))
noncomputable def Ak:Nat→List C→Option C:=Sx.ext Aj 78 (ce o7 vc)
theorem Qk (x:I8) :noRefs 0 (o7 x) =true:=by
 simp only[o7,aM,bq,br,bA,aT,aU,ay,aD,aN,Bool.and_self,Bool.and_true,bI,bB,bJ,bK]
theorem ZM (x y:I8) (h:o7 x=o7 y) :vc x=vc y:=by
 simp only[o7,List.cons.injEq,C.val.injEq,C.agg.injEq,C.kp.injEq,C.fn.injEq,cr,b7,ca,co,cn,b8,cj,cb,Value.int.injEq,Value.bool.injEq,true_and,and_true] at h;simp only[vc,h]
theorem Ql {gl:Nat→C} (hgn: ∀g,aG 0 (gl g) =true) (hg0:gl 0= .kp (cl wC kc)) (hg2:gl 2= .kp (cl wC kc)) (M:Nat) :CxOK (aO gl M Ak) :=bz (N:=0) (Qj hgn hg0 hg2 0) Qk fun q0=>aaO (Qj hgn hg0 hg2 0) (by intros;(iterate 8 refine (aX (by decide) _).trans ?_);apply ZD<;>first|assumption|omega) (by intros;(iterate 3 refine (aX (by decide) _).trans ?_);apply I3<;>first|assumption|omega) (by intros;(iterate 2 refine (aX (by decide) _).trans ?_);apply Vv<;>first|assumption|omega) (by intros;apply Vy<;>first|assumption|omega) ((q0.1.1)) ((q0.1.2)) q0.2
theorem Vz: ∀ (g:Nat) (xs:List C),noRefs 0 xs=false→Ak g xs=none:=bW Vx Qk
theorem Al (tag:Int) (parts:List (List UInt8)) (hc0: (cL tag parts).length< 1099511627776) :Ak 78 [.val (.int .i64 tag),sl sC .no parts] =some (.agg (cl bC ((eR (cL tag parts)).take 16))) :=
 (bM _).trans (bv ZM ⟨(tag,parts),hc0⟩)
abbrev I9:= {q0:Nat×(List UInt8) // ((q0.1)≤4096)∧((q0.2).length=16)}
def o8 (q0:I9) :List C:= [.val (nI (q0.1.1)),.agg (cl bC (q0.1.2))]
noncomputable def vd (q0:I9) :C:= .agg (cl bC (gB (q0.1.1) (q0.1.2)))
noncomputable def Am:Nat→List C→Option C:=Sx.ext Ak 50 (ce o8 vd)
theorem Qm (x:I9) :noRefs 0 (o8 x) =true:=by
 simp only[o8,aM,bq,br,bA,aT,aU,ay,aD,aN,Bool.and_self,Bool.and_true,bI,bB,bJ,bK]
theorem ZN (x y:I9) (h:o8 x=o8 y) :vd x=vd y:=by
 simp only[o8,List.cons.injEq,C.val.injEq,C.agg.injEq,C.kp.injEq,C.fn.injEq,cr,b7,ca,co,cn,b8,cj,cb,Value.int.injEq,Value.bool.injEq,true_and,and_true] at h;simp only[vd,h]
theorem Qn {gl:Nat→C} (hgn: ∀g,aG 0 (gl g) =true) (hg0:gl 0= .kp (cl wC kc)) (hg2:gl 2= .kp (cl wC kc)) (M:Nat) :CxOK (aO gl M Am) :=bz (N:=0) (Ql hgn hg0 hg2 0) Qm fun q0=>YX (Ql hgn hg0 hg2 0) (by intros;apply Al<;>first|assumption|omega) (by intros;(iterate 2 refine (aX (by decide) _).trans ?_);apply I6<;>first|assumption|omega) ((q0.1.1)) ((q0.1.2)) q0.2.1 q0.2.2
theorem VA: ∀ (g:Nat) (xs:List C),noRefs 0 xs=false→Am g xs=none:=bW Vz Qm
theorem Ja (n:Nat) (d:List UInt8) (hc0:n≤4096) (hc1:d.length=16) :Am 50 [.val (nI n),.agg (cl bC d)] =some (.agg (cl bC (gB n d))) :=
 (bM _).trans (bv ZN ⟨(n,d),⟨hc0,hc1⟩⟩)
abbrev Jb:= {q0:ab // ((q0).1.length≤65536∧(q0).2.length≤65536)}
def o9 (q0:Jb) :List C:= [.agg (eC (q0.1))]
noncomputable def ve (q0:Jb) :C:= .agg (cl bC (fV (q0.1)))
noncomputable def An:Nat→List C→Option C:=Sx.ext Am 80 (ce o9 ve)
theorem Qo (x:Jb) :noRefs 0 (o9 x) =true:=by
 simp only[o9,aM,bq,br,bA,aT,aU,ay,aD,aN,Bool.and_self,Bool.and_true,bI,bB,bJ,bK]
theorem ZO (x y:Jb) (h:o9 x=o9 y) :ve x=ve y:=by
 simp only[o9,List.cons.injEq,C.val.injEq,C.agg.injEq,C.kp.injEq,C.fn.injEq,cr,b7,ca,co,cn,b8,cj,cb,Value.int.injEq,Value.bool.injEq,true_and,and_true] at h;simp only[ve,h]
theorem Qp {gl:Nat→C} (hgn: ∀g,aG 0 (gl g) =true) (hg0:gl 0= .kp (cl wC kc)) (hg2:gl 2= .kp (cl wC kc)) (M:Nat) :CxOK (aO gl M An) :=bz (N:=0) (Qn hgn hg0 hg2 0) Qo fun q0=>YU (Qn hgn hg0 hg2 0) (by intros;(iterate 1 refine (aX (by decide) _).trans ?_);apply Al<;>first|assumption|omega) ((q0.1)) q0.2
theorem VB: ∀ (g:Nat) (xs:List C),noRefs 0 xs=false→An g xs=none:=bW VA Qo
theorem Jc (x:ab) (hc0:x.1.length≤65536∧x.2.length≤65536) :An 80 [.agg (eC x)] =some (.agg (cl bC (fV x))) :=
 (bM _).trans (bv ZO ⟨(x),hc0⟩)
abbrev Jd:= {q0:Nat×Nat // ((q0.1)≤(q0.2)∧(q0.2)≤4611686018427387000)}
def pc (q0:Jd) :List C:= [.val (nI (q0.1.1)),.val (nI (q0.1.2))]
noncomputable def vf (q0:Jd) :C:= .val (nI ((q0.1.1)+aV ((q0.1.2) - (q0.1.1))))
noncomputable def Ao:Nat→List C→Option C:=Sx.ext An 81 (ce pc vf)
theorem Qq (x:Jd) :noRefs 0 (pc x) =true:=by
 simp only[pc,aM,bq,br,bA,aT,aU,ay,aD,aN,Bool.and_self,Bool.and_true,bI,bB,bJ,bK]
theorem ZP (x y:Jd) (h:pc x=pc y) :vf x=vf y:=by
 simp only[pc,List.cons.injEq,C.val.injEq,C.agg.injEq,C.kp.injEq,C.fn.injEq,cr,b7,ca,co,cn,b8,cj,cb,Value.int.injEq,Value.bool.injEq,true_and,and_true] at h;simp only[vf,h]
theorem Qr {gl:Nat→C} (hgn: ∀g,aG 0 (gl g) =true) (hg0:gl 0= .kp (cl wC kc)) (hg2:gl 2= .kp (cl wC kc)) (M:Nat) :CxOK (aO gl M Ao) :=bz (N:=0) (Qp hgn hg0 hg2 0) Qq fun q0=>YT (Qp hgn hg0 hg2 0) ((q0.1.1)) ((q0.1.2)) q0.2
theorem VC: ∀ (g:Nat) (xs:List C),noRefs 0 xs=false→Ao g xs=none:=bW VB Qq
theorem Ap (x:Nat) (y:Nat) (hc0:x≤y∧y≤4611686018427387000) :Ao 81 [.val (nI x),.val (nI y)] =some (.val (nI (x+aV (y - x)))) :=
 (bM _).trans (bv ZP ⟨(x,y),hc0⟩)
abbrev Je:= {q0: (List UInt8)×(List UInt8) // ((q0.1).length=16)∧((q0.2).length=16)}
def pd (q0:Je) :List C:= [.agg (cl bC (q0.1.1)),.agg (cl bC (q0.1.2))]
noncomputable def vg (q0:Je) :C:= .agg (cl bC (iI (q0.1.1) (q0.1.2)))
noncomputable def Aq:Nat→List C→Option C:=Sx.ext Ao 82 (ce pd vg)
theorem Qs (x:Je) :noRefs 0 (pd x) =true:=by
 simp only[pd,aM,bq,br,bA,aT,aU,ay,aD,aN,Bool.and_self,Bool.and_true,bI,bB,bJ,bK]
theorem ZQ (x y:Je) (h:pd x=pd y) :vg x=vg y:=by
 simp only[pd,List.cons.injEq,C.val.injEq,C.agg.injEq,C.kp.injEq,C.fn.injEq,cr,b7,ca,co,cn,b8,cj,cb,Value.int.injEq,Value.bool.injEq,true_and,and_true] at h;simp only[vg,h]
theorem Qt {gl:Nat→C} (hgn: ∀g,aG 0 (gl g) =true) (hg0:gl 0= .kp (cl wC kc)) (hg2:gl 2= .kp (cl wC kc)) (M:Nat) :CxOK (aO gl M Aq) :=bz (N:=0) (Qr hgn hg0 hg2 0) Qs fun q0=>YV (Qr hgn hg0 hg2 0) (by intros;(iterate 3 refine (aX (by decide) _).trans ?_);apply Al<;>first|assumption|omega) ((q0.1.1)) ((q0.1.2)) q0.2.1 q0.2.2
theorem VD: ∀ (g:Nat) (xs:List C),noRefs 0 xs=false→Aq g xs=none:=bW VC Qs
theorem Jf (a:List UInt8) (b:List UInt8) (hc0:a.length=16) (hc1:b.length=16) :Aq 82 [.agg (cl bC a),.agg (cl bC b)] =some (.agg (cl bC (iI a b))) :=
 (bM _).trans (bv ZQ ⟨(a,b),⟨hc0,hc1⟩⟩)
abbrev Jg:= {q0:Nat×(List ab)×Nat×Nat // (OkL (q0.2.1))∧((q0.2.2.1) < (q0.2.2.2)∧(q0.2.2.2)≤(q0.2.1).length∧(q0.2.2.2) - (q0.2.2.1)≤2 ^ (q0.1))}
def pe (q0:Jg) :List C:= [.val (nI (q0.1.2.2.1)),.val (nI (q0.1.2.2.2)),.kp [sl eC .no (q0.1.2.1)],dm 79 [.kp [sl eC .no (q0.1.2.1)]] (q0.1.1)]
noncomputable def vh (q0:Jg) :C:= .agg (cl bC (dD (q0.1.2.1) (q0.1.1) (q0.1.2.2.1) (q0.1.2.2.2)))
noncomputable def Ar:Nat→List C→Option C:=Sx.ext Aq 79 (ce pe vh)
theorem Qu (x:Jg) :noRefs 0 (pe x) =true:=by
 simp only[pe,aM,bq,br,bA,aT,aU,ay,aD,aN,Bool.and_self,Bool.and_true,bI,bB,bJ,bK]
theorem ZR (x y:Jg) (h:pe x=pe y) :vh x=vh y:=by
 simp only[pe,List.cons.injEq,C.val.injEq,C.kp.injEq,ca,cb,true_and,and_true] at h;have e:=oR h.2.2.2;simp only[vh,h,e]
theorem Qv {gl:Nat→C} (hgn: ∀g,aG 0 (gl g) =true) (hg0:gl 0= .kp (cl wC kc)) (hg2:gl 2= .kp (cl wC kc)) (M:Nat) :CxOK (aO gl M Ar) :=bz (N:=0) (Qt hgn hg0 hg2 0) Qu fun q0=>Pp (Qt hgn hg0 hg2 0) (by intros;(iterate 2 refine (aX (by decide) _).trans ?_);apply Jc<;>first|assumption|omega) (by intros;(iterate 1 refine (aX (by decide) _).trans ?_);apply Ap<;>first|assumption|omega) (by intros;apply Jf<;>first|assumption|omega) ((q0.1.1)) ((q0.1.2.1)) ((q0.1.2.2.1)) ((q0.1.2.2.2)) q0.2.1 q0.2.2
theorem VE: ∀ (g:Nat) (xs:List C),noRefs 0 xs=false→Ar g xs=none:=bW VD Qu
theorem VF (d:Nat) (l:List ab) (a:Nat) (b:Nat) (hc0:OkL l) (hc1:a< b∧b≤l.length∧b - a≤2 ^ d) :Ar 79 [.val (nI a),.val (nI b),.kp [sl eC .no l],dm 79 [.kp [sl eC .no l]] d] =some (.agg (cl bC (dD l d a b))) :=
 (bM _).trans (bv ZR ⟨(d,l,a,b),⟨hc0,hc1⟩⟩)
abbrev Jh:= {q0: (List ab) // (OkL (q0))∧(0< (q0).length)}
def pf (q0:Jh) :List C:= [sl eC .no (q0.1)]
noncomputable def vi (q0:Jh) :C:= .agg (cl bC (jD (q0.1)))
noncomputable def As:Nat→List C→Option C:=Sx.ext Ar 51 (ce pf vi)
theorem Qw (x:Jh) :noRefs 0 (pf x) =true:=by
 simp only[pf,aM,bq,br,bA,aT,aU,ay,aD,aN,Bool.and_self,Bool.and_true,bI,bB,bJ,bK]
theorem ZS (x y:Jh) (h:pf x=pf y) :vi x=vi y:=by
 simp only[pf,List.cons.injEq,C.val.injEq,C.agg.injEq,C.kp.injEq,C.fn.injEq,cr,b7,ca,co,cn,b8,cj,cb,Value.int.injEq,Value.bool.injEq,true_and,and_true] at h;simp only[vi,h]
theorem Qx {gl:Nat→C} (hgn: ∀g,aG 0 (gl g) =true) (hg0:gl 0= .kp (cl wC kc)) (hg2:gl 2= .kp (cl wC kc)) (M:Nat) :CxOK (aO gl M As) :=bz (N:=0) (Qv hgn hg0 hg2 0) Qw fun q0=>aaG (Qv hgn hg0 hg2 0) (by intros;apply VF<;>first|assumption|omega) ((q0.1)) q0.2.1 q0.2.2
theorem VG: ∀ (g:Nat) (xs:List C),noRefs 0 xs=false→As g xs=none:=bW VE Qw
theorem Ji (l:List ab) (hc0:OkL l) (hc1:0< l.length) :As 51 [sl eC .no l] =some (.agg (cl bC (jD l))) :=
 (bM _).trans (bv ZS ⟨(l),⟨hc0,hc1⟩⟩)
abbrev Jj:= {q0: (List ab) // (LB (q0))}
def pg (q0:Jj) :List C:= [sl eC .no (q0.1)]
noncomputable def vj (q0:Jj) :C:= .tup [.agg (cl bC (kD (q0.1)).1),.val (nI (kD (q0.1)).2)]
noncomputable def Au:Nat→List C→Option C:=Sx.ext As 12 (ce pg vj)
theorem Qy (x:Jj) :noRefs 0 (pg x) =true:=by
 simp only[pg,aM,bq,br,bA,aT,aU,ay,aD,aN,Bool.and_self,Bool.and_true,bI,bB,bJ,bK]
theorem ZT (x y:Jj) (h:pg x=pg y) :vj x=vj y:=by
 simp only[pg,List.cons.injEq,C.val.injEq,C.agg.injEq,C.kp.injEq,C.fn.injEq,cr,b7,ca,co,cn,b8,cj,cb,Value.int.injEq,Value.bool.injEq,true_and,and_true] at h;simp only[vj,h]
theorem Qz {gl:Nat→C} (hgn: ∀g,aG 0 (gl g) =true) (hg0:gl 0= .kp (cl wC kc)) (hg2:gl 2= .kp (cl wC kc)) (M:Nat) :CxOK (aO gl M Au) :=bz (N:=0) (Qx hgn hg0 hg2 0) Qy fun q0=>aaH (Qx hgn hg0 hg2 0) (by intros;(iterate 16 refine (aX (by decide) _).trans ?_);apply Ad<;>first|assumption|omega) (by intros;(iterate 5 refine (aX (by decide) _).trans ?_);apply Ja<;>first|assumption|omega) (by intros;apply Ji<;>first|assumption|omega) ((q0.1)) q0.2
theorem VH: ∀ (g:Nat) (xs:List C),noRefs 0 xs=false→Au g xs=none:=bW VG Qy
theorem Jk (l:List ab) (hc0:LB l) :Au 12 [sl eC .no l] =some (.tup [.agg (cl bC (kD l).1),.val (nI (kD l).2)]) :=
 (bM _).trans (bv ZT ⟨(l),hc0⟩)
abbrev Jl:= {q0: (List ab) // ((q0).length≤1000000)}
def ph (q0:Jl) :List C:= [sl eC .no (q0.1)]
noncomputable def vk (q0:Jl) :C:=sl eC (.own 2) (q0.1)
noncomputable def Av:Nat→List C→Option C:=Sx.ext Au 13 (ce ph vk)
theorem QA (x:Jl) :noRefs 0 (ph x) =true:=by
 simp only[ph,aM,bq,br,bA,aT,aU,ay,aD,aN,Bool.and_self,Bool.and_true,bI,bB,bJ,bK]
theorem ZU (x y:Jl) (h:ph x=ph y) :vk x=vk y:=by
 simp only[ph,List.cons.injEq,C.val.injEq,C.agg.injEq,C.kp.injEq,C.fn.injEq,cr,b7,ca,co,cn,b8,cj,cb,Value.int.injEq,Value.bool.injEq,true_and,and_true] at h;simp only[vk,h]
theorem QB {gl:Nat→C} (hgn: ∀g,aG 0 (gl g) =true) (hg0:gl 0= .kp (cl wC kc)) (hg2:gl 2= .kp (cl wC kc)) (M:Nat) :CxOK (aO gl M Av) :=bz (N:=0) (Qz hgn hg0 hg2 0) QA fun q0=>Zc (Qz hgn hg0 hg2 0) ((q0.1)) q0.2
theorem VI: ∀ (g:Nat) (xs:List C),noRefs 0 xs=false→Av g xs=none:=bW VH QA
theorem Jm (l:List ab) (hc0:l.length≤1000000) :Av 13 [sl eC .no l] =some (sl eC (.own 2) l) :=
 (bM _).trans (bv ZU ⟨(l),hc0⟩)
abbrev Jn:= {q0: (List ab) // ((q0).length≤1000000)}
def pj (q0:Jn) :List C:= [sl eC .no (q0.1)]
noncomputable def vl (q0:Jn) :C:=sl eC (.own 2) (q0.1)
noncomputable def Aw:Nat→List C→Option C:=Sx.ext Av 18 (ce pj vl)
theorem QC (x:Jn) :noRefs 0 (pj x) =true:=by
 simp only[pj,aM,bq,br,bA,aT,aU,ay,aD,aN,Bool.and_self,Bool.and_true,bI,bB,bJ,bK]
theorem ZV (x y:Jn) (h:pj x=pj y) :vl x=vl y:=by
 simp only[pj,List.cons.injEq,C.val.injEq,C.agg.injEq,C.kp.injEq,C.fn.injEq,cr,b7,ca,co,cn,b8,cj,cb,Value.int.injEq,Value.bool.injEq,true_and,and_true] at h;simp only[vl,h]
theorem QD {gl:Nat→C} (hgn: ∀g,aG 0 (gl g) =true) (hg0:gl 0= .kp (cl wC kc)) (hg2:gl 2= .kp (cl wC kc)) (M:Nat) :CxOK (aO gl M Aw) :=bz (N:=0) (QB hgn hg0 hg2 0) QC fun q0=>Zd (QB hgn hg0 hg2 0) ((q0.1)) q0.2
theorem VJ: ∀ (g:Nat) (xs:List C),noRefs 0 xs=false→Aw g xs=none:=bW VI QC
theorem VK (l:List ab) (hc0:l.length≤1000000) :Aw 18 [sl eC .no l] =some (sl eC (.own 2) l) :=
 (bM _).trans (bv ZV ⟨(l),hc0⟩)
abbrev Jo:= {q0: (List UInt8)×(List UInt8) // True}
def pm (q0:Jo) :List C:= [.val (str (q0.1.1)),.val (str (q0.1.2))]
noncomputable def vm (q0:Jo) :C:= .val (.int .i64 (fL (q0.1.1) (q0.1.2)))
noncomputable def Ax:Nat→List C→Option C:=Sx.ext Aw 90 (ce pm vm)
theorem QE (x:Jo) :noRefs 0 (pm x) =true:=by
 simp only[pm,aM,bq,br,bA,aT,aU,ay,aD,aN,Bool.and_self,Bool.and_true,bI,bB,bJ,bK]
theorem ZW (x y:Jo) (h:pm x=pm y) :vm x=vm y:=by
 simp only[pm,List.cons.injEq,C.val.injEq,C.agg.injEq,C.kp.injEq,C.fn.injEq,cr,b7,ca,co,cn,b8,cj,cb,Value.int.injEq,Value.bool.injEq,true_and,and_true] at h;simp only[vm,h]
theorem QF {gl:Nat→C} (hgn: ∀g,aG 0 (gl g) =true) (hg0:gl 0= .kp (cl wC kc)) (hg2:gl 2= .kp (cl wC kc)) (M:Nat) :CxOK (aO gl M Ax) :=bz (N:=0) (QD hgn hg0 hg2 0) QE fun q0=>Vb (QD hgn hg0 hg2 0) ((q0.1.1)) ((q0.1.2))
theorem VL: ∀ (g:Nat) (xs:List C),noRefs 0 xs=false→Ax g xs=none:=bW VJ QE
theorem VM (a:List UInt8) (b:List UInt8) :Ax 90 [.val (str a),.val (str b)] =some (.val (.int .i64 (fL a b))) :=
 (bM _).trans (bv ZW ⟨(a,b),trivial⟩)
abbrev Jp:= {q0:ab×(List UInt8) // True}
def pn (q0:Jp) :List C:= [.agg (eC (q0.1.1)),.val (str (q0.1.2))]
noncomputable def vn (q0:Jp) :C:= .val (.int .i64 (fL (q0.1.1).1 (q0.1.2)))
noncomputable def Ay:Nat→List C→Option C:=Sx.ext Ax 89 (ce pn vn)
theorem QG (x:Jp) :noRefs 0 (pn x) =true:=by
 simp only[pn,aM,bq,br,bA,aT,aU,ay,aD,aN,Bool.and_self,Bool.and_true,bI,bB,bJ,bK]
theorem ZX (x y:Jp) (h:pn x=pn y) :vn x=vn y:=by
 simp only[pn,List.cons.injEq,C.val.injEq,C.agg.injEq,C.kp.injEq,C.fn.injEq,cr,b7,ca,co,cn,b8,cj,cb,Value.int.injEq,Value.bool.injEq,true_and,and_true] at h;simp only[vn,h]
theorem QH {gl:Nat→C} (hgn: ∀g,aG 0 (gl g) =true) (hg0:gl 0= .kp (cl wC kc)) (hg2:gl 2= .kp (cl wC kc)) (M:Nat) :CxOK (aO gl M Ay) :=bz (N:=0) (QF hgn hg0 hg2 0) QG fun q0=>YA (QF hgn hg0 hg2 0) (by intros;apply VM<;>first|assumption|omega) ((q0.1.1)) ((q0.1.2))
theorem VN: ∀ (g:Nat) (xs:List C),noRefs 0 xs=false→Ay g xs=none:=bW VL QG
theorem VO (x:ab) (k:List UInt8) :Ay 89 [.agg (eC x),.val (str k)] =some (.val (.int .i64 (fL x.1 k))) :=
 (bM _).trans (bv ZX ⟨(x,k),trivial⟩)
abbrev Jq:= {q0: (List ab)×(List UInt8) // (Srt (q0.1))∧((q0.1).length≤1000000)}
def pq (q0:Jq) :List C:= [sl eC .no (q0.1.1),.val (str (q0.1.2)),.fn 89 []]
noncomputable def vo (q0:Jq) :C:= .tup [.val (nI (bu (q0.1.1) (q0.1.2))),.val (.bool (ww (q0.1.1) (q0.1.2)))]
noncomputable def Az:Nat→List C→Option C:=Sx.ext Ay 88 (ce pq vo)
theorem QI (x:Jq) :noRefs 0 (pq x) =true:=by
 simp only[pq,aM,bq,br,bA,aT,aU,ay,aD,aN,Bool.and_self,Bool.and_true,bI,bB,bJ,bK]
theorem ZY (x y:Jq) (h:pq x=pq y) :vo x=vo y:=by
 simp only[pq,List.cons.injEq,C.val.injEq,C.agg.injEq,C.kp.injEq,C.fn.injEq,cr,b7,ca,co,cn,b8,cj,cb,Value.int.injEq,Value.bool.injEq,true_and,and_true] at h;simp only[vo,h]
theorem QJ {gl:Nat→C} (hgn: ∀g,aG 0 (gl g) =true) (hg0:gl 0= .kp (cl wC kc)) (hg2:gl 2= .kp (cl wC kc)) (M:Nat) :CxOK (aO gl M Az) :=bz (N:=0) (QH hgn hg0 hg2 0) QI fun q0=>YB (QH hgn hg0 hg2 0) (by intros;apply VO<;>first|assumption|omega) ((q0.1.1)) ((q0.1.2)) q0.2.1 q0.2.2
theorem VP: ∀ (g:Nat) (xs:List C),noRefs 0 xs=false→Az g xs=none:=bW VN QI
theorem VQ (l:List ab) (k:List UInt8) (hc0:Srt l) (hc1:l.length≤1000000) :Az 88 [sl eC .no l,.val (str k),.fn 89 []] =some (.tup [.val (nI (bu l k)),.val (.bool (ww l k))]) :=
 (bM _).trans (bv ZY ⟨(l,k),⟨hc0,hc1⟩⟩)
abbrev Jr:= {q0: (List ab)×(List UInt8) // (Srt (q0.1))∧((q0.1).length≤1000000)}
def pr (q0:Jr) :List C:= [sl eC .no (q0.1.1),.val (str (q0.1.2))]
noncomputable def vr (q0:Jr) :C:= .val (nI (bu (q0.1.1) (q0.1.2)))
noncomputable def AA:Nat→List C→Option C:=Sx.ext Az 56 (ce pr vr)
theorem QK (x:Jr) :noRefs 0 (pr x) =true:=by
 simp only[pr,aM,bq,br,bA,aT,aU,ay,aD,aN,Bool.and_self,Bool.and_true,bI,bB,bJ,bK]
theorem ZZ (x y:Jr) (h:pr x=pr y) :vr x=vr y:=by
 simp only[pr,List.cons.injEq,C.val.injEq,C.agg.injEq,C.kp.injEq,C.fn.injEq,cr,b7,ca,co,cn,b8,cj,cb,Value.int.injEq,Value.bool.injEq,true_and,and_true] at h;simp only[vr,h]
theorem QL {gl:Nat→C} (hgn: ∀g,aG 0 (gl g) =true) (hg0:gl 0= .kp (cl wC kc)) (hg2:gl 2= .kp (cl wC kc)) (M:Nat) :CxOK (aO gl M AA) :=bz (N:=0) (QJ hgn hg0 hg2 0) QK fun q0=>YC (QJ hgn hg0 hg2 0) (by intros;apply VQ<;>first|assumption|omega) ((q0.1.1)) ((q0.1.2)) q0.2.1 q0.2.2
theorem VR: ∀ (g:Nat) (xs:List C),noRefs 0 xs=false→AA g xs=none:=bW VP QK
theorem vt (l:List ab) (k:List UInt8) (hc0:Srt l) (hc1:l.length≤1000000) :AA 56 [sl eC .no l,.val (str k)] =some (.val (nI (bu l k))) :=
 (bM _).trans (bv ZZ ⟨(l,k),⟨hc0,hc1⟩⟩)
abbrev Js:= {q0: (List ab) // ((q0).length≤1000000)}
def pt (q0:Js) :List C:= [sl eC .no (q0.1)]
noncomputable def vu (q0:Js) :C:=sl eC (.own 2) (q0.1)
noncomputable def AB:Nat→List C→Option C:=Sx.ext AA 63 (ce pt vu)
theorem QM (x:Js) :noRefs 0 (pt x) =true:=by
 simp only[pt,aM,bq,br,bA,aT,aU,ay,aD,aN,Bool.and_self,Bool.and_true,bI,bB,bJ,bK]
theorem Z0 (x y:Js) (h:pt x=pt y) :vu x=vu y:=by
 simp only[pt,List.cons.injEq,C.val.injEq,C.agg.injEq,C.kp.injEq,C.fn.injEq,cr,b7,ca,co,cn,b8,cj,cb,Value.int.injEq,Value.bool.injEq,true_and,and_true] at h;simp only[vu,h]
theorem QN {gl:Nat→C} (hgn: ∀g,aG 0 (gl g) =true) (hg0:gl 0= .kp (cl wC kc)) (hg2:gl 2= .kp (cl wC kc)) (M:Nat) :CxOK (aO gl M AB) :=bz (N:=0) (QL hgn hg0 hg2 0) QM fun q0=>Y0 (QL hgn hg0 hg2 0) ((q0.1)) q0.2
theorem Jt: ∀ (g:Nat) (xs:List C),noRefs 0 xs=false→AB g xs=none:=bW VR QM
theorem Ju (l:List ab) (hc0:l.length≤1000000) :AB 63 [sl eC .no l] =some (sl eC (.own 2) l) :=
 (bM _).trans (bv Z0 ⟨(l),hc0⟩)
abbrev Jv:= {q0: (List ab)×Nat×Nat // (OkL (q0.1))∧((q0.2.1)≤(q0.2.2)∧(q0.2.2)≤(q0.1).length)}
def pv (q0:Jv) :List C:= [sl eC .no (q0.1.1),.val (nI (q0.1.2.1)),.val (nI (q0.1.2.2))]
noncomputable def vv (q0:Jv) :C:= .agg [.val (nI (q0.1.2.1)),.val (nI (q0.1.1).length),sl eC .no (((q0.1.1).drop (q0.1.2.1)).take ((q0.1.2.2) - (q0.1.2.1))),sl dC .no (c9 (q0.1.1) (q0.1.2.1) (q0.1.2.2))]
noncomputable def AC:Nat→List C→Option C:=Sx.ext AB 57 (ce pv vv)
theorem QO (x:Jv) :noRefs 0 (pv x) =true:=by
 simp only[pv,aM,bq,br,bA,aT,aU,ay,aD,aN,Bool.and_self,Bool.and_true,bI,bB,bJ,bK]
theorem Z1 (x y:Jv) (h:pv x=pv y) :vv x=vv y:=by
 simp only[pv,List.cons.injEq,C.val.injEq,C.agg.injEq,C.kp.injEq,C.fn.injEq,cr,b7,ca,co,cn,b8,cj,cb,Value.int.injEq,Value.bool.injEq,true_and,and_true] at h;simp only[vv,h]
theorem QP {gl:Nat→C} (hgn: ∀g,aG 0 (gl g) =true) (hg0:gl 0= .kp (cl wC kc)) (hg2:gl 2= .kp (cl wC kc)) (M:Nat) :CxOK (aO gl M AC) :=bz (N:=0) (QN hgn hg0 hg2 0) QO fun q0=>U9 (QN hgn hg0 hg2 0) Jt (by intros;apply Ju<;>first|assumption|omega) (by intros;(iterate 8 refine (aX (by decide) _).trans ?_);apply Ji<;>first|assumption|omega) (by intros;(iterate 11 refine (aX (by decide) _).trans ?_);apply Ap<;>first|assumption|omega) ((q0.1.1)) ((q0.1.2.1)) ((q0.1.2.2)) q0.2.1 q0.2.2
theorem VS: ∀ (g:Nat) (xs:List C),noRefs 0 xs=false→AC g xs=none:=bW Jt QO
theorem Jw (l:List ab) (f:Nat) (e:Nat) (hc0:OkL l) (hc1:f≤e∧e≤l.length) :AC 57 [sl eC .no l,.val (nI f),.val (nI e)] =some (.agg [.val (nI f),.val (nI l.length),sl eC .no ((l.drop f).take (e - f)),sl dC .no (c9 l f e)]) :=
 (bM _).trans (bv Z1 ⟨(l,f,e),⟨hc0,hc1⟩⟩)
abbrev Jx:= {q0: (List ab)×(List UInt8) // (LB (q0.1))}
def pw (q0:Jx) :List C:= [sl eC .no (q0.1.1),.val (str (q0.1.2))]
noncomputable def vw (q0:Jx) :C:= .tup [.agg [.val (nI (db (q0.1.1) (q0.1.2)).1.1),.val (nI (db (q0.1.1) (q0.1.2)).1.2.1),sl eC .no (db (q0.1.1) (q0.1.2)).1.2.2.1,sl dC .no (db (q0.1.1) (q0.1.2)).1.2.2.2],.val (nI (db (q0.1.1) (q0.1.2)).2)]
noncomputable def AD:Nat→List C→Option C:=Sx.ext AC 22 (ce pw vw)
theorem QQ (x:Jx) :noRefs 0 (pw x) =true:=by
 simp only[pw,aM,bq,br,bA,aT,aU,ay,aD,aN,Bool.and_self,Bool.and_true,bI,bB,bJ,bK]
theorem Z2 (x y:Jx) (h:pw x=pw y) :vw x=vw y:=by
 simp only[pw,List.cons.injEq,C.val.injEq,C.agg.injEq,C.kp.injEq,C.fn.injEq,cr,b7,ca,co,cn,b8,cj,cb,Value.int.injEq,Value.bool.injEq,true_and,and_true] at h;simp only[vw,h]
theorem QR {gl:Nat→C} (hgn: ∀g,aG 0 (gl g) =true) (hg0:gl 0= .kp (cl wC kc)) (hg2:gl 2= .kp (cl wC kc)) (M:Nat) :CxOK (aO gl M AD) :=bz (N:=0) (QP hgn hg0 hg2 0) QQ fun q0=>YF (QP hgn hg0 hg2 0) (by intros;(iterate 25 refine (aX (by decide) _).trans ?_);apply Ad<;>first|assumption|omega) (by intros;(iterate 2 refine (aX (by decide) _).trans ?_);apply vt<;>first|assumption|omega) (by intros;apply Jw<;>first|assumption|omega) ((q0.1.1)) ((q0.1.2)) q0.2
theorem VT: ∀ (g:Nat) (xs:List C),noRefs 0 xs=false→AD g xs=none:=bW VS QQ
theorem VU (l:List ab) (k:List UInt8) (hc0:LB l) :AD 22 [sl eC .no l,.val (str k)] =some (.tup [.agg [.val (nI (db l k).1.1),.val (nI (db l k).1.2.1),sl eC .no (db l k).1.2.2.1,sl dC .no (db l k).1.2.2.2],.val (nI (db l k).2)]) :=
 (bM _).trans (bv Z2 ⟨(l,k),hc0⟩)
abbrev Jy:= {q0: (List ab)×(List UInt8)×(List UInt8) // (LB (q0.1))}
def px (q0:Jy) :List C:= [sl eC .no (q0.1.1),.val (str (q0.1.2.1)),.val (str (q0.1.2.2))]
noncomputable def vx (q0:Jy) :C:= .tup [.agg [.val (nI (dc (q0.1.1) (q0.1.2.1) (q0.1.2.2)).1.1),.val (nI (dc (q0.1.1) (q0.1.2.1) (q0.1.2.2)).1.2.1),sl eC .no (dc (q0.1.1) (q0.1.2.1) (q0.1.2.2)).1.2.2.1,sl dC .no (dc (q0.1.1) (q0.1.2.1) (q0.1.2.2)).1.2.2.2],.val (nI (dc (q0.1.1) (q0.1.2.1) (q0.1.2.2)).2)]
noncomputable def AE:Nat→List C→Option C:=Sx.ext AD 24 (ce px vx)
theorem QS (x:Jy) :noRefs 0 (px x) =true:=by
 simp only[px,aM,bq,br,bA,aT,aU,ay,aD,aN,Bool.and_self,Bool.and_true,bI,bB,bJ,bK]
theorem Z3 (x y:Jy) (h:px x=px y) :vx x=vx y:=by
 simp only[px,List.cons.injEq,C.val.injEq,C.agg.injEq,C.kp.injEq,C.fn.injEq,cr,b7,ca,co,cn,b8,cj,cb,Value.int.injEq,Value.bool.injEq,true_and,and_true] at h;simp only[vx,h]
theorem QT {gl:Nat→C} (hgn: ∀g,aG 0 (gl g) =true) (hg0:gl 0= .kp (cl wC kc)) (hg2:gl 2= .kp (cl wC kc)) (M:Nat) :CxOK (aO gl M AE) :=bz (N:=0) (QR hgn hg0 hg2 0) QS fun q0=>YG (QR hgn hg0 hg2 0) (by intros;(iterate 26 refine (aX (by decide) _).trans ?_);apply Ad<;>first|assumption|omega) (by intros;(iterate 3 refine (aX (by decide) _).trans ?_);apply vt<;>first|assumption|omega) (by intros;(iterate 1 refine (aX (by decide) _).trans ?_);apply Jw<;>first|assumption|omega) ((q0.1.1)) ((q0.1.2.1)) ((q0.1.2.2)) q0.2
theorem Jz: ∀ (g:Nat) (xs:List C),noRefs 0 xs=false→AE g xs=none:=bW VT QS
theorem VV (l:List ab) (x:List UInt8) (y:List UInt8) (hc0:LB l) :AE 24 [sl eC .no l,.val (str x),.val (str y)] =some (.tup [.agg [.val (nI (dc l x y).1.1),.val (nI (dc l x y).1.2.1),sl eC .no (dc l x y).1.2.2.1,sl dC .no (dc l x y).1.2.2.2],.val (nI (dc l x y).2)]) :=
 (bM _).trans (bv Z3 ⟨(l,x,y),hc0⟩)
abbrev JA:= {q0: (List UInt8)×Int×Int×(List ab)×(List cf) // ((q0.1).length=16)∧(-9223372036854775808≤(q0.2.1)∧(q0.2.1)≤9223372036854775807)∧(-9223372036854775808≤(q0.2.2.1)∧(q0.2.2.1)≤9223372036854775807)∧(LB (q0.2.2.2.1))∧((q0.2.2.2.2).length≤1000000)}
def py (q0:JA) :List C:= [.agg [.val (.int .i64 (q0.1.2.1)),.val (.int .i64 (q0.1.2.2.1)),sl eC .no (q0.1.2.2.2.1),sl dC .no (q0.1.2.2.2.2)],.agg (cl bC (q0.1.1))]
noncomputable def vy (q0:JA) :C:= .val (.bool (dZ (q0.1.1) (q0.1.2.1) (q0.1.2.2.1) (q0.1.2.2.2.1) (q0.1.2.2.2.2)))
noncomputable def AF:Nat→List C→Option C:=Sx.ext AE 61 (ce py vy)
theorem QU (x:JA) :noRefs 0 (py x) =true:=by
 simp only[py,aM,bq,br,bA,aT,aU,ay,aD,aN,Bool.and_self,Bool.and_true,bI,bB,bJ,bK]
theorem Z4 (x y:JA) (h:py x=py y) :vy x=vy y:=by
 simp only[py,List.cons.injEq,C.val.injEq,C.agg.injEq,C.kp.injEq,C.fn.injEq,cr,b7,ca,co,cn,b8,cj,cb,Value.int.injEq,Value.bool.injEq,true_and,and_true] at h;simp only[vy,h]
theorem QV {gl:Nat→C} (hgn: ∀g,aG 0 (gl g) =true) (hg0:gl 0= .kp (cl wC kc)) (hg2:gl 2= .kp (cl wC kc)) (M:Nat) :CxOK (aO gl M AF) :=bz (N:=0) (QT hgn hg0 hg2 0) QU fun q0=>Va (QT hgn hg0 hg2 0) Jz (by intros;(iterate 27 refine (aX (by decide) _).trans ?_);apply Ad<;>first|assumption|omega) (by intros;(iterate 16 refine (aX (by decide) _).trans ?_);apply Ja<;>first|assumption|omega) (by intros;(iterate 15 refine (aX (by decide) _).trans ?_);apply Jc<;>first|assumption|omega) (by intros;(iterate 14 refine (aX (by decide) _).trans ?_);apply Ap<;>first|assumption|omega) (by intros;(iterate 13 refine (aX (by decide) _).trans ?_);apply Jf<;>first|assumption|omega) ((q0.1.1)) ((q0.1.2.1)) ((q0.1.2.2.1)) ((q0.1.2.2.2.1)) ((q0.1.2.2.2.2)) q0.2.1 q0.2.2.1 q0.2.2.2.1 q0.2.2.2.2.1 q0.2.2.2.2.2
theorem VW: ∀ (g:Nat) (xs:List C),noRefs 0 xs=false→AF g xs=none:=bW Jz QU
theorem JB (r:List UInt8) (f:Int) (z:Int) (l:List ab) (S:List cf) (hc0:r.length=16) (hc1: -9223372036854775808≤f∧f≤9223372036854775807) (hc2: -9223372036854775808≤z∧z≤9223372036854775807) (hc3:LB l) (hc4:S.length≤1000000) :AF 61 [.agg [.val (.int .i64 f),.val (.int .i64 z),sl eC .no l,sl dC .no S],.agg (cl bC r)] =some (.val (.bool (dZ r f z l S))) :=
 (bM _).trans (bv Z4 ⟨(r,f,z,l,S),⟨hc0,hc1,hc2,hc3,hc4⟩⟩)
abbrev JC:= {q0: (List UInt8)×(List UInt8)×Int×Int×(List ab)×(List cf) // ((q0.1).length=16)∧(-9223372036854775808≤(q0.2.2.1)∧(q0.2.2.1)≤9223372036854775807)∧(-9223372036854775808≤(q0.2.2.2.1)∧(q0.2.2.2.1)≤9223372036854775807)∧(LB (q0.2.2.2.2.1))∧((q0.2.2.2.2.2).length≤1000000)}
def pz (q0:JC) :List C:= [.agg (cl bC (q0.1.1)),.val (str (q0.1.2.1)),.agg [.val (.int .i64 (q0.1.2.2.1)),.val (.int .i64 (q0.1.2.2.2.1)),sl eC .no (q0.1.2.2.2.2.1),sl dC .no (q0.1.2.2.2.2.2)]]
noncomputable def vz (q0:JC) :C:= .tup [.val (str (er (q0.1.1) (q0.1.2.1) (q0.1.2.2.1) (q0.1.2.2.2.1) (q0.1.2.2.2.2.1) (q0.1.2.2.2.2.2)).1),.val (.bool (er (q0.1.1) (q0.1.2.1) (q0.1.2.2.1) (q0.1.2.2.2.1) (q0.1.2.2.2.2.1) (q0.1.2.2.2.2.2)).2.1),.val (nI (er (q0.1.1) (q0.1.2.1) (q0.1.2.2.1) (q0.1.2.2.2.1) (q0.1.2.2.2.2.1) (q0.1.2.2.2.2.2)).2.2)]
noncomputable def AG:Nat→List C→Option C:=Sx.ext AF 29 (ce pz vz)
theorem QW (x:JC) :noRefs 0 (pz x) =true:=by
 simp only[pz,aM,bq,br,bA,aT,aU,ay,aD,aN,Bool.and_self,Bool.and_true,bI,bB,bJ,bK]
theorem Z5 (x y:JC) (h:pz x=pz y) :vz x=vz y:=by
 simp only[pz,List.cons.injEq,C.val.injEq,C.agg.injEq,C.kp.injEq,C.fn.injEq,cr,b7,ca,co,cn,b8,cj,cb,Value.int.injEq,Value.bool.injEq,true_and,and_true] at h;simp only[vz,h]
theorem QX {gl:Nat→C} (hgn: ∀g,aG 0 (gl g) =true) (hg0:gl 0= .kp (cl wC kc)) (hg2:gl 2= .kp (cl wC kc)) (M:Nat) :CxOK (aO gl M AG) :=bz (N:=0) (QV hgn hg0 hg2 0) QW fun q0=>YI (QV hgn hg0 hg2 0) (by intros;apply JB<;>first|assumption|omega) (by intros;(iterate 5 refine (aX (by decide) _).trans ?_);apply vt<;>first|assumption|omega) ((q0.1.1)) ((q0.1.2.1)) ((q0.1.2.2.1)) ((q0.1.2.2.2.1)) ((q0.1.2.2.2.2.1)) ((q0.1.2.2.2.2.2)) q0.2.1 q0.2.2.1 q0.2.2.2.1 q0.2.2.2.2.1 q0.2.2.2.2.2
theorem VX: ∀ (g:Nat) (xs:List C),noRefs 0 xs=false→AG g xs=none:=bW VW QW
theorem JD (r:List UInt8) (k:List UInt8) (f:Int) (z:Int) (l:List ab) (S:List cf) (hc0:r.length=16) (hc1: -9223372036854775808≤f∧f≤9223372036854775807) (hc2: -9223372036854775808≤z∧z≤9223372036854775807) (hc3:LB l) (hc4:S.length≤1000000) :AG 29 [.agg (cl bC r),.val (str k),.agg [.val (.int .i64 f),.val (.int .i64 z),sl eC .no l,sl dC .no S]] =some (.tup [.val (str (er r k f z l S).1),.val (.bool (er r k f z l S).2.1),.val (nI (er r k f z l S).2.2)]) :=
 (bM _).trans (bv Z5 ⟨(r,k,f,z,l,S),⟨hc0,hc1,hc2,hc3,hc4⟩⟩)
abbrev JE:= {q0: (List UInt8)×(List UInt8)×(List UInt8)×Int×Int×(List ab)×(List cf) // ((q0.1).length=16)∧(-9223372036854775808≤(q0.2.2.2.1)∧(q0.2.2.2.1)≤9223372036854775807)∧(-9223372036854775808≤(q0.2.2.2.2.1)∧(q0.2.2.2.2.1)≤9223372036854775807)∧(LB (q0.2.2.2.2.2.1))∧((q0.2.2.2.2.2.2).length≤1000000)}
def pA (q0:JE) :List C:= [.agg (cl bC (q0.1.1)),.val (str (q0.1.2.1)),.val (str (q0.1.2.2.1)),.agg [.val (.int .i64 (q0.1.2.2.2.1)),.val (.int .i64 (q0.1.2.2.2.2.1)),sl eC .no (q0.1.2.2.2.2.2.1),sl dC .no (q0.1.2.2.2.2.2.2)]]
noncomputable def vA (q0:JE) :C:= .tup [sl eC .no (fp (q0.1.1) (q0.1.2.1) (q0.1.2.2.1) (q0.1.2.2.2.1) (q0.1.2.2.2.2.1) (q0.1.2.2.2.2.2.1) (q0.1.2.2.2.2.2.2)).1,.val (nI (fp (q0.1.1) (q0.1.2.1) (q0.1.2.2.1) (q0.1.2.2.2.1) (q0.1.2.2.2.2.1) (q0.1.2.2.2.2.2.1) (q0.1.2.2.2.2.2.2)).2)]
noncomputable def AH:Nat→List C→Option C:=Sx.ext AG 32 (ce pA vA)
theorem QY (x:JE) :noRefs 0 (pA x) =true:=by
 simp only[pA,aM,bq,br,bA,aT,aU,ay,aD,aN,Bool.and_self,Bool.and_true,bI,bB,bJ,bK]
theorem Z6 (x y:JE) (h:pA x=pA y) :vA x=vA y:=by
 simp only[pA,List.cons.injEq,C.val.injEq,C.agg.injEq,C.kp.injEq,C.fn.injEq,cr,b7,ca,co,cn,b8,cj,cb,Value.int.injEq,Value.bool.injEq,true_and,and_true] at h;simp only[vA,h]
theorem QZ {gl:Nat→C} (hgn: ∀g,aG 0 (gl g) =true) (hg0:gl 0= .kp (cl wC kc)) (hg2:gl 2= .kp (cl wC kc)) (M:Nat) :CxOK (aO gl M AH) :=bz (N:=0) (QX hgn hg0 hg2 0) QY fun q0=>YJ (QX hgn hg0 hg2 0) (by intros;(iterate 1 refine (aX (by decide) _).trans ?_);apply JB<;>first|assumption|omega) (by intros;(iterate 6 refine (aX (by decide) _).trans ?_);apply vt<;>first|assumption|omega) (by intros;(iterate 5 refine (aX (by decide) _).trans ?_);apply Ju<;>first|assumption|omega) ((q0.1.1)) ((q0.1.2.1)) ((q0.1.2.2.1)) ((q0.1.2.2.2.1)) ((q0.1.2.2.2.2.1)) ((q0.1.2.2.2.2.2.1)) ((q0.1.2.2.2.2.2.2)) q0.2.1 q0.2.2.1 q0.2.2.2.1 q0.2.2.2.2.1 q0.2.2.2.2.2
theorem VY: ∀ (g:Nat) (xs:List C),noRefs 0 xs=false→AH g xs=none:=bW VX QY
theorem JF (r:List UInt8) (x:List UInt8) (y:List UInt8) (f:Int) (z:Int) (l:List ab) (S:List cf) (hc0:r.length=16) (hc1: -9223372036854775808≤f∧f≤9223372036854775807) (hc2: -9223372036854775808≤z∧z≤9223372036854775807) (hc3:LB l) (hc4:S.length≤1000000) :AH 32 [.agg (cl bC r),.val (str x),.val (str y),.agg [.val (.int .i64 f),.val (.int .i64 z),sl eC .no l,sl dC .no S]] =some (.tup [sl eC .no (fp r x y f z l S).1,.val (nI (fp r x y f z l S).2)]) :=
 (bM _).trans (bv Z6 ⟨(r,x,y,f,z,l,S),⟨hc0,hc1,hc2,hc3,hc4⟩⟩)
abbrev JG:= {q0:Unit // True}
def rS (q0:JG) :List C:= ([] :List C)
noncomputable def AI (q0:JG) :C:=sl eC .full cR
noncomputable def AJ:Nat→List C→Option C:=Sx.ext AH 55 (ce rS AI)
theorem Q0 (x:JG) :noRefs 0 (rS x) =true:=by
 simp only[rS,aM,bq,br,bA,aT,aU,ay,aD,aN,Bool.and_self,Bool.and_true,bI,bB,bJ,bK]
theorem Z7 (x y:JG) (h:rS x=rS y) :AI x=AI y:=by
 rfl
theorem Q1 {gl:Nat→C} (hgn: ∀g,aG 0 (gl g) =true) (hg0:gl 0= .kp (cl wC kc)) (hg2:gl 2= .kp (cl wC kc)) (M:Nat) :CxOK (aO gl M AJ) :=bz (N:=0) (QZ hgn hg0 hg2 0) Q0 fun q0=>YN (QZ hgn hg0 hg2 0)
theorem VZ: ∀ (g:Nat) (xs:List C),noRefs 0 xs=false→AJ g xs=none:=bW VY Q0
theorem V0:AJ 55 ([] :List C) =some (sl eC .full cR) :=
 (bM _).trans (bv Z7 ⟨(),trivial⟩)
abbrev JH:= {q0:Unit // True}
def rT (q0:JH) :List C:= ([] :List C)
noncomputable def AK (q0:JH) :C:= .val (.bool true)
noncomputable def AL:Nat→List C→Option C:=Sx.ext AJ 19 (ce rT AK)
theorem Q2 (x:JH) :noRefs 0 (rT x) =true:=by
 simp only[rT,aM,bq,br,bA,aT,aU,ay,aD,aN,Bool.and_self,Bool.and_true,bI,bB,bJ,bK]
theorem Z9 (x y:JH) (h:rT x=rT y) :AK x=AK y:=by
 rfl
theorem Q3 {gl:Nat→C} (hgn: ∀g,aG 0 (gl g) =true) (hg0:gl 0= .kp (cl wC kc)) (hg2:gl 2= .kp (cl wC kc)) (M:Nat) :CxOK (aO gl M AL) :=bz (N:=0) (Q1 hgn hg0 hg2 0) Q2 fun q0=>YO (Q1 hgn hg0 hg2 0) (by intros;(iterate 14 refine (aX (by decide) _).trans ?_);apply Jk<;>first|assumption|omega) (by intros;(iterate 5 refine (aX (by decide) _).trans ?_);apply VU<;>first|assumption|omega) (by intros;(iterate 4 refine (aX (by decide) _).trans ?_);apply VV<;>first|assumption|omega) (by intros;(iterate 2 refine (aX (by decide) _).trans ?_);apply JD<;>first|assumption|omega) (by intros;(iterate 1 refine (aX (by decide) _).trans ?_);apply JF<;>first|assumption|omega) (by intros;apply V0<;>first|assumption|omega)
theorem V1: ∀ (g:Nat) (xs:List C),noRefs 0 xs=false→AL g xs=none:=bW VZ Q2
theorem V2:AL 19 ([] :List C) =some (.val (.bool true)) :=
 (bM _).trans (bv Z9 ⟨(),trivial⟩)
abbrev JI:= {q0: (List ab)×Int // ((q0.1).length≤1000000)∧(∀i,i< (q0.1).length→(gt (q0.1) i).1.length< 1000000)∧(-9223372036854775808≤(q0.2)∧(q0.2)≤9223372036854775807)}
def pB (q0:JI) :List C:= [sl eC .no (q0.1.1),.val (.int .i64 (q0.1.2))]
noncomputable def vB (q0:JI) :C:= .val (str (lU (q0.1.1) (q0.1.2)))
noncomputable def AM:Nat→List C→Option C:=Sx.ext AL 20 (ce pB vB)
theorem Q4 (x:JI) :noRefs 0 (pB x) =true:=by
 simp only[pB,aM,bq,br,bA,aT,aU,ay,aD,aN,Bool.and_self,Bool.and_true,bI,bB,bJ,bK]
theorem aaa (x y:JI) (h:pB x=pB y) :vB x=vB y:=by
 simp only[pB,List.cons.injEq,C.val.injEq,C.agg.injEq,C.kp.injEq,C.fn.injEq,cr,b7,ca,co,cn,b8,cj,cb,Value.int.injEq,Value.bool.injEq,true_and,and_true] at h;simp only[vB,h]
theorem Q5 {gl:Nat→C} (hgn: ∀g,aG 0 (gl g) =true) (hg0:gl 0= .kp (cl wC kc)) (hg2:gl 2= .kp (cl wC kc)) (M:Nat) :CxOK (aO gl M AM) :=bz (N:=0) (Q3 hgn hg0 hg2 0) Q4 fun q0=>aaE (Q3 hgn hg0 hg2 0) (by intros;(iterate 39 refine (aX (by decide) _).trans ?_);apply FQ<;>first|assumption|omega) (by intros;(iterate 37 refine (aX (by decide) _).trans ?_);apply FR<;>first|assumption|omega) ((q0.1.1)) ((q0.1.2)) q0.2.1 q0.2.2.1 q0.2.2.2
theorem V3: ∀ (g:Nat) (xs:List C),noRefs 0 xs=false→AM g xs=none:=bW V1 Q4
theorem V4 (l:List ab) (n:Int) (hc0:l.length≤1000000) (hc1: ∀i,i< l.length→(gt l i).1.length< 1000000) (hc2: -9223372036854775808≤n∧n≤9223372036854775807) :AM 20 [sl eC .no l,.val (.int .i64 n)] =some (.val (str (lU l n))) :=
 (bM _).trans (bv aaa ⟨(l,n),⟨hc0,hc1,hc2⟩⟩)
abbrev JJ:= {q0: (List ab) // (LB (q0))}
def pD (q0:JJ) :List C:= [sl eC .no (q0.1)]
noncomputable def vC (q0:JJ) :C:= .val (nI (cW (q0.1)))
noncomputable def AO:Nat→List C→Option C:=Sx.ext AM 16 (ce pD vC)
theorem Q6 (x:JJ) :noRefs 0 (pD x) =true:=by
 simp only[pD,aM,bq,br,bA,aT,aU,ay,aD,aN,Bool.and_self,Bool.and_true,bI,bB,bJ,bK]
theorem aab (x y:JJ) (h:pD x=pD y) :vC x=vC y:=by
 simp only[pD,List.cons.injEq,C.val.injEq,C.agg.injEq,C.kp.injEq,C.fn.injEq,cr,b7,ca,co,cn,b8,cj,cb,Value.int.injEq,Value.bool.injEq,true_and,and_true] at h;simp only[vC,h]
theorem Q7 {gl:Nat→C} (hgn: ∀g,aG 0 (gl g) =true) (hg0:gl 0= .kp (cl wC kc)) (hg2:gl 2= .kp (cl wC kc)) (M:Nat) :CxOK (aO gl M AO) :=bz (N:=0) (Q5 hgn hg0 hg2 0) Q6 fun q0=>Y7 (Q5 hgn hg0 hg2 0) ((q0.1)) q0.2
theorem V5: ∀ (g:Nat) (xs:List C),noRefs 0 xs=false→AO g xs=none:=bW V3 Q6
theorem JK (l:List ab) (hc0:LB l) :AO 16 [sl eC .no l] =some (.val (nI (cW l))) :=
 (bM _).trans (bv aab ⟨(l),hc0⟩)
abbrev JL:= {q0: (List ab)×(List UInt8) // ((q0.1).length≤1000000)}
def pE (q0:JL) :List C:= [sl eC .no (q0.1.1),.val (str (q0.1.2))]
noncomputable def vE (q0:JL) :C:= .val (nI (bu (q0.1.1) (q0.1.2)))
noncomputable def AP:Nat→List C→Option C:=Sx.ext AO 58 (ce pE vE)
theorem Q8 (x:JL) :noRefs 0 (pE x) =true:=by
 simp only[pE,aM,bq,br,bA,aT,aU,ay,aD,aN,Bool.and_self,Bool.and_true,bI,bB,bJ,bK]
theorem aac (x y:JL) (h:pE x=pE y) :vE x=vE y:=by
 simp only[pE,List.cons.injEq,C.val.injEq,C.agg.injEq,C.kp.injEq,C.fn.injEq,cr,b7,ca,co,cn,b8,cj,cb,Value.int.injEq,Value.bool.injEq,true_and,and_true] at h;simp only[vE,h]
theorem Q9 {gl:Nat→C} (hgn: ∀g,aG 0 (gl g) =true) (hg0:gl 0= .kp (cl wC kc)) (hg2:gl 2= .kp (cl wC kc)) (M:Nat) :CxOK (aO gl M AP) :=bz (N:=0) (Q7 hgn hg0 hg2 0) Q8 fun q0=>aaA (Q7 hgn hg0 hg2 0) ((q0.1.1)) ((q0.1.2)) q0.2
theorem V6: ∀ (g:Nat) (xs:List C),noRefs 0 xs=false→AP g xs=none:=bW V5 Q8
theorem JM (l:List ab) (k:List UInt8) (hc0:l.length≤1000000) :AP 58 [sl eC .no l,.val (str k)] =some (.val (nI (bu l k))) :=
 (bM _).trans (bv aac ⟨(l,k),hc0⟩)
abbrev JN:= {q0: (List ab)×(List UInt8) // ((q0.1).length≤1000000)}
def pF (q0:JN) :List C:= [sl eC .no (q0.1.1),.val (str (q0.1.2))]
noncomputable def vF (q0:JN) :C:= .val (.int .i64 (g6 (q0.1.1) (q0.1.2)))
noncomputable def AQ:Nat→List C→Option C:=Sx.ext AP 35 (ce pF vF)
theorem Ra (x:JN) :noRefs 0 (pF x) =true:=by
 simp only[pF,aM,bq,br,bA,aT,aU,ay,aD,aN,Bool.and_self,Bool.and_true,bI,bB,bJ,bK]
theorem aad (x y:JN) (h:pF x=pF y) :vF x=vF y:=by
 simp only[pF,List.cons.injEq,C.val.injEq,C.agg.injEq,C.kp.injEq,C.fn.injEq,cr,b7,ca,co,cn,b8,cj,cb,Value.int.injEq,Value.bool.injEq,true_and,and_true] at h;simp only[vF,h]
theorem Rb {gl:Nat→C} (hgn: ∀g,aG 0 (gl g) =true) (hg0:gl 0= .kp (cl wC kc)) (hg2:gl 2= .kp (cl wC kc)) (M:Nat) :CxOK (aO gl M AQ) :=bz (N:=0) (Q9 hgn hg0 hg2 0) Ra fun q0=>aaB (Q9 hgn hg0 hg2 0) ((q0.1.1)) ((q0.1.2)) q0.2
theorem V7: ∀ (g:Nat) (xs:List C),noRefs 0 xs=false→AQ g xs=none:=bW V6 Ra
theorem JO (l:List ab) (k:List UInt8) (hc0:l.length≤1000000) :AQ 35 [sl eC .no l,.val (str k)] =some (.val (.int .i64 (g6 l k))) :=
 (bM _).trans (bv aad ⟨(l,k),hc0⟩)
abbrev JP:= {q0:Int // (-9223372036854775808≤(q0)∧(q0)≤9223372036854775807)}
def pG (q0:JP) :List C:= [.val (.int .i64 (q0.1))]
noncomputable def vH (q0:JP) :C:=sl bC (.own 1) (cX (q0.1))
noncomputable def AS:Nat→List C→Option C:=Sx.ext AQ 83 (ce pG vH)
theorem Rc (x:JP) :noRefs 0 (pG x) =true:=by
 simp only[pG,aM,bq,br,bA,aT,aU,ay,aD,aN,Bool.and_self,Bool.and_true,bI,bB,bJ,bK]
theorem aae (x y:JP) (h:pG x=pG y) :vH x=vH y:=by
 simp only[pG,List.cons.injEq,C.val.injEq,C.agg.injEq,C.kp.injEq,C.fn.injEq,cr,b7,ca,co,cn,b8,cj,cb,Value.int.injEq,Value.bool.injEq,true_and,and_true] at h;simp only[vH,h]
theorem Rd {gl:Nat→C} (hgn: ∀g,aG 0 (gl g) =true) (hg0:gl 0= .kp (cl wC kc)) (hg2:gl 2= .kp (cl wC kc)) (M:Nat) :CxOK (aO gl M AS) :=bz (N:=0) (Rb hgn hg0 hg2 0) Rc fun q0=>Y2 (Rb hgn hg0 hg2 0) ((q0.1)) q0.2
theorem V8: ∀ (g:Nat) (xs:List C),noRefs 0 xs=false→AS g xs=none:=bW V7 Rc
theorem JQ (n:Int) (hc0: -9223372036854775808≤n∧n≤9223372036854775807) :AS 83 [.val (.int .i64 n)] =some (sl bC (.own 1) (cX n)) :=
 (bM _).trans (bv aae ⟨(n),hc0⟩)
abbrev JR:= {q0: (List UInt8) // ((q0).length< 70368744177664)}
def pH (q0:JR) :List C:= [.val (str (q0.1))]
noncomputable def vI (q0:JR) :C:=sl bC (.own 1) (wb (q0.1))
noncomputable def AT:Nat→List C→Option C:=Sx.ext AS 95 (ce pH vI)
theorem Re (x:JR) :noRefs 0 (pH x) =true:=by
 simp only[pH,aM,bq,br,bA,aT,aU,ay,aD,aN,Bool.and_self,Bool.and_true,bI,bB,bJ,bK]
theorem aaf (x y:JR) (h:pH x=pH y) :vI x=vI y:=by
 simp only[pH,List.cons.injEq,C.val.injEq,C.agg.injEq,C.kp.injEq,C.fn.injEq,cr,b7,ca,co,cn,b8,cj,cb,Value.int.injEq,Value.bool.injEq,true_and,and_true] at h;simp only[vI,h]
theorem Rf {gl:Nat→C} (hgn: ∀g,aG 0 (gl g) =true) (hg0:gl 0= .kp (cl wC kc)) (hg2:gl 2= .kp (cl wC kc)) (M:Nat) :CxOK (aO gl M AT) :=bz (N:=0) (Rd hgn hg0 hg2 0) Re fun q0=>aaQ (Rd hgn hg0 hg2 0) (by intros;rename_i m hm;exact (JQ (m:Int) (by omega)).trans (by rw[ik])) ((q0.1)) q0.2
theorem V9: ∀ (g:Nat) (xs:List C),noRefs 0 xs=false→AT g xs=none:=bW V8 Re
theorem Wa (s:List UInt8) (hc0:s.length< 70368744177664) :AT 95 [.val (str s)] =some (sl bC (.own 1) (wb s)) :=
 (bM _).trans (bv aaf ⟨(s),hc0⟩)
abbrev JS:= {q0:Int×(List (List UInt8)) // ((cL (q0.1) (q0.2)).length< 1099511627776)}
def pI (q0:JS) :List C:= [.val (.int .i64 (q0.1.1)),sl sC .no (q0.1.2)]
noncomputable def vJ (q0:JS) :C:=sl bC (.own 1) (cL (q0.1.1) (q0.1.2))
noncomputable def AU:Nat→List C→Option C:=Sx.ext AT 65 (ce pI vJ)
theorem Rg (x:JS) :noRefs 0 (pI x) =true:=by
 simp only[pI,aM,bq,br,bA,aT,aU,ay,aD,aN,Bool.and_self,Bool.and_true,bI,bB,bJ,bK]
theorem aag (x y:JS) (h:pI x=pI y) :vJ x=vJ y:=by
 simp only[pI,List.cons.injEq,C.val.injEq,C.agg.injEq,C.kp.injEq,C.fn.injEq,cr,b7,ca,co,cn,b8,cj,cb,Value.int.injEq,Value.bool.injEq,true_and,and_true] at h;simp only[vJ,h]
theorem Rh {gl:Nat→C} (hgn: ∀g,aG 0 (gl g) =true) (hg0:gl 0= .kp (cl wC kc)) (hg2:gl 2= .kp (cl wC kc)) (M:Nat) :CxOK (aO gl M AU) :=bz (N:=0) (Rf hgn hg0 hg2 0) Rg fun q0=>aaU (Rf hgn hg0 hg2 0) (by intros;apply Wa<;>first|assumption|omega) ((q0.1.1)) ((q0.1.2)) q0.2
theorem Wb: ∀ (g:Nat) (xs:List C),noRefs 0 xs=false→AU g xs=none:=bW V9 Rg
theorem JT (tag:Int) (parts:List (List UInt8)) (hc0: (cL tag parts).length< 1099511627776) :AU 65 [.val (.int .i64 tag),sl sC .no parts] =some (sl bC (.own 1) (cL tag parts)) :=
 (bM _).trans (bv aag ⟨(tag,parts),hc0⟩)
abbrev JU:= {q0: (List UInt8) // ((q0).length< 35184372088832)}
def pJ (q0:JU) :List C:= [sl bC .no (q0.1)]
noncomputable def vK (q0:JU) :C:=sl bC (.own 1) ((q0.1)++lq (q0.1).length)
noncomputable def AV:Nat→List C→Option C:=Sx.ext AU 108 (ce pJ vK)
theorem Ri (x:JU) :noRefs 0 (pJ x) =true:=by
 simp only[pJ,aM,bq,br,bA,aT,aU,ay,aD,aN,Bool.and_self,Bool.and_true,bI,bB,bJ,bK]
theorem aah (x y:JU) (h:pJ x=pJ y) :vK x=vK y:=by
 simp only[pJ,List.cons.injEq,C.val.injEq,C.agg.injEq,C.kp.injEq,C.fn.injEq,cr,b7,ca,co,cn,b8,cj,cb,Value.int.injEq,Value.bool.injEq,true_and,and_true] at h;simp only[vK,h]
theorem Rj {gl:Nat→C} (hgn: ∀g,aG 0 (gl g) =true) (hg0:gl 0= .kp (cl wC kc)) (hg2:gl 2= .kp (cl wC kc)) (M:Nat) :CxOK (aO gl M AV) :=bz (N:=0) (Rh hgn hg0 hg2 0) Ri fun q0=>W6 (Rh hgn hg0 hg2 0) ((q0.1)) q0.2
theorem Wc: ∀ (g:Nat) (xs:List C),noRefs 0 xs=false→AV g xs=none:=bW Wb Ri
theorem Wd (b:List UInt8) (hc0:b.length< 35184372088832) :AV 108 [sl bC .no b] =some (sl bC (.own 1) (b++lq b.length)) :=
 (bM _).trans (bv aah ⟨(b),hc0⟩)
abbrev JV:= {q0: (BitVec 32)×Nat // ((q0.2) < 32)}
def pK (q0:JV) :List C:= [.val (cB (q0.1.1)),.val (nI (q0.1.2))]
noncomputable def vL (q0:JV) :C:= .val (cB (rr (q0.1.1) (q0.1.2)))
noncomputable def AW:Nat→List C→Option C:=Sx.ext AV 110 (ce pK vL)
theorem Rk (x:JV) :noRefs 0 (pK x) =true:=by
 simp only[pK,aM,bq,br,bA,aT,aU,ay,aD,aN,Bool.and_self,Bool.and_true,bI,bB,bJ,bK]
theorem aai (x y:JV) (h:pK x=pK y) :vL x=vL y:=by
 simp only[pK,List.cons.injEq,C.val.injEq,C.agg.injEq,C.kp.injEq,C.fn.injEq,cr,b7,ca,co,cn,b8,cj,cb,Value.int.injEq,Value.bool.injEq,true_and,and_true] at h;simp only[vL,h]
theorem Rl {gl:Nat→C} (hgn: ∀g,aG 0 (gl g) =true) (hg0:gl 0= .kp (cl wC kc)) (hg2:gl 2= .kp (cl wC kc)) (M:Nat) :CxOK (aO gl M AW) :=bz (N:=0) (Rj hgn hg0 hg2 0) Rk fun q0=>WT (Rj hgn hg0 hg2 0) ((q0.1.1)) ((q0.1.2)) q0.2
theorem We: ∀ (g:Nat) (xs:List C),noRefs 0 xs=false→AW g xs=none:=bW Wc Rk
theorem JW (x:BitVec 32) (n:Nat) (hc0:n< 32) :AW 110 [.val (cB x),.val (nI n)] =some (.val (cB (rr x n))) :=
 (bM _).trans (bv aai ⟨(x,n),hc0⟩)
abbrev JX:= {q0: (List UInt8) // ((q0).length=64)}
def pL (q0:JX) :List C:= [sl bC .no (q0.1)]
noncomputable def vM (q0:JX) :C:= .agg (cl wC (cd (q0.1) 64))
noncomputable def AX:Nat→List C→Option C:=Sx.ext AW 109 (ce pL vM)
theorem Rm (x:JX) :noRefs 0 (pL x) =true:=by
 simp only[pL,aM,bq,br,bA,aT,aU,ay,aD,aN,Bool.and_self,Bool.and_true,bI,bB,bJ,bK]
theorem aaj (x y:JX) (h:pL x=pL y) :vM x=vM y:=by
 simp only[pL,List.cons.injEq,C.val.injEq,C.agg.injEq,C.kp.injEq,C.fn.injEq,cr,b7,ca,co,cn,b8,cj,cb,Value.int.injEq,Value.bool.injEq,true_and,and_true] at h;simp only[vM,h]
theorem Rn {gl:Nat→C} (hgn: ∀g,aG 0 (gl g) =true) (hg0:gl 0= .kp (cl wC kc)) (hg2:gl 2= .kp (cl wC kc)) (M:Nat) :CxOK (aO gl M AX) :=bz (N:=0) (Rl hgn hg0 hg2 0) Rm fun q0=>W7 (Rl hgn hg0 hg2 0) (by intros;apply JW<;>first|assumption|omega) ((q0.1)) q0.2
theorem Wf: ∀ (g:Nat) (xs:List C),noRefs 0 xs=false→AX g xs=none:=bW We Rm
theorem Wg (b:List UInt8) (hc0:b.length=64) :AX 109 [sl bC .no b] =some (.agg (cl wC (cd b 64))) :=
 (bM _).trans (bv aaj ⟨(b),hc0⟩)
abbrev JY:= {q0: (List UInt8) // ((q0).length< 35184372088832)}
def pM (q0:JY) :List C:= [sl bC .no (q0.1)]
noncomputable def vN (q0:JY) :C:= .agg (cl bC (eR (q0.1)))
noncomputable def AY:Nat→List C→Option C:=Sx.ext AX 94 (ce pM vN)
theorem Ro (x:JY) :noRefs 0 (pM x) =true:=by
 simp only[pM,aM,bq,br,bA,aT,aU,ay,aD,aN,Bool.and_self,Bool.and_true,bI,bB,bJ,bK]
theorem aak (x y:JY) (h:pM x=pM y) :vN x=vN y:=by
 simp only[pM,List.cons.injEq,C.val.injEq,C.agg.injEq,C.kp.injEq,C.fn.injEq,cr,b7,ca,co,cn,b8,cj,cb,Value.int.injEq,Value.bool.injEq,true_and,and_true] at h;simp only[vN,h]
theorem Rp {gl:Nat→C} (hgn: ∀g,aG 0 (gl g) =true) (hg0:gl 0= .kp (cl wC kc)) (hg2:gl 2= .kp (cl wC kc)) (M:Nat) :CxOK (aO gl M AY) :=bz (N:=0) (Rn hgn hg0 hg2 0) Ro fun q0=>aaS (Rn hgn hg0 hg2 0) hg0 (by intros;(iterate 2 refine (aX (by decide) _).trans ?_);apply Wd<;>first|assumption|omega) (by intros;apply Wg<;>first|assumption|omega) (by intros;(iterate 1 refine (aX (by decide) _).trans ?_);apply JW<;>first|assumption|omega) ((q0.1)) q0.2
theorem Wh: ∀ (g:Nat) (xs:List C),noRefs 0 xs=false→AY g xs=none:=bW Wf Ro
theorem Wi (b:List UInt8) (hc0:b.length< 35184372088832) :AY 94 [sl bC .no b] =some (.agg (cl bC (eR b))) :=
 (bM _).trans (bv aak ⟨(b),hc0⟩)
abbrev JZ:= {q0: (List UInt8) // ((q0).length< 35184372088832)}
def pN (q0:JZ) :List C:= [sl bC .no (q0.1)]
noncomputable def vO (q0:JZ) :C:= .agg (cl bC ((eR (q0.1)).take 16))
noncomputable def AZ:Nat→List C→Option C:=Sx.ext AY 64 (ce pN vO)
theorem Rq (x:JZ) :noRefs 0 (pN x) =true:=by
 simp only[pN,aM,bq,br,bA,aT,aU,ay,aD,aN,Bool.and_self,Bool.and_true,bI,bB,bJ,bK]
theorem aal (x y:JZ) (h:pN x=pN y) :vO x=vO y:=by
 simp only[pN,List.cons.injEq,C.val.injEq,C.agg.injEq,C.kp.injEq,C.fn.injEq,cr,b7,ca,co,cn,b8,cj,cb,Value.int.injEq,Value.bool.injEq,true_and,and_true] at h;simp only[vO,h]
theorem Rr {gl:Nat→C} (hgn: ∀g,aG 0 (gl g) =true) (hg0:gl 0= .kp (cl wC kc)) (hg2:gl 2= .kp (cl wC kc)) (M:Nat) :CxOK (aO gl M AZ) :=bz (N:=0) (Rp hgn hg0 hg2 0) Rq fun q0=>aaT (Rp hgn hg0 hg2 0) (by intros;apply Wi<;>first|assumption|omega) ((q0.1)) q0.2
theorem Wj: ∀ (g:Nat) (xs:List C),noRefs 0 xs=false→AZ g xs=none:=bW Wh Rq
theorem J0 (b:List UInt8) (hc0:b.length< 35184372088832) :AZ 64 [sl bC .no b] =some (.agg (cl bC ((eR b).take 16))) :=
 (bM _).trans (bv aal ⟨(b),hc0⟩)
abbrev J1:= {q0: (List UInt8) // ((q0).length=16)}
def pO (q0:J1) :List C:= [.agg (cl bC (q0.1))]
noncomputable def vP (q0:J1) :C:= .val (str (q0.1))
noncomputable def A0:Nat→List C→Option C:=Sx.ext AZ 84 (ce pO vP)
theorem Rs (x:J1) :noRefs 0 (pO x) =true:=by
 simp only[pO,aM,bq,br,bA,aT,aU,ay,aD,aN,Bool.and_self,Bool.and_true,bI,bB,bJ,bK]
theorem aam (x y:J1) (h:pO x=pO y) :vP x=vP y:=by
 simp only[pO,List.cons.injEq,C.val.injEq,C.agg.injEq,C.kp.injEq,C.fn.injEq,cr,b7,ca,co,cn,b8,cj,cb,Value.int.injEq,Value.bool.injEq,true_and,and_true] at h;simp only[vP,h]
theorem Ru {gl:Nat→C} (hgn: ∀g,aG 0 (gl g) =true) (hg0:gl 0= .kp (cl wC kc)) (hg2:gl 2= .kp (cl wC kc)) (M:Nat) :CxOK (aO gl M A0) :=bz (N:=0) (Rr hgn hg0 hg2 0) Rs fun q0=>aaR (Rr hgn hg0 hg2 0) ((q0.1)) q0.2
theorem Wk: ∀ (g:Nat) (xs:List C),noRefs 0 xs=false→A0 g xs=none:=bW Wj Rs
theorem J2 (h:List UInt8) (hc0:h.length=16) :A0 84 [.agg (cl bC h)] =some (.val (str h)) :=
 (bM _).trans (bv aam ⟨(h),hc0⟩)
abbrev J3:= {q0:Nat // ((q0)≤4611686018427387000)}
def pP (q0:J3) :List C:= [.val (nI (q0.1))]
noncomputable def vQ (q0:J3) :C:= .val (nI (aV (q0.1)))
noncomputable def A1:Nat→List C→Option C:=Sx.ext A0 106 (ce pP vQ)
theorem Rv (x:J3) :noRefs 0 (pP x) =true:=by
 simp only[pP,aM,bq,br,bA,aT,aU,ay,aD,aN,Bool.and_self,Bool.and_true,bI,bB,bJ,bK]
theorem aan (x y:J3) (h:pP x=pP y) :vQ x=vQ y:=by
 simp only[pP,List.cons.injEq,C.val.injEq,C.agg.injEq,C.kp.injEq,C.fn.injEq,cr,b7,ca,co,cn,b8,cj,cb,Value.int.injEq,Value.bool.injEq,true_and,and_true] at h;simp only[vQ,h]
theorem Rw {gl:Nat→C} (hgn: ∀g,aG 0 (gl g) =true) (hg0:gl 0= .kp (cl wC kc)) (hg2:gl 2= .kp (cl wC kc)) (M:Nat) :CxOK (aO gl M A1) :=bz (N:=0) (Ru hgn hg0 hg2 0) Rv fun q0=>U8 (Ru hgn hg0 hg2 0) ((q0.1)) q0.2
theorem J4: ∀ (g:Nat) (xs:List C),noRefs 0 xs=false→A1 g xs=none:=bW Wk Rv
theorem J5 (n:Nat) (hc0:n≤4611686018427387000) :A1 106 [.val (nI n)] =some (.val (nI (aV n))) :=
 (bM _).trans (bv aan ⟨(n),hc0⟩)
abbrev J6:= {q0: (List ab)×Nat×Nat×Nat×Nat // (OkL (q0.1))∧((q0.2.1)≤5000∧(q0.2.2.1)≤5000)∧((q0.2.2.2.1) < (q0.2.2.2.2)∧(q0.2.2.2.2)≤(q0.1).length)}
def pQ (q0:J6) :List C:= [sl eC .no (q0.1.1),.val (nI (q0.1.2.1)),.val (nI (q0.1.2.2.1)),.val (nI (q0.1.2.2.2.1)),.val (nI (q0.1.2.2.2.2))]
noncomputable def vR (q0:J6) :C:=sl dC (.own 16) (dA (q0.1.1) (q0.1.2.1) (q0.1.2.2.1) 12 (q0.1.2.2.2.1) (q0.1.2.2.2.2))
noncomputable def A2:Nat→List C→Option C:=Sx.ext A1 92 (ce pQ vR)
theorem Rx (x:J6) :noRefs 0 (pQ x) =true:=by
 simp only[pQ,aM,bq,br,bA,aT,aU,ay,aD,aN,Bool.and_self,Bool.and_true,bI,bB,bJ,bK]
theorem aao (x y:J6) (h:pQ x=pQ y) :vR x=vR y:=by
 simp only[pQ,List.cons.injEq,C.val.injEq,C.agg.injEq,C.kp.injEq,C.fn.injEq,cr,b7,ca,co,cn,b8,cj,cb,Value.int.injEq,Value.bool.injEq,true_and,and_true] at h;simp only[vR,h]
theorem Ry {gl:Nat→C} (hgn: ∀g,aG 0 (gl g) =true) (hg0:gl 0= .kp (cl wC kc)) (hg2:gl 2= .kp (cl wC kc)) (M:Nat) :CxOK (aO gl M A2) :=bz (N:=0) (Rw hgn hg0 hg2 0) Rx fun q0=>YZ (Rw hgn hg0 hg2 0) J4 (by intros;(iterate 7 refine (aX (by decide) _).trans ?_);apply JT<;>first|assumption|omega) (by intros;(iterate 2 refine (aX (by decide) _).trans ?_);apply J0<;>first|assumption|omega) (by intros;(iterate 1 refine (aX (by decide) _).trans ?_);apply J2<;>first|assumption|omega) (by intros;apply J5<;>first|assumption|omega) ((q0.1.1)) ((q0.1.2.1)) ((q0.1.2.2.1)) ((q0.1.2.2.2.1)) ((q0.1.2.2.2.2)) q0.2.1 q0.2.2.1 q0.2.2.2
theorem Wl: ∀ (g:Nat) (xs:List C),noRefs 0 xs=false→A2 g xs=none:=bW J4 Rx
theorem Wm (l:List ab) (f:Nat) (e:Nat) (a:Nat) (b:Nat) (hc0:OkL l) (hc1:f≤5000∧e≤5000) (hc2:a< b∧b≤l.length) :A2 92 [sl eC .no l,.val (nI f),.val (nI e),.val (nI a),.val (nI b)] =some (sl dC (.own 16) (dA l f e 12 a b)) :=
 (bM _).trans (bv aao ⟨(l,f,e,a,b),⟨hc0,hc1,hc2⟩⟩)
abbrev J7:= {q0: (List ab)×Nat×Nat // (OkL (q0.1))∧((q0.2.1)≤(q0.2.2)∧(q0.2.2)≤(q0.1).length)}
def pR (q0:J7) :List C:= [sl eC .no (q0.1.1),.val (nI (q0.1.2.1)),.val (nI (q0.1.2.2))]
noncomputable def vS (q0:J7) :C:= .agg [.val (nI (q0.1.2.1)),.val (nI (q0.1.1).length),sl eC .no (((q0.1.1).drop (q0.1.2.1)).take ((q0.1.2.2) - (q0.1.2.1))),sl dC .no (c9 (q0.1.1) (q0.1.2.1) (q0.1.2.2))]
noncomputable def A3:Nat→List C→Option C:=Sx.ext A2 59 (ce pR vS)
theorem Rz (x:J7) :noRefs 0 (pR x) =true:=by
 simp only[pR,aM,bq,br,bA,aT,aU,ay,aD,aN,Bool.and_self,Bool.and_true,bI,bB,bJ,bK]
theorem aap (x y:J7) (h:pR x=pR y) :vS x=vS y:=by
 simp only[pR,List.cons.injEq,C.val.injEq,C.agg.injEq,C.kp.injEq,C.fn.injEq,cr,b7,ca,co,cn,b8,cj,cb,Value.int.injEq,Value.bool.injEq,true_and,and_true] at h;simp only[vS,h]
theorem RA {gl:Nat→C} (hgn: ∀g,aG 0 (gl g) =true) (hg0:gl 0= .kp (cl wC kc)) (hg2:gl 2= .kp (cl wC kc)) (M:Nat) :CxOK (aO gl M A3) :=bz (N:=0) (Ry hgn hg0 hg2 0) Rz fun q0=>YQ (Ry hgn hg0 hg2 0) (by intros;apply Wm<;>first|assumption|omega) ((q0.1.1)) ((q0.1.2.1)) ((q0.1.2.2)) q0.2.1 q0.2.2
theorem Wn: ∀ (g:Nat) (xs:List C),noRefs 0 xs=false→A3 g xs=none:=bW Wl Rz
theorem J8 (l:List ab) (f:Nat) (e:Nat) (hc0:OkL l) (hc1:f≤e∧e≤l.length) :A3 59 [sl eC .no l,.val (nI f),.val (nI e)] =some (.agg [.val (nI f),.val (nI l.length),sl eC .no ((l.drop f).take (e - f)),sl dC .no (c9 l f e)]) :=
 (bM _).trans (bv aap ⟨(l,f,e),⟨hc0,hc1⟩⟩)
abbrev J9:= {q0: (List ab)×(List UInt8) // (LB (q0.1))}
def pS (q0:J9) :List C:= [sl eC .no (q0.1.1),.val (str (q0.1.2))]
noncomputable def vT (q0:J9) :C:= .tup [.agg [.val (nI (db (q0.1.1) (q0.1.2)).1.1),.val (nI (db (q0.1.1) (q0.1.2)).1.2.1),sl eC .no (db (q0.1.1) (q0.1.2)).1.2.2.1,sl dC .no (db (q0.1.1) (q0.1.2)).1.2.2.2],.val (nI (db (q0.1.1) (q0.1.2)).2)]
noncomputable def A4:Nat→List C→Option C:=Sx.ext A3 23 (ce pS vT)
theorem RB (x:J9) :noRefs 0 (pS x) =true:=by
 simp only[pS,aM,bq,br,bA,aT,aU,ay,aD,aN,Bool.and_self,Bool.and_true,bI,bB,bJ,bK]
theorem aaq (x y:J9) (h:pS x=pS y) :vT x=vT y:=by
 simp only[pS,List.cons.injEq,C.val.injEq,C.agg.injEq,C.kp.injEq,C.fn.injEq,cr,b7,ca,co,cn,b8,cj,cb,Value.int.injEq,Value.bool.injEq,true_and,and_true] at h;simp only[vT,h]
theorem RC {gl:Nat→C} (hgn: ∀g,aG 0 (gl g) =true) (hg0:gl 0= .kp (cl wC kc)) (hg2:gl 2= .kp (cl wC kc)) (M:Nat) :CxOK (aO gl M A4) :=bz (N:=0) (RA hgn hg0 hg2 0) RB fun q0=>YR (RA hgn hg0 hg2 0) (by intros;(iterate 14 refine (aX (by decide) _).trans ?_);apply JK<;>first|assumption|omega) (by intros;(iterate 13 refine (aX (by decide) _).trans ?_);apply JM<;>first|assumption|omega) (by intros;(iterate 12 refine (aX (by decide) _).trans ?_);apply JO<;>first|assumption|omega) (by intros;apply J8<;>first|assumption|omega) ((q0.1.1)) ((q0.1.2)) q0.2
theorem Wo: ∀ (g:Nat) (xs:List C),noRefs 0 xs=false→A4 g xs=none:=bW Wn RB
theorem Wp (l:List ab) (k:List UInt8) (hc0:LB l) :A4 23 [sl eC .no l,.val (str k)] =some (.tup [.agg [.val (nI (db l k).1.1),.val (nI (db l k).1.2.1),sl eC .no (db l k).1.2.2.1,sl dC .no (db l k).1.2.2.2],.val (nI (db l k).2)]) :=
 (bM _).trans (bv aaq ⟨(l,k),hc0⟩)
abbrev Ka:= {q0: (List ab)×(List UInt8)×(List UInt8) // (LB (q0.1))}
def pT (q0:Ka) :List C:= [sl eC .no (q0.1.1),.val (str (q0.1.2.1)),.val (str (q0.1.2.2))]
noncomputable def vU (q0:Ka) :C:= .tup [.agg [.val (nI (dc (q0.1.1) (q0.1.2.1) (q0.1.2.2)).1.1),.val (nI (dc (q0.1.1) (q0.1.2.1) (q0.1.2.2)).1.2.1),sl eC .no (dc (q0.1.1) (q0.1.2.1) (q0.1.2.2)).1.2.2.1,sl dC .no (dc (q0.1.1) (q0.1.2.1) (q0.1.2.2)).1.2.2.2],.val (nI (dc (q0.1.1) (q0.1.2.1) (q0.1.2.2)).2)]
noncomputable def A5:Nat→List C→Option C:=Sx.ext A4 25 (ce pT vU)
theorem RD (x:Ka) :noRefs 0 (pT x) =true:=by
 simp only[pT,aM,bq,br,bA,aT,aU,ay,aD,aN,Bool.and_self,Bool.and_true,bI,bB,bJ,bK]
theorem aar (x y:Ka) (h:pT x=pT y) :vU x=vU y:=by
 simp only[pT,List.cons.injEq,C.val.injEq,C.agg.injEq,C.kp.injEq,C.fn.injEq,cr,b7,ca,co,cn,b8,cj,cb,Value.int.injEq,Value.bool.injEq,true_and,and_true] at h;simp only[vU,h]
theorem RE {gl:Nat→C} (hgn: ∀g,aG 0 (gl g) =true) (hg0:gl 0= .kp (cl wC kc)) (hg2:gl 2= .kp (cl wC kc)) (M:Nat) :CxOK (aO gl M A5) :=bz (N:=0) (RC hgn hg0 hg2 0) RD fun q0=>YS (RC hgn hg0 hg2 0) (by intros;(iterate 15 refine (aX (by decide) _).trans ?_);apply JK<;>first|assumption|omega) (by intros;(iterate 14 refine (aX (by decide) _).trans ?_);apply JM<;>first|assumption|omega) (by intros;(iterate 1 refine (aX (by decide) _).trans ?_);apply J8<;>first|assumption|omega) ((q0.1.1)) ((q0.1.2.1)) ((q0.1.2.2)) q0.2
theorem Wq: ∀ (g:Nat) (xs:List C),noRefs 0 xs=false→A5 g xs=none:=bW Wo RD
theorem Wr (l:List ab) (x:List UInt8) (y:List UInt8) (hc0:LB l) :A5 25 [sl eC .no l,.val (str x),.val (str y)] =some (.tup [.agg [.val (nI (dc l x y).1.1),.val (nI (dc l x y).1.2.1),sl eC .no (dc l x y).1.2.2.1,sl dC .no (dc l x y).1.2.2.2],.val (nI (dc l x y).2)]) :=
 (bM _).trans (bv aar ⟨(l,x,y),hc0⟩)
abbrev Kb:= {q0:Int×Int×(List ab)×(List cf)×Int×Int // (-9223372036854775808≤(q0.2.2.2.2.1)∧(q0.2.2.2.2.1)≤9223372036854775807)∧(-9223372036854775808≤(q0.2.2.2.2.2)∧(q0.2.2.2.2.2)≤9223372036854775807)∧((q0.2.2.1).length≤1000000)∧(∀i,i< (q0.2.2.1).length→(gt (q0.2.2.1) i).1.length≤1000000∧(gt (q0.2.2.1) i).2.length≤1000000)∧((q0.2.2.2.1).length≤1000000)}
def pU (q0:Kb) :List C:= [.agg [.val (.int .i64 (q0.1.1)),.val (.int .i64 (q0.1.2.1)),sl eC .no (q0.1.2.2.1),sl dC .no (q0.1.2.2.2.1)],.val (.int .i64 (q0.1.2.2.2.2.1)),.val (.int .i64 (q0.1.2.2.2.2.2))]
noncomputable def vV (q0:Kb) :C:= .agg [.val (.int .i64 (cQ ((q0.1.1),(q0.1.2.1),(q0.1.2.2.1),(q0.1.2.2.2.1)) (q0.1.2.2.2.2.1) (q0.1.2.2.2.2.2)).1),.val (.int .i64 (cQ ((q0.1.1),(q0.1.2.1),(q0.1.2.2.1),(q0.1.2.2.2.1)) (q0.1.2.2.2.2.1) (q0.1.2.2.2.2.2)).2.1),sl eC .no (cQ ((q0.1.1),(q0.1.2.1),(q0.1.2.2.1),(q0.1.2.2.2.1)) (q0.1.2.2.2.2.1) (q0.1.2.2.2.2.2)).2.2.1,sl dC .no (cQ ((q0.1.1),(q0.1.2.1),(q0.1.2.2.1),(q0.1.2.2.2.1)) (q0.1.2.2.2.2.1) (q0.1.2.2.2.2.2)).2.2.2]
noncomputable def A6:Nat→List C→Option C:=Sx.ext A5 28 (ce pU vV)
theorem RF (x:Kb) :noRefs 0 (pU x) =true:=by
 simp only[pU,aM,bq,br,bA,aT,aU,ay,aD,aN,Bool.and_self,Bool.and_true,bI,bB,bJ,bK]
theorem aas (x y:Kb) (h:pU x=pU y) :vV x=vV y:=by
 simp only[pU,List.cons.injEq,C.val.injEq,C.agg.injEq,C.kp.injEq,C.fn.injEq,cr,b7,ca,co,cn,b8,cj,cb,Value.int.injEq,Value.bool.injEq,true_and,and_true] at h;simp only[vV,h]
theorem RG {gl:Nat→C} (hgn: ∀g,aG 0 (gl g) =true) (hg0:gl 0= .kp (cl wC kc)) (hg2:gl 2= .kp (cl wC kc)) (M:Nat) :CxOK (aO gl M A6) :=bz (N:=0) (RE hgn hg0 hg2 0) RF fun q0=>Y3 (RE hgn hg0 hg2 0) (by intros;(iterate 57 refine (aX (by decide) _).trans ?_);apply FQ<;>first|assumption|omega) (by intros;(iterate 55 refine (aX (by decide) _).trans ?_);apply FR<;>first|assumption|omega) ((q0.1.1)) ((q0.1.2.1)) ((q0.1.2.2.1)) ((q0.1.2.2.2.1)) ((q0.1.2.2.2.2.1)) ((q0.1.2.2.2.2.2)) q0.2.1 q0.2.2.1 q0.2.2.2.1 q0.2.2.2.2.1 q0.2.2.2.2.2
theorem Ws: ∀ (g:Nat) (xs:List C),noRefs 0 xs=false→A6 g xs=none:=bW Wq RF
theorem Wt (f:Int) (z:Int) (l:List ab) (S:List cf) (w:Int) (y:Int) (hc0: -9223372036854775808≤w∧w≤9223372036854775807) (hc1: -9223372036854775808≤y∧y≤9223372036854775807) (hc2:l.length≤1000000) (hc3: ∀i,i< l.length→(gt l i).1.length≤1000000∧(gt l i).2.length≤1000000) (hc4:S.length≤1000000) :A6 28 [.agg [.val (.int .i64 f),.val (.int .i64 z),sl eC .no l,sl dC .no S],.val (.int .i64 w),.val (.int .i64 y)] =some (.agg [.val (.int .i64 (cQ (f,z,l,S) w y).1),.val (.int .i64 (cQ (f,z,l,S) w y).2.1),sl eC .no (cQ (f,z,l,S) w y).2.2.1,sl dC .no (cQ (f,z,l,S) w y).2.2.2]) :=
 (bM _).trans (bv aas ⟨(f,z,l,S,w,y),⟨hc0,hc1,hc2,hc3,hc4⟩⟩)
abbrev Kc:= {q0:Int×Int×(List ab)×(List cf) // ((q0.2.2.1).length≤1000000)}
def pV (q0:Kc) :List C:= [.agg [.val (.int .i64 (q0.1.1)),.val (.int .i64 (q0.1.2.1)),sl eC .no (q0.1.2.2.1),sl dC .no (q0.1.2.2.2)]]
noncomputable def vW (q0:Kc) :C:= .agg [.val (.int .i64 (q0.1.1)),.val (.int .i64 (q0.1.2.1)),sl eC .no (q0.1.2.2.1),sl dC .no (q0.1.2.2.2)]
noncomputable def A7:Nat→List C→Option C:=Sx.ext A6 30 (ce pV vW)
theorem RH (x:Kc) :noRefs 0 (pV x) =true:=by
 simp only[pV,aM,bq,br,bA,aT,aU,ay,aD,aN,Bool.and_self,Bool.and_true,bI,bB,bJ,bK]
theorem aat (x y:Kc) (h:pV x=pV y) :vW x=vW y:=by
 simp only[pV,List.cons.injEq,C.val.injEq,C.agg.injEq,C.kp.injEq,C.fn.injEq,cr,b7,ca,co,cn,b8,cj,cb,Value.int.injEq,Value.bool.injEq,true_and,and_true] at h;simp only[vW,h]
theorem RI {gl:Nat→C} (hgn: ∀g,aG 0 (gl g) =true) (hg0:gl 0= .kp (cl wC kc)) (hg2:gl 2= .kp (cl wC kc)) (M:Nat) :CxOK (aO gl M A7) :=bz (N:=0) (RG hgn hg0 hg2 0) RH fun q0=>YP (RG hgn hg0 hg2 0) (by intros;(iterate 33 refine (aX (by decide) _).trans ?_);apply Jm<;>first|assumption|omega) ((q0.1.1)) ((q0.1.2.1)) ((q0.1.2.2.1)) ((q0.1.2.2.2)) q0.2
theorem Wu: ∀ (g:Nat) (xs:List C),noRefs 0 xs=false→A7 g xs=none:=bW Ws RH
theorem Wv (f:Int) (z:Int) (l:List ab) (S:List cf) (hc0:l.length≤1000000) :A7 30 [.agg [.val (.int .i64 f),.val (.int .i64 z),sl eC .no l,sl dC .no S]] =some (.agg [.val (.int .i64 f),.val (.int .i64 z),sl eC .no l,sl dC .no S]) :=
 (bM _).trans (bv aat ⟨(f,z,l,S),hc0⟩)
abbrev Kd:= {q0: (List ab)×(List ab) // ((q0.1).length≤1000000)∧((q0.2).length≤1000000)}
def pW (q0:Kd) :List C:= [sl eC .no (q0.1.1),sl eC .no (q0.1.2)]
noncomputable def vX (q0:Kd) :C:= .val (.bool (decide ((q0.1.1) = (q0.1.2))))
noncomputable def A8:Nat→List C→Option C:=Sx.ext A7 34 (ce pW vX)
theorem RJ (x:Kd) :noRefs 0 (pW x) =true:=by
 simp only[pW,aM,bq,br,bA,aT,aU,ay,aD,aN,Bool.and_self,Bool.and_true,bI,bB,bJ,bK]
theorem aau (x y:Kd) (h:pW x=pW y) :vX x=vX y:=by
 simp only[pW,List.cons.injEq,C.val.injEq,C.agg.injEq,C.kp.injEq,C.fn.injEq,cr,b7,ca,co,cn,b8,cj,cb,Value.int.injEq,Value.bool.injEq,true_and,and_true] at h;simp only[vX,h]
theorem RK {gl:Nat→C} (hgn: ∀g,aG 0 (gl g) =true) (hg0:gl 0= .kp (cl wC kc)) (hg2:gl 2= .kp (cl wC kc)) (M:Nat) :CxOK (aO gl M A8) :=bz (N:=0) (RI hgn hg0 hg2 0) RJ fun q0=>aaC (RI hgn hg0 hg2 0) ((q0.1.1)) ((q0.1.2)) q0.2.1 q0.2.2
theorem Ww: ∀ (g:Nat) (xs:List C),noRefs 0 xs=false→A8 g xs=none:=bW Wu RJ
theorem Wx (x:List ab) (y:List ab) (hc0:x.length≤1000000) (hc1:y.length≤1000000) :A8 34 [sl eC .no x,sl eC .no y] =some (.val (.bool (decide (x=y)))) :=
 (bM _).trans (bv aau ⟨(x,y),⟨hc0,hc1⟩⟩)
abbrev Ke:= {q0: (List ab)×(List UInt8)×(List UInt8) // ((q0.1).length≤1000000)}
def pX (q0:Ke) :List C:= [sl eC .no (q0.1.1),.val (str (q0.1.2.1)),.val (str (q0.1.2.2))]
noncomputable def vY (q0:Ke) :C:=sl eC (.own 2) (ic (q0.1.1) (q0.1.2.1) (q0.1.2.2) (q0.1.1).length)
noncomputable def A9:Nat→List C→Option C:=Sx.ext A8 36 (ce pX vY)
theorem RL (x:Ke) :noRefs 0 (pX x) =true:=by
 simp only[pX,aM,bq,br,bA,aT,aU,ay,aD,aN,Bool.and_self,Bool.and_true,bI,bB,bJ,bK]
theorem aav (x y:Ke) (h:pX x=pX y) :vY x=vY y:=by
 simp only[pX,List.cons.injEq,C.val.injEq,C.agg.injEq,C.kp.injEq,C.fn.injEq,cr,b7,ca,co,cn,b8,cj,cb,Value.int.injEq,Value.bool.injEq,true_and,and_true] at h;simp only[vY,h]
theorem RM {gl:Nat→C} (hgn: ∀g,aG 0 (gl g) =true) (hg0:gl 0= .kp (cl wC kc)) (hg2:gl 2= .kp (cl wC kc)) (M:Nat) :CxOK (aO gl M A9) :=bz (N:=0) (RK hgn hg0 hg2 0) RL fun q0=>aaD (RK hgn hg0 hg2 0) ((q0.1.1)) ((q0.1.2.1)) ((q0.1.2.2)) q0.2
theorem Wy: ∀ (g:Nat) (xs:List C),noRefs 0 xs=false→A9 g xs=none:=bW Ww RL
theorem Wz (l:List ab) (x:List UInt8) (y:List UInt8) (hc0:l.length≤1000000) :A9 36 [sl eC .no l,.val (str x),.val (str y)] =some (sl eC (.own 2) (ic l x y l.length)) :=
 (bM _).trans (bv aav ⟨(l,x,y),hc0⟩)
abbrev Kf:= {q0: (List ab)×Int×Int×(List ab)×(List cf) // (LZ (q0.1))∧((q0.1).length≤4096)∧(-9223372036854775808≤(q0.2.1)∧(q0.2.1)≤9223372036854775807)∧(-9223372036854775808≤(q0.2.2.1)∧(q0.2.2.1)≤9223372036854775807)∧((q0.2.2.2.1).length≤1000000)∧(∀i,i< (q0.2.2.2.1).length→(gt (q0.2.2.2.1) i).1.length< 1000000∧(gt (q0.2.2.2.1) i).2.length< 1000000)∧((q0.2.2.2.2).length≤1000000)}
def pY (q0:Kf) :List C:= [sl eC .no (q0.1.1),.agg [.val (.int .i64 (q0.1.2.1)),.val (.int .i64 (q0.1.2.2.1)),sl eC .no (q0.1.2.2.2.1),sl dC .no (q0.1.2.2.2.2)]]
noncomputable def vZ (q0:Kf) :C:= .val (.bool (fM (iU (q0.1.1)++jA (q0.1.2.1) (q0.1.2.2.1) (q0.1.2.2.2.1) (q0.1.2.2.2.2))))
noncomputable def RN:Nat→List C→Option C:=Sx.ext A9 37 (ce pY vZ)
theorem aaw (x:Kf) :noRefs 0 (pY x) =true:=by
 simp only[pY,aM,bq,br,bA,aT,aU,ay,aD,aN,Bool.and_self,Bool.and_true,bI,bB,bJ,bK]
theorem aax (x y:Kf) (h:pY x=pY y) :vZ x=vZ y:=by
 simp only[pY,List.cons.injEq,C.val.injEq,C.agg.injEq,C.kp.injEq,C.fn.injEq,cr,b7,ca,co,cn,b8,cj,cb,Value.int.injEq,Value.bool.injEq,true_and,and_true] at h;simp only[vZ,h]
theorem aay {gl:Nat→C} (hgn: ∀g,aG 0 (gl g) =true) (hg0:gl 0= .kp (cl wC kc)) (hg2:gl 2= .kp (cl wC kc)) (M:Nat) :CxOK (aO gl M RN) :=bz (N:=0) (RM hgn hg0 hg2 0) aaw fun q0=>Vc (RM hgn hg0 hg2 0) Wy (by intros;(iterate 15 refine (aX (by decide) _).trans ?_);apply JT<;>first|assumption|omega) (by intros;(iterate 10 refine (aX (by decide) _).trans ?_);apply J0<;>first|assumption|omega) (by intros;(iterate 9 refine (aX (by decide) _).trans ?_);apply J2<;>first|assumption|omega) (by intros;(iterate 8 refine (aX (by decide) _).trans ?_);apply J5<;>first|assumption|omega) (by intros;(iterate 17 refine (aX (by decide) _).trans ?_);apply JQ<;>first|assumption|omega) ((q0.1.1)) ((q0.1.2.1)) ((q0.1.2.2.1)) ((q0.1.2.2.2.1)) ((q0.1.2.2.2.2)) q0.2.1 q0.2.2.1 q0.2.2.2.1 q0.2.2.2.2.1 q0.2.2.2.2.2.1 q0.2.2.2.2.2.2.1 q0.2.2.2.2.2.2.2
theorem WA (a:List ab) (f:Int) (z:Int) (l:List ab) (S:List cf) (hc0:LZ a) (hc1:a.length≤4096) (hc2: -9223372036854775808≤f∧f≤9223372036854775807) (hc3: -9223372036854775808≤z∧z≤9223372036854775807) (hc4:l.length≤1000000) (hc5: ∀i,i< l.length→(gt l i).1.length< 1000000∧(gt l i).2.length< 1000000) (hc6:S.length≤1000000) :RN 37 [sl eC .no a,.agg [.val (.int .i64 f),.val (.int .i64 z),sl eC .no l,sl dC .no S]] =some (.val (.bool (fM (iU a++jA f z l S)))) :=
 (bM _).trans (bv aax ⟨(a,f,z,l,S),⟨hc0,hc1,hc2,hc3,hc4,hc5,hc6⟩⟩)
theorem law7 {gl:Nat→C} (hgn: ∀g,aG 0 (gl g) =true) (hg0:gl 0= .kp (cl wC kc)) (hg2:gl 2= .kp (cl wC kc)) (l:List Int) (l':List Int) (k:Int) (m:Int) (w:Int) (u:Int) (v:Int) (hc0:LI l) (hc1:LI l') (hc2: -9223372036854775808≤k∧k≤9223372036854775807) (hc3: -9223372036854775808≤m∧m≤9223372036854775807) (hc4: -9223372036854775808≤w∧w≤9223372036854775807) (hc5: -9223372036854775808≤u∧u≤9223372036854775807) (hc6: -9223372036854775808≤v∧v≤9223372036854775807) :FC Tryd.prog gl 7 [sl iC .no l,sl iC .no l',.val (.int .i64 k),.val (.int .i64 m),.val (.int .i64 w),.val (.int .i64 u),.val (.int .i64 v)] [] (.val (.bool true)) [] :=fc7 (aay hgn hg0 hg2 0) (by intros;(iterate 59 refine (aX (by decide) _).trans ?_);apply Zp<;>first|assumption|omega) (by intros;(iterate 38 refine (aX (by decide) _).trans ?_);apply Jk<;>first|assumption|omega) (by intros;(iterate 37 refine (aX (by decide) _).trans ?_);apply Jm<;>first|assumption|omega) (by intros;(iterate 36 refine (aX (by decide) _).trans ?_);apply VK<;>first|assumption|omega) (by intros;(iterate 23 refine (aX (by decide) _).trans ?_);apply V2<;>first|assumption|omega) (by intros;(iterate 22 refine (aX (by decide) _).trans ?_);apply V4<;>first|assumption|omega) (by intros;(iterate 6 refine (aX (by decide) _).trans ?_);apply Wp<;>first|assumption|omega) (by intros;(iterate 5 refine (aX (by decide) _).trans ?_);apply Wr<;>first|assumption|omega) (by intros;(iterate 4 refine (aX (by decide) _).trans ?_);apply Wt<;>first|assumption|omega) (by intros;(iterate 26 refine (aX (by decide) _).trans ?_);apply JD<;>first|assumption|omega) (by intros;(iterate 3 refine (aX (by decide) _).trans ?_);apply Wv<;>first|assumption|omega) (by intros;(iterate 25 refine (aX (by decide) _).trans ?_);apply JF<;>first|assumption|omega) (by intros;(iterate 2 refine (aX (by decide) _).trans ?_);apply Wx<;>first|assumption|omega) (by intros;(iterate 19 refine (aX (by decide) _).trans ?_);apply JO<;>first|assumption|omega) (by intros;(iterate 1 refine (aX (by decide) _).trans ?_);apply Wz<;>first|assumption|omega) (by intros;apply WA<;>first|assumption|omega) (l) (l') (k) (m) (w) (u) (v) hc0 hc1 hc2 hc3 hc4 hc5 hc6
end Go.Sx.T7
