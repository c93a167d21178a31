/-
   And what follows.
-/
import Derived.Test.YtcpdlhgkdogdjaaDoorRows
import Derived.Test.YtcpdlhgkdogdjaaDoorCards
import Derived.Test.YtcpdlhgkdogdjaaDoorTie
import Derived.SevenTiedAt
import Derived.Test.YtcpdlhgkdogdjaaDoorPam
import Derived.Test.YtcpdlhgkdogdjaaDoorPan
import Derived.Test.YtcpdlhgkdogdjaaDoorPao
import Derived.Test.YtcpdlhgkdogdjaaDoorPap
import Derived.Test.YtcpdlhgkdogdjaaDoorPaq
import Derived.Test.YtcpdlhgkdogdjaaDoorPar
import Derived.Test.YtcpdlhgkdogdjaaDoorPas
import Derived.Test.YtcpdlhgkdogdjaaDoorPat
import Derived.Test.YtcpdlhgkdogdjaaDoorPau
import Derived.Test.YtcpdlhgkdogdjaaDoorPav
import Derived.Test.YtcpdlhgkdogdjaaDoorPaj
set_option linter.unusedSimpArgs false
set_option linter.unusedVariables false
namespace Go.Sx.T10
open Go.RowKit Go.Proofs Go.Sx
structure Gv (gl:Nat→C):Prop where
 n:∀g,ae 0 (gl g) =true
 hg0:gl 0= .kp (iD (-1,0,0))
 hg1:gl 1= .kp (cl wC kc)
section
variable {gl:Nat→C}
noncomputable def t0 (G:Gv gl):Tb gl:=Tb.zero G.n
noncomputable abbrev e1:Te:=Te.mk {q:Int×Nat // -9223372036854775808≤q.1∧q.1≤9223372036854775807∧0< q.2∧q.2≤9223372036854775807} (fun q=>[.val (.int .i64 q.1.1),.val (nI q.1.2)]) (fun q=> .val (nI (ag q.1.1 q.1.2)))
noncomputable def t1 (G:Gv gl):Tb gl:=(t0 G).add 19 e1 fun q=>abT ((t0 G).ok 0) (q.1.1) (q.1.2) q.2
noncomputable abbrev e2:Te:=Te.mk {q: (List Int)×Nat×Nat // (LI q.1)∧(q.2.1≤1000000)∧(0< q.2.2∧q.2.2≤9223372036854775807)} (fun q=>[sl iC .no q.1.1,.val (nI q.1.2.1),.val (nI q.1.2.2)]) (fun q=> .val (nI (cu q.1.1 q.1.2.1 q.1.2.2)))
noncomputable def t2 (G:Gv gl):Tb gl:=(t1 G).add 65 e2 fun q=>abU ((t1 G).ok 0) (by intros;exact Tb.h (e:=e1) ⟨(_,_),OM⟩) (q.1.1) (q.1.2.1) (q.1.2.2) q.2.1 q.2.2.1 q.2.2.2
noncomputable abbrev e3:Te:=Te.mk {q: (List UInt8) // q.length≤1000000} (fun q=>[.val (str q.1)]) (fun q=> .val (str (qm q.1)))
noncomputable def t3 (G:Gv gl):Tb gl:=(t2 G).add 121 e3 fun q=>Xt ((t2 G).ok 0) (q.1) q.2
noncomputable abbrev e4:Te:=Te.mk {q: (List UInt8)×Nat // (q.1.length≤1000000)∧(q.2≤1000000)} (fun q=>[.val (str q.1.1),.val (nI q.1.2)]) (fun q=> .val (str (pm q.1.1 q.1.2)))
noncomputable def t4 (G:Gv gl):Tb gl:=(t3 G).add 101 e4 fun q=>Xu ((t3 G).ok 0) (by intros;exact Tb.h (e:=e3) ⟨_,OM⟩) (q.1.1) (q.1.2) q.2.1 q.2.2
noncomputable abbrev e5:Te:=Te.mk {q: (List Int)×Nat // (LI q.1)∧(q.2≤1000)} (fun q=>[sl iC .no q.1.1,.val (nI q.1.2)]) (fun q=> .val (str (iY q.1.1 q.1.2)))
noncomputable def t5 (G:Gv gl):Tb gl:=(t4 G).add 66 e5 fun q=>abV ((t4 G).ok 0) (by intros;(iterate 2 refine Tb.m ?_);exact Tb.h (e:=e2) ⟨(_,_,_),OM,OM,OM⟩) (by intros;exact Tb.h (e:=e4) ⟨(_,_),OM,OM⟩) (q.1.1) (q.1.2) q.2.1 q.2.2
noncomputable abbrev e6:Te:=Te.mk {q:Unit // True} (fun q=>[]) (fun q=> .agg [.val (.int .i64 (-1)),.val (nI 0),.val (nI 0)]) (fun _=>rfl) (fun _ _ _=>rfl)
noncomputable def t6 (G:Gv gl):Tb gl:=(t5 G).add 67 e6 fun q=>acw ((t5 G).ok 0)
noncomputable abbrev e7:Te:=Te.mk {q: (List Int)×Nat×ID // (LI q.1)∧(q.2.1≤900)} (fun q=>[sl iC .no q.1.1,.val (nI q.1.2.1),.agg (iD q.1.2.2)]) (fun q=> .agg (pC (eI q.1.1 q.1.2.1 q.1.2.2)))
noncomputable def t7 (G:Gv gl):Tb gl:=(t6 G).add 21 e7 fun q=>acx ((t6 G).ok 0) (by intros;(iterate 4 refine Tb.m ?_);exact Tb.h (e:=e2) ⟨(_,_,_),OM,OM,OM⟩) (by intros;refine Tb.m ?_;exact Tb.h (e:=e5) ⟨(_,_),OM,OM⟩) (by intros;exact Tb.h (e:=e6) ⟨(),trivial⟩) (q.1.1) (q.1.2.1) (q.1.2.2) q.2.1 q.2.2
noncomputable abbrev e8:Te:=Te.mk {q: (List Int) // LI q} (fun q=>[sl iC .no q.1]) (fun q=> .agg [sl vC .no (lx q.1)])
noncomputable def t8 (G:Gv gl):Tb gl:=(t7 G).add 18 e8 fun q=>acz ((t7 G).ok 0) (by intros;(iterate 5 refine Tb.m ?_);exact Tb.h (e:=e2) ⟨(_,_,_),OM,OM,OM⟩) (by intros;(iterate 2 refine Tb.m ?_);exact Tb.h (e:=e5) ⟨(_,_),OM,OM⟩) (by intros;exact Tb.h (e:=e7) ⟨(_,_,_),OM,OM⟩) (q.1) q.2
noncomputable abbrev e9:Te:=Te.mk {q:ID×ID // True} (fun q=>[.agg (iD q.1.1),.agg (iD q.1.2)]) (fun q=> .val (.bool (decide (q.1.1=q.1.2))))
noncomputable def t9 (G:Gv gl):Tb gl:=(t8 G).add 60 e9 fun q=>acv ((t8 G).ok 0) (q.1.1) (q.1.2)
noncomputable abbrev e10:Te:=Te.mk {q:ah×ID // WB q.1} (fun q=>[.agg [sl vC .no q.1.1],.agg (iD q.1.2)]) (fun q=> .tup [.agg [.val (nI (dj q.1.1 q.1.2).1.1),.val (nI (dj q.1.1 q.1.2).1.2.1),.val (nI (dj q.1.1 q.1.2).1.2.2)],.val (.bool (dj q.1.1 q.1.2).2)])
noncomputable def t10 (G:Gv gl):Tb gl:=(t9 G).add 33 e10 fun q=>ac8 ((t9 G).ok 0) (by intros;exact Tb.h (e:=e9) ⟨(_,_),trivial⟩) (q.1.1) (q.1.2) q.2
noncomputable abbrev e11:Te:=Te.mk {q:ah×Int×Int // (WG q.1)∧(-9223372036854775808≤q.2.1∧q.2.1≤9223372036854775807)∧(-9223372036854775808≤q.2.2∧q.2.2≤9223372036854775807)} (fun q=>[.agg [sl vC .no q.1.1],.val (.int .i64 q.1.2.1),.val (.int .i64 q.1.2.2)]) (fun q=> .agg [sl vC .no (cR q.1.1 q.1.2.1 q.1.2.2)])
noncomputable def t11 (G:Gv gl):Tb gl:=(t10 G).add 51 e11 fun q=>Zv ((t10 G).ok 0) (by intros;(iterate 9 refine Tb.m ?_);exact Tb.h (e:=e1) ⟨(_,_),OM⟩) (by intros;(iterate 3 refine Tb.m ?_);exact Tb.h (e:=e7) ⟨(_,_,_),OM,OM⟩) (by intros;exact Tb.h (e:=e10) ⟨(_,_),OM⟩) (q.1.1) (q.1.2.1) (q.1.2.2) q.2.1 q.2.2.1 q.2.2.2
noncomputable abbrev e12:Te:=Te.mk {q: (List Int)×Int×Int // (LI q.1)∧((-9223372036854775808≤q.2.1∧q.2.1≤9223372036854775807))∧((-9223372036854775808≤q.2.2∧q.2.2≤9223372036854775807))} (fun q=>[sl iC .no q.1.1,.val (.int .i64 q.1.2.1),.val (.int .i64 q.1.2.2)]) (fun q=>sl ou .full (iL q.1.1 q.1.2.1 q.1.2.2))
noncomputable def t12 (G:Gv gl):Tb gl:=(t11 G).add 11 e12 fun q=>adb ((t11 G).ok 0) (by intros;(iterate 3 refine Tb.m ?_);exact Tb.h (e:=e8) ⟨_,OM⟩) (by intros;exact Tb.h (e:=e11) ⟨(_,_,_),OM,OM,OM⟩) (q.1.1) (q.1.2.1) (q.1.2.2) q.2.1 q.2.2.1 q.2.2.2
noncomputable abbrev WY:Te:=Te.mk {q: (List ID)×(List ID) // (q.1.length< 1099511627776)∧(q.2.length< 1099511627776)} (fun q=>[sl iD .no q.1.1,sl iD .no q.1.2]) (fun q=> .val (.bool (decide (q.1.1=q.1.2))))
noncomputable def t13 (G:Gv gl):Tb gl:=(t12 G).add 27 WY fun q=>ZX ((t12 G).ok 0) (by intros;(iterate 3 refine Tb.m ?_);exact Tb.h (e:=e9) ⟨(_,_),trivial⟩) (q.1.1) (q.1.2) q.2.1 q.2.2
noncomputable abbrev e14:Te:=Te.mk {q:ah // True} (fun q=>[.agg [sl vC .no q.1]]) (fun q=> .fn 93 [.kp [sl vC .no q.1]])
noncomputable def t14 (G:Gv gl):Tb gl:=(t13 G).add 53 e14 fun q=>adc ((t13 G).ok 0) (q.1)
noncomputable abbrev e15:Te:=Te.mk {q:ah×(List ID) // (WS q.1)∧(∀x∈q.2,cz x)∧(q.2.length≤1000000)∧(∀i,i< (bm q.1).length→cz (gt (bm q.1) i).2.1)} (fun q=>[.agg [sl vC .no q.1.1],sl iD .no q.1.2]) (fun q=>sl iD .no (dv (dz q.1.2) (cm q.1.1)).2)
noncomputable def t15 (G:Gv gl):Tb gl:=(t14 G).add 28 e15 fun q=>acs (qp ((t14 G).ok 0)) (by intros;exact Tb.h (e:=e14) ⟨_,trivial⟩) (q.1.1) (q.1.2) q.2.1 q.2.2.1 q.2.2.2.1 q.2.2.2.2
noncomputable abbrev e16:Te:=Te.mk {q:ah×ID×ID // (WS q.1)∧(cz q.2.1)∧(cz q.2.2)∧(∀i,i< (bm q.1).length→cz (gt (bm q.1) i).2.1)} (fun q=>[.agg [sl vC .no q.1.1],.agg (iD q.1.2.1),.agg (iD q.1.2.2)]) (fun q=> .val (.bool (decide ((dv (dz [q.1.2.1,q.1.2.2]) (cm q.1.1)).2.length=2∧gt (dv (dz [q.1.2.1,q.1.2.2]) (cm q.1.1)).2 0=q.1.2.1))))
noncomputable def t16 (G:Gv gl):Tb gl:=(t15 G).add 30 e16 fun q=>acu ((t15 G).ok 0) (by intros;exact Tb.h (e:=e15) ⟨(_,_),OM,OM,OM,OM⟩) (q.1.1) (q.1.2.1) (q.1.2.2) q.2.1 q.2.2.1 q.2.2.2.1 q.2.2.2.2
noncomputable abbrev e17:Te:=Te.mk {q:ah // WS q} (fun q=>[.agg [sl vC .no q.1]]) (fun q=> .val (.bool (eo q.1)))
noncomputable def t17 (G:Gv gl):Tb gl:=(t16 G).add 52 e17 fun q=>acC ((t16 G).ok 0) (q.1) q.2
noncomputable abbrev e18:Te:=Te.mk {q:ID // True} (fun q=>[.agg (iD q.1)]) (fun q=> .val (.bool (nb q.1)))
noncomputable def t18 (G:Gv gl):Tb gl:=(t17 G).add 94 e18 fun q=>acA ((t17 G).ok 0) (q.1)
noncomputable abbrev e19:Te:=Te.mk {q:UInt8 // True} (fun q=>[.val (w8 q.1)]) (fun q=> .val (nI (kd q.1)))
noncomputable def t19 (G:Gv gl):Tb gl:=(t18 G).add 100 e19 fun q=>Xr ((t18 G).ok 0) (q.1)
noncomputable abbrev e20:Te:=Te.mk {q: (List UInt8)×Nat // (q.2) < q.1.length∧q.1.length≤1000000} (fun q=>[.val (nI q.1.2),.kp [.val (str q.1.1)]]) (fun q=> .val (nI (d8 q.1.1 q.1.2)))
noncomputable def Xa (G:Gv gl):Tb gl:=(t19 G).add 99 e20 fun q=>abN ((t19 G).ok 0) (by intros;exact Tb.h (e:=e19) ⟨_,trivial⟩) (q.1.1) (q.1.2) q.2
noncomputable abbrev e21:Te:=Te.mk {q: (List UInt8) // q.length≤1000000} (fun q=>[.val (str q.1)]) (fun q=>sl tC (.own 3) (jf q.1))
noncomputable def t21 (G:Gv gl):Tb gl:=(Xa G).add 62 e21 fun q=>abO ((Xa G).ok 0) (by intros;exact Tb.h (e:=e20) ⟨(_,_),OM⟩) (by intros;refine Tb.m ?_;exact Tb.h (e:=e19) ⟨_,trivial⟩) (Xa G).hno (q.1) q.2
noncomputable abbrev e22:Te:=Te.mk {q: (List UInt8)×Nat // (q.2) < q.1.length∧q.1.length≤1000000} (fun q=>[.val (nI q.1.2),.kp [.val (str q.1.1)]]) (fun q=> .val (.bool (m7 q.1.1 q.1.2)))
noncomputable def Xb (G:Gv gl):Tb gl:=(t21 G).add 61 e22 fun q=>abR ((t21 G).ok 0) (q.1.1) (q.1.2) q.2
noncomputable abbrev e23:Te:=Te.mk {q: (List UInt8) // q.length≤1000000} (fun q=>[.val (str q.1)]) (fun q=> .val (nI (fF q.1)))
noncomputable def t23 (G:Gv gl):Tb gl:=(Xb G).add 15 e23 fun q=>abS ((Xb G).ok 0) (by intros;refine Tb.m ?_;exact Tb.h (e:=e21) ⟨_,OM⟩) (by intros;exact Tb.h (e:=e22) ⟨(_,_),OM⟩) (Xb G).hno (q.1) q.2
noncomputable abbrev e24:Te:=Te.mk {q: (List Tok)×Nat // q.1.length≤1000000} (fun q=>[sl tC .no q.1.1,.val (nI q.1.2)]) (fun q=>sl nC (.own 1) (EZ q.1.2 q.1.1))
noncomputable def t24 (G:Gv gl):Tb gl:=(t23 G).add 63 e24 fun q=>abP ((t23 G).ok 0) (q.1.1) (q.1.2) q.2
noncomputable abbrev e25:Te:=Te.mk {q: (List UInt8) // q.length≤1000000} (fun q=>[.val (str q.1)]) (fun q=>sl nC (.own 1) (fG q.1))
noncomputable def t25 (G:Gv gl):Tb gl:=(t24 G).add 16 e25 fun q=>abQ ((t24 G).ok 0) (by intros;(iterate 3 refine Tb.m ?_);exact Tb.h (e:=e21) ⟨_,OM⟩) (by intros;exact Tb.h (e:=e24) ⟨(_,_),OM⟩) (q.1) q.2
noncomputable abbrev e26:Te:=Te.mk {q:aI // (q.2.2.2.1.length≤1000000)∧(q.2.2.2.2.length≤1000000)} (fun q=>[.agg (pC q.1)]) (fun q=> .val (.bool (gf q.1)))
noncomputable def t26 (G:Gv gl):Tb gl:=(t25 G).add 54 e26 fun q=>acB ((t25 G).ok 0) G.hg0 (by intros;(iterate 7 refine Tb.m ?_);exact Tb.h (e:=e18) ⟨_,trivial⟩) (by intros;(iterate 2 refine Tb.m ?_);exact Tb.h (e:=e23) ⟨_,OM⟩) (by intros;exact Tb.h (e:=e25) ⟨_,OM⟩) (q.1) q.2.1 q.2.2
noncomputable abbrev e27:Te:=Te.mk {q:ah // (WB q)∧(∀v a,v< q.length→a< (gt q v).length→(gt (gt q v) a).1.length≤1000000)} (fun q=>[.agg [sl vC .no q.1]]) (fun q=> .val (.bool (lp q.1)))
noncomputable def t27 (G:Gv gl):Tb gl:=(t26 G).add 55 e27 fun q=>acD ((t26 G).ok 0) (by intros;(iterate 3 refine Tb.m ?_);exact Tb.h (e:=e23) ⟨_,OM⟩) (by intros;refine Tb.m ?_;exact Tb.h (e:=e25) ⟨_,OM⟩) (q.1) q.2.1 q.2.2
noncomputable abbrev e28:Te:=Te.mk {q:ah // (WS q)∧(∀i,i< (bm q).length→(gt (bm q) i).2.2.2.2.1.length≤1000000)∧(∀v a,v< q.length→a< (gt q v).length→(gt (gt q v) a).1.length≤1000000)∧(∀i,i< (bm q).length→cz (gt (bm q) i).2.1)} (fun q=>[.agg [sl vC .no q.1]]) (fun q=> .val (nI (gH q.1)))
noncomputable def t28 (G:Gv gl):Tb gl:=(t27 G).add 12 e28 fun q=>acF (qp ((t27 G).ok 0)) (by intros;(iterate 10 refine Tb.m ?_);exact Tb.h (e:=e17) ⟨_,OM⟩) (by intros;(iterate 13 refine Tb.m ?_);exact Tb.h (e:=e14) ⟨_,trivial⟩) (by intros;refine Tb.m ?_;exact Tb.h (e:=e26) ⟨_,OM,OM⟩) (by intros;exact Tb.h (e:=e27) ⟨_,OM,OM⟩) (q.1) q.2.1 q.2.2.1 q.2.2.2.1 q.2.2.2.2
noncomputable abbrev e29:Te:=Te.mk {q:ah×ID // WB q.1} (fun q=>[.agg [sl vC .no q.1.1],.agg (iD q.1.2)]) (fun q=> .tup [.agg [.val (nI (dj q.1.1 q.1.2).1.1),.val (nI (dj q.1.1 q.1.2).1.2.1),.val (nI (dj q.1.1 q.1.2).1.2.2)],.val (.bool (dj q.1.1 q.1.2).2)])
noncomputable def t29 (G:Gv gl):Tb gl:=(t28 G).add 32 e29 fun q=>ade ((t28 G).ok 0) (by intros;(iterate 14 refine Tb.m ?_);exact Tb.h (e:=e14) ⟨_,trivial⟩) (q.1.1) (q.1.2) q.2
noncomputable abbrev e30:Te:=Te.mk {q:ah // (WS q)∧(nA q q.length≤1000000)} (fun q=>[.agg [sl vC .no q.1]]) (fun q=> .agg [.val (nI q.1.length),.val (nI (nA q.1 q.1.length)),.val (nI (cm q.1).length)])
noncomputable def t30 (G:Gv gl):Tb gl:=(t29 G).add 25 e30 fun q=>acE ((t29 G).ok 0) (q.1) q.2.1 q.2.2
noncomputable abbrev e31:Te:=Te.mk {q:Unit // True} (fun q=>[]) (fun q=> .val (.bool true)) (fun _=>rfl) (fun _ _ _=>rfl)
noncomputable def t31 (G:Gv gl):Tb gl:=(t30 G).add 17 e31 fun q=>acT (acU G.n ((t30 G).ok 0)) (by intros;(iterate 30 refine Tb.m ?_);rfl) (Pk G.n) (by intros;(iterate 17 refine Tb.m ?_);exact Tb.h (e:=WY) ⟨(_,_),OM,OM⟩) (by intros;(iterate 15 refine Tb.m ?_);exact Tb.h (e:=e15) ⟨(_,_),OM,OM,OM,OM⟩) (by intros;(iterate 14 refine Tb.m ?_);exact Tb.h (e:=e16) ⟨(_,_,_),OM,OM,OM,OM⟩) (by intros;(iterate 2 refine Tb.m ?_);exact Tb.h (e:=e28) ⟨_,OM,OM,OM,OM⟩) (by intros;refine Tb.m ?_;exact Tb.h (e:=e29) ⟨(_,_),OM⟩) (by intros;exact Tb.h (e:=e30) ⟨_,OM,OM⟩)
noncomputable abbrev e32:Te:=Te.mk {q:aI×aI // (q.1.2.2.2.2.length< 1099511627776)∧(q.2.2.2.2.2.length< 1099511627776)} (fun q=>[.agg (pC q.1.1),.agg (pC q.1.2)]) (fun q=> .val (.bool (decide (q.1.1=q.1.2))))
noncomputable def t32 (G:Gv gl):Tb gl:=(t31 G).add 36 e32 fun q=>ZY ((t31 G).ok 0) (by intros;(iterate 22 refine Tb.m ?_);exact Tb.h (e:=e9) ⟨(_,_),trivial⟩) (by intros;(iterate 18 refine Tb.m ?_);exact Tb.h (e:=WY) ⟨(_,_),OM,OM⟩) (q.1.1) (q.1.2) q.2.1 q.2.2
noncomputable abbrev e33:Te:=Te.mk {q: (List aI)×(List aI) // (q.1.length< 1099511627776)∧(q.2.length< 1099511627776)∧((∀i,i< q.1.length→(gt q.1 i).2.2.2.2.length< 1099511627776))∧((∀i,i< q.2.length→(gt q.2 i).2.2.2.2.length< 1099511627776))} (fun q=>[sl pC .no q.1.1,sl pC .no q.1.2]) (fun q=> .val (.bool (decide (q.1.1=q.1.2))))
noncomputable def t33 (G:Gv gl):Tb gl:=(t32 G).add 23 e33 fun q=>ZZ ((t32 G).ok 0) (by intros;exact Tb.h (e:=e32) ⟨(_,_),OM,OM⟩) (q.1.1) (q.1.2) q.2.1 q.2.2.1 q.2.2.2.1 q.2.2.2.2
noncomputable abbrev e34:Te:=Te.mk {q:ah×ah // (uc q.1)∧(uc q.2)} (fun q=>[.agg [sl vC .no q.1.1],.agg [sl vC .no q.1.2]]) (fun q=> .val (.bool (decide (q.1.1=q.1.2))))
noncomputable def t34 (G:Gv gl):Tb gl:=(t33 G).add 39 e34 fun q=>Z0 ((t33 G).ok 0) (by intros;rename_i l m _ _ h1 h2;exact Tb.h (e:=e33) ⟨(_,_),OM,OM,fun i hi=>h1 _ (bc _ i hi),fun i hi=>h2 _ (bc _ i hi)⟩) (q.1.1) (q.1.2) q.2.1 q.2.2
noncomputable abbrev e35:Te:=Te.mk {q:Int // -9223372036854775808≤q∧q≤9223372036854775807} (fun q=>[.val (.int .i64 q.1)]) (fun q=>sl bC (.own 1) (bu q.1))
noncomputable def t35 (G:Gv gl):Tb gl:=(t34 G).add 49 e35 fun q=>adh ((t34 G).ok 0) (q.1) q.2
noncomputable abbrev e36:Te:=Te.mk {q: (List UInt8) // q.length< 70368744177664} (fun q=>[.val (str q.1)]) (fun q=>sl bC (.own 1) (wb q.1))
noncomputable def t36 (G:Gv gl):Tb gl:=(t35 G).add 77 e36 fun q=>ab7 ((t35 G).ok 0) (by intros;rename_i m hm;exact (Tb.h (e:=e35) ⟨(m:Int),by omega,by omega⟩).trans (by show some (sl bC (.own 1) (bu (m:Int))) =_;rw[wint_pos])) (q.1) q.2
noncomputable abbrev e37:Te:=Te.mk {q: (List Int) // (q.length< 1099511627776)∧(∀x∈q,-9223372036854775808≤x∧x≤9223372036854775807)} (fun q=>[sl iC .no q.1]) (fun q=>sl bC (.own 1) (eQ q.1))
noncomputable def t37 (G:Gv gl):Tb gl:=(t36 G).add 78 e37 fun q=>acn ((t36 G).ok 0) (by intros;refine Tb.m ?_;exact Tb.h (e:=e35) ⟨_,OM⟩) (q.1) q.2.1 q.2.2
noncomputable abbrev Xc:Te:=Te.mk {q:ah // EW q} (fun q=>[.agg [sl vC .no q.1]]) (fun q=>sl bC (.own 1) (eJ q.1))
noncomputable def t38 (G:Gv gl):Tb gl:=(t37 G).add 42 Xc fun q=>adj ((t37 G).ok 0) (by intros;(iterate 2 refine Tb.m ?_);exact Tb.h (e:=e35) ⟨_,OM⟩) (by intros;refine Tb.m ?_;exact Tb.h (e:=e36) ⟨_,OM⟩) (by intros;exact Tb.h (e:=e37) ⟨_,OM,OM⟩) (q.1) q.2
noncomputable abbrev e39:Te:=Te.mk {q: (List UInt8) // q.length< 9223372036854775807} (fun q=>[sl bC .no q.1]) (fun q=> .tup [.val (.int .i64 (ab q.1).1),.val (nI (ab q.1).2.1),.val (nI (ab q.1).2.2)])
noncomputable def t39 (G:Gv gl):Tb gl:=(t38 G).add 105 e39 fun q=>YR ((t38 G).ok 0) (q.1) q.2
noncomputable abbrev e40:Te:=Te.mk {q:Int // True} (fun q=>[.val (.int .i64 q.1)]) (fun q=> .val (.bool (fN q.1)))
noncomputable def t40 (G:Gv gl):Tb gl:=(t39 G).add 106 e40 fun q=>Zx ((t39 G).ok 0) (q.1)
noncomputable abbrev Xd:Te:=Te.mk {q: (List UInt8)×Nat // (q.1.length< 1099511627776)∧(0< q.2∧q.2≤16)} (fun q=>[sl bC .no q.1.1,.val (nI q.1.2)]) (fun q=>rB q.1.1 q.1.2)
noncomputable def t41 (G:Gv gl):Tb gl:=(t40 G).add 107 Xd fun q=>TB ((t40 G).ok 0) (by intros;refine Tb.m ?_;exact Tb.h (e:=e39) ⟨_,OM⟩) (q.1.1) (q.1.2) q.2.1 q.2.2
noncomputable abbrev e42:Te:=Te.mk {q: (List UInt8) // q.length< 1099511627776} (fun q=>[sl bC .no q.1]) (fun q=> .tup [.val (str (bJ q.1).1),.val (nI (bJ q.1).2.1),.val (nI (bJ q.1).2.2)])
noncomputable def t42 (G:Gv gl):Tb gl:=(t41 G).add 81 e42 fun q=>acq ((t41 G).ok 0) (by intros;exact Tb.h (e:=Xd) ⟨(_,_),OM,OM⟩) (q.1) q.2
noncomputable abbrev e43:Te:=Te.mk {q: (List UInt8) // True} (fun q=>[.val (str q.1)]) (fun q=> .val (.bool (fT q.1)))
noncomputable def t43 (G:Gv gl):Tb gl:=(t42 G).add 82 e43 fun q=>adk ((t42 G).ok 0) (q.1)
noncomputable abbrev e44:Te:=Te.mk {q: (List UInt8) // True} (fun q=>[.val (str q.1)]) (fun q=> .val (.bool (fT q.1)))
noncomputable def Xe (G:Gv gl):Tb gl:=(t43 G).add 111 e44 fun q=>ZA ((t43 G).ok 0) (q.1)
noncomputable abbrev e45:Te:=Te.mk {q: (List UInt8) // q.length< 1099511627776} (fun q=>[sl bC .no q.1]) (fun q=> .tup [sl iC .no (aS ab 1 q.1).1,.val (nI (aS ab 1 q.1).2.1),.val (nI (aS ab 1 q.1).2.2)])
noncomputable def t45 (G:Gv gl):Tb gl:=(Xe G).add 109 e45 fun q=>TA ((Xe G).ok 0) (Xe G).hnr (by intros;(iterate 44 refine Tb.m ?_);rfl) (by intros;(iterate 5 refine Tb.m ?_);exact Tb.h (e:=e39) ⟨_,OM⟩) (by intros;(iterate 3 refine Tb.m ?_);exact Tb.h (e:=Xd) ⟨(_,_),OM,OM⟩) (q.1) q.2
noncomputable abbrev e46:Te:=Te.mk {q: (List Int) // q.length< 1099511627776} (fun q=>[sl iC .no q.1]) (fun q=> .val (.bool (f5 q.1)))
noncomputable def t46 (G:Gv gl):Tb gl:=(t45 G).add 110 e46 fun q=>Zy ((t45 G).ok 0) (q.1) q.2
noncomputable abbrev e47:Te:=Te.mk {q: (List Int) // q.length< 1099511627776} (fun q=>[sl iC .no q.1]) (fun q=> .val (.bool (f3 q.1)))
noncomputable def t47 (G:Gv gl):Tb gl:=(t46 G).add 112 e47 fun q=>Zz ((t46 G).ok 0) (q.1) q.2
noncomputable abbrev e48:Te:=Te.mk {q: (List UInt8) // q.length≤200000000000} (fun q=>[sl bC .no q.1]) (fun q=> .tup [.agg [sl vC .no (dw q.1).1],.val (nI (dw q.1).2.1),.val (nI (dw q.1).2.2)])
noncomputable def t48 (G:Gv gl):Tb gl:=(t47 G).add 43 e48 fun q=>Z2 ((t47 G).ok 0) (by intros;(iterate 8 refine Tb.m ?_);exact Tb.h (e:=e39) ⟨_,OM⟩) (by intros;(iterate 7 refine Tb.m ?_);exact Tb.h (e:=e40) ⟨_,trivial⟩) (by intros;(iterate 5 refine Tb.m ?_);exact Tb.h (e:=e42) ⟨_,OM⟩) (by intros;(iterate 4 refine Tb.m ?_);exact Tb.h (e:=e43) ⟨_,trivial⟩) (by intros;(iterate 3 refine Tb.m ?_);exact Tb.h (e:=e44) ⟨_,trivial⟩) (by intros;(iterate 2 refine Tb.m ?_);exact Tb.h (e:=e45) ⟨_,OM⟩) (by intros;refine Tb.m ?_;exact Tb.h (e:=e46) ⟨_,OM⟩) (by intros;exact Tb.h (e:=e47) ⟨_,OM⟩) (q.1) q.2
noncomputable abbrev e49:Te:=Te.mk {q: (List UInt8)×Nat // (q.2≤1000000)∧(q.1.length< 9223372036854775808)} (fun q=>[sl bC .no q.1.1,.val (nI q.1.2)]) (fun q=>sl bC (.own 1) (q.1.1.take q.1.2))
noncomputable def t49 (G:Gv gl):Tb gl:=(t48 G).add 44 e49 fun q=>adr ((t48 G).ok 0) (q.1.1) (q.1.2) q.2.1 q.2.2
noncomputable abbrev e50:Te:=Te.mk {q: (List UInt8)×(List UInt8) // q.1.length< 9223372036854775807} (fun q=>[sl bC .no q.1.1,sl bC .no q.1.2]) (fun q=> .val (.bool (decide (q.1.1=q.1.2))))
noncomputable def t50 (G:Gv gl):Tb gl:=(t49 G).add 45 e50 fun q=>aco ((t49 G).ok 0) (q.1.1) (q.1.2) q.2
noncomputable abbrev e51:Te:=Te.mk {q:Int // -9223372036854775808≤q∧q≤9223372036854775807} (fun q=>[.val (.int .i64 q.1)]) (fun q=>sl bC (.own 1) (bu q.1))
noncomputable def t51 (G:Gv gl):Tb gl:=(t50 G).add 84 e51 fun q=>adi ((t50 G).ok 0) (q.1) q.2
noncomputable abbrev e52:Te:=Te.mk {q: (List UInt8) // q.length< 70368744177664} (fun q=>[.val (str q.1)]) (fun q=>sl bC (.own 1) (wb q.1))
noncomputable def t52 (G:Gv gl):Tb gl:=(t51 G).add 85 e52 fun q=>ab8 ((t51 G).ok 0) (by intros;rename_i m hm;exact (Tb.h (e:=e51) ⟨(m:Int),by omega,by omega⟩).trans (by show some (sl bC (.own 1) (bu (m:Int))) =_;rw[wint_pos])) (q.1) q.2
noncomputable abbrev e53:Te:=Te.mk {q: (List Int) // (q.length< 1099511627776)∧(∀x∈q,-9223372036854775808≤x∧x≤9223372036854775807)} (fun q=>[sl iC .no q.1]) (fun q=>sl bC (.own 1) (eQ q.1))
noncomputable def t53 (G:Gv gl):Tb gl:=(t52 G).add 113 e53 fun q=>YQ ((t52 G).ok 0) (by intros;refine Tb.m ?_;exact Tb.h (e:=e51) ⟨_,OM⟩) (q.1) q.2.1 q.2.2
noncomputable abbrev e54:Te:=Te.mk {q: (List ID) // q.length≤1000000} (fun q=>[sl iD .no q.1]) (fun q=>sl iC (.own 1) (gW q.1))
noncomputable def t54 (G:Gv gl):Tb gl:=(t53 G).add 114 e54 fun q=>Zw ((t53 G).ok 0) (q.1) q.2
noncomputable abbrev e55:Te:=Te.mk {q:aI // (PI q)∧(PE q)} (fun q=>[.agg (pC q.1)]) (fun q=>sl bC (.own 1) (gX q.1))
noncomputable def t55 (G:Gv gl):Tb gl:=(t54 G).add 86 e55 fun q=>adf ((t54 G).ok 0) (by intros;(iterate 2 refine Tb.m ?_);exact Tb.h (e:=e52) ⟨_,OM⟩) (by intros;refine Tb.m ?_;exact Tb.h (e:=e53) ⟨_,OM,OM⟩) (by intros;exact Tb.h (e:=e54) ⟨_,OM⟩) (q.1) q.2.1 q.2.2
noncomputable abbrev e56:Te:=Te.mk {q:ah // EW q} (fun q=>[.agg [sl vC .no q.1]]) (fun q=>sl bC (.own 1) (eJ q.1))
noncomputable def t56 (G:Gv gl):Tb gl:=(t55 G).add 46 e56 fun q=>adg ((t55 G).ok 0) (by intros;(iterate 4 refine Tb.m ?_);exact Tb.h (e:=e51) ⟨_,OM⟩) (by intros;(iterate 3 refine Tb.m ?_);exact Tb.h (e:=e52) ⟨_,OM⟩) (by intros;exact Tb.h (e:=e55) ⟨_,OM,OM⟩) (q.1) q.2
noncomputable abbrev e57:Te:=Te.mk {q:Unit // True} (fun q=>([]:List C)) (fun q=> .agg F0.cells) (fun _=>rfl) (fun _ _ _=>rfl)
noncomputable def t57 (G:Gv gl):Tb gl:=(t56 G).add 87 e57 fun q=>ab3 ((t56 G).ok 0)
noncomputable abbrev Xf:Te:=Te.mk {q: (BitVec 32)×Int // True} (fun q=>[.val (bY q.1.1),.val (.int .i64 q.1.2)]) (fun q=> .val (bY (nl q.1.1 ((q.1.2 % 18446744073709551616).toNat % 32))))
noncomputable def t58 (G:Gv gl):Tb gl:=(t57 G).add 129 Xf fun q=>XB ((t57 G).ok 0) (q.1.1) (q.1.2)
noncomputable abbrev e59:Te:=Te.mk {q: (BitVec 32)×Nat×Nat×Nat // (0< q.2.1∧q.2.1< 32)∧(0< q.2.2.1∧q.2.2.1< 32)∧(0< q.2.2.2∧q.2.2.2< 32)} (fun q=>[.val (bY q.1.1),.val (nI q.1.2.1),.val (nI q.1.2.2.1),.val (nI q.1.2.2.2)]) (fun q=> .val (bY (rr q.1.1 q.1.2.1 ^^^ rr q.1.1 q.1.2.2.1 ^^^ rr q.1.1 q.1.2.2.2)))
noncomputable def t59 (G:Gv gl):Tb gl:=(t58 G).add 124 e59 fun q=>XC ((t58 G).ok 0) (by intros;exact Tb.h (e:=Xf) ⟨(_,_),trivial⟩) (q.1.1) (q.1.2.1) (q.1.2.2.1) (q.1.2.2.2) q.2.1 q.2.2.1 q.2.2.2
noncomputable abbrev e60:Te:=Te.mk {q: (List UInt8) // q.length=64} (fun q=>[sl bC .no q.1]) (fun q=> .agg (cl wC (bP q.1 64)))
noncomputable def t60 (G:Gv gl):Tb gl:=(t59 G).add 123 e60 fun q=>XD ((t59 G).ok 0) (by intros;refine Tb.m ?_;exact Tb.h (e:=Xf) ⟨(_,_),trivial⟩) (q.1) q.2
noncomputable abbrev e61:Te:=Te.mk {q:S8×(List UInt8) // q.2.length=64} (fun q=>[.agg (cl wC q.1.1.l),sl bC .no q.1.2]) (fun q=> .agg (cl wC (comp q.1.1 q.1.2).l)) (by intro x;simp only[d7,io,ip,js,bf,bQ,cH,cV,fC,Bool.and_self,Bool.and_true,mh,eH]) (by intro x y h;simp only[List.cons.injEq,C.agg.injEq,qa,kX,Gm,and_true] at h;simp only[h])
noncomputable def Xg (G:Gv gl):Tb gl:=(t60 G).add 115 e61 fun q=>XE ((t60 G).ok 0) G.hg1 (by intros;refine Tb.m ?_;exact Tb.h (e:=e59) ⟨(_,_,_,_),OM,OM,OM⟩) (by intros;exact Tb.h (e:=e60) ⟨_,OM⟩) (q.1.1) (q.1.2) q.2
noncomputable abbrev Xh:Te:=Te.mk {q:S8×(List UInt8)×Nat×(List UInt8) // (q.2.1.length=64)∧(q.2.2.1+q.2.2.2.length< 1152921504606846976)} (fun q=>[.agg (cl wC q.1.1.l++(cl bC q.1.2.1++[.val (nU q.1.2.2.1)])),.val (str q.1.2.2.2)]) (fun q=> .agg (d9 ⟨(q.1.1),q.1.2.1,(q.1.2.2.1)⟩ q.1.2.2.2).cells) (by intro x;simp only[d7,io,ip,js,bf,bQ,cH,cV,fC,Bool.and_self,Bool.and_true,mh,eH]) (by intro x y h;exact Kp x.1.1 y.1.1 x.1.2.1 y.1.2.1 x.1.2.2.1 y.1.2.2.1 x.1.2.2.2 y.1.2.2.2 x.2.1 y.2.1 h)
noncomputable def t62 (G:Gv gl):Tb gl:=(Xg G).add 88 Xh fun q=>ab4 ((Xg G).ok 0) (by intros;exact Tb.h (e:=e61) ⟨(_,_),OM⟩) (Xg G).hno (⟨(q.1.1),q.1.2.1,(q.1.2.2.1)⟩) (q.1.2.2.2) q.2.1 q.2.2
noncomputable abbrev e63:Te:=Te.mk {q:S8×(List UInt8)×Nat // (q.2.1.length=64)∧(q.2.2< 576460752303423488)} (fun q=>[.agg (cl wC q.1.1.l++(cl bC q.1.2.1++[.val (nU q.1.2.2)]))]) (fun q=> .agg (cl bC (pO ⟨(q.1.1),q.1.2.1,(q.1.2.2)⟩))) (by intro x;simp only[d7,io,ip,js,bf,bQ,cH,cV,fC,Bool.and_self,Bool.and_true,mh,eH]) (by intro x y h;exact Qa x.1.1 y.1.1 x.1.2.1 y.1.2.1 x.1.2.2 y.1.2.2 x.2.1 y.2.1 h)
noncomputable def t63 (G:Gv gl):Tb gl:=(t62 G).add 89 e63 fun q=>ab5 ((t62 G).ok 0) (by intros;exact Tb.h (e:=Xh) ⟨(_,_,_,_),OM,OM⟩) (⟨(q.1.1),q.1.2.1,(q.1.2.2)⟩) q.2.1 q.2.2
noncomputable abbrev e64:Te:=Te.mk {q:Int×(List (List UInt8)) // (gZ q.1 q.2).length< 1099511627776} (fun q=>[.val (.int .i64 q.1.1),sl sC .no q.1.2]) (fun q=> .agg (cl bC ((ve (gZ q.1.1 q.1.2)).take 16)))
noncomputable def t64 (G:Gv gl):Tb gl:=(t63 G).add 48 e64 fun q=>ab6 ((t63 G).ok 0) (by intros;(iterate 6 refine Tb.m ?_);exact Tb.h (e:=e57) ⟨(),trivial⟩) (by intros;refine Tb.m ?_;exact Tb.h (e:=Xh) ⟨(_,_,_,_),OM,OM⟩) (by intros;exact Tb.h (e:=e63) ⟨(_,_,_),OM,OM⟩) (by intros;(iterate 27 refine Tb.m ?_);exact Tb.h (e:=e36) ⟨_,OM⟩) (q.1.1) (q.1.2) q.2
noncomputable abbrev e65:Te:=Te.mk {q:ah // EW q} (fun q=>[.agg [sl vC .no q.1]]) (fun q=> .agg (cl bC (pv q.1)))
noncomputable def t65 (G:Gv gl):Tb gl:=(t64 G).add 47 e65 fun q=>ads ((t64 G).ok 0) (by intros;(iterate 26 refine Tb.m ?_);exact Tb.h (e:=Xc) ⟨_,OM⟩) (by intros;exact Tb.h (e:=e64) ⟨(_,_),OM⟩) (q.1) q.2
noncomputable abbrev e66:Te:=Te.mk {q: (List UInt8) // q.length< 9223372036854775807} (fun q=>[sl bC .no q.1]) (fun q=> .tup [.val (.int .i64 (ab q.1).1),.val (nI (ab q.1).2.1),.val (nI (ab q.1).2.2)])
noncomputable def t66 (G:Gv gl):Tb gl:=(t65 G).add 116 e66 fun q=>YS ((t65 G).ok 0) (by intros;(iterate 14 refine Tb.m ?_);exact Tb.h (e:=e51) ⟨_,OM⟩) (by intros;(iterate 15 refine Tb.m ?_);exact Tb.h (e:=e50) ⟨(_,_),OM⟩) (q.1) q.2
noncomputable abbrev Xi:Te:=Te.mk {q: (List UInt8)×Nat // (q.1.length< 1099511627776)∧(0< q.2∧q.2≤16)} (fun q=>[sl bC .no q.1.1,.val (nI q.1.2)]) (fun q=>tw q.1.1 q.1.2)
noncomputable def t67 (G:Gv gl):Tb gl:=(t66 G).add 130 Xi fun q=>TC ((t66 G).ok 0) (by intros;exact Tb.h (e:=e66) ⟨_,OM⟩) (q.1.1) (q.1.2) q.2.1 q.2.2
noncomputable abbrev e68:Te:=Te.mk {q: (List UInt8) // q.length< 1099511627776} (fun q=>[sl bC .no q.1]) (fun q=> .tup [.val (str (bJ q.1).1),.val (nI (bJ q.1).2.1),.val (nI (bJ q.1).2.2)])
noncomputable def t68 (G:Gv gl):Tb gl:=(t67 G).add 125 e68 fun q=>YU ((t67 G).ok 0) (by intros;exact Tb.h (e:=Xi) ⟨(_,_),OM,OM⟩) (q.1) q.2
noncomputable abbrev e69:Te:=Te.mk {q: (List UInt8) // q.length< 1099511627776} (fun q=>[sl bC .no q.1]) (fun q=> .tup [sl iC .no (aS ab 1 q.1).1,.val (nI (aS ab 1 q.1).2.1),.val (nI (aS ab 1 q.1).2.2)])
noncomputable def t69 (G:Gv gl):Tb gl:=(t68 G).add 126 e69 fun q=>YV ((t68 G).ok 0) (by intros;refine Tb.m ?_;exact Tb.h (e:=Xi) ⟨(_,_),OM,OM⟩) (by intros;(iterate 2 refine Tb.m ?_);exact Tb.h (e:=e66) ⟨_,OM⟩) (q.1) q.2
noncomputable abbrev e70:Te:=Te.mk {q: (List UInt8) // q.length≤200000000000} (fun q=>[sl bC .no q.1]) (fun q=> .tup [.agg [sl vC .no (dw q.1).1],.val (nI (dw q.1).2.1),.val (nI (dw q.1).2.2)])
noncomputable def t70 (G:Gv gl):Tb gl:=(t69 G).add 50 e70 fun q=>Z3 ((t69 G).ok 0) (by intros;(iterate 3 refine Tb.m ?_);exact Tb.h (e:=e66) ⟨_,OM⟩) (by intros;refine Tb.m ?_;exact Tb.h (e:=e68) ⟨_,OM⟩) (by intros;exact Tb.h (e:=e69) ⟨_,OM⟩) (q.1) q.2
theorem law10 (hgn:∀g,ae 0 (gl g) =true)(hg0:gl 0= .kp (iD (-1,0,0)))(hg1:gl 1= .kp (cl wC kc))(l:List Int)(how:Int)(y:Int)(t:Int)(raw:List UInt8)(hc0:LI l)(hc1: (-9223372036854775808≤how∧how≤9223372036854775807))(hc2: (-9223372036854775808≤y∧y≤9223372036854775807))(hc3: (-9223372036854775808≤t∧t≤9223372036854775807))(hc4:raw.length< 9223372036854775808):FC Tryd.prog gl 10 [sl iC .no l,.val (.int .i64 how),.val (.int .i64 y),.val (.int .i64 t),sl bC .no raw] [] (.val (.bool true)) []:=by
 have G:Gv gl:=⟨hgn,hg0,hg1⟩;exact adt ((t70 G).ok 0) (by intros;(iterate 58 refine Tb.m ?_);exact Tb.h (e:=e12) ⟨(_,_,_),OM,OM,OM⟩) (by intros;(iterate 39 refine Tb.m ?_);exact Tb.h (e:=e31) ⟨(),trivial⟩) (by intros;(iterate 69 refine Tb.m ?_);exact Tb.h (e:=e1) ⟨(_,_),OM⟩) (by intros;(iterate 36 refine Tb.m ?_);exact Tb.h (e:=e34) ⟨(_,_),OM,OM⟩) (by intros;(iterate 32 refine Tb.m ?_);exact Tb.h (e:=Xc) ⟨_,OM⟩) (by intros;(iterate 22 refine Tb.m ?_);exact Tb.h (e:=e48) ⟨_,OM⟩) (by intros;(iterate 21 refine Tb.m ?_);exact Tb.h (e:=e49) ⟨(_,_),OM,OM⟩) (by intros;(iterate 20 refine Tb.m ?_);exact Tb.h (e:=e50) ⟨(_,_),OM⟩) (by intros;(iterate 14 refine Tb.m ?_);exact Tb.h (e:=e56) ⟨_,OM⟩) (by intros;(iterate 5 refine Tb.m ?_);exact Tb.h (e:=e65) ⟨_,OM⟩) (by intros;(iterate 6 refine Tb.m ?_);exact Tb.h (e:=e64) ⟨(_,_),OM⟩) (by intros;(iterate 35 refine Tb.m ?_);exact Tb.h (e:=e35) ⟨_,OM⟩) (by intros;exact Tb.h (e:=e70) ⟨_,OM⟩) (l) (how) (y) (t) (raw) hc0 hc1 hc2 hc3 hc4
end
end Go.Sx.T10
namespace Go.Proofs.YtcpdlhgkdogdjaaDoor
open Go.ChangeShapes Go.WideShapes Go.RowKit Go.Sx
theorem abW:ownKnob Tryd.prog.godebug=none:=by kernel_rfl
theorem loT:laidOutB Tryd.prog=true:=by kernel_rfl
theorem mrT:mapsRowed Tryd.prog=true:=by kernel_rfl
theorem slT:qN Tryd.prog=true:=by kernel_rfl
theorem g0T:Tryd.prog.globalNamed "passim/work.nowhere" =some 0:=by kernel_rfl
theorem t0T: (Tryd.prog.globals[0]?).map (·.type) =some 34:=by kernel_rfl
theorem c34:Tryd.prog.cellsOf 34=3:=by kernel_rfl
theorem c5:Tryd.prog.cellsOf 5=1:=by kernel_rfl
theorem c3:Tryd.prog.cellsOf 3=1:=by kernel_rfl
theorem LW {W:World}{n:String}{g fuel:Nat}{enc:TypeId×Value→Unit}{sp:Nat→Bool}{held:Bool}{cs:Array Value}{p:List MemPlace}{a b c:Int}
 (hg:Tryd.prog.globalNamed n=some g) (hv:W.var? Tryd.prog n=some cs)
 (h:DataW.trod enc Tryd.prog W 0 sp held fuel 34 cs.toList=some (.agg [.lit (.int .i64 a),.lit (.int .i64 b),.lit (.int .i64 c)],p)):Rep (GW W) (.kp (iD (a,b,c))) (.pointer (some ⟨g,0,none⟩)):=by
 obtain ⟨xs,m,_,hx,hl,hlen,hf⟩:=DataW.trod_struct (aQ lW).1 h;rw[c34] at hl;have each:∀i,i< 3→∃z,cs.toList[i]? =some (.int .i64 z)∧(xs.map (·.1))[i]? =some (.lit (.int .i64 z)):=fun i hi=>by
  have hfi: ∃fd:Field,(#[Field.mk "By" 3 0 false "" "" 0,Field.mk "Seq" 3 1 false "" "" 8,Field.mk "K" 3 2 false "" "" 16])[i]? =some fd∧fd.type=3∧fd.offset=i:=by
   rcases i with _|_|_|i
   . exact ⟨_,rfl,rfl,rfl⟩
   . exact ⟨_,rfl,rfl,rfl⟩
   . exact ⟨_,rfl,rfl,rfl⟩
   . omega
  obtain ⟨fd,h1,h2,h3⟩:=hfi;have h4:=hf i fd h1;rw[h2,h3,c3] at h4;have hi2:i< xs.length:=by rw[hlen];exact hi
  rw[List.getElem?_eq_getElem hi2] at h4;obtain ⟨z,h5,h6,_⟩:=DataW.trod_int (aQ jc).1 h4;refine ⟨z,?_,?_⟩
  . have h7:=congrArg (fun l=>l[0]?) h5
    simpa[List.getElem?_take,List.getElem?_drop] using h7
  . rw[List.getElem?_map,List.getElem?_eq_getElem hi2,h6];rfl
 simp only[Prod.mk.injEq,DataW.agg.injEq] at hx;rw[←hx.1] at each;simp only[Rep];refine ⟨g,0,rfl,RepK.of_get fun i x hx=>?_⟩;have hi:i< 3:=by
  have:=(List.getElem?_eq_some_iff.1 hx).1;exact this
 obtain ⟨z,h1,h2⟩:=each i hi;refine ⟨.int .i64 z,?_,rfl,?_⟩
 . show W.cell? ⟨g,0+i,none⟩ =_
   rw[World.var?_cell hg hv,Nat.zero_add,←Array.getElem?_toList,h1]
 . rcases i with _|_|_|i
   . cases h2;cases hx;exact aj.2 rfl
   . cases h2;cases hx;exact aj.2 rfl
   . cases h2;cases hx;exact aj.2 rfl
   . omega
theorem d0T: (Rows.laid_passim_work_nowhere:DataW Unit) = .agg [.lit (.int .i64 (-1)),.lit (.int .i64 0),.lit (.int .i64 0)]:=rfl
theorem g1T:Tryd.prog.globalNamed "passim/hash.constants" =some 1:=by kernel_rfl
theorem t1T: (Tryd.prog.globals[1]?).map (·.type) =some 166:=by kernel_rfl
theorem abX:Tryd.prog.cellsOf 166=64:=by kernel_rfl
theorem abY:Tryd.prog.cellsOf 123=1:=by kernel_rfl
theorem d1T: (Rows.laid_passim_hash_constants:DataW Unit) = .agg ((kc.map fun w=>(w.toNat:Int)).map fun m=> .lit (.int .u32 m)):=by kernel_rfl
abbrev v6:List (String×DataW Unit) := [("passim/hash.constants",Rows.laid_passim_hash_constants),("passim/work.nowhere",Rows.laid_passim_work_nowhere)]
theorem gl2 (W:World)(h:laidMetH Tryd.prog v6 W):∀g,Rep (GW W) (yZ g) (.pointer (some ⟨g,0,none⟩)):=by
 rw[MakeChecks.laidMetH_plain _ _ _ (by kernel_rfl)] at h;obtain ⟨ps,⟨g0,t0,cs0,f0,p0,q0,hg0,ht0,hv0,hd0,⟨g1,t1,cs1,f1,p1,q1,hg1,ht1,hv1,hd1,_,_⟩,_⟩,_,_⟩:=h;obtain rfl:=Option.some.inj (g1T.symm.trans hg0);obtain rfl:=Option.some.inj (g0T.symm.trans hg1);obtain rfl:=Option.some.inj (t1T.symm.trans ht0);obtain rfl:=Option.some.inj (t0T.symm.trans ht1);rw[d1T] at hd0;rw[d0T] at hd1;intro g;unfold yZ;split
 . rename_i hg
   subst hg;exact LW hg1 hv1 hd1
 . split
   . rename_i hg
     subst hg;exact BL hg0 hv0 (aQ Kx).1 (aQ Ks).1 abY abX hd0
   . simp[Rep]
theorem abZ (os:Os)(args:Array Value):laidMetH Tryd.prog v6 ((World.doorLaid Tryd.prog 400 os).forCall (fun _ _=>0) ⟨#[],args,[]⟩).memory:=by
 rw[MakeChecks.laidMetH_plain _ _ _ (by kernel_rfl)];exact laidMet_of_run' 8 (by kernel_rfl) (by kernel_rfl)
theorem a3:AR Tryd.prog 3 (fun n:Int=> .val (.int .i64 n)) fun n=> -9223372036854775808≤n∧n≤9223372036854775807:=Sm jc
set_option maxRecDepth 100000
theorem LX {α:Type}[Inhabited α]{l:List α}{i:Nat}(h:i< l.length):gt l i=l[i]:=by simp[gt,List.getD,List.getElem?_eq_getElem h]
theorem Xv {l:List Int}(h:l.length≤9223372036854775807∧∀a∈l,-9223372036854775808≤a∧a≤9223372036854775807):LI l:=⟨h.1,fun i hi=>by rw[LX hi];exact h.2 _ (List.getElem_mem hi)⟩
theorem a22:AR Tryd.prog 22 (fun l:List Int=>sl iC .no l) LI:=fun h1 h2=>by
 obtain ⟨l,q1,q2⟩:=xB Qt c3 (zN (aQ jc).1) h1 h2;exact ⟨l,Xv q1,q2⟩
theorem a72:AR Tryd.prog 72 (fun l:List UInt8=>sl bC .no l) fun l=>l.length≤9223372036854775807:=fun h1 h2=>by
 obtain ⟨l,q1,q2⟩:=xB AT c5 (Sx.R0 (aQ Qs).1) h1 h2;exact ⟨l,q1.1,q2⟩
end Go.Proofs.YtcpdlhgkdogdjaaDoor
