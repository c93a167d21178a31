/-
   And what follows.
-/
import Derived.Test.YtmoaeemdlompaaaDoorPar
import Derived.Test.YtmoaeemdlompaaaDoorPaq
import Derived.Test.YtmoaeemdlompaaaDoorPap
import Derived.Test.YtmoaeemdlompaaaDoorPam
set_option linter.unusedSimpArgs false
set_option linter.unusedVariables false
namespace Go.Sx
open Go.RowKit Go.Proofs
set_option maxRecDepth 100000
theorem oR {f:Nat} : ∀ {d d':Nat} {p p':List C},dm f p d=dm f p' d'→d=d'
 |0,0,_,_,_=>rfl
 |0,d'+1,_,_,h=>by simp[dm] at h
 |d+1,0,_,_,h=>by simp[dm] at h
 |d+1,d'+1,p,p',h=>by
  simp only[dm,C.kp.injEq,List.cons.injEq,C.fn.injEq,and_true,true_and] at h
  have:= (List.append_inj' h rfl).2
  simp only[List.cons.injEq,and_true] at this
  rw[oR this]
theorem tk (l:List ab) (f:Nat) (S:List cf) : ∀ (d e a b:Nat) (st:TS),b - a≤2 ^ d→b - a≤2 ^ e→bX l f S d a b st=bX l f S e a b st
 |0,e,a,b,st,h1,h2=>by
  by_cases h:b≤f∨f+l.length≤a
  · rw[gS h,gS h]
  · rw[fl h h1,fl h h1]
 |d+1,0,a,b,st,h1,h2=>by
  by_cases h:b≤f∨f+l.length≤a
  · rw[gS h,gS h]
  · rw[fl h h2,fl h h2]
 |d+1,e+1,a,b,st,h1,h2=>by
  by_cases h:b≤f∨f+l.length≤a
  · rw[gS h,gS h]
  · by_cases h':b - a≤1
    · rw[fl h h',fl h h']
    · have hh:=fO (n:=b - a) (by omega)
      have g1:=fu (by omega) h1
      have g2:=fu (by omega) h2
      rw[j6 h h',j6 h h',tk l f S d e a _ st (by omega) (by omega),tk l f S d e _ b _ (by omega) (by omega)]
section
variable {gl:Nat→C} {M:Nat} {pu:Nat→List C→Option C}
abbrev Po (d:Nat) := {q:List ab×Nat×Nat // OkL q.1∧q.2.1< q.2.2∧q.2.2≤q.1.length∧q.2.2 - q.2.1≤2 ^ d}
def e79 (d:Nat) (q:Po d) :List C:= [.val (nI q.1.2.1),.val (nI q.1.2.2),.kp [sl eC .no q.1.1],dm 79 [.kp [sl eC .no q.1.1]] d]
def IM (d:Nat) (q:Po d) :C:= .agg (cl bC (dD q.1.1 d q.1.2.1 q.1.2.2))
theorem n79 (l:List ab) (a b d:Nat) :noRefs 0 [.val (nI a),.val (nI b),.kp [sl eC .no l],dm 79 [.kp [sl eC .no l]] d] =true:=by
 simp only[ay,aD,aM,bA,aT,Bool.and_self,Bool.true_and,Bool.and_true]
 exact oI 0 79 _ (by simp only[ay,aD,bA,aT,Bool.and_self]) d
theorem i79 (d:Nat) (x y:Po d) (h:e79 d x=e79 d y) :IM d x=IM d y:=by
 simp only[e79,List.cons.injEq,C.val.injEq,C.kp.injEq,ca,cb,and_true] at h
 simp only[IM,h]
theorem Pp (hcx:CxOK (aO gl M pu)) (h80: ∀x:ab,x.1.length≤65536∧x.2.length≤65536→pu 80 [.agg (eC x)] =some (.agg (cl bC (fV x))))
 (h81: ∀x y:Nat,x≤y∧y≤4611686018427387000→pu 81 [.val (nI x),.val (nI y)] =some (.val (nI (x+aV (y - x)))))
 (h82: ∀a b:List UInt8,a.length=16→b.length=16→pu 82 [.agg (cl bC a),.agg (cl bC b)] =some (.agg (cl bC (iI a b)))) :
 ∀ (d:Nat) (l:List ab) (a b:Nat),OkL l→a< b∧b≤l.length∧b - a≤2 ^ d→FC Tryd.prog gl 79 [.val (nI a),.val (nI b),.kp [sl eC .no l],dm 79 [.kp [sl eC .no l]] d] [] (.agg (cl bC (dD l d a b))) []
 |0,l,a,b,hl,hab=>Kg hcx h80 l 0 a b hl ⟨hab.1,hab.2.1,hab.2.2⟩
 |d+1,l,a,b,hl,hab=>by
  by_cases h:b - a≤1
  · exact Kg hcx h80 l (d+1) a b hl ⟨hab.1,hab.2.1,h⟩
  · have hcx':CxOK (aO gl M (Sx.ext pu 79 (ce (e79 d) (IM d)))) :=bz (N:=M) hcx (fun q=>n79 _ _ _ _) fun q=>Pp hcx h80 h81 h82 d q.1.1 q.1.2.1 q.1.2.2 q.2.1 q.2.2
    exact WF hcx' (fun x y h=> (aX (by decide) _).trans (h81 x y h)) (fun x y h h'=> (aX (by decide) _).trans (h82 x y h h')) l d a b hl ⟨hab.1,hab.2.1,hab.2.2,by omega⟩
     (fun a b hab=> (bM _).trans (bv (i79 d) ⟨(l,a,b),hl,hab⟩))
theorem kY (hcx:CxOK (aO gl M pu)) (N:Nat) :CxOK (fj gl N pu fun _ _ _=>none) :=hcx.reN
theorem FK (T:List (List UInt8)) (S:List cf) (u:Nat) (sh:Bool) : ∀o∈ ([some [sl sC (.own 1) T,sl dC .no S,.val (nI u),.val (.bool sh)]] :Hp),((cI o).isSome|| (ga o).isSome) =true:=fun o h=>by
 rw[List.mem_singleton.1 h];rfl
abbrev A86:= {q:List (List UInt8)×List cf×Nat×Bool×Int×List (List UInt8) // q.1.length≤1000000∧(cL q.2.2.2.2.1 q.2.2.2.2.2).length< 1099511627776}
def yV (hcx:CxOK (aO gl M pu)) (h65: ∀ (tag:Int) (parts:List (List UInt8)),(cL tag parts).length< 1099511627776→pu 65 [.val (.int .i64 tag),sl sC .no parts] =some (sl bC (.own 1) (cL tag parts)))
    (h64: ∀b:List UInt8,b.length< 35184372088832→pu 64 [sl bC .no b] =some (.agg (cl bC ((eR b).take 16)))) :Small Tryd.prog gl 86 A86 where
 k:=1
 j:=0
 args q:= [.bp 0 0,.val (.int .i64 q.1.2.2.2.2.1),sl sC .no q.1.2.2.2.2.2]
 X q:= [some [sl sC (.own 1) q.1.1,sl dC .no q.1.2.1,.val (nI q.1.2.2.1),.val (.bool q.1.2.2.2.1)]]
 r q:= .agg (cl bC (ofT q.1.2.2.2.2.1 q.1.2.2.2.2.2))
 Y q:= [some [sl sC (.own 1) (q.1.1++[cL q.1.2.2.2.2.1 q.1.2.2.2.2.2]),sl dC .no q.1.2.1,.val (nI q.1.2.2.1),.val (.bool q.1.2.2.2.1)]]
 k0:=by decide
 hk _:=rfl
 hy _:=rfl
 al q:=FK _ _ _ _
 nr q:=by simp only[ay,aD,aM,aT,Bool.and_true];rfl
 nx q:=lj _ _ _ _
 at0 q:= ⟨0,rfl⟩
 inj:=fun x y h1 h2=>by
  simp only[List.cons.injEq,Option.some.injEq,C.val.injEq,Value.int.injEq,Value.bool.injEq,ca,cb,and_true,true_and] at h1 h2
  simp only[h1,h2,and_self]
 fc q:=aaI (kY hcx 0) h65 h64 q.1.1 q.1.2.1 q.1.2.2.1 q.1.2.2.2.1 q.1.2.2.2.2.1 q.1.2.2.2.2.2 q.2.1 q.2.2
def K85 (d:Nat) (l:List ab) (f:Nat) (S:List cf) (T:List (List UInt8)) (u a b:Nat) :Prop:=LZ l∧f≤5000∧S.length≤1000000∧u≤S.length∧T.length≤900000 - 2 ^ (d+1)∧d≤12∧a< b∧b≤5000∧b - a≤2 ^ d
structure A85 where
 (l:List ab) (f:Nat) (S:List cf) (T:List (List UInt8)) (u:Nat) (sh:Bool) (d a b:Nat)
 ok:K85 d l f S T u a b
def Cr (W:A85→Prop) (fc: ∀q:A85,W q→FC Tryd.prog gl 85 [.bp 0 0,sl eC .no q.l,.val (nI q.f),.val (nI q.a),.val (nI q.b)] [some [sl sC (.own 1) (q.T),sl dC .no q.S,.val (nI (q.u)),.val (.bool (q.sh))]] (.agg (cl bC (bX q.l q.f q.S q.d q.a q.b (q.T,q.u,q.sh)).1)) [some [sl sC (.own 1) ((bX q.l q.f q.S q.d q.a q.b (q.T,q.u,q.sh)).2.1),sl dC .no q.S,.val (nI ((bX q.l q.f q.S q.d q.a q.b (q.T,q.u,q.sh)).2.2.1)),.val (.bool ((bX q.l q.f q.S q.d q.a q.b (q.T,q.u,q.sh)).2.2.2))]]) :Small Tryd.prog gl 85 {q:A85 // W q} where
 k:=1
 j:=0
 args q:= [.bp 0 0,sl eC .no q.1.l,.val (nI q.1.f),.val (nI q.1.a),.val (nI q.1.b)]
 X q:= [some [sl sC (.own 1) (q.1.T),sl dC .no q.1.S,.val (nI (q.1.u)),.val (.bool (q.1.sh))]]
 r q:= .agg (cl bC (bX q.1.l q.1.f q.1.S q.1.d q.1.a q.1.b (q.1.T,q.1.u,q.1.sh)).1)
 Y q:= [some [sl sC (.own 1) ((bX q.1.l q.1.f q.1.S q.1.d q.1.a q.1.b (q.1.T,q.1.u,q.1.sh)).2.1),sl dC .no q.1.S,.val (nI ((bX q.1.l q.1.f q.1.S q.1.d q.1.a q.1.b (q.1.T,q.1.u,q.1.sh)).2.2.1)),.val (.bool ((bX q.1.l q.1.f q.1.S q.1.d q.1.a q.1.b (q.1.T,q.1.u,q.1.sh)).2.2.2))]]
 k0:=by decide
 hk _:=rfl
 hy _:=rfl
 al q:=FK _ _ _ _
 nr q:=by simp only[ay,aD,aM,aT,Bool.and_true];rfl
 nx q:=lj _ _ _ _
 at0 q:= ⟨0,rfl⟩
 inj:=fun x y h1 h2=>by
  simp only[List.cons.injEq,Option.some.injEq,C.val.injEq,Value.int.injEq,Value.bool.injEq,ca,cb,and_true,true_and] at h1 h2
  have e:=tk y.1.l y.1.f y.1.S x.1.d y.1.d y.1.a y.1.b (y.1.T,y.1.u,y.1.sh) (by have:=x.1.ok.2.2.2.2.2.2.2.2;rw[h1.2.2.1,h1.2.2.2] at this;exact this) y.1.ok.2.2.2.2.2.2.2.2
  simp only[h1,h2,e,and_self]
 fc q:=fc q.1 q.2
abbrev Cs (gl:Nat→C) (q:A85) :Prop:=FC Tryd.prog gl 85 [.bp 0 0,sl eC .no q.l,.val (nI q.f),.val (nI q.a),.val (nI q.b)] [some [sl sC (.own 1) (q.T),sl dC .no q.S,.val (nI (q.u)),.val (.bool (q.sh))]] (.agg (cl bC (bX q.l q.f q.S q.d q.a q.b (q.T,q.u,q.sh)).1)) [some [sl sC (.own 1) ((bX q.l q.f q.S q.d q.a q.b (q.T,q.u,q.sh)).2.1),sl dC .no q.S,.val (nI ((bX q.l q.f q.S q.d q.a q.b (q.T,q.u,q.sh)).2.2.1)),.val (.bool ((bX q.l q.f q.S q.d q.a q.b (q.T,q.u,q.sh)).2.2.2))]]
theorem rD (hcx:CxOK (aO gl M pu)) (h65: ∀ (tag:Int) (parts:List (List UInt8)),(cL tag parts).length< 1099511627776→pu 65 [.val (.int .i64 tag),sl sC .no parts] =some (sl bC (.own 1) (cL tag parts))) (h64: ∀b:List UInt8,b.length< 35184372088832→pu 64 [sl bC .no b] =some (.agg (cl bC ((eR b).take 16)))) (hp:Nat→List C→Hp→Option (C×Hp)) (pre suf:Hp) (T:List (List UInt8)) (S:List cf) (u:Nat) (sh:Bool) (tag:Int) (parts:List (List UInt8)) (h0:OkH pre) (h1:OkH suf) (h2:T.length≤1000000) (h3: (cL tag parts).length< 1099511627776) :
 (yV hcx h65 h64).tab hp 86 [.bp pre.length 0,.val (.int .i64 tag),sl sC .no parts] (pre++([some [sl sC (.own 1) (T),sl dC .no S,.val (nI (u)),.val (.bool (sh))]]++suf)) =some (.agg (cl bC (ofT tag parts)),pre++([some [sl sC (.own 1) (T++[cL tag parts]),sl dC .no S,.val (nI (u)),.val (.bool (sh))]]++suf)) :=by
 have h:=jz (yV hcx h65 h64) hp ⟨(T,S,u,sh,tag,parts),h2,h3⟩ pre suf h0 h1
 simpa only[yV,List.length_nil,Nat.zero_add,Nat.add_zero,bkCs,c7,mZ,sX,jU,mY,Option.map_some,List.map_cons,List.map_nil,List.nil_append,List.cons_append] using h
theorem wR (W:A85→Prop) (fc: ∀q:A85,W q→Cs gl q) (hp:Nat→List C→Hp→Option (C×Hp)) (q:A85) (hq:W q) (pre suf:Hp) (h0:OkH pre) (h1:OkH suf) :
 (Cr W fc).tab hp 85 [.bp pre.length 0,sl eC .no q.l,.val (nI q.f),.val (nI q.a),.val (nI q.b)] (pre++([some [sl sC (.own 1) (q.T),sl dC .no q.S,.val (nI (q.u)),.val (.bool (q.sh))]]++suf)) =some (.agg (cl bC (bX q.l q.f q.S q.d q.a q.b (q.T,q.u,q.sh)).1),pre++([some [sl sC (.own 1) ((bX q.l q.f q.S q.d q.a q.b (q.T,q.u,q.sh)).2.1),sl dC .no q.S,.val (nI ((bX q.l q.f q.S q.d q.a q.b (q.T,q.u,q.sh)).2.2.1)),.val (.bool ((bX q.l q.f q.S q.d q.a q.b (q.T,q.u,q.sh)).2.2.2))]]++suf)) :=by
 have h:=jz (Cr W fc) hp ⟨q,hq⟩ pre suf h0 h1
 simpa only[Cr,List.length_nil,Nat.zero_add,Nat.add_zero,bkCs,c7,mZ,sX,jU,mY,Option.map_some,List.map_cons,List.map_nil,List.nil_append,List.cons_append] using h
theorem FL (hcx:CxOK (aO gl M pu)) (hnr: ∀ (g:Nat) (xs:List C),noRefs 0 xs=false→pu g xs=none) (h65: ∀ (tag:Int) (parts:List (List UInt8)),(cL tag parts).length< 1099511627776→pu 65 [.val (.int .i64 tag),sl sC .no parts] =some (sl bC (.own 1) (cL tag parts))) (h64: ∀b:List UInt8,b.length< 35184372088832→pu 64 [sl bC .no b] =some (.agg (cl bC ((eR b).take 16)))) (h84: ∀h:List UInt8,h.length=16→pu 84 [.agg (cl bC h)] =some (.val (str h))) (h106: ∀n:Nat,n≤4611686018427387000→pu 106 [.val (nI n)] =some (.val (nI (aV n)))) : ∀ (d:Nat) (q:A85),q.d=d→Cs gl q
 |0,⟨l,f,S,T,u,sh,d,a,b,hk⟩,hd=>by
  obtain rfl:d=0:=hd
  obtain ⟨k1,k2,k3,k4,k5,k6,k7,k8,k9⟩ :=hk
  exact Kh (gz (M:=M) (kY hcx M) ⟨_,Tryd.func86,rfl,rfl⟩ (yV hcx h65 h64)) l f S T u sh 0 a b k1 k2 k3 k4 k5 k6 ⟨k7,k8,k9⟩ (.inr (.inr k9)) hnr (fun xs h=>Small.never _ _ xs h)
   (fun suf T S u sh tag parts h1 h2 h3=>rD hcx h65 h64 _ [] suf T S u sh tag parts OkH.nil h1 h2 h3)
 |d+1,⟨l,f,S,T,u,sh,d',a,b,hk⟩,hd=>by
  obtain rfl:d'=d+1:=hd
  obtain ⟨k1,k2,k3,k4,k5,k6,k7,k8,k9⟩ :=hk
  have ok:=gz (M:=M) (kY hcx M) ⟨_,Tryd.func86,rfl,rfl⟩ (yV hcx h65 h64)
  by_cases hz:b≤f∨f+l.length≤a∨b - a≤1
  · exact Kh ok l f S T u sh (d+1) a b k1 k2 k3 k4 k5 k6 ⟨k7,k8,k9⟩ hz hnr (fun xs h=>Small.never _ _ xs h)
     (fun suf T S u sh tag parts h1 h2 h3=>rD hcx h65 h64 _ [] suf T S u sh tag parts OkH.nil h1 h2 h3)
  · have F:=FL hcx hnr h65 h64 h84 h106 d
    exact WI (gz (M:=M) ok ⟨_,Tryd.func85,rfl,rfl⟩ (Cr (fun q=>q.d=d) F)) l f S T u sh d a b k1 k2 k3 k4 k5 k6 ⟨k7,k8,k9⟩
     (fun suf T u sh a b h1 h2 h3 h4=>wR (fun q=>q.d=d) F _ ⟨l,f,S,T,u,sh,d,a,b,k1,k2,k3,h3,h2,by omega,h4.1,h4.2.2,h4.2.1⟩ rfl [] suf OkH.nil h1)
     (by omega) (by omega) (by omega) hnr
     (fun xs h=> (kM _ _ (by decide) _ _).trans (Small.never _ _ xs h))
     (fun suf T S u sh tag parts h1 h2 h3=> (kM _ _ (by decide) _ _).trans (rD hcx h65 h64 _ [] suf T S u sh tag parts OkH.nil h1 h2 h3))
     (fun xs h=>Small.never _ _ xs h) h84 h106
abbrev X4 (F: ∀q:A85,Cs gl q) :=Cr (fun _=>True) (fun q _=>F q)
abbrev Pq:= {q:List ab×Nat×List cf×Nat×List (List UInt8)×Nat×Bool // LZ q.1∧q.2.1≤5000∧q.2.2.1.length≤1000000∧q.2.2.2.2.2.1≤q.2.2.1.length∧q.2.2.2.2.1.length≤800000∧q.2.2.2.1≤4096}
def Pr (fc: ∀q:Pq,FC Tryd.prog gl 52 [.bp 0 0,sl eC .no q.1.1,.val (nI q.1.2.1),.val (nI q.1.2.2.2.1)] [some [sl sC (.own 1) (q.1.2.2.2.2.1),sl dC .no q.1.2.2.1,.val (nI (q.1.2.2.2.2.2.1)),.val (.bool (q.1.2.2.2.2.2.2))]] (.agg (cl bC (dN q.1.1 q.1.2.1 q.1.2.2.1 q.1.2.2.2.1 (q.1.2.2.2.2.1,q.1.2.2.2.2.2.1,q.1.2.2.2.2.2.2)).1)) [some [sl sC (.own 1) ((dN q.1.1 q.1.2.1 q.1.2.2.1 q.1.2.2.2.1 (q.1.2.2.2.2.1,q.1.2.2.2.2.2.1,q.1.2.2.2.2.2.2)).2.1),sl dC .no q.1.2.2.1,.val (nI ((dN q.1.1 q.1.2.1 q.1.2.2.1 q.1.2.2.2.1 (q.1.2.2.2.2.1,q.1.2.2.2.2.2.1,q.1.2.2.2.2.2.2)).2.2.1)),.val (.bool ((dN q.1.1 q.1.2.1 q.1.2.2.1 q.1.2.2.2.1 (q.1.2.2.2.2.1,q.1.2.2.2.2.2.1,q.1.2.2.2.2.2.2)).2.2.2))]]) :Small Tryd.prog gl 52 Pq where
 k:=1
 j:=0
 args q:= [.bp 0 0,sl eC .no q.1.1,.val (nI q.1.2.1),.val (nI q.1.2.2.2.1)]
 X q:= [some [sl sC (.own 1) (q.1.2.2.2.2.1),sl dC .no q.1.2.2.1,.val (nI (q.1.2.2.2.2.2.1)),.val (.bool (q.1.2.2.2.2.2.2))]]
 r q:= .agg (cl bC (dN q.1.1 q.1.2.1 q.1.2.2.1 q.1.2.2.2.1 (q.1.2.2.2.2.1,q.1.2.2.2.2.2.1,q.1.2.2.2.2.2.2)).1)
 Y q:= [some [sl sC (.own 1) ((dN q.1.1 q.1.2.1 q.1.2.2.1 q.1.2.2.2.1 (q.1.2.2.2.2.1,q.1.2.2.2.2.2.1,q.1.2.2.2.2.2.2)).2.1),sl dC .no q.1.2.2.1,.val (nI ((dN q.1.1 q.1.2.1 q.1.2.2.1 q.1.2.2.2.1 (q.1.2.2.2.2.1,q.1.2.2.2.2.2.1,q.1.2.2.2.2.2.2)).2.2.1)),.val (.bool ((dN q.1.1 q.1.2.1 q.1.2.2.1 q.1.2.2.2.1 (q.1.2.2.2.2.1,q.1.2.2.2.2.2.1,q.1.2.2.2.2.2.2)).2.2.2))]]
 k0:=by decide
 hk _:=rfl
 hy _:=rfl
 al q:=FK _ _ _ _
 nr q:=by simp only[ay,aD,aM,aT,Bool.and_true];rfl
 nx q:=lj _ _ _ _
 at0 q:= ⟨0,rfl⟩
 inj:=fun x y h1 h2=>by
  simp only[List.cons.injEq,Option.some.injEq,C.val.injEq,Value.int.injEq,Value.bool.injEq,ca,cb,and_true,true_and] at h1 h2
  simp only[h1,h2,and_self]
 fc q:=fc q
theorem YY (hcx:CxOK (aO gl M pu)) (hnr: ∀ (g:Nat) (xs:List C),noRefs 0 xs=false→pu g xs=none) (h65: ∀ (tag:Int) (parts:List (List UInt8)),(cL tag parts).length< 1099511627776→pu 65 [.val (.int .i64 tag),sl sC .no parts] =some (sl bC (.own 1) (cL tag parts))) (h64: ∀b:List UInt8,b.length< 35184372088832→pu 64 [sl bC .no b] =some (.agg (cl bC ((eR b).take 16)))) (h84: ∀h:List UInt8,h.length=16→pu 84 [.agg (cl bC h)] =some (.val (str h))) (h106: ∀n:Nat,n≤4611686018427387000→pu 106 [.val (nI n)] =some (.val (nI (aV n)))) (h83: ∀n:Int,-9223372036854775808≤n∧n≤9223372036854775807→pu 83 [.val (.int .i64 n)] =some (sl bC (.own 1) (cX n))) (q:Pq) :FC Tryd.prog gl 52 [.bp 0 0,sl eC .no q.1.1,.val (nI q.1.2.1),.val (nI q.1.2.2.2.1)] [some [sl sC (.own 1) (q.1.2.2.2.2.1),sl dC .no q.1.2.2.1,.val (nI (q.1.2.2.2.2.2.1)),.val (.bool (q.1.2.2.2.2.2.2))]] (.agg (cl bC (dN q.1.1 q.1.2.1 q.1.2.2.1 q.1.2.2.2.1 (q.1.2.2.2.2.1,q.1.2.2.2.2.2.1,q.1.2.2.2.2.2.2)).1)) [some [sl sC (.own 1) ((dN q.1.1 q.1.2.1 q.1.2.2.1 q.1.2.2.2.1 (q.1.2.2.2.2.1,q.1.2.2.2.2.2.1,q.1.2.2.2.2.2.2)).2.1),sl dC .no q.1.2.2.1,.val (nI ((dN q.1.1 q.1.2.1 q.1.2.2.1 q.1.2.2.2.1 (q.1.2.2.2.2.1,q.1.2.2.2.2.2.1,q.1.2.2.2.2.2.2)).2.2.1)),.val (.bool ((dN q.1.1 q.1.2.1 q.1.2.2.1 q.1.2.2.2.1 (q.1.2.2.2.2.1,q.1.2.2.2.2.2.1,q.1.2.2.2.2.2.2)).2.2.2))]] :=by
 have F: ∀q:A85,Cs gl q:=fun q=>FL hcx hnr h65 h64 h84 h106 q.d q rfl
 have ok:=gz (M:=M) (gz (M:=M) (kY hcx M) ⟨_,Tryd.func86,rfl,rfl⟩ (yV hcx h65 h64)) ⟨_,Tryd.func85,rfl,rfl⟩ (X4 F)
 exact aaJ (hcx:=ok) (hnr:=hnr) (hn86:=fun xs h=> (kM _ _ (by decide) _ _).trans (Small.never _ _ xs h))
  (hq86:=fun suf T S u sh tag parts h1 h2 h3=> (kM _ _ (by decide) _ _).trans (rD hcx h65 h64 _ [] suf T S u sh tag parts OkH.nil h1 h2 h3))
  (hn85:=fun xs h=>Small.never _ _ xs h)
  (hq85:=fun suf l f S d T u sh a b h1 h2 h3 h4 h5 h6 h7 h8=>wR _ _ _ ⟨l,f,S,T,u,sh,d,a,b,h2,h3,h4,h5,h6,h7,h8⟩ True.intro [] suf OkH.nil h1)
  (h84:=h84) (h83:=h83) (l:=q.1.1) (f:=q.1.2.1) (S:=q.1.2.2.1) (T:=q.1.2.2.2.2.1) (u:=q.1.2.2.2.2.2.1) (sh:=q.1.2.2.2.2.2.2) (n:=q.1.2.2.2.1) (hl:=q.2.1) (hf:=q.2.2.1) (hS:=q.2.2.2.1) (hu:=q.2.2.2.2.1) (hT:=q.2.2.2.2.2.1) (hn:=q.2.2.2.2.2.2)
abbrev Ct (d:Nat) := {q:List ab×Nat×Nat×Nat×Nat // OkL q.1∧(q.2.1≤5000∧q.2.2.1≤5000)∧d≤12∧q.2.2.2.1< q.2.2.2.2∧q.2.2.2.2≤q.1.length∧q.2.2.2.2 - q.2.2.2.1≤2 ^ d}
def e92 (d:Nat) (q:Ct d) :List C:= [sl eC .no q.1.1,.val (nI q.1.2.1),.val (nI q.1.2.2.1),.val (nI q.1.2.2.2.1),.val (nI q.1.2.2.2.2)]
def Cu (d:Nat) (q:Ct d) :C:=sl dC (.own 16) (dA q.1.1 q.1.2.1 q.1.2.2.1 d q.1.2.2.2.1 q.1.2.2.2.2)
theorem n92 (d:Nat) (q:Ct d) :noRefs 0 (e92 d q) =true:=by
 simp only[e92,ay,aD,aM,aT,Bool.and_self]
theorem i92 (d:Nat) (x y:Ct d) (h:e92 d x=e92 d y) :Cu d x=Cu d y:=by
 simp only[e92,List.cons.injEq,C.val.injEq,C.kp.injEq,ca,cb,and_true] at h
 simp only[Cu,h]
theorem Ps (hcx:CxOK (aO gl M pu)) (hnr: ∀ (g:Nat) (xs:List C),noRefs 0 xs=false→pu g xs=none) (h65: ∀ (tag:Int) (parts:List (List UInt8)),(cL tag parts).length< 1099511627776→pu 65 [.val (.int .i64 tag),sl sC .no parts] =some (sl bC (.own 1) (cL tag parts))) (h64: ∀b:List UInt8,b.length< 35184372088832→pu 64 [sl bC .no b] =some (.agg (cl bC ((eR b).take 16)))) (h84: ∀h:List UInt8,h.length=16→pu 84 [.agg (cl bC h)] =some (.val (str h))) (h106: ∀n:Nat,n≤4611686018427387000→pu 106 [.val (nI n)] =some (.val (nI (aV n)))) : ∀ (d:Nat) (q:Ct d),FC Tryd.prog gl 92 (e92 d q) [] (Cu d q) []
 |d,⟨(l,f,e,a,b),hl,hf,hd,h1,h2,h3⟩ =>by
  by_cases hz:b≤f∨e≤a∨b - a≤1
  · have F: ∀q:A85,Cs gl q:=fun q=>FL hcx hnr h65 h64 h84 h106 q.d q rfl
    exact U5 (hcx:=gz (M:=M) (kY hcx M) ⟨_,Tryd.func85,rfl,rfl⟩ (X4 F)) (l:=l) (f:=f) (e:=e) (d:=d) (a:=a) (b:=b) (hl:=hl) (hf:=hf) (hd:=hd) (hab:= ⟨h1,h2,h3⟩) (hz:=hz) (hnr:=hnr) (hn85:=fun xs h=>Small.never _ _ xs h)
     (hq85:=fun pre suf l f S d T u sh a b h0 h1 h2 h3 h4 h5 h6 h7 h8=>wR _ _ _ ⟨l,f,S,T,u,sh,d,a,b,h2,h3,h4,h5,h6,h7,h8⟩ True.intro pre suf h0 h1)
  · cases d with
    |zero=>exact (hz (.inr (.inr h3))).elim
    |succ d=>
     have F:=Ps hcx hnr h65 h64 h84 h106 d
     have hcx':CxOK (aO gl M (Sx.ext pu 92 (ce (e92 d) (Cu d)))) :=bz (N:=M) hcx (n92 d) F
     have hcx2:=kY hcx' M
     exact U6 (hcx:=hcx2) (l:=l) (f:=f) (e:=e) (d:=d) (a:=a) (b:=b) (hl:=hl) (hf:=hf) (hd:=hd) (hab:= ⟨h1,h2,h3⟩)
      (h92:=fun a b hab=> (bM _).trans (bv (i92 d) ⟨(l,f,e,a,b),hl,hf,by omega,hab⟩)) (hz1:=by omega) (hz2:=by omega) (hz3:=by omega) (h106:=fun n h=> (aX (by decide) _).trans (h106 n h))
theorem YZ (hcx:CxOK (aO gl M pu)) (hnr: ∀ (g:Nat) (xs:List C),noRefs 0 xs=false→pu g xs=none) (h65: ∀ (tag:Int) (parts:List (List UInt8)),(cL tag parts).length< 1099511627776→pu 65 [.val (.int .i64 tag),sl sC .no parts] =some (sl bC (.own 1) (cL tag parts))) (h64: ∀b:List UInt8,b.length< 35184372088832→pu 64 [sl bC .no b] =some (.agg (cl bC ((eR b).take 16)))) (h84: ∀h:List UInt8,h.length=16→pu 84 [.agg (cl bC h)] =some (.val (str h))) (h106: ∀n:Nat,n≤4611686018427387000→pu 106 [.val (nI n)] =some (.val (nI (aV n)))) (l:List ab) (f e a b:Nat) (hl:OkL l) (hf:f≤5000∧e≤5000) (hab:a< b∧b≤l.length) :
 FC Tryd.prog gl 92 [sl eC .no l,.val (nI f),.val (nI e),.val (nI a),.val (nI b)] [] (sl dC (.own 16) (dA l f e 12 a b)) [] :=
 Ps hcx hnr h65 h64 h84 h106 12 ⟨(l,f,e,a,b),hl,hf,by decide,hab.1,hab.2,by have:=hl.1;show b - a≤4096;omega⟩
end
end Go.Sx
namespace Go.Sx
open Go.RowKit Go.Proofs
set_option maxRecDepth 100000
theorem bW {pu:Nat→List C→Option C} (hnr: ∀f xs,noRefs 0 xs=false→pu f xs=none) {α:Type} {enc:α→List C} {out:α→C} {f:Nat} (he: ∀a,noRefs 0 (enc a) =true) : ∀g xs,noRefs 0 xs=false→Sx.ext pu f (ce enc out) g xs=none:=fun g xs hr=>by
 by_cases hgf:g=f
 · subst hgf
   rw[bM]
   cases hq:ce enc out xs with
   |none=>rfl
   |some c=>
    obtain ⟨a,rfl,_⟩ :=nu hq
    rw[he a] at hr;cases hr
 · rw[aX hgf];exact hnr g xs hr
theorem cr {x y:ab} :eC x=eC y↔x=y:= ⟨fun h=>Inj.inj _ _ h,fun h=>by rw[h]⟩
theorem Cv {s t:S8} :s.l=t.l↔s=t:=by
 constructor
 · intro h
   obtain ⟨a,b,c,d,e,f,g,i⟩ :=s
   obtain ⟨a',b',c',d',e',f',g',i'⟩ :=t
   simpa[S8.l] using h
 · rintro rfl;rfl
theorem t7 {s s':S8} {b b':List UInt8} {n n':Nat} (hb:b.length=64) (hb':b'.length=64) (h:cl wC s.l++(cl bC b++[C.val (nU n)]) =cl wC s'.l++(cl bC b'++[C.val (nU n')])) :s=s'∧b=b'∧n=n':=by
 rw[zH (f:=wC) (by rw[d7,d7]),zH (f:=bC) (by rw[hb,hb'])] at h
 simp only[Cv,List.cons.injEq,C.val.injEq,co,and_true] at h
 exact h
theorem FM (s s':S8) (b b':List UInt8) (n n':Nat) (t t':List UInt8) (hb:b.length=64) (hb':b'.length=64)
 (h: [C.agg (cl wC s.l++(cl bC b++[C.val (nU n)])),C.val (str t)] = [C.agg (cl wC s'.l++(cl bC b'++[C.val (nU n')])),C.val (str t')]) :C.agg (dn ⟨s,b,n⟩ t).cells=C.agg (dn ⟨s',b',n'⟩ t').cells:=by
 simp only[List.cons.injEq,C.agg.injEq,C.val.injEq,b7,and_true] at h
 obtain ⟨rfl,rfl,rfl⟩ :=t7 hb hb' h.1
 rw[h.2]
theorem Ll (s s':S8) (b b':List UInt8) (n n':Nat) (hb:b.length=64) (hb':b'.length=64)
 (h: [C.agg (cl wC s.l++(cl bC b++[C.val (nU n)]))] = [C.agg (cl wC s'.l++(cl bC b'++[C.val (nU n')]))]) :C.agg (cl bC (md ⟨s,b,n⟩)) =C.agg (cl bC (md ⟨s',b',n'⟩)) :=by
 simp only[List.cons.injEq,C.agg.injEq,and_true] at h
 obtain ⟨rfl,rfl,rfl⟩ :=t7 hb hb' h
 rfl
section
variable {gl:Nat→C} {M:Nat} {pu:Nat→List C→Option C}
structure A91 where
 (l:List ab) (f e z:Nat) (lv:List ab) (S:List cf) (d a b:Nat)
 ok:OkL l∧(f≤5000∧e≤5000)∧S.length≤100000 - 2 ^ d∧d≤12∧a< b∧b≤l.length∧b - a≤2 ^ d
abbrev IN (gl:Nat→C) (q:A91) :Prop:=FC Tryd.prog gl 91 [.val (nI q.a),.val (nI q.b),.kp [.val (nI q.f)],.kp [.val (nI q.e)],.bp 0 0,.kp [sl eC .no q.l],dm 91 [.kp [.val (nI q.f)],.kp [.val (nI q.e)],.bp 0 0,.kp [sl eC .no q.l]] q.d] [some [.val (nI q.f),.val (nI q.z),sl eC .no q.lv,sl dC (.own 16) q.S]] (.tup []) [some [.val (nI q.f),.val (nI q.z),sl eC .no q.lv,sl dC (.own 16) (q.S++dA q.l q.f q.e q.d q.a q.b)]]
def Cw (W:A91→Prop) (fc: ∀q:A91,W q→IN gl q) :Small Tryd.prog gl 91 {q:A91 // W q} where
 k:=1
 j:=4
 args q:= [.val (nI q.1.a),.val (nI q.1.b),.kp [.val (nI q.1.f)],.kp [.val (nI q.1.e)],.bp 0 0,.kp [sl eC .no q.1.l],dm 91 [.kp [.val (nI q.1.f)],.kp [.val (nI q.1.e)],.bp 0 0,.kp [sl eC .no q.1.l]] q.1.d]
 X q:= [some [.val (nI q.1.f),.val (nI q.1.z),sl eC .no q.1.lv,sl dC (.own 16) q.1.S]]
 r q:= .tup []
 Y q:= [some [.val (nI q.1.f),.val (nI q.1.z),sl eC .no q.1.lv,sl dC (.own 16) (q.1.S++dA q.1.l q.1.f q.1.e q.1.d q.1.a q.1.b)]]
 k0:=by decide
 hk _:=rfl
 hy _:=rfl
 al q:=fun o h=>by rw[List.mem_singleton.1 h];rfl
 nr q:=by
  simp only[ay,aD,aM,bA,aT,Bool.and_true,Bool.true_and]
  rw[oI 1 91 _ (by simp only[ay,aD,aM,bA,aT,Bool.and_true,Bool.true_and];rfl)];rfl
 nx q:=wz _ _ _ _
 at0 q:= ⟨0,rfl⟩
 inj:=fun x y h1 h2=>by
  simp only[List.cons.injEq,Option.some.injEq,C.val.injEq,C.kp.injEq,ca,cb,and_true,true_and] at h1 h2
  have e:=oR h1.2.2.2.2.2
  simp only[h1,h2,e,and_self]
 fc q:=fc q.1 q.2
theorem Cy (W:A91→Prop) (fc: ∀q:A91,W q→IN gl q) (hp:Nat→List C→Hp→Option (C×Hp)) (q:A91) (hq:W q) (pre suf:Hp) (h0:OkH pre) (h1:OkH suf) :
 (Cw W fc).tab hp 91 [.val (nI q.a),.val (nI q.b),.kp [.val (nI q.f)],.kp [.val (nI q.e)],.bp pre.length 0,.kp [sl eC .no q.l],dm 91 [.kp [.val (nI q.f)],.kp [.val (nI q.e)],.bp pre.length 0,.kp [sl eC .no q.l]] q.d] (pre++([some [.val (nI q.f),.val (nI q.z),sl eC .no q.lv,sl dC (.own 16) q.S]]++suf)) =some (.tup [],pre++([some [.val (nI q.f),.val (nI q.z),sl eC .no q.lv,sl dC (.own 16) (q.S++dA q.l q.f q.e q.d q.a q.b)]]++suf)) :=by
 have h:=jz (Cw W fc) hp ⟨q,hq⟩ pre suf h0 h1
 simpa only[Cw,yl,List.length_nil,Nat.zero_add,Nat.add_zero,bkCs,c7,mZ,sX,jU,mY,Option.map_some,List.map_cons,List.map_nil,List.nil_append,List.cons_append] using h
theorem Pt (hcx:CxOK (aO gl M pu)) (hnr: ∀ (g:Nat) (xs:List C),noRefs 0 xs=false→pu g xs=none) (h51: ∀l:List ab,OkL l→0< l.length→pu 51 [sl eC .no l] =some (.agg (cl bC (jD l)))) (h81: ∀x y:Nat,x≤y∧y≤4611686018427387000→pu 81 [.val (nI x),.val (nI y)] =some (.val (nI (x+aV (y - x))))) : ∀ (d:Nat) (q:A91),q.d=d→IN gl q
 |0,⟨l,f,e,z,lv,S,d,a,b,hk⟩,hd=>by
  obtain rfl:d=0:=hd
  obtain ⟨k1,k2,k3,k4,k5⟩ :=hk
  exact IC (hcx:=kY hcx M) (l:=l) (f:=f) (e:=e) (z:=z) (lv:=lv) (S:=S) (d:=0) (a:=a) (b:=b) (hl:=k1) (hf:=k2) (hab:=k5) (hS:=k3) (hd:=k4) (hz:= .inr (.inr k5.2.2)) (hnr:=hnr) (h51:=h51)
 |d+1,⟨l,f,e,z,lv,S,d',a,b,hk⟩,hd=>by
  obtain rfl:d'=d+1:=hd
  obtain ⟨k1,k2,k3,k4,k5⟩ :=hk
  by_cases hz:b≤f∨e≤a∨b - a≤1
  · exact IC (hcx:=kY hcx M) (l:=l) (f:=f) (e:=e) (z:=z) (lv:=lv) (S:=S) (d:=d+1) (a:=a) (b:=b) (hl:=k1) (hf:=k2) (hab:=k5) (hS:=k3) (hd:=k4) (hz:=hz) (hnr:=hnr) (h51:=h51)
  · have F:=Pt hcx hnr h51 h81 d
    exact UL (hcx:=gz (M:=M) (kY hcx M) ⟨_,Tryd.func91,rfl,rfl⟩ (Cw (fun q=>q.d=d) F)) (l:=l) (f:=f) (e:=e) (z:=z) (lv:=lv) (S:=S) (d:=d) (a:=a) (b:=b) (hl:=k1) (hf:=k2) (hab:=k5) (hS:=k3) (hd:=k4)
     (hq91:=fun S a b h1 h2=>by
       have h:=Cy (fun q=>q.d=d) F (fun _ _ _=>none) ⟨l,f,e,z,lv,S,d,a,b,k1,k2,h1,by omega,h2⟩ rfl [] [] OkH.nil OkH.nil
       simpa only[List.length_nil,List.nil_append,List.append_nil] using h)
     (hz1:=by omega) (hz2:=by omega) (hz3:=by omega) (hnr:=hnr) (hn91:=fun xs h=>Small.never _ _ xs h) (h81:=h81)
theorem U9 (hcx:CxOK (aO gl M pu)) (hnr: ∀ (g:Nat) (xs:List C),noRefs 0 xs=false→pu g xs=none) (h63: ∀l:List ab,l.length≤1000000→pu 63 [sl eC .no l] =some (sl eC (.own 2) l)) (h51: ∀l:List ab,OkL l→0< l.length→pu 51 [sl eC .no l] =some (.agg (cl bC (jD l)))) (h81: ∀x y:Nat,x≤y∧y≤4611686018427387000→pu 81 [.val (nI x),.val (nI y)] =some (.val (nI (x+aV (y - x))))) (l:List ab) (f e:Nat) (hl:OkL l) (hfe:f≤e∧e≤l.length) :
 FC Tryd.prog gl 57 [sl eC .no l,.val (nI f),.val (nI e)] [] (.agg [.val (nI f),.val (nI l.length),sl eC .no ((l.drop f).take (e - f)),sl dC .no (c9 l f e)]) [] :=by
 have F: ∀q:A91,True→IN gl q:=fun q _=>Pt hcx hnr h51 h81 q.d q rfl
 exact YE (hcx:=gz (M:=M) (kY hcx M) ⟨_,Tryd.func91,rfl,rfl⟩ (Cw (fun _=>True) F)) (hnr:=hnr) (h63:=h63) (hn91:=fun xs h=>Small.never _ _ xs h)
  (hq91:=fun pre suf l f e z lv S d a b h0 h1 h2 h3 h4 h5 h6=>Cy _ F _ ⟨l,f,e,z,lv,S,d,a,b,h2,h3,h4,h5,h6⟩ True.intro pre suf h0 h1) (l:=l) (f:=f) (e:=e) (hl:=hl) (hfe:=hfe)
structure A93 where
 (l:List ab) (f z:Nat) (S0:List cf) (st:US) (d a b:Nat)
 ok:OkL l∧f≤5000∧st.2.length≤1000000∧a< b∧b≤5000∧b - a≤2 ^ d
abbrev IP (gl:Nat→C) (q:A93) :Prop:=FC Tryd.prog gl 93 [.val (nI q.a),.val (nI q.b),.bp 0 0,.kp [.val (nI q.f),.val (nI q.z),sl eC .no q.l,sl dC .no q.S0],.kp [.val (nI (q.f+q.l.length))],.bp 1 0,dm 93 [.bp 0 0,.kp [.val (nI q.f),.val (nI q.z),sl eC .no q.l,sl dC .no q.S0],.kp [.val (nI (q.f+q.l.length))],.bp 1 0] q.d] [some [.val (.bool q.st.1)],some [sl dC .no q.st.2]] (.agg (cl bC (dz q.l q.f q.d q.a q.b q.st).1)) [some [.val (.bool (dz q.l q.f q.d q.a q.b q.st).2.1)],some [sl dC .no (dz q.l q.f q.d q.a q.b q.st).2.2]]
def Cz (W:A93→Prop) (fc: ∀q:A93,W q→IP gl q) :Small Tryd.prog gl 93 {q:A93 // W q} where
 k:=2
 j:=2
 args q:= [.val (nI q.1.a),.val (nI q.1.b),.bp 0 0,.kp [.val (nI q.1.f),.val (nI q.1.z),sl eC .no q.1.l,sl dC .no q.1.S0],.kp [.val (nI (q.1.f+q.1.l.length))],.bp 1 0,dm 93 [.bp 0 0,.kp [.val (nI q.1.f),.val (nI q.1.z),sl eC .no q.1.l,sl dC .no q.1.S0],.kp [.val (nI (q.1.f+q.1.l.length))],.bp 1 0] q.1.d]
 X q:= [some [.val (.bool q.1.st.1)],some [sl dC .no q.1.st.2]]
 r q:= .agg (cl bC (dz q.1.l q.1.f q.1.d q.1.a q.1.b q.1.st).1)
 Y q:= [some [.val (.bool (dz q.1.l q.1.f q.1.d q.1.a q.1.b q.1.st).2.1)],some [sl dC .no (dz q.1.l q.1.f q.1.d q.1.a q.1.b q.1.st).2.2]]
 k0:=by decide
 hk _:=rfl
 hy _:=rfl
 al q:=fun o h=>by
  rcases List.mem_cons.1 h with h|h
  · rw[h];rfl
  · rw[List.mem_singleton.1 h];rfl
 nr q:=by
  simp only[ay,aD,aM,bA,aT,Bool.and_true,Bool.true_and]
  rw[oI 2 93 _ (by simp only[ay,aD,aM,bA,aT,Bool.and_true,Bool.true_and];rfl)];rfl
 nx q:=wJ _ _
 at0 q:= ⟨0,rfl⟩
 inj:=fun x y h1 h2=>by
  simp only[List.cons.injEq,Option.some.injEq,C.val.injEq,C.kp.injEq,Value.bool.injEq,ca,cb,and_true,true_and] at h1 h2
  have e:=oR h1.2.2.2.2
  have e2:x.1.st=y.1.st:=Prod.ext h2.1 h2.2
  simp only[h1,e2,e,and_self]
 fc q:=fc q.1 q.2
theorem CA (W:A93→Prop) (fc: ∀q:A93,W q→IP gl q) (hp:Nat→List C→Hp→Option (C×Hp)) (q:A93) (hq:W q) (suf:Hp) (h1:OkH suf) :
 (Cz W fc).tab hp 93 [.val (nI q.a),.val (nI q.b),.bp 0 0,.kp [.val (nI q.f),.val (nI q.z),sl eC .no q.l,sl dC .no q.S0],.kp [.val (nI (q.f+q.l.length))],.bp 1 0,dm 93 [.bp 0 0,.kp [.val (nI q.f),.val (nI q.z),sl eC .no q.l,sl dC .no q.S0],.kp [.val (nI (q.f+q.l.length))],.bp 1 0] q.d] ([some [.val (.bool q.st.1)],some [sl dC .no q.st.2]]++suf) =some (.agg (cl bC (dz q.l q.f q.d q.a q.b q.st).1),[some [.val (.bool (dz q.l q.f q.d q.a q.b q.st).2.1)],some [sl dC .no (dz q.l q.f q.d q.a q.b q.st).2.2]]++suf) :=by
 have h:=jz (Cz W fc) hp ⟨q,hq⟩ [] suf OkH.nil h1
 simpa only[Cz,yl,List.length_nil,Nat.zero_add,Nat.add_zero,bkCs,c7,mZ,sX,jU,mY,Option.map_some,List.map_cons,List.map_nil,List.nil_append,List.cons_append] using h
theorem Pu (hcx:CxOK (aO gl M pu)) (hnr: ∀ (g:Nat) (xs:List C),noRefs 0 xs=false→pu g xs=none) (h80: ∀x:ab,x.1.length≤65536∧x.2.length≤65536→pu 80 [.agg (eC x)] =some (.agg (cl bC (fV x)))) (h81: ∀x y:Nat,x≤y∧y≤4611686018427387000→pu 81 [.val (nI x),.val (nI y)] =some (.val (nI (x+aV (y - x))))) (h82: ∀a b:List UInt8,a.length=16→b.length=16→pu 82 [.agg (cl bC a),.agg (cl bC b)] =some (.agg (cl bC (iI a b)))) : ∀ (d:Nat) (q:A93),q.d=d→IP gl q
 |0,⟨l,f,z,S0,st,d,a,b,hk⟩,hd=>by
  obtain rfl:d=0:=hd
  obtain ⟨k1,k2,k3,k4⟩ :=hk
  exact IH (hcx:=kY hcx M) (l:=l) (f:=f) (z:=z) (S0:=S0) (st:=st) (d:=0) (a:=a) (b:=b) (hl:=k1) (hf:=k2) (hS:=k3) (hab:=k4) (hz:= .inr (.inr (.inr k4.2.2))) (hnr:=hnr) (h80:=h80)
 |d+1,⟨l,f,z,S0,st,d',a,b,hk⟩,hd=>by
  obtain rfl:d'=d+1:=hd
  obtain ⟨k1,k2,k3,k4⟩ :=hk
  by_cases hz:st.1=false∨b≤f∨f+l.length≤a∨b - a≤1
  · exact IH (hcx:=kY hcx M) (l:=l) (f:=f) (z:=z) (S0:=S0) (st:=st) (d:=d+1) (a:=a) (b:=b) (hl:=k1) (hf:=k2) (hS:=k3) (hab:=k4) (hz:=hz) (hnr:=hnr) (h80:=h80)
  · have F:=Pu hcx hnr h80 h81 h82 d
    have hst:st.1=true:=by
     cases h:st.1 with
     |true=>rfl
     |false=>exact (hz (.inl h)).elim
    exact UM (hcx:=gz (M:=M) (kY hcx M) ⟨_,Tryd.func93,rfl,rfl⟩ (Cz (fun q=>q.d=d) F)) (l:=l) (f:=f) (z:=z) (S0:=S0) (st:=st) (d:=d) (a:=a) (b:=b) (hl:=k1) (hf:=k2) (hS:=k3) (hab:=k4)
     (hq93:=fun suf st a b h1 h2 h3=>CA (fun q=>q.d=d) F _ ⟨l,f,z,S0,st,d,a,b,k1,k2,h2,h3⟩ rfl suf h1)
     (hz0:=hst) (hz1:=by omega) (hz2:=by omega) (hz3:=by omega) (hnr:=hnr) (h81:=h81) (h82:=h82)
theorem Va (hcx:CxOK (aO gl M pu)) (hnr: ∀ (g:Nat) (xs:List C),noRefs 0 xs=false→pu g xs=none) (h15: ∀l:List ab,LB l→pu 15 [sl eC .no l] =some (.val (nI (cW l)))) (h50: ∀ (n:Nat) (d:List UInt8),n≤4096→d.length=16→pu 50 [.val (nI n),.agg (cl bC d)] =some (.agg (cl bC (gB n d)))) (h80: ∀x:ab,x.1.length≤65536∧x.2.length≤65536→pu 80 [.agg (eC x)] =some (.agg (cl bC (fV x)))) (h81: ∀x y:Nat,x≤y∧y≤4611686018427387000→pu 81 [.val (nI x),.val (nI y)] =some (.val (nI (x+aV (y - x))))) (h82: ∀a b:List UInt8,a.length=16→b.length=16→pu 82 [.agg (cl bC a),.agg (cl bC b)] =some (.agg (cl bC (iI a b))))
 (r:List UInt8) (f z:Int) (l:List ab) (S:List cf) (hr:r.length=16) (hf: -9223372036854775808≤f∧f≤9223372036854775807) (hz: -9223372036854775808≤z∧z≤9223372036854775807) (hl:LB l) (hS:S.length≤1000000) :
 FC Tryd.prog gl 61 [.agg [.val (.int .i64 f),.val (.int .i64 z),sl eC .no l,sl dC .no S],.agg (cl bC r)] [] (.val (.bool (dZ r f z l S))) [] :=by
 have F: ∀q:A93,True→IP gl q:=fun q _=>Pu hcx hnr h80 h81 h82 q.d q rfl
 exact YH (hcx:=gz (M:=M) (kY hcx M) ⟨_,Tryd.func93,rfl,rfl⟩ (Cz (fun _=>True) F)) (hnr:=hnr) (h15:=h15) (h50:=h50)
  (hq93:=fun suf l f z S0 st d a b h1 h2 h3 h4 h5=>CA _ F _ ⟨l,f,z,S0,st,d,a,b,h2,h3,h4,h5⟩ True.intro suf h1) (r:=r) (f:=f) (z:=z) (l:=l) (S:=S) (hr:=hr) (hf:=hf) (hz:=hz) (hl:=hl) (hS:=hS)
theorem Y0 (hcx:CxOK (aO gl M pu)) (l:List ab) (hl:l.length≤1000000) :FC Tryd.prog gl 63 [sl eC .no l] [] (sl eC (.own 2) l) [] :=by
 by_cases h:l= []
 · subst h
   refine Iu (pre:= []) (post:= []) ⟨_,Tryd.func63,rfl,rfl⟩ fun a cap hc=> ?_
   cases a with
   |none=>exact UJ hcx cap hc
   |some x=>exact UK hcx x cap hc
 · exact UI hcx l hl h
theorem bB (k f:Nat) (xs:List C) :aG k (.fn f xs) =noRefs k xs:=rfl
theorem bJ (k:Nat) (x:ab) :noRefs k (eC x) =true:=rfl
theorem bK (k:Nat) (l:List ab) (d:Nat) :aG k (dm 79 [.kp [sl eC .no l]] d) =true:=oI k 79 _ (by simp only[ay,aD,bA,aT,Bool.and_self]) d
theorem Vb (hcx:CxOK (aO gl M pu)) (a b:List UInt8) :FC Tryd.prog gl 90 [.val (str a),.val (str b)] [] (.val (.int .i64 (fL a b))) [] :=YD a b
theorem Y1 (hcx:CxOK (aO gl M pu)) (n:Int) (hn: -9223372036854775808≤n∧n≤9223372036854775807) :FC Tryd.prog gl 39 [.val (.int .i64 n)] [] (sl bC (.own 1) (cX n)) [] :=by
 by_cases h:0≤n
 · obtain ⟨m,rfl⟩ : ∃m:Nat,n= (m:Int) := ⟨n.toNat,by omega⟩
   rw[ik];exact WZ hcx m (by omega)
 · obtain ⟨m,rfl⟩ : ∃m:Nat,n= -1 - (m:Int) := ⟨(-1 - n).toNat,by omega⟩
   rw[m9 _ (fm 8 m (by omega))];exact W0 hcx m (by omega)
theorem Y2 (hcx:CxOK (aO gl M pu)) (n:Int) (hn: -9223372036854775808≤n∧n≤9223372036854775807) :FC Tryd.prog gl 83 [.val (.int .i64 n)] [] (sl bC (.own 1) (cX n)) [] :=by
 by_cases h:0≤n
 · obtain ⟨m,rfl⟩ : ∃m:Nat,n= (m:Int) := ⟨n.toNat,by omega⟩
   rw[ik];exact W4 hcx m (by omega)
 · obtain ⟨m,rfl⟩ : ∃m:Nat,n= -1 - (m:Int) := ⟨(-1 - n).toNat,by omega⟩
   rw[m9 _ (fm 8 m (by omega))];exact W5 hcx m (by omega)
end
end Go.Sx
namespace Go.Sx
open Go.RowKit Go.Proofs
set_option maxRecDepth 100000
set_option maxHeartbeats 8000000
def FN (d:cf) (i:Nat) (x:UInt8) :cf:= ⟨d.1.set i x,by rw[List.length_set];exact d.2⟩
abbrev Pw (d:cf) (i:Nat) :cf:=FN d i (gt d.1 i ^^^ UInt8.ofNat 1)
abbrev zZ:cf:= ⟨(List.replicate 16 0).set 0 (UInt8.ofNat 1),by simp⟩
theorem CC (x:List C) (h:Hp) :SJ (some x) h= (5,h.length) :=rfl
theorem CD {P:Program} {t:TypeId} (x:Int) (y:Nat) :aW P .add t (.val (.int .i64 x)) (.val (nI y)) =some (vp (.val (.int .i64 (IntKind.i64.wrap (x+((y:Nat) :Int)))))) :=by
 simp only[nI,cE,cY,ne_eq,not_true_eq_false,if_false,Option.map_some]
theorem CE {P:Program} {t:TypeId} (x:Int) (y:Nat) :aW P .sub t (.val (.int .i64 x)) (.val (nI y)) =some (vp (.val (.int .i64 (IntKind.i64.wrap (x - ((y:Nat) :Int)))))) :=by
 simp only[nI,cE,cY,ne_eq,not_true_eq_false,if_false,Option.map_some]
theorem iK (l:List ab) (y:Nat) :jQ (cl eC l) l.length (2,y) =sl eC .no l:=jR eC y l _ rfl
theorem iL (l:List ab) (k:Nat) (x:ab) (y:Nat) :jQ (cl eC (l.set k x)) l.length (2,y) =sl eC .no (l.set k x) :=jR eC y _ _ (by simp)
theorem iM (l:List ab) (x:ab) (y:Nat) :jQ (cl eC (l++[x])) (l.length+1) (2,y) =sl eC .no (l++[x]) :=jR eC y _ _ (by simp)
theorem iN (l:List cf) (y:Nat) :jQ (cl dC l) l.length (16,y) =sl dC .no l:=jR dC y l _ rfl
theorem iO (l:List cf) (k:Nat) (x:cf) (y:Nat) :jQ (cl dC (l.set k x)) l.length (16,y) =sl dC .no (l.set k x) :=jR dC y _ _ (by simp)
theorem iP (l:List cf) (x:cf) (y:Nat) :jQ (cl dC (l++[x])) (l.length+1) (16,y) =sl dC .no (l++[x]) :=jR dC y _ _ (by simp)
theorem yZ {α:Type} {l:List α} {k:Nat} (h:k< l.length) :l.length - 1= (l.take k++l.drop (k+1)).length:=by rw[List.length_append,List.length_take,List.length_drop];omega
theorem Px {α:Type} (f:α→List C) {s:Nat} [hf:Cel f s] {l:List α} {k:Nat} (h:k< l.length) (y:Nat) :jQ (cl f (l.take k++l.drop (k+1))) (l.length - 1) (s,y) =sl f .no (l.take k++l.drop (k+1)) :=jR f y _ _ (yZ h)
theorem Py {α:Type} (f:α→List C) {s:Nat} [hf:Cel f s] {l:List α} {k:Nat} (h:k< l.length) (y:Nat) :jQ (cl f (l.take k++l.drop (k+1)++l.drop (l.length - 1))) (l.length - 1) (s,y) =sl f .no (l.take k++l.drop (k+1)) :=by
 have e:=yZ h
 have hl:=cp (f:=f) (l.take k++l.drop (k+1))
 have hl2:=cp (f:=f) (l.take k++l.drop (k+1)++l.drop (l.length - 1))
 have hl3: (l.take k++l.drop (k+1)++l.drop (l.length - 1)).length= (l.take k++l.drop (k+1)).length+(l.drop (l.length - 1)).length:=List.length_append
 rw[hl3,Nat.add_mul] at hl2
 unfold jQ
 simp only[]
 rw[if_pos (by rw[hl2,e];omega),iW,List.take_append_of_le_length (by rw[hl,e];exact Nat.le_refl _),List.take_of_length_le (by rw[hl,e];exact Nat.le_refl _),e];rfl
theorem wT {α:Type} (f:α→List C) {s:Nat} [hf:Cel f s] (y:Nat) (z:List Value) (k:Nat) (l:List α) (h:z.length=s∧z.all (·.oneCell') =true∧k< l.length∧l.length≤1000000∧y≤1000) :
 Fz s y z k ((k+1)*s) (l.length - (k+1)) (some (cl f l)) =some (cl f (l.drop (k+1))) :=by
 obtain ⟨h1,h2,h3,h4,h5⟩ :=h
 have hl:=cp (f:=f) l
 have hd:=cp (f:=f) (l.drop (k+1))
 rw[List.length_drop] at hd
 have e0: (k+1)*s+(l.length - (k+1))*s=l.length*s:=by rw[←Nat.add_mul];congr 1;omega
 have e: ((List.drop ((k+1)*s) (cl f l)).take ((l.length - (k+1))*s)).map C.noR=cl f (l.drop (k+1)) :=by
  rw[gy,List.take_of_length_le (by omega),fI]
 have hb: (k+(l.length - (k+1)))*y≤1000000*1000:=Nat.mul_le_mul (by omega) h5
 unfold Fz
 simp only[Option.bind_some]
 rw[e,if_pos ⟨by omega,by simp only[decide_eq_true_eq];exact ⟨hd,hf.pos,h1,by omega,by omega,h2⟩⟩]
theorem IQ (j:Nat) (S:List cf) (h:j< S.length∧S.length≤1000000) :Fz 16 16 (List.replicate 16 (w8 (UInt8.ofNat 0))) j ((j+1)*16) (S.length - (j+1)) (some (cl dC S)) =some (cl dC (S.drop (j+1))) :=wT dC 16 _ j S ⟨rfl,rfl,h.1,h.2,by omega⟩
theorem IR (k:Nat) (l:List ab) (h:k< l.length∧l.length≤1000000) :Fz 2 32 [str [],str []] k ((k+1)*2) (l.length - (k+1)) (some (cl eC l)) =some (cl eC (l.drop (k+1))) :=wT eC 32 _ k l ⟨rfl,rfl,h.1,h.2,by omega⟩
section
variable (cx:Cx) (apps:List Nat) (dsts:List (Option Nat)) (l:List Oper) (id':Nat) (d:Option Nat) (e:List (Nat×C)) (h:Hp) (fs:List FP) (K:List FP→St→Prop)
theorem CF {α:Type} (f:α→List C) {s:Nat} [hf:Cel f s] (e' b k:Nat) (xs:List α) (hk:k< xs.length∧(k≠0∨xs.length=1)) :
 nG cx apps dsts l id' d e h fs K b k (s,e') (xs.length - (k+1)) (cl f (xs.drop (k+1))) (some (cl f xs)) =run cx apps dsts l id' (fK d (.gv b (xs.length - 1) (s,e')) e) (h.set b (some (cl f (xs.take k++xs.drop (k+1)++xs.drop (xs.length - 1))))) ((4,0) ::fs) K:=by
 have hl:=cp (f:=f) xs
 have hd:=cp (f:=f) (xs.drop (k+1))
 rw[List.length_drop] at hd
 unfold nG
 simp only[]
 rw[if_pos ⟨by rw[hl];exact Nat.mul_le_mul_right s (by omega),by omega⟩,show k+(xs.length - (k+1)) =xs.length - 1 by omega,fI]
 have e1:splice (cl f xs) (k*s) (cl f (xs.drop (k+1))) =cl f (xs.take k++xs.drop (k+1)++xs.drop (xs.length - 1)) :=by
  unfold splice
  rw[hd,←Nat.add_mul,show k+(xs.length - (k+1)) =xs.length - 1 by omega,gy,je,iW,iW]
 rw[e1]
theorem CG {α:Type} (f:α→List C) {s:Nat} [hf:Cel f s] (e' b k:Nat) (xs:List α) (hk:k=0∧1< xs.length) :
 nG cx apps dsts l id' d e h fs K b k (s,e') (xs.length - (k+1)) (cl f (xs.drop (k+1))) (some (cl f xs)) =run cx apps dsts l id' (fK d (.gv h.length (xs.length - 1) (s,e')) e) (h.set b (some eL)++[some (cl f (xs.take k++xs.drop (k+1)))]) ((4,0) ::fs) K:=by
 obtain ⟨rfl,h1⟩ :=hk
 have hl:=cp (f:=f) xs
 have hp:=hf.pos
 have hm:s≤xs.length*s:=by
  have:=Nat.mul_le_mul_right s (show 1≤xs.length by omega)
  omega
 unfold nG
 simp only[]
 rw[if_neg (by omega),if_neg (by rw[hl];omega),if_pos True.intro,fI,Nat.zero_add,List.take_zero,List.nil_append]
end
theorem Pz {y:Int} (h: -9223372036854775808≤y∧y≤9223372036854775807) : -9223372036854775808≤y.tdiv ((8:Nat) :Int)∧y.tdiv ((8:Nat) :Int)≤9223372036854775807:=by
 have h1:=Int.natAbs_tdiv y ((8:Nat) :Int)
 have h2:y.natAbs.div (((8:Nat) :Int)).natAbs≤y.natAbs:=Nat.div_le_self _ _
 have h3:y.natAbs.div (((8:Nat) :Int)).natAbs=y.natAbs / 8:=rfl
 omega
theorem CH {α:Type} [Inhabited α] {f:α→List C} {s:Nat} [hf:Cel f s] (l:List α) (k i:Nat) (cs:List C) (a':α) (hk:k< l.length) (hi:i+cs.length≤s) (h:splice (f (gt l k)) i cs=f a') :splice (cl f l) (k*s+i) cs=cl f (l.set k a') :=by
 have e:l=l.take k++gt l k::l.drop (k+1) :=by
  have e1:gt l k=l[k] :=by simp[gt,List.getD,List.getElem?_eq_getElem hk]
  rw[e1,List.getElem_cons_drop,List.take_append_drop]
 have hs:l.set k a'=l.take k++a'::l.drop (k+1) :=by rw[List.set_eq_take_append_cons_drop,if_pos hk]
 have hP: (cl f (l.take k)).length=k*s:=by rw[cp (f:=f),List.length_take,Nat.min_eq_left (by omega)]
 have hQ: (f (gt l k)).length=s:=hf.len _
 rw[hs,iW,ef,←h]
 conv=>lhs;rw[e]
 rw[iW,ef]
 generalize cl f (l.take k) =P at*
 generalize f (gt l k) =Q at*
 generalize cl f (l.drop (k+1)) =R
 unfold splice
 rw[List.take_append,List.drop_append,List.take_of_length_le (by omega),hP,Nat.add_sub_cancel_left,List.drop_of_length_le (l:=P) (by omega),show k*s+i+cs.length - k*s=i+cs.length by omega,
  List.take_append_of_le_length (by omega),List.drop_append_of_le_length (by omega)]
 simp only[List.append_assoc,List.nil_append]
theorem wU {α:Type} [Inhabited α] {f:α→List C} {s:Nat} [hf:Cel f s] (l:List α) (k i:Nat) (c:C) (a':α) (hk:k< l.length) (hi:i< s) (h:splice (f (gt l k)) i [c] =f a') :fo (cl f l) (k*s+i) [c] =some (cl f (l.set k a'),.val undef) :=by
 unfold fo
 have:=Nat.mul_le_mul_right s (show k+1≤l.length by omega)
 rw[Nat.add_mul] at this
 rw[if_pos (by rw[cp (f:=f)];simp only[List.length_singleton];omega),CH l k i [c] a' hk (by simp only[List.length_singleton];omega) h]
theorem Lp (y:Int) :fb 4 (cl iC ((List.map Int.ofNat (List.replicate 4 0)).set 0 y)) [(1,.val (nI 4096)),(2,.val (nI 4097)),(3,.val (.int .i64 (-1)))] =some (vp (sl iC .full [y,4096,4097,-1])) :=rfl
theorem IS {α:Type} [Inhabited α] {l:List α} {i:Nat} (h:i< l.length) :gt l i=l[i] :=by simp[gt,List.getD,List.getElem?_eq_getElem h]
theorem PA (S:List cf) (j i:Nat) (hj:j< S.length) (hi:i< 16) :eK (cl dC S) (j*16+i) =some (.val (w8 (gt (gt S j).1 i))) :=by
 have e:gt S j=S[j] :=by simp[gt,List.getD,List.getElem?_eq_getElem hj]
 have e2: (gt S j).1.length=16:= (gt S j).2
 have e3:gt (gt S j).1 i= (gt S j).1[i] :=IS (by omega)
 unfold eK
 rw[mQ (f:=dC) S j i hi,List.getElem?_eq_getElem hj,←e]
 show ((cl bC (gt S j).1)[i]?).map C.noR=_
 have h1:=mQ (f:=bC) (gt S j).1 i 0 (by decide)
 rw[Nat.mul_one,Nat.add_zero] at h1
 rw[h1,List.getElem?_eq_getElem (by omega),e3];rfl
theorem PC (S:List cf) (j i:Nat) (x:UInt8) (hj:j< S.length) (hi:i< 16) :fo (cl dC S) (j*16+i) [.val (w8 x)] =some (cl dC (S.set j (FN (gt S j) i x)),.val undef) :=
 wU (f:=dC) S j i _ _ hj hi (by
  have e2: (gt S j).1.length=16:= (gt S j).2
  have h1:=lN (f:=bC) (gt S j).1 i x (by omega)
  rw[Nat.mul_one] at h1
  exact h1)
theorem PD (l:List ab) (k:Nat) (x:List UInt8) (h:k< l.length) :fo (cl eC l) (k*2) [.val (str x)] =some (cl eC (l.set k (x,(gt l k).2)),.val undef) :=wU (f:=eC) l k 0 _ (x,(gt l k).2) h (by decide) rfl
theorem PE (l:List ab) (k:Nat) (x:List UInt8) (h:k< l.length) :fo (cl eC l) (k*2+1) [.val (str x)] =some (cl eC (l.set k ((gt l k).1,x)),.val undef) :=wU (f:=eC) l k 1 _ ((gt l k).1,x) h (by decide) rfl
abbrev l8 (x:Int) :Int:=IntKind.i64.wrap x
abbrev lS:=Int×Int×List ab×List cf
def cQ (p:lS) (w y:Int) :lS:=
 match bF w 11 with
 |0=> (l8 (l8 (p.1+((bF y 5:Nat) :Int)) - ((2:Nat) :Int)),p.2)
 |1=> (p.1,l8 (l8 (p.2.1+((bF y 5:Nat) :Int)) - ((2:Nat) :Int)),p.2.2)
 |2=> (p.1,gt [y,4096,4097,-1] (bF y 4),p.2.2)
 |3=> (y,p.2)
 |4=> (p.1,p.2.1,if 0< p.2.2.1.length then p.2.2.1.set (bF y (max p.2.2.1.length 1)) (eO (bF y 40),(gt p.2.2.1 (bF y (max p.2.2.1.length 1))).2) else p.2.2.1,p.2.2.2)
 |5=> (p.1,p.2.1,if 0< p.2.2.1.length then p.2.2.1.set (bF y (max p.2.2.1.length 1)) ((gt p.2.2.1 (bF y (max p.2.2.1.length 1))).1,(gt p.2.2.1 (bF y (max p.2.2.1.length 1))).2++[120]) else p.2.2.1,p.2.2.2)
 |6=> (p.1,p.2.1,if 0< p.2.2.1.length then p.2.2.1.take (bF y (max p.2.2.1.length 1))++p.2.2.1.drop (bF y (max p.2.2.1.length 1)+1) else p.2.2.1,p.2.2.2)
 |7=> (p.1,p.2.1,p.2.2.1++[(eO (bF y 40),[])],p.2.2.2)
 |8=> (p.1,p.2.1,p.2.2.1,if 0< p.2.2.2.length then p.2.2.2.set (bF y (max p.2.2.2.length 1)) (Pw (gt p.2.2.2 (bF y (max p.2.2.2.length 1))) (bF (y.tdiv ((8:Nat) :Int)) 16)) else p.2.2.2)
 |9=> (p.1,p.2.1,p.2.2.1,if 0< p.2.2.2.length then p.2.2.2.take (bF y (max p.2.2.2.length 1))++p.2.2.2.drop (bF y (max p.2.2.2.length 1)+1) else p.2.2.2)
 |_=> (p.1,p.2.1,p.2.2.1,p.2.2.2++[zZ])
section
variable {f z w y:Int} {l:List ab} {S:List cf}
theorem CI (h:bF w 11=0) :cQ (f,z,l,S) w y= (l8 (l8 (f+((bF y 5:Nat) :Int)) - ((2:Nat) :Int)),z,l,S) :=by unfold cQ;rw[h];rfl
theorem CJ (h:bF w 11=1) :cQ (f,z,l,S) w y= (f,l8 (l8 (z+((bF y 5:Nat) :Int)) - ((2:Nat) :Int)),l,S) :=by unfold cQ;rw[h];rfl
theorem CK (h:bF w 11=2) :cQ (f,z,l,S) w y= (f,gt [y,4096,4097,-1] (bF y 4),l,S) :=by unfold cQ;rw[h];rfl
theorem CL (h:bF w 11=3) :cQ (f,z,l,S) w y= (y,z,l,S) :=by unfold cQ;rw[h];rfl
theorem CM {k:Nat} (hk:bF y (max l.length 1) =k) (h:bF w 11=4) (h0:0< l.length) :cQ (f,z,l,S) w y= (f,z,l.set k (eO (bF y 40),(gt l k).2),S) :=by unfold cQ;rw[h,←hk];exact congrArg (fun q=> (f,z,q,S)) (if_pos h0)
theorem CN {k:Nat} (hk:bF y (max l.length 1) =k) (h:bF w 11=5) (h0:0< l.length) :cQ (f,z,l,S) w y= (f,z,l.set k ((gt l k).1,(gt l k).2++[120]),S) :=by unfold cQ;rw[h,←hk];exact congrArg (fun q=> (f,z,q,S)) (if_pos h0)
theorem CO {k:Nat} (hk:bF y (max l.length 1) =k) (h:bF w 11=6) (h0:0< l.length) :cQ (f,z,l,S) w y= (f,z,l.take k++l.drop (k+1),S) :=by unfold cQ;rw[h,←hk];exact congrArg (fun q=> (f,z,q,S)) (if_pos h0)
theorem mw (h:bF w 11=4∨bF w 11=5∨bF w 11=6) (h0: ¬0< l.length) :cQ (f,z,l,S) w y= (f,z,l,S) :=by
 unfold cQ
 rcases h with h|h|h<;> (rw[h];exact congrArg (fun q=> (f,z,q,S)) (if_neg h0))
theorem CP (h:bF w 11=7) :cQ (f,z,l,S) w y= (f,z,l++[(eO (bF y 40),[])],S) :=by unfold cQ;rw[h];rfl
theorem CQ {j:Nat} (hj:bF y (max S.length 1) =j) (h:bF w 11=8) (h0:0< S.length) :cQ (f,z,l,S) w y= (f,z,l,S.set j (Pw (gt S j) (bF (y.tdiv ((8:Nat) :Int)) 16))) :=by unfold cQ;rw[h,←hj];exact congrArg (fun q=> (f,z,l,q)) (if_pos h0)
theorem CR {j:Nat} (hj:bF y (max S.length 1) =j) (h:bF w 11=9) (h0:0< S.length) :cQ (f,z,l,S) w y= (f,z,l,S.take j++S.drop (j+1)) :=by unfold cQ;rw[h,←hj];exact congrArg (fun q=> (f,z,l,q)) (if_pos h0)
theorem rE (h:bF w 11=8∨bF w 11=9) (h0: ¬0< S.length) :cQ (f,z,l,S) w y= (f,z,l,S) :=by
 unfold cQ
 rcases h with h|h<;> (rw[h];exact congrArg (fun q=> (f,z,l,q)) (if_neg h0))
theorem y0 (h:bF w 11=10) :cQ (f,z,l,S) w y= (f,z,l,S++[zZ]) :=by unfold cQ;rw[h];rfl
end
theorem cS {p:Prop} (e:p:=by intro KZ hZ;simp -implicitDefEqProofs (maxSteps:=2000000) (disch:=first|omega| (simp only[go_sem,lA,lD,lT,] <;>omega) |decide) only[go_sem,↓reduceIte,Nat.reduceEqDiff,reduceCtorEq,Nat.reduceLT,Nat.reduceBEq,Nat.reduceAdd,eq_self,decide_true,decide_false,not_true_eq_false,not_false_eq_true,e17a,e17b,e17w,List.length_cons,List.length_nil,q1,q2,hy];with_reducible exact hZ) :p:=e
theorem hV {p:Prop} (e:p:=by intro KZ hZ;simp -implicitDefEqProofs (maxSteps:=2000000) (disch:=first|omega| (simp only[go_sem,lA,lD,lT,] <;>omega) |decide) only[go_sem,↓reduceIte,Nat.reduceEqDiff,reduceCtorEq,Nat.reduceLT,Nat.reduceBEq,Nat.reduceAdd,eq_self,decide_true,decide_false,not_true_eq_false,not_false_eq_true,e17a,e17b,e17w,List.length_cons,List.length_nil,q1,q2,hy];with_reducible refine And.intro ?_ hZ;first|exact rfl|decide) :p:=e
theorem eN {p:Prop} (e:p:=by simp -implicitDefEqProofs (disch:=first|omega| (simp only[go_sem,lA,lD,lT,] <;>omega) |decide) only[go_sem,↓reduceIte,Nat.reduceEqDiff,reduceCtorEq];all_goals (rw[hR])) :p:=e
theorem Y3 {gl:Nat→C} {M:Nat} {pu:Nat→List C→Option C} (hcx:CxOK (aO gl M pu)) (h17: ∀ (n:Int) (m:Nat),-9223372036854775808≤n∧n≤9223372036854775807∧0< m∧m≤9223372036854775807→pu 17 [.val (.int .i64 n),.val (nI m)] =some (.val (nI (bF n m)))) (h49: ∀n:Nat,n≤1000000000000→pu 49 [.val (nI n)] =some (.val (str (eO n)))) (f z:Int) (l:List ab) (S:List cf) (w y:Int) (hw: -9223372036854775808≤w∧w≤9223372036854775807) (hyy: -9223372036854775808≤y∧y≤9223372036854775807) (hl:l.length≤1000000) (hl2: ∀i,i< l.length→(gt l i).1.length≤1000000∧(gt l i).2.length≤1000000) (hS:S.length≤1000000) :FC Tryd.prog gl 28 [.agg [.val (.int .i64 f),.val (.int .i64 z),sl eC .no l,sl dC .no S],.val (.int .i64 w),.val (.int .i64 y)] [] (.agg [.val (.int .i64 (cQ (f,z,l,S) w y).1),.val (.int .i64 (cQ (f,z,l,S) w y).2.1),sl eC .no (cQ (f,z,l,S) w y).2.2.1,sl dC .no (cQ (f,z,l,S) w y).2.2.2]) [] :=by
 replace hcx:=hcx.reN (M:=170)
 refine bZ (cx:=aO gl 170 pu) (rs:= [.cell 6 54]) rfl Tryd.func28 rfl rfl rfl (by simp only[List.length_cons,List.length_nil];decide) (by simp only[go_sem]) ?_
 simp only[cO,go_sem]
 have q1:=True.intro
 have q2:=True.intro
 have hy:=True.intro
 have e17a:=h17 y (max l.length 1) ⟨hyy.1,hyy.2,by omega,by omega⟩
 have e17b:=h17 y (max S.length 1) ⟨hyy.1,hyy.2,by omega,by omega⟩
 have e17w:=h17 w 11 ⟨hw.1,hw.2,by omega,by omega⟩
 have e17_5:=h17 y 5 ⟨hyy.1,hyy.2,by omega,by omega⟩
 have e17_4:=h17 y 4 ⟨hyy.1,hyy.2,by omega,by omega⟩
 have e17_40:=h17 y 40 ⟨hyy.1,hyy.2,by omega,by omega⟩
 have hk:=ey y (m:=max l.length 1) (by omega)
 have hj:=ey y (m:=max S.length 1) (by omega)
 obtain ⟨k,hK⟩ : ∃k,bF y (max l.length 1) =k:= ⟨_,rfl⟩
 obtain ⟨j,hJ⟩ : ∃j,bF y (max S.length 1) =j:= ⟨_,rfl⟩
 obtain ⟨c,hC⟩ : ∃c,bF w 11=c:= ⟨_,rfl⟩
 rw[hK] at e17a hk
 rw[hJ] at e17b hj
 rw[hC] at e17w
 have hcl:c< 11:=by rw[←hC];exact ey w (by omega)
 refine aa hcx [] _ [none,none] rfl rfl rfl ?_ cS
 have hy:= @CC
 refine Uq hcx cK [17,21] [14,18] _ [none] rfl rfl rfl rfl ?_ hV
 refine Tr.k [1,2,6,7] ?_
 have hy:=True.intro
 refine aa hcx [1000028] _ [] rfl rfl rfl ?_ cS
 refine aa hcx [1000034] _ [] rfl rfl rfl ?_ cS
 refine ae fun K1 hK1=> ?_
 refine aa hcx [] _ [] rfl rfl rfl ?_ cS
 refine Tr.blk ?_
 refine aa hcx [1000044] _ [] rfl rfl rfl ?_ cS
 refine bS rfl (fun hc43=> ?_) (fun hc43=> ?_)
 ·
  have hR:=CI (f:=f) (z:=z) (w:=w) (l:=l) (S:=S) (y:=y) (hC.trans hc43)
  have hy:=And.intro @e17_5 (And.intro @CD @CE)
  refine gK hcx cK [] _ [] rfl rfl rfl rfl ?_ hV
  refine hK1 _ ?_
  refine Tr.k [6,7] ?_
  have hy:=True.intro
  refine aa hcx [] _ [] rfl rfl rfl ?_ cS
  refine cZ hcx 3 (cl eC (l)) ?_
  try simp only[iK,iL,iM]
  refine cZ hcx 4 (cl dC (S)) ?_
  try simp only[iN,iO,iP]
  exact Tr.ret eN
 refine aa hcx [1000053] _ [] rfl rfl rfl ?_ cS
 refine bS rfl (fun hc52=> ?_) (fun hc52=> ?_)
 ·
  have hR:=CJ (f:=f) (z:=z) (w:=w) (l:=l) (S:=S) (y:=y) (hC.trans hc52)
  have hy:=And.intro @e17_5 (And.intro @CD @CE)
  refine gK hcx cK [] _ [] rfl rfl rfl rfl ?_ hV
  refine hK1 _ ?_
  refine Tr.k [6,7] ?_
  have hy:=True.intro
  refine aa hcx [] _ [] rfl rfl rfl ?_ cS
  refine cZ hcx 3 (cl eC (l)) ?_
  try simp only[iK,iL,iM]
  refine cZ hcx 4 (cl dC (S)) ?_
  try simp only[iN,iO,iP]
  exact Tr.ret eN
 refine aa hcx [1000062] _ [] rfl rfl rfl ?_ cS
 refine bS rfl (fun hc61=> ?_) (fun hc61=> ?_)
 ·
  have hR:=CK (f:=f) (z:=z) (w:=w) (l:=l) (S:=S) (y:=y) (hC.trans hc61)
  obtain ⟨Q,hQ⟩ : ∃Q,[y,4096,4097,-1] =Q:= ⟨_,rfl⟩
  have hQl:Q.length=4:=by rw[←hQ];rfl
  have hmk:=Lp y
  rw[hQ] at hR hmk
  have h4:=ey y (m:=4) (by omega)
  have hix:=fun (u:TypeDesc) (yy:Nat) (zz:List Value) =>nA iC u yy zz (bF y 4) Q (by omega)
  rw[hQl] at hix
  have hy:=And.intro @e17_4 (And.intro @hmk (And.intro @hQl (And.intro @h4 @hix)))
  refine bG hcx [] _ [] rfl rfl rfl ?_ cS
  refine hK1 _ ?_
  refine Tr.k [6,7] ?_
  have hy:=True.intro
  refine aa hcx [] _ [] rfl rfl rfl ?_ cS
  refine cZ hcx 3 (cl eC (l)) ?_
  try simp only[iK,iL,iM]
  refine cZ hcx 4 (cl dC (S)) ?_
  try simp only[iN,iO,iP]
  exact Tr.ret eN
 refine aa hcx [1000071] _ [] rfl rfl rfl ?_ cS
 refine Tr.k [2,6,7,8,9,36,70] ?_
 refine bS rfl (fun hc70=> ?_) (fun hc70=> ?_)
 ·
  have hR:=CL (f:=f) (z:=z) (w:=w) (l:=l) (S:=S) (y:=y) (hC.trans hc70)
  refine bG hcx [] _ [] rfl rfl rfl ?_ cS
  refine hK1 _ ?_
  refine aa hcx [] _ [] rfl rfl rfl ?_ cS
  refine cZ hcx 3 (cl eC (l)) ?_
  try simp only[iK,iL,iM]
  refine cZ hcx 4 (cl dC (S)) ?_
  try simp only[iN,iO,iP]
  exact Tr.ret eN
 refine aa hcx [1000075] _ [] rfl rfl rfl ?_ cS
 refine bS rfl (fun hc74=> ?_) (fun hc74=> ?_)
 ·
  refine aa hcx [] _ [] rfl rfl rfl ?_ cS
  refine bS rfl (fun hc79=> ?_) (fun hc79=> ?_)
  ·
   have hR:=CM (f:=f) (z:=z) (w:=w) (l:=l) (S:=S) (y:=y) hK (hC.trans hc74) hc79
   have hkl:k< l.length:=by omega
   have e49:=h49 (bF y 40) (by have:=ey y (m:=40) (by omega);omega)
   have w0:=fun x=>PD l k x hkl
   have hy:=And.intro @e17_40 (And.intro @e49 (And.intro @hkl @w0))
   refine gK hcx cK [] _ [] rfl rfl rfl rfl ?_ hV
   refine hK1 _ ?_
   have hy:=True.intro
   refine aa hcx [] _ [] rfl rfl rfl ?_ cS
   refine cZ hcx 3 (cl eC (l.set k (eO (bF y 40),(gt l k).2))) ?_
   try simp only[iK,iL,iM]
   refine cZ hcx 4 (cl dC (S)) ?_
   try simp only[iN,iO,iP]
   exact Tr.ret eN
  have hR:=mw (f:=f) (z:=z) (w:=w) (l:=l) (S:=S) (y:=y) (Or.inl (hC.trans hc74)) hc79
  refine Tr.skip ?_
  refine hK1 _ ?_
  refine aa hcx [] _ [] rfl rfl rfl ?_ cS
  refine cZ hcx 3 (cl eC (l)) ?_
  try simp only[iK,iL,iM]
  refine cZ hcx 4 (cl dC (S)) ?_
  try simp only[iN,iO,iP]
  exact Tr.ret eN
 refine aa hcx [1000089] _ [] rfl rfl rfl ?_ cS
 refine bS rfl (fun hc88=> ?_) (fun hc88=> ?_)
 ·
  refine aa hcx [] _ [] rfl rfl rfl ?_ cS
  refine bS rfl (fun hc93=> ?_) (fun hc93=> ?_)
  ·
   have hR:=CN (f:=f) (z:=z) (w:=w) (l:=l) (S:=S) (y:=y) hK (hC.trans hc88) hc93
   have hkl:k< l.length:=by omega
   have w1:=fun x=>PE l k x hkl
   have x1b:=nX l k hkl
   have hb2:= (hl2 k hkl).2
   have hy:=And.intro @hkl (And.intro @w1 @x1b)
   refine gK hcx cK [] _ [] rfl rfl rfl rfl ?_ hV
   refine hK1 _ ?_
   refine Tr.k [6,7] ?_
   have hy:=True.intro
   refine aa hcx [] _ [] rfl rfl rfl ?_ cS
   refine cZ hcx 3 (cl eC (l.set k ((gt l k).1,(gt l k).2++[120]))) ?_
   try simp only[iK,iL,iM]
   refine cZ hcx 4 (cl dC (S)) ?_
   try simp only[iN,iO,iP]
   exact Tr.ret eN
  have hR:=mw (f:=f) (z:=z) (w:=w) (l:=l) (S:=S) (y:=y) (Or.inr (Or.inl (hC.trans hc88))) hc93
  refine Tr.skip ?_
  refine hK1 _ ?_
  refine aa hcx [] _ [] rfl rfl rfl ?_ cS
  refine cZ hcx 3 (cl eC (l)) ?_
  try simp only[iK,iL,iM]
  refine cZ hcx 4 (cl dC (S)) ?_
  try simp only[iN,iO,iP]
  exact Tr.ret eN
 refine aa hcx [1000107] _ [] rfl rfl rfl ?_ cS
 refine bS rfl (fun hc106=> ?_) (fun hc106=> ?_)
 ·
  refine aa hcx [] _ [] rfl rfl rfl ?_ cS
  refine bS rfl (fun hc111=> ?_) (fun hc111=> ?_)
  ·
   have hR:=CO (f:=f) (z:=z) (w:=w) (l:=l) (S:=S) (y:=y) hK (hC.trans hc106) hc111
   have hkl:k< l.length:=by omega
   by_cases q1:k< 1∧1< l.length
   ·
    have q22:=fun cx apps dsts lo id d e h fs K e9 b=>CG cx apps dsts lo id d e h fs K eC e9 b k l ⟨by omega,q1.2⟩
    have hy:=And.intro @IR (And.intro @hkl @q22)
    refine oH hcx cK [121] [115] _ [] rfl rfl rfl rfl ?_ hV
    refine hK1 _ ?_
    refine Tr.k [6,7] ?_
    have hy:=True.intro
    refine aa hcx [] _ [] rfl rfl rfl ?_ cS
    refine cZ hcx 5 (cl eC (l.take k++l.drop (k+1))) ?_
    try simp only[Px eC hkl]
    refine cZ hcx 4 (cl dC (S)) ?_
    try simp only[iN,iO,iP]
    exact Tr.ret eN
   have q22:=fun cx apps dsts lo id d e h fs K e9 b=>CF cx apps dsts lo id d e h fs K eC e9 b k l ⟨hkl,by omega⟩
   have hy:=And.intro @IR (And.intro @hkl @q22)
   refine oH hcx cK [121] [115] _ [] rfl rfl rfl rfl ?_ hV
   refine hK1 _ ?_
   refine Tr.k [6,7] ?_
   have hy:=True.intro
   refine aa hcx [] _ [] rfl rfl rfl ?_ cS
   refine cZ hcx 3 (cl eC (l.take k++l.drop (k+1)++l.drop (l.length - 1))) ?_
   try simp only[Py eC hkl]
   refine cZ hcx 4 (cl dC (S)) ?_
   try simp only[iN,iO,iP]
   exact Tr.ret eN
  have hR:=mw (f:=f) (z:=z) (w:=w) (l:=l) (S:=S) (y:=y) (Or.inr (Or.inr (hC.trans hc106))) hc111
  refine Tr.skip ?_
  refine hK1 _ ?_
  refine aa hcx [] _ [] rfl rfl rfl ?_ cS
  refine cZ hcx 3 (cl eC (l)) ?_
  try simp only[iK,iL,iM]
  refine cZ hcx 4 (cl dC (S)) ?_
  try simp only[iN,iO,iP]
  exact Tr.ret eN
 refine aa hcx [1000124] _ [] rfl rfl rfl ?_ cS
 refine bS rfl (fun hc123=> ?_) (fun hc123=> ?_)
 ·
  have hR:=CP (f:=f) (z:=z) (w:=w) (l:=l) (S:=S) (y:=y) (hC.trans hc123)
  have e49:=h49 (bF y 40) (by have:=ey y (m:=40) (by omega);omega)
  have hy:=And.intro @e17_40 @e49
  refine oH hcx cK [132] [126] _ [] rfl rfl rfl rfl ?_ hV
  refine hK1 _ ?_
  have hy:=True.intro
  refine aa hcx [] _ [] rfl rfl rfl ?_ cS
  refine cZ hcx 5 (cl eC (l++[(eO (bF y 40),[])])) ?_
  try simp only[iK,iL,iM]
  refine cZ hcx 4 (cl dC (S)) ?_
  try simp only[iN,iO,iP]
  exact Tr.ret eN
 refine aa hcx [1000135] _ [] rfl rfl rfl ?_ cS
 refine bS rfl (fun hc134=> ?_) (fun hc134=> ?_)
 ·
  refine aa hcx [] _ [] rfl rfl rfl ?_ cS
  refine bS rfl (fun hc139=> ?_) (fun hc139=> ?_)
  ·
   have hR:=CQ (f:=f) (z:=z) (w:=w) (l:=l) (S:=S) (y:=y) hJ (hC.trans hc134) hc139
   have hjl:j< S.length:=by omega
   have e16:=h17 (y.tdiv ((8:Nat) :Int)) 16 ⟨by have:=Pz hyy;omega,by have:=Pz hyy;omega,by omega,by omega⟩
   obtain ⟨i,hI⟩ : ∃i,bF (y.tdiv ((8:Nat) :Int)) 16=i:= ⟨_,rfl⟩
   have hi16:i< 16:=by rw[←hI];exact ey _ (by omega)
   rw[hI] at e16 hR
   have g1:=PA S j i hjl hi16
   have g2:=fun x=>PC S j i x hjl hi16
   have hy:=And.intro @e16 (And.intro @g1 (And.intro @g2 (And.intro @hjl @hi16)))
   refine gK hcx cK [] _ [] rfl rfl rfl rfl ?_ hV
   refine hK1 _ ?_
   refine Tr.k [6,7] ?_
   have hy:=True.intro
   refine aa hcx [] _ [] rfl rfl rfl ?_ cS
   refine cZ hcx 3 (cl eC (l)) ?_
   try simp only[iK,iL,iM]
   refine cZ hcx 4 (cl dC (S.set j (FN (gt S j) i (gt (gt S j).1 i ^^^ UInt8.ofNat 1)))) ?_
   try simp only[iN,iO,iP]
   exact Tr.ret eN
  have hR:=rE (f:=f) (z:=z) (w:=w) (l:=l) (S:=S) (y:=y) (Or.inl (hC.trans hc134)) hc139
  refine Tr.skip ?_
  refine hK1 _ ?_
  refine aa hcx [] _ [] rfl rfl rfl ?_ cS
  refine cZ hcx 3 (cl eC (l)) ?_
  try simp only[iK,iL,iM]
  refine cZ hcx 4 (cl dC (S)) ?_
  try simp only[iN,iO,iP]
  exact Tr.ret eN
 refine aa hcx [1000153] _ [] rfl rfl rfl ?_ cS
 refine bS rfl (fun hc152=> ?_) (fun hc152=> ?_)
 ·
  refine aa hcx [] _ [] rfl rfl rfl ?_ cS
  refine bS rfl (fun hc157=> ?_) (fun hc157=> ?_)
  ·
   have hR:=CR (f:=f) (z:=z) (w:=w) (l:=l) (S:=S) (y:=y) hJ (hC.trans hc152) hc157
   have hjl:j< S.length:=by omega
   by_cases q2:j< 1∧1< S.length
   ·
    have q23:=fun cx apps dsts lo id d e h fs K e9 b=>CG cx apps dsts lo id d e h fs K dC e9 b j S ⟨by omega,q2.2⟩
    have hy:=And.intro @IQ (And.intro @hjl @q23)
    refine oH hcx cK [167] [161] _ [] rfl rfl rfl rfl ?_ hV
    refine hK1 _ ?_
    refine Tr.k [6,7] ?_
    have hy:=True.intro
    refine aa hcx [] _ [] rfl rfl rfl ?_ cS
    refine cZ hcx 3 (cl eC (l)) ?_
    try simp only[iK,iL,iM]
    refine cZ hcx 5 (cl dC (S.take j++S.drop (j+1))) ?_
    try simp only[Px dC hjl]
    exact Tr.ret eN
   have q23:=fun cx apps dsts lo id d e h fs K e9 b=>CF cx apps dsts lo id d e h fs K dC e9 b j S ⟨hjl,by omega⟩
   have hy:=And.intro @IQ (And.intro @hjl @q23)
   refine oH hcx cK [167] [161] _ [] rfl rfl rfl rfl ?_ hV
   refine hK1 _ ?_
   refine Tr.k [6,7] ?_
   have hy:=True.intro
   refine aa hcx [] _ [] rfl rfl rfl ?_ cS
   refine cZ hcx 3 (cl eC (l)) ?_
   try simp only[iK,iL,iM]
   refine cZ hcx 4 (cl dC (S.take j++S.drop (j+1)++S.drop (S.length - 1))) ?_
   try simp only[Py dC hjl]
   exact Tr.ret eN
  have hR:=rE (f:=f) (z:=z) (w:=w) (l:=l) (S:=S) (y:=y) (Or.inr (hC.trans hc152)) hc157
  refine Tr.skip ?_
  refine hK1 _ ?_
  refine aa hcx [] _ [] rfl rfl rfl ?_ cS
  refine cZ hcx 3 (cl eC (l)) ?_
  try simp only[iK,iL,iM]
  refine cZ hcx 4 (cl dC (S)) ?_
  try simp only[iN,iO,iP]
  exact Tr.ret eN
 have hR:=y0 (f:=f) (z:=z) (w:=w) (l:=l) (S:=S) (y:=y) (by omega)
 refine XW hcx [41] [38] _ [] rfl rfl rfl ?_ cS
 refine hK1 _ ?_
 refine aa hcx [] _ [] rfl rfl rfl ?_ cS
 refine cZ hcx 3 (cl eC (l)) ?_
 try simp only[iK,iL,iM]
 refine cZ hcx 5 (cl dC (S++[zZ])) ?_
 try simp only[iN,iO,iP]
 exact Tr.ret eN
end Go.Sx
namespace Go.Sx
open Go.RowKit Go.Proofs
theorem mu {l:List ab} {k:List UInt8} (hs:Srt l) {j:Nat} (hj:j< l.length) : (bl (gt l j).1 k=true) = (j< bu l k) :=by
 apply propext
 constructor
 · exact Li hs hj
 · intro h
   cases e:bl (gt l j).1 k with
   |true=>rfl
   |false=>have:=yU hs hj e;omega
theorem Srt.sub {l:List ab} (hs:Srt l) (a n:Nat) (h:a+n≤l.length) :Srt ((l.drop a).take n) :=fun i j hij hj=>by
 have hl: ((l.drop a).take n).length=n:=by rw[List.length_take,List.length_drop];omega
 rw[fB l a n i (by omega) (by omega),fB l a n j (by omega) (by omega)]
 exact hs _ _ (by omega) (by omega)
theorem Lm {l:List ab} {a n:Nat} (h:a+n≤l.length) : ((l.drop a).take n).length=n:=by rw[List.length_take,List.length_drop];omega
theorem qQ {l:List ab} (hs:Srt l) (k:List UInt8) (a n:Nat) (h:a+n≤l.length) :bu ((l.drop a).take n) k=min (bu l k - a) n:=by
 have hl:=Lm h
 refine s3 (hs.sub a n h) (by omega) (fun x hx=> ?_) (fun x hx hx2=> ?_)
 · rw[fB l a n x (by omega) (by omega),mu hs (by omega)];omega
 · rw[fB l a n x (by omega) (by omega)]
   cases e:bl (gt l (a+x)).1 k with
   |false=>rfl
   |true=>rw[mu hs (by omega)] at e;omega
def t8 (l:List ab) (k:List UInt8) :Prop:=bu l k< l.length∧(gt l (bu l k)).1=k
instance (l:List ab) (k:List UInt8) :Decidable (t8 l k) :=inferInstanceAs (Decidable (_∧_))
theorem Ln {l:List ab} {k:List UInt8} (hs:Srt l) :g6 l k=if t8 l k then ((bu l k:Nat) :Int) else -1:=by
 have h:=wL (k:=k) hs
 by_cases hi:t8 l k
 · rw[if_pos hi]
   have h0: ((0:Nat) :Int)≤g6 l k:=by rw[h];exact hi
   unfold g6 at h0 ⊢
   cases hh:lf l k with
   |none=>rw[hh] at h0;simp at h0
   |some n=>
    unfold lf at hh
    rw[List.findIdx?_eq_some_iff_getElem] at hh
    obtain ⟨h1,h2,_⟩ :=hh
    have e:gt l n=l[n] :=by simp[gt,List.getD,List.getElem?_eq_getElem h1]
    have hk: (gt l n).1=k:=by rw[e];simpa using h2
    rw[ti hs h1 hk];rfl
 · rw[if_neg hi]
   have h0: ¬ ((0:Nat) :Int)≤g6 l k:=by rw[h];exact hi
   unfold g6 at h0 ⊢
   cases hh:lf l k with
   |none=>rfl
   |some n=>rw[hh] at h0;simp at h0
theorem CB {l:List ab} (hs:Srt l) (x y:List UInt8) : ∀i,i≤l.length→ic l x y i= (l.take (min i (bu l y))).drop (bu l x)
 |0,_=>by simp[ic]
 |i+1,h=>by
  have ih:=CB hs x y i (by omega)
  have hl: (l.take i).length=i:=by rw[List.length_take];omega
  by_cases h1:i< bu l x
  · rw[←lV (by omega) (.inl (by rw[mu hs (by omega)];exact h1)),ih,List.drop_of_length_le (by rw[List.length_take];omega),List.drop_of_length_le (by rw[List.length_take];omega)]
  · have hx:bl (gt l i).1 x=false:=by
     cases e:bl (gt l i).1 x with
     |false=>rfl
     |true=>rw[mu hs (by omega)] at e;exact (h1 e).elim
    by_cases h2:i< bu l y
    · rw[←v7 (by omega) hx (by rw[mu hs (by omega)];exact h2),ih,Nat.min_eq_left (by omega),Nat.min_eq_left (by omega),dO l i (by omega),List.drop_append_of_le_length (by omega)]
    · have hy:bl (gt l i).1 y=false:=by
       cases e:bl (gt l i).1 y with
       |false=>rfl
       |true=>rw[mu hs (by omega)] at e;exact (h2 e).elim
      rw[←lV (by omega) (.inr hy),ih,show min (i+1) (bu l y) =min i (bu l y) by omega]
theorem yW: ∀n,n< 60→bl (eO n) (eO (n+1)) =true:=by decide+kernel
theorem yX {m:Nat} : ∀d,m+1+d≤60→bl (eO m) (eO (m+1+d)) =true
 |0,h=>yW m (by omega)
 |d+1,h=>jC (yX d (by omega)) (yW _ (by omega))
theorem wS (l:List Int) : ∀n,n≤11→∀i,i< n→∃m,(gt (eu l n).1 i).1=eO m∧m< (eu l n).2∧(∀j,i< j→j< n→∃m',(gt (eu l n).1 j).1=eO m'∧m< m'∧m'< (eu l n).2)
 |0,_,i,h=>by omega
 |n+1,hn,i,h=>by
  have hl:=iZ l n
  have g: ∀j,j< n→gt (eu l (n+1)).1 j=gt (eu l n).1 j:=fun j hj=>by simp only[eu];exact jI _ _ _ (by omega)
  have gn: (gt (eu l (n+1)).1 n).1=eO ((eu l n).2+j4 l (2*n) 3) :=by simp only[eu];rw[lm _ _ _ _ hl]
  have e2: (eu l (n+1)).2= (eu l n).2+j4 l (2*n) 3+1:=rfl
  by_cases e:i< n
  · obtain ⟨m,h1,h2,h3⟩ :=wS l n (by omega) i e
    refine ⟨m,by rw[g i e];exact h1,by omega,fun j hj hj2=> ?_⟩
    by_cases ej:j< n
    · obtain ⟨m',q1,q2,q3⟩ :=h3 j hj ej
      exact ⟨m',by rw[g j ej];exact q1,q2,by omega⟩
    · obtain rfl:j=n:=by omega
      exact ⟨_,gn,by omega,by omega⟩
  · obtain rfl:i=n:=by omega
    exact ⟨_,gn,by omega,fun j hj hj2=>by omega⟩
theorem yY {l:List ab} (hs:Srt l) : ∀n,n≤l.length→fW l n=true
 |0,_=>rfl
 |i+1,h=>by
  simp only[fW,Bool.and_eq_true,Bool.or_eq_true,decide_eq_true_eq]
  refine ⟨yY hs i (by omega),?_⟩
  by_cases e:i=0
  · exact .inl e
  · exact .inr (hs _ _ (by omega) (by omega))
theorem Lo (l:List Int) :cW (ib l) =0:=by
 have hb:=wO l
 have hn:=tB l
 have hs:Srt (ib l) :=fun i j hij hj=>by
  unfold ib at hj ⊢
  rw[iZ] at hj
  obtain ⟨m,h1,_,h3⟩ :=wS l (kC l) hn i (by omega)
  obtain ⟨m',q1,q2,q3⟩ :=h3 j hij hj
  have:=tq l (kC l)
  rw[h1,q1]
  obtain ⟨d,rfl⟩ : ∃d,m'=m+1+d:= ⟨m' - m - 1,by omega⟩
  exact yX d (by omega)
 refine wX ?_ (yY hs _ (Nat.le_refl _))
 rintro (h|h)
 · omega
 · rw[List.any_eq_true] at h
   obtain ⟨x,hx,h⟩ :=h
   obtain ⟨i,hi,rfl⟩ :=List.getElem_of_mem hx
   have:=hb.2 i hi
   have e:gt (ib l) i= (ib l)[i] :=by simp[gt,List.getD,List.getElem?_eq_getElem hi]
   rw[e] at this
   unfold dv at h
   simp only[Bool.or_eq_true,decide_eq_true_eq] at h
   omega
end Go.Sx
namespace Go.Sx
open Go.RowKit Go.Proofs
set_option maxRecDepth 100000
set_option maxHeartbeats 8000000
theorem Pv {r:List UInt8} {f z:Nat} {l:List ab} {S:List cf} (h: ¬gf f z l) (h2: ¬ (0< z∧l.length=0)) :
 dZ r f z l S= (!(dN l f S z ([],0,false)).2.2.2 && decide ((dN l f S z ([],0,false)).2.2.1=S.length) && decide ((dN l f S z ([],0,false)).1=r)) :=by
 unfold dZ
 rw[if_neg (fun q=>q.elim h (fun q=>h2 ⟨by omega,q.2⟩))]
 rfl
end Go.Sx
