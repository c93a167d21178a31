/-
   And what follows.
-/
import Derived.Test.YtmoaeemdlompaaaDoorPar
import Derived.Test.YtmoaeemdlompaaaDoorPaq
import Derived.Test.YtmoaeemdlompaaaDoorPap
import Derived.Test.YtmoaeemdlompaaaDoorPam
import Derived.Test.YtmoaeemdlompaaaDoorPan
set_option linter.unusedSimpArgs false
set_option linter.unusedVariables false
namespace Go.Sx
open Go.RowKit Go.Proofs
set_option maxRecDepth 100000
theorem qj {f:Nat}:∀ {d d':Nat}{p p':List C},cy f p d=cy f p' d'→d=d'
 |0,0,_,_,_=>rfl
 |0,d'+1,_,_,h=>by simp[cy] at h
 |d+1,0,_,_,h=>by simp[cy] at h
 |d+1,d'+1,p,p',h=>by
  simp only[cy,C.kp.injEq,List.cons.injEq,C.fn.injEq,and_true,true_and] at h
  have:=(List.append_inj' h rfl).2
  simp only[List.cons.injEq,and_true] at this
  rw[qj this]
theorem vj (l:List ab)(f:Nat)(S:List ba):∀ (d e a b:Nat)(st:TS),b - a≤2 ^ d→b - a≤2 ^ e→br l f S d a b st=br l f S e a b st
 |0,e,a,b,st,h1,h2=>by
  by_cases h:b≤f∨f+l.length≤a
  . rw[gN h,gN h]
  . rw[gO h h1,gO h h1]
 |d+1,0,a,b,st,h1,h2=>by
  by_cases h:b≤f∨f+l.length≤a
  . rw[gN h,gN h]
  . rw[gO h h2,gO h h2]
 |d+1,e+1,a,b,st,h1,h2=>by
  by_cases h:b≤f∨f+l.length≤a
  . rw[gN h,gN h]
  . by_cases h':b - a≤1
    . rw[gO h h',gO h h']
    . have hh:=gT (n:=b - a) (by omega)
      have g1:=fg (by omega) h1
      have g2:=fg (by omega) h2
      rw[nJ h h',nJ h h',vj l f S d e a _ st (by omega) (by omega),vj l f S d e _ b _ (by omega) (by omega)]
section
variable {gl:Nat→C} {M:Nat} {pu:Nat→List C→Option C}
abbrev wv (d:Nat):= {q:List ab×Nat×Nat // OkL q.1∧q.2.1< q.2.2∧q.2.2≤q.1.length∧q.2.2 - q.2.1≤2 ^ d}
def e79 (d:Nat)(q:wv d):List C:=[.val (nI q.1.2.1),.val (nI q.1.2.2),.kp [sl eC .no q.1.1],cy 79 [.kp [sl eC .no q.1.1]] d]
def NM (d:Nat)(q:wv d):C:= .agg (cl bC (du q.1.1 d q.1.2.1 q.1.2.2))
theorem n79 (l:List ab)(a b d:Nat):noRefs 0 [.val (nI a),.val (nI b),.kp [sl eC .no l],cy 79 [.kp [sl eC .no l]] d] =true:=by
 simp only[cV,c7,d7,fv,dU,Bool.and_self,Bool.true_and,Bool.and_true]
 exact p7 0 79 _ (by simp only[cV,c7,fv,dU,Bool.and_self]) d
theorem i79 (d:Nat)(x y:wv d)(h:e79 d x=e79 d y):NM d x=NM d y:=by
 simp only[e79,List.cons.injEq,C.val.injEq,C.kp.injEq,aI,aH,and_true] at h
 simp only[NM,h]
theorem Vd (hcx:CxOK (af gl M pu))(h80:∀x:ab,x.1.length≤65536∧x.2.length≤65536→pu 80 [.agg (eC x)] =some (.agg (cl bC (fK x))))
 (h81:∀x y:Nat,x≤y∧y≤4611686018427387000→pu 81 [.val (nI x),.val (nI y)] =some (.val (nI (x+aR (y - x)))))
 (h82:∀a b:List UInt8,a.length=16→b.length=16→pu 82 [.agg (cl bC a),.agg (cl bC b)] =some (.agg (cl bC (iQ a b)))):
 ∀ (d:Nat)(l:List ab)(a b:Nat),OkL l→a< b∧b≤l.length∧b - a≤2 ^ d→FC Tryd.prog gl 79 [.val (nI a),.val (nI b),.kp [sl eC .no l],cy 79 [.kp [sl eC .no l]] d] [] (.agg (cl bC (du l d a b))) []
 |0,l,a,b,hl,hab=>PF hcx h80 l 0 a b hl ⟨hab.1,hab.2.1,hab.2.2⟩
 |d+1,l,a,b,hl,hab=>by
  by_cases h:b - a≤1
  . exact PF hcx h80 l (d+1) a b hl ⟨hab.1,hab.2.1,h⟩
  . have hcx':CxOK (af gl M (Sx.ext pu 79 (aO (e79 d) (NM d)))):=am (N:=M) hcx (fun q=>n79 _ _ _ _) fun q=>Vd hcx h80 h81 h82 d q.1.1 q.1.2.1 q.1.2.2 q.2.1 q.2.2
    exact ad2 hcx' (fun x y h=>(ae (by decide) _).trans (h81 x y h)) (fun x y h h'=>(ae (by decide) _).trans (h82 x y h h')) l d a b hl ⟨hab.1,hab.2.1,hab.2.2,by omega⟩
     (fun a b hab=>(ar _).trans (aj (i79 d) ⟨(l,a,b),hl,hab⟩))
theorem nz (hcx:CxOK (af gl M pu))(N:Nat):CxOK (eR gl N pu fun _ _ _=>none):=hcx.reN
theorem Ve (T:List (List UInt8))(S:List ba)(u:Nat)(sh:Bool):∀o∈ ([some [sl sC (.own 1) T,sl dC .no S,.val (nI u),.val (.bool sh)]]:Hp),((bK o).isSome|| (fV o).isSome) =true:=fun o h=>by
 rw[List.mem_singleton.1 h];rfl
abbrev A86:= {q:List (List UInt8)×List ba×Nat×Bool×Int×List (List UInt8) // q.1.length≤1000000∧(co q.2.2.2.2.1 q.2.2.2.2.2).length< 1099511627776}
def Gq (hcx:CxOK (af gl M pu))(h65:∀ (tag:Int) (parts:List (List UInt8)),(co tag parts).length< 1099511627776→pu 65 [.val (.int .i64 tag),sl sC .no parts] =some (sl bC (.own 1) (co tag parts)))
    (h64:∀b:List UInt8,b.length< 35184372088832→pu 64 [sl bC .no b] =some (.agg (cl bC ((gx b).take 16)))):Small Tryd.prog gl 86 A86 where
 k:=1
 j:=0
 args q:=[.bp 0 0,.val (.int .i64 q.1.2.2.2.2.1),sl sC .no q.1.2.2.2.2.2]
 X q:=[some [sl sC (.own 1) q.1.1,sl dC .no q.1.2.1,.val (nI q.1.2.2.1),.val (.bool q.1.2.2.2.1)]]
 r q:= .agg (cl bC (ofT q.1.2.2.2.2.1 q.1.2.2.2.2.2))
 Y q:=[some [sl sC (.own 1) (q.1.1++[co q.1.2.2.2.2.1 q.1.2.2.2.2.2]),sl dC .no q.1.2.1,.val (nI q.1.2.2.1),.val (.bool q.1.2.2.2.1)]]
 k0:=by decide
 hk _:=rfl
 hy _:=rfl
 al q:=Ve _ _ _ _
 nr q:=by simp only[cV,c7,d7,dU,Bool.and_true];rfl
 nx q:=pA _ _ _ _
 at0 q:=⟨0,rfl⟩
 inj:=fun x y h1 h2=>by
  simp only[List.cons.injEq,Option.some.injEq,C.val.injEq,Value.int.injEq,Value.bool.injEq,aI,aH,and_true,true_and] at h1 h2
  simp only[h1,h2,and_self]
 fc q:=aiU (nz hcx 0) h65 h64 q.1.1 q.1.2.1 q.1.2.2.1 q.1.2.2.2.1 q.1.2.2.2.2.1 q.1.2.2.2.2.2 q.2.1 q.2.2
def K85 (d:Nat)(l:List ab)(f:Nat)(S:List ba)(T:List (List UInt8))(u a b:Nat):Prop:=LZ l∧f≤5000∧S.length≤1000000∧u≤S.length∧T.length≤900000 - 2 ^ (d+1)∧d≤12∧a< b∧b≤5000∧b - a≤2 ^ d
structure A85 where
 (l:List ab) (f:Nat) (S:List ba) (T:List (List UInt8)) (u:Nat) (sh:Bool) (d a b:Nat)
 ok:K85 d l f S T u a b
def Gr (W:A85→Prop)(fc:∀q:A85,W q→FC Tryd.prog gl 85 [.bp 0 0,sl eC .no q.l,.val (nI q.f),.val (nI q.a),.val (nI q.b)] [some [sl sC (.own 1) (q.T),sl dC .no q.S,.val (nI (q.u)),.val (.bool (q.sh))]] (.agg (cl bC (br q.l q.f q.S q.d q.a q.b (q.T,q.u,q.sh)).1)) [some [sl sC (.own 1) ((br q.l q.f q.S q.d q.a q.b (q.T,q.u,q.sh)).2.1),sl dC .no q.S,.val (nI ((br q.l q.f q.S q.d q.a q.b (q.T,q.u,q.sh)).2.2.1)),.val (.bool ((br q.l q.f q.S q.d q.a q.b (q.T,q.u,q.sh)).2.2.2))]]):Small Tryd.prog gl 85 {q:A85 // W q} where
 k:=1
 j:=0
 args q:=[.bp 0 0,sl eC .no q.1.l,.val (nI q.1.f),.val (nI q.1.a),.val (nI q.1.b)]
 X q:=[some [sl sC (.own 1) (q.1.T),sl dC .no q.1.S,.val (nI (q.1.u)),.val (.bool (q.1.sh))]]
 r q:= .agg (cl bC (br q.1.l q.1.f q.1.S q.1.d q.1.a q.1.b (q.1.T,q.1.u,q.1.sh)).1)
 Y q:=[some [sl sC (.own 1) ((br q.1.l q.1.f q.1.S q.1.d q.1.a q.1.b (q.1.T,q.1.u,q.1.sh)).2.1),sl dC .no q.1.S,.val (nI ((br q.1.l q.1.f q.1.S q.1.d q.1.a q.1.b (q.1.T,q.1.u,q.1.sh)).2.2.1)),.val (.bool ((br q.1.l q.1.f q.1.S q.1.d q.1.a q.1.b (q.1.T,q.1.u,q.1.sh)).2.2.2))]]
 k0:=by decide
 hk _:=rfl
 hy _:=rfl
 al q:=Ve _ _ _ _
 nr q:=by simp only[cV,c7,d7,dU,Bool.and_true];rfl
 nx q:=pA _ _ _ _
 at0 q:=⟨0,rfl⟩
 inj:=fun x y h1 h2=>by
  simp only[List.cons.injEq,Option.some.injEq,C.val.injEq,Value.int.injEq,Value.bool.injEq,aI,aH,and_true,true_and] at h1 h2
  have e:=vj y.1.l y.1.f y.1.S x.1.d y.1.d y.1.a y.1.b (y.1.T,y.1.u,y.1.sh) (by have:=x.1.ok.2.2.2.2.2.2.2.2;rw[h1.2.2.1,h1.2.2.2] at this;exact this) y.1.ok.2.2.2.2.2.2.2.2
  simp only[h1,h2,e,and_self]
 fc q:=fc q.1 q.2
abbrev NN (gl:Nat→C)(q:A85):Prop:=FC Tryd.prog gl 85 [.bp 0 0,sl eC .no q.l,.val (nI q.f),.val (nI q.a),.val (nI q.b)] [some [sl sC (.own 1) (q.T),sl dC .no q.S,.val (nI (q.u)),.val (.bool (q.sh))]] (.agg (cl bC (br q.l q.f q.S q.d q.a q.b (q.T,q.u,q.sh)).1)) [some [sl sC (.own 1) ((br q.l q.f q.S q.d q.a q.b (q.T,q.u,q.sh)).2.1),sl dC .no q.S,.val (nI ((br q.l q.f q.S q.d q.a q.b (q.T,q.u,q.sh)).2.2.1)),.val (.bool ((br q.l q.f q.S q.d q.a q.b (q.T,q.u,q.sh)).2.2.2))]]
theorem zI (hcx:CxOK (af gl M pu))(h65:∀ (tag:Int) (parts:List (List UInt8)),(co tag parts).length< 1099511627776→pu 65 [.val (.int .i64 tag),sl sC .no parts] =some (sl bC (.own 1) (co tag parts)))(h64:∀b:List UInt8,b.length< 35184372088832→pu 64 [sl bC .no b] =some (.agg (cl bC ((gx b).take 16))))(hp:Nat→List C→Hp→Option (C×Hp))(pre suf:Hp)(T:List (List UInt8))(S:List ba)(u:Nat)(sh:Bool)(tag:Int)(parts:List (List UInt8))(h0:OkH pre)(h1:OkH suf)(h2:T.length≤1000000)(h3: (co tag parts).length< 1099511627776):
 (Gq hcx h65 h64).tab hp 86 [.bp pre.length 0,.val (.int .i64 tag),sl sC .no parts] (pre++([some [sl sC (.own 1) (T),sl dC .no S,.val (nI (u)),.val (.bool (sh))]]++suf)) =some (.agg (cl bC (ofT tag parts)),pre++([some [sl sC (.own 1) (T++[co tag parts]),sl dC .no S,.val (nI (u)),.val (.bool (sh))]]++suf)):=by
 have h:=lG (Gq hcx h65 h64) hp ⟨(T,S,u,sh,tag,parts),h2,h3⟩ pre suf h0 h1
 simpa only[Gq,List.length_nil,Nat.zero_add,Nat.add_zero,bkCs,ce,p9,zk,mH,sk,Option.map_some,List.map_cons,List.map_nil,List.nil_append,List.cons_append] using h
theorem Gs (W:A85→Prop)(fc:∀q:A85,W q→NN gl q)(hp:Nat→List C→Hp→Option (C×Hp))(q:A85)(hq:W q)(pre suf:Hp)(h0:OkH pre)(h1:OkH suf):
 (Gr W fc).tab hp 85 [.bp pre.length 0,sl eC .no q.l,.val (nI q.f),.val (nI q.a),.val (nI q.b)] (pre++([some [sl sC (.own 1) (q.T),sl dC .no q.S,.val (nI (q.u)),.val (.bool (q.sh))]]++suf)) =some (.agg (cl bC (br q.l q.f q.S q.d q.a q.b (q.T,q.u,q.sh)).1),pre++([some [sl sC (.own 1) ((br q.l q.f q.S q.d q.a q.b (q.T,q.u,q.sh)).2.1),sl dC .no q.S,.val (nI ((br q.l q.f q.S q.d q.a q.b (q.T,q.u,q.sh)).2.2.1)),.val (.bool ((br q.l q.f q.S q.d q.a q.b (q.T,q.u,q.sh)).2.2.2))]]++suf)):=by
 have h:=lG (Gr W fc) hp ⟨q,hq⟩ pre suf h0 h1
 simpa only[Gr,List.length_nil,Nat.zero_add,Nat.add_zero,bkCs,ce,p9,zk,mH,sk,Option.map_some,List.map_cons,List.map_nil,List.nil_append,List.cons_append] using h
theorem Vf (hcx:CxOK (af gl M pu))(hnr:∀ (g:Nat) (xs:List C),noRefs 0 xs=false→pu g xs=none)(h65:∀ (tag:Int) (parts:List (List UInt8)),(co tag parts).length< 1099511627776→pu 65 [.val (.int .i64 tag),sl sC .no parts] =some (sl bC (.own 1) (co tag parts)))(h64:∀b:List UInt8,b.length< 35184372088832→pu 64 [sl bC .no b] =some (.agg (cl bC ((gx b).take 16))))(h84:∀h:List UInt8,h.length=16→pu 84 [.agg (cl bC h)] =some (.val (str h)))(h106:∀n:Nat,n≤4611686018427387000→pu 106 [.val (nI n)] =some (.val (nI (aR n)))):∀ (d:Nat)(q:A85),q.d=d→NN gl q
 |0,⟨l,f,S,T,u,sh,d,a,b,hk⟩,hd=>by
  obtain rfl:d=0:=hd
  obtain ⟨k1,k2,k3,k4,k5,k6,k7,k8,k9⟩:=hk
  exact PG (jG (M:=M) (nz hcx M) ⟨_,Tryd.func86,rfl,rfl⟩ (Gq hcx h65 h64)) l f S T u sh 0 a b k1 k2 k3 k4 k5 k6 ⟨k7,k8,k9⟩ (.inr (.inr k9)) hnr (fun xs h=>Small.never _ _ xs h)
   (fun suf T S u sh tag parts h1 h2 h3=>zI hcx h65 h64 _ [] suf T S u sh tag parts OkH.nil h1 h2 h3)
 |d+1,⟨l,f,S,T,u,sh,d',a,b,hk⟩,hd=>by
  obtain rfl:d'=d+1:=hd
  obtain ⟨k1,k2,k3,k4,k5,k6,k7,k8,k9⟩:=hk
  have ok:=jG (M:=M) (nz hcx M) ⟨_,Tryd.func86,rfl,rfl⟩ (Gq hcx h65 h64)
  by_cases hz:b≤f∨f+l.length≤a∨b - a≤1
  . exact PG ok l f S T u sh (d+1) a b k1 k2 k3 k4 k5 k6 ⟨k7,k8,k9⟩ hz hnr (fun xs h=>Small.never _ _ xs h)
     (fun suf T S u sh tag parts h1 h2 h3=>zI hcx h65 h64 _ [] suf T S u sh tag parts OkH.nil h1 h2 h3)
  . have F:=Vf hcx hnr h65 h64 h84 h106 d
    exact ad5 (jG (M:=M) ok ⟨_,Tryd.func85,rfl,rfl⟩ (Gr (fun q=>q.d=d) F)) l f S T u sh d a b k1 k2 k3 k4 k5 k6 ⟨k7,k8,k9⟩
     (fun suf T u sh a b h1 h2 h3 h4=>Gs (fun q=>q.d=d) F _ ⟨l,f,S,T,u,sh,d,a,b,k1,k2,k3,h3,h2,by omega,h4.1,h4.2.2,h4.2.1⟩ rfl [] suf OkH.nil h1)
     (by omega) (by omega) (by omega) hnr
     (fun xs h=>(uR _ _ (by decide) _ _).trans (Small.never _ _ xs h))
     (fun suf T S u sh tag parts h1 h2 h3=>(uR _ _ (by decide) _ _).trans (zI hcx h65 h64 _ [] suf T S u sh tag parts OkH.nil h1 h2 h3))
     (fun xs h=>Small.never _ _ xs h) h84 h106
abbrev S85 (F:∀q:A85,NN gl q):=Gr (fun _=>True) (fun q _=>F q)
abbrev Gt (d:Nat):= {q:List ab×Nat×Nat×Nat×Nat // OkL q.1∧(q.2.1≤5000∧q.2.2.1≤5000)∧d≤12∧q.2.2.2.1< q.2.2.2.2∧q.2.2.2.2≤q.1.length∧q.2.2.2.2 - q.2.2.2.1≤2 ^ d}
def e92 (d:Nat)(q:Gt d):List C:=[sl eC .no q.1.1,.val (nI q.1.2.1),.val (nI q.1.2.2.1),.val (nI q.1.2.2.2.1),.val (nI q.1.2.2.2.2)]
def Gu (d:Nat)(q:Gt d):C:=sl dC (.own 16) (cr q.1.1 q.1.2.1 q.1.2.2.1 d q.1.2.2.2.1 q.1.2.2.2.2)
theorem n92 (d:Nat)(q:Gt d):noRefs 0 (e92 d q) =true:=by
 simp only[e92,cV,c7,d7,dU,Bool.and_self]
theorem i92 (d:Nat)(x y:Gt d)(h:e92 d x=e92 d y):Gu d x=Gu d y:=by
 simp only[e92,List.cons.injEq,C.val.injEq,C.kp.injEq,aI,aH,and_true] at h
 simp only[Gu,h]
theorem Vg (hcx:CxOK (af gl M pu))(hnr:∀ (g:Nat) (xs:List C),noRefs 0 xs=false→pu g xs=none)(h65:∀ (tag:Int) (parts:List (List UInt8)),(co tag parts).length< 1099511627776→pu 65 [.val (.int .i64 tag),sl sC .no parts] =some (sl bC (.own 1) (co tag parts)))(h64:∀b:List UInt8,b.length< 35184372088832→pu 64 [sl bC .no b] =some (.agg (cl bC ((gx b).take 16))))(h84:∀h:List UInt8,h.length=16→pu 84 [.agg (cl bC h)] =some (.val (str h)))(h106:∀n:Nat,n≤4611686018427387000→pu 106 [.val (nI n)] =some (.val (nI (aR n)))):∀ (d:Nat)(q:Gt d),FC Tryd.prog gl 92 (e92 d q) [] (Gu d q) []
 |d,⟨(l,f,e,a,b),hl,hf,hd,h1,h2,h3⟩ =>by
  by_cases hz:b≤f∨e≤a∨b - a≤1
  . have F:∀q:A85,NN gl q:=fun q=>Vf hcx hnr h65 h64 h84 h106 q.d q rfl
    exact abJ (hcx:=jG (M:=M) (nz hcx M) ⟨_,Tryd.func85,rfl,rfl⟩ (S85 F)) (l:=l) (f:=f) (e:=e) (d:=d) (a:=a) (b:=b) (hl:=hl) (hf:=hf) (hd:=hd) (hab:=⟨h1,h2,h3⟩) (hz:=hz) (hnr:=hnr) (hn85:=fun xs h=>Small.never _ _ xs h)
     (hq85:=fun pre suf l f S d T u sh a b h0 h1 h2 h3 h4 h5 h6 h7 h8=>Gs _ _ _ ⟨l,f,S,T,u,sh,d,a,b,h2,h3,h4,h5,h6,h7,h8⟩ True.intro pre suf h0 h1)
  . cases d with
    |zero=>exact (hz (.inr (.inr h3))).elim
    |succ d=>
     have F:=Vg hcx hnr h65 h64 h84 h106 d
     have hcx':CxOK (af gl M (Sx.ext pu 92 (aO (e92 d) (Gu d)))):=am (N:=M) hcx (n92 d) F
     have hcx2:=nz hcx' M
     exact abK (hcx:=hcx2) (l:=l) (f:=f) (e:=e) (d:=d) (a:=a) (b:=b) (hl:=hl) (hf:=hf) (hd:=hd) (hab:=⟨h1,h2,h3⟩)
      (h92:=fun a b hab=>(ar _).trans (aj (i92 d) ⟨(l,f,e,a,b),hl,hf,by omega,hab⟩)) (hz1:=by omega) (hz2:=by omega) (hz3:=by omega) (h106:=fun n h=>(ae (by decide) _).trans (h106 n h))
theorem ags (hcx:CxOK (af gl M pu))(hnr:∀ (g:Nat) (xs:List C),noRefs 0 xs=false→pu g xs=none)(h65:∀ (tag:Int) (parts:List (List UInt8)),(co tag parts).length< 1099511627776→pu 65 [.val (.int .i64 tag),sl sC .no parts] =some (sl bC (.own 1) (co tag parts)))(h64:∀b:List UInt8,b.length< 35184372088832→pu 64 [sl bC .no b] =some (.agg (cl bC ((gx b).take 16))))(h84:∀h:List UInt8,h.length=16→pu 84 [.agg (cl bC h)] =some (.val (str h)))(h106:∀n:Nat,n≤4611686018427387000→pu 106 [.val (nI n)] =some (.val (nI (aR n))))(l:List ab)(f e a b:Nat)(hl:OkL l)(hf:f≤5000∧e≤5000)(hab:a< b∧b≤l.length):
 FC Tryd.prog gl 92 [sl eC .no l,.val (nI f),.val (nI e),.val (nI a),.val (nI b)] [] (sl dC (.own 16) (cr l f e 12 a b)) []:=
 Vg hcx hnr h65 h64 h84 h106 12 ⟨(l,f,e,a,b),hl,hf,by decide,hab.1,hab.2,by have:=hl.1;show b - a≤4096;omega⟩
end
end Go.Sx
namespace Go.Sx
open Go.RowKit Go.Proofs
set_option maxRecDepth 100000
theorem aJ {pu:Nat→List C→Option C}(hnr:∀f xs,noRefs 0 xs=false→pu f xs=none){α:Type}{enc:α→List C}{out:α→C}{f:Nat}(he:∀a,noRefs 0 (enc a) =true):∀g xs,noRefs 0 xs=false→Sx.ext pu f (aO enc out) g xs=none:=fun g xs hr=>by
 by_cases hgf:g=f
 . subst hgf
   rw[ar]
   cases hq:aO enc out xs with
   |none=>rfl
   |some c=>
    obtain ⟨a,rfl,_⟩:=oH hq
    rw[he a] at hr;cases hr
 . rw[ae hgf];exact hnr g xs hr
theorem aT {x y:ab}:eC x=eC y↔x=y:=⟨fun h=>Inj.inj _ _ h,fun h=>by rw[h]⟩
theorem Gv {s t:S8}:s.l=t.l↔s=t:=by
 constructor
 . intro h
   obtain ⟨a,b,c,d,e,f,g,i⟩:=s
   obtain ⟨a',b',c',d',e',f',g',i'⟩:=t
   simpa[S8.l] using h
 . rintro rfl;rfl
theorem ww {s s':S8}{b b':List UInt8}{n n':Nat}(hb:b.length=64)(hb':b'.length=64)(h:cl wC s.l++(cl bC b++[C.val (nU n)]) =cl wC s'.l++(cl bC b'++[C.val (nU n')])):s=s'∧b=b'∧n=n':=by
 rw[DN (f:=wC) (by rw[dw,dw]),DN (f:=bC) (by rw[hb,hb'])] at h
 simp only[Gv,List.cons.injEq,C.val.injEq,aV,and_true] at h
 exact h
theorem JZ (s s':S8)(b b':List UInt8)(n n':Nat)(t t':List UInt8)(hb:b.length=64)(hb':b'.length=64)
 (h: [C.agg (cl wC s.l++(cl bC b++[C.val (nU n)])),C.val (str t)] = [C.agg (cl wC s'.l++(cl bC b'++[C.val (nU n')])),C.val (str t')]):C.agg (cz ⟨s,b,n⟩ t).cells=C.agg (cz ⟨s',b',n'⟩ t').cells:=by
 simp only[List.cons.injEq,C.agg.injEq,C.val.injEq,ax,and_true] at h
 obtain ⟨rfl,rfl,rfl⟩:=ww hb hb' h.1
 rw[h.2]
theorem QH (s s':S8)(b b':List UInt8)(n n':Nat)(hb:b.length=64)(hb':b'.length=64)
 (h: [C.agg (cl wC s.l++(cl bC b++[C.val (nU n)]))] = [C.agg (cl wC s'.l++(cl bC b'++[C.val (nU n')]))]):C.agg (cl bC (nf ⟨s,b,n⟩)) =C.agg (cl bC (nf ⟨s',b',n'⟩)):=by
 simp only[List.cons.injEq,C.agg.injEq,and_true] at h
 obtain ⟨rfl,rfl,rfl⟩:=ww hb hb' h
 rfl
section
variable {gl:Nat→C} {M:Nat} {pu:Nat→List C→Option C}
structure A91 where
 (l:List ab) (f e z:Nat) (lv:List ab) (S:List ba) (d a b:Nat)
 ok:OkL l∧(f≤5000∧e≤5000)∧S.length≤100000 - 2 ^ d∧d≤12∧a< b∧b≤l.length∧b - a≤2 ^ d
abbrev NO (gl:Nat→C)(q:A91):Prop:=FC Tryd.prog gl 91 [.val (nI q.a),.val (nI q.b),.kp [.val (nI q.f)],.kp [.val (nI q.e)],.bp 0 0,.kp [sl eC .no q.l],cy 91 [.kp [.val (nI q.f)],.kp [.val (nI q.e)],.bp 0 0,.kp [sl eC .no q.l]] q.d] [some [.val (nI q.f),.val (nI q.z),sl eC .no q.lv,sl dC (.own 16) q.S]] (.tup []) [some [.val (nI q.f),.val (nI q.z),sl eC .no q.lv,sl dC (.own 16) (q.S++cr q.l q.f q.e q.d q.a q.b)]]
def Gw (W:A91→Prop)(fc:∀q:A91,W q→NO gl q):Small Tryd.prog gl 91 {q:A91 // W q} where
 k:=1
 j:=4
 args q:=[.val (nI q.1.a),.val (nI q.1.b),.kp [.val (nI q.1.f)],.kp [.val (nI q.1.e)],.bp 0 0,.kp [sl eC .no q.1.l],cy 91 [.kp [.val (nI q.1.f)],.kp [.val (nI q.1.e)],.bp 0 0,.kp [sl eC .no q.1.l]] q.1.d]
 X q:=[some [.val (nI q.1.f),.val (nI q.1.z),sl eC .no q.1.lv,sl dC (.own 16) q.1.S]]
 r q:= .tup []
 Y q:=[some [.val (nI q.1.f),.val (nI q.1.z),sl eC .no q.1.lv,sl dC (.own 16) (q.1.S++cr q.1.l q.1.f q.1.e q.1.d q.1.a q.1.b)]]
 k0:=by decide
 hk _:=rfl
 hy _:=rfl
 al q:=fun o h=>by rw[List.mem_singleton.1 h];rfl
 nr q:=by
  simp only[cV,c7,d7,fv,dU,Bool.and_true,Bool.true_and]
  rw[p7 1 91 _ (by simp only[cV,c7,d7,fv,dU,Bool.and_true,Bool.true_and];rfl)];rfl
 nx q:=zu _ _ _ _
 at0 q:=⟨0,rfl⟩
 inj:=fun x y h1 h2=>by
  simp only[List.cons.injEq,Option.some.injEq,C.val.injEq,C.kp.injEq,aI,aH,and_true,true_and] at h1 h2
  have e:=qj h1.2.2.2.2.2
  simp only[h1,h2,e,and_self]
 fc q:=fc q.1 q.2
theorem Gx (W:A91→Prop)(fc:∀q:A91,W q→NO gl q)(hp:Nat→List C→Hp→Option (C×Hp))(q:A91)(hq:W q)(pre suf:Hp)(h0:OkH pre)(h1:OkH suf):
 (Gw W fc).tab hp 91 [.val (nI q.a),.val (nI q.b),.kp [.val (nI q.f)],.kp [.val (nI q.e)],.bp pre.length 0,.kp [sl eC .no q.l],cy 91 [.kp [.val (nI q.f)],.kp [.val (nI q.e)],.bp pre.length 0,.kp [sl eC .no q.l]] q.d] (pre++([some [.val (nI q.f),.val (nI q.z),sl eC .no q.lv,sl dC (.own 16) q.S]]++suf)) =some (.tup [],pre++([some [.val (nI q.f),.val (nI q.z),sl eC .no q.lv,sl dC (.own 16) (q.S++cr q.l q.f q.e q.d q.a q.b)]]++suf)):=by
 have h:=lG (Gw W fc) hp ⟨q,hq⟩ pre suf h0 h1
 simpa only[Gw,B7,List.length_nil,Nat.zero_add,Nat.add_zero,bkCs,ce,p9,zk,mH,sk,Option.map_some,List.map_cons,List.map_nil,List.nil_append,List.cons_append] using h
theorem Vh (hcx:CxOK (af gl M pu))(hnr:∀ (g:Nat) (xs:List C),noRefs 0 xs=false→pu g xs=none)(h51:∀l:List ab,OkL l→0< l.length→pu 51 [sl eC .no l] =some (.agg (cl bC (lm l))))(h81:∀x y:Nat,x≤y∧y≤4611686018427387000→pu 81 [.val (nI x),.val (nI y)] =some (.val (nI (x+aR (y - x))))):∀ (d:Nat)(q:A91),q.d=d→NO gl q
 |0,⟨l,f,e,z,lv,S,d,a,b,hk⟩,hd=>by
  obtain rfl:d=0:=hd
  obtain ⟨k1,k2,k3,k4,k5⟩:=hk
  exact NG (hcx:=nz hcx M) (l:=l) (f:=f) (e:=e) (z:=z) (lv:=lv) (S:=S) (d:=0) (a:=a) (b:=b) (hl:=k1) (hf:=k2) (hab:=k5) (hS:=k3) (hd:=k4) (hz:= .inr (.inr k5.2.2)) (hnr:=hnr) (h51:=h51)
 |d+1,⟨l,f,e,z,lv,S,d',a,b,hk⟩,hd=>by
  obtain rfl:d'=d+1:=hd
  obtain ⟨k1,k2,k3,k4,k5⟩:=hk
  by_cases hz:b≤f∨e≤a∨b - a≤1
  . exact NG (hcx:=nz hcx M) (l:=l) (f:=f) (e:=e) (z:=z) (lv:=lv) (S:=S) (d:=d+1) (a:=a) (b:=b) (hl:=k1) (hf:=k2) (hab:=k5) (hS:=k3) (hd:=k4) (hz:=hz) (hnr:=hnr) (h51:=h51)
  . have F:=Vh hcx hnr h51 h81 d
    exact abk (hcx:=jG (M:=M) (nz hcx M) ⟨_,Tryd.func91,rfl,rfl⟩ (Gw (fun q=>q.d=d) F)) (l:=l) (f:=f) (e:=e) (z:=z) (lv:=lv) (S:=S) (d:=d) (a:=a) (b:=b) (hl:=k1) (hf:=k2) (hab:=k5) (hS:=k3) (hd:=k4)
     (hq91:=fun S a b h1 h2=>by
       have h:=Gx (fun q=>q.d=d) F (fun _ _ _=>none) ⟨l,f,e,z,lv,S,d,a,b,k1,k2,h1,by omega,h2⟩ rfl [] [] OkH.nil OkH.nil
       simpa only[List.length_nil,List.nil_append,List.append_nil] using h)
     (hz1:=by omega) (hz2:=by omega) (hz3:=by omega) (hnr:=hnr) (hn91:=fun xs h=>Small.never _ _ xs h) (h81:=h81)
theorem abM (hcx:CxOK (af gl M pu))(hnr:∀ (g:Nat) (xs:List C),noRefs 0 xs=false→pu g xs=none)(h63:∀l:List ab,l.length≤1000000→pu 63 [sl eC .no l] =some (sl eC (.own 2) l))(h51:∀l:List ab,OkL l→0< l.length→pu 51 [sl eC .no l] =some (.agg (cl bC (lm l))))(h81:∀x y:Nat,x≤y∧y≤4611686018427387000→pu 81 [.val (nI x),.val (nI y)] =some (.val (nI (x+aR (y - x)))))(l:List ab)(f e:Nat)(hl:OkL l)(hfe:f≤e∧e≤l.length):
 FC Tryd.prog gl 57 [sl eC .no l,.val (nI f),.val (nI e)] [] (.agg [.val (nI f),.val (nI l.length),sl eC .no ((l.drop f).take (e - f)),sl dC .no (cd l f e)]) []:=by
 have F:∀q:A91,True→NO gl q:=fun q _=>Vh hcx hnr h51 h81 q.d q rfl
 exact af5 (hcx:=jG (M:=M) (nz hcx M) ⟨_,Tryd.func91,rfl,rfl⟩ (Gw (fun _=>True) F)) (hnr:=hnr) (h63:=h63) (hn91:=fun xs h=>Small.never _ _ xs h)
  (hq91:=fun pre suf l f e z lv S d a b h0 h1 h2 h3 h4 h5 h6=>Gx _ F _ ⟨l,f,e,z,lv,S,d,a,b,h2,h3,h4,h5,h6⟩ True.intro pre suf h0 h1) (l:=l) (f:=f) (e:=e) (hl:=hl) (hfe:=hfe)
structure A93 where
 (l:List ab) (f z:Nat) (S0:List ba) (st:US) (d a b:Nat)
 ok:OkL l∧f≤5000∧st.2.length≤1000000∧a< b∧b≤5000∧b - a≤2 ^ d
abbrev NP (gl:Nat→C)(q:A93):Prop:=FC Tryd.prog gl 93 [.val (nI q.a),.val (nI q.b),.bp 0 0,.kp [.val (nI q.f),.val (nI q.z),sl eC .no q.l,sl dC .no q.S0],.kp [.val (nI (q.f+q.l.length))],.bp 1 0,cy 93 [.bp 0 0,.kp [.val (nI q.f),.val (nI q.z),sl eC .no q.l,sl dC .no q.S0],.kp [.val (nI (q.f+q.l.length))],.bp 1 0] q.d] [some [.val (.bool q.st.1)],some [sl dC .no q.st.2]] (.agg (cl bC (cK q.l q.f q.d q.a q.b q.st).1)) [some [.val (.bool (cK q.l q.f q.d q.a q.b q.st).2.1)],some [sl dC .no (cK q.l q.f q.d q.a q.b q.st).2.2]]
def Gy (W:A93→Prop)(fc:∀q:A93,W q→NP gl q):Small Tryd.prog gl 93 {q:A93 // W q} where
 k:=2
 j:=2
 args q:=[.val (nI q.1.a),.val (nI q.1.b),.bp 0 0,.kp [.val (nI q.1.f),.val (nI q.1.z),sl eC .no q.1.l,sl dC .no q.1.S0],.kp [.val (nI (q.1.f+q.1.l.length))],.bp 1 0,cy 93 [.bp 0 0,.kp [.val (nI q.1.f),.val (nI q.1.z),sl eC .no q.1.l,sl dC .no q.1.S0],.kp [.val (nI (q.1.f+q.1.l.length))],.bp 1 0] q.1.d]
 X q:=[some [.val (.bool q.1.st.1)],some [sl dC .no q.1.st.2]]
 r q:= .agg (cl bC (cK q.1.l q.1.f q.1.d q.1.a q.1.b q.1.st).1)
 Y q:=[some [.val (.bool (cK q.1.l q.1.f q.1.d q.1.a q.1.b q.1.st).2.1)],some [sl dC .no (cK q.1.l q.1.f q.1.d q.1.a q.1.b q.1.st).2.2]]
 k0:=by decide
 hk _:=rfl
 hy _:=rfl
 al q:=fun o h=>by
  rcases List.mem_cons.1 h with h|h
  . rw[h];rfl
  . rw[List.mem_singleton.1 h];rfl
 nr q:=by
  simp only[cV,c7,d7,fv,dU,Bool.and_true,Bool.true_and]
  rw[p7 2 93 _ (by simp only[cV,c7,d7,fv,dU,Bool.and_true,Bool.true_and];rfl)];rfl
 nx q:=zB _ _
 at0 q:=⟨0,rfl⟩
 inj:=fun x y h1 h2=>by
  simp only[List.cons.injEq,Option.some.injEq,C.val.injEq,C.kp.injEq,Value.bool.injEq,aI,aH,and_true,true_and] at h1 h2
  have e:=qj h1.2.2.2.2
  have e2:x.1.st=y.1.st:=Prod.ext h2.1 h2.2
  simp only[h1,e2,e,and_self]
 fc q:=fc q.1 q.2
theorem Gz (W:A93→Prop)(fc:∀q:A93,W q→NP gl q)(hp:Nat→List C→Hp→Option (C×Hp))(q:A93)(hq:W q)(suf:Hp)(h1:OkH suf):
 (Gy W fc).tab hp 93 [.val (nI q.a),.val (nI q.b),.bp 0 0,.kp [.val (nI q.f),.val (nI q.z),sl eC .no q.l,sl dC .no q.S0],.kp [.val (nI (q.f+q.l.length))],.bp 1 0,cy 93 [.bp 0 0,.kp [.val (nI q.f),.val (nI q.z),sl eC .no q.l,sl dC .no q.S0],.kp [.val (nI (q.f+q.l.length))],.bp 1 0] q.d] ([some [.val (.bool q.st.1)],some [sl dC .no q.st.2]]++suf) =some (.agg (cl bC (cK q.l q.f q.d q.a q.b q.st).1),[some [.val (.bool (cK q.l q.f q.d q.a q.b q.st).2.1)],some [sl dC .no (cK q.l q.f q.d q.a q.b q.st).2.2]]++suf):=by
 have h:=lG (Gy W fc) hp ⟨q,hq⟩ [] suf OkH.nil h1
 simpa only[Gy,B7,List.length_nil,Nat.zero_add,Nat.add_zero,bkCs,ce,p9,zk,mH,sk,Option.map_some,List.map_cons,List.map_nil,List.nil_append,List.cons_append] using h
theorem Vi (hcx:CxOK (af gl M pu))(hnr:∀ (g:Nat) (xs:List C),noRefs 0 xs=false→pu g xs=none)(h80:∀x:ab,x.1.length≤65536∧x.2.length≤65536→pu 80 [.agg (eC x)] =some (.agg (cl bC (fK x))))(h81:∀x y:Nat,x≤y∧y≤4611686018427387000→pu 81 [.val (nI x),.val (nI y)] =some (.val (nI (x+aR (y - x)))))(h82:∀a b:List UInt8,a.length=16→b.length=16→pu 82 [.agg (cl bC a),.agg (cl bC b)] =some (.agg (cl bC (iQ a b)))):∀ (d:Nat)(q:A93),q.d=d→NP gl q
 |0,⟨l,f,z,S0,st,d,a,b,hk⟩,hd=>by
  obtain rfl:d=0:=hd
  obtain ⟨k1,k2,k3,k4⟩:=hk
  exact NK (hcx:=nz hcx M) (l:=l) (f:=f) (z:=z) (S0:=S0) (st:=st) (d:=0) (a:=a) (b:=b) (hl:=k1) (hf:=k2) (hS:=k3) (hab:=k4) (hz:= .inr (.inr (.inr k4.2.2))) (hnr:=hnr) (h80:=h80)
 |d+1,⟨l,f,z,S0,st,d',a,b,hk⟩,hd=>by
  obtain rfl:d'=d+1:=hd
  obtain ⟨k1,k2,k3,k4⟩:=hk
  by_cases hz:st.1=false∨b≤f∨f+l.length≤a∨b - a≤1
  . exact NK (hcx:=nz hcx M) (l:=l) (f:=f) (z:=z) (S0:=S0) (st:=st) (d:=d+1) (a:=a) (b:=b) (hl:=k1) (hf:=k2) (hS:=k3) (hab:=k4) (hz:=hz) (hnr:=hnr) (h80:=h80)
  . have F:=Vi hcx hnr h80 h81 h82 d
    have hst:st.1=true:=by
     cases h:st.1 with
     |true=>rfl
     |false=>exact (hz (.inl h)).elim
    exact abn (hcx:=jG (M:=M) (nz hcx M) ⟨_,Tryd.func93,rfl,rfl⟩ (Gy (fun q=>q.d=d) F)) (l:=l) (f:=f) (z:=z) (S0:=S0) (st:=st) (d:=d) (a:=a) (b:=b) (hl:=k1) (hf:=k2) (hS:=k3) (hab:=k4)
     (hq93:=fun suf st a b h1 h2 h3=>Gz (fun q=>q.d=d) F _ ⟨l,f,z,S0,st,d,a,b,k1,k2,h2,h3⟩ rfl suf h1)
     (hz0:=hst) (hz1:=by omega) (hz2:=by omega) (hz3:=by omega) (hnr:=hnr) (h81:=h81) (h82:=h82)
theorem abN (hcx:CxOK (af gl M pu))(hnr:∀ (g:Nat) (xs:List C),noRefs 0 xs=false→pu g xs=none)(h15:∀l:List ab,LB l→pu 15 [sl eC .no l] =some (.val (nI (cb l))))(h50:∀ (n:Nat) (d:List UInt8),n≤4096→d.length=16→pu 50 [.val (nI n),.agg (cl bC d)] =some (.agg (cl bC (g8 n d))))(h80:∀x:ab,x.1.length≤65536∧x.2.length≤65536→pu 80 [.agg (eC x)] =some (.agg (cl bC (fK x))))(h81:∀x y:Nat,x≤y∧y≤4611686018427387000→pu 81 [.val (nI x),.val (nI y)] =some (.val (nI (x+aR (y - x)))))(h82:∀a b:List UInt8,a.length=16→b.length=16→pu 82 [.agg (cl bC a),.agg (cl bC b)] =some (.agg (cl bC (iQ a b))))
 (r:List UInt8) (f z:Int) (l:List ab) (S:List ba) (hr:r.length=16) (hf: -9223372036854775808≤f∧f≤9223372036854775807) (hz: -9223372036854775808≤z∧z≤9223372036854775807) (hl:LB l) (hS:S.length≤1000000):
 FC Tryd.prog gl 61 [.agg [.val (.int .i64 f),.val (.int .i64 z),sl eC .no l,sl dC .no S],.agg (cl bC r)] [] (.val (.bool (d9 r f z l S))) []:=by
 have F:∀q:A93,True→NP gl q:=fun q _=>Vi hcx hnr h80 h81 h82 q.d q rfl
 exact af8 (hcx:=jG (M:=M) (nz hcx M) ⟨_,Tryd.func93,rfl,rfl⟩ (Gy (fun _=>True) F)) (hnr:=hnr) (h15:=h15) (h50:=h50)
  (hq93:=fun suf l f z S0 st d a b h1 h2 h3 h4 h5=>Gz _ F _ ⟨l,f,z,S0,st,d,a,b,h2,h3,h4,h5⟩ True.intro suf h1) (r:=r) (f:=f) (z:=z) (l:=l) (S:=S) (hr:=hr) (hf:=hf) (hz:=hz) (hl:=hl) (hS:=hS)
theorem agt (hcx:CxOK (af gl M pu))(l:List ab)(hl:l.length≤1000000):FC Tryd.prog gl 63 [sl eC .no l] [] (sl eC (.own 2) l) []:=by
 by_cases h:l= []
 . subst h
   refine Nm (pre:=[]) (post:=[]) ⟨_,Tryd.func63,rfl,rfl⟩ fun a cap hc=>?_
   cases a with
   |none=>exact abi hcx cap hc
   |some x=>exact abj hcx x cap hc
 . exact abh hcx l hl h
theorem GA (k f:Nat)(xs:List C):ah k (.fn f xs) =noRefs k xs:=rfl
theorem J0 (k:Nat)(x:ab):noRefs k (eC x) =true:=rfl
theorem J1 (k:Nat)(l:List ab)(d:Nat):ah k (cy 79 [.kp [sl eC .no l]] d) =true:=p7 k 79 _ (by simp only[cV,c7,fv,dU,Bool.and_self]) d
theorem abO (hcx:CxOK (af gl M pu))(a b:List UInt8):FC Tryd.prog gl 90 [.val (str a),.val (str b)] [] (.val (.int .i64 (fF a b))) []:=af4 a b
theorem agu (hcx:CxOK (af gl M pu))(n:Int)(hn: -9223372036854775808≤n∧n≤9223372036854775807):FC Tryd.prog gl 39 [.val (.int .i64 n)] [] (sl bC (.own 1) (aA n)) []:=by
 by_cases h:0≤n
 . obtain ⟨m,rfl⟩:∃m:Nat,n= (m:Int):=⟨n.toNat,by omega⟩
   rw[gC];exact ael hcx m (by omega)
 . obtain ⟨m,rfl⟩:∃m:Nat,n= -1 - (m:Int):=⟨(-1 - n).toNat,by omega⟩
   rw[mb _ (ey 8 m (by omega))];exact aem hcx m (by omega)
theorem agv (hcx:CxOK (af gl M pu))(n:Int)(hn: -9223372036854775808≤n∧n≤9223372036854775807):FC Tryd.prog gl 83 [.val (.int .i64 n)] [] (sl bC (.own 1) (aA n)) []:=by
 by_cases h:0≤n
 . obtain ⟨m,rfl⟩:∃m:Nat,n= (m:Int):=⟨n.toNat,by omega⟩
   rw[gC];exact aen hcx m (by omega)
 . obtain ⟨m,rfl⟩:∃m:Nat,n= -1 - (m:Int):=⟨(-1 - n).toNat,by omega⟩
   rw[mb _ (ey 8 m (by omega))];exact aeo hcx m (by omega)
end
end Go.Sx
namespace Go.Sx
open Go.RowKit Go.Proofs
set_option maxRecDepth 100000
set_option maxHeartbeats 8000000
def J2 (d:ba)(i:Nat)(x:UInt8):ba:=⟨d.1.set i x,by rw[List.length_set];exact d.2⟩
abbrev Vl (d:ba)(i:Nat):ba:=J2 d i (gt d.1 i ^^^ UInt8.ofNat 1)
abbrev Eu:ba:=⟨(List.replicate 16 0).set 0 (UInt8.ofNat 1),by simp⟩
theorem GC (x:List C)(h:Hp):Zi (some x) h= (5,h.length):=rfl
theorem GD {P:Program}{t:TypeId}(x:Int)(y:Nat):aw P .add t (.val (.int .i64 x)) (.val (nI y)) =some (vp (.val (.int .i64 (IntKind.i64.wrap (x+((y:Nat):Int)))))):=by
 simp only[nI,bu,bX,ne_eq,not_true_eq_false,if_false,Option.map_some]
theorem GE {P:Program}{t:TypeId}(x:Int)(y:Nat):aw P .sub t (.val (.int .i64 x)) (.val (nI y)) =some (vp (.val (.int .i64 (IntKind.i64.wrap (x - ((y:Nat):Int)))))):=by
 simp only[nI,bu,bX,ne_eq,not_true_eq_false,if_false,Option.map_some]
theorem iT (l:List ab)(y:Nat):jZ (cl eC l) l.length (2,y) =sl eC .no l:=jF eC y l _ rfl
theorem iU (l:List ab)(k:Nat)(x:ab)(y:Nat):jZ (cl eC (l.set k x)) l.length (2,y) =sl eC .no (l.set k x):=jF eC y _ _ (by simp)
theorem iV (l:List ab)(x:ab)(y:Nat):jZ (cl eC (l++[x])) (l.length+1) (2,y) =sl eC .no (l++[x]):=jF eC y _ _ (by simp)
theorem iW (l:List ba)(y:Nat):jZ (cl dC l) l.length (16,y) =sl dC .no l:=jF dC y l _ rfl
theorem iX (l:List ba)(k:Nat)(x:ba)(y:Nat):jZ (cl dC (l.set k x)) l.length (16,y) =sl dC .no (l.set k x):=jF dC y _ _ (by simp)
theorem iY (l:List ba)(x:ba)(y:Nat):jZ (cl dC (l++[x])) (l.length+1) (16,y) =sl dC .no (l++[x]):=jF dC y _ _ (by simp)
theorem CX {α:Type}{l:List α}{k:Nat}(h:k< l.length):l.length - 1= (l.take k++l.drop (k+1)).length:=by rw[List.length_append,List.length_take,List.length_drop];omega
theorem Vm {α:Type}(f:α→List C){s:Nat}[hf:Cel f s]{l:List α}{k:Nat}(h:k< l.length)(y:Nat):jZ (cl f (l.take k++l.drop (k+1))) (l.length - 1) (s,y) =sl f .no (l.take k++l.drop (k+1)):=jF f y _ _ (CX h)
theorem Vn {α:Type}(f:α→List C){s:Nat}[hf:Cel f s]{l:List α}{k:Nat}(h:k< l.length)(y:Nat):jZ (cl f (l.take k++l.drop (k+1)++l.drop (l.length - 1))) (l.length - 1) (s,y) =sl f .no (l.take k++l.drop (k+1)):=by
 have e:=CX h
 have hl:=bm (f:=f) (l.take k++l.drop (k+1))
 have hl2:=bm (f:=f) (l.take k++l.drop (k+1)++l.drop (l.length - 1))
 have hl3: (l.take k++l.drop (k+1)++l.drop (l.length - 1)).length= (l.take k++l.drop (k+1)).length+(l.drop (l.length - 1)).length:=List.length_append
 rw[hl3,Nat.add_mul] at hl2
 unfold jZ
 simp only[]
 rw[if_pos (by rw[hl2,e];omega),iq,List.take_append_of_le_length (by rw[hl,e];exact Nat.le_refl _),List.take_of_length_le (by rw[hl,e];exact Nat.le_refl _),e];rfl
theorem zK {α:Type}(f:α→List C){s:Nat}[hf:Cel f s](y:Nat)(z:List Value)(k:Nat)(l:List α)(h:z.length=s∧z.all (·.oneCell') =true∧k< l.length∧l.length≤1000000∧y≤1000):
 Ju s y z k ((k+1)*s) (l.length - (k+1)) (some (cl f l)) =some (cl f (l.drop (k+1))):=by
 obtain ⟨h1,h2,h3,h4,h5⟩:=h
 have hl:=bm (f:=f) l
 have hd:=bm (f:=f) (l.drop (k+1))
 rw[List.length_drop] at hd
 have e0: (k+1)*s+(l.length - (k+1))*s=l.length*s:=by rw[←Nat.add_mul];congr 1;omega
 have e: ((List.drop ((k+1)*s) (cl f l)).take ((l.length - (k+1))*s)).map C.noR=cl f (l.drop (k+1)):=by
  rw[gi,List.take_of_length_le (by omega),fu]
 have hb: (k+(l.length - (k+1)))*y≤1000000*1000:=Nat.mul_le_mul (by omega) h5
 unfold Ju
 simp only[Option.bind_some]
 rw[e,if_pos ⟨by omega,by simp only[decide_eq_true_eq];exact ⟨hd,hf.pos,h1,by omega,by omega,h2⟩⟩]
theorem NQ (j:Nat)(S:List ba)(h:j< S.length∧S.length≤1000000):Ju 16 16 (List.replicate 16 (w8 (UInt8.ofNat 0))) j ((j+1)*16) (S.length - (j+1)) (some (cl dC S)) =some (cl dC (S.drop (j+1))):=zK dC 16 _ j S ⟨rfl,rfl,h.1,h.2,by omega⟩
theorem NS (k:Nat)(l:List ab)(h:k< l.length∧l.length≤1000000):Ju 2 32 [str [],str []] k ((k+1)*2) (l.length - (k+1)) (some (cl eC l)) =some (cl eC (l.drop (k+1))):=zK eC 32 _ k l ⟨rfl,rfl,h.1,h.2,by omega⟩
section
variable (cx:Cx) (apps:List Nat) (dsts:List (Option Nat)) (l:List Oper) (id':Nat) (d:Option Nat) (e:List (Nat×C)) (h:Hp) (fs:List FP) (K:List FP→St→Prop)
theorem GF {α:Type}(f:α→List C){s:Nat}[hf:Cel f s](e' b k:Nat)(xs:List α)(hk:k< xs.length∧(k≠0∨xs.length=1)):
 oU cx apps dsts l id' d e h fs K b k (s,e') (xs.length - (k+1)) (cl f (xs.drop (k+1))) (some (cl f xs)) =run cx apps dsts l id' (fD d (.gv b (xs.length - 1) (s,e')) e) (h.set b (some (cl f (xs.take k++xs.drop (k+1)++xs.drop (xs.length - 1))))) ((4,0)::fs) K:=by
 have hl:=bm (f:=f) xs
 have hd:=bm (f:=f) (xs.drop (k+1))
 rw[List.length_drop] at hd
 unfold oU
 simp only[]
 rw[if_pos ⟨by rw[hl];exact Nat.mul_le_mul_right s (by omega),by omega⟩,show k+(xs.length - (k+1)) =xs.length - 1 by omega,fu]
 have e1:splice (cl f xs) (k*s) (cl f (xs.drop (k+1))) =cl f (xs.take k++xs.drop (k+1)++xs.drop (xs.length - 1)):=by
  unfold splice
  rw[hd,←Nat.add_mul,show k+(xs.length - (k+1)) =xs.length - 1 by omega,gi,iI,iq,iq]
 rw[e1]
theorem GG {α:Type}(f:α→List C){s:Nat}[hf:Cel f s](e' b k:Nat)(xs:List α)(hk:k=0∧1< xs.length):
 oU cx apps dsts l id' d e h fs K b k (s,e') (xs.length - (k+1)) (cl f (xs.drop (k+1))) (some (cl f xs)) =run cx apps dsts l id' (fD d (.gv h.length (xs.length - 1) (s,e')) e) (h.set b (some eb)++[some (cl f (xs.take k++xs.drop (k+1)))]) ((4,0)::fs) K:=by
 obtain ⟨rfl,h1⟩:=hk
 have hl:=bm (f:=f) xs
 have hp:=hf.pos
 have hm:s≤xs.length*s:=by
  have:=Nat.mul_le_mul_right s (show 1≤xs.length by omega)
  omega
 unfold oU
 simp only[]
 rw[if_neg (by omega),if_neg (by rw[hl];omega),if_pos True.intro,fu,Nat.zero_add,List.take_zero,List.nil_append]
end
theorem Vo {y:Int}(h: -9223372036854775808≤y∧y≤9223372036854775807): -9223372036854775808≤y.tdiv ((8:Nat):Int)∧y.tdiv ((8:Nat):Int)≤9223372036854775807:=by
 have h1:=Int.natAbs_tdiv y ((8:Nat):Int)
 have h2:y.natAbs.div (((8:Nat):Int)).natAbs≤y.natAbs:=Nat.div_le_self _ _
 have h3:y.natAbs.div (((8:Nat):Int)).natAbs=y.natAbs / 8:=rfl
 omega
theorem GH {α:Type}[Inhabited α]{f:α→List C}{s:Nat}[hf:Cel f s](l:List α)(k i:Nat)(cs:List C)(a':α)(hk:k< l.length)(hi:i+cs.length≤s)(h:splice (f (gt l k)) i cs=f a'):splice (cl f l) (k*s+i) cs=cl f (l.set k a'):=by
 have e:l=l.take k++gt l k::l.drop (k+1):=by
  have e1:gt l k=l[k]:=by simp[gt,List.getD,List.getElem?_eq_getElem hk]
  rw[e1,List.getElem_cons_drop,List.take_append_drop]
 have hs:l.set k a'=l.take k++a'::l.drop (k+1):=by rw[List.set_eq_take_append_cons_drop,if_pos hk]
 have hP: (cl f (l.take k)).length=k*s:=by rw[bm (f:=f),List.length_take,Nat.min_eq_left (by omega)]
 have hQ: (f (gt l k)).length=s:=hf.len _
 rw[hs,iq,dO,←h]
 conv=>lhs;rw[e]
 rw[iq,dO]
 generalize cl f (l.take k) =P at*
 generalize f (gt l k) =Q at*
 generalize cl f (l.drop (k+1)) =R
 unfold splice
 rw[List.take_append,List.drop_append,List.take_of_length_le (by omega),hP,Nat.add_sub_cancel_left,List.drop_of_length_le (l:=P) (by omega),show k*s+i+cs.length - k*s=i+cs.length by omega,
  List.take_append_of_le_length (by omega),List.drop_append_of_le_length (by omega)]
 simp only[List.append_assoc,List.nil_append]
theorem zL {α:Type}[Inhabited α]{f:α→List C}{s:Nat}[hf:Cel f s](l:List α)(k i:Nat)(c:C)(a':α)(hk:k< l.length)(hi:i< s)(h:splice (f (gt l k)) i [c] =f a'):eL (cl f l) (k*s+i) [c] =some (cl f (l.set k a'),.val undef):=by
 unfold eL
 have:=Nat.mul_le_mul_right s (show k+1≤l.length by omega)
 rw[Nat.add_mul] at this
 rw[if_pos (by rw[bm (f:=f)];simp only[List.length_singleton];omega),GH l k i [c] a' hk (by simp only[List.length_singleton];omega) h]
theorem QJ (y:Int):dV 4 (cl iC ((List.map Int.ofNat (List.replicate 4 0)).set 0 y)) [(1,.val (nI 4096)),(2,.val (nI 4097)),(3,.val (.int .i64 (-1)))] =some (vp (sl iC .full [y,4096,4097,-1])):=rfl
theorem GI {α:Type}[Inhabited α]{l:List α}{i:Nat}(h:i< l.length):gt l i=l[i]:=by simp[gt,List.getD,List.getElem?_eq_getElem h]
theorem Vp (S:List ba)(j i:Nat)(hj:j< S.length)(hi:i< 16):dH (cl dC S) (j*16+i) =some (.val (w8 (gt (gt S j).1 i))):=by
 have e:gt S j=S[j]:=by simp[gt,List.getD,List.getElem?_eq_getElem hj]
 have e2: (gt S j).1.length=16:=(gt S j).2
 have e3:gt (gt S j).1 i= (gt S j).1[i]:=GI (by omega)
 unfold dH
 rw[lQ (f:=dC) S j i hi,List.getElem?_eq_getElem hj,←e]
 show ((cl bC (gt S j).1)[i]?).map C.noR=_
 have h1:=lQ (f:=bC) (gt S j).1 i 0 (by decide)
 rw[Nat.mul_one,Nat.add_zero] at h1
 rw[h1,List.getElem?_eq_getElem (by omega),e3];rfl
theorem Vq (S:List ba)(j i:Nat)(x:UInt8)(hj:j< S.length)(hi:i< 16):eL (cl dC S) (j*16+i) [.val (w8 x)] =some (cl dC (S.set j (J2 (gt S j) i x)),.val undef):=
 zL (f:=dC) S j i _ _ hj hi (by
  have e2: (gt S j).1.length=16:=(gt S j).2
  have h1:=mC (f:=bC) (gt S j).1 i x (by omega)
  rw[Nat.mul_one] at h1
  exact h1)
theorem Vr (l:List ab)(k:Nat)(x:List UInt8)(h:k< l.length):eL (cl eC l) (k*2) [.val (str x)] =some (cl eC (l.set k (x,(gt l k).2)),.val undef):=zL (f:=eC) l k 0 _ (x,(gt l k).2) h (by decide) rfl
theorem Vs (l:List ab)(k:Nat)(x:List UInt8)(h:k< l.length):eL (cl eC l) (k*2+1) [.val (str x)] =some (cl eC (l.set k ((gt l k).1,x)),.val undef):=zL (f:=eC) l k 1 _ ((gt l k).1,x) h (by decide) rfl
abbrev m9 (x:Int):Int:=IntKind.i64.wrap x
abbrev fB:=Int×Int×List ab×List ba
def bZ (p:fB)(w y:Int):fB:=
 match aG w 11 with
 |0=>(m9 (m9 (p.1+((aG y 5:Nat):Int)) - ((2:Nat):Int)),p.2)
 |1=>(p.1,m9 (m9 (p.2.1+((aG y 5:Nat):Int)) - ((2:Nat):Int)),p.2.2)
 |2=>(p.1,gt [y,4096,4097,-1] (aG y 4),p.2.2)
 |3=>(y,p.2)
 |4=>(p.1,p.2.1,if 0< p.2.2.1.length then p.2.2.1.set (aG y (max p.2.2.1.length 1)) (ef (aG y 40),(gt p.2.2.1 (aG y (max p.2.2.1.length 1))).2) else p.2.2.1,p.2.2.2)
 |5=>(p.1,p.2.1,if 0< p.2.2.1.length then p.2.2.1.set (aG y (max p.2.2.1.length 1)) ((gt p.2.2.1 (aG y (max p.2.2.1.length 1))).1,(gt p.2.2.1 (aG y (max p.2.2.1.length 1))).2++[120]) else p.2.2.1,p.2.2.2)
 |6=>(p.1,p.2.1,if 0< p.2.2.1.length then p.2.2.1.take (aG y (max p.2.2.1.length 1))++p.2.2.1.drop (aG y (max p.2.2.1.length 1)+1) else p.2.2.1,p.2.2.2)
 |7=>(p.1,p.2.1,p.2.2.1++[(ef (aG y 40),[])],p.2.2.2)
 |8=>(p.1,p.2.1,p.2.2.1,if 0< p.2.2.2.length then p.2.2.2.set (aG y (max p.2.2.2.length 1)) (Vl (gt p.2.2.2 (aG y (max p.2.2.2.length 1))) (aG (y.tdiv ((8:Nat):Int)) 16)) else p.2.2.2)
 |9=>(p.1,p.2.1,p.2.2.1,if 0< p.2.2.2.length then p.2.2.2.take (aG y (max p.2.2.2.length 1))++p.2.2.2.drop (aG y (max p.2.2.2.length 1)+1) else p.2.2.2)
 |_=>(p.1,p.2.1,p.2.2.1,p.2.2.2++[Eu])
section
variable {f z w y:Int} {l:List ab} {S:List ba}
theorem GJ (h:aG w 11=0):bZ (f,z,l,S) w y= (m9 (m9 (f+((aG y 5:Nat):Int)) - ((2:Nat):Int)),z,l,S):=by unfold bZ;rw[h];rfl
theorem GK (h:aG w 11=1):bZ (f,z,l,S) w y= (f,m9 (m9 (z+((aG y 5:Nat):Int)) - ((2:Nat):Int)),l,S):=by unfold bZ;rw[h];rfl
theorem GL (h:aG w 11=2):bZ (f,z,l,S) w y= (f,gt [y,4096,4097,-1] (aG y 4),l,S):=by unfold bZ;rw[h];rfl
theorem GM (h:aG w 11=3):bZ (f,z,l,S) w y= (y,z,l,S):=by unfold bZ;rw[h];rfl
theorem GN {k:Nat}(hk:aG y (max l.length 1) =k)(h:aG w 11=4)(h0:0< l.length):bZ (f,z,l,S) w y= (f,z,l.set k (ef (aG y 40),(gt l k).2),S):=by unfold bZ;rw[h,←hk];exact congrArg (fun q=>(f,z,q,S)) (if_pos h0)
theorem GO {k:Nat}(hk:aG y (max l.length 1) =k)(h:aG w 11=5)(h0:0< l.length):bZ (f,z,l,S) w y= (f,z,l.set k ((gt l k).1,(gt l k).2++[120]),S):=by unfold bZ;rw[h,←hk];exact congrArg (fun q=>(f,z,q,S)) (if_pos h0)
theorem GP {k:Nat}(hk:aG y (max l.length 1) =k)(h:aG w 11=6)(h0:0< l.length):bZ (f,z,l,S) w y= (f,z,l.take k++l.drop (k+1),S):=by unfold bZ;rw[h,←hk];exact congrArg (fun q=>(f,z,q,S)) (if_pos h0)
theorem nA (h:aG w 11=4∨aG w 11=5∨aG w 11=6)(h0:¬0< l.length):bZ (f,z,l,S) w y= (f,z,l,S):=by
 unfold bZ
 rcases h with h|h|h<;> (rw[h];exact congrArg (fun q=>(f,z,q,S)) (if_neg h0))
theorem GQ (h:aG w 11=7):bZ (f,z,l,S) w y= (f,z,l++[(ef (aG y 40),[])],S):=by unfold bZ;rw[h];rfl
theorem GR {j:Nat}(hj:aG y (max S.length 1) =j)(h:aG w 11=8)(h0:0< S.length):bZ (f,z,l,S) w y= (f,z,l,S.set j (Vl (gt S j) (aG (y.tdiv ((8:Nat):Int)) 16))):=by unfold bZ;rw[h,←hj];exact congrArg (fun q=>(f,z,l,q)) (if_pos h0)
theorem GS {j:Nat}(hj:aG y (max S.length 1) =j)(h:aG w 11=9)(h0:0< S.length):bZ (f,z,l,S) w y= (f,z,l,S.take j++S.drop (j+1)):=by unfold bZ;rw[h,←hj];exact congrArg (fun q=>(f,z,l,q)) (if_pos h0)
theorem tK (h:aG w 11=8∨aG w 11=9)(h0:¬0< S.length):bZ (f,z,l,S) w y= (f,z,l,S):=by
 unfold bZ
 rcases h with h|h<;> (rw[h];exact congrArg (fun q=>(f,z,l,q)) (if_neg h0))
theorem CY (h:aG w 11=10):bZ (f,z,l,S) w y= (f,z,l,S++[Eu]):=by unfold bZ;rw[h];rfl
end
theorem bU {p:Prop}(e:p:=by intro KZ hZ;simp -implicitDefEqProofs (maxSteps:=2000000) (disch:=first|omega| (simp only[go_sem,lA,lD,lT,] <;>omega) |decide) only[go_sem,↓reduceIte,Nat.reduceEqDiff,reduceCtorEq,Nat.reduceLT,Nat.reduceBEq,Nat.reduceAdd,eq_self,decide_true,decide_false,not_true_eq_false,not_false_eq_true,e17a,e17b,e17w,List.length_cons,List.length_nil,q1,q2,hy];with_reducible exact hZ):p:=e
theorem ii {p:Prop}(e:p:=by intro KZ hZ;simp -implicitDefEqProofs (maxSteps:=2000000) (disch:=first|omega| (simp only[go_sem,lA,lD,lT,] <;>omega) |decide) only[go_sem,↓reduceIte,Nat.reduceEqDiff,reduceCtorEq,Nat.reduceLT,Nat.reduceBEq,Nat.reduceAdd,eq_self,decide_true,decide_false,not_true_eq_false,not_false_eq_true,e17a,e17b,e17w,List.length_cons,List.length_nil,q1,q2,hy];with_reducible refine And.intro ?_ hZ;first|exact rfl|decide):p:=e
theorem ec {p:Prop}(e:p:=by simp -implicitDefEqProofs (disch:=first|omega| (simp only[go_sem,lA,lD,lT,] <;>omega) |decide) only[go_sem,↓reduceIte,Nat.reduceEqDiff,reduceCtorEq];all_goals (rw[hR])):p:=e
theorem agw {gl:Nat→C}{M:Nat}{pu:Nat→List C→Option C}(hcx:CxOK (af gl M pu))(h17:∀ (n:Int) (m:Nat),-9223372036854775808≤n∧n≤9223372036854775807∧0< m∧m≤9223372036854775807→pu 17 [.val (.int .i64 n),.val (nI m)] =some (.val (nI (aG n m))))(h49:∀n:Nat,n≤1000000000000→pu 49 [.val (nI n)] =some (.val (str (ef n))))(f z:Int)(l:List ab)(S:List ba)(w y:Int)(hw: -9223372036854775808≤w∧w≤9223372036854775807)(hyy: -9223372036854775808≤y∧y≤9223372036854775807)(hl:l.length≤1000000)(hl2:∀i,i< l.length→(gt l i).1.length≤1000000∧(gt l i).2.length≤1000000)(hS:S.length≤1000000):FC Tryd.prog gl 28 [.agg [.val (.int .i64 f),.val (.int .i64 z),sl eC .no l,sl dC .no S],.val (.int .i64 w),.val (.int .i64 y)] [] (.agg [.val (.int .i64 (bZ (f,z,l,S) w y).1),.val (.int .i64 (bZ (f,z,l,S) w y).2.1),sl eC .no (bZ (f,z,l,S) w y).2.2.1,sl dC .no (bZ (f,z,l,S) w y).2.2.2]) []:=by
 replace hcx:=hcx.reN (M:=170)
 refine aB (cx:=af gl 170 pu) (rs:=[.cell 6 54]) rfl Tryd.func28 rfl rfl rfl (by simp only[List.length_cons,List.length_nil];decide) (by simp only[go_sem]) ?_
 simp only[bq,go_sem]
 have q1:=True.intro
 have q2:=True.intro
 have hy:=True.intro
 have e17a:=h17 y (max l.length 1) ⟨hyy.1,hyy.2,by omega,by omega⟩
 have e17b:=h17 y (max S.length 1) ⟨hyy.1,hyy.2,by omega,by omega⟩
 have e17w:=h17 w 11 ⟨hw.1,hw.2,by omega,by omega⟩
 have e17_5:=h17 y 5 ⟨hyy.1,hyy.2,by omega,by omega⟩
 have e17_4:=h17 y 4 ⟨hyy.1,hyy.2,by omega,by omega⟩
 have e17_40:=h17 y 40 ⟨hyy.1,hyy.2,by omega,by omega⟩
 have hk:=dx y (m:=max l.length 1) (by omega)
 have hj:=dx y (m:=max S.length 1) (by omega)
 obtain ⟨k,hK⟩:∃k,aG y (max l.length 1) =k:=⟨_,rfl⟩
 obtain ⟨j,hJ⟩:∃j,aG y (max S.length 1) =j:=⟨_,rfl⟩
 obtain ⟨c,hC⟩:∃c,aG w 11=c:=⟨_,rfl⟩
 rw[hK] at e17a hk
 rw[hJ] at e17b hj
 rw[hC] at e17w
 have hcl:c< 11:=by rw[←hC];exact dx w (by omega)
 refine Tr.w hcx [] _ [none,none] rfl rfl rfl ?_ bU
 have hy:= @GC
 refine aaM hcx ct [17,21] [14,18] _ [none] rfl rfl rfl rfl ?_ ii
 refine Tr.k [1,2,6,7] ?_
 have hy:=True.intro
 refine Tr.w hcx [1000028] _ [] rfl rfl rfl ?_ bU
 refine Tr.w hcx [1000034] _ [] rfl rfl rfl ?_ bU
 refine aa fun K1 hK1=>?_
 refine Tr.w hcx [] _ [] rfl rfl rfl ?_ bU
 refine Tr.blk ?_
 refine Tr.w hcx [1000044] _ [] rfl rfl rfl ?_ bU
 refine aq rfl (fun hc43=>?_) (fun hc43=>?_)
 ·
  have hR:=GJ (f:=f) (z:=z) (w:=w) (l:=l) (S:=S) (y:=y) (hC.trans hc43)
  have hy:=And.intro @e17_5 (And.intro @GD @GE)
  refine fA hcx ct [] _ [] rfl rfl rfl rfl ?_ ii
  refine hK1 _ ?_
  refine Tr.k [6,7] ?_
  have hy:=True.intro
  refine Tr.w hcx [] _ [] rfl rfl rfl ?_ bU
  refine bW hcx 3 (cl eC (l)) ?_
  try simp only[iT,iU,iV]
  refine bW hcx 4 (cl dC (S)) ?_
  try simp only[iW,iX,iY]
  exact Tr.ret ec
 refine Tr.w hcx [1000053] _ [] rfl rfl rfl ?_ bU
 refine aq rfl (fun hc52=>?_) (fun hc52=>?_)
 ·
  have hR:=GK (f:=f) (z:=z) (w:=w) (l:=l) (S:=S) (y:=y) (hC.trans hc52)
  have hy:=And.intro @e17_5 (And.intro @GD @GE)
  refine fA hcx ct [] _ [] rfl rfl rfl rfl ?_ ii
  refine hK1 _ ?_
  refine Tr.k [6,7] ?_
  have hy:=True.intro
  refine Tr.w hcx [] _ [] rfl rfl rfl ?_ bU
  refine bW hcx 3 (cl eC (l)) ?_
  try simp only[iT,iU,iV]
  refine bW hcx 4 (cl dC (S)) ?_
  try simp only[iW,iX,iY]
  exact Tr.ret ec
 refine Tr.w hcx [1000062] _ [] rfl rfl rfl ?_ bU
 refine aq rfl (fun hc61=>?_) (fun hc61=>?_)
 ·
  have hR:=GL (f:=f) (z:=z) (w:=w) (l:=l) (S:=S) (y:=y) (hC.trans hc61)
  obtain ⟨Q,hQ⟩:∃Q,[y,4096,4097,-1] =Q:=⟨_,rfl⟩
  have hQl:Q.length=4:=by rw[←hQ];rfl
  have hmk:=QJ y
  rw[hQ] at hR hmk
  have h4:=dx y (m:=4) (by omega)
  have hix:=fun (u:TypeDesc) (yy:Nat) (zz:List Value) =>oM iC u yy zz (aG y 4) Q (by omega)
  rw[hQl] at hix
  have hy:=And.intro @e17_4 (And.intro @hmk (And.intro @hQl (And.intro @h4 @hix)))
  refine Tr.v hcx [] _ [] rfl rfl rfl ?_ bU
  refine hK1 _ ?_
  refine Tr.k [6,7] ?_
  have hy:=True.intro
  refine Tr.w hcx [] _ [] rfl rfl rfl ?_ bU
  refine bW hcx 3 (cl eC (l)) ?_
  try simp only[iT,iU,iV]
  refine bW hcx 4 (cl dC (S)) ?_
  try simp only[iW,iX,iY]
  exact Tr.ret ec
 refine Tr.w hcx [1000071] _ [] rfl rfl rfl ?_ bU
 refine Tr.k [2,6,7,8,9,36,70] ?_
 refine aq rfl (fun hc70=>?_) (fun hc70=>?_)
 ·
  have hR:=GM (f:=f) (z:=z) (w:=w) (l:=l) (S:=S) (y:=y) (hC.trans hc70)
  refine Tr.v hcx [] _ [] rfl rfl rfl ?_ bU
  refine hK1 _ ?_
  refine Tr.w hcx [] _ [] rfl rfl rfl ?_ bU
  refine bW hcx 3 (cl eC (l)) ?_
  try simp only[iT,iU,iV]
  refine bW hcx 4 (cl dC (S)) ?_
  try simp only[iW,iX,iY]
  exact Tr.ret ec
 refine Tr.w hcx [1000075] _ [] rfl rfl rfl ?_ bU
 refine aq rfl (fun hc74=>?_) (fun hc74=>?_)
 ·
  refine Tr.w hcx [] _ [] rfl rfl rfl ?_ bU
  refine aq rfl (fun hc79=>?_) (fun hc79=>?_)
  ·
   have hR:=GN (f:=f) (z:=z) (w:=w) (l:=l) (S:=S) (y:=y) hK (hC.trans hc74) hc79
   have hkl:k< l.length:=by omega
   have e49:=h49 (aG y 40) (by have:=dx y (m:=40) (by omega);omega)
   have w0:=fun x=>Vr l k x hkl
   have hy:=And.intro @e17_40 (And.intro @e49 (And.intro @hkl @w0))
   refine fA hcx ct [] _ [] rfl rfl rfl rfl ?_ ii
   refine hK1 _ ?_
   have hy:=True.intro
   refine Tr.w hcx [] _ [] rfl rfl rfl ?_ bU
   refine bW hcx 3 (cl eC (l.set k (ef (aG y 40),(gt l k).2))) ?_
   try simp only[iT,iU,iV]
   refine bW hcx 4 (cl dC (S)) ?_
   try simp only[iW,iX,iY]
   exact Tr.ret ec
  have hR:=nA (f:=f) (z:=z) (w:=w) (l:=l) (S:=S) (y:=y) (Or.inl (hC.trans hc74)) hc79
  refine Tr.skip ?_
  refine hK1 _ ?_
  refine Tr.w hcx [] _ [] rfl rfl rfl ?_ bU
  refine bW hcx 3 (cl eC (l)) ?_
  try simp only[iT,iU,iV]
  refine bW hcx 4 (cl dC (S)) ?_
  try simp only[iW,iX,iY]
  exact Tr.ret ec
 refine Tr.w hcx [1000089] _ [] rfl rfl rfl ?_ bU
 refine aq rfl (fun hc88=>?_) (fun hc88=>?_)
 ·
  refine Tr.w hcx [] _ [] rfl rfl rfl ?_ bU
  refine aq rfl (fun hc93=>?_) (fun hc93=>?_)
  ·
   have hR:=GO (f:=f) (z:=z) (w:=w) (l:=l) (S:=S) (y:=y) hK (hC.trans hc88) hc93
   have hkl:k< l.length:=by omega
   have w1:=fun x=>Vs l k x hkl
   have x1b:=tA l k hkl
   have hb2:=(hl2 k hkl).2
   have hy:=And.intro @hkl (And.intro @w1 @x1b)
   refine fA hcx ct [] _ [] rfl rfl rfl rfl ?_ ii
   refine hK1 _ ?_
   refine Tr.k [6,7] ?_
   have hy:=True.intro
   refine Tr.w hcx [] _ [] rfl rfl rfl ?_ bU
   refine bW hcx 3 (cl eC (l.set k ((gt l k).1,(gt l k).2++[120]))) ?_
   try simp only[iT,iU,iV]
   refine bW hcx 4 (cl dC (S)) ?_
   try simp only[iW,iX,iY]
   exact Tr.ret ec
  have hR:=nA (f:=f) (z:=z) (w:=w) (l:=l) (S:=S) (y:=y) (Or.inr (Or.inl (hC.trans hc88))) hc93
  refine Tr.skip ?_
  refine hK1 _ ?_
  refine Tr.w hcx [] _ [] rfl rfl rfl ?_ bU
  refine bW hcx 3 (cl eC (l)) ?_
  try simp only[iT,iU,iV]
  refine bW hcx 4 (cl dC (S)) ?_
  try simp only[iW,iX,iY]
  exact Tr.ret ec
 refine Tr.w hcx [1000107] _ [] rfl rfl rfl ?_ bU
 refine aq rfl (fun hc106=>?_) (fun hc106=>?_)
 ·
  refine Tr.w hcx [] _ [] rfl rfl rfl ?_ bU
  refine aq rfl (fun hc111=>?_) (fun hc111=>?_)
  ·
   have hR:=GP (f:=f) (z:=z) (w:=w) (l:=l) (S:=S) (y:=y) hK (hC.trans hc106) hc111
   have hkl:k< l.length:=by omega
   by_cases q1:k< 1∧1< l.length
   ·
    have q22:=fun cx apps dsts lo id d e h fs K e9 b=>GG cx apps dsts lo id d e h fs K eC e9 b k l ⟨by omega,q1.2⟩
    have hy:=And.intro @NS (And.intro @hkl @q22)
    refine p6 hcx ct [121] [115] _ [] rfl rfl rfl rfl ?_ ii
    refine hK1 _ ?_
    refine Tr.k [6,7] ?_
    have hy:=True.intro
    refine Tr.w hcx [] _ [] rfl rfl rfl ?_ bU
    refine bW hcx 5 (cl eC (l.take k++l.drop (k+1))) ?_
    try simp only[Vm eC hkl]
    refine bW hcx 4 (cl dC (S)) ?_
    try simp only[iW,iX,iY]
    exact Tr.ret ec
   have q22:=fun cx apps dsts lo id d e h fs K e9 b=>GF cx apps dsts lo id d e h fs K eC e9 b k l ⟨hkl,by omega⟩
   have hy:=And.intro @NS (And.intro @hkl @q22)
   refine p6 hcx ct [121] [115] _ [] rfl rfl rfl rfl ?_ ii
   refine hK1 _ ?_
   refine Tr.k [6,7] ?_
   have hy:=True.intro
   refine Tr.w hcx [] _ [] rfl rfl rfl ?_ bU
   refine bW hcx 3 (cl eC (l.take k++l.drop (k+1)++l.drop (l.length - 1))) ?_
   try simp only[Vn eC hkl]
   refine bW hcx 4 (cl dC (S)) ?_
   try simp only[iW,iX,iY]
   exact Tr.ret ec
  have hR:=nA (f:=f) (z:=z) (w:=w) (l:=l) (S:=S) (y:=y) (Or.inr (Or.inr (hC.trans hc106))) hc111
  refine Tr.skip ?_
  refine hK1 _ ?_
  refine Tr.w hcx [] _ [] rfl rfl rfl ?_ bU
  refine bW hcx 3 (cl eC (l)) ?_
  try simp only[iT,iU,iV]
  refine bW hcx 4 (cl dC (S)) ?_
  try simp only[iW,iX,iY]
  exact Tr.ret ec
 refine Tr.w hcx [1000124] _ [] rfl rfl rfl ?_ bU
 refine aq rfl (fun hc123=>?_) (fun hc123=>?_)
 ·
  have hR:=GQ (f:=f) (z:=z) (w:=w) (l:=l) (S:=S) (y:=y) (hC.trans hc123)
  have e49:=h49 (aG y 40) (by have:=dx y (m:=40) (by omega);omega)
  have hy:=And.intro @e17_40 @e49
  refine p6 hcx ct [132] [126] _ [] rfl rfl rfl rfl ?_ ii
  refine hK1 _ ?_
  have hy:=True.intro
  refine Tr.w hcx [] _ [] rfl rfl rfl ?_ bU
  refine bW hcx 5 (cl eC (l++[(ef (aG y 40),[])])) ?_
  try simp only[iT,iU,iV]
  refine bW hcx 4 (cl dC (S)) ?_
  try simp only[iW,iX,iY]
  exact Tr.ret ec
 refine Tr.w hcx [1000135] _ [] rfl rfl rfl ?_ bU
 refine aq rfl (fun hc134=>?_) (fun hc134=>?_)
 ·
  refine Tr.w hcx [] _ [] rfl rfl rfl ?_ bU
  refine aq rfl (fun hc139=>?_) (fun hc139=>?_)
  ·
   have hR:=GR (f:=f) (z:=z) (w:=w) (l:=l) (S:=S) (y:=y) hJ (hC.trans hc134) hc139
   have hjl:j< S.length:=by omega
   have e16:=h17 (y.tdiv ((8:Nat):Int)) 16 ⟨by have:=Vo hyy;omega,by have:=Vo hyy;omega,by omega,by omega⟩
   obtain ⟨i,hI⟩:∃i,aG (y.tdiv ((8:Nat):Int)) 16=i:=⟨_,rfl⟩
   have hi16:i< 16:=by rw[←hI];exact dx _ (by omega)
   rw[hI] at e16 hR
   have g1:=Vp S j i hjl hi16
   have g2:=fun x=>Vq S j i x hjl hi16
   have hy:=And.intro @e16 (And.intro @g1 (And.intro @g2 (And.intro @hjl @hi16)))
   refine fA hcx ct [] _ [] rfl rfl rfl rfl ?_ ii
   refine hK1 _ ?_
   refine Tr.k [6,7] ?_
   have hy:=True.intro
   refine Tr.w hcx [] _ [] rfl rfl rfl ?_ bU
   refine bW hcx 3 (cl eC (l)) ?_
   try simp only[iT,iU,iV]
   refine bW hcx 4 (cl dC (S.set j (J2 (gt S j) i (gt (gt S j).1 i ^^^ UInt8.ofNat 1)))) ?_
   try simp only[iW,iX,iY]
   exact Tr.ret ec
  have hR:=tK (f:=f) (z:=z) (w:=w) (l:=l) (S:=S) (y:=y) (Or.inl (hC.trans hc134)) hc139
  refine Tr.skip ?_
  refine hK1 _ ?_
  refine Tr.w hcx [] _ [] rfl rfl rfl ?_ bU
  refine bW hcx 3 (cl eC (l)) ?_
  try simp only[iT,iU,iV]
  refine bW hcx 4 (cl dC (S)) ?_
  try simp only[iW,iX,iY]
  exact Tr.ret ec
 refine Tr.w hcx [1000153] _ [] rfl rfl rfl ?_ bU
 refine aq rfl (fun hc152=>?_) (fun hc152=>?_)
 ·
  refine Tr.w hcx [] _ [] rfl rfl rfl ?_ bU
  refine aq rfl (fun hc157=>?_) (fun hc157=>?_)
  ·
   have hR:=GS (f:=f) (z:=z) (w:=w) (l:=l) (S:=S) (y:=y) hJ (hC.trans hc152) hc157
   have hjl:j< S.length:=by omega
   by_cases q2:j< 1∧1< S.length
   ·
    have q23:=fun cx apps dsts lo id d e h fs K e9 b=>GG cx apps dsts lo id d e h fs K dC e9 b j S ⟨by omega,q2.2⟩
    have hy:=And.intro @NQ (And.intro @hjl @q23)
    refine p6 hcx ct [167] [161] _ [] rfl rfl rfl rfl ?_ ii
    refine hK1 _ ?_
    refine Tr.k [6,7] ?_
    have hy:=True.intro
    refine Tr.w hcx [] _ [] rfl rfl rfl ?_ bU
    refine bW hcx 3 (cl eC (l)) ?_
    try simp only[iT,iU,iV]
    refine bW hcx 5 (cl dC (S.take j++S.drop (j+1))) ?_
    try simp only[Vm dC hjl]
    exact Tr.ret ec
   have q23:=fun cx apps dsts lo id d e h fs K e9 b=>GF cx apps dsts lo id d e h fs K dC e9 b j S ⟨hjl,by omega⟩
   have hy:=And.intro @NQ (And.intro @hjl @q23)
   refine p6 hcx ct [167] [161] _ [] rfl rfl rfl rfl ?_ ii
   refine hK1 _ ?_
   refine Tr.k [6,7] ?_
   have hy:=True.intro
   refine Tr.w hcx [] _ [] rfl rfl rfl ?_ bU
   refine bW hcx 3 (cl eC (l)) ?_
   try simp only[iT,iU,iV]
   refine bW hcx 4 (cl dC (S.take j++S.drop (j+1)++S.drop (S.length - 1))) ?_
   try simp only[Vn dC hjl]
   exact Tr.ret ec
  have hR:=tK (f:=f) (z:=z) (w:=w) (l:=l) (S:=S) (y:=y) (Or.inr (hC.trans hc152)) hc157
  refine Tr.skip ?_
  refine hK1 _ ?_
  refine Tr.w hcx [] _ [] rfl rfl rfl ?_ bU
  refine bW hcx 3 (cl eC (l)) ?_
  try simp only[iT,iU,iV]
  refine bW hcx 4 (cl dC (S)) ?_
  try simp only[iW,iX,iY]
  exact Tr.ret ec
 have hR:=CY (f:=f) (z:=z) (w:=w) (l:=l) (S:=S) (y:=y) (by omega)
 refine afi hcx [41] [38] _ [] rfl rfl rfl ?_ bU
 refine hK1 _ ?_
 refine Tr.w hcx [] _ [] rfl rfl rfl ?_ bU
 refine bW hcx 3 (cl eC (l)) ?_
 try simp only[iT,iU,iV]
 refine bW hcx 5 (cl dC (S++[Eu])) ?_
 try simp only[iW,iX,iY]
 exact Tr.ret ec
end Go.Sx
namespace Go.Sx
theorem afo (m:Nat):m< 256 ^ (le m).length:=by
 induction m using Nat.strongRecOn with
 |_ m ih=>
  by_cases h:m=0
  . subst h;rw[jw];decide
  . have:=ih (m / 256) (Nat.div_lt_self (by omega) (by decide))
    rw[ma m h,List.length_cons,Nat.pow_succ]
    omega
theorem JD (f:UInt8):∀ (k m:Nat),m< 256 ^ k→bH f ((be m k).map (· ^^^ f)) =m
 |0,m,h=>by
  have:m=0:=by simpa using h
  subst this;rfl
 |k+1,m,h=>by
  have e:m=m / 256*256+m % 256:=by omega
  have h2:m / 256< 256 ^ k:=by rw[Nat.pow_succ] at h;exact Nat.div_lt_of_lt_mul (by omega)
  have h3:m % 256< 256:=Nat.mod_lt _ (by decide)
  conv=>lhs;rw[e]
  rw[Ea _ _ _ h3,List.map_append,List.map_cons,List.map_nil,lc,JD f k _ h2,UInt8.xor_assoc,UInt8.xor_self,UInt8.xor_zero]
  have: (UInt8.ofNat (m % 256)).toNat=m % 256:=by show (m % 256) % 256=m % 256;omega
  omega
theorem TX (f:UInt8)(hf:f=0∨f=255)(L:Nat)(h:L≤8):ao (UInt8.ofNat (128+L) ^^^ f) =f:=by
 have:∀L< 9,ao (UInt8.ofNat (128+L) ^^^ 0) =0∧ao (UInt8.ofNat (128+L) ^^^ 255) =255:=by decide
 rcases hf with rfl|rfl
 . exact (this L (by omega)).1
 . exact (this L (by omega)).2
theorem Ec (m:Nat)(f:UInt8)(hf:f=0∨f=255)(hm:m< 9223372036854775808)(t:List UInt8):ag (wI m f++t) = (if f=255 then -1 - (m:Int) else (m:Int),(le m).length+1,0):=by
 have hL: (le m).length≤8:=ey 8 m (by omega)
 have hfl:=TX f hf _ hL
 have hk:iA (UInt8.ofNat (128+(le m).length) ^^^ f) = (le m).length:=by
  unfold iA
  rw[hfl,UInt8.xor_assoc,UInt8.xor_self,UInt8.xor_zero]
  show (128+(le m).length) % 256 - 128=_
  omega
 have hbl: ((be m (le m).length).map (· ^^^ f)).length= (le m).length:=by rw[List.length_map,ga]
 have htk: ((be m (le m).length).map (· ^^^ f)++t).take (le m).length= (be m (le m).length).map (· ^^^ f):=by
  rw[List.take_append_of_le_length (by omega),List.take_of_length_le (by omega)]
 have hac:bH (ao (UInt8.ofNat (128+(le m).length) ^^^ f)) (((be m (le m).length).map (· ^^^ f)++t).take (le m).length) =m:=by
  rw[hfl,htk];exact JD f _ m (afo m)
 have hrl: (le m).length≤((be m (le m).length).map (· ^^^ f)++t).length:=by rw[List.length_append];omega
 have h3:=(Qj hk hL hrl).1 (by rw[hac,htk,hfl];rfl)
 have h128:=Cu (UInt8.ofNat (128+(le m).length) ^^^ f)
 show ag ((UInt8.ofNat (128+(le m).length) ^^^ f):: ((be m (le m).length).map (· ^^^ f)++t)) =_
 rcases hf with rfl|rfl
 . have hx:¬ (UInt8.ofNat (128+(le m).length) ^^^ 0:UInt8) < 128:=by
    intro hx
    have:=hfl
    unfold ao at this
    rw[if_pos hx] at this
    exact absurd this (by decide)
   rw[qd hk (by omega) (by rw[List.length_cons];omega) h3 (by rw[hac];omega) hx,hac]
   rfl
 . have hx: (UInt8.ofNat (128+(le m).length) ^^^ 255:UInt8) < 128:=by
    apply Classical.byContradiction
    intro hx
    have:=hfl
    unfold ao at this
    rw[if_neg hx] at this
    exact absurd this (by decide)
   rw[qc hk (by omega) (by rw[List.length_cons];omega) h3 (by rw[hac];omega) hx,hac]
   rfl
theorem JE (m:Nat)(f:UInt8): (wI m f).length= (le m).length+1:=by unfold wI;rw[List.length_cons,List.length_map,ga]
theorem jH (n:Int)(hn: -9223372036854775808≤n∧n≤9223372036854775807)(t:List UInt8):ag (aA n++t) = (n,(aA n).length,0):=by
 rcases Int.lt_or_le n 0 with h|h
 . obtain ⟨m,hm⟩:∃m:Nat,n= -1 - (m:Int):=⟨(-1 - n).toNat,by omega⟩
   subst hm
   have hL: (le m).length≤8:=ey 8 m (by omega)
   rw[mb m hL,Ec m 255 (.inr rfl) (by omega),JE,if_pos rfl]
 . obtain ⟨m,hm⟩:∃m:Nat,n= (m:Int):=⟨n.toNat,by omega⟩
   subst hm
   rw[gC,Ec m 0 (.inl rfl) (by omega),JE,if_neg (by decide)]
end Go.Sx
