/-
   And what follows.
-/
import Derived.Test.YtmoaeemdlompaaaDoorPao
import Derived.Test.YtmoaeemdlompaaaDoorPaa
set_option linter.unusedSimpArgs false
set_option linter.unusedVariables false
namespace Go.Sx
open Go.RowKit
mutual
theorem Ps (n:Nat):∀x:C,bS (fun i=>i - n) (bS (n+ ·) x) =x
 | .sv b o m=>by simp only[bS,Nat.add_sub_cancel_left]
 | .gv b m s=>by simp only[bS,Nat.add_sub_cancel_left]
 | .bp b o=>by simp only[bS,Nat.add_sub_cancel_left]
 | .mp b=>by simp only[bS,Nat.add_sub_cancel_left]
 | .bt b t m=>by simp only[bS,Nat.add_sub_cancel_left]
 | .sl r m xs=>by simp only[bS,bks_inv n xs]
 | .kp xs=>by simp only[bS,bks_inv n xs]
 | .agg xs=>by simp only[bS,bks_inv n xs]
 | .tup xs=>by simp only[bS,bks_inv n xs]
 | .fn f xs=>by simp only[bS,bks_inv n xs]
 | .top=>by simp only[bS]
 | .val v=>by simp only[bS]
theorem bks_inv (n:Nat):∀l:List C,bkCs (fun i=>i - n) (bkCs (n+ ·) l) =l
 | [] =>by simp only[bkCs]
 |x::l=>by simp only[bkCs,Ps n x,bks_inv n l]
end
theorem qp {n:Nat}{l m:List C}(h:bkCs (n+ ·) l=bkCs (n+ ·) m):l=m:=by
 rw[←bks_inv n l,h,bks_inv]
theorem qq (n:Nat):∀ {h k:Hp},cR n h=cR n k→h=k
 | [],[],_=>rfl
 | [],o::k,e=>by simp[cR] at e
 |o::h,[],e=>by simp[cR] at e
 |o::h,p::k,e=>by
  simp only[gV,List.cons.injEq] at e
  rw[qq n e.2]
  congr 1
  cases o with
  |none=>cases p with
   |none=>rfl
   |some q=>simp at e
  |some r=>cases p with
   |none=>simp at e
   |some q=>simp only[Option.map_some,Option.some.injEq] at e;rw[qp e.1]
theorem rC (r:Nat→Nat):∀ (l:List C)(j:Nat),(bkCs r l)[j]? = (l[j]?).map (bS r)
 | [],j=>by simp[bkCs]
 |x::l,0=>by simp[bkCs]
 |x::l,j+1=>by simp[bkCs,rC r l j]
theorem oc {G:Gh}:∀ {l:List C}{vs:List Value}{x:C},x∈l→RepL G l vs→∃v,Rep G x v
 | [],_,_,h,_=>by cases h
 |y::l,vs,x,h,r=>by
  simp only[RepL] at r
  obtain ⟨v,vs',_,h1,h2⟩:=r
  rcases List.mem_cons.1 h with rfl|h
  . exact ⟨v,h1⟩
  . exact oc h h2
theorem Cb {P:Program}{gl:Nat→C}{f:Nat}{args:List C}{c:C}{h':Hp}(he:iN P f)(b o:Nat)(ha:C.bp b o∈args):FC P gl f args [] c h':=by
 refine ⟨he,fun G w vs W _ _ hr=>?_⟩
 obtain ⟨v,hv⟩:=oc ha hr
 simp only[Rep] at hv
 obtain ⟨blk,h1,_⟩:=hv
 obtain ⟨⟨c,hc⟩,_⟩:=W.dom b blk h1
 cases hc
def OkH (h:Hp):Prop:= ∀o∈h,iF o=true
structure Small (P:Program) (gl:Nat→C) (f:Nat) (α:Type) where
 k:Nat
 j:Nat
 args:α→List C
 X:α→Hp
 r:α→C
 Y:α→Hp
 k0:0< k
 hk:∀a,(X a).length=k
 hy:∀a,(Y a).length=k
 al:∀a,∀o∈X a,((bE o).isSome|| (ec o).isSome) =true
 nr:∀a,noRefs k (args a) =true
 nx:∀a,jM k (X a) =true
 at0:∀a,∃o,(args a)[j]? =some (.bp 0 o)
 inj:∀a b,args a=args b→X a=X b→r a=r b∧Y a=Y b
 fc:∀a,FC P gl f (args a) (X a) (r a) (Y a)
section
variable {P:Program} {gl:Nat→C} {f:Nat} {α:Type}
inductive SmD (α:Type) where
 |n (a:α) (pre suf:Hp) (h1:OkH pre) (h2:OkH suf)
 |e (xs:List C) (h:∃b o,C.bp b o∈xs)
def Small.enc (S:Small P gl f α):SmD α→List C×Hp
 | .n a pre suf _ _=>(bkCs (pre.length+ ·) (S.args a),pre++(cR pre.length (S.X a)++suf))
 | .e xs _=>(xs,[])
def Small.out (S:Small P gl f α):SmD α→C×Hp
 | .n a pre suf _ _=>(bS (gW pre.length S.k suf.length) (S.r a),pre++((S.Y a).map (Option.map (bkCs (gW pre.length S.k suf.length)))++suf))
 | .e _ _=>(.top,[])
theorem nO (n:Nat)(h:Hp): (cR n h).length=h.length:=by simp[cR]
theorem Small.ij (S:Small P gl f α)(x y:SmD α)(h:S.enc x=S.enc y):S.out x=S.out y:=by
 cases x with
 |n a pre suf h1 h2=>
  cases y with
  |n b pre' suf' h1' h2'=>
   simp only[Small.enc,Prod.mk.injEq] at h
   obtain ⟨e1,e2⟩:=h
   have hp:pre.length=pre'.length:=by
    obtain ⟨o,ho⟩:=S.at0 a
    obtain ⟨o',ho'⟩:=S.at0 b
    have g1:=rC (pre.length+ ·) (S.args a) S.j
    have g2:=rC (pre'.length+ ·) (S.args b) S.j
    rw[e1,g2,ho,ho'] at g1
    simp only[Option.map_some,bS,Option.some.injEq,C.bp.injEq,Nat.add_zero] at g1
    exact g1.1.symm
   obtain ⟨e3,e4⟩:=List.append_inj e2 hp
   subst e3
   obtain ⟨e5,e6⟩:=List.append_inj e4 (by rw[nO,nO,S.hk,S.hk])
   obtain ⟨q1,q2⟩:=S.inj a b (qp e1) (qq _ e5)
   subst e6
   simp only[Small.out,q1,q2]
  |e xs hx=>
   exfalso
   simp only[Small.enc,Prod.mk.injEq] at h
   have:=congrArg List.length h.2
   simp only[List.length_append,nO,S.hk,List.length_nil] at this
   have:=S.k0;omega
 |e xs hx=>
  cases y with
  |n b pre' suf' h1' h2'=>
   exfalso
   simp only[Small.enc,Prod.mk.injEq] at h
   have:=congrArg List.length h.2
   simp only[List.length_append,nO,S.hk,List.length_nil] at this
   have:=S.k0;omega
  |e ys hy=>rfl
noncomputable def Small.tab (S:Small P gl f α)(hp:Nat→List C→Hp→Option (C×Hp)):Nat→List C→Hp→Option (C×Hp):=extH hp f (oF S.enc S.out)
theorem e9 {km:TypeId→Value→Bool}{pu:Nat→List C→Option C}{hp:Nat→List C→Hp→Option (C×Hp)}{N M:Nat}(hcx:CxOK ⟨P,N,gl,pu,hp,fun _=>false,km,true⟩)(he:iN P f)(S:Small P gl f α):
 CxOK ⟨P,M,gl,pu,S.tab hp,fun _=>false,km,true⟩:=CxOK.extH hcx fun a=>by
 cases a with
 |n a pre suf h1 h2=>
  have h:=Pq (S.fc a) pre suf h1 h2 (S.al a) (by rw[S.hk];exact S.nr a) (by rw[S.hk];exact JP (S.nx a)) (by rw[S.hk,S.hy];exact Nat.le_refl _) hcx.glo
  rw[S.hk,List.take_of_length_le (by rw[S.hy];exact Nat.le_refl _),List.drop_of_length_le (by rw[S.hy];exact Nat.le_refl _),List.map_nil,List.append_nil] at h
  exact h
 |e xs hx=>
  obtain ⟨b,o,hx⟩:=hx
  exact Cb he b o hx
theorem gC (S:Small P gl f α)(hp:Nat→List C→Hp→Option (C×Hp))(a:α)(pre suf:Hp)(h1:OkH pre)(h2:OkH suf):
 S.tab hp f (bkCs (pre.length+ ·) (S.args a)) (pre++(cR pre.length (S.X a)++suf)) =some (bS (gW pre.length S.k suf.length) (S.r a),pre++((S.Y a).map (Option.map (bkCs (gW pre.length S.k suf.length)))++suf)):=
 (oG _ _).trans (ve S.ij (.n a pre suf h1 h2))
theorem Small.never (S:Small P gl f α)(hp:Nat→List C→Hp→Option (C×Hp))(xs:List C)(h:∃b o,C.bp b o∈xs):S.tab hp f xs [] =some (.top,[]):=
 (oG _ _).trans (ve S.ij (.e xs h))
theorem iG (S:Small P gl f α)(hp:Nat→List C→Hp→Option (C×Hp)){g:Nat}(h:g≠f)(xs:List C)(k:Hp):S.tab hp g xs k=hp g xs k:=so h xs k
end
theorem OkH.nil:OkH []:=fun o h=>by cases h
theorem OkH.cons {o:Option (List C)}{h:Hp}(h1:iF o=true)(h2:OkH h):OkH (o::h):=fun p hp=>by
 rcases List.mem_cons.1 hp with rfl|hp
 . exact h1
 . exact h2 p hp
mutual
theorem JS (r:Nat→Nat):∀c:C,flat c=true→bS r c=c
 | .val _,_=>by simp only[bS]
 | .agg xs,h=>by simp only[flat] at h;simp only[bS,bks_flat r xs h]
 | .tup xs,h=>by simp only[flat] at h;simp only[bS,bks_flat r xs h]
 | .top,h=>by simp[flat] at h
 | .sl _ _ _,h=>by simp[flat] at h
 | .sv _ _ _,h=>by simp[flat] at h
 | .gv _ _ _,h=>by simp[flat] at h
 | .bp _ _,h=>by simp[flat] at h
 | .bt _ _ _,h=>by simp[flat] at h
 | .mp _,h=>by simp[flat] at h
 | .kp _,h=>by simp[flat] at h
 | .fn _ _,h=>by simp[flat] at h
theorem bks_flat (r:Nat→Nat):∀l:List C,flats l=true→bkCs r l=l
 | [],_=>by simp only[bkCs]
 |x::xs,h=>by simp only[flats,Bool.and_eq_true] at h;simp only[bkCs,JS r x h.1,bks_flat r xs h.2]
end
theorem kN (r:Nat→Nat){α:Type}(f:α→List C)[h:Fla f](l:List α):bkCs r (cl f l) =cl f l:=bks_flat r _ (eM f l)
theorem qr (r:Nat→Nat){α:Type}(f:α→List C)[h:Fla f](q:Rt)(l:List α):bS r (sl f q l) =sl f q l:=by unfold sl;simp only[bS,kN]
end Go.Sx
namespace Go.Sx
open Go.RowKit Go.Proofs
set_option maxRecDepth 100000
set_option maxHeartbeats 8000000
noncomputable def dZ (gl:Nat→C)(M:Nat)(pu:Nat→List C→Option C)(hp:Nat→List C→Hp→Option (C×Hp)):Cx:=⟨Tryd.prog,M,gl,pu,hp,fun _=>false,fun _ _=>false,true⟩
section
variable {gl:Nat→C} {M:Nat} {pu:Nat→List C→Option C} {hp:Nat→List C→Hp→Option (C×Hp)}
theorem Rx: (dZ gl M pu hp).P=Tryd.prog:=rfl
theorem Ry: (dZ gl M pu hp).N=M:=rfl
theorem Na: (dZ gl M pu hp).pu=pu:=rfl
theorem Nb: (dZ gl M pu hp).hp=hp:=rfl
theorem Nc (d:Option Nat):jx (dZ gl M pu hp) d=false:=by cases d<;>rfl
end
theorem fL {gl:Nat→C}{M:Nat}{pu:Nat→List C→Option C}{hp:Nat→List C→Hp→Option (C×Hp)}: (dZ gl M pu hp).P.follows .mixedOrders=true:=dR (gl:=gl) (M:=M) (pu:=pu)
attribute [go_sem] Rx Ry Na Nb Nc
abbrev TS:=List (List UInt8)×Nat×Bool
def fj (S:List bL)(st:TS):List UInt8×TS:=if S.length≤st.2.1 then (List.replicate 16 0,(st.1,st.2.1,true)) else ((gt S st.2.1).1,(st.1,st.2.1+1,st.2.2))
def jR (x:ab)(st:TS):List UInt8×TS:=(d5 x,(st.1++[bU 3 [x.1,x.2]],st.2))
def kS (x:List UInt8)(y:List UInt8×TS):List UInt8×TS:=(fJ x y.1,(y.2.1++[bU 4 [x,y.1]],y.2.2))
def aS (l:List ab)(f:Nat)(S:List bL):Nat→Nat→Nat→TS→List UInt8×TS
 |0,a,b,st=>if b≤f∨f+l.length≤a then fj S st else jR (gt l (a - f)) st
 |d+1,a,b,st=>if b≤f∨f+l.length≤a then fj S st else if b - a≤1 then jR (gt l (a - f)) st
   else kS (aS l f S d a (a+aD (b - a)) st).1 (aS l f S d (a+aD (b - a)) b (aS l f S d a (a+aD (b - a)) st).2)
section
variable {l:List ab} {f:Nat} {S:List bL} {d a b:Nat} {st:TS}
theorem eR (h:b≤f∨f+l.length≤a):aS l f S d a b st=fj S st:=by cases d<;>simp only[aS,if_pos h]
theorem eS (h:¬ (b≤f∨f+l.length≤a))(h2:b - a≤1):aS l f S d a b st=jR (gt l (a - f)) st:=by cases d<;>simp only[aS,if_neg h,if_pos h2]
theorem ke (h:¬ (b≤f∨f+l.length≤a))(h2:¬b - a≤1):aS l f S (d+1) a b st=kS (aS l f S d a (a+aD (b - a)) st).1 (aS l f S d (a+aD (b - a)) b (aS l f S d a (a+aD (b - a)) st).2):=by simp only[aS,if_neg h,if_neg h2]
theorem z5 (h:S.length≤st.2.1):fj S st= (List.replicate 16 0,(st.1,st.2.1,true)):=if_pos h
theorem pm (h:¬S.length≤st.2.1):fj S st= ((gt S st.2.1).1,(st.1,st.2.1+1,st.2.2)):=if_neg h
theorem un: (fj S st).1.length=16:=by unfold fj;split;rfl;exact (gt S st.2.1).2
end
theorem om (l:List ab)(f:Nat)(S:List bL):∀d a b st,(aS l f S d a b st).1.length=16
 |0,a,b,st=>by unfold aS;split;exact un;exact cf _
 |d+1,a,b,st=>by
  unfold aS;split
  . exact un
  . split
    . exact cf _
    . exact cp _ _
theorem gI (l:List ab)(f:Nat)(S:List bL):∀d a b st,(aS l f S d a b st).2.1.length+1≤st.1.length+2 ^ (d+1)∧(aS l f S d a b st).2.2.1≤max st.2.1 S.length∧(st.2.1≤(aS l f S d a b st).2.2.1)
 |0,a,b,st=>by
  unfold aS;split
  . unfold fj;split<;> (simp only[];omega)
  . simp only[jR,List.length_append,List.length_singleton];omega
 |d+1,a,b,st=>by
  have e:2 ^ (d+1+1) =2*2 ^ (d+1):=by rw[Nat.pow_succ];omega
  have hp:=Nat.two_pow_pos (d+1)
  unfold aS;split
  . unfold fj;split<;> (simp only[];omega)
  . split
    . simp only[jR,List.length_append,List.length_singleton];omega
    . have h1:=gI l f S d a (a+aD (b - a)) st
      have h2:=gI l f S d (a+aD (b - a)) b (aS l f S d a (a+aD (b - a)) st).2
      simp only[kS,List.length_append,List.length_singleton]
      omega
def dv (l:List ab)(f:Nat)(S:List bL)(n:Nat)(st:TS):List UInt8×TS:=
 if n=0 then (ofT 4 [co ((0:Nat):Int)],(st.1++[bU 4 [co ((0:Nat):Int)]],st.2))
 else let x:=aS l f S 12 0 n st;(ofT 4 [co ((n:Nat):Int),x.1],(x.2.1++[bU 4 [co ((n:Nat):Int),x.1]],x.2.2))
theorem uo {l:List ab}{f:Nat}{S:List bL}{st:TS}{n:Nat}(h:n=0):dv l f S n st= (ofT 4 [co ((n:Nat):Int)],(st.1++[bU 4 [co ((n:Nat):Int)]],st.2)):=by subst h;exact if_pos rfl
theorem pn {l:List ab}{f:Nat}{S:List bL}{st:TS}{n:Nat}(h:¬n=0):dv l f S n st= (ofT 4 [co ((n:Nat):Int),(aS l f S 12 0 n st).1],((aS l f S 12 0 n st).2.1++[bU 4 [co ((n:Nat):Int),(aS l f S 12 0 n st).1]],(aS l f S 12 0 n st).2.2)):=if_neg h
def LZ (l:List ab):Prop:=l.length≤5000∧∀i,i< l.length→(gt l i).1.length< 1000000∧(gt l i).2.length< 1000000
theorem OkL.lz {l:List ab}(h:OkL l):LZ l:=⟨by have:=h.1;omega,fun i hi=>by have:=h.2 i hi;omega⟩
theorem iY (T:List (List UInt8))(S:List bL)(u:Nat)(sh:Bool):jM 1 [some [sl sC (.own 1) T,sl dC .no S,.val (nI u),.val (.bool sh)]] =true:=by simp only[lG,nL,go_sem,Bool.and_self]
theorem up {p:Prop}(e:p:=by intro KZ hZ;simp -implicitDefEqProofs (disch:=first|omega| (simp only[go_sem,lA,lD,lT,cS,hsl] <;>omega) |decide) only[go_sem,↓reduceIte,Nat.reduceEqDiff,reduceCtorEq,Nat.reduceLT,Nat.reduceBEq,Nat.reduceAdd,e65,e64,hy];with_reducible exact hZ):p:=e
theorem Nd {p:Prop}(e:p:=by intro KZ hZ;simp -implicitDefEqProofs (disch:=first|omega| (simp only[go_sem,lA,lD,lT,cS,hsl] <;>omega) |decide) only[go_sem,↓reduceIte,Nat.reduceEqDiff,reduceCtorEq,Nat.reduceLT,Nat.reduceBEq,Nat.reduceAdd,e65,e64,hy];with_reducible refine And.intro ?_ hZ;first|exact rfl|decide):p:=e
theorem Nf {p:Prop}(e:p:=by simp -implicitDefEqProofs (disch:=first|omega| (simp only[go_sem,lA,lD,lT,cS,hsl] <;>omega) |decide) only[go_sem,↓reduceIte,Nat.reduceEqDiff,reduceCtorEq];all_goals (rfl)):p:=e
theorem Vl {gl:Nat→C}{M:Nat}{pu:Nat→List C→Option C}{hp:Nat→List C→Hp→Option (C×Hp)}(hcx:CxOK (dZ gl M pu hp))(h65:∀ (tag:Int) (parts:List (List UInt8)),(bU tag parts).length< 1099511627776→pu 65 [.val (.int .i64 tag),sl sC .no parts] =some (sl bC (.own 1) (bU tag parts)))(h64:∀b:List UInt8,b.length< 35184372088832→pu 64 [sl bC .no b] =some (.agg (cl bC ((eA b).take 16))))(T:List (List UInt8))(S:List bL)(u:Nat)(sh:Bool)(tag:Int)(parts:List (List UInt8))(hT:T.length≤1000000)(hi: (bU tag parts).length< 1099511627776):FC Tryd.prog gl 86 [.bp 0 0,.val (.int .i64 tag),sl sC .no parts] [some [sl sC (.own 1) (T),sl dC .no S,.val (nI (u)),.val (.bool (sh))]] (.agg (cl bC (ofT tag parts))) [some [sl sC (.own 1) (T++[bU tag parts]),sl dC .no S,.val (nI (u)),.val (.bool (sh))]]:=by
 replace hcx:=hcx.reN (M:=24)
 refine iq (cx:=dZ gl 24 pu hp) (rs:=[.cell 6 29]) rfl Tryd.func86 rfl rfl rfl (by simp only[List.length_cons,List.length_nil];decide) (by simp only[go_sem]) (iY _ _ _ _) ?_
 simp only[bQ,go_sem]
 have hy:=True.intro
 have e65:=h65 tag parts hi
 have e64:pu 64 [sl bC .no (bU tag parts)] =some (.agg (cl bC (ofT tag parts))):=h64 _ (by omega)
 have hsl: ((eA (bU tag parts)).take 16).length=16:=cS tag parts
 refine aa hcx [] _ [none] rfl rfl rfl ?_ up
 refine aa hcx [1000010] _ [] rfl rfl rfl ?_ up
 refine ce hcx fL [15] _ [] rfl rfl rfl rfl ?_ Nd
 refine aa hcx [] _ [] rfl rfl rfl ?_ up
 exact Tr.ret Nf
end Go.Sx
namespace Go.Sx
open Go.RowKit Go.Proofs
set_option maxRecDepth 100000
set_option maxHeartbeats 8000000
theorem fl (p:List UInt8):iF (some (cl bC p)) =true:=by cases p<;>rfl
theorem er {p:Prop}(e:p:=by intro KZ hZ;simp -implicitDefEqProofs (disch:=first|omega| (simp only[go_sem,lA,lD,lT,cf,hgl,cS,cp] <;>omega) |decide) only[go_sem,↓reduceIte,Nat.reduceEqDiff,reduceCtorEq,Nat.reduceLT,Nat.reduceBEq,Nat.reduceAdd,ep86,en86,b1,b2,hy];with_reducible exact hZ):p:=e
theorem kf {p:Prop}(e:p:=by intro KZ hZ;simp -implicitDefEqProofs (disch:=first|omega| (simp only[go_sem,lA,lD,lT,cf,hgl,cS,cp] <;>omega) |decide) only[go_sem,↓reduceIte,Nat.reduceEqDiff,reduceCtorEq,Nat.reduceLT,Nat.reduceBEq,Nat.reduceAdd,ep86,en86,b1,b2,hy];with_reducible refine And.intro ?_ hZ;first|exact rfl|decide):p:=e
theorem kg {p:Prop}(e:p:=by simp -implicitDefEqProofs (disch:=first|omega| (simp only[go_sem,lA,lD,lT,cf,hgl,cS,cp] <;>omega) |decide) only[go_sem,↓reduceIte,Nat.reduceEqDiff,reduceCtorEq];all_goals (first| (simp only[hR];done) | (rw[hR];exact ⟨rfl,rfl⟩) | (rw[hR]))):p:=e
theorem Gk {gl:Nat→C}{M0:Nat}{pu:Nat→List C→Option C}{hp:Nat→List C→Hp→Option (C×Hp)}(hcx:CxOK (dZ gl M0 pu hp))(l:List ab)(f:Nat)(S:List bL)(T:List (List UInt8))(u:Nat)(sh:Bool)(d a b:Nat)(hl:LZ l)(hf:f≤5000)(hS:S.length≤1000000)(hu:u≤S.length)(hT:T.length≤900000 - 2 ^ (d+1))(hd:d≤12)(hab:a< b∧b≤5000∧b - a≤2 ^ d)(hz:b≤f∨f+l.length≤a∨b - a≤1)(hnr:∀ (g:Nat) (xs:List C),noRefs 0 xs=false→pu g xs=none)(hn86:∀xs:List C,(∃b o,C.bp b o∈xs)→hp 86 xs [] =some (.top,[]))(hq86:∀ (suf:Hp) (T:List (List UInt8)) (S:List bL) (u:Nat) (sh:Bool) (tag:Int) (parts:List (List UInt8)),OkH suf→T.length≤1000000→(bU tag parts).length< 1099511627776→hp 86 [.bp 0 0,.val (.int .i64 tag),sl sC .no parts] ([some [sl sC (.own 1) (T),sl dC .no S,.val (nI (u)),.val (.bool (sh))]]++suf) =some (.agg (cl bC (ofT tag parts)),[some [sl sC (.own 1) (T++[bU tag parts]),sl dC .no S,.val (nI (u)),.val (.bool (sh))]]++suf)):FC Tryd.prog gl 85 [.bp 0 0,sl eC .no l,.val (nI f),.val (nI a),.val (nI b)] [some [sl sC (.own 1) (T),sl dC .no S,.val (nI (u)),.val (.bool (sh))]] (.agg (cl bC (aS l f S d a b (T,u,sh)).1)) [some [sl sC (.own 1) ((aS l f S d a b (T,u,sh)).2.1),sl dC .no S,.val (nI ((aS l f S d a b (T,u,sh)).2.2.1)),.val (.bool ((aS l f S d a b (T,u,sh)).2.2.2))]]:=by
 replace hcx:=hcx.reN (M:=104)
 refine iq (cx:=dZ gl 104 pu hp) (rs:=[.cell 10 29]) rfl Tryd.func85 rfl rfl rfl (by simp only[List.length_cons,List.length_nil];decide) (by simp only[go_sem]) (iY _ _ _ _) ?_
 simp only[bQ,go_sem]
 have b1:=True.intro
 have b2:=True.intro
 have hy:=True.intro
 have hgl:=fun k=>(gt S k).2
 have hll:=hl.1
 have en86:∀ (tag:Nat)(parts:List (List UInt8)),hp 86 [.bp 0 0,.val (nI tag),sl sC .no parts] [] =some (.top,[]):=fun tag parts=>hn86 _ ⟨0,0,by simp⟩
 have ep86:∀ (tag:Nat)(parts:List (List UInt8)),pu 86 [.bp 0 0,.val (nI tag),sl sC .no parts] =none:=fun tag parts=>hnr 86 _ rfl
 refine aa hcx [] _ [none] rfl rfl rfl ?_ er
 refine ae fun K1 hK1=>?_
 by_cases b1:b≤f
 ·
  refine aa hcx [] [some 14,some 15,some 16,some 17,some 18,some 19,some 20,some 21,some 22,some 23,some 24] [] rfl rfl rfl ?_ er
  refine bM rfl ?_
  refine ae fun K2 hK2=>?_
  have hR0:=eR (l:=l) (S:=S) (d:=d) (a:=a) (b:=b) (st:=(T,u,sh)) (Or.inl b1)
  refine ce hcx fL [] _ [] rfl rfl rfl rfl ?_ kf
  refine Tr.k [0,10,34] ?_
  refine bq rfl (fun hc34=>?_) (fun hc34=>?_)
  ·
   have hR:=hR0.trans (z5 hc34)
   refine aa hcx [] _ [] rfl rfl rfl ?_ er
   refine aa hcx [] _ [] rfl rfl rfl ?_ er
   exact Tr.ret kg
  have hR:=hR0.trans (pm hc34)
  refine Tr.skip ?_
  refine hK2 _ ?_
  refine aa hcx [] _ [] rfl rfl rfl ?_ er
  refine ce hcx fL [] _ [] rfl rfl rfl rfl ?_ kf
  exact Tr.ret kg
 by_cases b2:f+l.length≤a
 ·
  refine aa hcx [] [some 14,some 15,some 16,some 17,some 18,some 19,some 20,some 21,some 22,some 23,some 24] [] rfl rfl rfl ?_ er
  refine bM rfl ?_
  refine ae fun K3 hK3=>?_
  have hR0:=eR (l:=l) (S:=S) (d:=d) (a:=a) (b:=b) (st:=(T,u,sh)) (Or.inr b2)
  refine ce hcx fL [] _ [] rfl rfl rfl rfl ?_ kf
  refine Tr.k [0,10,34] ?_
  refine bq rfl (fun hc34=>?_) (fun hc34=>?_)
  ·
   have hR:=hR0.trans (z5 hc34)
   refine aa hcx [] _ [] rfl rfl rfl ?_ er
   refine aa hcx [] _ [] rfl rfl rfl ?_ er
   exact Tr.ret kg
  have hR:=hR0.trans (pm hc34)
  refine Tr.skip ?_
  refine hK3 _ ?_
  refine aa hcx [] _ [] rfl rfl rfl ?_ er
  refine ce hcx fL [] _ [] rfl rfl rfl rfl ?_ kf
  exact Tr.ret kg
 refine aa hcx [] [some 14,some 15,some 16,some 17,some 18,some 19,some 20,some 21,some 22,some 23,some 24] [] rfl rfl rfl ?_ er
 refine bF rfl ?_
 refine Tr.skip ?_
 refine hK1 _ ?_
 refine ae fun K4 hK4=>?_
 have h61:b - a=1:=by omega
 have hR:=eS (l:=l) (f:=f) (S:=S) (d:=d) (st:=(T,u,sh)) (fun h=>h.elim b1 b2) (show b - a≤1 by omega)
 have hlb:=hl.2 (a - f) (by omega)
 have e86:=hq86 [some (cl bC (List.replicate 16 0))] T S u sh 3 [(gt l (a - f)).1,(gt l (a - f)).2] (OkH.cons (by rw[fl]) OkH.nil) (by omega) (gD 3 _ _ (by omega) (by omega))
 change hp 86 [C.bp 0 0,.val (nI 3),sl sC .no _] _=some (C.agg (cl bC (d5 (gt l (a - f)))),_) at e86
 simp only[List.cons_append,List.nil_append] at e86
 have hy:= @h61
 refine aa hcx [] _ [] rfl rfl rfl ?_ er
 refine bM rfl ?_
 have hy:=And.intro @e86 @kR
 refine ce hcx fL [] _ [] rfl rfl rfl rfl ?_ kf
 refine Tr.k [10] ?_
 exact Tr.ret kg
theorem iM {p:Prop}(e:p:=by intro KZ hZ;simp -implicitDefEqProofs (disch:=first|omega| (simp only[go_sem,lA,lD,lT,cf,hgl,cS,cp,hx1,hx2] <;>omega) |decide) only[go_sem,↓reduceIte,Nat.reduceEqDiff,reduceCtorEq,Nat.reduceLT,Nat.reduceBEq,Nat.reduceAdd,ep86,en86,ep85,en85,hy];with_reducible exact hZ):p:=e
theorem Hn {p:Prop}(e:p:=by intro KZ hZ;simp -implicitDefEqProofs (disch:=first|omega| (simp only[go_sem,lA,lD,lT,cf,hgl,cS,cp,hx1,hx2] <;>omega) |decide) only[go_sem,↓reduceIte,Nat.reduceEqDiff,reduceCtorEq,Nat.reduceLT,Nat.reduceBEq,Nat.reduceAdd,ep86,en86,ep85,en85,hy];with_reducible refine And.intro ?_ hZ;first|exact rfl|decide):p:=e
theorem Ho {p:Prop}(e:p:=by simp -implicitDefEqProofs (disch:=first|omega| (simp only[go_sem,lA,lD,lT,cf,hgl,cS,cp,hx1,hx2] <;>omega) |decide) only[go_sem,↓reduceIte,Nat.reduceEqDiff,reduceCtorEq];all_goals (first| (simp only[hR];done) | (rw[hR];exact ⟨rfl,rfl⟩) | (rw[hR]))):p:=e
theorem Rz {gl:Nat→C}{M0:Nat}{pu:Nat→List C→Option C}{hp:Nat→List C→Hp→Option (C×Hp)}(hcx:CxOK (dZ gl M0 pu hp))(l:List ab)(f:Nat)(S:List bL)(T:List (List UInt8))(u:Nat)(sh:Bool)(d a b:Nat)(hl:LZ l)(hf:f≤5000)(hS:S.length≤1000000)(hu:u≤S.length)(hT:T.length≤900000 - 2 ^ ((d+1)+1))(hd: (d+1)≤12)(hab:a< b∧b≤5000∧b - a≤2 ^ (d+1))(hq85:∀ (suf:Hp) (T:List (List UInt8)) (u:Nat) (sh:Bool) (a b:Nat),OkH suf→T.length≤900000 - 2 ^ (d+1)→u≤S.length→a< b∧b - a≤2 ^ d∧b≤5000→hp 85 [.bp 0 0,sl eC .no l,.val (nI f),.val (nI a),.val (nI b)] ([some [sl sC (.own 1) (T),sl dC .no S,.val (nI (u)),.val (.bool (sh))]]++suf) =some (.agg (cl bC (aS l f S d a b (T,u,sh)).1),[some [sl sC (.own 1) ((aS l f S d a b (T,u,sh)).2.1),sl dC .no S,.val (nI ((aS l f S d a b (T,u,sh)).2.2.1)),.val (.bool ((aS l f S d a b (T,u,sh)).2.2.2))]]++suf))(hz1:¬b≤f)(hz2:¬f+l.length≤a)(hz3:¬b - a≤1)(hnr:∀ (g:Nat) (xs:List C),noRefs 0 xs=false→pu g xs=none)(hn86:∀xs:List C,(∃b o,C.bp b o∈xs)→hp 86 xs [] =some (.top,[]))(hq86:∀ (suf:Hp) (T:List (List UInt8)) (S:List bL) (u:Nat) (sh:Bool) (tag:Int) (parts:List (List UInt8)),OkH suf→T.length≤1000000→(bU tag parts).length< 1099511627776→hp 86 [.bp 0 0,.val (.int .i64 tag),sl sC .no parts] ([some [sl sC (.own 1) (T),sl dC .no S,.val (nI (u)),.val (.bool (sh))]]++suf) =some (.agg (cl bC (ofT tag parts)),[some [sl sC (.own 1) (T++[bU tag parts]),sl dC .no S,.val (nI (u)),.val (.bool (sh))]]++suf))(hn85:∀xs:List C,(∃b o,C.bp b o∈xs)→hp 85 xs [] =some (.top,[]))(h84:∀h:List UInt8,h.length=16→pu 84 [.agg (cl bC h)] =some (.val (str h)))(h106:∀n:Nat,n≤4611686018427387000→pu 106 [.val (nI n)] =some (.val (nI (aD n)))):FC Tryd.prog gl 85 [.bp 0 0,sl eC .no l,.val (nI f),.val (nI a),.val (nI b)] [some [sl sC (.own 1) (T),sl dC .no S,.val (nI (u)),.val (.bool (sh))]] (.agg (cl bC (aS l f S (d+1) a b (T,u,sh)).1)) [some [sl sC (.own 1) ((aS l f S (d+1) a b (T,u,sh)).2.1),sl dC .no S,.val (nI ((aS l f S (d+1) a b (T,u,sh)).2.2.1)),.val (.bool ((aS l f S (d+1) a b (T,u,sh)).2.2.2))]]:=by
 replace hcx:=hcx.reN (M:=104)
 refine iq (cx:=dZ gl 104 pu hp) (rs:=[.cell 10 29]) rfl Tryd.func85 rfl rfl rfl (by simp only[List.length_cons,List.length_nil];decide) (by simp only[go_sem]) (iY _ _ _ _) ?_
 simp only[bQ,go_sem]
 have hy:=True.intro
 have hgl:=fun k=>(gt S k).2
 have hll:=hl.1
 have en86:∀ (tag:Nat)(parts:List (List UInt8)),hp 86 [.bp 0 0,.val (nI tag),sl sC .no parts] [] =some (.top,[]):=fun tag parts=>hn86 _ ⟨0,0,by simp⟩
 have ep86:∀ (tag:Nat)(parts:List (List UInt8)),pu 86 [.bp 0 0,.val (nI tag),sl sC .no parts] =none:=fun tag parts=>hnr 86 _ rfl
 have en85:∀x y:Nat,hp 85 [.bp 0 0,sl eC .no l,.val (nI f),.val (nI x),.val (nI y)] [] =some (.top,[]):=fun x y=>hn85 _ ⟨0,0,by simp⟩
 have ep85:∀x y:Nat,pu 85 [.bp 0 0,sl eC .no l,.val (nI f),.val (nI x),.val (nI y)] =none:=fun x y=>hnr 85 _ rfl
 have b1:=hz1
 have b2:=hz2
 have h61: (b - a=1) =False:=eq_false (by omega)
 have hx1:=True.intro
 have hx2:=True.intro
 refine aa hcx [] _ [none] rfl rfl rfl ?_ iM
 refine ae fun K1 hK1=>?_
 have hy:=And.intro @b1 @b2
 refine aa hcx [] [some 14,some 15,some 16,some 17,some 18,some 19,some 20,some 21,some 22,some 23,some 24] [] rfl rfl rfl ?_ iM
 refine bF rfl ?_
 refine Tr.skip ?_
 refine hK1 _ ?_
 refine ae fun K2 hK2=>?_
 have hy:= @h61
 refine aa hcx [] _ [] rfl rfl rfl ?_ iM
 refine bF rfl ?_
 refine Tr.skip ?_
 refine hK2 _ ?_
 refine Tr.k [0,1,2,3,4,10] ?_
 have e106:=h106 (b - a) (by omega)
 have hh:=fw (n:=b - a) (by omega)
 have hh2:=eW (by omega) hab.2.2
 have hp2:2 ^ (d+1+1) =2*2 ^ (d+1):=by rw[Nat.pow_succ];omega
 have hp3:2 ^ (d+1)≤2 ^ 12:=Nat.pow_le_pow_right (by omega) hd
 have hB1:=gI l f S d a (a+aD (b - a)) (T,u,sh)
 dsimp only at hB1
 have e1:=hq85 [some (cl bC (List.replicate 16 0)),none] T u sh a (a+aD (b - a)) (OkH.cons (fl _) (OkH.cons rfl OkH.nil)) (by omega) hu (by omega)
 obtain ⟨X,hX⟩:∃X,X=aS l f S d a (a+aD (b - a)) (T,u,sh):=⟨_,rfl⟩
 have hXl:X.1.length=16:=by rw[hX];exact om _ _ _ _ _ _ _
 rw[←hX] at e1 hB1
 have hx1:=hXl
 have e2:=hq85 [some (cl bC (List.replicate 16 0)),some (cl bC X.1),none] X.2.1 X.2.2.1 X.2.2.2 (a+aD (b - a)) b (OkH.cons (fl _) (OkH.cons (fl _) (OkH.cons rfl OkH.nil))) (by omega) (by omega) (by omega)
 obtain ⟨Y,hY⟩:∃Y,Y=aS l f S d (a+aD (b - a)) b X.2:=⟨_,rfl⟩
 have hYl:Y.1.length=16:=by rw[hY];exact om _ _ _ _ _ _ _
 have hB2:=gI l f S d (a+aD (b - a)) b X.2
 have eY:aS l f S d (a+aD (b - a)) b (X.2.1,X.2.2.1,X.2.2.2) =Y:=hY.symm
 rw[←hY] at hB2
 rw[eY] at e2
 have hx2:=hYl
 have e84a:=h84 X.1 hXl
 have e84b:=h84 Y.1 hYl
 have e86:=hq86 [some (cl bC (List.replicate 16 0)),some (cl bC X.1),some (cl bC Y.1)] Y.2.1 S Y.2.2.1 Y.2.2.2 4 [X.1,Y.1] (OkH.cons (fl _) (OkH.cons (fl _) (OkH.cons (fl _) OkH.nil))) (by omega) (gD 4 _ _ (by omega) (by omega))
 change hp 86 [C.bp 0 0,.val (nI 4),sl sC .no _] _=some (C.agg (cl bC (fJ X.1 Y.1)),_) at e86
 simp only[List.cons_append,List.nil_append] at e1 e2 e86
 have hR:=ke (l:=l) (f:=f) (S:=S) (d:=d) (st:=(T,u,sh)) (fun h=>h.elim b1 b2) hz3
 rw[←hX,←hY,kS] at hR
 have hy:= @e106
 refine aa hcx [1000084] _ [] rfl rfl rfl ?_ iM
 have hy:= @e1
 refine aa hcx [] _ [none] rfl rfl rfl ?_ iM
 refine Tr.k [0,1,2,4,10,11,12] ?_
 have hy:= @e2
 refine aa hcx [] _ [none] rfl rfl rfl ?_ iM
 have hy:=And.intro @e84a (And.intro @e84b (And.intro @kR @e86))
 refine ce hcx fL [] _ [] rfl rfl rfl rfl ?_ Hn
 exact Tr.ret Ho
end Go.Sx
namespace Go.Sx
open Go.RowKit Go.Proofs
set_option maxRecDepth 100000
set_option maxHeartbeats 8000000
theorem RA (x:List UInt8): (List.replicate 1 []).set 0 x= [x]:=rfl
theorem Gl:OkH [some (cl bC (List.replicate 16 0))]:=OkH.cons (fl _) OkH.nil
theorem z6 (l:List ab)(f:Nat)(S:List bL)(n:Nat)(st:TS)(h:¬n=0): (dv l f S n st).1=d6 n (aS l f S 12 0 n st).1:=by
 rw[pn h];unfold d6;rw[if_neg h]
theorem oo (l:List ab)(S:List bL):∀d a b st,a< b→b≤l.length→(aS l 0 S d a b st).1= (if b - a≤2 ^ d then cK l d a b else (aS l 0 S d a b st).1)
 |0,a,b,st,h1,h2=>by
  split
  . rename_i h
    rw[eS (by omega) (by simpa using h)];rfl
  . rfl
 |d+1,a,b,st,h1,h2=>by
  split
  . rename_i h
    by_cases e:b - a≤1
    . rw[eS (by omega) e,ph e];rfl
    . have hh:=fw (n:=b - a) (by omega)
      have hh2:=eW (by omega) h
      rw[ke (by omega) e,ul e,kS]
      have g1:=oo l S d a (a+aD (b - a)) st (by omega) (by omega)
      have g2:=oo l S d (a+aD (b - a)) b (aS l 0 S d a (a+aD (b - a)) st).2 (by omega) (by omega)
      rw[if_pos (by omega)] at g1 g2
      rw[g1,g2]
  . rfl
theorem Ng {l:List ab}{S:List bL}{d a b:Nat}{st:TS}(h:a< b∧b≤l.length∧b - a≤2 ^ d): (aS l 0 S d a b st).1=cK l d a b:=by
 rw[oo l S d a b st h.1 h.2.1,if_pos h.2.2]
theorem Nh {l:List ab}{S:List bL}{st:TS}(h:l.length≤4096): (dv l 0 S l.length st).1=cZ l:=by
 by_cases e:l.length=0
 . rw[uo e];unfold cZ d6;rw[if_pos e,e]
 . rw[z6 l 0 S _ st e,Ng ⟨by omega,Nat.le_refl _,by omega⟩];rfl
theorem kh {p:Prop}(e:p:=by intro KZ hZ;simp -implicitDefEqProofs (disch:=first|omega| (simp only[go_sem,lA,lD,lT,hwl,hx1,cS] <;>omega) |decide) only[go_sem,↓reduceIte,Nat.reduceEqDiff,reduceCtorEq,Nat.reduceLT,Nat.reduceBEq,Nat.reduceAdd,ep86,en86,ep85,en85,RA,e83,e86,hy];with_reducible exact hZ):p:=e
theorem z7 {p:Prop}(e:p:=by simp -implicitDefEqProofs (disch:=first|omega| (simp only[go_sem,lA,lD,lT,hwl,hx1,cS] <;>omega) |decide) only[go_sem,↓reduceIte,Nat.reduceEqDiff,reduceCtorEq];all_goals (first| (simp only[hR];done) | (rw[hR];exact ⟨rfl,rfl⟩) | (rw[hR]))):p:=e
theorem Vm {gl:Nat→C}{M0:Nat}{pu:Nat→List C→Option C}{hp:Nat→List C→Hp→Option (C×Hp)}(hcx:CxOK (dZ gl M0 pu hp))(l:List ab)(f:Nat)(S:List bL)(T:List (List UInt8))(u:Nat)(sh:Bool)(n:Nat)(hl:LZ l)(hf:f≤5000)(hS:S.length≤1000000)(hu:u≤S.length)(hT:T.length≤800000)(hn:n≤4096)(hnr:∀ (g:Nat) (xs:List C),noRefs 0 xs=false→pu g xs=none)(hn86:∀xs:List C,(∃b o,C.bp b o∈xs)→hp 86 xs [] =some (.top,[]))(hq86:∀ (suf:Hp) (T:List (List UInt8)) (S:List bL) (u:Nat) (sh:Bool) (tag:Int) (parts:List (List UInt8)),OkH suf→T.length≤1000000→(bU tag parts).length< 1099511627776→hp 86 [.bp 0 0,.val (.int .i64 tag),sl sC .no parts] ([some [sl sC (.own 1) (T),sl dC .no S,.val (nI (u)),.val (.bool (sh))]]++suf) =some (.agg (cl bC (ofT tag parts)),[some [sl sC (.own 1) (T++[bU tag parts]),sl dC .no S,.val (nI (u)),.val (.bool (sh))]]++suf))(hn85:∀xs:List C,(∃b o,C.bp b o∈xs)→hp 85 xs [] =some (.top,[]))(hq85:∀ (suf:Hp) (l:List ab) (f:Nat) (S:List bL) (d:Nat) (T:List (List UInt8)) (u:Nat) (sh:Bool) (a b:Nat),OkH suf→LZ l→f≤5000→S.length≤1000000→u≤S.length→T.length≤900000 - 2 ^ (d+1)→d≤12→a< b∧b≤5000∧b - a≤2 ^ d→hp 85 [.bp 0 0,sl eC .no l,.val (nI f),.val (nI a),.val (nI b)] ([some [sl sC (.own 1) (T),sl dC .no S,.val (nI (u)),.val (.bool (sh))]]++suf) =some (.agg (cl bC (aS l f S d a b (T,u,sh)).1),[some [sl sC (.own 1) ((aS l f S d a b (T,u,sh)).2.1),sl dC .no S,.val (nI ((aS l f S d a b (T,u,sh)).2.2.1)),.val (.bool ((aS l f S d a b (T,u,sh)).2.2.2))]]++suf))(h84:∀h:List UInt8,h.length=16→pu 84 [.agg (cl bC h)] =some (.val (str h)))(h83:∀n:Int,-9223372036854775808≤n∧n≤9223372036854775807→pu 83 [.val (.int .i64 n)] =some (sl bC (.own 1) (co n))):FC Tryd.prog gl 52 [.bp 0 0,sl eC .no l,.val (nI f),.val (nI n)] [some [sl sC (.own 1) (T),sl dC .no S,.val (nI (u)),.val (.bool (sh))]] (.agg (cl bC (dv l f S n (T,u,sh)).1)) [some [sl sC (.own 1) ((dv l f S n (T,u,sh)).2.1),sl dC .no S,.val (nI ((dv l f S n (T,u,sh)).2.2.1)),.val (.bool ((dv l f S n (T,u,sh)).2.2.2))]]:=by
 replace hcx:=hcx.reN (M:=28)
 refine iq (cx:=dZ gl 28 pu hp) (rs:=[.cell 8 29]) rfl Tryd.func52 rfl rfl rfl (by simp only[List.length_cons,List.length_nil];decide) (by simp only[go_sem]) (iY _ _ _ _) ?_
 simp only[bQ,go_sem]
 have hy:=True.intro
 have en86:∀ (tag:Nat)(parts:List (List UInt8)),hp 86 [.bp 0 0,.val (nI tag),sl sC .no parts] [] =some (.top,[]):=fun tag parts=>hn86 _ ⟨0,0,by simp⟩
 have ep86:∀ (tag:Nat)(parts:List (List UInt8)),pu 86 [.bp 0 0,.val (nI tag),sl sC .no parts] =none:=fun tag parts=>hnr 86 _ rfl
 have en85:∀x y:Nat,hp 85 [.bp 0 0,sl eC .no l,.val (nI f),.val (nI x),.val (nI y)] [] =some (.top,[]):=fun x y=>hn85 _ ⟨0,0,by simp⟩
 have ep85:∀x y:Nat,pu 85 [.bp 0 0,sl eC .no l,.val (nI f),.val (nI x),.val (nI y)] =none:=fun x y=>hnr 85 _ rfl
 have hll:=hl.1
 have e83:pu 83 [.val (nI n)] =some (sl bC (.own 1) (co ((n:Nat):Int))):=h83 ((n:Nat):Int) (by omega)
 have hwl:=ms n (by omega)
 have hx1:=True.intro
 have e86:=True.intro
 refine aa hcx [] _ [none] rfl rfl rfl ?_ kh
 refine aa hcx [1000013] _ [] rfl rfl rfl ?_ kh
 refine ae fun K1 hK1=>?_
 refine aa hcx [] _ [] rfl rfl rfl ?_ kh
 refine bq rfl (fun hc15=>?_) (fun hc15=>?_)
 ·
  have e1:=hq85 [some (cl bC (List.replicate 16 0))] l f S 12 T u sh 0 n Gl hl hf hS hu (by omega) (by omega) (by omega)
  have hB1:=gI l f S 12 0 n (T,u,sh)
  dsimp only at hB1
  have hR:=pn (l:=l) (f:=f) (S:=S) (st:=(T,u,sh)) (show ¬n=0 by omega)
  obtain ⟨X,hX⟩:∃X,X=aS l f S 12 0 n (T,u,sh):=⟨_,rfl⟩
  have hXl:X.1.length=16:=by rw[hX];exact om _ _ _ _ _ _ _
  rw[←hX] at e1 hB1 hR
  have hx1:=hXl
  have e84a:=h84 X.1 hXl
  have e86:=hq86 [some (cl bC (List.replicate 16 0))] X.2.1 S X.2.2.1 X.2.2.2 4 [co ((n:Nat):Int),X.1] Gl (by omega) (gD 4 _ _ (by omega) (by omega))
  change hp 86 [C.bp 0 0,.val (nI 4),sl sC .no _] _=_ at e86
  simp only[List.cons_append,List.nil_append] at e1 e86
  have hy:=And.intro @e1 @e84a
  refine br hcx [16,1000024] _ [] rfl rfl rfl ?_ kh
  refine hK1 _ ?_
  have hy:=True.intro
  refine aa hcx [] _ [] rfl rfl rfl ?_ kh
  exact Tr.ret z7
 have h0:n=0:=by omega
 have hR:=uo (l:=l) (f:=f) (S:=S) (st:=(T,u,sh)) h0
 have e86:=hq86 [some (cl bC (List.replicate 16 0))] T S u sh 4 [co ((n:Nat):Int)] Gl (by omega) (tM 4 _ (by omega))
 change hp 86 [C.bp 0 0,.val (nI 4),sl sC .no _] _=_ at e86
 simp only[List.cons_append,List.nil_append] at e86
 refine Tr.skip ?_
 refine hK1 _ ?_
 refine aa hcx [] _ [] rfl rfl rfl ?_ kh
 exact Tr.ret z7
theorem iZ {p:Prop}(e:p:=by intro KZ hZ;simp -implicitDefEqProofs (disch:=first|omega| (simp only[go_sem,lA,lD,lT,hrl] <;>omega) |decide) only[go_sem,↓reduceIte,Nat.reduceEqDiff,reduceCtorEq,Nat.reduceLT,Nat.reduceBEq,Nat.reduceAdd,e16,ep52,en52,b1,hy];with_reducible exact hZ):p:=e
theorem z8 {p:Prop}(e:p:=by simp -implicitDefEqProofs (disch:=first|omega| (simp only[go_sem,lA,lD,lT,hrl] <;>omega) |decide) only[go_sem,↓reduceIte,Nat.reduceEqDiff,reduceCtorEq];all_goals (first| (rw[wa b1];done) | (rw[nh b1];done))):p:=e
theorem Vn {gl:Nat→C}{M:Nat}{pu:Nat→List C→Option C}{hp:Nat→List C→Hp→Option (C×Hp)}(hcx:CxOK (dZ gl M pu hp))(hnr:∀ (g:Nat) (xs:List C),noRefs 0 xs=false→pu g xs=none)(h16:∀l:List ab,LB l→pu 16 [sl eC .no l] =some (.val (nI (bR l))))(hn52:∀xs:List C,(∃b o,C.bp b o∈xs)→hp 52 xs [] =some (.top,[]))(hq52:∀ (pre suf:Hp) (l:List ab) (f:Nat) (S:List bL) (n:Nat) (T:List (List UInt8)) (u:Nat) (sh:Bool),OkH pre→OkH suf→LZ l→f≤5000→S.length≤1000000→u≤S.length→T.length≤800000→n≤4096→hp 52 [.bp pre.length 0,sl eC .no l,.val (nI f),.val (nI n)] (pre++([some [sl sC (.own 1) (T),sl dC .no S,.val (nI (u)),.val (.bool (sh))]]++suf)) =some (.agg (cl bC (dv l f S n (T,u,sh)).1),pre++([some [sl sC (.own 1) ((dv l f S n (T,u,sh)).2.1),sl dC .no S,.val (nI ((dv l f S n (T,u,sh)).2.2.1)),.val (.bool ((dv l f S n (T,u,sh)).2.2.2))]]++suf)))(l:List ab)(hl:LB l):FC Tryd.prog gl 14 [sl eC .no l] [] (.tup [.agg (cl bC (dO l).1),.val (nI (dO l).2)]) []:=by
 replace hcx:=hcx.reN (M:=19)
 refine aP (cx:=dZ gl 19 pu hp) (rs:=[.cell 2 29,.tmp 3]) rfl Tryd.func14 rfl rfl rfl (by simp only[List.length_cons,List.length_nil];decide) (by simp only[go_sem]) ?_
 simp only[bQ,go_sem]
 have b1:=True.intro
 have hy:=True.intro
 have e16:=h16 l hl
 have hrl:=True.intro
 have en52:∀x y:Nat,hp 52 [.bp 1 0,sl eC .no l,.val (nI x),.val (nI y)] [] =some (.top,[]):=fun x y=>hn52 _ ⟨1,0,by simp⟩
 have ep52:∀x y:Nat,pu 52 [.bp 1 0,sl eC .no l,.val (nI x),.val (nI y)] =none:=fun x y=>hnr 52 _ rfl
 refine aa hcx [] _ [none] rfl rfl rfl ?_ iZ
 refine aa hcx [1000007] _ [] rfl rfl rfl ?_ iZ
 refine ae fun K1 hK1=>?_
 by_cases b1:bR l=0
 ·
  have hok:=iL (l:=l) (by omega)
  have hll:=hok.1
  refine aa hcx [] _ [] rfl rfl rfl ?_ iZ
  refine bF rfl ?_
  refine Tr.skip ?_
  refine hK1 _ ?_
  refine aa hcx [1000013] _ [none] rfl rfl rfl ?_ iZ
  refine Tr.bxc 1 0 (sl sC (.own 1) []) _ rfl rfl (aW rfl) rfl ?_
  refine Tr.bxc 1 1 (sl dC .no []) _ rfl rfl (aW rfl) rfl ?_
  simp only[List.set_cons_succ,List.set_cons_zero]
  have e52:=hq52 [some (cl bC (List.replicate 16 0))] [] l 0 [] l.length [] 0 false Gl OkH.nil hok.lz (by omega) (by simp) (by simp) (by simp) hll
  simp only[List.cons_append,List.nil_append,List.length_cons,List.length_nil,Nat.zero_add] at e52
  rw[Nh hll] at e52
  have hrl:=fh l
  have hy:= @e52
  refine aa hcx [] _ [] rfl rfl rfl ?_ iZ
  exact Tr.ret z8
 skip
 refine aa hcx [] _ [] rfl rfl rfl ?_ iZ
 refine bM rfl ?_
 refine aa hcx [1000011] _ [] rfl rfl rfl ?_ iZ
 exact Tr.ret z8
end Go.Sx
namespace Go.Sx
open Go.RowKit Go.Proofs
theorem zl:∀a b:List UInt8,Lib.compareBytes a b=dY a b
 | [],[] =>by simp[Lib.compareBytes,dY,f7]
 | [],y::b=>by simp[Lib.compareBytes,dY,oQ]
 |x::a,[] =>by simp[Lib.compareBytes,dY,f7]
 |x::a,y::b=>by
  have ih:=zl a b
  unfold Lib.compareBytes dY
  rw[j4]
  by_cases h:x< y
  . rw[if_pos h,if_pos h];rfl
  . by_cases h':y< x
    . have:¬ (x::a=y::b):=fun e=>by injection e with e _;subst e;exact h h'
      rw[if_neg h,if_pos h',if_neg h,if_pos h',if_neg this];rfl
    . have e:x=y:=by
       apply UInt8.toNat_inj.1;rw[UInt8.lt_iff_toNat_lt] at h h';omega
      subst e
      rw[if_neg h,if_neg h,if_neg h,if_neg h,ih,dY]
      simp
theorem Tu {gl:Nat→C}(a b:List UInt8):FC Tryd.prog gl 90 [.val (str a),.val (str b)] [] (.val (.int .i64 (dY a b))) []:=by
 refine y3 (vals:=[str a,str b]) ⟨_,Tryd.func90,rfl,rfl⟩ fun w=>?_
 refine (Tryd.strings_Compare ⟨a.toArray⟩ ⟨b.toArray⟩ w).mono ?_
 rintro e w' ⟨rfl,rfl⟩
 refine ⟨?_,Below.refl _ _⟩
 simp[zl]
end Go.Sx
namespace Go.Sx
open Go.RowKit Go.Proofs
set_option maxRecDepth 100000
set_option maxHeartbeats 8000000
def Srt (l:List ab):Prop:= ∀i j,i< j→j< l.length→bl (gt l i).1 (gt l j).1=true
theorem qt {l:List ab}:∀ {n i:Nat},eG l n=true→0< i→i< n→bl (gt l (i - 1)).1 (gt l i).1=true
 |0,i,h,h1,h2=>by omega
 |n+1,i,h,h1,h2=>by
  simp only[eG,Bool.and_eq_true,Bool.or_eq_true,decide_eq_true_eq] at h
  by_cases e:i=n
  . subst e;exact h.2.resolve_left (by omega)
  . exact qt h.1 h1 (by omega)
theorem Srt.of {l:List ab}(h:eG l l.length=true):Srt l:=fun i j hij hj=>by
 obtain ⟨k,rfl⟩:∃k,j=i+1+k:=⟨j - (i+1),by omega⟩
 induction k with
 |zero=>have:=qt h (i:=i+1) (by omega) hj;simpa using this
 |succ k ih=>
  have h1:=ih (by omega) (by omega)
  have h2:=qt h (i:=i+1+(k+1)) (by omega) hj
  rw[show i+1+(k+1) - 1=i+1+k by omega] at h2
  exact iR h1 h2
theorem iS {l:List ab}(h:bR l=0):Srt l:=by
 apply Srt.of
 unfold bR at h
 split at h
 . cases h
 . split at h
   . assumption
   . cases h
theorem Srt.take {l:List ab}(h:Srt l):∀n,n≤l.length→∀k,(∀x,x< n→bl (gt l x).1 k=true)→fV l k n=n
 |0,_,k,_=>rfl
 |n+1,hn,k,hk=>by rw[Qf (by omega) (hk n (by omega)),Srt.take h n (by omega) k (fun x hx=>hk x (by omega))]
theorem tN {l:List ab}{k:List UInt8}{i:Nat}:∀d,i+d≤l.length→(∀x,i≤x→x< l.length→bl (gt l x).1 k=false)→fV l k (i+d) =fV l k i
 |0,_,_=>rfl
 |d+1,h,h2=>by rw[←Nat.add_assoc,Qg (by omega) (h2 _ (by omega) (by omega)),tN d (by omega) h2]
theorem vS {l:List ab}{k:List UInt8}{i:Nat}(hs:Srt l)(hi:i≤l.length)(h1:∀x,x< i→bl (gt l x).1 k=true)(h2:∀x,i≤x→x< l.length→bl (gt l x).1 k=false):bm l k=i:=by
 obtain ⟨d,hd⟩:∃d,l.length=i+d:=⟨l.length - i,by omega⟩
 unfold bm
 rw[hd,tN d (by omega) h2,Srt.take hs i hi k h1]
def tO (l:List ab)(k:List UInt8):Bool:=decide (bm l k< l.length∧(gt l (bm l k)).1=k)
theorem vT (a b:List UInt8): (dY a b< ((0:Nat):Int)) = (bl a b=true):=by
 unfold dY;by_cases h:bl a b=true
 . rw[if_pos h];simp[h]
 . rw[if_neg h];split<;>simp[h]
theorem vU (a b:List UInt8): (dY a b=0) = (a=b):=by
 unfold dY;by_cases h:bl a b=true
 . rw[if_pos h]
   have:¬a=b:=fun e=>by subst e;rw[zg] at h;cases h
   simp[this]
 . rw[if_neg h];by_cases e:a=b<;>simp[e]
theorem vV (a b:List UInt8): (dY a b= ((0:Nat):Int)) = (a=b):=vU a b
theorem Kk {l:List ab}{k:List UInt8}{i:Nat}(h:bm l k=i)(b:Bool)(hb:b=decide (i< l.length∧(gt l i).1=k)):b=tO l k:=by subst h;exact hb
theorem PB {l:List ab}{k:List UInt8}{h:Nat}(hs:Srt l)(hb:bl (gt l h).1 k=true)(hl:h< l.length):∀x,x< h+1→bl (gt l x).1 k=true:=fun x hx=>by
 by_cases e:x=h
 . subst e;exact hb
 . exact iR (hs x h (by omega) hl) hb
theorem PC {l:List ab}{k:List UInt8}{h:Nat}(hs:Srt l)(hb:bl (gt l h).1 k=false):∀x,h≤x→x< l.length→bl (gt l x).1 k=false:=fun x hx hl=>by
 by_cases e:x=h
 . subst e;exact hb
 . have h1:=hs h x (by omega) hl
   rw[Bool.eq_false_iff];intro h2
   rw[iR h1 h2] at hb;cases hb
theorem Kl (n:Nat):n>>>1=n / 2:=by rw[Nat.shiftRight_eq_div_pow]
theorem zj {p:Prop}(e:p:=by intro KZ hZ;simp -implicitDefEqProofs (disch:=first|omega| (simp only[go_sem,lA,lD,lT] <;>omega) |decide) only[go_sem,↓reduceIte,Nat.reduceEqDiff,reduceCtorEq,Nat.reduceLT,Nat.reduceBEq,Nat.reduceAdd,h90,hy];with_reducible exact hZ):p:=e
theorem Km {p:Prop}(e:p:=by simp -implicitDefEqProofs (disch:=first|omega| (simp only[go_sem,lA,lD,lT] <;>omega) |decide) only[go_sem,↓reduceIte,Nat.reduceEqDiff,reduceCtorEq];all_goals (rfl)):p:=e
theorem Tq {gl:Nat→C}{M:Nat}{pu:Nat→List C→Option C}(hcx:CxOK (ao gl M pu))(h90:∀a b:List UInt8,pu 90 [.val (str a),.val (str b)] =some (.val (.int .i64 (dY a b))))(x:ab)(k:List UInt8):FC Tryd.prog gl 89 [.agg (eC x),.val (str k)] [] (.val (.int .i64 (dY x.1 k))) []:=by
 replace hcx:=hcx.reN (M:=9)
 refine aP (cx:=ao gl 9 pu) (rs:=[.tmp 4]) rfl Tryd.func89 rfl rfl rfl (by simp only[List.length_cons,List.length_nil];decide) (by simp only[go_sem]) ?_
 simp only[bQ,go_sem]
 have hy:=True.intro
 refine aa hcx [] _ [none] rfl rfl rfl ?_ zj
 refine aa hcx [1000008] _ [] rfl rfl rfl ?_ zj
 exact Tr.ret Km
theorem fN {p:Prop}(e:p:=by intro KZ hZ;simp -implicitDefEqProofs (disch:=first|omega| (simp only[go_sem,lA,lD,lT] <;>omega) |decide) only[go_sem,↓reduceIte,Nat.reduceEqDiff,reduceCtorEq,Nat.reduceLT,Nat.reduceBEq,Nat.reduceAdd,h89,Kl,b1,b2,hy];with_reducible exact hZ):p:=e
theorem zk {p:Prop}(e:p:=by simp -implicitDefEqProofs (disch:=first|omega| (simp only[go_sem,lA,lD,lT] <;>omega) |decide) only[go_sem,↓reduceIte,Nat.reduceEqDiff,reduceCtorEq];all_goals (all_goals (rw[←Kk hf _ rfl];simp[hf,b2,vU]))):p:=e
theorem Ts {gl:Nat→C}{M:Nat}{pu:Nat→List C→Option C}(hcx:CxOK (ao gl M pu))(h89:∀ (x:ab) (k:List UInt8),pu 89 [.agg (eC x),.val (str k)] =some (.val (.int .i64 (dY x.1 k))))(l:List ab)(k:List UInt8)(hs:Srt l)(hl:l.length≤1000000):FC Tryd.prog gl 88 [sl eC .no l,.val (str k),.fn 89 []] [] (.tup [.val (nI (bm l k)),.val (.bool (tO l k))]) []:=by
 replace hcx:=hcx.reN (M:=49)
 refine aP (cx:=ao gl 49 pu) (rs:=[.tmp 6,.tmp 7]) rfl Tryd.func88 rfl rfl rfl (by simp only[List.length_cons,List.length_nil];decide) (by simp only[go_sem]) ?_
 simp only[bQ,go_sem]
 have b1:=True.intro
 have b2:=True.intro
 have hy:=True.intro
 refine aa hcx [] _ [] rfl rfl rfl ?_ fN
 refine aa hcx [1000013] _ [] rfl rfl rfl ?_ fN
 refine aa hcx [1000014] _ [] rfl rfl rfl ?_ fN
 refine Tr.k [0,1,2,8,9,10] ?_
 refine ae fun K1 hK1=>?_
 refine Tr.blk ?_
 refine aX (α:=Nat×Nat) (fun a=>[(0,?v0_1),(1,?v1_1),(2,?v2_1),(8,?v8_1),(9,.val (nI a.1)),(10,.val (nI a.2))]) (fun a=>?h_1) (fun a=>a.1≤a.2∧a.2≤l.length∧(∀x,x< a.1→bl (gt l x).1 k=true)∧(∀x,a.2≤x→x< l.length→bl (gt l x).1 k=false)) (fun a=>a.2 - a.1) ((0,l.length)) ⟨Nat.zero_le _,Nat.le_refl _,fun x hx=>absurd hx (Nat.not_lt_zero x),fun x h1 h2=>by omega⟩ ?le_1 ?hh_1 ?bd_1
 case hh_1=>exact rfl
 case le_1=>exact LT
 rintro ⟨i,j⟩ ⟨hi,hj,hlo,hhi⟩
 simp only[] at hi hj hlo hhi
 have hh2: (i+j) / 2*2≤i+j:=by omega
 have hh3:i+j< (i+j) / 2*2+2:=by omega
 obtain ⟨h,hh⟩:∃h,h= (i+j) / 2:=⟨_,rfl⟩
 rw[←hh] at hh2 hh3
 refine ae fun K2 hK2=>?_
 refine aa hcx [] _ [] rfl rfl rfl ?_ fN
 refine bq rfl (fun hc17=>?_) (fun hc17=>?_)
 ·
  refine Tr.skip ?_
  refine hK2 _ ?_
  refine Tr.blk ?_
  refine ae fun K3 hK3=>?_
  refine yy hcx [1000023] _ [] rfl rfl rfl ?_
  simp -implicitDefEqProofs (disch:=first|omega| (simp only[go_sem,lA,lD,lT] <;>omega) |decide) only[go_sem,↓reduceIte,Nat.reduceEqDiff,reduceCtorEq,Nat.reduceLT,Nat.reduceBEq,Nat.reduceAdd,h89,Kl,←hh]
  refine hK3 _ ?_
  by_cases b1:bl (gt l h).1 k=true
  ·
   have c1: (dY (gt l h).1 k< ((0:Nat):Int)) =True:=by rw[vT,b1];simp
   have hy:= @c1
   refine aa hcx [] _ [] rfl rfl rfl ?_ fN
   refine bM rfl ?_
   have hy:=True.intro
   refine br hcx [1000033] _ [] rfl rfl rfl ?_ fN
   exact ⟨(h+1,j),⟨⟨by simp only[];omega,hj,PB hs b1 (by omega),hhi⟩,O1⟩,LT,rfl⟩
  have c1: (dY (gt l h).1 k< ((0:Nat):Int)) =False:=by rw[vT];simpa using b1
  replace b1:=Bool.eq_false_iff.2 b1
  have hy:= @c1
  refine aa hcx [] _ [] rfl rfl rfl ?_ fN
  refine bF rfl ?_
  have hy:=True.intro
  refine br hcx [1000034] _ [] rfl rfl rfl ?_ fN
  exact ⟨(i,h),⟨⟨by simp only[];omega,by simp only[];omega,hlo,PC hs b1⟩,O1⟩,LT,rfl⟩
 refine Tr.exit ?_
 refine hK1 _ ?_
 by_cases b2:i< l.length
 ·
  have hij:i=j:=by omega
  have hf:=vS hs (show i≤l.length by omega) hlo (by rw[hij];exact hhi)
  have hy:= @vV
  refine aa hcx [1000035,1000048] [some 35,some 36,some 37,some 38,some 39,some 40,some 41,some 42,some 43,some 44,some 45,some 46,some 47,some 48,some 6,some 7] [] rfl rfl rfl ?_ fN
  exact Tr.ret zk
 have hij:i=j:=by omega
 have hf:=vS hs (show i≤l.length by omega) hlo (by rw[hij];exact hhi)
 have hy:= @vV
 refine aa hcx [1000035,1000048] [some 35,some 36,some 37,some 38,some 39,some 40,some 41,some 42,some 43,some 44,some 45,some 46,some 47,some 48,some 6,some 7] [] rfl rfl rfl ?_ fN
 exact Tr.ret zk
theorem tP {p:Prop}(e:p:=by intro KZ hZ;simp -implicitDefEqProofs (disch:=first|omega| (simp only[go_sem,lA,lD,lT] <;>omega) |decide) only[go_sem,↓reduceIte,Nat.reduceEqDiff,reduceCtorEq,Nat.reduceLT,Nat.reduceBEq,Nat.reduceAdd,e88,hy];with_reducible exact hZ):p:=e
theorem Kn {p:Prop}(e:p:=by simp -implicitDefEqProofs (disch:=first|omega| (simp only[go_sem,lA,lD,lT] <;>omega) |decide) only[go_sem,↓reduceIte,Nat.reduceEqDiff,reduceCtorEq];all_goals (rfl)):p:=e
theorem Tt {gl:Nat→C}{M:Nat}{pu:Nat→List C→Option C}(hcx:CxOK (ao gl M pu))(h88:∀ (l:List ab) (k:List UInt8),Srt l→l.length≤1000000→pu 88 [sl eC .no l,.val (str k),.fn 89 []] =some (.tup [.val (nI (bm l k)),.val (.bool (tO l k))]))(l:List ab)(k:List UInt8)(hs:Srt l)(hl:l.length≤1000000):FC Tryd.prog gl 56 [sl eC .no l,.val (str k)] [] (.val (nI (bm l k))) []:=by
 replace hcx:=hcx.reN (M:=14)
 refine aP (cx:=ao gl 14 pu) (rs:=[.tmp 4]) rfl Tryd.func56 rfl rfl rfl (by simp only[List.length_cons,List.length_nil];decide) (by simp only[go_sem]) ?_
 simp only[bQ,go_sem]
 have hy:=True.intro
 have e88:=h88 l k hs hl
 refine aa hcx [] _ [] rfl rfl rfl ?_ tP
 refine aa hcx [1000011,1000012] _ [] rfl rfl rfl ?_ tP
 refine aa hcx [1000013] _ [] rfl rfl rfl ?_ tP
 exact Tr.ret Kn
end Go.Sx
namespace Go.Sx
open Go.RowKit
section
variable {cx:Cx} {Q:Ex→St→Prop} {e:List (Nat×C)} {h:Hp} {c:Code}
theorem GX (hcx:CxOK cx)(ρ:List Nat){e':List (Nat×C)}{h':Hp}(H:Tr cx 0 c ⟨A e',h'⟩ Q)
 (hρ:oH 0 ρ:=by exact ⟨by decide,by decide,fun j hj=>absurd hj (Nat.not_lt_zero j)⟩)
 (E:∀K:List (Nat×C)→Hp→Prop,K e' h'→K (gz (bn ρ) e) (gf ρ h):=by
   intro KZ hZ
   simp -implicitDefEqProofs only[jo,ip,vu,p9,lB,jG,p7,p8,Option.map_some,Option.map_none,kJ,p6,ly,jF,nB,kI,mm,pX,pY,pZ,nD,p4,jz,jA,jB,jC,jD,jE,nA,lx,↓reduceIte,Nat.reduceEqDiff,reduceCtorEq,Nat.reduceAdd,Nat.zero_add,Nat.one_ne_zero,Nat.zero_ne_one,p5,qf,jI,jJ,qg,jK,jL]
   with_reducible exact hZ):Tr cx 0 c ⟨A e,h⟩ Q:=
 B1 hcx ρ hρ (E (fun x y=>Tr cx 0 c ⟨A x,y⟩ Q) H)
end
end Go.Sx
namespace Go.Sx
open Go.RowKit Go.Proofs
set_option maxRecDepth 100000
set_option maxHeartbeats 8000000
theorem G8 {l:List ab}(h:l≠[]): (sl eC .no l).nilS?=some false:=by
 cases l with
 |nil=>exact absurd rfl h
 |cons x l=>rfl
theorem zm (u:TypeDesc)(y:Nat)(z:List Value)(hz:z.length=2)(h1:z.all (·.oneCell') =true):jy (some ⟨u,2,y,z⟩) 0 [] =some (vp (sl eC .full [])):=by
 unfold jy
 simp only[hz,h1]
 rw[if_pos ⟨by decide,by decide,trivial,trivial⟩]
 rfl
attribute [go_sem] zm
theorem SM:Tryd.prog.eqGuardType Tryd.prog.depth 33=false:=by kernel_rfl
theorem PD {l:List ab}(h:l≠[])(op:BinOp):aq Tryd.prog op 33 (sl eC .no l) (.val (.slice none 0 0)) =lN op false:=SI op (G8 h) (fun v e=>by cases e) ur SM
theorem EW (a:Option Addr)(n c:Nat)(op:BinOp):aq Tryd.prog op 33 (.val (.slice a n c)) (.val (.slice none 0 0)) =lN op a.isNone:=SL op a n c ur SM
def gE (l:List ab)(a b:Nat):bL:=⟨cK l 12 a b,eF _ _ _ _⟩
theorem iT (l:List ab)(a n x:Nat)(h:a+x< l.length)(hx:x< n):gt ((l.drop a).take n) x=gt l (a+x):=by
 simp only[gt,List.getD,List.getElem?_take,List.getElem?_drop,if_pos hx]
theorem oh (l:List ab)(a n:Nat):∀d x y,a+y≤l.length→x< y→y≤n→cK ((l.drop a).take n) d x y=cK l d (a+x) (a+y)
 |0,x,y,h1,h2,h3=>by
  show d5 _=d5 _
  rw[iT l a n x (by omega) (by omega)]
 |d+1,x,y,h1,h2,h3=>by
  have e:a+y - (a+x) =y - x:=by omega
  unfold cK
  rw[e]
  by_cases h:y - x≤1
  . rw[if_pos h,if_pos h,iT l a n x (by omega) (by omega)]
  . have hh:=fw (n:=y - x) (by omega)
    rw[if_neg h,if_neg h,oh l a n d x _ (by omega) (by omega) (by omega),oh l a n d _ y (by omega) (by omega) (by omega),Nat.add_assoc]
theorem tQ {l:List ab}{a b:Nat}(h1:a< b)(h2:b≤l.length):iu ((l.drop a).take (b - a)) =cK l 12 a b:=by
 have hl: ((l.drop a).take (b - a)).length=b - a:=by rw[List.length_take,List.length_drop];omega
 unfold iu
 rw[hl,oh l a (b - a) 12 0 (b - a) (by omega) (by omega) (Nat.le_refl _)]
 congr 1
 omega
def cH (l:List ab)(f e:Nat):Nat→Nat→Nat→List bL
 |0,a,b=>if b≤f∨e≤a then [gE l a b] else []
 |d+1,a,b=>if b≤f∨e≤a then [gE l a b] else if b - a≤1 then [] else cH l f e d a (a+aD (b - a))++cH l f e d (a+aD (b - a)) b
section
variable {l:List ab} {f e d a b:Nat}
theorem sG (h:b≤f∨e≤a):cH l f e d a b= [gE l a b]:=by cases d<;>simp only[cH,if_pos h]
theorem w6 (h:¬ (b≤f∨e≤a))(h2:b - a≤1):cH l f e d a b= []:=by cases d<;>simp only[cH,if_neg h,if_pos h2]
theorem sH (h:¬ (b≤f∨e≤a))(h2:¬b - a≤1):cH l f e (d+1) a b=cH l f e d a (a+aD (b - a))++cH l f e d (a+aD (b - a)) b:=by simp only[cH,if_neg h,if_neg h2]
end
theorem qu (l:List ab)(f e:Nat):∀d a b,(cH l f e d a b).length≤2 ^ d
 |0,a,b=>by unfold cH;split<;>simp
 |d+1,a,b=>by
  have h1:=qu l f e d a (a+aD (b - a))
  have h2:=qu l f e d (a+aD (b - a)) b
  have e2:2 ^ (d+1) =2*2 ^ d:=by rw[Nat.pow_succ];omega
  have hp:=Nat.two_pow_pos d
  unfold cH;split
  . simp;omega
  . split
    . simp
    . rw[List.length_append];omega
theorem zn (l:List ab)(f e q d:Nat):b8 91 [.kp [.val (nI f)],.kp [.val (nI e)],.bp q 0,.kp [sl eC .no l]] (d+1) = .kp [.fn 91 [.kp [.val (nI f)],.kp [.val (nI e)],.bp q 0,.kp [sl eC .no l],b8 91 [.kp [.val (nI f)],.kp [.val (nI e)],.bp q 0,.kp [sl eC .no l]] d]]:=rfl
theorem OkL.sub {l:List ab}(h:OkL l){a b:Nat}(hb:b≤l.length):OkL ((l.drop a).take (b - a)):=by
 have hl:=h.1
 refine ⟨by rw[List.length_take,List.length_drop];omega,fun i hi=>?_⟩
 rw[List.length_take,List.length_drop] at hi
 rw[iT l a (b - a) i (by omega) (by omega)];exact h.2 _ (by omega)
theorem Ko (cx:Cx)(st:St):gP cx st [] =some (.tup []):=rfl
attribute [go_sem] Ko
theorem tR (x y:Value)(lv:List ab)(S:List bL):jM 1 [some [.val x,.val y,sl eC .no lv,sl dC (.own 16) S]] =true:=by simp only[lG,nL,go_sem,Bool.and_self]
theorem tS (l:List ab)(a b:Nat): (gE l a b).1.length=16:=(gE l a b).2
def cd (l:List ab)(f e:Nat):List bL:=if l.length=0 then [] else cH l f e 12 0 l.length
theorem EX {l:List ab}{f e:Nat}(h:l.length=0):cd l f e= []:=if_pos h
theorem EY {l:List ab}{f e:Nat}(h:¬l.length=0):cd l f e=cH l f e 12 0 l.length:=if_neg h
theorem qv {p:Prop}(e:p:=by intro KZ hZ;simp -implicitDefEqProofs (disch:=first|omega| (simp only[go_sem,lA,lD,lT] <;>omega) |decide) only[go_sem,↓reduceIte,Nat.reduceEqDiff,reduceCtorEq,Nat.reduceLT,Nat.reduceBEq,Nat.reduceAdd,e33,hy];with_reducible exact hZ):p:=e
theorem G9 {p:Prop}(e:p:=by simp -implicitDefEqProofs (disch:=first|omega| (simp only[go_sem,lA,lD,lT] <;>omega) |decide) only[go_sem,↓reduceIte,Nat.reduceEqDiff,reduceCtorEq];all_goals (rfl)):p:=e
theorem PE {gl:Nat→C}{M:Nat}{pu:Nat→List C→Option C}(hcx:CxOK (ao gl M pu))(l:List ab)(hl:l.length≤1000000)(h0:l≠[]):FC Tryd.prog gl 63 [sl eC .no l] [] (sl eC (.own 2) l) []:=by
 replace hcx:=hcx.reN (M:=8)
 refine aP (cx:=ao gl 8 pu) (rs:=[.tmp 2]) rfl Tryd.func63 rfl rfl rfl (by simp only[List.length_cons,List.length_nil];decide) (by simp only[go_sem]) ?_
 simp only[bQ,go_sem]
 have hy:=True.intro
 have e33:= @PD l h0
 refine aa hcx [] _ [] rfl rfl rfl ?_ qv
 refine ae fun K1 hK1=>?_
 refine aa hcx [] _ [] rfl rfl rfl ?_ qv
 refine bF rfl ?_
 refine Tr.skip ?_
 refine hK1 _ ?_
 refine aa hcx [5,1000007] _ [] rfl rfl rfl ?_ qv
 exact Tr.ret G9
theorem qw {p:Prop}(e:p:=by intro KZ hZ;simp -implicitDefEqProofs (disch:=first|omega| (simp only[go_sem,lA,lD,lT] <;>omega) |decide) only[go_sem,↓reduceIte,Nat.reduceEqDiff,reduceCtorEq,Nat.reduceLT,Nat.reduceBEq,Nat.reduceAdd,EW,Option.isNone_none,hy];with_reducible exact hZ):p:=e
theorem Ha {p:Prop}(e:p:=by simp -implicitDefEqProofs (disch:=first|omega| (simp only[go_sem,lA,lD,lT] <;>omega) |decide) only[go_sem,↓reduceIte,Nat.reduceEqDiff,reduceCtorEq];all_goals (rfl)):p:=e
theorem PF {gl:Nat→C}{M:Nat}{pu:Nat→List C→Option C}(hcx:CxOK (ao gl M pu))(cap:Nat)(hc:cap≤maxLen):FC Tryd.prog gl 63 [.val (.slice none 0 cap)] [] (sl eC (.own 2) []) []:=by
 replace hcx:=hcx.reN (M:=8)
 refine aP (cx:=ao gl 8 pu) (rs:=[.tmp 2]) rfl Tryd.func63 rfl rfl rfl (by simp only[List.length_cons,List.length_nil];decide) (by simp only[go_sem]) ?_
 simp only[bQ,go_sem]
 have hy:=True.intro
 refine aa hcx [] _ [] rfl rfl rfl ?_ qw
 refine ae fun K1 hK1=>?_
 refine aa hcx [] _ [] rfl rfl rfl ?_ qw
 refine bM rfl ?_
 refine aa hcx [] _ [] rfl rfl rfl ?_ qw
 refine Tr.live [(2,sl eC (.own 2) [])] LT ?_
 exact Tr.ret Ha
theorem qx {p:Prop}(e:p:=by intro KZ hZ;simp -implicitDefEqProofs (disch:=first|omega| (simp only[go_sem,lA,lD,lT] <;>omega) |decide) only[go_sem,↓reduceIte,Nat.reduceEqDiff,reduceCtorEq,Nat.reduceLT,Nat.reduceBEq,Nat.reduceAdd,EW,Option.isNone_some,hy];with_reducible exact hZ):p:=e
theorem Hb {p:Prop}(e:p:=by simp -implicitDefEqProofs (disch:=first|omega| (simp only[go_sem,lA,lD,lT] <;>omega) |decide) only[go_sem,↓reduceIte,Nat.reduceEqDiff,reduceCtorEq];all_goals (rfl)):p:=e
theorem PG {gl:Nat→C}{M:Nat}{pu:Nat→List C→Option C}(hcx:CxOK (ao gl M pu))(x:Addr)(cap:Nat)(hc:cap≤maxLen):FC Tryd.prog gl 63 [.val (.slice (some x) 0 cap)] [] (sl eC (.own 2) []) []:=by
 replace hcx:=hcx.reN (M:=8)
 refine aP (cx:=ao gl 8 pu) (rs:=[.tmp 2]) rfl Tryd.func63 rfl rfl rfl (by simp only[List.length_cons,List.length_nil];decide) (by simp only[go_sem]) ?_
 simp only[bQ,go_sem]
 have hy:=True.intro
 refine aa hcx [] _ [] rfl rfl rfl ?_ qx
 refine ae fun K1 hK1=>?_
 refine aa hcx [] _ [] rfl rfl rfl ?_ qx
 refine bF rfl ?_
 refine Tr.skip ?_
 refine hK1 _ ?_
 refine Tr.live [(0,sl eC .no [])] (by simp only[bc,bJ,↓bG,↓reduceIte,Nat.reduceEqDiff,and_true];exact Ca _ _ hc) ?_
 refine aa hcx [5,1000007] _ [] rfl rfl rfl ?_ qx
 exact Tr.ret Hb
theorem mw {p:Prop}(e:p:=by intro KZ hZ;simp -implicitDefEqProofs (disch:=first|omega| (simp only[go_sem,lA,lD,lT,hgl] <;>omega) |decide) only[go_sem,↓reduceIte,Nat.reduceEqDiff,reduceCtorEq,Nat.reduceLT,Nat.reduceBEq,Nat.reduceAdd,b1,b2,hy];with_reducible exact hZ):p:=e
theorem vW {p:Prop}(e:p:=by intro KZ hZ;simp -implicitDefEqProofs (disch:=first|omega| (simp only[go_sem,lA,lD,lT,hgl] <;>omega) |decide) only[go_sem,↓reduceIte,Nat.reduceEqDiff,reduceCtorEq,Nat.reduceLT,Nat.reduceBEq,Nat.reduceAdd,b1,b2,hy];with_reducible refine And.intro ?_ hZ;first|exact rfl|decide):p:=e
theorem qy {p:Prop}(e:p:=by simp -implicitDefEqProofs (disch:=first|omega| (simp only[go_sem,lA,lD,lT,hgl] <;>omega) |decide) only[go_sem,↓reduceIte,Nat.reduceEqDiff,reduceCtorEq];all_goals (first| (rw[hR];done) | (rw[hR,List.append_nil];done) | (rw[hR,List.append_assoc];done) | (rw[hR];rfl))):p:=e
theorem EZ {gl:Nat→C}{M0:Nat}{pu:Nat→List C→Option C}{hp:Nat→List C→Hp→Option (C×Hp)}(hcx:CxOK (dZ gl M0 pu hp))(l:List ab)(f e z:Nat)(lv:List ab)(S:List bL)(d a b:Nat)(hl:OkL l)(hf:f≤5000∧e≤5000)(hab:a< b∧b≤l.length∧b - a≤2 ^ d)(hS:S.length≤100000 - 2 ^ d)(hd:d≤12)(hz:b≤f∨e≤a∨b - a≤1)(hnr:∀ (g:Nat) (xs:List C),noRefs 0 xs=false→pu g xs=none)(h51:∀l:List ab,OkL l→0< l.length→pu 51 [sl eC .no l] =some (.agg (cl bC (iu l)))):FC Tryd.prog gl 91 [.val (nI a),.val (nI b),.kp [.val (nI f)],.kp [.val (nI e)],.bp 0 0,.kp [sl eC .no l],b8 91 [.kp [.val (nI f)],.kp [.val (nI e)],.bp 0 0,.kp [sl eC .no l]] d] [some [.val (nI f),.val (nI z),sl eC .no lv,sl dC (.own 16) (S)]] (.tup []) [some [.val (nI f),.val (nI z),sl eC .no lv,sl dC (.own 16) (S++cH l f e d a b)]]:=by
 replace hcx:=hcx.reN (M:=45)
 refine iq (cx:=dZ gl 45 pu hp) (rs:=[]) rfl Tryd.func91 rfl rfl rfl (by simp only[List.length_cons,List.length_nil];decide) (by simp only[go_sem]) (tR _ _ _ _) ?_
 simp only[bQ,go_sem]
 have b1:=True.intro
 have b2:=True.intro
 have hy:=True.intro
 have hll:=hl.1
 have hgl:=tS l
 refine Tr.blk ?_
 by_cases b1:b≤f
 ·
  refine aa hcx [1000018] [some 11,some 12,some 13,some 14,some 15,some 16,some 17,some 18,some 10] [] rfl rfl rfl ?_ mw
  refine bM rfl ?_
  have hR:=sG (l:=l) (d:=d) (f:=f) (e:=e) (a:=a) (b:=b) (Or.inl b1)
  have e51:pu 51 [sl eC .no ((l.drop a).take (b - a))] =some (.agg (cl bC (gE l a b).1)):=(h51 _ (hl.sub hab.2.1) (by rw[List.length_take,List.length_drop];omega)).trans (by rw[tQ hab.1 hab.2.1];rfl)
  have hy:= @e51
  refine gA hcx fL [20] _ [] rfl rfl rfl rfl ?_ vW
  exact qy
 by_cases b2:e≤a
 ·
  refine aa hcx [1000018] [some 11,some 12,some 13,some 14,some 15,some 16,some 17,some 18,some 10] [] rfl rfl rfl ?_ mw
  refine bM rfl ?_
  have hR:=sG (l:=l) (d:=d) (f:=f) (e:=e) (a:=a) (b:=b) (Or.inr b2)
  have e51:pu 51 [sl eC .no ((l.drop a).take (b - a))] =some (.agg (cl bC (gE l a b).1)):=(h51 _ (hl.sub hab.2.1) (by rw[List.length_take,List.length_drop];omega)).trans (by rw[tQ hab.1 hab.2.1];rfl)
  have hy:= @e51
  refine gA hcx fL [20] _ [] rfl rfl rfl rfl ?_ vW
  exact qy
 refine aa hcx [1000018] [some 11,some 12,some 13,some 14,some 15,some 16,some 17,some 18,some 10] [] rfl rfl rfl ?_ mw
 refine bF rfl ?_
 have h29: (1< b - a) =False:=eq_false (by omega)
 have hR:=w6 (l:=l) (d:=d) (f:=f) (e:=e) (a:=a) (b:=b) (fun h=>h.elim b1 b2) (by omega)
 have hy:= @h29
 refine aa hcx [1000033] _ [] rfl rfl rfl ?_ mw
 refine bF rfl ?_
 refine Tr.skip ?_
 exact qy
theorem j5 {p:Prop}(e:p:=by intro KZ hZ;simp -implicitDefEqProofs (disch:=first|omega| (simp only[go_sem,lA,lD,lT,hgl] <;>omega) |decide) only[go_sem,↓reduceIte,Nat.reduceEqDiff,reduceCtorEq,Nat.reduceLT,Nat.reduceBEq,Nat.reduceAdd,hy];with_reducible exact hZ):p:=e
theorem Hc {p:Prop}(e:p:=by simp -implicitDefEqProofs (disch:=first|omega| (simp only[go_sem,lA,lD,lT,hgl] <;>omega) |decide) only[go_sem,↓reduceIte,Nat.reduceEqDiff,reduceCtorEq];all_goals (rfl)):p:=e
theorem PH {gl:Nat→C}{M0:Nat}{pu:Nat→List C→Option C}{hp:Nat→List C→Hp→Option (C×Hp)}(hcx:CxOK (dZ gl M0 pu hp))(l:List ab)(f e z:Nat)(lv:List ab)(S:List bL)(d a b:Nat)(hl:OkL l)(hf:f≤5000∧e≤5000)(hab:a< b∧b≤l.length∧b - a≤2 ^ (d+1))(hS:S.length≤100000 - 2 ^ (d+1))(hd: (d+1)≤12)(hq91:∀ (S:List bL) (a b:Nat),S.length≤100000 - 2 ^ d→a< b∧b≤l.length∧b - a≤2 ^ d→hp 91 [.val (nI a),.val (nI b),.kp [.val (nI f)],.kp [.val (nI e)],.bp 0 0,.kp [sl eC .no l],b8 91 [.kp [.val (nI f)],.kp [.val (nI e)],.bp 0 0,.kp [sl eC .no l]] d] [some [.val (nI f),.val (nI z),sl eC .no lv,sl dC (.own 16) (S)]] =some (.tup [],[some [.val (nI f),.val (nI z),sl eC .no lv,sl dC (.own 16) (S++cH l f e d a b)]]))(hz1:¬b≤f)(hz2:¬e≤a)(hz3:¬b - a≤1)(hnr:∀ (g:Nat) (xs:List C),noRefs 0 xs=false→pu g xs=none)(hn91:∀xs:List C,(∃b o,C.bp b o∈xs)→hp 91 xs [] =some (.top,[]))(h81:∀x y:Nat,x≤y∧y≤4611686018427387000→pu 81 [.val (nI x),.val (nI y)] =some (.val (nI (x+aD (y - x))))):FC Tryd.prog gl 91 [.val (nI a),.val (nI b),.kp [.val (nI f)],.kp [.val (nI e)],.bp 0 0,.kp [sl eC .no l],b8 91 [.kp [.val (nI f)],.kp [.val (nI e)],.bp 0 0,.kp [sl eC .no l]] (d+1)] [some [.val (nI f),.val (nI z),sl eC .no lv,sl dC (.own 16) (S)]] (.tup []) [some [.val (nI f),.val (nI z),sl eC .no lv,sl dC (.own 16) (S++cH l f e (d+1) a b)]]:=by
 replace hcx:=hcx.reN (M:=45)
 refine iq (cx:=dZ gl 45 pu hp) (rs:=[]) rfl Tryd.func91 rfl rfl rfl (by simp only[List.length_cons,List.length_nil];decide) (by simp only[go_sem]) (tR _ _ _ _) ?_
 simp only[bQ,go_sem]
 have hy:=True.intro
 have hll:=hl.1
 have hgl:=tS l
 have b1:=hz1
 have b2:=hz2
 have h29: (1< b - a) =True:=eq_true (by omega)
 refine Tr.blk ?_
 have hy:=And.intro @b1 @b2
 refine aa hcx [1000018] [some 11,some 12,some 13,some 14,some 15,some 16,some 17,some 18,some 10] [] rfl rfl rfl ?_ j5
 refine bF rfl ?_
 have hy:= @h29
 refine aa hcx [1000033] _ [] rfl rfl rfl ?_ j5
 refine bM rfl ?_
 have e81:=h81 a b (by omega)
 have hh:=fw (n:=b - a) (by omega)
 have hh2:=eW (by omega) hab.2.2
 have e2d:2 ^ (d+1) =2*2 ^ d:=by rw[Nat.pow_succ];omega
 have hp3:2 ^ (d+1)≤2 ^ 12:=Nat.pow_le_pow_right (by omega) hd
 have hs1:=qu l f e d a (a+aD (b - a))
 have e1:=hq91 S a (a+aD (b - a)) (by omega) (by omega)
 have e2:=hq91 (S++cH l f e d a (a+aD (b - a))) (a+aD (b - a)) b (by rw[List.length_append];omega) (by omega)
 have hR:=sH (l:=l) (d:=d) (f:=f) (e:=e) (a:=a) (b:=b) (fun h=>h.elim b1 b2) hz3
 rw[List.append_assoc,←hR] at e2
 have en:∀x y:Nat,hp 91 [.val (nI x),.val (nI y),.kp [.val (nI f)],.kp [.val (nI e)],.bp 0 0,.kp [sl eC .no l],b8 91 [.kp [.val (nI f)],.kp [.val (nI e)],.bp 0 0,.kp [sl eC .no l]] d] [] =some (.top,[]):=fun x y=>hn91 _ ⟨0,0,by simp⟩
 have ep:∀x y:Nat,pu 91 [.val (nI x),.val (nI y),.kp [.val (nI f)],.kp [.val (nI e)],.bp 0 0,.kp [sl eC .no l],b8 91 [.kp [.val (nI f)],.kp [.val (nI e)],.bp 0 0,.kp [sl eC .no l]] d] =none:=fun x y=>hnr 91 _ rfl
 have hy:= @e81
 refine aa hcx [1000036] _ [] rfl rfl rfl ?_ j5
 refine Tr.k [0,1,6,9] ?_
 have hy:=And.intro @zn (And.intro @e1 (And.intro @en @ep))
 refine aa hcx [] _ [] rfl rfl rfl ?_ j5
 have hy:=And.intro @zn (And.intro @e2 (And.intro @en @ep))
 refine br hcx [] _ [] rfl rfl rfl ?_ j5
 exact Hc
end Go.Sx
