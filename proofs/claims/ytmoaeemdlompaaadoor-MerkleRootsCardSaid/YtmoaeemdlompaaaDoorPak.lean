/-
   And what follows.
-/
import Derived.SizedLaws
import Derived.JoinedCond
import Derived.Deep.CondSized
import Derived.Below
import Derived.Test.YtmoaeemdlompaaaDoorPaj
set_option linter.unusedSimpArgs false
set_option linter.unusedVariables false
namespace Go.Sx
open Go.RowKit
open Classical in
noncomputable def oF {α:Type}(enc:α→List C×Hp)(out:α→C×Hp)(xs:List C)(h:Hp):Option (C×Hp):=
 if q:∃a,enc a= (xs,h) then some (out q.choose) else none
theorem ve {α:Type}{enc:α→List C×Hp}{out:α→C×Hp}(hi:∀a b,enc a=enc b→out a=out b)(a:α):oF enc out (enc a).1 (enc a).2=some (out a):=by
 have h:∃b,enc b= ((enc a).1,(enc a).2):=⟨a,rfl⟩
 unfold oF
 rw[dif_pos h]
 exact congrArg some (hi _ _ h.choose_spec)
theorem BS {α:Type}{enc:α→List C×Hp}{out:α→C×Hp}{xs:List C}{h:Hp}{r:C×Hp}(e:oF enc out xs h=some r):∃a,enc a= (xs,h)∧out a=r:=by
 unfold oF at e
 split at e
 . rename_i h2;exact ⟨_,h2.choose_spec,Option.some.inj e⟩
 . cases e
def extH (hp:Nat→List C→Hp→Option (C×Hp))(f:Nat)(t:List C→Hp→Option (C×Hp)):Nat→List C→Hp→Option (C×Hp):=fun g xs h=>if g=f then t xs h else hp g xs h
theorem oG {hp:Nat→List C→Hp→Option (C×Hp)}{f:Nat}{t:List C→Hp→Option (C×Hp)}(xs:List C)(h:Hp):extH hp f t f xs h=t xs h:=if_pos rfl
theorem so {hp:Nat→List C→Hp→Option (C×Hp)}{f g:Nat}{t:List C→Hp→Option (C×Hp)}(n:g≠f)(xs:List C)(h:Hp):extH hp f t g xs h=hp g xs h:=if_neg n
theorem CxOK.extH {P:Program}{km:TypeId→Value→Bool}{gl:Nat→C}{pu:Nat→List C→Option C}{hp:Nat→List C→Hp→Option (C×Hp)}{N M:Nat}(hcx:CxOK ⟨P,N,gl,pu,hp,fun _=>false,km,true⟩)
 {α:Type} {enc:α→List C×Hp} {out:α→C×Hp} {f:Nat} (h:∀a,FC P gl f (enc a).1 (enc a).2 (out a).1 (out a).2):CxOK ⟨P,M,gl,pu,Sx.extH hp f (oF enc out),fun _=>false,km,true⟩:=by
 refine ⟨hcx.glo,hcx.pu,fun g xs k c k' hc=>?_,hcx.km⟩
 by_cases hgf:g=f
 . subst hgf
   have hc':oF enc out xs k=some (c,k'):=by rw[←hc];exact (oG xs k).symm
   obtain ⟨a,e1,e2⟩:=BS hc'
   have:=h a
   rw[e1,e2] at this
   exact this
 . have hc':hp g xs k=some (c,k'):=by rw[←hc];exact (so hgf xs k).symm
   exact hcx.hp g xs k c k' hc'
end Go.Sx
namespace Go.Sx
open Go.RowKit Go.ChangeShapes Go.WideShapes
structure BulkOK {H:Type} (B:DataW H→Nat) (BA:List (DataW H)→Nat):Prop where
 one:∀d,1≤B d
 str:∀s,B (.lit (.string s)) =s.length+1
 slice:∀e s,B (.slice e s) =BA e+BA s+1
 agg:∀e,B (.agg e) =BA e+1
 nil:BA [] =0
 cons:∀d r,BA (d::r) =B d+BA r
end Go.Sx
namespace Go.Sx
open Go.RowKit Go.ChangeShapes Go.WideShapes
end Go.Sx
namespace Go.Sx
open Go.RowKit
theorem sq {G:Gh}:∀ {vals vs:List Value},RepL G (vals.map .val) vs→vs=vals
 | [],vs,h=>by simpa[RepL] using h
 |v::vals,vs,h=>by
  rw[List.map_cons] at h
  simp only[RepL] at h
  obtain ⟨u,us,rfl,h2,h3⟩:=h
  rw[aj] at h2
  rw[h2,sq h3]
theorem y3 {P:Program}{gl:Nat→C}{f:Nat}{vals:List Value}{v:Value}(he:iN P f)(h:∀w,Calls P f vals.toArray w fun e w'=>e= .returned v∧Below w.heap.size w w'):FC P gl f (vals.map .val) [] (.val v) []:=by
 refine ⟨he,fun G w vs W hT hg hr=>?_⟩
 obtain rfl:vs=vals.toArray:=by rw[←sq hr]
 refine (h w).mono ?_
 rintro e w' ⟨rfl,hb⟩
 have hlt:∀blk off u,G.K blk off=some u→blk< w.heap.size:=fun blk off u hk=>by
  have:=W.known blk off u hk
  unfold World.cell? at this
  cases hq:w.heap[blk]? with
  |none=>rw[hq] at this;simp at this
  |some o=>exact (Array.getElem?_eq_some_iff.1 hq).1
 have hn:∀b cells,Hp.at [] b≠some cells:=fun b cells=>by simp[Hp.at]
 refine ⟨v,G,rfl,aj.2 rfl,(fun s n xs e=>by cases e),⟨fun blk off u hk=>?_,fun b cells hc=>(hn b cells hc).elim,(fun b blk x=>⟨(W.dom b blk x).1,Nat.lt_of_lt_of_le (W.dom b blk x).2 hb.size⟩),W.inj,W.sep,(fun g p hp=>Nat.lt_of_lt_of_le (W.tlt g p hp) hb.size),(fun b cells off s n xs blk v hc=>(hn b cells hc).elim),fun b z hz=>?_,(fun b l hb=>by simp[Hp.mp] at hb),(fun b b' l l' blk hb=>by simp[Hp.mp] at hb)⟩,
  ⟨hb.os,hb.tape,hb.output,hb.size,.refl G,fun g hg' ht hm=>⟨hb.block g hg',ht,hm,fun _=>rfl⟩⟩⟩
 . rw[←W.known blk off u hk]
   unfold World.cell?
   rw[hb.block blk (hlt blk off u hk)]
 . obtain ⟨blk,cs,e,fr,q1,q2,q3⟩:=W.siz b z hz
   obtain ⟨⟨c,hc⟩,_⟩:=W.dom b blk q1
   simp at hc
end Go.Sx
namespace Go.Sx
open Go.RowKit
def Cx.grow (cx:Cx)(l:List Nat):Cx:= { cx with gr:=fun t=>l.contains t }
section
variable {cx:Cx} {n:Nat} {st:St} {Q:Ex→St→Prop} {G:Gh} {w:World} {h:Hp}
theorem CxOK.grow (hcx:CxOK cx)(l:List Nat):CxOK (cx.grow l):=⟨hcx.glo,hcx.pu,hcx.hp,hcx.km⟩
theorem Sim.grow {a:Act}(H:Sim cx G w st a)(l:List Nat):Sim (cx.grow l) G w st a:=⟨H.defers,H.size,H.pre.ok,H.pre.env,H.pre.glob⟩
theorem Sim.ungrow {a:Act}{l:List Nat}(H:Sim (cx.grow l) G w st a):Sim cx G w st a:=⟨H.defers,H.size,H.pre.ok,H.pre.env,H.pre.glob⟩
theorem SB (l:List Nat){c:Code}(H:Tr (cx.grow l) n c st Q):Tr cx n c st Q:=fun r hr G w a S R hR=>
 H r hr G w a (S.grow l) R fun x s G' w' a' q S' F=>hR x s G' w' a' q S'.ungrow F
theorem JD (hcx:CxOK cx)(hm:cx.P.follows .mixedOrders=true)(gs:List Nat){e:List (Nat×C)}{id:Nat}{l:List Oper}(apps:List Nat)(dsts:List (Option Nat))(z:Hp)(h1:l.filterMap dg=apps)(h2:l.map (·.dst) =dsts)(h3:ff l=z)
 (hs:dH l.toArray=true)
 (H:run (cx.grow gs) apps dsts l h.length e (h++z) [] (fun fs s=>eZ l.toArray fs.reverse=true∧Q .normal s)):Tr cx n (.region id l.toArray true) ⟨A e,h⟩ Q:=
 SB gs (uP (hcx.grow gs) hm apps dsts z h1 h2 h3 hs H)
def da:List Nat→Nat→Nat→Option Nat
 | [],_,_=>none
 |x::r,k,b=>if b=x then some k else da r (k+1) b
theorem d9:∀ {ρ:List Nat}{k b j:Nat},da ρ k b=some j→k≤j∧ρ[j - k]? =some b
 | [],k,b,j,h=>by cases h
 |x::r,k,b,j,h=>by
  simp only[da] at h
  split at h
  . rename_i e;cases h;subst e;simp
  . obtain ⟨h1,h2⟩:=d9 h
    refine ⟨by omega,?_⟩
    have:j - k= (j - (k+1))+1:=by omega
    rw[this,List.getElem?_cons_succ];exact h2
mutual
def bn (ρ:List Nat):C→C
 | .sv b o n=>match da ρ 0 b with|some j=> .sv j o n|none=> .top
 | .gv b n s=>match da ρ 0 b with|some j=> .gv j n s|none=> .top
 | .bp b o=>match da ρ 0 b with|some j=> .bp j o|none=> .top
 | .mp b=>match da ρ 0 b with|some j=> .mp j|none=> .top
 | .bt b t n=>match da ρ 0 b with|some j=> .bt j t n|none=> .top
 | .sl r n xs=> .sl r n (mvCs ρ xs)
 | .kp xs=> .kp (mvCs ρ xs)
 | .agg xs=> .agg (mvCs ρ xs)
 | .tup xs=> .tup (mvCs ρ xs)
 | .fn f xs=> .fn f (mvCs ρ xs)
 | .top=> .top
 | .val v=> .val v
def mvCs (ρ:List Nat):List C→List C
 | [] =>[]
 |x::xs=>bn ρ x::mvCs ρ xs
end
theorem lr (ρ:List Nat):∀xs:List C,mvCs ρ xs=xs.map (bn ρ)
 | [] =>rfl
 |x::xs=>by simp[mvCs,lr ρ xs]
def gf (ρ:List Nat)(h:Hp):Hp:=ρ.map fun b=>((h[b]?).getD none).map (mvCs ρ)
def cB (ρ:List Nat)(G:Gh):Gh where
 K:=G.K
 μ:=fun j=>(ρ[j]?).bind G.μ
 T:=fun g=>match G.T g with
  |some p=>if p.1=1 then (da ρ 0 p.2.1).map (fun j=>(1,j,p.2.2)) else some p
  |none=>none
 σ:=fun j=>(ρ[j]?).bind G.σ
mutual
theorem kF {ρ:List Nat}:∀ (c:C)(v:Value),Rep G c v→Rep (cB ρ G) (bn ρ c) v
 | .top,_,_=>by simp[bn,Rep]
 | .val u,v,r=>by simpa[bn,Rep] using r
 | .sl r n xs,v,x=>by
   simp only[bn,Rep] at x ⊢
   obtain ⟨a,cap,h1,h2,h3,h4,h5⟩:=x
   refine ⟨a,cap,h1,h2,h3,h4,?_⟩
   rcases h5 with h5| ⟨blk,off,ha,hk⟩
   . left;rw[h5];rfl
   . exact .inr ⟨blk,off,ha,mvC_repK xs blk off hk⟩
 | .sv b off n,v,x=>by
   simp only[bn]
   cases hl:da ρ 0 b with
   |none=>simp[Rep]
   |some j=>
    have hj:=(d9 hl).2
    simp only[Rep] at x ⊢
    obtain ⟨a,cap,h1,h2,h3,h4⟩:=x
    exact ⟨a,cap,h1,h2,h3,fun hz=>by obtain ⟨blk,q1,q2⟩:=h4 hz;exact ⟨blk,by simp only[cB,Nat.sub_zero] at hj ⊢;rw[hj];exact q1,q2⟩⟩
 | .gv b m s,v,x=>by
   simp only[bn]
   cases hl:da ρ 0 b with
   |none=>simp[Rep]
   |some j=>
    have hj:=(d9 hl).2
    simp only[Nat.sub_zero] at hj
    simp only[Rep] at x ⊢
    obtain ⟨a,cap,h1,h2,h3,h4⟩:=x
    refine ⟨a,cap,h1,h2,h3,?_⟩
    rcases h4 with h4| ⟨blk,q1,q2,q3⟩
    . exact .inl h4
    . exact .inr ⟨blk,by simp only[cB];rw[hj];exact q1,q2,by simp only[cB];rw[hj];exact q3⟩
 | .bp b off,v,x=>by
   simp only[bn]
   cases hl:da ρ 0 b with
   |none=>simp[Rep]
   |some j=>
    have hj:=(d9 hl).2
    simp only[Nat.sub_zero] at hj
    simp only[Rep] at x ⊢
    obtain ⟨blk,h1,h2⟩:=x
    exact ⟨blk,by simp only[cB];rw[hj];exact h1,h2⟩
 | .mp b,v,x=>by
   simp only[bn]
   cases hl:da ρ 0 b with
   |none=>simp[Rep]
   |some j=>
    have hj:=(d9 hl).2
    simp only[Nat.sub_zero] at hj
    simp only[Rep] at x ⊢
    obtain ⟨blk,h1,h2⟩:=x
    exact ⟨blk,by simp only[cB];rw[hj];exact h1,h2⟩
 | .bt b t n,v,x=>by
   simp only[bn]
   cases hl:da ρ 0 b with
   |none=>simp[Rep]
   |some j=>
    have hj:=(d9 hl).2
    simp only[Nat.sub_zero] at hj
    simp only[Rep] at x ⊢
    obtain ⟨blk,h1,h2,h3⟩:=x
    exact ⟨blk,by simp only[cB];rw[hj];exact h1,h2,by simp only[cB];rw[hj];exact h3⟩
 | .kp xs,v,x=>by
   simp only[bn,Rep] at x ⊢
   obtain ⟨blk,off,h1,h2⟩:=x
   exact ⟨blk,off,h1,mvC_repK xs blk off h2⟩
 | .agg xs,v,x=>by
   simp only[bn,Rep] at x ⊢
   obtain ⟨vs,h1,h2,h3⟩:=x
   exact ⟨vs,h1,mvC_repL xs _ h2,h3⟩
 | .tup xs,v,x=>by
   simp only[bn,Rep] at x ⊢
   obtain ⟨vs,h1,h2⟩:=x
   exact ⟨vs,h1,mvC_repL xs _ h2⟩
 | .fn f xs,v,x=>by
   simp only[bn,Rep] at x ⊢
   obtain ⟨vs,h1,h2⟩:=x
   exact ⟨vs,h1,mvC_repL xs _ h2⟩
theorem mvC_repL {ρ:List Nat}:∀ (xs:List C)(vs:List Value),RepL G xs vs→RepL (cB ρ G) (mvCs ρ xs) vs
 | [],vs,r=>by simpa[mvCs,RepL] using r
 |x::xs,vs,r=>by
  simp only[mvCs,RepL] at r ⊢
  obtain ⟨v,vs',h1,h2,h3⟩:=r
  exact ⟨v,vs',h1,kF x v h2,mvC_repL xs vs' h3⟩
theorem mvC_repK {ρ:List Nat}:∀ (xs:List C)(blk off:Nat),RepK G blk off xs→RepK (cB ρ G) blk off (mvCs ρ xs)
 | [],_,_,_=>by simp[mvCs,RepK]
 |x::xs,blk,off,r=>by
  simp only[mvCs,RepK] at r ⊢
  obtain ⟨⟨u,h1,h2,h3⟩,h4⟩:=r
  exact ⟨⟨u,h1,h2,kF x u h3⟩,mvC_repK xs blk (off+1) h4⟩
end
theorem wV {ρ:List Nat}{c:C}{s m:Nat}{xs:List C}(h:bn ρ c= .sl (.own s) m xs):∃ys,c= .sl (.own s) m ys:=by
 cases c with
 |sl r k ys=>simp only[bn] at h;cases h;exact ⟨ys,rfl⟩
 |sv b o k=>simp only[bn] at h;split at h<;>cases h
 |gv b o k=>simp only[bn] at h;split at h<;>cases h
 |bp b o=>simp only[bn] at h;split at h<;>cases h
 |mp b=>simp only[bn] at h;split at h<;>cases h
 |bt b t n=>simp only[bn] at h;split at h<;>cases h
 |_=>simp only[bn] at h;cases h
theorem pV {ρ:List Nat}{j:Nat}{cells:List C}(hj:Hp.at (gf ρ h) j=some cells):∃b cells0,ρ[j]? =some b∧h.at b=some cells0∧cells=mvCs ρ cells0:=by
 have h1:=d3 hj
 unfold gf at h1
 rw[List.getElem?_map] at h1
 cases hb:ρ[j]? with
 |none=>rw[hb] at h1;cases h1
 |some b=>
  rw[hb] at h1
  simp only[Option.map_some,Option.some.injEq] at h1
  cases hq:h[b]? with
  |none=>rw[hq] at h1;cases h1
  |some o=>
   rw[hq] at h1
   cases o with
   |none=>cases h1
   |some cells0=>
    simp only[Option.getD_some,Option.map_some,Option.some.injEq] at h1
    refine ⟨b,cells0,rfl,?_,h1.symm⟩
    have hl:=fy hj
    unfold Hp.at
    rw[hq]
    subst h1
    show bE (some cells0) =_
    cases cells0 with
    |nil=>rfl
    |cons x l=>
     cases x with
     |tup xs=>simp only[mvCs,bn] at hl;cases hl
     |_=>rfl
theorem vf {ρ:List Nat}:∀ (l:List C)(es:List MapEntry),MRep G l es→MRep (cB ρ G) (mvCs ρ l) es
 | [],_,r=>by simpa[MRep,mvCs] using r
 | [_],_,r=>by simp[MRep] at r
 |k::v::l,es,r=>by
  simp only[MRep,mvCs] at r ⊢
  obtain ⟨e,es',h1,h2,h3,h4⟩:=r
  exact ⟨e,es',h1,kF k _ h2,kF v _ h3,vf l es' h4⟩
theorem BT {ρ:List Nat}{c:C}{u:Value}(h:bn ρ c= .val u):c= .val u:=by
 cases c with
 |val v=>simp only[bn] at h;exact h
 |sv b o k=>simp only[bn] at h;split at h<;>cases h
 |gv b o k=>simp only[bn] at h;split at h<;>cases h
 |bp b o=>simp only[bn] at h;split at h<;>cases h
 |mp b=>simp only[bn] at h;split at h<;>cases h
 |bt b t n=>simp only[bn] at h;split at h<;>cases h
 |_=>simp only[bn] at h;cases h
theorem BU {ρ:List Nat}{c:C}{xs:List C}(h:bn ρ c= .tup xs):∃ys,c= .tup ys∧xs=mvCs ρ ys:=by
 cases c with
 |tup ys=>simp only[bn] at h;cases h;exact ⟨ys,rfl,rfl⟩
 |sv b o k=>simp only[bn] at h;split at h<;>cases h
 |gv b o k=>simp only[bn] at h;split at h<;>cases h
 |bp b o=>simp only[bn] at h;split at h<;>cases h
 |mp b=>simp only[bn] at h;split at h<;>cases h
 |bt b t n=>simp only[bn] at h;split at h<;>cases h
 |_=>simp only[bn] at h;cases h
theorem rq {F:C→C}{Fs:List C→List C}(hs:∀xs,Fs xs=xs.map F)(hv:∀c u,F c= .val u→c= .val u)(ht:∀c xs,F c= .tup xs→∃ys,c= .tup ys∧xs=Fs ys){cells l:List C}(h:ec (some (Fs cells)) =some l):∃l0,ec (some cells) =some l0∧l=Fs l0:=by
 cases cells with
 |nil=>rw[hs] at h;cases h
 |cons c cs=>
  rw[hs,List.map_cons] at h
  cases hq:F c with
  |tup xs=>
   obtain ⟨ys,rfl,rfl⟩:=ht c xs hq
   rw[hq] at h
   cases ys with
   |nil=>rw[hs] at h;cases h
   |cons y ys=>
    rw[hs,List.map_cons] at h
    cases hy:F y with
    |val u=>
     have:=hv y u hy
     subst this
     rw[hy] at h
     cases u with
     |bool b=>
      cases b with
      |true=>cases h;exact ⟨ys,rfl,(hs ys).symm⟩
      |false=>cases h
     |_=>cases h
    |_=>rw[hy] at h;cases h
  |_=>rw[hq] at h;cases h
theorem vg {ρ:List Nat}{h:Hp}{j:Nat}{l:List C}(hj:Hp.mp (gf ρ h) j=some l):∃b l0,ρ[j]? =some b∧h.mp b=some l0∧l=mvCs ρ l0:=by
 unfold Hp.mp gf at hj
 rw[List.getElem?_map] at hj
 cases hb:ρ[j]? with
 |none=>rw[hb] at hj;cases hj
 |some b=>
  rw[hb] at hj
  simp only[Option.map_some,Option.bind_some] at hj
  cases hq:h[b]? with
  |none=>rw[hq] at hj;cases hj
  |some o=>
   rw[hq] at hj
   cases o with
   |none=>cases hj
   |some cells0=>
    obtain ⟨l0,h1,h2⟩:=rq (Fs:=mvCs ρ) (lr ρ) (fun _ _=>BT) (fun _ _=>BU) (cells:=cells0) hj
    exact ⟨b,l0,rfl,by unfold Hp.mp;rw[hq];exact h1,h2⟩
def oH (n:Nat)(ρ:List Nat):Prop:=ρ.Nodup∧n≤ρ.length∧∀j,j< n→ρ[j]? =some j
theorem im:∀ {ρ:List Nat}{k j b:Nat},ρ.Nodup→ρ[j]? =some b→da ρ k b=some (k+j)
 |x::r,k,0,b,hn,h=>by simp at h;subst h;simp[da]
 |x::r,k,j+1,b,hn,h=>by
  rw[List.getElem?_cons_succ] at h
  have hx:b≠x:=fun e=>by
   subst e
   exact (List.nodup_cons.1 hn).1 (List.mem_of_getElem? h)
  simp only[da]
  rw[if_neg hx,im (List.nodup_cons.1 hn).2 h]
  congr 1;omega
 | [],k,j,b,hn,h=>by simp at h
theorem OwnRow.mv {ρ:List Nat}{p p':bD}{v:Value}{s m:Nat}(O:OwnRow G w p v s m)(hp: (p.1≠1∧p'=p)∨(p.1=1∧∃j,da ρ 0 p.2.1=some j∧p'= (1,j,p.2.2))):OwnRow (cB ρ G) w p' v s m:=by
 rcases O with O| ⟨g,cap,cur,e,a1,a2,a3,a4,a5,a6⟩
 . exact .inl O
 . refine .inr ⟨g,cap,cur,e,a1,?_,a3,a4,a5,fun b hb=>?_⟩
   . simp only[cB,a2]
     rcases hp with ⟨h1,rfl⟩ | ⟨h1,j,h2,rfl⟩
     . rw[if_neg h1]
     . rw[if_pos h1,h2];rfl
   . simp only[cB] at hb
     cases hq:ρ[b]? with
     |none=>rw[hq] at hb;cases hb
     |some q=>rw[hq] at hb;exact a6 q hb
theorem WorldOK.mv {ρ:List Nat}(H:WorldOK G h w)(hρ:ρ.Nodup):WorldOK (cB ρ G) (gf ρ h) w:=by
 have hμ:∀ {j blk},(cB ρ G).μ j=some blk→∃b,ρ[j]? =some b∧G.μ b=some blk:=fun {j blk} x=>by
  simp only[cB] at x
  cases hq:ρ[j]? with
  |none=>rw[hq] at x;cases x
  |some q=>rw[hq] at x;exact ⟨q,rfl,x⟩
 refine ⟨H.known,fun j cells hj=>?_,fun j blk hm=>?_,fun j j' c c' blk hj hj' hm hm'=>?_,fun j blk hm=>?_,fun g p hg=>?_,fun j cells off s m xs blk v hj hc hm hv=>?_,fun j z hz=>?_,fun j l hj=>?_,fun j j' l l' blk x x' y y'=>?_⟩
 . obtain ⟨b,cells0,h1,h2,rfl⟩:=pV hj
   rcases H.box b cells0 h2 with ⟨hE,hE2⟩ | ⟨blk,cs,e,q1,q2,q3,q4,q5⟩
   . exact .inl ⟨by rw[hE];rfl,by simp only[cB,h1];exact hE2⟩
   . have hl: (mvCs ρ cells0).length=cells0.length:=by rw[lr];simp
     exact .inr ⟨blk,cs,e,by simp only[cB,h1];exact q1,q2,by rw[hl];exact q3,by rw[hl];exact mvC_repL _ _ q4,q5⟩
 . obtain ⟨b,h1,h2⟩:=hμ hm
   obtain ⟨⟨c,hc⟩,hl⟩:=H.dom b blk h2
   refine ⟨⟨mvCs ρ c,?_⟩,hl⟩
   unfold gf
   rw[List.getElem?_map,h1]
   simp[hc]
 . obtain ⟨b,h1,h2⟩:=hμ hm
   obtain ⟨b',h1',h2'⟩:=hμ hm'
   obtain ⟨q,cells0,g1,g2,_⟩:=pV hj
   obtain ⟨q',cells0',g1',g2',_⟩:=pV hj'
   rw[h1] at g1;cases g1
   rw[h1'] at g1';cases g1'
   have e:=H.inj b b' _ _ blk g2 g2' h2 h2'
   subst e
   have l1:=im (k:=0) hρ h1
   have l2:=im (k:=0) hρ h1'
   rw[l1] at l2
   simpa using l2
 . obtain ⟨b,h1,h2⟩:=hμ hm
   obtain ⟨s1,s2⟩:=H.sep b blk h2
   exact ⟨s1,by simp only[cB,s2]⟩
 . cases hq:G.T g with
   |none=>simp only[cB,hq] at hg;cases hg
   |some q=>exact H.tlt g q hq
 . obtain ⟨b,cells0,h1,h2,rfl⟩:=pV hj
   obtain ⟨b',h1',h2'⟩:=hμ hm
   rw[h1] at h1';cases h1'
   rw[lr,List.getElem?_map] at hc
   cases hq:cells0[off]? with
   |none=>rw[hq] at hc;cases hc
   |some y=>
    rw[hq] at hc
    simp only[Option.map_some,Option.some.injEq] at hc
    obtain ⟨ys,rfl⟩:=wV hc
    have O:=H.own b cells0 off s m ys blk v h2 hq h2' hv
    have l1:=im (k:=0) hρ h1
    exact O.mv (.inr ⟨rfl,j,by simpa using l1,rfl⟩)
 . simp only[cB] at hz
   cases hq:ρ[j]? with
   |none=>rw[hq] at hz;cases hz
   |some b=>
    rw[hq] at hz
    obtain ⟨blk,cs,e,fr,q1,q2,q3⟩:=H.siz b z hz
    exact ⟨blk,cs,e,fr,by simp only[cB,hq];exact q1,q2,q3⟩
 . obtain ⟨b,l0,h1,h2,rfl⟩:=vg hj
   obtain ⟨blk,es,clk,q1,q2,q3⟩:=H.mpo b l0 h2
   exact ⟨blk,es,clk,by simp only[cB,h1];exact q1,q2,vf l0 _ q3⟩
 . obtain ⟨b,l0,h1,h2,rfl⟩:=vg x
   obtain ⟨b',l0',h1',h2',rfl⟩:=vg x'
   obtain ⟨q,g1,g2⟩:=hμ y
   obtain ⟨q',g1',g2'⟩:=hμ y'
   rw[h1] at g1;cases g1
   rw[h1'] at g1';cases g1'
   have e:=H.mpi b b' _ _ blk h2 h2' g2 g2'
   subst e
   have l1:=im (k:=0) hρ h1
   have l2:=im (k:=0) hρ h1'
   rw[l1] at l2
   simpa using l2
theorem JE {ρ:List Nat}(hρ:oH n ρ):FrmN n G w (cB ρ G) w:=
 ⟨rfl,rfl,rfl,Nat.le_refl _,fun _ _ _ x=>x,fun b k hb x=>by simp only[cB];rw[hρ.2.2 b hb];exact x,fun b k hb x=>by simp only[cB];rw[hρ.2.2 b hb];exact x,
   fun g _ ht hm=>⟨rfl,by simp only[cB,ht],fun j hj=>by
    simp only[cB] at hj
    cases hq:ρ[j]? with
    |none=>rw[hq] at hj;cases hj
    |some q=>rw[hq] at hj;exact hm q hj,fun _=>rfl⟩⟩
theorem sr {ρ:List Nat}{c:C}{v:Value}(hc:ah 0 c=true)(h:Rep G c v):Rep (cB ρ G) c v:=by
 have h1:=dl c v hc h
 have le: (bT G 0).Le (cB ρ G):=⟨fun _ _ _ x=>x,fun b k x=>by simp[bT] at x,fun b k x=>by simp[bT] at x⟩
 exact h1.mono le
theorem Sim.mv (hcx:CxOK cx){a:Act}{ρ:List Nat}(hρ:ρ.Nodup)(H:Sim cx G w st a):Sim cx (cB ρ G) w ⟨fun t=>bn ρ (st.env t),gf ρ st.h⟩ a:=
 ⟨H.defers.same (fun g h=>by simp only[cB,h]) (fun g h b hb=>by
   simp only[cB] at hb
   cases hq:ρ[b]? with
   |none=>rw[hq] at hb;cases hb
   |some j=>rw[hq] at hb;exact h j hb),H.size,H.pre.ok.mv hρ,⟨fun t=>kF _ _ (H.pre.env.1 t),fun t s m xs e=>by
   obtain ⟨ys,hy⟩:=wV e
   exact (H.pre.env.2 t s m ys hy).mv (.inl ⟨by simp,rfl⟩)⟩,fun g=>sr (hcx.glo g) (H.pre.glob g)⟩
theorem Tr.mv (hcx:CxOK cx){c:Code}(ρ:List Nat)(hρ:oH n ρ)(H:Tr cx n c ⟨fun t=>bn ρ (st.env t),gf ρ st.h⟩ Q):Tr cx n c st Q:=fun r hr G w a S R hR=>
 H r hr (cB ρ G) w a (S.mv hcx hρ.1) R fun x s G' w' a' q S' F=>hR x s G' w' a' q S' ((JE hρ).transA F)
def V7 (n:Nat)(P:St→Prop)(s:St):Prop:= ∃ρ:List Nat,oH n ρ∧P ⟨fun t=>bn ρ (s.env t),gf ρ s.h⟩
theorem Ey {α:Type}(hcx:CxOK cx)(I:α→List (Nat×C))(H:α→Hp)(ok:α→Prop)(μ:α→Nat){c:Code}(a:α)(h0:ok a)(hl:Le st.env (I a))(hh:st.h=H a)
 (hb:∀a,ok a→Tr cx n c ⟨A (I a),H a⟩ (lb (V7 n (At I H fun a'=>ok a'∧μ a'< μ a)) Q)):Tr cx n (.loop c) st Q:=by
 refine Tr.loop (fun m s=> ∃ρ,oH n ρ∧∃a,μ a=m∧ok a∧Le (fun t=>bn ρ (s.env t)) (I a)∧gf ρ s.h=H a∨(μ a=m∧ok a∧Le s.env (I a)∧s.h=H a)) (μ a) ⟨List.range n,⟨List.nodup_range,by simp,fun j hj=>by simp[hj]⟩,a,.inr ⟨rfl,h0,hl,hh⟩⟩ ?_
 rintro m s ⟨ρ,hρ,a,⟨rfl,h1,h2,h3⟩ | ⟨rfl,h1,h2,h3⟩⟩
 . refine Tr.mv hcx ρ hρ (Tr.live _ h2 ?_)
   rw[h3]
   refine (hb a h1).mono fun e s q=>?_
   cases e with
   |normal=>
    obtain ⟨ρ',hρ',a',⟨q1,q2⟩,q3,q4⟩:=q
    exact ⟨μ a',q2,ρ',hρ',a',.inl ⟨rfl,q1,q3,q4⟩⟩
   |exit id=>exact q
   |ret=>exact q
 . refine Tr.live _ h2 ?_
   rw[h3]
   refine (hb a h1).mono fun e s q=>?_
   cases e with
   |normal=>
    obtain ⟨ρ',hρ',a',⟨q1,q2⟩,q3,q4⟩:=q
    exact ⟨μ a',q2,ρ',hρ',a',.inl ⟨rfl,q1,q3,q4⟩⟩
   |exit id=>exact q
   |ret=>exact q
end
end Go.Sx
namespace Go.Sx
open Go.RowKit
def cr (h:Hp)(b b':Nat):Bool:=((h.at b').isSome|| (h.mp b').isSome) && b' !=b
mutual
def cQ (ok:Nat→Bool):C→C
 | .sv b o n=>if ok b=true then .sv b o n else .top
 | .gv b n s=>if ok b=true then .gv b n s else .top
 | .bp b o=>if ok b=true then .bp b o else .top
 | .mp b=>if ok b=true then .mp b else .top
 | .bt b t n=>if ok b=true then .bt b t n else .top
 | .sl r n xs=> .sl r n (scrs ok xs)
 | .kp xs=> .kp (scrs ok xs)
 | .agg xs=> .agg (scrs ok xs)
 | .tup xs=> .tup (scrs ok xs)
 | .fn f xs=> .fn f (scrs ok xs)
 | .top=> .top
 | .val v=> .val v
def scrs (ok:Nat→Bool):List C→List C
 | [] =>[]
 |x::xs=>cQ ok x::scrs ok xs
end
mutual
def bg (ok:Nat→Bool)(b:Nat)(ys:List C):C→C
 | .sv b' o n=>if b'=b then (if o+n≤ys.length then .sl .no n ((ys.drop o).take n) else .top) else if ok b'=true then .sv b' o n else .top
 | .gv b' n s=>if b'=b then (if n*s.1≤ys.length then .sl .no n (ys.take (n*s.1)) else .top) else if ok b'=true then .gv b' n s else .top
 | .bp b' o=>if b'=b then .kp (ys.drop o) else if ok b'=true then .bp b' o else .top
 | .mp b'=>if b'=b then .top else if ok b'=true then .mp b' else .top
 | .bt b' t n=>if b'=b then .top else if ok b'=true then .bt b' t n else .top
 | .sl r n xs=> .sl r n (fzCs ok b ys xs)
 | .kp xs=> .kp (fzCs ok b ys xs)
 | .agg xs=> .agg (fzCs ok b ys xs)
 | .tup xs=> .tup (fzCs ok b ys xs)
 | .fn f xs=> .fn f (fzCs ok b ys xs)
 | .top=> .top
 | .val v=> .val v
def fzCs (ok:Nat→Bool)(b:Nat)(ys:List C):List C→List C
 | [] =>[]
 |x::xs=>bg ok b ys x::fzCs ok b ys xs
end
theorem oI (ok:Nat→Bool):∀xs:List C,scrs ok xs=xs.map (cQ ok)
 | [] =>rfl
 |x::xs=>by simp[scrs,oI ok xs]
theorem fv (ok:Nat→Bool)(b:Nat)(ys:List C):∀xs:List C,fzCs ok b ys xs=xs.map (bg ok b ys)
 | [] =>rfl
 |x::xs=>by simp[fzCs,fv ok b ys xs]
def iz (ok:Nat→Bool)(b:Nat)(ys:List C)(h:Hp):Hp:=(h.map fun o=>o.map (fzCs ok b ys)).set b (some dP)
open Classical in
noncomputable def cA (G:Gh)(w:World)(b k:Nat):Gh where
 K:=fun g o=>if G.μ b=some g∧o< k then w.cell? ⟨g,o,none⟩ else G.K g o
 μ:=fun b'=>if b'=b∨(∃g,G.μ b=some g∧G.μ b'=some g) then none else G.μ b'
 T:=G.T
 σ:=fun b'=>if b'=b∨(∃g,G.μ b=some g∧G.μ b'=some g) then none else G.σ b'
section
variable {cx:Cx} {n:Nat} {st:St} {Q:Ex→St→Prop} {G:Gh} {w:World} {h:Hp} {b:Nat} {cells:List C}
theorem wW (H:WorldOK G h w)(hb:h.at b=some cells){b':Nat}(hok:cr h b b'=true):¬ (b'=b∨(∃g,G.μ b=some g∧G.μ b'=some g)):=by
 simp only[cr,Bool.and_eq_true,Bool.or_eq_true,bne_iff_ne,ne_eq] at hok
 obtain ⟨h1,h2⟩:=hok
 rintro (e| ⟨g,e1,e2⟩)
 . exact h2 e
 . rcases h1 with h1|h1
   . obtain ⟨c',hc'⟩:=Option.isSome_iff_exists.1 h1
     exact h2 (H.inj b' b _ _ g hc' hb e2 e1)
   . obtain ⟨l',hl'⟩:=Option.isSome_iff_exists.1 h1
     obtain ⟨blk,es,clk,q1,q2,_⟩:=H.mpo b' l' hl'
     rw[e2] at q1;cases q1
     obtain ⟨cs,e,⟨fr,r2,_⟩,_⟩:=H.bx hb e1
     rw[q2] at r2;cases r2
theorem ny (H:WorldOK G h w)(k:Nat): (bT G 0).Le (cA G w b k):=
 ⟨fun g o u x=>(by
   have x':G.K g o=some u:=x
   simp only[cA]
   rw[if_neg]
   . exact x'
   . rintro ⟨e,_⟩
     rw[(H.sep b g e).1 o] at x';cases x'),fun b k x=>by simp[bT] at x,fun b k x=>by simp[bT] at x⟩
theorem dL (H:WorldOK G h w)(hb:h.at b=some cells){b' k g:Nat}(hok:cr h b b'=true)(hm:G.μ b'=some g): (cA G w b k).μ b'=some g:=by
 simp only[cA];rw[if_neg (wW H hb hok)];exact hm
theorem lw (H:WorldOK G h w)(hb:h.at b=some cells){b' k:Nat}{g:Nat×Nat}(hok:cr h b b'=true)(hm:G.σ b'=some g): (cA G w b k).σ b'=some g:=by
 simp only[cA];rw[if_neg (wW H hb hok)];exact hm
mutual
theorem rt (H:WorldOK G h w)(hb:h.at b=some cells)(k:Nat):∀ (c:C)(v:Value),Rep G c v→Rep (cA G w b k) (cQ (cr h b) c) v
 | .top,_,_=>by simp[cQ,Rep]
 | .val u,v,r=>by simpa[cQ,Rep] using r
 | .sl r n xs,v,x=>by
   simp only[cQ,Rep] at x ⊢
   obtain ⟨a,cap,h1,h2,h3,h4,h5⟩:=x
   refine ⟨a,cap,h1,h2,h3,h4,?_⟩
   rcases h5 with h5| ⟨blk,off,ha,hk⟩
   . left;rw[h5];rfl
   . exact .inr ⟨blk,off,ha,scr_repK H hb k xs blk off hk⟩
 | .sv b' off n,v,x=>by
   simp only[cQ]
   split
   . rename_i hok
     simp only[Rep] at x ⊢
     obtain ⟨a,cap,h1,h2,h3,h4⟩:=x
     exact ⟨a,cap,h1,h2,h3,fun hz=>by obtain ⟨blk,q1,q2⟩:=h4 hz;exact ⟨blk,dL H hb hok q1,q2⟩⟩
   . simp[Rep]
 | .gv b' m s,v,x=>by
   simp only[cQ]
   split
   . rename_i hok
     simp only[Rep] at x ⊢
     obtain ⟨a,cap,h1,h2,h3,h4⟩:=x
     refine ⟨a,cap,h1,h2,h3,?_⟩
     rcases h4 with h4| ⟨blk,q1,q2,q3⟩
     . exact .inl h4
     . exact .inr ⟨blk,dL H hb hok q1,q2,lw H hb hok q3⟩
   . simp[Rep]
 | .bp b' off,v,x=>by
   simp only[cQ]
   split
   . rename_i hok
     simp only[Rep] at x ⊢
     obtain ⟨blk,h1,h2⟩:=x
     exact ⟨blk,dL H hb hok h1,h2⟩
   . simp[Rep]
 | .mp b',v,x=>by
   simp only[cQ]
   split
   . rename_i hok
     simp only[Rep] at x ⊢
     obtain ⟨blk,h1,h2⟩:=x
     exact ⟨blk,dL H hb hok h1,h2⟩
   . simp[Rep]
 | .bt b' t n,v,x=>by
   simp only[cQ]
   split
   . rename_i hok
     simp only[Rep] at x ⊢
     obtain ⟨blk,h1,h2,h3⟩:=x
     exact ⟨blk,dL H hb hok h1,h2,lw H hb hok h3⟩
   . simp[Rep]
 | .kp xs,v,x=>by
   simp only[cQ,Rep] at x ⊢
   obtain ⟨blk,off,h1,h2⟩:=x
   exact ⟨blk,off,h1,scr_repK H hb k xs blk off h2⟩
 | .agg xs,v,x=>by
   simp only[cQ,Rep] at x ⊢
   obtain ⟨vs,h1,h2,h3⟩:=x
   exact ⟨vs,h1,scr_repL H hb k xs _ h2,h3⟩
 | .tup xs,v,x=>by
   simp only[cQ,Rep] at x ⊢
   obtain ⟨vs,h1,h2⟩:=x
   exact ⟨vs,h1,scr_repL H hb k xs _ h2⟩
 | .fn f xs,v,x=>by
   simp only[cQ,Rep] at x ⊢
   obtain ⟨vs,h1,h2⟩:=x
   exact ⟨vs,h1,scr_repL H hb k xs _ h2⟩
theorem scr_repL (H:WorldOK G h w)(hb:h.at b=some cells)(k:Nat):∀ (xs:List C)(vs:List Value),RepL G xs vs→RepL (cA G w b k) (scrs (cr h b) xs) vs
 | [],vs,r=>by simpa[scrs,RepL] using r
 |x::xs,vs,r=>by
  simp only[scrs,RepL] at r ⊢
  obtain ⟨v,vs',h1,h2,h3⟩:=r
  exact ⟨v,vs',h1,rt H hb k x v h2,scr_repL H hb k xs vs' h3⟩
theorem scr_repK (H:WorldOK G h w)(hb:h.at b=some cells)(k:Nat):∀ (xs:List C)(blk off:Nat),RepK G blk off xs→RepK (cA G w b k) blk off (scrs (cr h b) xs)
 | [],_,_,_=>by simp[scrs,RepK]
 |x::xs,blk,off,r=>by
  simp only[scrs,RepK] at r ⊢
  obtain ⟨⟨u,h1,h2,h3⟩,h4⟩:=r
  exact ⟨⟨u,(ny H k).K _ _ _ h1,h2,rt H hb k x u h3⟩,scr_repK H hb k xs blk (off+1) h4⟩
end
def fzY (h:Hp)(b:Nat)(cells:List C):List C:=(scrs (cr h b) cells).map C.noR
theorem JF (h:Hp)(b:Nat)(cells:List C): (fzY h b cells).length=cells.length:=by simp[fzY,oI]
theorem pW (H:WorldOK G h w)(hb:h.at b=some cells){blk:Nat}(hm:G.μ b=some blk):RepK (cA G w b cells.length) blk 0 (fzY h b cells):=by
 obtain ⟨cs,e,⟨fr,q2,_⟩,q0,q3,q4⟩:=H.bx hb hm
 refine RepK.of_get fun i x hx=>?_
 have hil:i< cells.length:=by have:=(List.getElem?_eq_some_iff.1 hx).1;rwa [JF] at this
 unfold fzY at hx
 rw[oI,List.map_map,List.getElem?_map] at hx
 cases hc:cells[i]? with
 |none=>rw[hc] at hx;cases hx
 |some y=>
  rw[hc] at hx
  simp only[Option.map_some,Option.some.injEq,Function.comp] at hx
  subst hx
  obtain ⟨u,hu,hr⟩:=q3.get i y hc
  rw[List.getElem?_take,if_pos hil] at hu
  refine ⟨u,?_,q4 u (List.mem_of_getElem? hu),(rt H hb cells.length y u hr).noR⟩
  simp only[cA,Nat.zero_add]
  rw[if_pos ⟨hm,hil⟩]
  exact nq q2 _ _ hu
mutual
theorem kG (H:WorldOK G h w)(hb:h.at b=some cells):∀ (c:C)(v:Value),Rep G c v→Rep (cA G w b cells.length) (bg (cr h b) b (fzY h b cells) c) v
 | .top,_,_=>by simp[bg,Rep]
 | .val u,v,r=>by simpa[bg,Rep] using r
 | .sl r n xs,v,x=>by
   simp only[bg,Rep] at x ⊢
   obtain ⟨a,cap,h1,h2,h3,h4,h5⟩:=x
   refine ⟨a,cap,h1,h2,h3,h4,?_⟩
   rcases h5 with h5| ⟨blk,off,ha,hk⟩
   . left;rw[h5];rfl
   . exact .inr ⟨blk,off,ha,fzC_repK H hb xs blk off hk⟩
 | .sv b' off n,v,x=>by
   simp only[bg]
   split
   . rename_i e
     subst e
     split
     . rename_i hle
       simp only[Rep] at x ⊢
       obtain ⟨a,cap,h1,h2,h3,h4⟩:=x
       refine ⟨a,cap,h1,h2,h3,by simp,?_⟩
       by_cases hn:n=0
       . left;subst hn;simp
       . right
         obtain ⟨blk,q1,q2⟩:=h4 hn
         refine ⟨blk,off,q2,?_⟩
         have:=(pW H hb q1).drop off
         rw[Nat.zero_add] at this
         exact this.take n
     . simp[Rep]
   . split
     . rename_i hok
       simp only[Rep] at x ⊢
       obtain ⟨a,cap,h1,h2,h3,h4⟩:=x
       exact ⟨a,cap,h1,h2,h3,fun hz=>by obtain ⟨blk,q1,q2⟩:=h4 hz;exact ⟨blk,dL H hb hok q1,q2⟩⟩
     . simp[Rep]
 | .gv b' m s,v,x=>by
   simp only[bg]
   split
   . rename_i e
     subst e
     split
     . rename_i hle
       simp only[Rep] at x ⊢
       obtain ⟨a,cap,h1,h2,h3,h4⟩:=x
       refine ⟨a,cap,h1,h2,h3,by simp,?_⟩
       rcases h4 with ⟨rfl,_⟩ | ⟨blk,q1,q2,q3⟩
       . left;simp
       . right
         exact ⟨blk,0,q2,(pW H hb q1).take _⟩
     . simp[Rep]
   . split
     . rename_i hok
       simp only[Rep] at x ⊢
       obtain ⟨a,cap,h1,h2,h3,h4⟩:=x
       refine ⟨a,cap,h1,h2,h3,?_⟩
       rcases h4 with h4| ⟨blk,q1,q2,q3⟩
       . exact .inl h4
       . exact .inr ⟨blk,dL H hb hok q1,q2,lw H hb hok q3⟩
     . simp[Rep]
 | .mp b',v,x=>by
   simp only[bg]
   split
   . simp[Rep]
   . split
     . rename_i hok
       simp only[Rep] at x ⊢
       obtain ⟨blk,h1,h2⟩:=x
       exact ⟨blk,dL H hb hok h1,h2⟩
     . simp[Rep]
 | .bt b' t n,v,x=>by
   simp only[bg]
   split
   . simp[Rep]
   . split
     . rename_i hok
       simp only[Rep] at x ⊢
       obtain ⟨blk,h1,h2,h3⟩:=x
       exact ⟨blk,dL H hb hok h1,h2,lw H hb hok h3⟩
     . simp[Rep]
 | .bp b' off,v,x=>by
   simp only[bg]
   split
   . rename_i e
     subst e
     simp only[Rep] at x ⊢
     obtain ⟨blk,h1,h2⟩:=x
     refine ⟨blk,off,h2,?_⟩
     have:=(pW H hb h1).drop off
     rwa [Nat.zero_add] at this
   . split
     . rename_i hok
       simp only[Rep] at x ⊢
       obtain ⟨blk,h1,h2⟩:=x
       exact ⟨blk,dL H hb hok h1,h2⟩
     . simp[Rep]
 | .kp xs,v,x=>by
   simp only[bg,Rep] at x ⊢
   obtain ⟨blk,off,h1,h2⟩:=x
   exact ⟨blk,off,h1,fzC_repK H hb xs blk off h2⟩
 | .agg xs,v,x=>by
   simp only[bg,Rep] at x ⊢
   obtain ⟨vs,h1,h2,h3⟩:=x
   exact ⟨vs,h1,fzC_repL H hb xs _ h2,h3⟩
 | .tup xs,v,x=>by
   simp only[bg,Rep] at x ⊢
   obtain ⟨vs,h1,h2⟩:=x
   exact ⟨vs,h1,fzC_repL H hb xs _ h2⟩
 | .fn f xs,v,x=>by
   simp only[bg,Rep] at x ⊢
   obtain ⟨vs,h1,h2⟩:=x
   exact ⟨vs,h1,fzC_repL H hb xs _ h2⟩
theorem fzC_repL (H:WorldOK G h w)(hb:h.at b=some cells):∀ (xs:List C)(vs:List Value),RepL G xs vs→RepL (cA G w b cells.length) (fzCs (cr h b) b (fzY h b cells) xs) vs
 | [],vs,r=>by simpa[fzCs,RepL] using r
 |x::xs,vs,r=>by
  simp only[fzCs,RepL] at r ⊢
  obtain ⟨v,vs',h1,h2,h3⟩:=r
  exact ⟨v,vs',h1,kG H hb x v h2,fzC_repL H hb xs vs' h3⟩
theorem fzC_repK (H:WorldOK G h w)(hb:h.at b=some cells):∀ (xs:List C)(blk off:Nat),RepK G blk off xs→RepK (cA G w b cells.length) blk off (fzCs (cr h b) b (fzY h b cells) xs)
 | [],_,_,_=>by simp[fzCs,RepK]
 |x::xs,blk,off,r=>by
  simp only[fzCs,RepK] at r ⊢
  obtain ⟨⟨u,h1,h2,h3⟩,h4⟩:=r
  exact ⟨⟨u,(ny H _).K _ _ _ h1,h2,kG H hb x u h3⟩,fzC_repK H hb xs blk (off+1) h4⟩
end
theorem nz {ok:Nat→Bool}{ys:List C}{c:C}{s m:Nat}{xs:List C}(hc:bg ok b ys c= .sl (.own s) m xs):∃zs,c= .sl (.own s) m zs:=by
 cases c with
 |sl r k zs=>simp only[bg] at hc;cases hc;exact ⟨zs,rfl⟩
 |sv b o k=>simp only[bg] at hc;repeat' split at hc
            all_goals cases hc
 |gv b o k=>simp only[bg] at hc;repeat' split at hc
            all_goals cases hc
 |bp b o=>simp only[bg] at hc;repeat' split at hc
          all_goals cases hc
 |bt b t n=>simp only[bg] at hc;repeat' split at hc
            all_goals cases hc
 |mp b=>simp only[bg] at hc;repeat' split at hc
        all_goals cases hc
 |_=>simp only[bg] at hc;cases hc
theorem BW {ok:Nat→Bool}{ys:List C}{c:C}{u:Value}(h:bg ok b ys c= .val u):c= .val u:=by
 cases c with
 |val v=>simp only[bg] at h;exact h
 |sv b o k=>simp only[bg] at h;repeat' split at h
            all_goals cases h
 |gv b o k=>simp only[bg] at h;repeat' split at h
            all_goals cases h
 |bp b o=>simp only[bg] at h;repeat' split at h
          all_goals cases h
 |bt b t n=>simp only[bg] at h;repeat' split at h
            all_goals cases h
 |mp b=>simp only[bg] at h;repeat' split at h
        all_goals cases h
 |_=>simp only[bg] at h;cases h
theorem BX {ok:Nat→Bool}{ys:List C}{c:C}{xs:List C}(h:bg ok b ys c= .tup xs):∃zs,c= .tup zs∧xs=fzCs ok b ys zs:=by
 cases c with
 |tup zs=>simp only[bg] at h;cases h;exact ⟨zs,rfl,rfl⟩
 |sv b o k=>simp only[bg] at h;repeat' split at h
            all_goals cases h
 |gv b o k=>simp only[bg] at h;repeat' split at h
            all_goals cases h
 |bp b o=>simp only[bg] at h;repeat' split at h
          all_goals cases h
 |bt b t n=>simp only[bg] at h;repeat' split at h
            all_goals cases h
 |mp b=>simp only[bg] at h;repeat' split at h
        all_goals cases h
 |_=>simp only[bg] at h;cases h
theorem kH {ok:Nat→Bool}{ys:List C}(hb:b< h.length){j:Nat}{l:List C}(hj:Hp.mp (iz ok b ys h) j=some l):j≠b∧∃l0,h.mp j=some l0∧l=fzCs ok b ys l0:=by
 unfold iz at hj
 obtain ⟨n1,n2⟩:=e8 (h:=h.map fun o=>o.map (fzCs ok b ys)) (by simpa using hb) rfl j l hj
 refine ⟨n1,?_⟩
 unfold Hp.mp at n2
 rw[List.getElem?_map] at n2
 cases hq:h[j]? with
 |none=>rw[hq] at n2;cases n2
 |some o=>
  rw[hq] at n2
  cases o with
  |none=>cases n2
  |some c0=>
   obtain ⟨l0,h1,h2⟩:=rq (Fs:=fzCs ok b ys) (fv ok b ys) (fun _ _=>BW) (fun _ _=>BX) (cells:=c0) n2
   exact ⟨l0,by unfold Hp.mp;rw[hq];exact h1,h2⟩
theorem vh (H:WorldOK G h w)(hb:h.at b=some cells):∀ (l:List C)(es:List MapEntry),MRep G l es→MRep (cA G w b cells.length) (fzCs (cr h b) b (fzY h b cells) l) es
 | [],_,r=>by simpa[MRep,fzCs] using r
 | [_],_,r=>by simp[MRep] at r
 |k::v::l,es,r=>by
  simp only[MRep,fzCs] at r ⊢
  obtain ⟨e,es',h1,h2,h3,h4⟩:=r
  exact ⟨e,es',h1,kG H hb k _ h2,kG H hb v _ h3,vh H hb l es' h4⟩
theorem io {ok:Nat→Bool}{ys:List C}(hb:h.at b=some cells){j:Nat}{c':List C}(hj:Hp.at (iz ok b ys h) j=some c'):j≠b∧∃c0,h.at j=some c0∧c'=fzCs ok b ys c0:=by
 have hlen:=dy hb
 unfold iz at hj
 rw[bZ (by simpa using hlen)] at hj
 split at hj
 . cases hj
 . rename_i hne
   refine ⟨hne,?_⟩
   have h1:=d3 hj
   rw[List.getElem?_map] at h1
   cases hq:h[j]? with
   |none=>rw[hq] at h1;cases h1
   |some o=>
    rw[hq] at h1
    cases o with
    |none=>cases h1
    |some c0=>
     simp only[Option.map_some,Option.some.injEq] at h1
     refine ⟨c0,?_,h1.symm⟩
     have hl:=fy hj
     unfold Hp.at
     rw[hq]
     subst h1
     show bE (some c0) =_
     cases c0 with
     |nil=>rfl
     |cons x l=>
      cases x with
      |tup xs=>simp only[fzCs,bg] at hl;cases hl
      |_=>rfl
theorem OwnRow.fz {k:Nat}{p:bD}{v:Value}{s m:Nat}(O:OwnRow G w p v s m):OwnRow (cA G w b k) w p v s m:=by
 rcases O with O| ⟨g,cap,cur,e,a1,a2,a3,a4,a5,a6⟩
 . exact .inl O
 . refine .inr ⟨g,cap,cur,e,a1,a2,a3,a4,fun o ho=>?_,fun b' hb'=>?_⟩
   . simp only[cA]
     rw[if_neg (fun x=>a6 b x.1)]
     exact a5 o ho
   . simp only[cA] at hb'
     split at hb'
     . cases hb'
     . exact a6 b' hb'
theorem WorldOK.fz (H:WorldOK G h w)(hb:h.at b=some cells):WorldOK (cA G w b cells.length) (iz (cr h b) b (fzY h b cells) h) w:=by
 have hlen:=dy hb
 have hμ:∀ {j blk},(cA G w b cells.length).μ j=some blk→G.μ j=some blk∧j≠b∧G.μ b≠some blk:=fun {j blk} x=>by
  simp only[cA] at x
  split at x
  . cases x
  . rename_i hne
    refine ⟨x,fun e=>hne (.inl e),fun e=>hne (.inr ⟨blk,e,x⟩)⟩
 refine ⟨fun blk off u hk=>?_,fun j c' hj=>?_,fun j blk hm=>?_,fun j j' c c' blk hj hj' hm hm'=>?_,fun j blk hm=>?_,H.tlt,fun j c' off s m xs blk v hj hc hm hv=>?_,fun j z hz=>?_,fun j l hj=>?_,fun j j' l l' blk x x' y y'=>?_⟩
 . simp only[cA] at hk
   split at hk
   . exact hk
   . exact H.known blk off u hk
 . obtain ⟨hne,c0,h2,rfl⟩:=io hb hj
   have hok:cr h b j=true:=by simp[cr,h2,hne]
   rcases H.box j c0 h2 with ⟨hE,hE2⟩ | ⟨blk,cs,e,q1,q2,q3,q4,q5⟩
   . refine .inl ⟨by rw[hE];rfl,?_⟩
     simp only[cA]
     split
     . rfl
     . exact hE2
   . have hl: (fzCs (cr h b) b (fzY h b cells) c0).length=c0.length:=by rw[fv];simp
     exact .inr ⟨blk,cs,e,dL H hb hok q1,q2,by rw[hl];exact q3,by rw[hl];exact fzC_repL H hb _ _ q4,q5⟩
 . obtain ⟨h1,h2,h3⟩:=hμ hm
   obtain ⟨⟨c,hc⟩,hl⟩:=H.dom j blk h1
   refine ⟨⟨fzCs (cr h b) b (fzY h b cells) c,?_⟩,hl⟩
   unfold iz
   rw[List.getElem?_set,if_neg (Ne.symm h2),List.getElem?_map,hc];rfl
 . obtain ⟨h1,_,_⟩:=hμ hm
   obtain ⟨h1',_,_⟩:=hμ hm'
   obtain ⟨_,c0,g2,_⟩:=io hb hj
   obtain ⟨_,c0',g2',_⟩:=io hb hj'
   exact H.inj j j' _ _ blk g2 g2' h1 h1'
 . obtain ⟨h1,h2,h3⟩:=hμ hm
   obtain ⟨s1,s2⟩:=H.sep j blk h1
   refine ⟨fun o=>?_,s2⟩
   simp only[cA]
   rw[if_neg (fun x=>h3 x.1)]
   exact s1 o
 . obtain ⟨h1,_,_⟩:=hμ hm
   obtain ⟨_,c0,g2,rfl⟩:=io hb hj
   rw[fv,List.getElem?_map] at hc
   cases hq:c0[off]? with
   |none=>rw[hq] at hc;cases hc
   |some y=>
    rw[hq] at hc
    simp only[Option.map_some,Option.some.injEq] at hc
    obtain ⟨zs,rfl⟩:=nz hc
    exact (H.own j c0 off s m zs blk v g2 hq h1 hv).fz
 . simp only[cA] at hz ⊢
   split at hz
   . cases hz
   . rename_i hne
     obtain ⟨blk,cs,e,fr,q1,q2,q3⟩:=H.siz j z hz
     exact ⟨blk,cs,e,fr,by rw[if_neg hne];exact q1,q2,q3⟩
 . obtain ⟨n1,l0,n2,rfl⟩:=kH hlen hj
   obtain ⟨blk,es,clk,q1,q2,q3⟩:=H.mpo j l0 n2
   have hok:cr h b j=true:=by simp[cr,n2,n1]
   exact ⟨blk,es,clk,dL H hb hok q1,q2,vh H hb l0 _ q3⟩
 . obtain ⟨n1,l0,n2,rfl⟩:=kH hlen x
   obtain ⟨n1',l0',n2',rfl⟩:=kH hlen x'
   exact H.mpi j j' _ _ blk n2 n2' (hμ y).1 (hμ y').1
theorem wX (H:WorldOK G h w)(hb:h.at b=some cells)(hnb:n≤b)(hn:∀j,j< n→((h.at j).isSome|| (h.mp j).isSome) =true∨h[j]? =some none)(k:Nat):FrmN n G w (cA G w b k) w:=by
 have keep:∀j,j< n→∀blk,G.μ j=some blk→cr h b j=true:=fun j hj blk hm=>by
  rcases hn j hj with h1|h1
  . simp[cr,h1];omega
  . obtain ⟨⟨c,hc⟩,_⟩:=H.dom j blk hm
    rw[h1] at hc;cases hc
 refine ⟨rfl,rfl,rfl,Nat.le_refl _,fun g o u x=>(ny H k).K g o u x,fun j blk hj x=>dL H hb (keep j hj blk x) x,fun j z hj x=>?_,fun g _ ht hm=>⟨rfl,ht,fun j hj=>?_,fun o=>?_⟩⟩
 . obtain ⟨blk,_,_,_,q1,_⟩:=H.siz j z x
   exact lw H hb (keep j hj blk q1) x
 . simp only[cA] at hj
   split at hj
   . cases hj
   . exact hm j hj
 . simp only[cA]
   rw[if_neg (fun x=>hm b x.1)]
theorem Tr.fz (hcx:CxOK cx){c:Code}(b:Nat){cells:List C}(hb:st.h.at b=some cells)(hnb:n≤b)(hn:∀j,j< n→((st.h.at j).isSome|| (st.h.mp j).isSome) =true∨st.h[j]? =some none)
 (K:Tr cx n c ⟨fun t=>bg (cr st.h b) b (fzY st.h b cells) (st.env t),iz (cr st.h b) b (fzY st.h b cells) st.h⟩ Q):Tr cx n c st Q:=fun r hr G w a S R hR=>
 K r hr (cA G w b cells.length) w a ⟨S.defers.same (fun _ h=>h) (fun g h b' hb'=>by
     simp only[cA] at hb'
     split at hb'
     . cases hb'
     . exact h b' hb'),S.size,S.pre.ok.fz hb,⟨fun t=>kG S.pre.ok hb _ _ (S.pre.env.1 t),fun t s m xs e=>by
     obtain ⟨ys,hy⟩:=nz e
     exact (S.pre.env.2 t s m ys hy).fz⟩,fun g=>(dl _ _ (hcx.glo g) (S.pre.glob g)).mono (ny S.pre.ok _)⟩ R
   fun x s G' w' a' q S' F=>hR x s G' w' a' q S' ((wX S.pre.ok hb hnb hn _).transA F)
end
end Go.Sx
namespace Go.Sx
open Go.RowKit
theorem EB (v:Value): (C.val v).asSv= .val v:=rfl
theorem EC {α:Type}(f:α→List C)(r:Rt)(l:List α): (sl f r l).asSv=sl f r l:=rfl
theorem JG (b o n:Nat): (C.sv b o n).asSv= .sv b o n:=rfl
theorem JH (b o:Nat): (C.bp b o).asSv= .bp b o:=rfl
theorem JI (xs:List C): (C.kp xs).asSv= .kp xs:=rfl
theorem Pg (b n:Nat)(s:Nat×Nat): (C.gv b n s).noR= .gv b n s:=rfl
theorem ED (b n:Nat)(s:Nat×Nat): (C.gv b n s).share= .gv b n s:=rfl
theorem BY (b n:Nat)(s:Nat×Nat)(l:List C):ez (.gv b n s::l) =d8 b l:=rfl
def tF (cells:List C)(b n:Nat)(s:Nat×Nat):C:=if n*s.1≤cells.length then .sl .no n ((cells.take (n*s.1)).map C.noR) else .gv b n s
theorem Ph (b:Nat)(cells:List C)(n:Nat)(s:Nat×Nat):fM b cells (.gv b n s) =tF cells b n s:=by simp[fM,tF]
theorem EE {α:Type}(f:α→List C){s:Nat}[hf:Cel f s](e b n:Nat)(l:List α)(h:n=l.length):tF (cl f l) b n (s,e) =sl f .no l:=by
 subst h
 have hl:=bj (f:=f) l
 unfold tF
 simp only[]
 rw[if_pos (by omega),List.take_of_length_le (by omega),fT];rfl
theorem JJ (b n:Nat)(s:Nat×Nat)(l:List C):cM (.gv b n s::l) =true:=rfl
theorem EF (cx:Cx)(l:List Nat)(d:Option Nat):jx (cx.grow l) d=lL l d:=by cases d<;>rfl
theorem Pi (cx:Cx)(l:List Nat): (cx.grow l).P=cx.P:=rfl
theorem Pj (cx:Cx)(l:List Nat): (cx.grow l).N=cx.N:=rfl
theorem JK (cx:Cx)(l:List Nat): (cx.grow l).pu=cx.pu:=rfl
theorem JL (cx:Cx)(l:List Nat): (cx.grow l).hp=cx.hp:=rfl
theorem y4 (P:Program)(t:TypeId)(v:Value)(lo hi mx:Option C):ky P t (.val v) lo hi mx=dm P t (.val v) lo hi mx:=rfl
theorem y5 {α:Type}(f:α→List C)(P:Program)(t:TypeId)(r:Rt)(l:List α)(lo hi mx:Option C):ky P t (sl f r l) lo hi mx=dm P t (sl f r l) lo hi mx:=rfl
theorem BZ (P:Program)(t:TypeId)(b o:Nat)(lo hi mx:Option C):ky P t (.bp b o) lo hi mx=dm P t (.bp b o) lo hi mx:=rfl
section
variable (cx:Cx) (apps:List Nat) (dsts:List (Option Nat)) (l:List Oper) (id':Nat) (d:Option Nat) (e:List (Nat×C)) (h:Hp) (fs:List FP) (K:List FP→St→Prop)
def Pk (b n:Nat)(s:Nat×Nat)(m:Nat)(cs:List C)(o:Option (List C)):Prop:=match o with
 |none=>False
 |some cells=>
  if (n+m)*s.1≤cells.length∧(n≠0∨m=0) then run cx apps dsts l id' (eD d (.gv b (n+m) s) e) (h.set b (some (splice cells (n*s.1) (cs.map C.noR)))) ((4,0)::fs) K
  else if n*s.1=cells.length then run cx apps dsts l id' (eD d (.gv h.length (n+m) s) e) (h.set b (some dP)++[some ((cells++cs).map C.noR)]) ((4,0)::fs) K
  else if n=0 then run cx apps dsts l id' (eD d (.gv h.length (n+m) s) e) (h.set b (some dP)++[some (cs.map C.noR)]) ((4,0)::fs) K else False
end
@[congr] theorem Tp {cx:Cx} {apps:List Nat} {dsts:List (Option Nat)} {l:List Oper} {id':Nat} {d:Option Nat} {e:List (Nat×C)} {h:Hp} {fs:List FP} {K:List FP→St→Prop} {z:FP} {b:Option (Nat×Nat)} {s:Nat×Nat} {m:Nat} {p p':Option (List C)} (hp:p=p'):
   S9 cx apps dsts l id' d e h fs K z b s m p=S9 cx apps dsts l id' d e h fs K z b s m p':=by rw[hp]
@[congr] theorem SD {cx:Cx} {apps:List Nat} {dsts:List (Option Nat)} {l:List Oper} {id':Nat} {d:Option Nat} {e:List (Nat×C)} {h:Hp} {fs:List FP} {K:List FP→St→Prop} {b n:Nat} {s:Nat×Nat} {m:Nat} {cs:List C} {p p':Option (List C)} (hp:p=p'):
   Pk cx apps dsts l id' d e h fs K b n s m cs p=Pk cx apps dsts l id' d e h fs K b n s m cs p':=by rw[hp]
theorem SF (p q:Option Plan):uQ false p q=q:=rfl
theorem nA (k b:Nat):da [] k b=none:=rfl
theorem lx (x:Nat)(r:List Nat)(k b:Nat):da (x::r) k b=if b=x then some k else da r (k+1) b:=rfl
def EG (n:Nat)(s:Nat×Nat):Option Nat→C
 |some j=> .gv j n s
 |none=> .top
def EH (o n:Nat):Option Nat→C
 |some j=> .sv j o n
 |none=> .top
def EI (o:Nat):Option Nat→C
 |some j=> .bp j o
 |none=> .top
theorem pX (ρ:List Nat)(b n:Nat)(s:Nat×Nat):bn ρ (.gv b n s) =EG n s (da ρ 0 b):=by simp only[bn];cases da ρ 0 b<;>rfl
theorem pY (ρ:List Nat)(b o n:Nat):bn ρ (.sv b o n) =EH o n (da ρ 0 b):=by simp only[bn];cases da ρ 0 b<;>rfl
theorem pZ (ρ:List Nat)(b o:Nat):bn ρ (.bp b o) =EI o (da ρ 0 b):=by simp only[bn];cases da ρ 0 b<;>rfl
theorem jz (n:Nat)(s:Nat×Nat)(j:Nat):EG n s (some j) = .gv j n s:=rfl
theorem jA (n:Nat)(s:Nat×Nat):EG n s none= .top:=rfl
theorem jB (o n j:Nat):EH o n (some j) = .sv j o n:=rfl
theorem jC (o n:Nat):EH o n none= .top:=rfl
theorem jD (o j:Nat):EI o (some j) = .bp j o:=rfl
theorem jE (o:Nat):EI o none= .top:=rfl
theorem nB (ρ:List Nat)(v:Value):bn ρ (.val v) = .val v:=by simp only[bn]
theorem kI (ρ:List Nat):bn ρ .top= .top:=by simp only[bn]
theorem nD (ρ:List Nat)(xs:List C):bn ρ (.agg xs) = .agg (mvCs ρ xs):=by simp only[bn]
theorem p4 (ρ:List Nat)(xs:List C):bn ρ (.kp xs) = .kp (mvCs ρ xs):=by simp only[bn]
theorem p5 (ρ:List Nat)(f:Nat)(xs:List C):bn ρ (.fn f xs) = .fn f (mvCs ρ xs):=by simp only[bn]
theorem ly (ρ:List Nat):mvCs ρ [] = []:=by simp only[mvCs]
theorem jF (ρ:List Nat)(c:C)(l:List C):mvCs ρ (c::l) =bn ρ c::mvCs ρ l:=by simp only[mvCs]
mutual
theorem EJ (ρ:List Nat):∀c:C,flat c=true→bn ρ c=c
 | .val _,_=>by simp only[bn]
 | .agg xs,h=>by simp only[flat] at h;simp only[bn,mvCs_flat ρ xs h]
 | .tup xs,h=>by simp only[flat] at h;simp only[bn,mvCs_flat ρ xs h]
 | .top,h=>by simp[flat] at h
 | .sl _ _ _,h=>by simp[flat] at h
 | .sv _ _ _,h=>by simp[flat] at h
 | .gv _ _ _,h=>by simp[flat] at h
 | .bp _ _,h=>by simp[flat] at h
 | .kp _,h=>by simp[flat] at h
 | .fn _ _,h=>by simp[flat] at h
theorem mvCs_flat (ρ:List Nat):∀l:List C,flats l=true→mvCs ρ l=l
 | [],_=>by simp only[mvCs]
 |x::xs,h=>by simp only[flats,Bool.and_eq_true] at h;simp only[mvCs,EJ ρ x h.1,mvCs_flat ρ xs h.2]
end
theorem kJ {α:Type}(f:α→List C)[h:Fla f](ρ:List Nat)(l:List α):mvCs ρ (cl f l) =cl f l:=mvCs_flat ρ _ (eM f l)
theorem p6 {α:Type}(f:α→List C)[h:Fla f](ρ:List Nat)(a:α):mvCs ρ (f a) =f a:=mvCs_flat ρ _ (h.flat a)
theorem mm {α:Type}(f:α→List C)[h:Fla f](ρ:List Nat)(r:Rt)(l:List α):bn ρ (sl f r l) =sl f r l:=by
 unfold sl;simp only[bn,kJ]
def hget:Hp→Nat→Option (List C)
 | [],_=>none
 |o::_,0=>o
 |_::h,k+1=>hget h k
theorem wY:∀ (h:Hp)(k:Nat),(h[k]?).getD none=hget h k
 | [],_=>rfl
 |o::_,0=>rfl
 |_::h,k+1=>by rw[List.getElem?_cons_succ];exact wY h k
theorem p7 (o:Option (List C))(h:Hp):hget (o::h) 0=o:=rfl
theorem p8 (o:Option (List C))(h:Hp)(k:Nat):hget (o::h) (k+1) =hget h k:=rfl
def ru (ρ:List Nat)(h:Hp):List Nat→Hp
 | [] =>[]
 |x::r=>(hget h x).map (mvCs ρ)::ru ρ h r
theorem p9 (ρ:List Nat)(h:Hp):gf ρ h=ru ρ h ρ:=by
 have key:∀r:List Nat,(r.map fun b=>((h[b]?).getD none).map (mvCs ρ)) =ru ρ h r:=by
  intro r
  induction r with
  |nil=>rfl
  |cons x r ih=>rw[List.map_cons,ih,wY];rfl
 exact key ρ
theorem lB (ρ:List Nat)(h:Hp):ru ρ h [] = []:=rfl
theorem jG (ρ:List Nat)(h:Hp)(x:Nat)(r:List Nat):ru ρ h (x::r) = (hget h x).map (mvCs ρ)::ru ρ h r:=rfl
def gz (g:C→C):List (Nat×C)→List (Nat×C)
 | [] =>[]
 | (k,c)::l=>(k,g c)::gz g l
theorem jo (g:C→C):gz g [] = []:=rfl
theorem ip (g:C→C)(k:Nat)(c:C)(l:List (Nat×C)):gz g ((k,c)::l) = (k,g c)::gz g l:=rfl
theorem qa (g:C→C)(hg:g .top= .top):∀l:List (Nat×C),(fun t=>g (A l t)) =A (gz g l)
 | [] =>by funext t;exact hg
 | (k,c)::l=>by
   funext t
   simp only[A,gz]
   split
   . rfl
   . exact congrFun (qa g hg l) t
theorem B0 {cx:Cx}{n:Nat}{Q:Ex→St→Prop}{e:List (Nat×C)}{h:Hp}(hcx:CxOK cx){c:Code}(b:Nat)(cells:List C)(hb:h.at b=some cells)(hnb:n≤b)(hn:∀j,j< n→((h.at j).isSome|| (h.mp j).isSome) =true∨h[j]? =some none)
 (K:Tr cx n c ⟨A (gz (bg (cr h b) b (fzY h b cells)) e),iz (cr h b) b (fzY h b cells) h⟩ Q):Tr cx n c ⟨A e,h⟩ Q:=by
 refine Tr.fz hcx b hb hnb hn ?_
 rw[qa _ (by simp only[bg])]
 exact K
theorem B1 {cx:Cx}{n:Nat}{Q:Ex→St→Prop}{e:List (Nat×C)}{h:Hp}(hcx:CxOK cx){c:Code}(ρ:List Nat)(hρ:oH n ρ)(K:Tr cx n c ⟨A (gz (bn ρ) e),gf ρ h⟩ Q):Tr cx n c ⟨A e,h⟩ Q:=by
 refine Tr.mv hcx ρ hρ ?_
 rw[qa _ (kI ρ)]
 exact K
theorem nE (ok:Nat→Bool)(b:Nat)(ys:List C)(v:Value):bg ok b ys (.val v) = .val v:=by simp only[bg]
theorem nF (ok:Nat→Bool)(b:Nat)(ys:List C):bg ok b ys .top= .top:=by simp only[bg]
theorem nG (ok:Nat→Bool)(b:Nat)(ys xs:List C):bg ok b ys (.agg xs) = .agg (fzCs ok b ys xs):=by simp only[bg]
theorem nH (ok:Nat→Bool)(b:Nat)(ys xs:List C):bg ok b ys (.tup xs) = .tup (fzCs ok b ys xs):=by simp only[bg]
theorem qb (ok:Nat→Bool)(b:Nat)(ys xs:List C):bg ok b ys (.kp xs) = .kp (fzCs ok b ys xs):=by simp only[bg]
theorem qc (ok:Nat→Bool)(b:Nat)(ys:List C)(f:Nat)(xs:List C):bg ok b ys (.fn f xs) = .fn f (fzCs ok b ys xs):=by simp only[bg]
theorem lE (ok:Nat→Bool)(b:Nat)(ys:List C):fzCs ok b ys [] = []:=by simp only[fzCs]
theorem jH (ok:Nat→Bool)(b:Nat)(ys:List C)(x:C)(xs:List C):fzCs ok b ys (x::xs) =bg ok b ys x::fzCs ok b ys xs:=by simp only[fzCs]
mutual
theorem EK (ok:Nat→Bool)(b:Nat)(ys:List C):∀c:C,flat c=true→bg ok b ys c=c
 | .val _,_=>by simp only[bg]
 | .agg xs,h=>by simp only[flat] at h;simp only[bg,fzCs_flat ok b ys xs h]
 | .tup xs,h=>by simp only[flat] at h;simp only[bg,fzCs_flat ok b ys xs h]
 | .top,h=>by simp[flat] at h
 | .sl _ _ _,h=>by simp[flat] at h
 | .sv _ _ _,h=>by simp[flat] at h
 | .gv _ _ _,h=>by simp[flat] at h
 | .bp _ _,h=>by simp[flat] at h
 | .kp _,h=>by simp[flat] at h
 | .fn _ _,h=>by simp[flat] at h
theorem fzCs_flat (ok:Nat→Bool)(b:Nat)(ys:List C):∀l:List C,flats l=true→fzCs ok b ys l=l
 | [],_=>by simp only[fzCs]
 |x::xs,h=>by simp only[flats,Bool.and_eq_true] at h;simp only[fzCs,EK ok b ys x h.1,fzCs_flat ok b ys xs h.2]
end
mutual
theorem EL (ok:Nat→Bool):∀c:C,flat c=true→cQ ok c=c
 | .val _,_=>by simp only[cQ]
 | .agg xs,h=>by simp only[flat] at h;simp only[cQ,scrs_flat ok xs h]
 | .tup xs,h=>by simp only[flat] at h;simp only[cQ,scrs_flat ok xs h]
 | .top,h=>by simp[flat] at h
 | .sl _ _ _,h=>by simp[flat] at h
 | .sv _ _ _,h=>by simp[flat] at h
 | .gv _ _ _,h=>by simp[flat] at h
 | .bp _ _,h=>by simp[flat] at h
 | .kp _,h=>by simp[flat] at h
 | .fn _ _,h=>by simp[flat] at h
theorem scrs_flat (ok:Nat→Bool):∀l:List C,flats l=true→scrs ok l=l
 | [],_=>by simp only[scrs]
 |x::xs,h=>by simp only[flats,Bool.and_eq_true] at h;simp only[scrs,EL ok x h.1,scrs_flat ok xs h.2]
end
theorem kK {α:Type}(f:α→List C)[h:Fla f](ok:Nat→Bool)(b:Nat)(ys:List C)(l:List α):fzCs ok b ys (cl f l) =cl f l:=fzCs_flat ok b ys _ (eM f l)
theorem qd {α:Type}(f:α→List C)[h:Fla f](ok:Nat→Bool)(b:Nat)(ys:List C)(r:Rt)(l:List α):bg ok b ys (sl f r l) =sl f r l:=by
 unfold sl;simp only[bg,kK]
theorem B2 {α:Type}(f:α→List C){s:Nat}[hc:Cel f s][h:Fla f](hp:Hp)(b:Nat)(l:List α):fzY hp b (cl f l) =cl f l:=by
 unfold fzY;rw[scrs_flat _ _ (eM f l),fT]
def Pl (ys:List C)(n:Nat)(s:Nat×Nat):C:=if n*s.1≤ys.length then .sl .no n (ys.take (n*s.1)) else .top
theorem qe (ok:Nat→Bool)(b:Nat)(ys:List C)(b' n:Nat)(s:Nat×Nat):bg ok b ys (.gv b' n s) =if b'=b then Pl ys n s else if ok b'=true then .gv b' n s else .top:=by simp only[bg,Pl]
theorem mn (h:Hp)(b b':Nat):cr h b b'= (((h.at b').isSome|| (h.mp b').isSome) && b' !=b):=rfl
attribute [go_sem] EB EC JG JH JI Pg ED BY Ph EE JJ EF Pi Pj JK JL y4 y5 BZ SF Dd Is De It N3 oB
theorem bM {cx:Cx}{n:Nat}{Q:Ex→St→Prop}{e:List (Nat×C)}{h:Hp}{t:Nat}{x y:Code}(ht:A e t= .val (.bool true))(H:Tr cx n x ⟨A e,h⟩ Q):Tr cx n (.cond (.tmp t) x y) ⟨A e,h⟩ Q:=
 Tr.condG fun KT KF hT hF=>by rw[pL,ht,iE];exact .pos rfl (hT H)
theorem bF {cx:Cx}{n:Nat}{Q:Ex→St→Prop}{e:List (Nat×C)}{h:Hp}{t:Nat}{x y:Code}(ht:A e t= .val (.bool false))(H:Tr cx n y ⟨A e,h⟩ Q):Tr cx n (.cond (.tmp t) x y) ⟨A e,h⟩ Q:=
 Tr.condG fun KT KF hT hF=>by rw[pL,ht,iE];exact .neg rfl (hF H)
theorem bq {cx:Cx}{n:Nat}{Q:Ex→St→Prop}{e:List (Nat×C)}{h:Hp}{t:Nat}{x y:Code}{p:Prop}{d:Decidable p}(ht:A e t= .val (.bool (@decide p d)))(H1:p→Tr cx n x ⟨A e,h⟩ Q)(H2:¬p→Tr cx n y ⟨A e,h⟩ Q):Tr cx n (.cond (.tmp t) x y) ⟨A e,h⟩ Q:=
 Tr.condG fun KT KF hT hF=>by rw[pL,ht,iE];exact .dec (fun q=>hT (H1 q)) (fun q=>hF (H2 q))
theorem lA {α:Type}(xs ys:List α): (xs++ys).length=xs.length+ys.length:=List.length_append
theorem lD {α:Type}(n:Nat)(xs:List α): (xs.drop n).length=xs.length - n:=List.length_drop
theorem lT {α:Type}(n:Nat)(xs:List α): (xs.take n).length=min n xs.length:=List.length_take
end Go.Sx
namespace Go.Sx
open Go.RowKit
def VE (b:Bool)(c:C)(h:Hp):Option (C×Hp):=if b then some (c,h) else none
def Pm (b:Bool)(o:Option C)(h:Hp):Option (C×Hp):=if b then (match o with
 |some c=>VE (flat c) c h
 |none=>none) else none
@[congr] theorem SG {b b':Bool} {o o':Option C} {h:Hp} (hb:b=b') (ho:b'=true→o=o'):Pm b o h=Pm b' o' h:=by
  subst hb
  cases b with
  |false=>rfl
  |true=>rw[ho rfl]
theorem B3 {P:Program}{α:Type}(f:α→List C)(t:TypeId)(b o:Nat)(r:Rt)(l:List α)(k:Option Nat):cw P t (.bp b o) (sl f r l) k=GL (td P t) b o (sl f r l) k:=uV P t b o r _ _ k
attribute [go_sem] B3 Bool.and_false Bool.false_and
end Go.Sx
namespace Go.Sx
open Go.RowKit
end Go.Sx
namespace Go.Sx
open Go.RowKit
end Go.Sx
namespace Go.Sx
open Go.RowKit
section
variable {cx:Cx} {n:Nat} {Q:Ex→St→Prop} {st:St} {G:Gh} {h:Hp} {w:World} {P:Program}
def vi:C→Bool
 | .tup _=>false
 |_=>true
theorem y6 {cells:List C}(hl:bE (some cells) =some cells)(k:Nat){c':C}(hc:vi c'=true):bE (some (cells.set k c')) =some (cells.set k c'):=by
 cases cells with
 |nil=>simp[bE]
 |cons c t=>
  cases k with
  |zero=>
   rw[List.set_cons_zero]
   unfold bE
   split
   . rename_i h2;cases h2;cases hc
   . rfl
  |succ k=>
   rw[List.set_cons_succ]
   unfold bE at hl ⊢
   split at hl
   . cases hl
   . rename_i hn
     split
     . rename_i h2;cases h2;exact absurd rfl (hn _ _)
     . rfl
theorem WorldOK.bxc (H:WorldOK G h w){b k:Nat}{c c':C}{cells:List C}(hb:h.at b=some cells)(hk:cells[k]? =some c)(hc:CLe c c')(ht:vi c'=true):WorldOK G (h.set b (some (cells.set k c'))) w:=by
 have hlt:=dy hb
 have hlive:=y6 (fy hb) k ht
 have hkl:k< cells.length:=(List.getElem?_eq_some_iff.1 hk).1
 refine ⟨H.known,fun b' c2 x=>?_,fun b' blk x=>?_,fun b1 b2 c1 c2 blk x x' y y'=>?_,H.sep,H.tlt,fun b' c2 off s m2 ys blk v x hc2 hm hv=>?_,H.siz,H.mpoT (fun k l x=>(e8 hlt (ou hlive) k l x).2) (fun _ _ _ x=>x) (.refl G),H.mpiT (fun k l x=>(e8 hlt (ou hlive) k l x).2) (fun _ _ _ _ x=>x)⟩
 . rw[bZ hlt] at x
   split at x
   . rename_i e;subst e;rw[hlive] at x;cases x
     rcases H.box b' cells hb with ⟨rfl,hE⟩ | ⟨blk,cs,e,q1,q2,q3,q4,q5⟩
     . simp at hkl
     . refine .inr ⟨blk,cs,e,q1,q2,by rw[List.length_set];exact q3,?_,q5⟩
       rw[List.length_set]
       have hsz:cs.toList.length=cs.size:=by simp
       have hlen: (cells.set k c').length= (cs.toList.take cells.length).length:=by
        rw[List.length_set,List.length_take];omega
       refine RepL.of_get hlen fun i y v hy hv=>?_
       rw[List.getElem?_set] at hy
       split at hy
       . rename_i e2;subst e2
         (try rw[if_pos hkl] at hy);cases hy
         obtain ⟨v2,hv2,hr⟩:=q4.get k _ hk
         rw[hv] at hv2;cases hv2
         exact hc.1 _ _ hr
       . obtain ⟨v2,hv2,hr⟩:=q4.get i _ hy
         rw[hv] at hv2;cases hv2;exact hr
   . exact H.box b' c2 x
 . obtain ⟨⟨c0,hc0⟩,hl⟩:=H.dom b' blk x
   refine ⟨?_,hl⟩
   by_cases e:b'=b
   . subst e;exact ⟨_,by rw[List.getElem?_set_self hlt]⟩
   . exact ⟨c0,by rw[List.getElem?_set_ne (fun h=>e h.symm)];exact hc0⟩
 . have key:∀b' c2,Hp.at (h.set b (some (cells.set k c'))) b'=some c2→∃c0,h.at b'=some c0:=fun b' c2 x=>by
    rw[bZ hlt] at x
    split at x
    . rename_i e;subst e;exact ⟨cells,hb⟩
    . exact ⟨c2,x⟩
   obtain ⟨d1,e1⟩:=key b1 c1 x
   obtain ⟨d2,e2⟩:=key b2 c2 x'
   exact H.inj b1 b2 d1 d2 blk e1 e2 y y'
 . rw[bZ hlt] at x
   split at x
   . rename_i e;subst e;rw[hlive] at x;cases x
     rw[List.getElem?_set] at hc2
     split at hc2
     . rename_i e2;subst e2
       (try rw[if_pos hkl] at hc2);cases hc2
       rcases hc.2 s m2 ys rfl with rfl|hfull
       . exact H.own b' cells k s m2 ys blk v hb hk hm hv
       . rcases H.box b' cells hb with ⟨rfl,hE⟩ | ⟨blk2,cs,e,q1,q2,q3,q4,q5⟩
         . simp at hkl
         . obtain ⟨v2,hv2,hr⟩:=q4.get k _ hk
           rw[q1] at hm;cases hm
           obtain ⟨fr,q6,q7⟩:=q2
           rw[List.getElem?_take_of_lt hkl] at hv2
           rw[nq q6 _ _ hv2] at hv
           cases hv
           obtain ⟨a,rfl⟩:=hfull _ _ hr
           exact .inl ⟨a,rfl⟩
     . exact H.own b' cells off s m2 ys blk v hb hc2 hm hv
   . exact H.own b' c2 off s m2 ys blk v x hc2 hm hv
theorem Tr.bxc {c:Code}{e:List (Nat×C)}{h:Hp}(b k:Nat){x:C}(x':C)(cells:List C)(hb:h.at b=some cells)(hk:cells[k]? =some x)(hc:CLe x x')(ht:vi x'=true)(H:Tr cx n c ⟨A e,h.set b (some (cells.set k x'))⟩ Q):Tr cx n c ⟨A e,h⟩ Q:=fun r hr G w a S R hR=>
 H r hr G w a ⟨S.defers,S.size,S.pre.ok.bxc hb hk hc ht,S.pre.env,S.pre.glob⟩ R hR
theorem SI {t e:TypeId}{s y:Nat}{z:List Value}(op:BinOp){x:C}(hx:x.nilS?=some false)(hv:∀v,x≠ .val v)(h:td P t=some ⟨.slice e,s,y,z⟩)(hg:P.eqGuardType P.depth t=false):aq P op t x (.val (.slice none 0 0)) =lN op false:=by
 have he:gb P 9 t x (.val (.slice none 0 0)) =some false:=by
  unfold gb;rw[h];simp only[hx];rfl
 have h1:aq P op t x (.val (.slice none 0 0)) =eT P op t x (.val (.slice none 0 0)):=by
  cases x with
  |val v=>exact absurd rfl (hv v)
  |_=>rfl
 rw[h1]
 unfold eT
 rw[if_pos ⟨.inr (.inl ⟨by rw[hx];rfl,rfl⟩),hg⟩]
 unfold lN
 cases op<;>simp[he,vp,Plan.pure]
end
end Go.Sx
namespace Go.Sx
open Go.RowKit Go.ChangeShapes Go.WideShapes
abbrev VF (α:Type):=α→(H:Type)→List (DataW H)→Prop
structure RdF (P:Program) (fs:List Field) (off z:Nat) {α:Type} (f:α→List C) (R:VF α):Prop where
 rd:∀ {H:Type}{enc:TypeId×Value→H}{W:World}{base:Nat}{sp:Nat→Bool}{held:Bool}{n:Nat}{cs:List Value}{xs:List (DataW H×List MemPlace)},xs.length=fs.length→cs.length=off+z→
  (∀ (i:Nat)(fd:Field),fs[i]? =some fd→DataW.trod enc P W base sp held n fd.type ((cs.drop fd.offset).take (P.cellsOf fd.type)) =xs[i]?)→∃a,R a H (xs.map (·.1))∧RepL (GW W) (f a) (cs.drop off)∧∀u∈cs.drop off,u.oneCell'=true
end Go.Sx
namespace Go.Sx
open Go.RowKit
section
variable {cx:Cx} {n:Nat} {Q:Ex→St→Prop} {e:List (Nat×C)} {h:Hp} {b:Code} {id:Nat} {l:List Oper} {s:St}
theorem aa (hcx:CxOK cx)(apps:List Nat)(dsts:List (Option Nat))(z:Hp)(h1:l.filterMap dg=apps)(h2:l.map (·.dst) =dsts)(h3:ff l=z)(H:Tr cx n b s Q)(E:∀K:St→Prop,K s→run cx apps dsts l h.length e (h++z) [] (fun _ s=>K s)):Tr cx n (.seq (.region id l.toArray false) b) ⟨A e,h⟩ Q:=
 ae fun K hK=>yy hcx apps dsts z h1 h2 h3 (E K (hK s H))
theorem br (hcx:CxOK cx)(apps:List Nat)(dsts:List (Option Nat))(z:Hp)(h1:l.filterMap dg=apps)(h2:l.map (·.dst) =dsts)(h3:ff l=z)(H:Q .normal s)(E:∀K:St→Prop,K s→run cx apps dsts l h.length e (h++z) [] (fun _ s=>K s)):Tr cx n (.region id l.toArray false) ⟨A e,h⟩ Q:=
 yy hcx apps dsts z h1 h2 h3 (E (Q .normal) H)
theorem ce (hcx:CxOK cx)(hm:cx.P.follows .mixedOrders=true)(apps:List Nat)(dsts:List (Option Nat))(z:Hp)(h1:l.filterMap dg=apps)(h2:l.map (·.dst) =dsts)(h3:ff l=z)(hs:dH l.toArray=true)(H:Tr cx n b s Q)(E:∀K:St→Prop,K s→run cx apps dsts l h.length e (h++z) [] (fun fs s=>eZ l.toArray fs.reverse=true∧K s)):Tr cx n (.seq (.region id l.toArray true) b) ⟨A e,h⟩ Q:=
 ae fun K hK=>uP hcx hm apps dsts z h1 h2 h3 hs (E K (hK s H))
theorem gA (hcx:CxOK cx)(hm:cx.P.follows .mixedOrders=true)(apps:List Nat)(dsts:List (Option Nat))(z:Hp)(h1:l.filterMap dg=apps)(h2:l.map (·.dst) =dsts)(h3:ff l=z)(hs:dH l.toArray=true)(H:Q .normal s)(E:∀K:St→Prop,K s→run cx apps dsts l h.length e (h++z) [] (fun fs s=>eZ l.toArray fs.reverse=true∧K s)):Tr cx n (.region id l.toArray true) ⟨A e,h⟩ Q:=
 uP hcx hm apps dsts z h1 h2 h3 hs (E (Q .normal) H)
theorem Pn (hcx:CxOK cx)(hm:cx.P.follows .mixedOrders=true)(gs:List Nat)(apps:List Nat)(dsts:List (Option Nat))(z:Hp)(h1:l.filterMap dg=apps)(h2:l.map (·.dst) =dsts)(h3:ff l=z)(hs:dH l.toArray=true)(H:Tr cx n b s Q)(E:∀K:St→Prop,K s→run (cx.grow gs) apps dsts l h.length e (h++z) [] (fun fs s=>eZ l.toArray fs.reverse=true∧K s)):Tr cx n (.seq (.region id l.toArray true) b) ⟨A e,h⟩ Q:=
 ae fun K hK=>JD hcx hm gs apps dsts z h1 h2 h3 hs (E K (hK s H))
theorem Tr.k (ks:List Nat){c:Code}{e':List (Nat×C)}(H:Tr cx n c ⟨A e',h⟩ Q)(E:∀R:List (Nat×C)→Prop,R e'→R (pk e ks):=by intro RZ hZ;simp only[I0,OK,↓bG,↓reduceIte,Nat.reduceEqDiff,reduceCtorEq];exact hZ):Tr cx n c ⟨A e,h⟩ Q:=
 Tr.kp ks (E (fun x=>Tr cx n c ⟨A x,h⟩ Q) H)
theorem tG {t:Nat}{x y:Code}{d:Bool}(ht:A e t= .val (.bool d))(hd:d=true)(H:Tr cx n x ⟨A e,h⟩ Q):Tr cx n (.cond (.tmp t) x y) ⟨A e,h⟩ Q:=
 bM (ht.trans (by rw[hd])) H
theorem tH {t:Nat}{x y:Code}{d:Bool}(ht:A e t= .val (.bool d))(hd:d=false)(H:Tr cx n y ⟨A e,h⟩ Q):Tr cx n (.cond (.tmp t) x y) ⟨A e,h⟩ Q:=
 bF (ht.trans (by rw[hd])) H
end
theorem LT {p:Prop}(h:p:=by (simp only[bJ,bc,↓bG,↓reduceIte,Nat.reduceEqDiff,aY,bu,aZ,bv,bz,and_true,true_and];all_goals (repeat' first|exact CLe.refl _|exact True.intro| (refine aW ?_;first|rfl| (simp only[List.take_zero];done)) |exact bN (by omega) |exact aO (by omega) |exact bd (by omega) |exact bA (by omega) |with_reducible apply And.intro))):p:=h
theorem O1 {p:Prop}(h:p:=by first|omega| (simp only[];omega)):p:=h
end Go.Sx
namespace Go.Sx
open Go.RowKit
theorem qR {α:Type}(l r:List α)(x v:α)(t:Nat)(h:l.length=t): (l++x::r).set t v=l++v::r:=by
 subst h;simp
theorem gJ {α:Type}(l:List α)(x v:α)(n t:Nat)(h:l.length=t)(h2:t< n): (l++List.replicate (n - t) x).set t v=l++v::List.replicate (n - 1 - t) x:=by
 have e:n - t= (n - 1 - t)+1:=by omega
 rw[e,List.replicate_succ,qR _ _ _ _ _ h]
theorem lX {α:Type}[Inhabited α](l r:List α)(x:α)(t:Nat)(h:l.length=t):gt (l++x::r) t=x:=by
 subst h;simp[gt,List.getD]
theorem kj {α:Type}[Inhabited α](l r:List α)(t:Nat)(h:t< l.length):gt (l++r) t=gt l t:=by
 simp[gt,List.getD,List.getElem?_append_left h]
theorem dG {α:Type}[Inhabited α](l:List α)(j:Nat)(h:j< l.length):l.take (j+1) =l.take j++[gt l j]:=by
 rw[List.take_add_one,List.getElem?_eq_getElem h];simp[gt,List.getD,List.getElem?_eq_getElem h]
theorem rH {α:Type}[Inhabited α](l:List α)(j:Nat)(h:j< l.length):l.take j++[gt l j] =l.take (j+1):=(dG l j h).symm
def le (m:Nat):List UInt8:=if h:m=0 then [] else UInt8.ofNat (m % 256)::le (m / 256)
termination_by m
decreasing_by omega
theorem gK:le 0= []:=by rw[le];simp
theorem kl (m:Nat)(h:m≠0):le m=UInt8.ofNat (m % 256)::le (m / 256):=by rw[le];simp[h]
def co (n:Int):List UInt8:=
 if 0≤n then UInt8.ofNat (128+(le n.toNat).length):: (le n.toNat).reverse
 else UInt8.ofNat (127 - (le (-1 - n).toNat).length):: ((le (-1 - n).toNat).reverse.map fun c=>255 - c)
def wb (s:List UInt8):List UInt8:=co s.length++s
theorem fP (k:Nat):∀m,m< 256 ^ k→(le m).length≤k:=by
 induction k with
 |zero=>intro m h;have:m=0:=by simpa using h
        subst this;simp[gK]
 |succ k ih=>
  intro m h
  by_cases hm:m=0
  . subst hm;simp[gK]
  . rw[kl m hm]
    have:=ih (m / 256) (by rw[Nat.pow_succ] at h;exact Nat.div_lt_of_lt_mul (by omega))
    simp;omega
theorem uq (s:List UInt8)(h:s.length< 18446744073709551616): (wb s).length≤s.length+9:=by
 have:=fP 8 s.length (by simpa using h)
 simp[wb,co];omega
theorem Ni (s:List UInt8):1≤(wb s).length:=by
 unfold wb co;split<;>simp<;>omega
theorem rI:∀ (k m:Nat),m< 256 ^ k→(k=0∨256 ^ (k - 1)≤m)→(le m).length=k
 |0,m,h,_=>by
  have:m=0:=by simpa using h
  subst this;simp[gK]
 |k+1,m,h,h2=>by
  have h3:256 ^ k≤m:=by simpa using h2
  have hp:0< 256 ^ k:=Nat.pow_pos (by decide)
  have hm:m≠0:=by omega
  rw[kl m hm,List.length_cons,rI k (m / 256) (by rw[Nat.pow_succ] at h;exact Nat.div_lt_of_lt_mul (by omega)) ?_]
  rcases Nat.eq_zero_or_pos k with rfl|hk
  . exact .inl rfl
  . right
    rw[Nat.le_div_iff_mul_le (by decide),←Nat.pow_succ]
    rw[show (k - 1).succ=k by omega];exact h3
def be (m k:Nat):List UInt8:=(List.range k).map fun j=>UInt8.ofNat (m>>> (8*(k - 1 - j)))
theorem i1 (m k:Nat): (be m k).length=k:=by simp[be]
theorem Gm (m k j:Nat)(h:j< k):gt (be m k) j=UInt8.ofNat (m>>> (8*(k - 1 - j))):=by
 simp[be,gt,List.getD,h]
theorem Gn:∀ (j m:Nat),j< (le m).length→gt (le m) j=UInt8.ofNat (m>>> (8*j))
 |0,m,h=>by
  have hm:m≠0:=by rintro rfl;simp[gK] at h
  rw[kl m hm]
  show UInt8.ofNat (m % 256) =_
  apply UInt8.toNat_inj.1;simp
 |j+1,m,h=>by
  have hm:m≠0:=by rintro rfl;simp[gK] at h
  rw[kl m hm] at h ⊢
  rw[u5,Gn j (m / 256) (by simpa using h)]
  have:8*(j+1) =8+8*j:=by omega
  rw[this,Nat.shiftRight_add,show m>>>8=m / 256 from Nat.shiftRight_eq_div_pow m 8]
theorem Aa {α:Type}[Inhabited α](l:List α)(j:Nat)(h:j< l.length):gt l.reverse j=gt l (l.length - 1 - j):=by
 simp[gt,List.getD,List.getElem?_reverse h]
theorem Nj {α:Type}[Inhabited α](l l':List α)(h:l.length=l'.length)(hg:∀i< l.length,gt l i=gt l' i):l=l':=by
 apply List.ext_getElem h
 intro i h1 h2
 have:=hg i h1
 simpa[gt,List.getD,List.getElem?_eq_getElem h1,List.getElem?_eq_getElem h2] using this
theorem Ab (m:Nat): (le m).reverse=be m (le m).length:=by
 refine Nj _ _ (by simp[i1]) fun i hi=>?_
 have hi':i< (le m).length:=by simpa using hi
 rw[Aa _ _ hi',Gm _ _ _ hi',Gn _ _ (by omega)]
theorem Nk (x:UInt8):x ^^^ 255=255 - x:=by
 apply UInt8.toNat_inj.1
 have hx:=x.toNat_lt
 rw[UInt8.toNat_xor,UInt8.toNat_sub_of_le _ _ (by rw[UInt8.le_iff_toNat_le];show _≤255;omega)]
 show x.toNat ^^^ 255=255 - x.toNat
 have h1:BitVec.ofNat 8 x.toNat ^^^ BitVec.allOnes 8= ~~~(BitVec.ofNat 8 x.toNat):=BitVec.xor_allOnes
 have h2:=congrArg BitVec.toNat h1
 rw[BitVec.toNat_xor,BitVec.toNat_not,BitVec.toNat_ofNat,BitVec.toNat_allOnes,Nat.mod_eq_of_lt (by omega)] at h2
 simpa using h2
theorem Ac {α β:Type}[Inhabited α][Inhabited β](l:List α)(f:α→β)(j:Nat)(h:j< l.length):gt (l.map f) j=f (gt l j):=by
 simp[gt,List.getD,List.getElem?_eq_getElem h]
def wI (m:Nat)(x:UInt8):List UInt8:=(UInt8.ofNat (128+(le m).length) ^^^ x):: (be m (le m).length).map (· ^^^ x)
theorem fW (m:Nat):co m=wI m 0:=by
 unfold co wI
 rw[if_pos (by omega),←Ab]
 simp
theorem oq (m:Nat)(h: (le m).length≤8):co (-1 - (m:Int)) =wI m 255:=by
 unfold co wI
 have e: (-1 - (-1 - (m:Int))).toNat=m:=by omega
 rw[if_neg (by omega),e,←Ab]
 have h2:UInt8.ofNat (127 - (le m).length) =UInt8.ofNat (128+(le m).length) ^^^ 255:=by
  generalize (le m).length=k at h
  have key:∀k:Fin 9,UInt8.ofNat (127 - k.val) =UInt8.ofNat (128+k.val) ^^^ 255:=by decide
  exact key ⟨k,by omega⟩
 rw[h2]
 simp only[Nk]
theorem wc (m k:Nat):m>>> (8*k) =m / 256 ^ k:=by
 rw[Nat.shiftRight_eq_div_pow,Nat.pow_mul]
theorem nj (m k:Nat)(h:m< 256 ^ k)(h2:¬0< k∨0< m>>> (8*(k - 1))):k= (le m).length:=by
 refine (rI k m h ?_).symm
 rcases h2 with h2|h2
 . left;omega
 . right
   rw[wc] at h2
   have hp:0< 256 ^ (k - 1):=Nat.pow_pos (by decide)
   exact (Nat.le_div_iff_mul_le hp).1 h2|> (by simpa using ·)
theorem wd (m k:Nat)(_:0< k)(h2:¬0< m>>> (8*(k - 1))):m< 256 ^ (k - 1):=by
 rw[wc] at h2
 have hp:0< 256 ^ (k - 1):=Nat.pow_pos (by decide)
 have:m / 256 ^ (k - 1) =0:=Nat.eq_zero_of_not_pos h2
 exact (Nat.div_eq_zero_iff_lt hp).1 this
theorem nl (m:Nat)(x:UInt8)(a:Nat)(h:a< (le m).length): ((be m (le m).length).map (· ^^^ x)).take a++[UInt8.ofNat (m>>> (8*((le m).length - 1 - a))) ^^^ x] = ((be m (le m).length).map (· ^^^ x)).take (a+1):=by
 have hl:a< ((be m (le m).length).map (· ^^^ x)).length:=by simpa[i1] using h
 rw[dG _ _ hl,Ac _ _ _ (by rw[i1];exact h),Gm _ _ _ h]
theorem we (l:List UInt8)(f:UInt8→UInt8)(a:Nat)(h:a< l.length): (l.reverse.map f).take a++[f (gt l (l.length - 1 - a))] = (l.reverse.map f).take (a+1):=by
 rw[dG _ _ (by simpa using h),Ac _ _ _ (by simpa using h),Aa _ _ h]
theorem Cr {α:Type}(n:Nat)(x:α):List.replicate n x++[x] =List.replicate (n+1) x:=by rw[List.replicate_succ']
theorem qS {α:Type}(l:List α)(x y:α)(n t:Nat):l++x::List.replicate (n - 1 - t) y= (l++[x])++List.replicate (n - (t+1)) y:=by
 rw[show n - (t+1) =n - 1 - t by omega];simp
theorem Cs {α:Type}[Inhabited α](l:List α)(n t:Nat)(y:α)(h:t< l.length):l.take t++gt l t::List.replicate (n - 1 - t) y=l.take (t+1)++List.replicate (n - (t+1)) y:=by
 rw[qS,dG l t h]
end Go.Sx
