/-
   And what follows.
-/
import Derived.SizedLaws
import Derived.JoinedCond
import Derived.Deep.CondSized
import Derived.Below
import Derived.Test.YtmoaeemdlompaaaDoorPaj
set_option linter.unusedSimpArgs false
set_option linter.unusedVariables false
namespace Go.Sx
open Go.RowKit
theorem dZ {cx:Cx}{n:Nat}{c:Code}{h:Hp}{Q:Ex→St→Prop}{α:Type}(f:α→List C)(r:Rt){k1 k2 k3:Nat}{a b:C}(h12:k2≠k1)(h13:k3≠k1)(h23:k3≠k2)
 (H:Tr cx n c ⟨A [(k1,sl f r []),(k2,a),(k3,b)],h⟩ Q):Tr cx n c ⟨A [(k1,.val (.slice none 0 0)),(k2,a),(k3,b)],h⟩ Q:=by
 refine Tr.weaken (Le.spec (l:=[(k1,sl f r []),(k2,a),(k3,b)]) ?_) H
 refine ⟨?_,?_,?_,trivial⟩
 . show CLe (A _ k1) _
   unfold A;rw[if_pos rfl];exact CLe.nil _
 . show CLe (A _ k2) _
   unfold A;rw[if_neg h12];unfold A;rw[if_pos rfl];exact CLe.refl _
 . show CLe (A _ k3) _
   unfold A;rw[if_neg h13];unfold A;rw[if_neg h23];unfold A;rw[if_pos rfl];exact CLe.refl _
theorem DO (n:Nat)(l:List Int)(i:Nat)(x:Int)(r:List (Nat×C))(h:i< l.length):dV n (cl iC l) ((i,.val (.int .i64 x))::r) =dV n (cl iC (l.set i x)) r:=by
 have e:=mC (f:=iC) l i x h
 rw[Nat.mul_one] at e
 have e2:splice (cl iC l) i [.val (.int .i64 x)] =cl iC (l.set i x):=e
 show (if [C.val (.int .i64 x)].length=1∧i+1≤(cl iC l).length then dV n (splice (cl iC l) i [.val (.int .i64 x)]) r else none) =_
 rw[if_pos ⟨rfl,by rw[bm (f:=iC)];omega⟩,e2]
theorem MK (l:List Nat):cl nC l=cl iC (l.map Int.ofNat):=by
 unfold cl
 rw[List.flatMap_map]
 rfl
theorem ML (n:Nat)(l:List Nat)(i:Nat)(x:Int)(r:List (Nat×C))(h:i< l.length):dV n (cl nC l) ((i,.val (.int .i64 x))::r) =dV n (cl iC ((l.map Int.ofNat).set i x)) r:=by
 rw[MK,DO n _ i x r (by simpa using h)]
theorem tkd {α:Type}(l:List α)(p:Nat):List.take (l.length - p) (List.drop p l) =List.drop p l:=by
 rw[←List.length_drop,List.take_length]
def MM (de:Option TD)(n m:Nat)(xs:List C):Option Plan:=match de with
 |some de=>if n≤m∧xs≠[]∧xs.length=m*de.size then some (vp (.kp xs)) else none
 |none=>none
theorem Ts {α:Type}(P:Program)(f:α→List C)(n:Nat)(e:TypeId)(a1 b1:Nat)(z1:List Value)(r:Rt)(l:List α):vY P (some ⟨.array n e,a1,b1,z1⟩) (sl f r l) =MM (td P e) n l.length (cl f l):=by
 unfold vY MM
 simp only[]
 cases td P e<;>rfl
theorem Tt {α:Type}(f:α→List C){s:Nat}[hf:Cel f s](u:TypeDesc)(y:Nat)(z:List Value)(n:Nat)(l:List α)(h:n≤l.length∧0< n):MM (some ⟨u,s,y,z⟩) n l.length (cl f l) =some (vp (.kp (cl f l))):=by
 have hl:=bm (f:=f) l
 refine if_pos ⟨h.1,?_,hl⟩
 intro hn
 rw[hn] at hl
 have:0< l.length*s:=Nat.mul_pos (by omega) hf.pos
 simp at hl
 omega
attribute [go_sem] Ts Tt DO ML tkd List.map_cons List.map_nil List.set_cons_zero
end Go.Sx
namespace Go.Sx
open Go.RowKit
def Qe (cx:Cx)(rs:List ResultVar)(c:C)(h':Hp):Ex→St→Prop
 | .exit _,_=>False
 |_,st=>i2 cx st rs=some c∧st.h=h'
theorem Tu (cx:Cx)(rs:List ResultVar)(c:C)(h':Hp)(st:St):Qe cx rs c h' .ret st= (i2 cx st rs=some c∧st.h=h'):=rfl
theorem I9 {cx:Cx} {f:Nat} {fn:Func} {code:Code} {args:List C} {h h':Hp} {c:C} {rs:List ResultVar} (hN:cx.N=fn.ntmps) (hf:cx.P.funcs[f]? =some fn) (hn: (fn.name== "runtime.NumGoroutine") =false) (hb:fn.body=some code)
 (hrs:fn.results=rs.toArray) (hlen:args.length≤fn.ntmps) (hT:Tr cx h.length code ⟨A (bq 0 args),h⟩ (Qe cx rs c h')):FC cx.P cx.gl f args h c h':=by
 refine FC.of hN hf hn hb hlen ?_
 refine Tr.weaken (fun t=>CLe.init args t) (hT.mono fun x st q=>?_)
 have key:i2 cx st rs=some c∧st.h=h'→results cx fn st=some c∧((st.h.take h.length=h'∧ah h.length c=true∧∀ (b:Nat) cells,b< h.length→st.h[b]? =some (some cells)→noRefs h.length cells=true)∨st.h=h'):=fun q=>by
  refine ⟨?_,.inr q.2⟩
  rw[←q.1]
  unfold results
  rw[hrs]
  rcases rs with _| ⟨r,_| ⟨r2,rs⟩⟩ <;>rfl
 cases x with
 |exit k=>exact q
 |normal=>exact key q
 |ret=>exact key q
theorem aaE {P:Program}{gl:Nat→C}{f b o:Nat}{args:List C}{c:C}{h':Hp}(he:iE P f):FC P gl f (.bp b o::args) [] c h':=by
 refine ⟨he,fun G w vs W hT hg hr=>?_⟩
 exfalso
 simp only[RepL] at hr
 obtain ⟨v,vs',_,hv,_⟩:=hr
 simp only[Rep] at hv
 obtain ⟨blk,hm,_⟩:=hv
 obtain ⟨⟨cells,hc⟩,_⟩:=W.dom b blk hm
 simp at hc
theorem MN (cx:Cx)(g:Nat)(az:List C)(b:Nat)(r:C×Hp):ux cx g az (some b) (some r) =some (.call g az):=rfl
theorem Fz (cx:Cx)(g:Nat)(az:List C)(o:Option (C×Hp)):ux cx g az none o=some (.call g az):=rfl
theorem MO {α:Type}(f:α→List C)(r:Rt)(l:List α): (sl f r l).cells?=some [(sl f r l).noR]:=rfl
theorem FB:fq [] =none:=rfl
attribute [go_sem] FB MO Tu MN Fz
end Go.Sx
namespace Go.Sx
open Go.RowKit
def lC {α:Type}(f:α→List C)(l:List α):List C:=[sl f .no l]
instance {α:Type} (f:α→List C):Sca (lC f) (sl f .no):=⟨fun _=>rfl,fun _=>rfl,fun _=>rfl,fun _ _=>rfl⟩
def pT {α:Type}(f:α→List C)(k n:Nat)(acc:List (List α))(parts:List (Nat×C)):Option Plan:=
 dV n (cl (lC f) acc++List.replicate (n - k) (.val (.slice none 0 0))) parts
theorem Ja {α:Type}(f:α→List C)(k n:Nat)(acc:List (List α))(c:C)(l:List α)(parts:List (Nat×C))(hc:c.cells?=some [sl f .no l])(h:acc.length=k∧k< n):pT f k n acc ((k,c)::parts) =pT f (k+1) n (acc++[l]) parts:=by
 obtain ⟨h,h2⟩:=h
 have hl: (cl (lC f) acc).length=k:=by rw[bm (f:=lC f),h,Nat.mul_one]
 have e:n - k= (n - (k+1))+1:=by omega
 show (match c.cells? with
  |some cs=>if cs.length=1∧k+1≤(cl (lC f) acc++List.replicate (n - k) (C.val (.slice none 0 0))).length then dV n (splice (cl (lC f) acc++List.replicate (n - k) (C.val (.slice none 0 0))) k cs) parts else none
  |none=>none) =_
 rw[hc]
 simp only[]
 rw[if_pos ⟨rfl,by rw[List.length_append,hl,List.length_replicate];omega⟩]
 unfold pT
 congr 1
 rw[iq,e,List.replicate_succ]
 unfold splice
 rw[List.take_append_of_le_length (by omega),List.take_of_length_le (by omega),List.append_assoc,List.append_assoc,List.length_singleton]
 congr 1
 rw[List.drop_append,List.drop_of_length_le (by omega),hl,show k+1 - k=1 by omega]
 rfl
theorem Tv {α:Type}(f:α→List C)(k n:Nat)(acc:List (List α))(l:List α)(parts:List (Nat×C))(h:acc.length=k∧k< n):pT f k n acc ((k,sl f .no l)::parts) =pT f (k+1) n (acc++[l]) parts:=
 Ja f k n acc _ l parts rfl h
theorem MP {α:Type}(f:α→List C)(n:Nat)(acc:List (List α))(h:acc.length=n):pT f n n acc [] =some (vp (sl (lC f) .full acc)):=by
 unfold pT
 rw[Nat.sub_self,List.replicate_zero,List.append_nil]
 show some (vp (.sl .full n (cl (lC f) acc))) =_
 rw[←h];rfl
theorem aaF {α:Type}(f:α→List C)(u:TypeDesc)(y n:Nat)(l:List α)(parts:List (Nat×C))(hn:n≤65536):j6 (some ⟨u,1,y,[.slice none 0 0]⟩) n ((0,sl f .no l)::parts) =pT f 0 n [] ((0,sl f .no l)::parts):=by
 rw[sa _ _ _ _ _ rfl hn];rfl
attribute [go_sem] Tv MP aaF List.nil_append List.cons_append
end Go.Sx
namespace Go.Sx
open Go.RowKit
open Classical in
noncomputable def nn {α:Type}(enc:α→List C×Hp)(out:α→C×Hp)(xs:List C)(h:Hp):Option (C×Hp):=
 if q:∃a,enc a= (xs,h) then some (out q.choose) else none
theorem mE {α:Type}{enc:α→List C×Hp}{out:α→C×Hp}(hi:∀a b,enc a=enc b→out a=out b)(a:α):nn enc out (enc a).1 (enc a).2=some (out a):=by
 have h:∃b,enc b= ((enc a).1,(enc a).2):=⟨a,rfl⟩
 unfold nn
 rw[dif_pos h]
 exact congrArg some (hi _ _ h.choose_spec)
theorem Jb {α:Type}{enc:α→List C×Hp}{out:α→C×Hp}{xs:List C}{h:Hp}{r:C×Hp}(e:nn enc out xs h=some r):∃a,enc a= (xs,h)∧out a=r:=by
 unfold nn at e
 split at e
 . rename_i h2;exact ⟨_,h2.choose_spec,Option.some.inj e⟩
 . cases e
def extH (hp:Nat→List C→Hp→Option (C×Hp))(f:Nat)(t:List C→Hp→Option (C×Hp)):Nat→List C→Hp→Option (C×Hp):=fun g xs h=>if g=f then t xs h else hp g xs h
theorem ko {hp:Nat→List C→Hp→Option (C×Hp)}{f:Nat}{t:List C→Hp→Option (C×Hp)}(xs:List C)(h:Hp):extH hp f t f xs h=t xs h:=if_pos rfl
theorem pU {hp:Nat→List C→Hp→Option (C×Hp)}{f g:Nat}{t:List C→Hp→Option (C×Hp)}(n:g≠f)(xs:List C)(h:Hp):extH hp f t g xs h=hp g xs h:=if_neg n
theorem CxOK.extH {P:Program}{km:TypeId→Value→Bool}{gl:Nat→C}{pu:Nat→List C→Option C}{hp:Nat→List C→Hp→Option (C×Hp)}{N M:Nat}(hcx:CxOK ⟨P,N,gl,pu,hp,fun _=>false,km,true⟩)
 {α:Type} {enc:α→List C×Hp} {out:α→C×Hp} {f:Nat} (h:∀a,FC P gl f (enc a).1 (enc a).2 (out a).1 (out a).2):CxOK ⟨P,M,gl,pu,Sx.extH hp f (nn enc out),fun _=>false,km,true⟩:=by
 refine ⟨hcx.glo,hcx.pu,fun g xs k c k' hc=>?_,hcx.km⟩
 by_cases hgf:g=f
 . subst hgf
   have hc':nn enc out xs k=some (c,k'):=by rw[←hc];exact (ko xs k).symm
   obtain ⟨a,e1,e2⟩:=Jb hc'
   have:=h a
   rw[e1,e2] at this
   exact this
 . have hc':hp g xs k=some (c,k'):=by rw[←hc];exact (pU hgf xs k).symm
   exact hcx.hp g xs k c k' hc'
end Go.Sx
namespace Go.Sx
open Go.RowKit Go.ChangeShapes Go.WideShapes
structure BulkOK {H:Type} (B:DataW H→Nat) (BA:List (DataW H)→Nat):Prop where
 one:∀d,1≤B d
 str:∀s,B (.lit (.string s)) =s.length+1
 slice:∀e s,B (.slice e s) =BA e+BA s+1
 agg:∀e,B (.agg e) =BA e+1
 nil:BA [] =0
 cons:∀d r,BA (d::r) =B d+BA r
end Go.Sx
namespace Go.Sx
open Go.RowKit Go.ChangeShapes Go.WideShapes
end Go.Sx
namespace Go.Sx
open Go.RowKit
theorem xe {G:Gh}:∀ {vals vs:List Value},RepL G (vals.map .val) vs→vs=vals
 | [],vs,h=>by simpa[RepL] using h
 |v::vals,vs,h=>by
  rw[List.map_cons] at h
  simp only[RepL] at h
  obtain ⟨u,us,rfl,h2,h3⟩:=h
  rw[au] at h2
  rw[h2,xe h3]
theorem FD {P:Program}{gl:Nat→C}{f:Nat}{vals:List Value}{v:Value}(he:iE P f)(h:∀w,Calls P f vals.toArray w fun e w'=>e= .returned v∧Below w.heap.size w w'):FC P gl f (vals.map .val) [] (.val v) []:=by
 refine ⟨he,fun G w vs W hT hg hr=>?_⟩
 obtain rfl:vs=vals.toArray:=by rw[←xe hr]
 refine (h w).mono ?_
 rintro e w' ⟨rfl,hb⟩
 have hlt:∀blk off u,G.K blk off=some u→blk< w.heap.size:=fun blk off u hk=>by
  have:=W.known blk off u hk
  unfold World.cell? at this
  cases hq:w.heap[blk]? with
  |none=>rw[hq] at this;simp at this
  |some o=>exact (Array.getElem?_eq_some_iff.1 hq).1
 have hn:∀b cells,Hp.at [] b≠some cells:=fun b cells=>by simp[Hp.at]
 refine ⟨v,G,rfl,au.2 rfl,(fun s n xs e=>by cases e),⟨fun blk off u hk=>?_,fun b cells hc=>(hn b cells hc).elim,(fun b blk x=>⟨(W.dom b blk x).1,Nat.lt_of_lt_of_le (W.dom b blk x).2 hb.size⟩),W.inj,W.sep,(fun g p hp=>Nat.lt_of_lt_of_le (W.tlt g p hp) hb.size),(fun b cells off s n xs blk v hc=>(hn b cells hc).elim),fun b z hz=>?_,(fun b l hb=>by simp[Hp.mp] at hb),(fun b b' l l' blk hb=>by simp[Hp.mp] at hb)⟩,
  ⟨hb.os,hb.tape,hb.output,hb.size,.refl G,fun g hg' ht hm=>⟨hb.block g hg',ht,hm,fun _=>rfl⟩⟩⟩
 . rw[←W.known blk off u hk]
   unfold World.cell?
   rw[hb.block blk (hlt blk off u hk)]
 . obtain ⟨blk,cs,e,fr,q1,q2,q3⟩:=W.siz b z hz
   obtain ⟨⟨c,hc⟩,_⟩:=W.dom b blk q1
   simp at hc
end Go.Sx
namespace Go.Sx
open Go.RowKit
def Cx.grow (cx:Cx)(l:List Nat):Cx:= { cx with gr:=fun t=>l.contains t }
section
variable {cx:Cx} {n:Nat} {st:St} {Q:Ex→St→Prop} {G:Gh} {w:World} {h:Hp}
theorem CxOK.grow (hcx:CxOK cx)(l:List Nat):CxOK (cx.grow l):=⟨hcx.glo,hcx.pu,hcx.hp,hcx.km⟩
theorem Sim.grow {a:Act}(H:Sim cx G w st a)(l:List Nat):Sim (cx.grow l) G w st a:=⟨H.defers,H.size,H.pre.ok,H.pre.env,H.pre.glob⟩
theorem Sim.ungrow {a:Act}{l:List Nat}(H:Sim (cx.grow l) G w st a):Sim cx G w st a:=⟨H.defers,H.size,H.pre.ok,H.pre.env,H.pre.glob⟩
theorem Qf (l:List Nat){c:Code}(H:Tr (cx.grow l) n c st Q):Tr cx n c st Q:=fun r hr G w a S R hR=>
 H r hr G w a (S.grow l) R fun x s G' w' a' q S' F=>hR x s G' w' a' q S'.ungrow F
theorem Jc (hcx:CxOK cx)(gs:List Nat){e:List (Nat×C)}{id:Nat}{l:List Oper}(apps:List Nat)(dsts:List (Option Nat))(z:Hp)(h1:l.filterMap cG=apps)(h2:l.map (·.dst) =dsts)(h3:eu l=z)
 (H:run (cx.grow gs) apps dsts l h.length e (h++z) [] (fun _ s=>Q .normal s)):Tr cx n (.region id l.toArray false) ⟨A e,h⟩ Q:=
 Qf gs (Tr.rg (hcx.grow gs) apps dsts z h1 h2 h3 H)
theorem DP (hcx:CxOK cx)(hm:cx.P.follows .mixedOrders=true)(gs:List Nat){e:List (Nat×C)}{id:Nat}{l:List Oper}(apps:List Nat)(dsts:List (Option Nat))(z:Hp)(h1:l.filterMap cG=apps)(h2:l.map (·.dst) =dsts)(h3:eu l=z)
 (hs:dN l.toArray=true)
 (H:run (cx.grow gs) apps dsts l h.length e (h++z) [] (fun fs s=>fG l.toArray fs.reverse=true∧Q .normal s)):Tr cx n (.region id l.toArray true) ⟨A e,h⟩ Q:=
 Qf gs (ut (hcx.grow gs) hm apps dsts z h1 h2 h3 hs H)
def dP:List Nat→Nat→Nat→Option Nat
 | [],_,_=>none
 |x::r,k,b=>if b=x then some k else dP r (k+1) b
theorem fO:∀ {ρ:List Nat}{k b j:Nat},dP ρ k b=some j→k≤j∧ρ[j - k]? =some b
 | [],k,b,j,h=>by cases h
 |x::r,k,b,j,h=>by
  simp only[dP] at h
  split at h
  . rename_i e;cases h;subst e;simp
  . obtain ⟨h1,h2⟩:=fO h
    refine ⟨by omega,?_⟩
    have:j - k= (j - (k+1))+1:=by omega
    rw[this,List.getElem?_cons_succ];exact h2
mutual
def bA (ρ:List Nat):C→C
 | .sv b o n=>match dP ρ 0 b with|some j=> .sv j o n|none=> .top
 | .gv b n s=>match dP ρ 0 b with|some j=> .gv j n s|none=> .top
 | .bp b o=>match dP ρ 0 b with|some j=> .bp j o|none=> .top
 | .mp b=>match dP ρ 0 b with|some j=> .mp j|none=> .top
 | .bt b t n=>match dP ρ 0 b with|some j=> .bt j t n|none=> .top
 | .sl r n xs=> .sl r n (mvCs ρ xs)
 | .kp xs=> .kp (mvCs ρ xs)
 | .agg xs=> .agg (mvCs ρ xs)
 | .tup xs=> .tup (mvCs ρ xs)
 | .fn f xs=> .fn f (mvCs ρ xs)
 | .top=> .top
 | .val v=> .val v
def mvCs (ρ:List Nat):List C→List C
 | [] =>[]
 |x::xs=>bA ρ x::mvCs ρ xs
end
theorem oQ (ρ:List Nat):∀xs:List C,mvCs ρ xs=xs.map (bA ρ)
 | [] =>rfl
 |x::xs=>by simp[mvCs,oQ ρ xs]
def jD (ρ:List Nat)(h:Hp):Hp:=ρ.map fun b=>((h[b]?).getD none).map (mvCs ρ)
def c8 (ρ:List Nat)(G:Gh):Gh where
 K:=G.K
 μ:=fun j=>(ρ[j]?).bind G.μ
 T:=fun g=>match G.T g with
  |some p=>if p.1=1 then (dP ρ 0 p.2.1).map (fun j=>(1,j,p.2.2)) else some p
  |none=>none
 σ:=fun j=>(ρ[j]?).bind G.σ
mutual
theorem nY {ρ:List Nat}:∀ (c:C)(v:Value),Rep G c v→Rep (c8 ρ G) (bA ρ c) v
 | .top,_,_=>by simp[bA,Rep]
 | .val u,v,r=>by simpa[bA,Rep] using r
 | .sl r n xs,v,x=>by
   simp only[bA,Rep] at x ⊢
   obtain ⟨a,cap,h1,h2,h3,h4,h5⟩:=x
   refine ⟨a,cap,h1,h2,h3,h4,?_⟩
   rcases h5 with h5| ⟨blk,off,ha,hk⟩
   . left;rw[h5];rfl
   . exact .inr ⟨blk,off,ha,mvC_repK xs blk off hk⟩
 | .sv b off n,v,x=>by
   simp only[bA]
   cases hl:dP ρ 0 b with
   |none=>simp[Rep]
   |some j=>
    have hj:=(fO hl).2
    simp only[Rep] at x ⊢
    obtain ⟨a,cap,h1,h2,h3,h4⟩:=x
    exact ⟨a,cap,h1,h2,h3,fun hz=>by obtain ⟨blk,q1,q2⟩:=h4 hz;exact ⟨blk,by simp only[c8,Nat.sub_zero] at hj ⊢;rw[hj];exact q1,q2⟩⟩
 | .gv b m s,v,x=>by
   simp only[bA]
   cases hl:dP ρ 0 b with
   |none=>simp[Rep]
   |some j=>
    have hj:=(fO hl).2
    simp only[Nat.sub_zero] at hj
    simp only[Rep] at x ⊢
    obtain ⟨a,cap,h1,h2,h3,h4⟩:=x
    refine ⟨a,cap,h1,h2,h3,?_⟩
    rcases h4 with h4| ⟨blk,q1,q2,q3⟩
    . exact .inl h4
    . exact .inr ⟨blk,by simp only[c8];rw[hj];exact q1,q2,by simp only[c8];rw[hj];exact q3⟩
 | .bp b off,v,x=>by
   simp only[bA]
   cases hl:dP ρ 0 b with
   |none=>simp[Rep]
   |some j=>
    have hj:=(fO hl).2
    simp only[Nat.sub_zero] at hj
    simp only[Rep] at x ⊢
    obtain ⟨blk,h1,h2⟩:=x
    exact ⟨blk,by simp only[c8];rw[hj];exact h1,h2⟩
 | .mp b,v,x=>by
   simp only[bA]
   cases hl:dP ρ 0 b with
   |none=>simp[Rep]
   |some j=>
    have hj:=(fO hl).2
    simp only[Nat.sub_zero] at hj
    simp only[Rep] at x ⊢
    obtain ⟨blk,h1,h2⟩:=x
    exact ⟨blk,by simp only[c8];rw[hj];exact h1,h2⟩
 | .bt b t n,v,x=>by
   simp only[bA]
   cases hl:dP ρ 0 b with
   |none=>simp[Rep]
   |some j=>
    have hj:=(fO hl).2
    simp only[Nat.sub_zero] at hj
    simp only[Rep] at x ⊢
    obtain ⟨blk,h1,h2,h3⟩:=x
    exact ⟨blk,by simp only[c8];rw[hj];exact h1,h2,by simp only[c8];rw[hj];exact h3⟩
 | .kp xs,v,x=>by
   simp only[bA,Rep] at x ⊢
   obtain ⟨blk,off,h1,h2⟩:=x
   exact ⟨blk,off,h1,mvC_repK xs blk off h2⟩
 | .agg xs,v,x=>by
   simp only[bA,Rep] at x ⊢
   obtain ⟨vs,h1,h2,h3⟩:=x
   exact ⟨vs,h1,mvC_repL xs _ h2,h3⟩
 | .tup xs,v,x=>by
   simp only[bA,Rep] at x ⊢
   obtain ⟨vs,h1,h2⟩:=x
   exact ⟨vs,h1,mvC_repL xs _ h2⟩
 | .fn f xs,v,x=>by
   simp only[bA,Rep] at x ⊢
   obtain ⟨vs,h1,h2⟩:=x
   exact ⟨vs,h1,mvC_repL xs _ h2⟩
theorem mvC_repL {ρ:List Nat}:∀ (xs:List C)(vs:List Value),RepL G xs vs→RepL (c8 ρ G) (mvCs ρ xs) vs
 | [],vs,r=>by simpa[mvCs,RepL] using r
 |x::xs,vs,r=>by
  simp only[mvCs,RepL] at r ⊢
  obtain ⟨v,vs',h1,h2,h3⟩:=r
  exact ⟨v,vs',h1,nY x v h2,mvC_repL xs vs' h3⟩
theorem mvC_repK {ρ:List Nat}:∀ (xs:List C)(blk off:Nat),RepK G blk off xs→RepK (c8 ρ G) blk off (mvCs ρ xs)
 | [],_,_,_=>by simp[mvCs,RepK]
 |x::xs,blk,off,r=>by
  simp only[mvCs,RepK] at r ⊢
  obtain ⟨⟨u,h1,h2,h3⟩,h4⟩:=r
  exact ⟨⟨u,h1,h2,nY x u h3⟩,mvC_repK xs blk (off+1) h4⟩
end
theorem DQ {ρ:List Nat}{c:C}{s m:Nat}{xs:List C}(h:bA ρ c= .sl (.own s) m xs):∃ys,c= .sl (.own s) m ys:=by
 cases c with
 |sl r k ys=>simp only[bA] at h;cases h;exact ⟨ys,rfl⟩
 |sv b o k=>simp only[bA] at h;split at h<;>cases h
 |gv b o k=>simp only[bA] at h;split at h<;>cases h
 |bp b o=>simp only[bA] at h;split at h<;>cases h
 |mp b=>simp only[bA] at h;split at h<;>cases h
 |bt b t n=>simp only[bA] at h;split at h<;>cases h
 |_=>simp only[bA] at h;cases h
theorem uB {ρ:List Nat}{j:Nat}{cells:List C}(hj:Hp.at (jD ρ h) j=some cells):∃b cells0,ρ[j]? =some b∧h.at b=some cells0∧cells=mvCs ρ cells0:=by
 have h1:=fI hj
 unfold jD at h1
 rw[List.getElem?_map] at h1
 cases hb:ρ[j]? with
 |none=>rw[hb] at h1;cases h1
 |some b=>
  rw[hb] at h1
  simp only[Option.map_some,Option.some.injEq] at h1
  cases hq:h[b]? with
  |none=>rw[hq] at h1;cases h1
  |some o=>
   rw[hq] at h1
   cases o with
   |none=>cases h1
   |some cells0=>
    simp only[Option.getD_some,Option.map_some,Option.some.injEq] at h1
    refine ⟨b,cells0,rfl,?_,h1.symm⟩
    have hl:=iF hj
    unfold Hp.at
    rw[hq]
    subst h1
    show bK (some cells0) =_
    cases cells0 with
    |nil=>rfl
    |cons x l=>
     cases x with
     |tup xs=>simp only[mvCs,bA] at hl;cases hl
     |_=>rfl
theorem BX {ρ:List Nat}:∀ (l:List C)(es:List MapEntry),MRep G l es→MRep (c8 ρ G) (mvCs ρ l) es
 | [],_,r=>by simpa[MRep,mvCs] using r
 | [_],_,r=>by simp[MRep] at r
 |k::v::l,es,r=>by
  simp only[MRep,mvCs] at r ⊢
  obtain ⟨e,es',h1,h2,h3,h4⟩:=r
  exact ⟨e,es',h1,nY k _ h2,nY v _ h3,BX l es' h4⟩
theorem Jd {ρ:List Nat}{c:C}{u:Value}(h:bA ρ c= .val u):c= .val u:=by
 cases c with
 |val v=>simp only[bA] at h;exact h
 |sv b o k=>simp only[bA] at h;split at h<;>cases h
 |gv b o k=>simp only[bA] at h;split at h<;>cases h
 |bp b o=>simp only[bA] at h;split at h<;>cases h
 |mp b=>simp only[bA] at h;split at h<;>cases h
 |bt b t n=>simp only[bA] at h;split at h<;>cases h
 |_=>simp only[bA] at h;cases h
theorem Je {ρ:List Nat}{c:C}{xs:List C}(h:bA ρ c= .tup xs):∃ys,c= .tup ys∧xs=mvCs ρ ys:=by
 cases c with
 |tup ys=>simp only[bA] at h;cases h;exact ⟨ys,rfl,rfl⟩
 |sv b o k=>simp only[bA] at h;split at h<;>cases h
 |gv b o k=>simp only[bA] at h;split at h<;>cases h
 |bp b o=>simp only[bA] at h;split at h<;>cases h
 |mp b=>simp only[bA] at h;split at h<;>cases h
 |bt b t n=>simp only[bA] at h;split at h<;>cases h
 |_=>simp only[bA] at h;cases h
theorem wc {F:C→C}{Fs:List C→List C}(hs:∀xs,Fs xs=xs.map F)(hv:∀c u,F c= .val u→c= .val u)(ht:∀c xs,F c= .tup xs→∃ys,c= .tup ys∧xs=Fs ys){cells l:List C}(h:fV (some (Fs cells)) =some l):∃l0,fV (some cells) =some l0∧l=Fs l0:=by
 cases cells with
 |nil=>rw[hs] at h;cases h
 |cons c cs=>
  rw[hs,List.map_cons] at h
  cases hq:F c with
  |tup xs=>
   obtain ⟨ys,rfl,rfl⟩:=ht c xs hq
   rw[hq] at h
   cases ys with
   |nil=>rw[hs] at h;cases h
   |cons y ys=>
    rw[hs,List.map_cons] at h
    cases hy:F y with
    |val u=>
     have:=hv y u hy
     subst this
     rw[hy] at h
     cases u with
     |bool b=>
      cases b with
      |true=>cases h;exact ⟨ys,rfl,(hs ys).symm⟩
      |false=>cases h
     |_=>cases h
    |_=>rw[hy] at h;cases h
  |_=>rw[hq] at h;cases h
theorem BY {ρ:List Nat}{h:Hp}{j:Nat}{l:List C}(hj:Hp.mp (jD ρ h) j=some l):∃b l0,ρ[j]? =some b∧h.mp b=some l0∧l=mvCs ρ l0:=by
 unfold Hp.mp jD at hj
 rw[List.getElem?_map] at hj
 cases hb:ρ[j]? with
 |none=>rw[hb] at hj;cases hj
 |some b=>
  rw[hb] at hj
  simp only[Option.map_some,Option.bind_some] at hj
  cases hq:h[b]? with
  |none=>rw[hq] at hj;cases hj
  |some o=>
   rw[hq] at hj
   cases o with
   |none=>cases hj
   |some cells0=>
    obtain ⟨l0,h1,h2⟩:=wc (Fs:=mvCs ρ) (oQ ρ) (fun _ _=>Jd) (fun _ _=>Je) (cells:=cells0) hj
    exact ⟨b,l0,rfl,by unfold Hp.mp;rw[hq];exact h1,h2⟩
def tk (n:Nat)(ρ:List Nat):Prop:=ρ.Nodup∧n≤ρ.length∧∀j,j< n→ρ[j]? =some j
theorem kY:∀ {ρ:List Nat}{k j b:Nat},ρ.Nodup→ρ[j]? =some b→dP ρ k b=some (k+j)
 |x::r,k,0,b,hn,h=>by simp at h;subst h;simp[dP]
 |x::r,k,j+1,b,hn,h=>by
  rw[List.getElem?_cons_succ] at h
  have hx:b≠x:=fun e=>by
   subst e
   exact (List.nodup_cons.1 hn).1 (List.mem_of_getElem? h)
  simp only[dP]
  rw[if_neg hx,kY (List.nodup_cons.1 hn).2 h]
  congr 1;omega
 | [],k,j,b,hn,h=>by simp at h
theorem OwnRow.mv {ρ:List Nat}{p p':bJ}{v:Value}{s m:Nat}(O:OwnRow G w p v s m)(hp: (p.1≠1∧p'=p)∨(p.1=1∧∃j,dP ρ 0 p.2.1=some j∧p'= (1,j,p.2.2))):OwnRow (c8 ρ G) w p' v s m:=by
 rcases O with O| ⟨g,cap,cur,e,a1,a2,a3,a4,a5,a6⟩
 . exact .inl O
 . refine .inr ⟨g,cap,cur,e,a1,?_,a3,a4,a5,fun b hb=>?_⟩
   . simp only[c8,a2]
     rcases hp with ⟨h1,rfl⟩ | ⟨h1,j,h2,rfl⟩
     . rw[if_neg h1]
     . rw[if_pos h1,h2];rfl
   . simp only[c8] at hb
     cases hq:ρ[b]? with
     |none=>rw[hq] at hb;cases hb
     |some q=>rw[hq] at hb;exact a6 q hb
theorem WorldOK.mv {ρ:List Nat}(H:WorldOK G h w)(hρ:ρ.Nodup):WorldOK (c8 ρ G) (jD ρ h) w:=by
 have hμ:∀ {j blk},(c8 ρ G).μ j=some blk→∃b,ρ[j]? =some b∧G.μ b=some blk:=fun {j blk} x=>by
  simp only[c8] at x
  cases hq:ρ[j]? with
  |none=>rw[hq] at x;cases x
  |some q=>rw[hq] at x;exact ⟨q,rfl,x⟩
 refine ⟨H.known,fun j cells hj=>?_,fun j blk hm=>?_,fun j j' c c' blk hj hj' hm hm'=>?_,fun j blk hm=>?_,fun g p hg=>?_,fun j cells off s m xs blk v hj hc hm hv=>?_,fun j z hz=>?_,fun j l hj=>?_,fun j j' l l' blk x x' y y'=>?_⟩
 . obtain ⟨b,cells0,h1,h2,rfl⟩:=uB hj
   rcases H.box b cells0 h2 with ⟨hE,hE2⟩ | ⟨blk,cs,e,q1,q2,q3,q4,q5⟩
   . exact .inl ⟨by rw[hE];rfl,by simp only[c8,h1];exact hE2⟩
   . have hl: (mvCs ρ cells0).length=cells0.length:=by rw[oQ];simp
     exact .inr ⟨blk,cs,e,by simp only[c8,h1];exact q1,q2,by rw[hl];exact q3,by rw[hl];exact mvC_repL _ _ q4,q5⟩
 . obtain ⟨b,h1,h2⟩:=hμ hm
   obtain ⟨⟨c,hc⟩,hl⟩:=H.dom b blk h2
   refine ⟨⟨mvCs ρ c,?_⟩,hl⟩
   unfold jD
   rw[List.getElem?_map,h1]
   simp[hc]
 . obtain ⟨b,h1,h2⟩:=hμ hm
   obtain ⟨b',h1',h2'⟩:=hμ hm'
   obtain ⟨q,cells0,g1,g2,_⟩:=uB hj
   obtain ⟨q',cells0',g1',g2',_⟩:=uB hj'
   rw[h1] at g1;cases g1
   rw[h1'] at g1';cases g1'
   have e:=H.inj b b' _ _ blk g2 g2' h2 h2'
   subst e
   have l1:=kY (k:=0) hρ h1
   have l2:=kY (k:=0) hρ h1'
   rw[l1] at l2
   simpa using l2
 . obtain ⟨b,h1,h2⟩:=hμ hm
   obtain ⟨s1,s2⟩:=H.sep b blk h2
   exact ⟨s1,by simp only[c8,s2]⟩
 . cases hq:G.T g with
   |none=>simp only[c8,hq] at hg;cases hg
   |some q=>exact H.tlt g q hq
 . obtain ⟨b,cells0,h1,h2,rfl⟩:=uB hj
   obtain ⟨b',h1',h2'⟩:=hμ hm
   rw[h1] at h1';cases h1'
   rw[oQ,List.getElem?_map] at hc
   cases hq:cells0[off]? with
   |none=>rw[hq] at hc;cases hc
   |some y=>
    rw[hq] at hc
    simp only[Option.map_some,Option.some.injEq] at hc
    obtain ⟨ys,rfl⟩:=DQ hc
    have O:=H.own b cells0 off s m ys blk v h2 hq h2' hv
    have l1:=kY (k:=0) hρ h1
    exact O.mv (.inr ⟨rfl,j,by simpa using l1,rfl⟩)
 . simp only[c8] at hz
   cases hq:ρ[j]? with
   |none=>rw[hq] at hz;cases hz
   |some b=>
    rw[hq] at hz
    obtain ⟨blk,cs,e,fr,q1,q2,q3⟩:=H.siz b z hz
    exact ⟨blk,cs,e,fr,by simp only[c8,hq];exact q1,q2,q3⟩
 . obtain ⟨b,l0,h1,h2,rfl⟩:=BY hj
   obtain ⟨blk,es,clk,q1,q2,q3⟩:=H.mpo b l0 h2
   exact ⟨blk,es,clk,by simp only[c8,h1];exact q1,q2,BX l0 _ q3⟩
 . obtain ⟨b,l0,h1,h2,rfl⟩:=BY x
   obtain ⟨b',l0',h1',h2',rfl⟩:=BY x'
   obtain ⟨q,g1,g2⟩:=hμ y
   obtain ⟨q',g1',g2'⟩:=hμ y'
   rw[h1] at g1;cases g1
   rw[h1'] at g1';cases g1'
   have e:=H.mpi b b' _ _ blk h2 h2' g2 g2'
   subst e
   have l1:=kY (k:=0) hρ h1
   have l2:=kY (k:=0) hρ h1'
   rw[l1] at l2
   simpa using l2
theorem Tw {ρ:List Nat}(hρ:tk n ρ):FrmN n G w (c8 ρ G) w:=
 ⟨rfl,rfl,rfl,Nat.le_refl _,fun _ _ _ x=>x,fun b k hb x=>by simp only[c8];rw[hρ.2.2 b hb];exact x,fun b k hb x=>by simp only[c8];rw[hρ.2.2 b hb];exact x,
   fun g _ ht hm=>⟨rfl,by simp only[c8,ht],fun j hj=>by
    simp only[c8] at hj
    cases hq:ρ[j]? with
    |none=>rw[hq] at hj;cases hj
    |some q=>rw[hq] at hj;exact hm q hj,fun _=>rfl⟩⟩
theorem xf {ρ:List Nat}{c:C}{v:Value}(hc:ah 0 c=true)(h:Rep G c v):Rep (c8 ρ G) c v:=by
 have h1:=d6 c v hc h
 have le: (b7 G 0).Le (c8 ρ G):=⟨fun _ _ _ x=>x,fun b k x=>by simp[b7] at x,fun b k x=>by simp[b7] at x⟩
 exact h1.mono le
theorem Sim.mv (hcx:CxOK cx){a:Act}{ρ:List Nat}(hρ:ρ.Nodup)(H:Sim cx G w st a):Sim cx (c8 ρ G) w ⟨fun t=>bA ρ (st.env t),jD ρ st.h⟩ a:=
 ⟨H.defers.same (fun g h=>by simp only[c8,h]) (fun g h b hb=>by
   simp only[c8] at hb
   cases hq:ρ[b]? with
   |none=>rw[hq] at hb;cases hb
   |some j=>rw[hq] at hb;exact h j hb),H.size,H.pre.ok.mv hρ,⟨fun t=>nY _ _ (H.pre.env.1 t),fun t s m xs e=>by
   obtain ⟨ys,hy⟩:=DQ e
   exact (H.pre.env.2 t s m ys hy).mv (.inl ⟨by simp,rfl⟩)⟩,fun g=>xf (hcx.glo g) (H.pre.glob g)⟩
theorem Tr.mv (hcx:CxOK cx){c:Code}(ρ:List Nat)(hρ:tk n ρ)(H:Tr cx n c ⟨fun t=>bA ρ (st.env t),jD ρ st.h⟩ Q):Tr cx n c st Q:=fun r hr G w a S R hR=>
 H r hr (c8 ρ G) w a (S.mv hcx hρ.1) R fun x s G' w' a' q S' F=>hR x s G' w' a' q S' ((Tw hρ).transA F)
def MvQ (n:Nat)(P:St→Prop)(s:St):Prop:= ∃ρ:List Nat,tk n ρ∧P ⟨fun t=>bA ρ (s.env t),jD ρ s.h⟩
theorem tl {α:Type}(hcx:CxOK cx)(I:α→List (Nat×C))(H:α→Hp)(ok:α→Prop)(μ:α→Nat){c:Code}(a:α)(h0:ok a)(hl:Le st.env (I a))(hh:st.h=H a)
 (hb:∀a,ok a→Tr cx n c ⟨A (I a),H a⟩ (mX (MvQ n (At I H fun a'=>ok a'∧μ a'< μ a)) Q)):Tr cx n (.loop c) st Q:=by
 refine Tr.loop (fun m s=> ∃ρ,tk n ρ∧∃a,μ a=m∧ok a∧Le (fun t=>bA ρ (s.env t)) (I a)∧jD ρ s.h=H a∨(μ a=m∧ok a∧Le s.env (I a)∧s.h=H a)) (μ a) ⟨List.range n,⟨List.nodup_range,by simp,fun j hj=>by simp[hj]⟩,a,.inr ⟨rfl,h0,hl,hh⟩⟩ ?_
 rintro m s ⟨ρ,hρ,a,⟨rfl,h1,h2,h3⟩ | ⟨rfl,h1,h2,h3⟩⟩
 . refine Tr.mv hcx ρ hρ (Tr.live _ h2 ?_)
   rw[h3]
   refine (hb a h1).mono fun e s q=>?_
   cases e with
   |normal=>
    obtain ⟨ρ',hρ',a',⟨q1,q2⟩,q3,q4⟩:=q
    exact ⟨μ a',q2,ρ',hρ',a',.inl ⟨rfl,q1,q3,q4⟩⟩
   |exit id=>exact q
   |ret=>exact q
 . refine Tr.live _ h2 ?_
   rw[h3]
   refine (hb a h1).mono fun e s q=>?_
   cases e with
   |normal=>
    obtain ⟨ρ',hρ',a',⟨q1,q2⟩,q3,q4⟩:=q
    exact ⟨μ a',q2,ρ',hρ',a',.inl ⟨rfl,q1,q3,q4⟩⟩
   |exit id=>exact q
   |ret=>exact q
end
end Go.Sx
namespace Go.Sx
open Go.RowKit
def cR (h:Hp)(b b':Nat):Bool:=((h.at b').isSome|| (h.mp b').isSome) && b' !=b
mutual
def dy (ok:Nat→Bool):C→C
 | .sv b o n=>if ok b=true then .sv b o n else .top
 | .gv b n s=>if ok b=true then .gv b n s else .top
 | .bp b o=>if ok b=true then .bp b o else .top
 | .mp b=>if ok b=true then .mp b else .top
 | .bt b t n=>if ok b=true then .bt b t n else .top
 | .sl r n xs=> .sl r n (scrs ok xs)
 | .kp xs=> .kp (scrs ok xs)
 | .agg xs=> .agg (scrs ok xs)
 | .tup xs=> .tup (scrs ok xs)
 | .fn f xs=> .fn f (scrs ok xs)
 | .top=> .top
 | .val v=> .val v
def scrs (ok:Nat→Bool):List C→List C
 | [] =>[]
 |x::xs=>dy ok x::scrs ok xs
end
mutual
def bz (ok:Nat→Bool)(b:Nat)(ys:List C):C→C
 | .sv b' o n=>if b'=b then (if o+n≤ys.length then .sl .no n ((ys.drop o).take n) else .top) else if ok b'=true then .sv b' o n else .top
 | .gv b' n s=>if b'=b then (if n*s.1≤ys.length then .sl .no n (ys.take (n*s.1)) else .top) else if ok b'=true then .gv b' n s else .top
 | .bp b' o=>if b'=b then .kp (ys.drop o) else if ok b'=true then .bp b' o else .top
 | .mp b'=>if b'=b then .top else if ok b'=true then .mp b' else .top
 | .bt b' t n=>if b'=b then .top else if ok b'=true then .bt b' t n else .top
 | .sl r n xs=> .sl r n (fzCs ok b ys xs)
 | .kp xs=> .kp (fzCs ok b ys xs)
 | .agg xs=> .agg (fzCs ok b ys xs)
 | .tup xs=> .tup (fzCs ok b ys xs)
 | .fn f xs=> .fn f (fzCs ok b ys xs)
 | .top=> .top
 | .val v=> .val v
def fzCs (ok:Nat→Bool)(b:Nat)(ys:List C):List C→List C
 | [] =>[]
 |x::xs=>bz ok b ys x::fzCs ok b ys xs
end
theorem tn (ok:Nat→Bool):∀xs:List C,scrs ok xs=xs.map (dy ok)
 | [] =>rfl
 |x::xs=>by simp[scrs,tn ok xs]
theorem iz (ok:Nat→Bool)(b:Nat)(ys:List C):∀xs:List C,fzCs ok b ys xs=xs.map (bz ok b ys)
 | [] =>rfl
 |x::xs=>by simp[fzCs,iz ok b ys xs]
def lw (ok:Nat→Bool)(b:Nat)(ys:List C)(h:Hp):Hp:=(h.map fun o=>o.map (fzCs ok b ys)).set b (some eb)
open Classical in
noncomputable def cZ (G:Gh)(w:World)(b k:Nat):Gh where
 K:=fun g o=>if G.μ b=some g∧o< k then w.cell? ⟨g,o,none⟩ else G.K g o
 μ:=fun b'=>if b'=b∨(∃g,G.μ b=some g∧G.μ b'=some g) then none else G.μ b'
 T:=G.T
 σ:=fun b'=>if b'=b∨(∃g,G.μ b=some g∧G.μ b'=some g) then none else G.σ b'
section
variable {cx:Cx} {n:Nat} {st:St} {Q:Ex→St→Prop} {G:Gh} {w:World} {h:Hp} {b:Nat} {cells:List C}
theorem DR (H:WorldOK G h w)(hb:h.at b=some cells){b':Nat}(hok:cR h b b'=true):¬ (b'=b∨(∃g,G.μ b=some g∧G.μ b'=some g)):=by
 simp only[cR,Bool.and_eq_true,Bool.or_eq_true,bne_iff_ne,ne_eq] at hok
 obtain ⟨h1,h2⟩:=hok
 rintro (e| ⟨g,e1,e2⟩)
 . exact h2 e
 . rcases h1 with h1|h1
   . obtain ⟨c',hc'⟩:=Option.isSome_iff_exists.1 h1
     exact h2 (H.inj b' b _ _ g hc' hb e2 e1)
   . obtain ⟨l',hl'⟩:=Option.isSome_iff_exists.1 h1
     obtain ⟨blk,es,clk,q1,q2,_⟩:=H.mpo b' l' hl'
     rw[e2] at q1;cases q1
     obtain ⟨cs,e,⟨fr,r2,_⟩,_⟩:=H.bx hb e1
     rw[q2] at r2;cases r2
theorem sc (H:WorldOK G h w)(k:Nat): (b7 G 0).Le (cZ G w b k):=
 ⟨fun g o u x=>(by
   have x':G.K g o=some u:=x
   simp only[cZ]
   rw[if_neg]
   . exact x'
   . rintro ⟨e,_⟩
     rw[(H.sep b g e).1 o] at x';cases x'),fun b k x=>by simp[b7] at x,fun b k x=>by simp[b7] at x⟩
theorem eF (H:WorldOK G h w)(hb:h.at b=some cells){b' k g:Nat}(hok:cR h b b'=true)(hm:G.μ b'=some g): (cZ G w b k).μ b'=some g:=by
 simp only[cZ];rw[if_neg (DR H hb hok)];exact hm
theorem oT (H:WorldOK G h w)(hb:h.at b=some cells){b' k:Nat}{g:Nat×Nat}(hok:cR h b b'=true)(hm:G.σ b'=some g): (cZ G w b k).σ b'=some g:=by
 simp only[cZ];rw[if_neg (DR H hb hok)];exact hm
mutual
theorem wd (H:WorldOK G h w)(hb:h.at b=some cells)(k:Nat):∀ (c:C)(v:Value),Rep G c v→Rep (cZ G w b k) (dy (cR h b) c) v
 | .top,_,_=>by simp[dy,Rep]
 | .val u,v,r=>by simpa[dy,Rep] using r
 | .sl r n xs,v,x=>by
   simp only[dy,Rep] at x ⊢
   obtain ⟨a,cap,h1,h2,h3,h4,h5⟩:=x
   refine ⟨a,cap,h1,h2,h3,h4,?_⟩
   rcases h5 with h5| ⟨blk,off,ha,hk⟩
   . left;rw[h5];rfl
   . exact .inr ⟨blk,off,ha,scr_repK H hb k xs blk off hk⟩
 | .sv b' off n,v,x=>by
   simp only[dy]
   split
   . rename_i hok
     simp only[Rep] at x ⊢
     obtain ⟨a,cap,h1,h2,h3,h4⟩:=x
     exact ⟨a,cap,h1,h2,h3,fun hz=>by obtain ⟨blk,q1,q2⟩:=h4 hz;exact ⟨blk,eF H hb hok q1,q2⟩⟩
   . simp[Rep]
 | .gv b' m s,v,x=>by
   simp only[dy]
   split
   . rename_i hok
     simp only[Rep] at x ⊢
     obtain ⟨a,cap,h1,h2,h3,h4⟩:=x
     refine ⟨a,cap,h1,h2,h3,?_⟩
     rcases h4 with h4| ⟨blk,q1,q2,q3⟩
     . exact .inl h4
     . exact .inr ⟨blk,eF H hb hok q1,q2,oT H hb hok q3⟩
   . simp[Rep]
 | .bp b' off,v,x=>by
   simp only[dy]
   split
   . rename_i hok
     simp only[Rep] at x ⊢
     obtain ⟨blk,h1,h2⟩:=x
     exact ⟨blk,eF H hb hok h1,h2⟩
   . simp[Rep]
 | .mp b',v,x=>by
   simp only[dy]
   split
   . rename_i hok
     simp only[Rep] at x ⊢
     obtain ⟨blk,h1,h2⟩:=x
     exact ⟨blk,eF H hb hok h1,h2⟩
   . simp[Rep]
 | .bt b' t n,v,x=>by
   simp only[dy]
   split
   . rename_i hok
     simp only[Rep] at x ⊢
     obtain ⟨blk,h1,h2,h3⟩:=x
     exact ⟨blk,eF H hb hok h1,h2,oT H hb hok h3⟩
   . simp[Rep]
 | .kp xs,v,x=>by
   simp only[dy,Rep] at x ⊢
   obtain ⟨blk,off,h1,h2⟩:=x
   exact ⟨blk,off,h1,scr_repK H hb k xs blk off h2⟩
 | .agg xs,v,x=>by
   simp only[dy,Rep] at x ⊢
   obtain ⟨vs,h1,h2,h3⟩:=x
   exact ⟨vs,h1,scr_repL H hb k xs _ h2,h3⟩
 | .tup xs,v,x=>by
   simp only[dy,Rep] at x ⊢
   obtain ⟨vs,h1,h2⟩:=x
   exact ⟨vs,h1,scr_repL H hb k xs _ h2⟩
 | .fn f xs,v,x=>by
   simp only[dy,Rep] at x ⊢
   obtain ⟨vs,h1,h2⟩:=x
   exact ⟨vs,h1,scr_repL H hb k xs _ h2⟩
theorem scr_repL (H:WorldOK G h w)(hb:h.at b=some cells)(k:Nat):∀ (xs:List C)(vs:List Value),RepL G xs vs→RepL (cZ G w b k) (scrs (cR h b) xs) vs
 | [],vs,r=>by simpa[scrs,RepL] using r
 |x::xs,vs,r=>by
  simp only[scrs,RepL] at r ⊢
  obtain ⟨v,vs',h1,h2,h3⟩:=r
  exact ⟨v,vs',h1,wd H hb k x v h2,scr_repL H hb k xs vs' h3⟩
theorem scr_repK (H:WorldOK G h w)(hb:h.at b=some cells)(k:Nat):∀ (xs:List C)(blk off:Nat),RepK G blk off xs→RepK (cZ G w b k) blk off (scrs (cR h b) xs)
 | [],_,_,_=>by simp[scrs,RepK]
 |x::xs,blk,off,r=>by
  simp only[scrs,RepK] at r ⊢
  obtain ⟨⟨u,h1,h2,h3⟩,h4⟩:=r
  exact ⟨⟨u,(sc H k).K _ _ _ h1,h2,wd H hb k x u h3⟩,scr_repK H hb k xs blk (off+1) h4⟩
end
def fzY (h:Hp)(b:Nat)(cells:List C):List C:=(scrs (cR h b) cells).map C.noR
theorem Tx (h:Hp)(b:Nat)(cells:List C): (fzY h b cells).length=cells.length:=by simp[fzY,tn]
theorem uC (H:WorldOK G h w)(hb:h.at b=some cells){blk:Nat}(hm:G.μ b=some blk):RepK (cZ G w b cells.length) blk 0 (fzY h b cells):=by
 obtain ⟨cs,e,⟨fr,q2,_⟩,q0,q3,q4⟩:=H.bx hb hm
 refine RepK.of_get fun i x hx=>?_
 have hil:i< cells.length:=by have:=(List.getElem?_eq_some_iff.1 hx).1;rwa [Tx] at this
 unfold fzY at hx
 rw[tn,List.map_map,List.getElem?_map] at hx
 cases hc:cells[i]? with
 |none=>rw[hc] at hx;cases hx
 |some y=>
  rw[hc] at hx
  simp only[Option.map_some,Option.some.injEq,Function.comp] at hx
  subst hx
  obtain ⟨u,hu,hr⟩:=q3.get i y hc
  rw[List.getElem?_take,if_pos hil] at hu
  refine ⟨u,?_,q4 u (List.mem_of_getElem? hu),(wd H hb cells.length y u hr).noR⟩
  simp only[cZ,Nat.zero_add]
  rw[if_pos ⟨hm,hil⟩]
  exact rZ q2 _ _ hu
mutual
theorem nZ (H:WorldOK G h w)(hb:h.at b=some cells):∀ (c:C)(v:Value),Rep G c v→Rep (cZ G w b cells.length) (bz (cR h b) b (fzY h b cells) c) v
 | .top,_,_=>by simp[bz,Rep]
 | .val u,v,r=>by simpa[bz,Rep] using r
 | .sl r n xs,v,x=>by
   simp only[bz,Rep] at x ⊢
   obtain ⟨a,cap,h1,h2,h3,h4,h5⟩:=x
   refine ⟨a,cap,h1,h2,h3,h4,?_⟩
   rcases h5 with h5| ⟨blk,off,ha,hk⟩
   . left;rw[h5];rfl
   . exact .inr ⟨blk,off,ha,fzC_repK H hb xs blk off hk⟩
 | .sv b' off n,v,x=>by
   simp only[bz]
   split
   . rename_i e
     subst e
     split
     . rename_i hle
       simp only[Rep] at x ⊢
       obtain ⟨a,cap,h1,h2,h3,h4⟩:=x
       refine ⟨a,cap,h1,h2,h3,by simp,?_⟩
       by_cases hn:n=0
       . left;subst hn;simp
       . right
         obtain ⟨blk,q1,q2⟩:=h4 hn
         refine ⟨blk,off,q2,?_⟩
         have:=(uC H hb q1).drop off
         rw[Nat.zero_add] at this
         exact this.take n
     . simp[Rep]
   . split
     . rename_i hok
       simp only[Rep] at x ⊢
       obtain ⟨a,cap,h1,h2,h3,h4⟩:=x
       exact ⟨a,cap,h1,h2,h3,fun hz=>by obtain ⟨blk,q1,q2⟩:=h4 hz;exact ⟨blk,eF H hb hok q1,q2⟩⟩
     . simp[Rep]
 | .gv b' m s,v,x=>by
   simp only[bz]
   split
   . rename_i e
     subst e
     split
     . rename_i hle
       simp only[Rep] at x ⊢
       obtain ⟨a,cap,h1,h2,h3,h4⟩:=x
       refine ⟨a,cap,h1,h2,h3,by simp,?_⟩
       rcases h4 with ⟨rfl,_⟩ | ⟨blk,q1,q2,q3⟩
       . left;simp
       . right
         exact ⟨blk,0,q2,(uC H hb q1).take _⟩
     . simp[Rep]
   . split
     . rename_i hok
       simp only[Rep] at x ⊢
       obtain ⟨a,cap,h1,h2,h3,h4⟩:=x
       refine ⟨a,cap,h1,h2,h3,?_⟩
       rcases h4 with h4| ⟨blk,q1,q2,q3⟩
       . exact .inl h4
       . exact .inr ⟨blk,eF H hb hok q1,q2,oT H hb hok q3⟩
     . simp[Rep]
 | .mp b',v,x=>by
   simp only[bz]
   split
   . simp[Rep]
   . split
     . rename_i hok
       simp only[Rep] at x ⊢
       obtain ⟨blk,h1,h2⟩:=x
       exact ⟨blk,eF H hb hok h1,h2⟩
     . simp[Rep]
 | .bt b' t n,v,x=>by
   simp only[bz]
   split
   . simp[Rep]
   . split
     . rename_i hok
       simp only[Rep] at x ⊢
       obtain ⟨blk,h1,h2,h3⟩:=x
       exact ⟨blk,eF H hb hok h1,h2,oT H hb hok h3⟩
     . simp[Rep]
 | .bp b' off,v,x=>by
   simp only[bz]
   split
   . rename_i e
     subst e
     simp only[Rep] at x ⊢
     obtain ⟨blk,h1,h2⟩:=x
     refine ⟨blk,off,h2,?_⟩
     have:=(uC H hb h1).drop off
     rwa [Nat.zero_add] at this
   . split
     . rename_i hok
       simp only[Rep] at x ⊢
       obtain ⟨blk,h1,h2⟩:=x
       exact ⟨blk,eF H hb hok h1,h2⟩
     . simp[Rep]
 | .kp xs,v,x=>by
   simp only[bz,Rep] at x ⊢
   obtain ⟨blk,off,h1,h2⟩:=x
   exact ⟨blk,off,h1,fzC_repK H hb xs blk off h2⟩
 | .agg xs,v,x=>by
   simp only[bz,Rep] at x ⊢
   obtain ⟨vs,h1,h2,h3⟩:=x
   exact ⟨vs,h1,fzC_repL H hb xs _ h2,h3⟩
 | .tup xs,v,x=>by
   simp only[bz,Rep] at x ⊢
   obtain ⟨vs,h1,h2⟩:=x
   exact ⟨vs,h1,fzC_repL H hb xs _ h2⟩
 | .fn f xs,v,x=>by
   simp only[bz,Rep] at x ⊢
   obtain ⟨vs,h1,h2⟩:=x
   exact ⟨vs,h1,fzC_repL H hb xs _ h2⟩
theorem fzC_repL (H:WorldOK G h w)(hb:h.at b=some cells):∀ (xs:List C)(vs:List Value),RepL G xs vs→RepL (cZ G w b cells.length) (fzCs (cR h b) b (fzY h b cells) xs) vs
 | [],vs,r=>by simpa[fzCs,RepL] using r
 |x::xs,vs,r=>by
  simp only[fzCs,RepL] at r ⊢
  obtain ⟨v,vs',h1,h2,h3⟩:=r
  exact ⟨v,vs',h1,nZ H hb x v h2,fzC_repL H hb xs vs' h3⟩
theorem fzC_repK (H:WorldOK G h w)(hb:h.at b=some cells):∀ (xs:List C)(blk off:Nat),RepK G blk off xs→RepK (cZ G w b cells.length) blk off (fzCs (cR h b) b (fzY h b cells) xs)
 | [],_,_,_=>by simp[fzCs,RepK]
 |x::xs,blk,off,r=>by
  simp only[fzCs,RepK] at r ⊢
  obtain ⟨⟨u,h1,h2,h3⟩,h4⟩:=r
  exact ⟨⟨u,(sc H _).K _ _ _ h1,h2,nZ H hb x u h3⟩,fzC_repK H hb xs blk (off+1) h4⟩
end
theorem sd {ok:Nat→Bool}{ys:List C}{c:C}{s m:Nat}{xs:List C}(hc:bz ok b ys c= .sl (.own s) m xs):∃zs,c= .sl (.own s) m zs:=by
 cases c with
 |sl r k zs=>simp only[bz] at hc;cases hc;exact ⟨zs,rfl⟩
 |sv b o k=>simp only[bz] at hc;repeat' split at hc
            all_goals cases hc
 |gv b o k=>simp only[bz] at hc;repeat' split at hc
            all_goals cases hc
 |bp b o=>simp only[bz] at hc;repeat' split at hc
          all_goals cases hc
 |bt b t n=>simp only[bz] at hc;repeat' split at hc
            all_goals cases hc
 |mp b=>simp only[bz] at hc;repeat' split at hc
        all_goals cases hc
 |_=>simp only[bz] at hc;cases hc
theorem Jg {ok:Nat→Bool}{ys:List C}{c:C}{u:Value}(h:bz ok b ys c= .val u):c= .val u:=by
 cases c with
 |val v=>simp only[bz] at h;exact h
 |sv b o k=>simp only[bz] at h;repeat' split at h
            all_goals cases h
 |gv b o k=>simp only[bz] at h;repeat' split at h
            all_goals cases h
 |bp b o=>simp only[bz] at h;repeat' split at h
          all_goals cases h
 |bt b t n=>simp only[bz] at h;repeat' split at h
            all_goals cases h
 |mp b=>simp only[bz] at h;repeat' split at h
        all_goals cases h
 |_=>simp only[bz] at h;cases h
theorem Jh {ok:Nat→Bool}{ys:List C}{c:C}{xs:List C}(h:bz ok b ys c= .tup xs):∃zs,c= .tup zs∧xs=fzCs ok b ys zs:=by
 cases c with
 |tup zs=>simp only[bz] at h;cases h;exact ⟨zs,rfl,rfl⟩
 |sv b o k=>simp only[bz] at h;repeat' split at h
            all_goals cases h
 |gv b o k=>simp only[bz] at h;repeat' split at h
            all_goals cases h
 |bp b o=>simp only[bz] at h;repeat' split at h
          all_goals cases h
 |bt b t n=>simp only[bz] at h;repeat' split at h
            all_goals cases h
 |mp b=>simp only[bz] at h;repeat' split at h
        all_goals cases h
 |_=>simp only[bz] at h;cases h
theorem n0 {ok:Nat→Bool}{ys:List C}(hb:b< h.length){j:Nat}{l:List C}(hj:Hp.mp (lw ok b ys h) j=some l):j≠b∧∃l0,h.mp j=some l0∧l=fzCs ok b ys l0:=by
 unfold lw at hj
 obtain ⟨n1,n2⟩:=gX (h:=h.map fun o=>o.map (fzCs ok b ys)) (by simpa using hb) rfl j l hj
 refine ⟨n1,?_⟩
 unfold Hp.mp at n2
 rw[List.getElem?_map] at n2
 cases hq:h[j]? with
 |none=>rw[hq] at n2;cases n2
 |some o=>
  rw[hq] at n2
  cases o with
  |none=>cases n2
  |some c0=>
   obtain ⟨l0,h1,h2⟩:=wc (Fs:=fzCs ok b ys) (iz ok b ys) (fun _ _=>Jg) (fun _ _=>Jh) (cells:=c0) n2
   exact ⟨l0,by unfold Hp.mp;rw[hq];exact h1,h2⟩
theorem BZ (H:WorldOK G h w)(hb:h.at b=some cells):∀ (l:List C)(es:List MapEntry),MRep G l es→MRep (cZ G w b cells.length) (fzCs (cR h b) b (fzY h b cells) l) es
 | [],_,r=>by simpa[MRep,fzCs] using r
 | [_],_,r=>by simp[MRep] at r
 |k::v::l,es,r=>by
  simp only[MRep,fzCs] at r ⊢
  obtain ⟨e,es',h1,h2,h3,h4⟩:=r
  exact ⟨e,es',h1,nZ H hb k _ h2,nZ H hb v _ h3,BZ H hb l es' h4⟩
theorem kZ {ok:Nat→Bool}{ys:List C}(hb:h.at b=some cells){j:Nat}{c':List C}(hj:Hp.at (lw ok b ys h) j=some c'):j≠b∧∃c0,h.at j=some c0∧c'=fzCs ok b ys c0:=by
 have hlen:=eh hb
 unfold lw at hj
 rw[cp (by simpa using hlen)] at hj
 split at hj
 . cases hj
 . rename_i hne
   refine ⟨hne,?_⟩
   have h1:=fI hj
   rw[List.getElem?_map] at h1
   cases hq:h[j]? with
   |none=>rw[hq] at h1;cases h1
   |some o=>
    rw[hq] at h1
    cases o with
    |none=>cases h1
    |some c0=>
     simp only[Option.map_some,Option.some.injEq] at h1
     refine ⟨c0,?_,h1.symm⟩
     have hl:=iF hj
     unfold Hp.at
     rw[hq]
     subst h1
     show bK (some c0) =_
     cases c0 with
     |nil=>rfl
     |cons x l=>
      cases x with
      |tup xs=>simp only[fzCs,bz] at hl;cases hl
      |_=>rfl
theorem OwnRow.fz {k:Nat}{p:bJ}{v:Value}{s m:Nat}(O:OwnRow G w p v s m):OwnRow (cZ G w b k) w p v s m:=by
 rcases O with O| ⟨g,cap,cur,e,a1,a2,a3,a4,a5,a6⟩
 . exact .inl O
 . refine .inr ⟨g,cap,cur,e,a1,a2,a3,a4,fun o ho=>?_,fun b' hb'=>?_⟩
   . simp only[cZ]
     rw[if_neg (fun x=>a6 b x.1)]
     exact a5 o ho
   . simp only[cZ] at hb'
     split at hb'
     . cases hb'
     . exact a6 b' hb'
theorem WorldOK.fz (H:WorldOK G h w)(hb:h.at b=some cells):WorldOK (cZ G w b cells.length) (lw (cR h b) b (fzY h b cells) h) w:=by
 have hlen:=eh hb
 have hμ:∀ {j blk},(cZ G w b cells.length).μ j=some blk→G.μ j=some blk∧j≠b∧G.μ b≠some blk:=fun {j blk} x=>by
  simp only[cZ] at x
  split at x
  . cases x
  . rename_i hne
    refine ⟨x,fun e=>hne (.inl e),fun e=>hne (.inr ⟨blk,e,x⟩)⟩
 refine ⟨fun blk off u hk=>?_,fun j c' hj=>?_,fun j blk hm=>?_,fun j j' c c' blk hj hj' hm hm'=>?_,fun j blk hm=>?_,H.tlt,fun j c' off s m xs blk v hj hc hm hv=>?_,fun j z hz=>?_,fun j l hj=>?_,fun j j' l l' blk x x' y y'=>?_⟩
 . simp only[cZ] at hk
   split at hk
   . exact hk
   . exact H.known blk off u hk
 . obtain ⟨hne,c0,h2,rfl⟩:=kZ hb hj
   have hok:cR h b j=true:=by simp[cR,h2,hne]
   rcases H.box j c0 h2 with ⟨hE,hE2⟩ | ⟨blk,cs,e,q1,q2,q3,q4,q5⟩
   . refine .inl ⟨by rw[hE];rfl,?_⟩
     simp only[cZ]
     split
     . rfl
     . exact hE2
   . have hl: (fzCs (cR h b) b (fzY h b cells) c0).length=c0.length:=by rw[iz];simp
     exact .inr ⟨blk,cs,e,eF H hb hok q1,q2,by rw[hl];exact q3,by rw[hl];exact fzC_repL H hb _ _ q4,q5⟩
 . obtain ⟨h1,h2,h3⟩:=hμ hm
   obtain ⟨⟨c,hc⟩,hl⟩:=H.dom j blk h1
   refine ⟨⟨fzCs (cR h b) b (fzY h b cells) c,?_⟩,hl⟩
   unfold lw
   rw[List.getElem?_set,if_neg (Ne.symm h2),List.getElem?_map,hc];rfl
 . obtain ⟨h1,_,_⟩:=hμ hm
   obtain ⟨h1',_,_⟩:=hμ hm'
   obtain ⟨_,c0,g2,_⟩:=kZ hb hj
   obtain ⟨_,c0',g2',_⟩:=kZ hb hj'
   exact H.inj j j' _ _ blk g2 g2' h1 h1'
 . obtain ⟨h1,h2,h3⟩:=hμ hm
   obtain ⟨s1,s2⟩:=H.sep j blk h1
   refine ⟨fun o=>?_,s2⟩
   simp only[cZ]
   rw[if_neg (fun x=>h3 x.1)]
   exact s1 o
 . obtain ⟨h1,_,_⟩:=hμ hm
   obtain ⟨_,c0,g2,rfl⟩:=kZ hb hj
   rw[iz,List.getElem?_map] at hc
   cases hq:c0[off]? with
   |none=>rw[hq] at hc;cases hc
   |some y=>
    rw[hq] at hc
    simp only[Option.map_some,Option.some.injEq] at hc
    obtain ⟨zs,rfl⟩:=sd hc
    exact (H.own j c0 off s m zs blk v g2 hq h1 hv).fz
 . simp only[cZ] at hz ⊢
   split at hz
   . cases hz
   . rename_i hne
     obtain ⟨blk,cs,e,fr,q1,q2,q3⟩:=H.siz j z hz
     exact ⟨blk,cs,e,fr,by rw[if_neg hne];exact q1,q2,q3⟩
 . obtain ⟨n1,l0,n2,rfl⟩:=n0 hlen hj
   obtain ⟨blk,es,clk,q1,q2,q3⟩:=H.mpo j l0 n2
   have hok:cR h b j=true:=by simp[cR,n2,n1]
   exact ⟨blk,es,clk,eF H hb hok q1,q2,BZ H hb l0 _ q3⟩
 . obtain ⟨n1,l0,n2,rfl⟩:=n0 hlen x
   obtain ⟨n1',l0',n2',rfl⟩:=n0 hlen x'
   exact H.mpi j j' _ _ blk n2 n2' (hμ y).1 (hμ y').1
theorem DS (H:WorldOK G h w)(hb:h.at b=some cells)(hnb:n≤b)(hn:∀j,j< n→((h.at j).isSome|| (h.mp j).isSome) =true∨h[j]? =some none)(k:Nat):FrmN n G w (cZ G w b k) w:=by
 have keep:∀j,j< n→∀blk,G.μ j=some blk→cR h b j=true:=fun j hj blk hm=>by
  rcases hn j hj with h1|h1
  . simp[cR,h1];omega
  . obtain ⟨⟨c,hc⟩,_⟩:=H.dom j blk hm
    rw[h1] at hc;cases hc
 refine ⟨rfl,rfl,rfl,Nat.le_refl _,fun g o u x=>(sc H k).K g o u x,fun j blk hj x=>eF H hb (keep j hj blk x) x,fun j z hj x=>?_,fun g _ ht hm=>⟨rfl,ht,fun j hj=>?_,fun o=>?_⟩⟩
 . obtain ⟨blk,_,_,_,q1,_⟩:=H.siz j z x
   exact oT H hb (keep j hj blk q1) x
 . simp only[cZ] at hj
   split at hj
   . cases hj
   . exact hm j hj
 . simp only[cZ]
   rw[if_neg (fun x=>hm b x.1)]
theorem Tr.fz (hcx:CxOK cx){c:Code}(b:Nat){cells:List C}(hb:st.h.at b=some cells)(hnb:n≤b)(hn:∀j,j< n→((st.h.at j).isSome|| (st.h.mp j).isSome) =true∨st.h[j]? =some none)
 (K:Tr cx n c ⟨fun t=>bz (cR st.h b) b (fzY st.h b cells) (st.env t),lw (cR st.h b) b (fzY st.h b cells) st.h⟩ Q):Tr cx n c st Q:=fun r hr G w a S R hR=>
 K r hr (cZ G w b cells.length) w a ⟨S.defers.same (fun _ h=>h) (fun g h b' hb'=>by
     simp only[cZ] at hb'
     split at hb'
     . cases hb'
     . exact h b' hb'),S.size,S.pre.ok.fz hb,⟨fun t=>nZ S.pre.ok hb _ _ (S.pre.env.1 t),fun t s m xs e=>by
     obtain ⟨ys,hy⟩:=sd e
     exact (S.pre.env.2 t s m ys hy).fz⟩,fun g=>(d6 _ _ (hcx.glo g) (S.pre.glob g)).mono (sc S.pre.ok _)⟩ R
   fun x s G' w' a' q S' F=>hR x s G' w' a' q S' ((DS S.pre.ok hb hnb hn _).transA F)
end
end Go.Sx
namespace Go.Sx
open Go.RowKit
theorem MS (v:Value): (C.val v).asSv= .val v:=rfl
theorem MT {α:Type}(f:α→List C)(r:Rt)(l:List α): (sl f r l).asSv=sl f r l:=rfl
theorem Ty (b o n:Nat): (C.sv b o n).asSv= .sv b o n:=rfl
theorem Tz (b n:Nat)(s:Nat×Nat): (C.gv b n s).asSv= .sv b 0 n:=rfl
theorem TA (b o:Nat): (C.bp b o).asSv= .bp b o:=rfl
theorem TB (xs:List C): (C.kp xs).asSv= .kp xs:=rfl
theorem aaG (b n:Nat)(s:Nat×Nat): (C.gv b n s).noR= .gv b n s:=rfl
theorem MU (b n:Nat)(s:Nat×Nat): (C.gv b n s).cells?=some [.gv b n s]:=rfl
theorem TC (b n:Nat)(s:Nat×Nat)(l:List C):dK (.gv b n s::l) =true:=rfl
theorem MV (cx:Cx)(l:List Nat)(d:Option Nat):nT (cx.grow l) d=pg l d:=by cases d<;>rfl
theorem aaH (cx:Cx)(l:List Nat): (cx.grow l).P=cx.P:=rfl
theorem aaI (cx:Cx)(l:List Nat): (cx.grow l).N=cx.N:=rfl
theorem TE (cx:Cx)(l:List Nat): (cx.grow l).pu=cx.pu:=rfl
theorem FE (P:Program)(t:TypeId)(v:Value)(lo hi mx:Option C):kT P t (.val v) lo hi mx=dg P t (.val v) lo hi mx:=rfl
theorem FF {α:Type}(f:α→List C)(P:Program)(t:TypeId)(r:Rt)(l:List α)(lo hi mx:Option C):kT P t (sl f r l) lo hi mx=dg P t (sl f r l) lo hi mx:=rfl
theorem Ji (P:Program)(t:TypeId)(b o:Nat)(lo hi mx:Option C):kT P t (.bp b o) lo hi mx=dg P t (.bp b o) lo hi mx:=rfl
theorem FG (P:Program)(t:TypeId)(b n:Nat)(s:Nat×Nat)(lo:C)(hi mx:Option C):kT P t (.gv b n s) (some lo) hi mx=dg P t (.sv b 0 n) (some lo) hi mx:=rfl
def sgP (P:Program)(t:Option TD)(b n:Nat)(s:Nat×Nat)(hi:Option C):Option Plan:=match t with
 |some d=>match d.u with
  | .slice e=>match td P e,cA hi n n with
    |some de,some h=>if (de.size,e) =s then some (vp (.gv b h s)) else none
    |_,_=>none
  |_=>none
 |none=>none
theorem Jj (P:Program)(t:TypeId)(b n:Nat)(s:Nat×Nat)(hi:Option C):kT P t (.gv b n s) none hi none=sgP P (td P t) b n s hi:=rfl
def sgQ (e:Nat)(t:Option TD)(b:Nat)(s:Nat×Nat)(h:Option Nat):Option Plan:=match t,h with
 |some de,some h=>if (de.size,e) =s then some (vp (.gv b h s)) else none
 |_,_=>none
theorem aaJ (P:Program)(e a1 b1:Nat)(z1:List Value)(b n:Nat)(s:Nat×Nat)(hi:Option C):sgP P (some ⟨.slice e,a1,b1,z1⟩) b n s hi=sgQ e (td P e) b s (cA hi n n):=rfl
theorem MW (e:Nat)(u:TypeDesc)(s y:Nat)(z:List Value)(b h:Nat):sgQ e (some ⟨u,s,y,z⟩) b (s,e) (some h) =some (vp (.gv b h (s,e))):=if_pos rfl
def xg (e:Nat)(de:Option TD)(x y:C):Option Plan:=match de with
 |none=>none
 |some de=>
  let start:Option (Nat×Option (Nat×Nat)):=match x with
   | .val (.slice none 0 0) =>some (0,none)
   | .sl .full 0 _=>some (0,none)
   | .gv b n s=>if s= (de.size,e) then some (n,some (b,n)) else none
   |_=>none
  match start with
  |none=>none
  |some (n,b) =>
   let fin (m:Nat) (ys:List C):Bool:=decide (ys.length=m*de.size∧0< de.size∧de.zero.length=de.size∧(n+m)*de.bytes≤140737488355328∧n+m≤9223372036854775807∧de.zero.all (·.oneCell') =true)
   match y with
   | .sv b' off m=>some (.ap b (de.size,e) m fun h=>(h.at b').bind fun cells=>if off+m*de.size≤cells.length∧fin m (((cells.drop off).take (m*de.size)).map C.noR) =true then some (((cells.drop off).take (m*de.size)).map C.noR) else none)
   |y=>match jU y with
    |some (m,ys) =>if fin m ys=true then some (.ap b (de.size,e) m fun _=>some ys) else none
    |none=>none
def gwP (P:Program)(d d2:Option TD)(x y:C):Option Plan:=match d,d2 with
 |some d,some d2=>
  if im d2.u=false then none else
  match d.u with
  | .slice e=>xg e (td P e) x y
  |_=>none
 |_,_=>none
theorem ae9 (P:Program)(t t2:TypeId)(x y:C):io P t t2 x y=gwP P (td P t) (td P t2) x y:=rfl
theorem afa (P:Program)(e e2 a1 b1 a2 b2:Nat)(z1 z2:List Value)(x y:C):gwP P (some ⟨.slice e,a1,b1,z1⟩) (some ⟨.slice e2,a2,b2,z2⟩) x y=xg e (td P e) x y:=rfl
section
variable {α:Type} (f:α→List C) {s:Nat} [hf:Cel f s] (e:Nat) (u:TypeDesc) (y:Nat) (z:List Value)
theorem Jk (n:Nat)(l':List α)(hz:z.length=s)(hz1:z.all (·.oneCell') =true)(h: (n+l'.length)*y≤140737488355328∧n+l'.length≤9223372036854775807):
 decide ((cl f l').length=l'.length*s∧0< s∧z.length=s∧(n+l'.length)*y≤140737488355328∧n+l'.length≤9223372036854775807∧z.all (·.oneCell') =true) =true:=by
 simp only[decide_eq_true_eq]
 exact ⟨bm (f:=f) l',hf.pos,hz,h.1,h.2,hz1⟩
theorem aaK (b n:Nat)(r:Rt)(l':List α)(hz:z.length=s)(hz1:z.all (·.oneCell') =true)(h: (n+l'.length)*y≤140737488355328∧n+l'.length≤9223372036854775807):
 xg e (some ⟨u,s,y,z⟩) (.gv b n (s,e)) (sl f r l') =some (.ap (some (b,n)) (s,e) l'.length fun _=>some (cl f l')):=by
 have e:=Jk f y z n l' hz hz1 h
 simp only[xg,if_true,sl,jU,C.sl?]
 rw[if_pos e]
theorem MX (β:Type)(g:β→List C)(r:Rt)(l':List α)(hz:z.length=s)(hz1:z.all (·.oneCell') =true)(h:l'.length*y≤140737488355328∧l'.length≤9223372036854775807):
 xg e (some ⟨u,s,y,z⟩) (sl g .full []) (sl f r l') =some (.ap none (s,e) l'.length fun _=>some (cl f l')):=by
 have e:=Jk f y z 0 l' hz hz1 (by simpa using h)
 simp only[xg,sl,jU,C.sl?,List.length_nil]
 rw[if_pos e]
end
section
variable (cx:Cx) (apps:List Nat) (dsts:List (Option Nat)) (l:List Oper) (id':Nat) (d:Option Nat) (e:List (Nat×C)) (h:Hp) (fs:List FP) (K:List FP→St→Prop)
def nR:List C→List C:=List.map C.noR
def oU (b n:Nat)(s:Nat×Nat)(m:Nat)(cs:List C)(o:Option (List C)):Prop:=match o with
 |none=>False
 |some cells=>
  if (n+m)*s.1≤cells.length∧(n≠0∨m=0) then run cx apps dsts l id' (fD d (.gv b (n+m) s) e) (h.set b (some (splice cells (n*s.1) (cs.map C.noR)))) ((4,0)::fs) K
  else if n*s.1=cells.length then run cx apps dsts l id' (fD d (.gv h.length (n+m) s) e) (h.set b (some eb)++[some ((cells++cs).map C.noR)]) ((4,0)::fs) K
  else if n=0 then run cx apps dsts l id' (fD d (.gv h.length (n+m) s) e) (h.set b (some eb)++[some (cs.map C.noR)]) ((4,0)::fs) K else False
theorem TF (z:FP)(s:Nat×Nat)(m:Nat)(cs:List C):Dv cx apps dsts l id' d e h fs K z none s m (some cs) =run cx apps dsts l id' (fD d (.gv h.length m s) e) (h++[some (nR cs)]) (z::fs) K:=rfl
theorem TG (z:FP)(b n:Nat)(s:Nat×Nat)(m:Nat)(cs:List C):Dv cx apps dsts l id' d e h fs K z (some (b,n)) s m (some cs) =oU cx apps dsts l id' d e h fs K b n s m cs (h.at b):=rfl
theorem TH {α:Type}(f:α→List C){s:Nat}[hf:Cel f s](e' b n m:Nat)(xs ys:List α)(hn:n=xs.length)(hm:m=ys.length∧0< m):
 oU cx apps dsts l id' d e h fs K b n (s,e') m (cl f ys) (some (cl f xs)) =run cx apps dsts l id' (fD d (.gv h.length (xs++ys).length (s,e')) e) (h.set b (some eb)++[some (cl f (xs++ys))]) ((4,0)::fs) K:=by
 obtain ⟨hm1,hm2⟩:=hm
 subst hn hm1
 have hp:=hf.pos
 have hl:=bm (f:=f) xs
 have hml:s≤ys.length*s:=by
  have:=Nat.mul_le_mul_right s (show 1≤ys.length by omega)
  omega
 unfold oU
 simp only[]
 rw[if_neg (by rw[hl,Nat.add_mul];omega),if_pos hl.symm,←iq,fu,List.length_append]
end
@[congr] theorem af0 {cx:Cx} {apps:List Nat} {dsts:List (Option Nat)} {l:List Oper} {id':Nat} {d:Option Nat} {e:List (Nat×C)} {h:Hp} {fs:List FP} {K:List FP→St→Prop} {z:FP} {b:Option (Nat×Nat)} {s:Nat×Nat} {m:Nat} {p p':Option (List C)} (hp:p=p'):
   Dv cx apps dsts l id' d e h fs K z b s m p=Dv cx apps dsts l id' d e h fs K z b s m p':=by rw[hp]
@[congr] theorem afb {cx:Cx} {apps:List Nat} {dsts:List (Option Nat)} {l:List Oper} {id':Nat} {d:Option Nat} {e:List (Nat×C)} {h:Hp} {fs:List FP} {K:List FP→St→Prop} {b n:Nat} {s:Nat×Nat} {m:Nat} {cs:List C} {p p':Option (List C)} (hp:p=p'):
   oU cx apps dsts l id' d e h fs K b n s m cs p=oU cx apps dsts l id' d e h fs K b n s m cs p':=by rw[hp]
theorem afc {α:Type}(f:α→List C){s:Nat}[hf:Cel f s](l:List α):nR (cl f l) =cl f l:=fu l
theorem afd (p q:Option Plan):wV true p q=p:=rfl
theorem afe (p q:Option Plan):wV false p q=q:=rfl
theorem gZ (k b:Nat):dP [] k b=none:=rfl
theorem fP (x:Nat)(r:List Nat)(k b:Nat):dP (x::r) k b=if b=x then some k else dP r (k+1) b:=rfl
def MY (n:Nat)(s:Nat×Nat):Option Nat→C
 |some j=> .gv j n s
 |none=> .top
def MZ (o n:Nat):Option Nat→C
 |some j=> .sv j o n
 |none=> .top
def Na (o:Nat):Option Nat→C
 |some j=> .bp j o
 |none=> .top
theorem jd (ρ:List Nat)(b n:Nat)(s:Nat×Nat):bA ρ (.gv b n s) =MY n s (dP ρ 0 b):=by simp only[bA];cases dP ρ 0 b<;>rfl
theorem je (ρ:List Nat)(b o n:Nat):bA ρ (.sv b o n) =MZ o n (dP ρ 0 b):=by simp only[bA];cases dP ρ 0 b<;>rfl
theorem jf (ρ:List Nat)(b o:Nat):bA ρ (.bp b o) =Na o (dP ρ 0 b):=by simp only[bA];cases dP ρ 0 b<;>rfl
theorem eT (n:Nat)(s:Nat×Nat)(j:Nat):MY n s (some j) = .gv j n s:=rfl
theorem eU (n:Nat)(s:Nat×Nat):MY n s none= .top:=rfl
theorem eV (o n j:Nat):MZ o n (some j) = .sv j o n:=rfl
theorem eW (o n:Nat):MZ o n none= .top:=rfl
theorem eX (o j:Nat):Na o (some j) = .bp j o:=rfl
theorem eZ (o:Nat):Na o none= .top:=rfl
theorem g4 (ρ:List Nat)(v:Value):bA ρ (.val v) = .val v:=by simp only[bA]
theorem gj (ρ:List Nat):bA ρ .top= .top:=by simp only[bA]
theorem g5 (ρ:List Nat)(xs:List C):bA ρ (.agg xs) = .agg (mvCs ρ xs):=by simp only[bA]
theorem jg (ρ:List Nat)(xs:List C):bA ρ (.kp xs) = .kp (mvCs ρ xs):=by simp only[bA]
theorem jh (ρ:List Nat)(f:Nat)(xs:List C):bA ρ (.fn f xs) = .fn f (mvCs ρ xs):=by simp only[bA]
theorem fS (ρ:List Nat):mvCs ρ [] = []:=by simp only[mvCs]
theorem e7 (ρ:List Nat)(c:C)(l:List C):mvCs ρ (c::l) =bA ρ c::mvCs ρ l:=by simp only[mvCs]
mutual
theorem Nb (ρ:List Nat):∀c:C,flat c=true→bA ρ c=c
 | .val _,_=>by simp only[bA]
 | .agg xs,h=>by simp only[flat] at h;simp only[bA,mvCs_flat ρ xs h]
 | .tup xs,h=>by simp only[flat] at h;simp only[bA,mvCs_flat ρ xs h]
 | .top,h=>by simp[flat] at h
 | .sl _ _ _,h=>by simp[flat] at h
 | .sv _ _ _,h=>by simp[flat] at h
 | .gv _ _ _,h=>by simp[flat] at h
 | .bp _ _,h=>by simp[flat] at h
 | .kp _,h=>by simp[flat] at h
 | .fn _ _,h=>by simp[flat] at h
theorem mvCs_flat (ρ:List Nat):∀l:List C,flats l=true→mvCs ρ l=l
 | [],_=>by simp only[mvCs]
 |x::xs,h=>by simp only[flats,Bool.and_eq_true] at h;simp only[mvCs,Nb ρ x h.1,mvCs_flat ρ xs h.2]
end
theorem gm {α:Type}(f:α→List C)[h:Fla f](ρ:List Nat)(l:List α):mvCs ρ (cl f l) =cl f l:=mvCs_flat ρ _ (gH f l)
theorem ji {α:Type}(f:α→List C)[h:Fla f](ρ:List Nat)(a:α):mvCs ρ (f a) =f a:=mvCs_flat ρ _ (h.flat a)
theorem gS {α:Type}(f:α→List C)[h:Fla f](ρ:List Nat)(r:Rt)(l:List α):bA ρ (sl f r l) =sl f r l:=by
 unfold sl;simp only[bA,gm]
def hget:Hp→Nat→Option (List C)
 | [],_=>none
 |o::_,0=>o
 |_::h,k+1=>hget h k
theorem DT:∀ (h:Hp)(k:Nat),(h[k]?).getD none=hget h k
 | [],_=>rfl
 |o::_,0=>rfl
 |_::h,k+1=>by rw[List.getElem?_cons_succ];exact DT h k
theorem jj (o:Option (List C))(h:Hp):hget (o::h) 0=o:=rfl
theorem jk (o:Option (List C))(h:Hp)(k:Nat):hget (o::h) (k+1) =hget h k:=rfl
def we (ρ:List Nat)(h:Hp):List Nat→Hp
 | [] =>[]
 |x::r=>(hget h x).map (mvCs ρ)::we ρ h r
theorem jl (ρ:List Nat)(h:Hp):jD ρ h=we ρ h ρ:=by
 have key:∀r:List Nat,(r.map fun b=>((h[b]?).getD none).map (mvCs ρ)) =we ρ h r:=by
  intro r
  induction r with
  |nil=>rfl
  |cons x r ih=>rw[List.map_cons,ih,DT];rfl
 exact key ρ
theorem fT (ρ:List Nat)(h:Hp):we ρ h [] = []:=rfl
theorem e8 (ρ:List Nat)(h:Hp)(x:Nat)(r:List Nat):we ρ h (x::r) = (hget h x).map (mvCs ρ)::we ρ h r:=rfl
def jY (g:C→C):List (Nat×C)→List (Nat×C)
 | [] =>[]
 | (k,c)::l=>(k,g c)::jY g l
theorem mF (g:C→C):jY g [] = []:=rfl
theorem la (g:C→C)(k:Nat)(c:C)(l:List (Nat×C)):jY g ((k,c)::l) = (k,g c)::jY g l:=rfl
theorem uD (g:C→C)(hg:g .top= .top):∀l:List (Nat×C),(fun t=>g (A l t)) =A (jY g l)
 | [] =>by funext t;exact hg
 | (k,c)::l=>by
   funext t
   simp only[A,jY]
   split
   . rfl
   . exact congrFun (uD g hg l) t
theorem Jl {cx:Cx}{n:Nat}{Q:Ex→St→Prop}{e:List (Nat×C)}{h:Hp}(hcx:CxOK cx){c:Code}(b:Nat)(cells:List C)(hb:h.at b=some cells)(hnb:n≤b)(hn:∀j,j< n→((h.at j).isSome|| (h.mp j).isSome) =true∨h[j]? =some none)
 (K:Tr cx n c ⟨A (jY (bz (cR h b) b (fzY h b cells)) e),lw (cR h b) b (fzY h b cells) h⟩ Q):Tr cx n c ⟨A e,h⟩ Q:=by
 refine Tr.fz hcx b hb hnb hn ?_
 rw[uD _ (by simp only[bz])]
 exact K
theorem Jm {cx:Cx}{n:Nat}{Q:Ex→St→Prop}{e:List (Nat×C)}{h:Hp}(hcx:CxOK cx){c:Code}(ρ:List Nat)(hρ:tk n ρ)(K:Tr cx n c ⟨A (jY (bA ρ) e),jD ρ h⟩ Q):Tr cx n c ⟨A e,h⟩ Q:=by
 refine Tr.mv hcx ρ hρ ?_
 rw[uD _ (gj ρ)]
 exact K
theorem n4 (ok:Nat→Bool)(b:Nat)(ys:List C)(v:Value):bz ok b ys (.val v) = .val v:=by simp only[bz]
theorem se (ok:Nat→Bool)(b:Nat)(ys:List C):bz ok b ys .top= .top:=by simp only[bz]
theorem sf (ok:Nat→Bool)(b:Nat)(ys xs:List C):bz ok b ys (.agg xs) = .agg (fzCs ok b ys xs):=by simp only[bz]
theorem sg (ok:Nat→Bool)(b:Nat)(ys xs:List C):bz ok b ys (.tup xs) = .tup (fzCs ok b ys xs):=by simp only[bz]
theorem uE (ok:Nat→Bool)(b:Nat)(ys xs:List C):bz ok b ys (.kp xs) = .kp (fzCs ok b ys xs):=by simp only[bz]
theorem uF (ok:Nat→Bool)(b:Nat)(ys:List C)(f:Nat)(xs:List C):bz ok b ys (.fn f xs) = .fn f (fzCs ok b ys xs):=by simp only[bz]
theorem oV (ok:Nat→Bool)(b:Nat)(ys:List C):fzCs ok b ys [] = []:=by simp only[fzCs]
theorem m5 (ok:Nat→Bool)(b:Nat)(ys:List C)(x:C)(xs:List C):fzCs ok b ys (x::xs) =bz ok b ys x::fzCs ok b ys xs:=by simp only[fzCs]
mutual
theorem Nc (ok:Nat→Bool)(b:Nat)(ys:List C):∀c:C,flat c=true→bz ok b ys c=c
 | .val _,_=>by simp only[bz]
 | .agg xs,h=>by simp only[flat] at h;simp only[bz,fzCs_flat ok b ys xs h]
 | .tup xs,h=>by simp only[flat] at h;simp only[bz,fzCs_flat ok b ys xs h]
 | .top,h=>by simp[flat] at h
 | .sl _ _ _,h=>by simp[flat] at h
 | .sv _ _ _,h=>by simp[flat] at h
 | .gv _ _ _,h=>by simp[flat] at h
 | .bp _ _,h=>by simp[flat] at h
 | .kp _,h=>by simp[flat] at h
 | .fn _ _,h=>by simp[flat] at h
theorem fzCs_flat (ok:Nat→Bool)(b:Nat)(ys:List C):∀l:List C,flats l=true→fzCs ok b ys l=l
 | [],_=>by simp only[fzCs]
 |x::xs,h=>by simp only[flats,Bool.and_eq_true] at h;simp only[fzCs,Nc ok b ys x h.1,fzCs_flat ok b ys xs h.2]
end
mutual
theorem Nd (ok:Nat→Bool):∀c:C,flat c=true→dy ok c=c
 | .val _,_=>by simp only[dy]
 | .agg xs,h=>by simp only[flat] at h;simp only[dy,scrs_flat ok xs h]
 | .tup xs,h=>by simp only[flat] at h;simp only[dy,scrs_flat ok xs h]
 | .top,h=>by simp[flat] at h
 | .sl _ _ _,h=>by simp[flat] at h
 | .sv _ _ _,h=>by simp[flat] at h
 | .gv _ _ _,h=>by simp[flat] at h
 | .bp _ _,h=>by simp[flat] at h
 | .kp _,h=>by simp[flat] at h
 | .fn _ _,h=>by simp[flat] at h
theorem scrs_flat (ok:Nat→Bool):∀l:List C,flats l=true→scrs ok l=l
 | [],_=>by simp only[scrs]
 |x::xs,h=>by simp only[flats,Bool.and_eq_true] at h;simp only[scrs,Nd ok x h.1,scrs_flat ok xs h.2]
end
theorem n5 {α:Type}(f:α→List C)[h:Fla f](ok:Nat→Bool)(b:Nat)(ys:List C)(l:List α):fzCs ok b ys (cl f l) =cl f l:=fzCs_flat ok b ys _ (gH f l)
theorem pY {α:Type}(f:α→List C)[h:Fla f](ok:Nat→Bool)(b:Nat)(ys:List C)(r:Rt)(l:List α):bz ok b ys (sl f r l) =sl f r l:=by
 unfold sl;simp only[bz,n5]
theorem Jn {α:Type}(f:α→List C){s:Nat}[hc:Cel f s][h:Fla f](hp:Hp)(b:Nat)(l:List α):fzY hp b (cl f l) =cl f l:=by
 unfold fzY;rw[scrs_flat _ _ (gH f l),fu]
def jZ (ys:List C)(n:Nat)(s:Nat×Nat):C:=if n*s.1≤ys.length then .sl .no n (ys.take (n*s.1)) else .top
theorem uG (ok:Nat→Bool)(b:Nat)(ys:List C)(b' n:Nat)(s:Nat×Nat):bz ok b ys (.gv b' n s) =if b'=b then jZ ys n s else if ok b'=true then .gv b' n s else .top:=by simp only[bz,jZ]
theorem jF {α:Type}(f:α→List C){s:Nat}[hc:Cel f s](e:Nat)(l:List α)(n:Nat)(h:n=l.length):jZ (cl f l) n (s,e) =sl f .no l:=by
 subst h
 have hl:=bm (f:=f) l
 unfold jZ
 simp only[]
 rw[if_pos (by omega),List.take_of_length_le (by omega)];rfl
theorem pZ (h:Hp)(b b':Nat):cR h b b'= (((h.at b').isSome|| (h.mp b').isSome) && b' !=b):=rfl
attribute [go_sem] MS MT Ty Tz TA TB aaG MU TC MV aaH aaI TE FE FF Ji FG Jj aaJ MW ae9 afa aaK MX Zj TF TG TH afc afd afe Im Lq R4 Lr R5 Zo th
theorem bf {cx:Cx}{n:Nat}{Q:Ex→St→Prop}{e:List (Nat×C)}{h:Hp}{t:Nat}{x y:Code}(ht:A e t= .val (.bool true))(H:Tr cx n x ⟨A e,h⟩ Q):Tr cx n (.cond (.tmp t) x y) ⟨A e,h⟩ Q:=
 Tr.condG fun KT KF hT hF=>by rw[kR,ht,lB];exact .pos rfl (hT H)
theorem bc {cx:Cx}{n:Nat}{Q:Ex→St→Prop}{e:List (Nat×C)}{h:Hp}{t:Nat}{x y:Code}(ht:A e t= .val (.bool false))(H:Tr cx n y ⟨A e,h⟩ Q):Tr cx n (.cond (.tmp t) x y) ⟨A e,h⟩ Q:=
 Tr.condG fun KT KF hT hF=>by rw[kR,ht,lB];exact .neg rfl (hF H)
theorem aq {cx:Cx}{n:Nat}{Q:Ex→St→Prop}{e:List (Nat×C)}{h:Hp}{t:Nat}{x y:Code}{p:Prop}{d:Decidable p}(ht:A e t= .val (.bool (@decide p d)))(H1:p→Tr cx n x ⟨A e,h⟩ Q)(H2:¬p→Tr cx n y ⟨A e,h⟩ Q):Tr cx n (.cond (.tmp t) x y) ⟨A e,h⟩ Q:=
 Tr.condG fun KT KF hT hF=>by rw[kR,ht,lB];exact .dec (fun q=>hT (H1 q)) (fun q=>hF (H2 q))
theorem lA {α:Type}(xs ys:List α): (xs++ys).length=xs.length+ys.length:=List.length_append
theorem lD {α:Type}(n:Nat)(xs:List α): (xs.drop n).length=xs.length - n:=List.length_drop
theorem lT {α:Type}(n:Nat)(xs:List α): (xs.take n).length=min n xs.length:=List.length_take
end Go.Sx
namespace Go.Sx
open Go.RowKit
def aja (b:Bool)(c:C)(h:Hp):Option (C×Hp):=if b then some (c,h) else none
def aaL (b:Bool)(o:Option C)(h:Hp):Option (C×Hp):=if b then (match o with
 |some c=>aja (flat c) c h
 |none=>none) else none
@[congr] theorem aff {b b':Bool} {o o':Option C} {h:Hp} (hb:b=b') (ho:b'=true→o=o'):aaL b o h=aaL b' o' h:=by
  subst hb
  cases b with
  |false=>rfl
  |true=>rw[ho rfl]
theorem Jo {P:Program}{α:Type}(f:α→List C)(t:TypeId)(b o:Nat)(r:Rt)(l:List α)(k:Option Nat):cH P t (.bp b o) (sl f r l) k=P4 (td P t) b o (sl f r l) k:=BI P t b o r _ _ k
theorem Nf {P:Program}(t:TypeId)(b o b' n:Nat)(s:Nat×Nat)(k:Option Nat):cH P t (.bp b o) (.gv b' n s) k=uv (td P t) b o (some [.gv b' n s]):=by
 unfold cH uv;cases td P t<;>rfl
attribute [go_sem] Jo Nf Bool.and_false Bool.false_and
end Go.Sx
namespace Go.Sx
open Go.RowKit
end Go.Sx
namespace Go.Sx
open Go.RowKit
end Go.Sx
