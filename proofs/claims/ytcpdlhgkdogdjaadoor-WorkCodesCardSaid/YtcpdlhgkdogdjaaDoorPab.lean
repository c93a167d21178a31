/-
   And what follows.
-/
import Derived.Test.YtcpdlhgkdogdjaaDoorPaa
set_option linter.unusedSimpArgs false
set_option linter.unusedVariables false
namespace Go.Sx
open Go.RowKit
theorem aQ {P:Program}{t:TypeId}{d:TD}(h:td P t=some d):P.underlying t=some d.u∧∃i z,P.info? t=some i∧i.size=d.size∧i.bytes=d.bytes∧i.zero=some z∧z.cells.toList=d.zero:=by
 unfold td at h;split at h
 . rename_i u i hu hi
   split at h
   . rename_i z hz
     simp only[Option.some.injEq] at h;subst h;exact ⟨hu,i,z,hi,rfl,rfl,hz,rfl⟩
   . cases h
 . cases h
theorem bS {P:Program}{t:TypeId}{d:TD}(h:td P t=some d)(w:World): (sizeOf t).run P w= .ok d.size w:=by
 obtain ⟨_,i,z,hi,hs,_⟩:=aQ h;simp[sizeOf,typeInfo,hi,hs]
theorem aZ {P:Program}{t:TypeId}{d:TD}(h:td P t=some d)(w:World): (underlying t).run P w= .ok d.u w:=run_underlying (aQ h).1 w
structure Out (G:Gh) (w:World) (st':St) (f:Nat→Value) (d:bB) (c:C) (v:Value) (G':Gh) (w':World):Prop where
 rep:Rep G' c v
 own:∀s n xs,c= .sl (.own s) n xs→OwnRow G' w' d v s n
 ok:WorldOK G' st'.h w'
 env:gD G' w' st'.env f
 frm:Frm G w G' w'
def av (a:Act)(t:Nat):Value:=a.tmps.getD t undef
def wF (r:Option Nat):Fence:= { Fence.wide with round:=r }
def OpOK (P:Program)(o:Oper)(a:Act)(G:Gh)(w:World)(st':St)(d:bB)(c:C):Prop:=
 ∀ (r:Option Nat)(K:Act→World→Prop)(Q:Exit→Act→World→Prop),(∀v G' w',Out G w st' (av a) d c v G' w'→K (a.put o.dst v) w')→o.wpIn (wF r) 0 P a w K Q
theorem o8 {o:Oper}{a:Act}{P:Program}{w w':World}{x:Next}(hx:∀d,x≠ .defer d)(hrun: (execOp a.eval o).run P w= .ok x w')(r:Option Nat): (o.semAt r a.eval).run P w= .ok x w':=by
 rw[Oper.semAt_eq r _ _ ?_,hrun];intro c e;unfold execOp at hrun;rw[e] at hrun;simp only[Sem.run_bind] at hrun
 cases hq:Sem.run P (resolve a.eval c o.type) w with
 |ok d w1=>
  rw[hq] at hrun;simp only[Result.andThen_ok,Sem.run_pure,Result.ok.injEq] at hrun;exact hx _ hrun.1.symm
 |halt h w1=>
  rw[hq] at hrun;cases hrun
structure Pre (cx:Cx) (G:Gh) (w:World) (st:St) (a:Act):Prop where
 ok:WorldOK G st.h w
 env:gD G w st.env (av a)
 glob:∀g,Rep G (cx.gl g) (.pointer (some ⟨g,0,none⟩))
section
variable {cx:Cx} {G:Gh} {w:World} {st:St} {a:Act} {o:Oper}
theorem Pre.ev (H:Pre cx G w st a)(x:Operand):Rep G (cx.ev st.env x) (a.eval x):=by
 cases x with
 |tmp t=>exact H.env.1 t
 |const v=>simp[Cx.ev,Act.eval,Rep]
 |global g=>exact (H.glob g).noR
 |func f=>simp only[Cx.ev,Act.eval,Rep];exact ⟨#[],rfl,by simp[RepL]⟩
theorem Pre.evn (H:Pre cx G w st a)(x:Operand):Rep G (cx.evn st.env x) (a.eval x):=(H.ev x).noR
theorem bO {v:Value}{w':World}{st':St}{d:bB}{c:C}(hrun: (execOp a.eval o).run cx.P w= .ok (.value v) w')(h:∃G',Out G w st' (av a) d c v G' w'):
 OpOK cx.P o a G w st' d c:=by
 intro r K Q hK;refine ⟨fun _ _=>trivial,?_⟩;rw[show (wF r).round=r from rfl,o8 (fun d e=>by cases e) hrun];obtain ⟨G',hG⟩:=h;exact hK v G' w' hG
theorem iq {w':World}{st':St}{d:bB}{c:C}(hrun: (execOp a.eval o).run cx.P w= .ok .skip w')(h:∃G',Out G w st' (av a) d c undef G' w'):
 OpOK cx.P o a G w st' d c:=by
 intro r K Q hK;refine ⟨fun _ _=>trivial,?_⟩;rw[show (wF r).round=r from rfl,o8 (fun d e=>by cases e) hrun];obtain ⟨G',hG⟩:=h;exact hK undef G' w' hG
def C.noOwn:C→Prop
 | .sl (.own _) _ _=>False
 |_=>True
theorem cQ (c:C):c.noR.noOwn:=by
 unfold C.noR;split
 . simp[C.noOwn]
 . rename_i h
   cases c with
   |sl r n xs=>cases r with
    |own s=>exact absurd rfl (h s n xs)
    |no=>trivial
    |full=>trivial
   |_=>trivial
theorem OpOK.pure (H:Pre cx G w st a){v:Value}{d:bB}{c:C}(hrun: (execOp a.eval o).run cx.P w= .ok (.value v) w)(hr:Rep G c v)(hn:c.noOwn):
 OpOK cx.P o a G w st d c:=
 bO hrun ⟨G,hr,fun s n xs e=>by rw[e] at hn;exact hn.elim,H.ok,H.env,Frm.refl G w⟩
theorem BK (H:Pre cx G w st a){v:Value}{d:bB}{c:C}{G':Gh}{w':World}(hrun: (execOp a.eval o).run cx.P w= .ok (.value v) w')(E:Ext G w G' w')(hok:WorldOK G' st.h w')
 (hr:Rep G' c v) (hn:∀s n xs,c= .sl (.own s) n xs→OwnRow G' w' d v s n):
 OpOK cx.P o a G w st d c:=
 bO hrun ⟨G',hr,hn,hok,E.env H.ok H.env,E.frm H.ok⟩
theorem xz (H:WorldOK G st.h w){g p:Nat}{q:bB}(hg:G.T g=some (0,p,0)):WorldOK (co G g (some q)) st.h w:=by
 have hlt:=H.tlt g _ hg;have le:G.Le (co G g (some q)):=⟨fun _ _ _ x=>x,fun _ _ x=>x,fun _ _ x=>x⟩;refine ⟨H.known,?_,H.dom,H.inj,?_,?_,?_,H.siz,H.mpoT (fun _ _ x=>x) (fun _ _ _ x=>x) le,H.mpi⟩
 . intro b cells hb
   rcases H.box b cells hb with hE| ⟨blk,cs,e,h1,h2,h0,h3,h4⟩
   . exact .inl hE
   . exact .inr ⟨blk,cs,e,h1,h2,h0,h3.mono le,h4⟩
 . intro b blk hb
   obtain ⟨h1,h2⟩:=H.sep b blk hb;refine ⟨h1,?_⟩;simp only[co];split
   . rename_i e;subst e;rw[hg] at h2;cases h2
   . exact h2
 . intro k r hk
   simp only[co] at hk;split at hk
   . subst_vars;exact hlt
   . exact H.tlt k r hk
 . intro b cells off s n xs blk v hb hc hm hv
   rcases H.own b cells off s n xs blk v hb hc hm hv with O| ⟨k,cap,cur,e,a1,a2,a3,a4,a5,a6⟩
   . exact .inl O
   . have hne:k≠g:=fun e=>by rw[e,hg] at a2;cases a2
     exact .inr ⟨k,cap,cur,e,a1,by simp only[co];rw[if_neg hne];exact a2,a3,a4,a5,a6⟩
theorem qb {g:Nat}{p:bB}{q:bB}(hg:G.T g=some p):Frm G w (co G g (some q)) w:=
 ⟨rfl,rfl,rfl,Nat.le_refl _,⟨fun _ _ _ x=>x,fun _ _ x=>x,fun _ _ x=>x⟩,fun k _ ht hm=>⟨rfl,by simp only[co];rw[if_neg (fun e=>by rw[e,hg] at ht;cases ht)];exact ht,hm,fun _=>rfl⟩⟩
theorem kY {f:Nat→Value}(H:gD G w st.env f)(k:Option Nat)(t:Nat):Rep G (br k st.env t) (f t):=by
 cases k with
 |none=>exact H.1 t
 |some p=>
  simp only[br];split
  . rename_i e;subst e;exact (H.1 t).noR
  . exact H.1 t
theorem gR {c:C}{s n:Nat}{xs:List C}(h:c.noR= .sl (.own s) n xs):False:=by
 have:=cQ c;rw[h] at this;exact this
theorem jD {k:Option Nat}{t s n:Nat}{xs:List C}{env:Nat→C}(h:br k env t= .sl (.own s) n xs):env t= .sl (.own s) n xs∧k≠some t:=by
 cases k with
 |none=>exact ⟨h,by simp⟩
 |some p=>
  simp only[br] at h;split at h
  . exact (gR h).elim
  . rename_i e;exact ⟨h,fun e'=>e (by simpa using e'.symm)⟩
theorem OpOK.move (H:Pre cx G w st a){d:bB}{c:C}{x:Operand}(hx:c=cx.ev st.env x)(hrun: (execOp a.eval o).run cx.P w= .ok (.value (a.eval x)) w):
 OpOK cx.P o a G w ⟨br (dO x) st.env,st.h⟩ d c:=by
 have hrep:Rep G c (a.eval x):=hx▸H.ev x;have plain: (∀s n xs,c= .sl (.own s) n xs→OwnRow G w d (a.eval x) s n)→OpOK cx.P o a G w ⟨br (dO x) st.env,st.h⟩ d c:=fun hO=>
  bO hrun ⟨G,hrep,hO,H.ok,⟨fun t=>kY H.env _ t,fun t s n xs e=>H.env.2 t s n xs (jD e).1⟩,Frm.refl G w⟩
 by_cases hno:c.noOwn
 . exact plain fun s n xs e=>by rw[e] at hno;exact hno.elim
 . obtain ⟨p,hp⟩:∃p,x= .tmp p:=by
    cases x with
    |tmp p=>exact ⟨p,rfl⟩
    |const v=>exact absurd (hx▸trivial) hno
    |global g=>exact absurd (hx▸cQ _) hno
    |func f=>exact absurd (hx▸trivial) hno
   subst hp;have hce:c=st.env p:=hx;obtain ⟨s,n,xs,hs⟩:∃s n xs,c= .sl (.own s) n xs:=by
    cases c with
    |sl r n xs=>cases r with
     |own s=>exact ⟨_,_,_,rfl⟩
     |no=>exact absurd trivial hno
     |full=>exact absurd trivial hno
    |_=>exact absurd trivial hno
   rcases H.env.2 p s n xs (hce▸hs) with O| ⟨g,cap,cur,e,a1,a2,a3,a4,a5,a6⟩
   . refine plain fun s' n' xs' e=>?_
     rw[hs] at e;cases e;exact .inl O
   . have le:G.Le (co G g (some d)):=⟨fun _ _ _ x=>x,fun _ _ x=>x,fun _ _ x=>x⟩
     refine bO hrun ⟨co G g (some d),hrep.mono le,?_,xz H.ok a2,⟨fun t=>(kY H.env (some p) t).mono le,?_⟩,qb a2⟩
     . intro s' n' xs' e'
       rw[hs] at e';cases e';exact .inr ⟨g,cap,cur,e,a1,by simp[co],a3,a4,a5,a6⟩
     . intro t s' n' xs' e'
       obtain ⟨e1,e2⟩:=jD (env:=st.env) (k:=dO (.tmp p)) e';have hpt:p≠t:=by simpa[dO] using e2
       rcases H.env.2 t s' n' xs' e1 with O| ⟨g',cap',cur',e'',b1,b2,b3,b4,b5,b6⟩
       . exact .inl O
       . have hne:g'≠g:=fun q=>hpt (by rw[q,a2] at b2;simpa using b2)
         exact .inr ⟨g',cap',cur',e'',b1,by simp only[co];rw[if_neg hne];exact b2,b3,b4,b5,b6⟩
end
section
variable {cx:Cx} {G:Gh} {w:World} {st:St} {a:Act} {o:Oper}
theorem aj {v u:Value}:Rep G (.val v) u↔u=v:=by simp[Rep]
theorem o9 {c:C}{v:Value}{k:IntKind}{n:Int}(h:c.int?=some (k,n))(hr:Rep G c v):v= .int k n:=by
 unfold C.int? at h;split at h
 . cases h;exact aj.1 hr
 . cases h
theorem lL {c:C}{v:Value}{n:Nat}{xs:List C}(h:c.sl?=some (n,xs))(hr:Rep G c v):
 ∃b cap,v= .slice b n cap∧n≤cap∧cap≤maxLen∧(xs= []∨∃blk off,b=some ⟨blk,off,none⟩∧RepK G blk off xs):=by
 unfold C.sl? at h;split at h
 . cases h
   simp only[Rep] at hr;obtain ⟨b,cap,h1,h2,h3,_,h5⟩:=hr;exact ⟨b,cap,h1,h2,h3,h5⟩
 . cases h
   rw[aj] at hr;exact ⟨none,0,hr,Nat.le_refl _,Nat.zero_le _,.inl rfl⟩
 . cases h
theorem qd {c:C}{v:Value}(hr:Rep G c v):Rep G c.share v:=by
 unfold C.share;split
 . rw[aj] at hr
   simp only[Rep];exact ⟨none,0,hr,Nat.le_refl _,Nat.zero_le _,by simp,by simp⟩
 . simp only[Rep] at hr ⊢
   obtain ⟨a,cap,h1,h2,h3,_,h5⟩:=hr;exact ⟨a,cap,h1,h2,h3,by simp,h5⟩
 . exact hr.noR
theorem RepL.map_noR {xs:List C}{vs:List Value}(h:RepL G xs vs):RepL G (xs.map C.noR) vs:=
 RepL.of_get (by simpa using h.length) fun i x v hx hv=>by
  rw[List.getElem?_map] at hx
  cases hy:xs[i]? with
  |none=>rw[hy] at hx;cases hx
  |some y=>
   rw[hy] at hx;cases hx;obtain ⟨u,hu,hr⟩:=h.get i y hy;rw[hv] at hu;cases hu;exact hr.noR
theorem pc {c:C}{v:Value}{cs:List C}(h:c.cells?=some cs)(hr:Rep G c v):
 RepL G cs v.cells.toList∧∀u∈v.cells.toList,u.oneCell'=true:=by
 have one:∀ (d:C)(x:Value),Rep G d x→x.oneCell'=true→cs= [d]→x=v→RepL G cs v.cells.toList∧∀u∈v.cells.toList,u.oneCell'=true:=by
  rintro d x h1 h2 rfl rfl;have hc:x.cells= #[x]:=by cases x<;>first|rfl|cases h2
  rw[hc];exact ⟨by simp only[RepL];exact ⟨x,[],rfl,h1,rfl⟩,by simp[h2]⟩
 unfold C.cells? at h;split at h
 . cases h
   simp only[Rep] at hr;obtain ⟨vs,rfl,h2,h3⟩:=hr;exact ⟨h2.map_noR,h3⟩
 . rename_i vs
   split at h
   . rename_i ha
     cases h;rw[aj] at hr;subst hr;refine ⟨RepL.of_get (by simp[Value.cells]) fun i x u hx hu=>?_,fun u hu=>(List.all_eq_true.1 ha) u hu⟩;rw[List.getElem?_map] at hx;have hu':vs.toList[i]? =some u:=hu;rw[hu'] at hx;cases hx;exact aj.2 rfl
   . cases h
 . rename_i u hne
   split at h
   . rename_i h1
     cases h;rw[aj] at hr;subst hr;exact one _ _ (aj.2 rfl) h1 rfl rfl
   . cases h
 . rename_i r n xs
   cases h;have hr':=hr.noR;simp only[Rep] at hr;obtain ⟨b,cap,rfl,_⟩:=hr;exact one _ _ hr' rfl rfl rfl
 . cases h
   have hr':=hr;simp only[Rep] at hr;obtain ⟨b,cap,rfl,_⟩:=hr;exact one _ _ hr' rfl rfl rfl
 . cases h
   have hr':=hr;simp only[Rep] at hr;obtain ⟨k,_,rfl⟩:=hr;exact one _ _ hr' rfl rfl rfl
 . cases h
   have hr':=hr;simp only[Rep] at hr;obtain ⟨k,off,rfl,_⟩:=hr;exact one _ _ hr' rfl rfl rfl
 . cases h
   have hr':=hr;simp only[Rep] at hr;obtain ⟨vs,rfl,_⟩:=hr;exact one _ _ hr' rfl rfl rfl
 . cases h
   have hr':=hr;simp only[Rep] at hr;obtain ⟨b,cap,rfl,_⟩:=hr;exact one _ _ hr' rfl rfl rfl
 . cases h
   have hr':=hr;simp only[Rep] at hr;obtain ⟨k,_,rfl⟩:=hr;exact one _ _ hr' rfl rfl rfl
 . cases h
   have hr':=hr;simp only[Rep] at hr;obtain ⟨k,_,rfl,_⟩:=hr;exact one _ _ hr' rfl rfl rfl
 . cases h
 . cases h
theorem qe {c:C}{cs:List C}(h:c.cells?=some cs):∀x∈cs,x.noOwn:=by
 unfold C.cells? at h;split at h
 . cases h;intro x hx;obtain ⟨v,_,rfl⟩:=List.mem_map.1 hx;exact cQ v
 . split at h
   . cases h;intro x hx;obtain ⟨v,_,rfl⟩:=List.mem_map.1 hx;trivial
   . cases h
 . split at h
   . cases h;simp[C.noOwn]
   . cases h
 . cases h;intro x hx;simp only[List.mem_singleton] at hx;subst hx;exact cQ _
 all_goals first| (cases h;simp[C.noOwn];done) |cases h
theorem ir {c:C}{v:Value}{xs:List C}(h:c.agg?=some xs)(hr:Rep G c v):∃vs,v= .agg vs∧RepL G xs vs.toList∧∀u∈vs.toList,u.oneCell'=true:=by
 unfold C.agg? at h;split at h
 . cases h
   simpa only[Rep] using hr
 . rename_i vs
   split at h
   . rename_i ha
     cases h;rw[aj] at hr;subst hr;refine ⟨vs,rfl,RepL.of_get (by simp) fun i x u hx hu=>?_,fun u hu=>(List.all_eq_true.1 ha) u hu⟩;rw[List.getElem?_map,hu] at hx;cases hx;exact aj.2 rfl
   . cases h
 . cases h
theorem RepL.drop {xs:List C}{vs:List Value}(h:RepL G xs vs)(k:Nat):RepL G (xs.drop k) (vs.drop k):=
 RepL.of_get (by simp[h.length]) fun i x v hx hv=>by
  rw[List.getElem?_drop] at hx hv;obtain ⟨u,hu,hr⟩:=h.get _ x hx;rw[hv] at hu;cases hu;exact hr
theorem RepL.take {xs:List C}{vs:List Value}(h:RepL G xs vs)(k:Nat):RepL G (xs.take k) (vs.take k):=
 RepL.of_get (by simp[h.length]) fun i x v hx hv=>by
  rw[List.getElem?_take] at hx hv;split at hx
  . rename_i hik
    rw[if_pos hik] at hv;obtain ⟨u,hu,hr⟩:=h.get _ x hx;rw[hv] at hu;cases hu;exact hr
  . cases hx
theorem RepL.append {xs ys:List C}{vs us:List Value}(h:RepL G xs vs)(k:RepL G ys us):RepL G (xs++ys) (vs++us):=
 RepL.of_get (by simp[h.length,k.length]) fun i x v hx hv=>by
  rw[List.getElem?_append] at hx hv;rw[h.length] at hx;split at hx
  . rename_i hi
    rw[if_pos hi] at hv;obtain ⟨u,hu,hr⟩:=h.get _ x hx;rw[hv] at hu;cases hu;exact hr
  . rename_i hi
    rw[if_neg hi] at hv;obtain ⟨u,hu,hr⟩:=k.get _ x hx;rw[hv] at hu;cases hu;exact hr
theorem qf {P:Program}{t:TypeId}{d:TD}(h:td P t=some d)(w:World): (isAgg t).run P w= .ok d.isAgg w:=by
 unfold isAgg TD.isAgg;simp only[Sem.run_bind,aZ h,Result.andThen_ok];split<;>simp_all
theorem iV {P:Program}{t:TypeId}{d:TD}(h:td P t=some d){xs:List C}{vs:Array Value}(hr:RepL G xs vs.toList)(h1:∀u∈vs.toList,u.oneCell'=true){off:Nat}{c:C}
 (hg:cA d xs off=some c):∃v,(part t vs off).run P w= .ok v w∧Rep G c v∧c.noOwn:=by
 unfold cA at hg;unfold part;simp only[Sem.run_bind,qf h,Result.andThen_ok];split at hg
 . rename_i ha
   rw[if_pos ha];split at hg
   . rename_i hle
     cases hg;simp only[Sem.run_bind,bS h,Result.andThen_ok,Sem.run_pure];refine ⟨_,rfl,?_,trivial⟩;simp only[Rep];have hex: (vs.extract off (off+d.size)).toList= (vs.toList.drop off).take d.size:=by
      simp[Array.toList_extract,List.extract_eq_take_drop]
     refine ⟨_,rfl,by rw[hex];exact ((hr.drop off).take d.size).map_noR,fun u hu=>?_⟩;rw[hex] at hu;exact h1 u (List.mem_of_mem_drop (List.mem_of_mem_take hu))
   . cases hg
 . rename_i ha
   rw[if_neg ha]
   cases hx:xs[off]? with
   |none=>rw[hx] at hg;cases hg
   |some x=>
    rw[hx] at hg;cases hg;obtain ⟨v,hv,hrv⟩:=hr.get off x hx;have hv':vs[off]? =some v:=by simpa using hv
    rw[hv'];exact ⟨v,rfl,hrv.noR,cQ x⟩
theorem jE {c:C}{v:Value}{n k:Nat}(h:dP c n=some k)(hr:Rep G c v):∃kd,v= .int kd (k:Int)∧k< n:=by
 unfold dP at h;split at h
 . rename_i kd i hi
   split at h
   . rename_i hb
     cases h;have:=o9 hi hr;refine ⟨kd,?_,by omega⟩;rw[this,Int.toNat_of_nonneg hb.1]
   . cases h
 . cases h
theorem IT (P:Program)(w:World)(op:BinOp)(t:TypeId)(x y:Operand)(k k':IntKind)(p q:Int){v:Value}(h:bW op (.int k p) (.int k' q) =some v):
 (do eqGuard op t x y (.int k p) (.int k' q);binOp op t (.int k p) (.int k' q)).run P w= .ok v w:=by
 have hg: (eqGuard op t x y (.int k p) (.int k' q)).run P w= .ok () w:=by
  unfold eqGuard;split<;>rfl
 simp only[Sem.run_bind,hg,Result.andThen_ok];unfold bW at h;cases op<;>simp only[] at h<;>simp only[binOp,Op.shift,Op.intArith,Op.intDiv,Op.intBits,Op.intCmp]
 case shl=>
  split at h
  . cases h
  . rename_i hb;cases h;rw[if_neg hb];rfl
 case shr=>
  split at h
  . cases h
  . rename_i hb;cases h;rw[if_neg hb];rfl
 all_goals
  split at h
  . cases h
  . rename_i hk
    simp only[hk,if_false];first
     | (cases h;rfl)
     | (split at h<;>simp_all)
theorem IU (P:Program)(w:World)(op:BinOp)(t:TypeId)(x y:Operand)(p q:ByteArray){v:Value}(h:bW op (.string p) (.string q) =some v):
 (do eqGuard op t x y (.string p) (.string q);binOp op t (.string p) (.string q)).run P w= .ok v w:=by
 have hg: (eqGuard op t x y (.string p) (.string q)).run P w= .ok () w:=by
  unfold eqGuard;split<;>rfl
 simp only[Sem.run_bind,hg,Result.andThen_ok];unfold bW at h;cases op<;>simp only[] at h<;>simp only[binOp,Op.stringOp] <;>first| (cases h;rfl) |cases h|skip
 split at h
 . rename_i hle
   cases h;rw[if_neg]
   . rfl
   . have:IntKind.i64.max=9223372036854775807:=by decide
     rw[this];omega
 . cases h
theorem Ew (P:Program)(w:World)(op:BinOp)(t:TypeId)(x y:Operand)(p q:Bool){v:Value}(ht:P.underlying t=some .bool)(h:bW op (.bool p) (.bool q) =some v):
 (do eqGuard op t x y (.bool p) (.bool q);binOp op t (.bool p) (.bool q)).run P w= .ok v w:=by
 have hg: (eqGuard op t x y (.bool p) (.bool q)).run P w= .ok () w:=by
  unfold eqGuard;split<;>rfl
 simp only[Sem.run_bind,hg,Result.andThen_ok];have he0:∀d,(Op.equalIn (d+1) t (.bool p) (.bool q)).run P w= .ok (p==q) w:=fun d=>by
  simp[Op.equalIn,run_underlying ht]
 have he: (Op.equal t (.bool p) (.bool q)).run P w= .ok (p==q) w:=he0 9999;unfold bW at h;cases op<;>simp only[] at h<;>first| (cases h;simp only[binOp,Sem.run_bind,he,Result.andThen_ok,Sem.run_pure]) |cases h
end
section
variable {cx:Cx} {G:Gh} {w:World} {st:St} {a:Act} {o:Oper} {P:Program}
theorem dm (H:Pre cx G w st a){x:Option Operand}{dflt most k:Nat}(h:cp (x.map (cx.evn st.env)) dflt most=some k):
 (x=none∧k=dflt)∨∃y kd,x=some y∧a.eval y= .int kd (k:Int)∧k≤most:=by
 cases x with
 |none=>simp[cp] at h;exact .inl ⟨rfl,h.symm⟩
 |some y=>
  simp only[cp,Option.map_some] at h;split at h
  . rename_i kd i hi
    split at h
    . rename_i hb
      cases h;have:=o9 hi (H.evn y);exact .inr ⟨y,kd,rfl,by rw[this,Int.toNat_of_nonneg hb.1],by omega⟩
    . cases h
  . cases h
theorem iW (isS:Bool)(len cap:Nat)(lo hi:Option Value)(l h':Nat)(hhi: (hi=none∧h'=len)∨∃kd,hi=some (.int kd (h':Int))∧h'≤cap)
 (hlo: (lo=none∧l=0)∨∃kd,lo=some (.int kd (l:Int))∧l≤h'): (Instr.sliceBounds isS len cap lo hi none).run P w= .ok (l,h',cap) w:=by
 unfold Instr.sliceBounds;rcases hhi with ⟨rfl,rfl⟩ | ⟨kd,rfl,hh⟩ <;>rcases hlo with ⟨rfl,rfl⟩ | ⟨kd',rfl,hl⟩ <;>
  simp[run_sliceBound, *]
theorem za (isS:Bool)(len cap:Nat)(lo hi:Option Value)(l h' m:Nat)(kd:IntKind)(hm:m≤cap)(hhi:∃kd,hi=some (.int kd (h':Int))∧h'≤m)
 (hlo: (lo=none∧l=0)∨∃kd,lo=some (.int kd (l:Int))∧l≤h'): (Instr.sliceBounds isS len cap lo hi (some (.int kd (m:Int)))).run P w= .ok (l,h',m) w:=by
 unfold Instr.sliceBounds;obtain ⟨kd,rfl,hh⟩:=hhi;rcases hlo with ⟨rfl,rfl⟩ | ⟨kd',rfl,hl⟩ <;>
  simp[run_sliceBound, *]
theorem dc (b o k:Nat): (⟨b,o,none⟩:Addr).add k= ⟨b,o+k,none⟩:=Addr.add_mid b o k
theorem gE {c:C}{v:Value}(h:Rep G c v):Rep G c.asSv v:=by
 unfold C.asSv;split
 . simp only[Rep] at h ⊢
   obtain ⟨a,cap,h1,h2,h3,h4⟩:=h;refine ⟨a,cap,h1,h2,h3,fun hn=>?_⟩;rcases h4 with ⟨h4,_⟩ | ⟨blk,q1,q2,_⟩
   . exact absurd h4 hn
   . exact ⟨blk,q1,q2⟩
 . exact h
theorem xI (H:Pre cx G w st a){t:TypeId}{x:Operand}{lo hi mx:Option Operand}{p:Plan}{c0:C}(hx:Rep G c0 (a.eval x))
 (h:d6 cx.P t c0 (lo.map (cx.evn st.env)) (hi.map (cx.evn st.env)) (mx.map (cx.evn st.env)) =some p):
 ∃c v,p= .val c none∧c.noOwn∧(Instr.sliceAt t (a.eval x) (lo.map a.eval) (hi.map a.eval) (mx.map a.eval)).run cx.P w= .ok v w∧Rep G c v:=by
 unfold d6 at h;split at h
 . cases h
 rename_i d hd;have hu:=(aQ hd).1;generalize a.eval x=xv at hx
 unfold Instr.sliceAt;simp only[Sem.run_bind,aZ hd,Result.andThen_ok];split at h
 ·
  rename_i s hs;rw[aj] at hx;subst hx;rw[hs];simp only[Instr.slice,Sem.run_bind,aZ hd,Result.andThen_ok,hs];split at h
  . cases h
  rename_i hmx;have hmx':mx=none:=by cases mx<;>simp at hmx ⊢
  subst hmx';split at h
  . rename_i hh hhe
    split at h
    . rename_i ll hle
      cases h;have b1:=dm H hhe;have b2:=dm H hle;have hrun:=iW (P:=cx.P) (w:=w) false s.size s.size (lo.map a.eval) (hi.map a.eval) ll hh
       (by rcases b1 with ⟨rfl,rfl⟩ | ⟨y,kd,rfl,e,hl⟩ <;>simp[*])
       (by rcases b2 with ⟨rfl,rfl⟩ | ⟨y,kd,rfl,e,hl⟩ <;>simp[*])
      simp only[Option.map_none,Option.isSome_none,Bool.false_eq_true,if_false,hrun,Result.andThen_ok,Sem.run_pure,Sem.run_bind];exact ⟨_,_,rfl,trivial,rfl,aj.2 rfl⟩
    . cases h
  . cases h
 ·
  rename_i e b off n hs;simp only[Rep] at hx;obtain ⟨ad,cap,rfl,hnc,hcm,had⟩:=hx;rw[hs];simp only[Instr.slice,Sem.run_bind,aZ hd,Result.andThen_ok,hs];split at h
  . rename_i de hde
    split at h
    . cases h
    rename_i hmx;have hmx':mx=none:=by cases mx<;>simp at hmx ⊢
    subst hmx';split at h
    . rename_i hh hhe
      split at h
      . rename_i ll hle
        cases h;have b1:=dm H hhe;have b2:=dm H hle;have hhn:hh≤n:=by rcases b1 with ⟨_,rfl⟩ | ⟨y,kd,_,_,hl⟩ <;>omega
        have hlh:ll≤hh:=by rcases b2 with ⟨_,rfl⟩ | ⟨y,kd,_,_,hl⟩ <;>omega
        have hrun:=iW (P:=cx.P) (w:=w) true n cap (lo.map a.eval) (hi.map a.eval) ll hh
         (by rcases b1 with ⟨rfl,rfl⟩ | ⟨y,kd,rfl,e,hl⟩ <;>simp[*];omega)
         (by rcases b2 with ⟨rfl,rfl⟩ | ⟨y,kd,rfl,e,hl⟩ <;>simp[*])
        simp only[Option.map_none,hrun,Result.andThen_ok,Sem.run_pure,bS hde];refine ⟨_,_,rfl,trivial,rfl,?_⟩;simp only[Rep];refine ⟨_,_,rfl,by omega,by omega,fun hne=>?_⟩;have hcl:cap≠ll:=by omega
        obtain ⟨blk,hμ,rfl⟩:=had (by omega);refine ⟨blk,hμ,?_⟩;rw[if_neg hcl];simp[dc]
      . cases h
    . cases h
  . cases h
 ·
  rename_i e hs hnsv;split at h
  . rename_i de n xs hde hsl
    obtain ⟨ad,cap,rfl,hnc,hcm,hk⟩:=lL hsl hx;rw[hs];simp only[Instr.slice,Sem.run_bind,aZ hd,Result.andThen_ok,hs];split at h
    . rename_i hlen
      split at h
      . rename_i m hme
        split at h
        . rename_i hh hhe
          split at h
          . rename_i ll hle
            cases h;have b0:=dm H hme;have b1:=dm H hhe;have b2:=dm H hle;have hlh:ll≤hh:=by rcases b2 with ⟨_,rfl⟩ | ⟨y,kd,_,_,hl⟩ <;>omega
            have tail:∀ (m':Nat),hh≤m'→m'≤cap→hh≤n→∀ (r:Rt),(r= .full→m'=hh)→
             Rep G (.sl r (hh - ll) ((xs.drop (ll*de.size)).take ((hh - ll)*de.size))) (.slice (if m'=ll then ad else ad.map (·.add (ll*de.size))) (hh - ll) (m' - ll)):=by
             intro m' q1 q2 q3 r hr;simp only[Rep];refine ⟨_,_,rfl,by omega,by omega,fun e=>by have:=hr e;omega,?_⟩;by_cases hz: (xs.drop (ll*de.size)).take ((hh - ll)*de.size) = []
             . exact .inl hz
             . right
               rcases hk with hk| ⟨blk,off,had,hk⟩
               . subst hk;simp at hz
               . have hne:m'≠ll:=by
                  rintro rfl;have:hh - m'=0:=by omega
                  rw[this] at hz;simp at hz
                 rw[if_neg hne,had];exact ⟨blk,off+ll*de.size,by simp[dc],(hk.drop _).take _⟩
            cases mx with
            |none=>
             simp[cp] at hme
             subst hme;simp only[Option.map_none,Option.isSome_none,Bool.false_eq_true,if_false] at b1;have hhn:hh≤n:=by rcases b1 with ⟨_,rfl⟩ | ⟨y,kd,_,_,hl⟩ <;>omega
             have hrun:=iW (P:=cx.P) (w:=w) true n cap (lo.map a.eval) (hi.map a.eval) ll hh
              (by rcases b1 with ⟨rfl,e⟩ | ⟨y,kd,rfl,e,hl⟩ <;>simp[*] <;>first|simpa using e|omega)
              (by rcases b2 with ⟨rfl,rfl⟩ | ⟨y,kd,rfl,e,hl⟩ <;>simp[*])
             simp only[Option.map_none,hrun,Result.andThen_ok,Sem.run_pure,bS hde];refine ⟨_,_,rfl,by simp[C.noOwn],rfl,tail cap (by omega) (Nat.le_refl _) hhn _ (by simp)⟩
            |some my=>
             rcases b0 with ⟨e,_⟩ | ⟨y,kd,e,hmy,hmn⟩
             . cases e
             cases e;rcases b1 with ⟨rfl,e⟩ | ⟨y,kd',rfl,e,hl⟩
             ·
              simp at hlen
             . have hrun:=za (P:=cx.P) (w:=w) true n cap (lo.map a.eval) (some (a.eval y)) ll hh m kd (by omega) ⟨kd',by rw[e],by simpa using hl⟩
                (by rcases b2 with ⟨rfl,rfl⟩ | ⟨y,kd,rfl,e,hl⟩ <;>simp[*])
               simp only[Option.map_some,hmy,hrun,Result.andThen_ok,Sem.run_pure,bS hde];have hhm:hh≤m:=by simpa using hl
               refine ⟨_,_,rfl,?_,rfl,tail m hhm (by omega) (by omega) _ ?_⟩
               . split<;>simp[C.noOwn]
               . split
                 . rename_i q;intro _;exact q.2
                 . intro q;cases q
          . cases h
        . cases h
      . cases h
    . cases h
  . cases h
 ·
  rename_i n e b off hs;simp only[Rep] at hx;obtain ⟨blk,hμ,rfl⟩:=hx;rw[hs];simp only[Instr.sureAddr,Sem.run_bind,Sem.run_pure,Result.andThen_ok];split at h
  . rename_i de hde
    split at h
    . cases h
    rename_i hmx;have hmx':mx=none:=by cases mx<;>simp at hmx ⊢
    subst hmx';have hn6:n≤65536:=by simp at hmx;omega
    have hml: (65536:Nat)≤maxLen:=by decide
    split at h
    . rename_i hh hhe
      split at h
      . rename_i ll hle
        cases h;have b1:=dm H hhe;have b2:=dm H hle;have hhn:hh≤n:=by rcases b1 with ⟨_,rfl⟩ | ⟨y,kd,_,_,hl⟩ <;>omega
        have hlh:ll≤hh:=by rcases b2 with ⟨_,rfl⟩ | ⟨y,kd,_,_,hl⟩ <;>omega
        have hrun:=iW (P:=cx.P) (w:=w) false n n (lo.map a.eval) (hi.map a.eval) ll hh
         (by rcases b1 with ⟨rfl,rfl⟩ | ⟨y,kd,rfl,e,hl⟩ <;>simp[*])
         (by rcases b2 with ⟨rfl,rfl⟩ | ⟨y,kd,rfl,e,hl⟩ <;>simp[*])
        simp only[Option.map_none,hrun,Result.andThen_ok,bS hde];refine ⟨_,_,rfl,trivial,rfl,?_⟩;simp only[Rep];refine ⟨_,_,rfl,by omega,by omega,fun hne=>⟨blk,hμ,?_⟩⟩;have hcl:n≠ll:=by omega
        rw[if_neg hcl];simp[dc]
      . cases h
    . cases h
  . cases h
 ·
  rename_i n e xs hs;simp only[Rep] at hx;obtain ⟨blk,off,rfl,hk⟩:=hx;rw[hs];simp only[Instr.sureAddr,Sem.run_bind,Sem.run_pure,Result.andThen_ok];split at h
  . rename_i de hde
    split at h
    . cases h
    rename_i hmx;have hmx':mx=none:=by cases mx<;>simp at hmx ⊢
    subst hmx';have hn6:n≤65536:=by simp at hmx;omega
    have hml: (65536:Nat)≤maxLen:=by decide
    split at h
    . rename_i hh hhe
      split at h
      . rename_i ll hle
        cases h;have b1:=dm H hhe;have b2:=dm H hle;have hhn:hh≤n:=by rcases b1 with ⟨_,rfl⟩ | ⟨y,kd,_,_,hl⟩ <;>omega
        have hlh:ll≤hh:=by rcases b2 with ⟨_,rfl⟩ | ⟨y,kd,_,_,hl⟩ <;>omega
        have hrun:=iW (P:=cx.P) (w:=w) false n n (lo.map a.eval) (hi.map a.eval) ll hh
         (by rcases b1 with ⟨rfl,rfl⟩ | ⟨y,kd,rfl,e,hl⟩ <;>simp[*])
         (by rcases b2 with ⟨rfl,rfl⟩ | ⟨y,kd,rfl,e,hl⟩ <;>simp[*])
        simp only[Option.map_none,hrun,Result.andThen_ok,bS hde];refine ⟨_,_,rfl,trivial,rfl,?_⟩;simp only[Rep];refine ⟨_,_,rfl,by omega,?_,by simp,?_⟩
        . omega
        . by_cases hz: (xs.drop (ll*de.size)).take ((hh - ll)*de.size) = []
          . exact .inl hz
          . right
            have hcl:n≠ll:=by
             rintro rfl;have:hh - n=0:=by omega
             rw[this] at hz;simp at hz
            rw[if_neg hcl];exact ⟨blk,off+ll*de.size,by simp[dc],(hk.drop _).take _⟩
      . cases h
    . cases h
  . cases h
 . cases h
theorem sa {t:TypeId}{x i:C}{xv iv:Value}(hx:Rep G x xv)(hi:Rep G i iv){p:Plan}(h:dD P t x i=some p):
 ∃c v,p= .val c none∧c.noOwn∧(Instr.indexAt t xv iv).run P w= .ok v w∧Rep G c v:=by
 unfold dD at h;split at h
 . cases h
 rename_i d hd;unfold Instr.indexAt;split at h
 . rename_i n e b off hs
   split at h
   . rename_i de k hde hk
     cases h;obtain ⟨kd,rfl,hkn⟩:=jE hk hi;simp only[Rep] at hx;obtain ⟨blk,hμ,rfl⟩:=hx;refine ⟨_,.pointer (some ⟨blk,off+k*de.size,none⟩),rfl,trivial,?_,by simp only[Rep];exact ⟨blk,hμ,rfl⟩⟩;simp[asIntOf,aZ hd,hs,Instr.sureAddr,bS hde,dc,hkn]
   . cases h
 . rename_i n e xs hs
   split at h
   . rename_i de k hde hk
     split at h
     . rename_i hlen
       cases h;obtain ⟨kd,rfl,hkn⟩:=jE hk hi;simp only[Rep] at hx;obtain ⟨blk,off,rfl,hK⟩:=hx;refine ⟨_,.pointer (some ⟨blk,off+k*de.size,none⟩),rfl,trivial,?_,by simp only[Rep];exact ⟨blk,_,rfl,hK.drop _⟩⟩;simp[asIntOf,aZ hd,hs,Instr.sureAddr,bS hde,dc,hkn]
     . cases h
   . cases h
 . rename_i e b off n hs
   split at h
   . rename_i de k hde hk
     cases h;obtain ⟨kd,rfl,hkn⟩:=jE hk hi;simp only[Rep] at hx;obtain ⟨ad,cap,rfl,hnc,hcm,had⟩:=hx;obtain ⟨blk,hμ,rfl⟩:=had (by omega);refine ⟨_,.pointer (some ⟨blk,off+k*de.size,none⟩),rfl,trivial,?_,by simp only[Rep];exact ⟨blk,hμ,rfl⟩⟩;simp[asIntOf,aZ hd,hs,bS hde,dc,hkn]
   . cases h
 . rename_i e r n xs hs
   split at h
   . rename_i de k hde hk
     split at h
     . rename_i hlen
       cases h;obtain ⟨kd,rfl,hkn⟩:=jE hk hi;simp only[Rep] at hx;obtain ⟨ad,cap,rfl,hnc,hcm,_,hK⟩:=hx;rcases hK with hK| ⟨blk,off,rfl,hK⟩
       . exact absurd hK hlen.2
       refine ⟨_,.pointer (some ⟨blk,off+k*de.size,none⟩),rfl,trivial,?_,by simp only[Rep];exact ⟨blk,_,rfl,hK.drop _⟩⟩;simp[asIntOf,aZ hd,hs,bS hde,dc,hkn]
     . cases h
   . cases h
 . cases h
theorem xJ {t:TypeId}{x i:C}{xv iv:Value}(hx:Rep G x xv)(hi:Rep G i iv){p:Plan}(h:gx P t x i=some p):
 ∃c v,p= .val c none∧c.noOwn∧(Instr.index t xv iv).run P w= .ok v w∧Rep G c v:=by
 unfold gx at h;split at h
 . cases h
 rename_i d hd;unfold Instr.index;split at h
 . rename_i s hs
   split at h
   . rename_i k hk
     obtain ⟨kd,rfl,hkn⟩:=jE hk hi;rw[aj] at hx;subst hx
     cases hb:s.data[k]? with
     |none=>rw[hb] at h;cases h
     |some b=>
      rw[hb] at h;cases h;have hs':s[k]? =some b:=by
       have hlt:k< s.data.size:=(Array.getElem?_eq_some_iff.1 hb).1;have:s[k]? =some (s[k]'hlt):=by simp[hkn]
       rw[this];have:=(Array.getElem?_eq_some_iff.1 hb).2;rw[←this];rfl
      refine ⟨_,_,rfl,trivial,?_,aj.2 rfl⟩;simp[asIntOf,aZ hd,hs,hs']
   . cases h
 . rename_i n e hs
   split at h
   . rename_i de k xs hde hk hag
     obtain ⟨kd,rfl,hkn⟩:=jE hk hi;obtain ⟨vs,rfl,hr,h1⟩:=ir hag hx
     cases hg:cA de xs (k*de.size) with
     |none=>rw[hg] at h;cases h
     |some c=>
      rw[hg] at h;cases h;obtain ⟨v,hv,hrc,hno⟩:=iV (w:=w) hde hr h1 hg;refine ⟨c,v,rfl,hno,?_,hrc⟩;simp[asIntOf,aZ hd,hs,bS hde,hkn,hv]
   . cases h
 . cases h
theorem xK {t:TypeId}{x:C}{xv:Value}{f:Nat}(hx:Rep G x xv){p:Plan}(h:kU P t x f=some p):
 ∃c v,p= .val c none∧c.noOwn∧(Instr.field t xv f).run P w= .ok v w∧Rep G c v:=by
 unfold kU at h;split at h
 . cases h
 rename_i d hd;unfold Instr.field;split at h
 . rename_i fields hs
   split at h
   . rename_i fd xs hf hag
     split at h
     . rename_i de hde
       obtain ⟨vs,rfl,hr,h1⟩:=ir hag hx
       cases hg:cA de xs fd.offset with
       |none=>rw[hg] at h;cases h
       |some c=>
        rw[hg] at h;cases h;obtain ⟨v,hv,hrc,hno⟩:=iV (w:=w) hde hr h1 hg;refine ⟨c,v,rfl,hno,?_,hrc⟩;simp[aZ hd,hs,hf,asAgg,hv]
     . cases h
   . cases h
 . cases h
theorem sb {t:TypeId}{x:C}{xv:Value}{f:Nat}(hx:Rep G x xv){p:Plan}(h:an P t x f=some p):
 ∃c v,p= .val c none∧c.noOwn∧(Instr.fieldAt t xv f).run P w= .ok v w∧Rep G c v:=by
 unfold an at h;split at h
 . cases h
 rename_i d hd;unfold Instr.fieldAt;split at h
 . rename_i fields hs
   split at h
   . rename_i fd hf
     split at h
     . rename_i de hde
       split at h
       . cases h
       rename_i hz;split at h
       . rename_i b off
         cases h;simp only[Rep] at hx;obtain ⟨blk,hμ,rfl⟩:=hx;refine ⟨_,.pointer (some ⟨blk,off+fd.offset,none⟩),rfl,trivial,?_,by simp only[Rep];exact ⟨blk,hμ,rfl⟩⟩;simp[aZ hd,hs,hf,Instr.sureAddr,fieldPlace,bS hde,hz,dc]
       . cases h
         simp only[Rep] at hx;obtain ⟨blk,hμ,rfl,_⟩:=hx;refine ⟨_,.pointer (some ⟨blk,fd.offset,none⟩),rfl,trivial,?_,by simp only[Rep];exact ⟨blk,hμ,rfl⟩⟩;simp[aZ hd,hs,hf,Instr.sureAddr,fieldPlace,bS hde,hz,dc]
       . rename_i xs
         split at h
         . cases h
           simp only[Rep] at hx;obtain ⟨blk,off,rfl,hK⟩:=hx;refine ⟨_,.pointer (some ⟨blk,off+fd.offset,none⟩),rfl,trivial,?_,by simp only[Rep];exact ⟨blk,_,rfl,hK.drop _⟩⟩;simp[aZ hd,hs,hf,Instr.sureAddr,fieldPlace,bS hde,hz,dc]
         . cases h
       . cases h
     . cases h
   . cases h
 . cases h
theorem BR {t ty:TypeId}{x:C}{xv:Value}(hx:Rep G x xv){p:Plan}(h:jC P t x=some p):
 ∃c v,p= .val c none∧c.noOwn∧(Builtin.len_ #[t] ty #[xv]).run P w= .ok v w∧Rep G c v:=by
 unfold jC at h;split at h
 . cases h
 rename_i d hd;unfold Builtin.len_;split at h
 . rename_i s hs
   cases h;rw[aj] at hx;subst hx;exact ⟨_,_,rfl,trivial,by simp[aZ hd,hs];rfl,aj.2 rfl⟩
 . rename_i n e hs
   cases h;exact ⟨_,_,rfl,trivial,by simp[aZ hd,hs];rfl,aj.2 rfl⟩
 . rename_i e b off n hs
   cases h;simp only[Rep] at hx;obtain ⟨ad,cap,rfl,_⟩:=hx;exact ⟨_,_,rfl,trivial,by simp[aZ hd,hs];rfl,aj.2 rfl⟩
 . rename_i x0 d0 x1 e hs hn
   cases hsl:x0.sl? with
   |none=>rw[hsl] at h;cases h
   |some r=>
    rw[hsl] at h;cases h;obtain ⟨ad,cap,rfl,_⟩:=lL hsl hx;exact ⟨_,_,rfl,trivial,by simp[aZ hd,hs];rfl,aj.2 rfl⟩
 . cases h
theorem zW {D:Nat}{e:TypeId}{de:TD}(hde:td P e=some de){f:C→C→Option Bool}(hf:∀a b r va vb,f a b=some r→Rep G a va→Rep G b vb→(Op.equalIn D e va vb).run P w= .ok r w)
 {xs ys:List C} {va vb:Array Value} (hx:RepL G xs va.toList) (hx1:∀u∈va.toList,u.oneCell'=true) (hy:RepL G ys vb.toList) (hy1:∀u∈vb.toList,u.oneCell'=true):
 ∀ (l:List Nat)(r:Bool),oX f de xs ys l=some r→
   ∃q,(forIn (m:=Sem) l (none,PUnit.unit) fun i _=>do
    if !(←Op.equalIn D e (←part e va (i*de.size)) (←part e vb (i*de.size))) then pure (ForInStep.done (some false,PUnit.unit)) else pure (ForInStep.yield (none,PUnit.unit))).run P w= .ok (q,PUnit.unit) w∧q= (if r then none else some false)
 | [],r,h=>by
   simp only[oX,Option.some.injEq] at h;subst h;exact ⟨none,by simp,rfl⟩
 |i::l,r,h=>by
  simp only[oX] at h
  cases ha:cA de xs (i*de.size) with
  |none=>rw[ha] at h;cases h
  |some a=>
   cases hb:cA de ys (i*de.size) with
   |none=>rw[ha,hb] at h;cases h
   |some b=>
    rw[ha,hb] at h;simp only[] at h;obtain ⟨pa,p1,p2,_⟩:=iV (w:=w) hde hx hx1 ha;obtain ⟨pb,q1,q2,_⟩:=iV (w:=w) hde hy hy1 hb
    cases hfr:f a b with
    |none=>rw[hfr] at h;cases h
    |some r'=>
     have hr:=hf a b r' pa pb hfr p2 q2;rw[hfr] at h
     cases r' with
     |false=>
      simp only[Option.some.injEq] at h;subst h;exact ⟨some false,by simp[p1,q1,hr],rfl⟩
     |true=>
      obtain ⟨q,h1,h2⟩:=zW hde hf hx hx1 hy hy1 l r h;refine ⟨q,?_,h2⟩;simp only[List.forIn_cons,Sem.run_bind,p1,q1,hr,Result.andThen_ok,Bool.not_true,Bool.false_eq_true,if_false,Sem.run_pure];exact h1
theorem uG {D:Nat}{f:TypeId→C→C→Option Bool}(hf:∀t a b r va vb,f t a b=some r→Rep G a va→Rep G b vb→(Op.equalIn D t va vb).run P w= .ok r w)
 {xs ys:List C} {va vb:Array Value} (hx:RepL G xs va.toList) (hx1:∀u∈va.toList,u.oneCell'=true) (hy:RepL G ys vb.toList) (hy1:∀u∈vb.toList,u.oneCell'=true):
 ∀ (l:List Field)(r:Bool),rQ P f xs ys l=some r→(Op.eqFields D va vb l).run P w= .ok r w
 | [],r,h=>by
   simp only[rQ,Option.some.injEq] at h;subst h;simp[Op.eqFields]
 |fd::l,r,h=>by
  simp only[rQ] at h;simp only[Op.eqFields];split at h
  . rename_i hne
    rw[if_pos hne];split at h
    . rename_i de hde
      cases ha:cA de xs fd.offset with
      |none=>rw[ha] at h;cases h
      |some a=>
       cases hb:cA de ys fd.offset with
       |none=>rw[ha,hb] at h;cases h
       |some b=>
        rw[ha,hb] at h;simp only[] at h;obtain ⟨pa,p1,p2,_⟩:=iV (w:=w) hde hx hx1 ha;obtain ⟨pb,q1,q2,_⟩:=iV (w:=w) hde hy hy1 hb
        cases hfr:f fd.type a b with
        |none=>rw[hfr] at h;cases h
        |some r'=>
         have hr:=hf _ a b r' pa pb hfr p2 q2;rw[hfr] at h
         cases r' with
         |false=>
          simp only[Option.some.injEq] at h;subst h;simp[p1,q1,hr]
         |true=>
          simp only[Sem.run_bind,p1,q1,hr,Result.andThen_ok,Bool.not_true,Bool.false_eq_true,if_false];exact uG hf hx hx1 hy hy1 l r h
    . cases h
  . rename_i hne
    rw[if_neg hne];exact uG hf hx hx1 hy hy1 l r h
theorem kx {x:C}{v:Value}{b:Bool}(h:x.nilS?=some b)(hx:Rep G x v):∃a n c,v= .slice a n c∧a.isNone=b:=by
 unfold C.nilS? at h;split at h
 . cases h;rw[aj] at hx;exact ⟨_,_,_,hx,rfl⟩
 . cases h
   simp only[Rep] at hx;obtain ⟨a,cap,h1,_,_,_,h5⟩:=hx;rcases h5 with h5| ⟨blk,off,rfl,_⟩
   . cases h5
   . exact ⟨_,_,_,h1,rfl⟩
 . cases h
   simp only[Rep] at hx;obtain ⟨a,cap,h1,_,_,h4⟩:=hx;obtain ⟨blk,_,rfl⟩:=h4 (by omega);exact ⟨_,_,_,h1,rfl⟩
 . cases h
   simp only[Rep] at hx;obtain ⟨a,cap,h1,_,_,h4⟩:=hx;rcases h4 with ⟨h4,_⟩ | ⟨blk,_,rfl,_⟩
   . omega
   . exact ⟨_,_,_,h1,rfl⟩
 . cases h
theorem ky {x:C}{v:Value}{b:Bool}(h:x.nilP?=some b)(hx:Rep G x v):∃a,v= .pointer a∧a.isNone=b:=by
 unfold C.nilP? at h;split at h
 . cases h;rw[aj] at hx;exact ⟨_,hx,rfl⟩
 . cases h
   simp only[Rep] at hx;obtain ⟨blk,_,h2⟩:=hx;exact ⟨_,h2,rfl⟩
 . cases h
   simp only[Rep] at hx;obtain ⟨blk,_,h2,_⟩:=hx;exact ⟨_,h2,rfl⟩
 . cases h
   simp only[Rep] at hx;obtain ⟨blk,off,h1,_⟩:=hx;exact ⟨_,h1,rfl⟩
 . cases h
theorem vJ {p q:Option Bool}{b:Bool}(h:Be p q=some b): (p=some true∧q=some b)∨(p=some b∧q=some true):=by
 unfold Be at h;split at h
 . cases h;exact .inl ⟨rfl,rfl⟩
 . cases h;exact .inr ⟨rfl,rfl⟩
 . cases h
theorem tb:∀ (d:Nat)(t:TypeId)(x y:C)(b:Bool)(xv yv:Value),gL P d t x y=some b→Rep G x xv→Rep G y yv→∀D,d≤D→(Op.equalIn D t xv yv).run P w= .ok b w
 |0,_,_,_,_,_,_,h,_,_,_,_=>by simp[gL] at h
 |d+1,t,x,y,b,xv,yv,h,hx,hy,D,hD=>by
  obtain ⟨D,rfl⟩:∃D',D=D'+1:=⟨D - 1,by omega⟩;simp only[gL] at h;split at h
  . cases h
  rename_i dt hdt;have hu:=(aQ hdt).1;split at h
  . rename_i hd
    rw[hd] at hu;split at h
    . rename_i p q
      rw[aj] at hx hy;subst hx hy
      cases h;exact run_equalIn_bool' w D t p q hu
    . cases h
  . rename_i k0 hd
    rw[hd] at hu;split at h
    . rename_i k p k' q
      rw[aj] at hx hy;subst hx hy
      split at h
      . rename_i e;subst e
        cases h;exact run_equalIn_int w D t k k0 p q hu
      . cases h
    . cases h
  . rename_i hd
    rw[hd] at hu;split at h
    . rename_i p q
      rw[aj] at hx hy;subst hx hy
      cases h;exact run_equalIn_string w D t p q hu
    . cases h
  . rename_i fields hd
    rw[hd] at hu;split at h
    . cases h
    rename_i hst;split at h
    . rename_i xs ys h1 h2
      obtain ⟨va,rfl,a1,a2⟩:=ir h1 hx;obtain ⟨vb,rfl,b1,b2⟩:=ir h2 hy;have hfo:P.fieldsOf t=fields:=by simp[Program.fieldsOf,hu]
      rw[run_equalIn_struct w D t va vb (by rw[hfo];exact hu) (by simpa using hst),hfo];exact uG (fun t' a b' r va' vb' hr ra rb=>tb d t' a b' r va' vb' hr ra rb D (by omega)) a1 a2 b1 b2 _ _ h
    . cases h
  . rename_i n e hd
    rw[hd] at hu;split at h
    . rename_i de xs ys hde h1 h2
      obtain ⟨va,rfl,a1,a2⟩:=ir h1 hx;obtain ⟨vb,rfl,b1,b2⟩:=ir h2 hy;obtain ⟨q,k1,k2⟩:=zW (D:=D) hde (fun a b' r va' vb' hr ra rb=>tb d e a b' r va' vb' hr ra rb D (by omega)) a1 a2 b1 b2 _ _ h;simp only[Op.equalIn,Sem.run_bind,run_underlying hu,Result.andThen_ok,bS hde,Std.Legacy.Range.forIn_eq_forIn_range',Std.Legacy.Range.size,Nat.sub_zero,Nat.add_one_sub_one,Nat.div_one];refine (congrArg (fun z=>Result.andThen z _) k1).trans ?_;rw[k2];cases b<;>simp[Result.andThen]
    . cases h
  . rename_i e hd
    rw[hd] at hu;rcases vJ h with ⟨h1,h2⟩ | ⟨h1,h2⟩
    . obtain ⟨a,n,c,rfl,ha⟩:=kx h1 hx
      obtain ⟨a',n',c',rfl,ha'⟩:=kx h2 hy
      cases a with
      |none=>simp only[Op.equalIn,Sem.run_bind,run_underlying hu,Result.andThen_ok,←ha'];rfl
      |some a=>cases ha
    . obtain ⟨a,n,c,rfl,ha⟩:=kx h1 hx
      obtain ⟨a',n',c',rfl,ha'⟩:=kx h2 hy
      cases a' with
      |some a'=>cases ha'
      |none=>cases a with
       |none=>simp only[Op.equalIn,Sem.run_bind,run_underlying hu,Result.andThen_ok,←ha];rfl
       |some a=>simp only[Op.equalIn,Sem.run_bind,run_underlying hu,Result.andThen_ok,←ha];rfl
  . rename_i e hd
    rw[hd] at hu;rcases vJ h with ⟨h1,h2⟩ | ⟨h1,h2⟩
    . obtain ⟨a,rfl,ha⟩:=ky h1 hx
      obtain ⟨a',rfl,ha'⟩:=ky h2 hy
      cases a with
      |none=>simp only[Op.equalIn,Sem.run_bind,run_underlying hu,Result.andThen_ok,←ha'];rfl
      |some a=>cases ha
    . obtain ⟨a,rfl,ha⟩:=ky h1 hx
      obtain ⟨a',rfl,ha'⟩:=ky h2 hy
      cases a' with
      |some a'=>cases ha'
      |none=>cases a with
       |none=>simp only[Op.equalIn,Sem.run_bind,run_underlying hu,Result.andThen_ok,←ha];rfl
       |some a=>simp only[Op.equalIn,Sem.run_bind,run_underlying hu,Result.andThen_ok,←ha];rfl
  . cases h
theorem vK {op:BinOp}{t:TypeId}{x y:C}{xv yv:Value}(xo yo:Operand)(hx:Rep G x xv)(hy:Rep G y yv){p:Plan}(h:ji P op t x y=some p):
 ∃c v,p= .val c none∧c.noOwn∧(do eqGuard op t xo yo xv yv;binOp op t xv yv).run P w= .ok v w∧Rep G c v:=by
 unfold ji at h;split at h
 . rename_i hh
   obtain ⟨h12,h3⟩:=hh;have shape: ((∃va,xv= .agg va)∧∃vb,yv= .agg vb)∨((∃a n c,xv= .slice a n c)∧∃a n c,yv= .slice a n c)∨((∃a,xv= .pointer a)∧∃a,yv= .pointer a):=by
    rcases h12 with ⟨h1,h2⟩ | ⟨h1,h2⟩ | ⟨h1,h2⟩
    . obtain ⟨xs,h1⟩:=Option.isSome_iff_exists.1 h1
      obtain ⟨ys,h2⟩:=Option.isSome_iff_exists.1 h2;obtain ⟨va,rfl,a1,a2⟩:=ir h1 hx;obtain ⟨vb,rfl,b1,b2⟩:=ir h2 hy;exact .inl ⟨⟨_,rfl⟩,⟨_,rfl⟩⟩
    . obtain ⟨b1,h1⟩:=Option.isSome_iff_exists.1 h1
      obtain ⟨b2,h2⟩:=Option.isSome_iff_exists.1 h2;obtain ⟨a,n,c,e1,_⟩:=kx h1 hx;obtain ⟨a',n',c',e2,_⟩:=kx h2 hy;exact .inr (.inl ⟨⟨_,_,_,e1⟩,⟨_,_,_,e2⟩⟩)
    . obtain ⟨b1,h1⟩:=Option.isSome_iff_exists.1 h1
      obtain ⟨b2,h2⟩:=Option.isSome_iff_exists.1 h2;obtain ⟨a,e1,_⟩:=ky h1 hx;obtain ⟨a',e2,_⟩:=ky h2 hy;exact .inr (.inr ⟨⟨_,e1⟩,⟨_,e2⟩⟩)
   split at h
   . cases he:gL P 9 t x y with
     |none=>rw[he] at h;cases h
     |some b=>
      rw[he] at h;cases h;have:=tb (G:=G) (w:=w) 9 t x y b _ _ he hx hy Op.maxDepth (by decide);rcases shape with ⟨⟨_,rfl⟩,⟨_,rfl⟩⟩ | ⟨⟨_,_,_,rfl⟩,⟨_,_,_,rfl⟩⟩ | ⟨⟨_,rfl⟩,⟨_,rfl⟩⟩ <;>
       exact ⟨_,.bool b,rfl,trivial,by simp[eqGuard,binOp,h3,Op.equal,this],aj.2 rfl⟩
   . cases he:gL P 9 t x y with
     |none=>rw[he] at h;cases h
     |some b=>
      rw[he] at h;cases h;have:=tb (G:=G) (w:=w) 9 t x y b _ _ he hx hy Op.maxDepth (by decide);rcases shape with ⟨⟨_,rfl⟩,⟨_,rfl⟩⟩ | ⟨⟨_,_,_,rfl⟩,⟨_,_,_,rfl⟩⟩ | ⟨⟨_,rfl⟩,⟨_,rfl⟩⟩ <;>
       exact ⟨_,.bool !b,rfl,trivial,by simp[eqGuard,binOp,h3,Op.equal,this],aj.2 rfl⟩
   . cases h
 . cases h
theorem BS {op:BinOp}{t:TypeId}{x y:C}{xv yv:Value}(xo yo:Operand)(hx:Rep G x xv)(hy:Rep G y yv){p:Plan}(h:aw P op t x y=some p):
 ∃c v,p= .val c none∧c.noOwn∧(do eqGuard op t xo yo xv yv;binOp op t xv yv).run P w= .ok v w∧Rep G c v:=by
 unfold aw at h;split at h
 . rw[aj] at hx hy
   subst hx hy;split at h
   . rename_i tdo p' q d hd
     split at h
     . rename_i hb
       cases hs:bW op (.bool p') (.bool q) with
       |none=>rw[hs] at h;cases h
       |some v=>
        rw[hs] at h;cases h;exact ⟨_,v,rfl,trivial,Ew P w op t xo yo p' q (hb▸(aQ hd).1) hs,aj.2 rfl⟩
     . cases h
   . rename_i tdo k p' k' q
     cases hs:bW op (.int k p') (.int k' q) with
     |none=>rw[hs] at h;cases h
     |some v=>
      rw[hs] at h;cases h;exact ⟨_,v,rfl,trivial,IT P w op t xo yo k k' p' q hs,aj.2 rfl⟩
   . rename_i tdo p' q
     cases hs:bW op (.string p') (.string q) with
     |none=>rw[hs] at h;cases h
     |some v=>
      rw[hs] at h;cases h;exact ⟨_,v,rfl,trivial,IU P w op t xo yo p' q hs,aj.2 rfl⟩
   . exact vK xo yo (aj.2 rfl) (aj.2 rfl) h
 . exact vK xo yo hx hy h
theorem EI {op:UnOp}{x:C}{xv:Value}(hx:Rep G x xv){p:Plan}(h:gM op x=some p):
 ∃c v,p= .val c none∧c.noOwn∧(Op.unary op xv).run P w= .ok v w∧Rep G c v:=by
 unfold gM at h;split at h<;>first| (cases h;done) |skip
 all_goals
  rw[aj] at hx;subst hx;cases h;exact ⟨_,_,rfl,trivial,rfl,aj.2 rfl⟩
end
section
variable {cx:Cx} {G:Gh} {h:Hp} {w:World} {st:St} {a:Act} {o:Oper} {P:Program}
def qj (P:Program)(w:World)(size:Nat)(yv:Value)(m:Nat)(news:List Value):Prop:=
 (∀w',(Builtin.lenOf yv).run P w'= .ok m w')∧(∀w':World,w'.heap=w.heap→(Builtin.firstCells size m yv).run P w'= .ok news.toArray w')∧∀u∈news,u.oneCell'=true
theorem fb {w':World}(size m:Nat)(blk off len cap:Nat)(news:List Value)(hl:news.length=m*size)(hc:∀j u,news[j]? =some u→w'.cell? ⟨blk,off+j,none⟩ =some u):
 (Builtin.firstCells size m (.slice (some ⟨blk,off,none⟩) len cap)).run P w'= .ok news.toArray w':=
 run_firstCells_some w' size m ⟨blk,off,none⟩ len cap news hl fun j v hv=>by rw[dc];exact hc j v hv
theorem xP (H:WorldOK G h w){y:C}{yv:Value}{m size:Nat}{ys:List C}(hs:je y=some (m,ys))(hlen:ys.length=m*size)(hr:Rep G y yv):
 ∃news,news.length=ys.length∧RepL G ys news∧qj P w size yv m news:=by
 unfold je at hs;split at hs
 . rename_i s
   cases hs;rw[aj] at hr;subst hr;refine ⟨s.data.toList.map fun b=> .int .u8 b.toNat,by simp,?_,fun w'=>rfl,fun w' _=>?_,?_⟩
   . refine RepL.of_get (by simp) fun i x v hx hv=>?_
     rw[List.getElem?_map] at hx hv
     cases hb:s.data.toList[i]? with
     |none=>rw[hb] at hx;cases hx
     |some b=>rw[hb] at hx hv;cases hx;cases hv;exact aj.2 rfl
   . simp only[Builtin.firstCells,Sem.run_pure]
     congr 1
     have:s.extract 0 s.size=s:=by
      apply ByteArray.ext;simp
     rw[this];apply Array.ext';simp
   . intro u hu
     obtain ⟨b,_,rfl⟩:=List.mem_map.1 hu;rfl
 . rename_i c hne
   obtain ⟨b,cap,rfl,hmc,hcm,hk⟩:=lL hs hr;rcases hk with rfl| ⟨blk,off,rfl,hk⟩
   . have hz:m*size=0:=by simpa using hlen.symm
     refine ⟨[],rfl,by simp[RepL],fun _=>rfl,fun w' _=>?_,by simp⟩
     cases b with
     |none=>simp[Builtin.firstCells]
     |some ad=>simp[Builtin.firstCells,hz,loadCells,loadCellsFrom]
   . obtain ⟨vs,v1,v2,v3,v4⟩:=hk.values
     refine ⟨vs,v1,v2,fun _=>rfl,fun w' hw'=>fb size m blk off m cap vs (by rw[v1,hlen]) fun j u hu=>?_,v4⟩;have:=H.known _ _ _ (v3 j u hu);rw[←this];simp only[World.cell?,hw']
theorem te (H:WorldOK G h w){b off m size:Nat}{yv:Value}{cells:List C}(hb:h.at b=some cells)(hlen:off+m*size≤cells.length)(hr:Rep G (.sv b off m) yv):
 ∃news,news.length=m*size∧RepL G (((cells.drop off).take (m*size)).map C.noR) news∧qj P w size yv m news:=by
 simp only[Rep] at hr;obtain ⟨ad,cap,rfl,hmc,hcm,had⟩:=hr;by_cases hm:m=0
 . subst hm
   refine ⟨[],by simp,by simp[RepL],fun _=>rfl,fun w' hw'=>?_,by simp⟩
   cases ad with
   |none=>simp[Builtin.firstCells]
   |some ad=>simp[Builtin.firstCells,loadCells,loadCellsFrom]
 . obtain ⟨blk,h1,rfl⟩:=had hm
   obtain ⟨cs,e,⟨fr,h2,_⟩,h0,h3,h4⟩:=H.bx hb h1;have hcl: (cs.toList.take cells.length).length=cells.length:=h3.length.symm;have hnl: (((cs.toList.take cells.length).drop off).take (m*size)).length=m*size:=by
    simp only[List.length_take,List.length_drop] at hcl ⊢;omega
   refine ⟨((cs.toList.take cells.length).drop off).take (m*size),hnl,((h3.drop off).take _).map_noR,fun _=>rfl,fun w' hw'=>?_,fun u hu=>h4 u (List.mem_of_mem_take (List.mem_of_mem_drop (List.mem_of_mem_take hu)))⟩;refine fb size m blk off m cap _ hnl fun j u hu=>?_;rw[List.getElem?_take] at hu;split at hu
   . rw[List.getElem?_drop,List.getElem?_take] at hu
     split at hu
     . simp only[World.cell?,hw',h2]
       simpa using hu
     . cases hu
   . cases hu
theorem eL (P:Program)(g o:Nat)(t:TypeId)(fr:Nat×Nat):∀ (vs:List Value)(i:Nat)(cur:Array Value)(w:World),w.heap[g]? =some (.cells cur t fr)→(fr.2=0∨cur.size≤fr.1)→
 o+i+vs.length≤cur.size→(∀v∈vs,v.oneCell'=true)→
 (storeCells ⟨g,o,none⟩ vs i).run P w= .ok () (w.setRow g (cur.toList.take (o+i)++vs++cur.toList.drop (o+i+vs.length)).toArray)
 | [],i,cur,w,hg,_,_,_=>by
   simp only[storeCells,List.append_nil,List.length_nil,Nat.add_zero,List.take_append_drop,Array.toArray_toList];rw[setRow_self w g cur t fr hg];rfl
 |v::rest,i,cur,w,hg,hf,hl,h1=>by
  have hi:o+i< cur.size:=by simp at hl;omega
  have hadd: (⟨g,o,none⟩:Addr).add i= ⟨g,o+i,none⟩:=by unfold Addr.add;split<;>simp_all
  have hcell:w.cell? ⟨g,o+i,none⟩ =some cur[o+i]:=by simp[World.cell?,hg,hi]
  have hfro:w.frozen? ⟨g,o+i,none⟩ =false:=by
   obtain ⟨lo,hi'⟩:=fr;simp only[World.frozen?,hg,Bool.and_eq_false_iff,decide_eq_false_iff_not];simp only at hf;omega
  have hst: (store ((⟨g,o,none⟩:Addr).add i) v).run P w= .ok () (w.setRow g (cur.setIfInBounds (o+i) v)):=by
   rw[hadd,run_store P w _ v _ (h1 v (by simp)),hcell];simp[hfro,setCell_eq_setRow w g (o+i) cur t fr v hg]
  have ih:=eL P g o t fr rest (i+1) (cur.setIfInBounds (o+i) v) (w.setRow g (cur.setIfInBounds (o+i) v)) (setRow_heap w g cur _ t _ hg) (by simpa using hf) (by simp at hl ⊢;omega) (fun x hx=>h1 x (by simp[hx]));simp only[storeCells,Sem.run_bind,hst,Result.andThen_ok,ih,setRow_setRow];congr 3
  have e:=list_seg_step cur.toList (o+i) v rest (by simp at hl ⊢;omega);simpa[Array.toList_setIfInBounds,Nat.add_assoc] using e
theorem m6 (t t2 ty e:TypeId)(d d2 de:TD)(z:Value)(i:TypeInfo)(hd:td P t=some d)(hde:d.u= .slice e)(he:td P e=some de)(hi:P.info? e=some i)(hz:i.zero=some z)
 (hd2:td P t2=some d2) (hn2:ic d2.u=true)
 (b:Option Addr) (n cap:Nat) (olds:List Value) (ho:qj P w de.size (.slice b n cap) n olds) (yv:Value) (m:Nat) (news:List Value) (hs:qj P w de.size yv m news)
 (hg:cap< n+m) (h63:n+m≤9223372036854775807) (hfit: (n+m)*de.bytes≤140737488355328):
 (Builtin.append_ #[t,t2] ty #[.slice b n cap,yv]).run P w=
   .ok (.slice (some ⟨w.heap.size,0,none⟩) (n+m) (grownCap w (n+m) cap e))
    (w.drew.alloc (.cells (olds++news++(Builtin.zeroCells z.cells (grownCap w (n+m) cap e - (n+m))).toList).toArray e)):=by
 obtain ⟨_,i',z',hi',hsz,hby,hz',_⟩:=aQ he;rw[hi] at hi';cases hi';have hn:¬ (n+m≤cap):=by omega
 have h63':¬ (9223372036854775807< ((n:Int)+(m:Int))):=by omega
 have hff:=growslice_fits (need:=n+m) (old:=cap) (bytes:=i.bytes) (by omega) (by rw[hby];exact hfit);have h48':¬ (281474976710656< Builtin.nextslicecap (n+m) cap*i.bytes):=by omega
 have hf:=hs.2.1 w.drew rfl;have hfo:=ho.2.1 w.drew rfl;have hl:=hs.1;rw[←hsz] at hf hfo;have fin: (olds.toArray++news.toArray++Builtin.zeroCells z.cells (grownCap w (n+m) cap e - (n+m))) = (olds++news++(Builtin.zeroCells z.cells (grownCap w (n+m) cap e - (n+m))).toList).toArray:=by
  apply Array.ext';simp
 rw[←fin];rcases kJ hn2 with ⟨e2,hu2⟩ |hu2<;>
  (simp[Builtin.append_,aZ hd,hde,aZ hd2,hu2,sizeOf,typeInfo,zeroValue,hi,hz,hl,hn,h63',h48',Question.forced,hf,hfo,newRow,grownCap]
   try (congr 2;apply Array.ext';simp))
theorem n6 (t t2 ty e:TypeId)(d d2 de:TD)(hd:td P t=some d)(hde:d.u= .slice e)(he:td P e=some de)
 (hd2:td P t2=some d2) (hn2:ic d2.u=true)
 (g n cap:Nat) (cur:Array Value) (e':TypeId) (hgr:RowIs w.heap[g]? cur e') (yv:Value) (m:Nat) (news:List Value) (hs:qj P w de.size yv m news)
 (hnl:news.length=m*de.size) (hg:n+m≤cap) (hfit: (n+m)*de.size≤cur.size):
 (Builtin.append_ #[t,t2] ty #[.slice (some ⟨g,0,none⟩) n cap,yv]).run P w=
   .ok (.slice (some ⟨g,0,none⟩) (n+m) cap) (w.setRow g (cur.toList.take (n*de.size)++news++cur.toList.drop (n*de.size+news.length)).toArray):=by
 obtain ⟨_,i,z,hi,hsz,hby,hz,_⟩:=aQ he;have hf:=hs.2.1 w rfl;have hl:=hs.1;rw[←hsz] at hf;obtain ⟨fr,hgr,hfr⟩:=hgr;have hst:=eL P g (n*i.size) e' fr news 0 cur w hgr hfr (by rw[hnl,Nat.add_zero,hsz,←Nat.add_mul];exact hfit) hs.2.2;simp only[Nat.add_zero] at hst;rw[hsz] at hst;rw[hsz] at hf;rcases kJ hn2 with ⟨e2,hu2⟩ |hu2<;>
  simp[Builtin.append_,aZ hd,hde,aZ hd2,hu2,bS he,hl,hg,hf,dc,hst]
theorem k8 (t t2 ty e:TypeId)(d d2 de:TD)(hd:td P t=some d)(hde:d.u= .slice e)(he:td P e=some de)
 (hd2:td P t2=some d2) (hn2:ic d2.u=true) (b:Option Addr) (n:Nat) (yv:Value) (hs:qj P w de.size yv 0 []):
 (Builtin.append_ #[t,t2] ty #[.slice b n n,yv]).run P w= .ok (.slice b n n) w:=by
 obtain ⟨_,i,z,hi,hsz,hby,hz,_⟩:=aQ he;have hf:=hs.2.1 w rfl;have hl:=hs.1;rw[←hsz] at hf;rw[hsz] at hf
 cases b with
 |none=>rcases kJ hn2 with ⟨e2,hu2⟩ |hu2<;>simp[Builtin.append_,aZ hd,hde,aZ hd2,hu2,bS he,hl,hf]
 |some ad=>rcases kJ hn2 with ⟨e2,hu2⟩ |hu2<;>simp[Builtin.append_,aZ hd,hde,aZ hd2,hu2,bS he,hl,hf,storeCells]
def gV (G:Gh)(g lo hi:Nat)(cs:Array Value)(q:bB):Gh:=
 { K:=fun b o=>if b=g∧lo≤o∧o< hi then cs[o]? else G.K b o,μ:=G.μ,T:=fun b=>if b=g then some q else G.T b,σ:=G.σ }
theorem OC {g lo hi:Nat}{cs:Array Value}{q:bB}(hk:∀o,lo≤o→G.K g o=none):G.Le (gV G g lo hi cs q):=
 ⟨fun b o u hu=>(by
   simp only[gV];rw[if_neg]
   . exact hu
   . rintro ⟨rfl,h2,_⟩
     rw[hk o h2] at hu;cases hu),fun _ _ x=>x,fun _ _ x=>x⟩
theorem OD (H:WorldOK G h w){g p lo hi:Nat}{q:bB}{cur cur':Array Value}{e:TypeId}(ht:G.T g=some (0,p,0))(hg:w.heap[g]? =some (.cells cur e (0,0)))
 (hk:∀o,lo≤o→G.K g o=none) (hm:∀b,G.μ b≠some g) (hsame:∀j,j< lo→cur'[j]? =cur[j]?):
 WorldOK (gV G g lo hi cur' q) h (w.setRow g cur')∧Frm G w (gV G g lo hi cur' q) (w.setRow g cur')∧
 ∀ (r:bB)(v:Value)(s n:Nat),r≠(0,p,0)→OwnRow G w r v s n→OwnRow (gV G g lo hi cur' q) (w.setRow g cur') r v s n:=by
 have le:=OC (hi:=hi) (cs:=cur') (q:=q) hk;have hblk: (w.setRow g cur').heap[g]? =some (.cells cur' e (0,0)):=setRow_heap w g cur cur' e (0,0) hg;have hoth:∀b,b≠g→(w.setRow g cur').heap[b]? =w.heap[b]? :=fun b hne=>setRow_other w g b cur' hne;have own:∀ (r:bB)(v:Value)(s n:Nat),r≠(0,p,0)→OwnRow G w r v s n→OwnRow (gV G g lo hi cur' q) (w.setRow g cur') r v s n:=by
  intro r v s n hr O;rcases O with O| ⟨k,cap,c,e',a1,a2,a3,a4,a5,a6⟩
  . exact .inl O
  . have hne:k≠g:=fun e=>by rw[e,ht] at a2;cases a2;exact hr rfl
    refine .inr ⟨k,cap,c,e',a1,by simp only[gV];rw[if_neg hne];exact a2,by rw[hoth k hne];exact a3,a4,fun o ho=>?_,a6⟩;simp only[gV];rw[if_neg (fun x=>hne x.1)];exact a5 o ho
 refine ⟨⟨?_,?_,fun b blk hb=>by have:=H.dom b blk hb;simpa using this,H.inj,?_,?_,?_,?_,H.mpoT (fun _ _ x=>x) (fun k es clk hk=>by rw[hoth k (fun e=>by rw[e,hg] at hk;cases hk)];exact hk) le,H.mpi⟩,⟨rfl,rfl,rfl,by simp,le,?_⟩,own⟩
 . intro b o u hu
   simp only[gV] at hu;split at hu
   . rename_i hb
     obtain ⟨rfl,h2,h3⟩:=hb;simp only[World.cell?,hblk];simpa using hu
   . rename_i hb
     by_cases hbg:b=g
     . subst hbg
       have hlt:o< lo:=by
        rcases Nat.lt_or_ge o lo with hl|hl
        . exact hl
        . rw[hk o hl] at hu;cases hu
       have:=H.known b o u hu;simp only[World.cell?,hblk,hg] at this ⊢;rw[hsame o hlt];exact this
     . have:=H.known b o u hu
       rw[←this];exact World.cell?_of_block (hoth b hbg)
 . intro b cells hb
   rcases H.box b cells hb with hE| ⟨blk,cs,e',r1,r2,r0,r3,r4⟩
   . exact .inl hE
   . have hne:blk≠g:=fun e=>hm b (e▸r1)
     exact .inr ⟨blk,cs,e',r1,by rw[hoth blk hne];exact r2,r0,r3.mono le,r4⟩
 . intro b blk hb
   have hne:blk≠g:=fun e=>hm b (e▸hb);obtain ⟨s1,s2⟩:=H.sep b blk hb;refine ⟨fun o=>?_,?_⟩
   . simp only[gV];rw[if_neg (fun x=>hne x.1)];exact s1 o
   . simp only[gV];rw[if_neg hne];exact s2
 . intro b r hb
   simp only[gV] at hb;split at hb
   . subst_vars
     have:=H.tlt _ _ ht;simpa using this
   . have:=H.tlt b r hb
     simpa using this
 . intro b cells off s n xs blk v hb hc hμ hv
   have hne:blk≠g:=fun e=>hm b (e▸hμ);have hv2:w.cell? ⟨blk,off,none⟩ =some v:=by rw[←hv];exact (World.cell?_of_block (hoth blk hne)).symm
   exact own _ v s n (by simp) (H.own b cells off s n xs blk v hb hc hμ hv2)
 . intro b z hz
   obtain ⟨k,cs',e',fr',r1,r2,r3⟩:=H.siz b z hz;have hne:k≠g:=fun e=>hm b (e▸r1);exact ⟨k,cs',e',fr',r1,by rw[hoth k hne];exact r2,r3⟩
 . intro b hb htn hmn
   have hne:b≠g:=fun e=>by rw[e,ht] at htn;cases htn
   refine ⟨hoth b hne,?_,hmn,fun o=>?_⟩
   . simp only[gV];rw[if_neg hne];exact htn
   . simp only[gV];rw[if_neg (fun x=>hne x.1)]
end
section
variable {cx:Cx} {G:Gh} {h:Hp} {w:World} {st:St} {a:Act} {o:Oper} {P:Program}
theorem eS (b:Builtin)(args:Array Operand)(ts:Array TypeId)(s:Sem Value)(ho:o.op= .call { callee:= .builtin b,args,argTypes:=ts })
 (hb:∀cs,builtin b ts o.type cs (args.map a.eval) = (do pure (.value (←s)))):
 (execOp a.eval o).run P w= (s.run P w).andThen fun v w'=> .ok (.value v) w':=by
 unfold execOp;simp only[ho,resolve,Sem.run_bind,Sem.run_pure,Result.andThen_ok,invoke];rw[hb];simp only[Sem.run_bind,Sem.run_pure]
theorem OF (H:WorldOK G h w){n s:Nat}{xs:List C}{b:Option Addr}{cap:Nat}(hlen:xs.length=n*s)(hk:xs= []∨∃blk off,b=some ⟨blk,off,none⟩∧RepK G blk off xs):
 ∃olds,olds.length=xs.length∧RepL G xs olds∧qj P w s (.slice b n cap) n olds:=by
 rcases hk with rfl| ⟨blk,off,rfl,hk⟩
 . have hz:n*s=0:=by simpa using hlen.symm
   refine ⟨[],rfl,by simp[RepL],fun _=>rfl,fun w' _=>?_,by simp⟩
   cases b with
   |none=>simp[Builtin.firstCells]
   |some ad=>simp[Builtin.firstCells,hz,loadCells,loadCellsFrom]
 . obtain ⟨vs,v1,v2,v3,v4⟩:=hk.values
   refine ⟨vs,v1,v2,fun _=>rfl,fun w' hw'=>fb s n blk off n cap vs (by rw[v1,hlen]) fun j u hu=>?_,v4⟩;rw[←H.known _ _ _ (v3 j u hu)];simp only[World.cell?,hw']
theorem jY (z:Array Value)(n:Nat): (Builtin.zeroCells z n).size=n*z.size:=by simp[Builtin.zeroCells]
theorem n7 {G:Gh}{blk off:Nat}{xs:List C}{vs:List Value}(h:RepL G xs vs)(h1:∀u∈vs,u.oneCell'=true)(hk:∀ (j:Nat) (u:Value),vs[j]? =some u→G.K blk (off+j) =some u):RepK G blk off xs:=
 RepK.of_get fun i x hx=>by
  obtain ⟨u,hu,hr⟩:=h.get i x hx;exact ⟨u,hk i u hu,h1 u (List.mem_of_getElem? hu),hr⟩
theorem nz (H:Pre cx G w st a)(d:bB){t t2 ty e:TypeId}{dt d2 de:TD}(hd:td cx.P t=some dt)(hde:dt.u= .slice e)(he:td cx.P e=some de)
 (hd2:td cx.P t2=some d2) (hn2:ic d2.u=true)
 {n:Nat} {xs:List C} {k:Option Nat} {b:Option Addr} {cap:Nat} (hnc:n≤cap) (hcm:cap≤maxLen) (hk:xs= []∨∃blk off,b=some ⟨blk,off,none⟩∧RepK G blk off xs)
 (hstart:cap=n∨∃p,k=some p∧OwnRow G w (0,p,0) (.slice b n cap) de.size n)
 {yv:Value} {m:Nat} {ys:List C} {news:List Value} (hnl:news.length=ys.length) (hry:RepL G ys news) (hsrc:qj cx.P w de.size yv m news)
 (h1:xs.length=n*de.size) (h2:ys.length=m*de.size) (h3:0< de.size) (h4:de.zero.length=de.size) (h5: (n+m)*de.bytes≤140737488355328) (h6:n+m≤9223372036854775807):
 ∃v w' G',(Builtin.append_ #[t,t2] ty #[.slice b n cap,yv]).run cx.P w= .ok v w'∧Out G w ⟨br k st.env,st.h⟩ (av a) d (.sl (.own de.size) (n+m) (xs++ys)) v G' w':=by
 obtain ⟨olds,o1,o2,o3⟩:=OF (P:=cx.P) (cap:=cap) H.ok h1 hk;have hml:maxLen=9223372036854775807:=by decide
 obtain ⟨_,i,z,hi,hsz,hby,hz,hzz⟩:=aQ he;have envk:gD G w (br k st.env) (av a):=⟨fun t=>kY H.env _ t,fun t s n xs e=>H.env.2 t s n xs (jD e).1⟩;by_cases hgr:cap< n+m
 ·
  have hrun:=m6 (P:=cx.P) (w:=w) t t2 ty e dt d2 de z i hd hde he hi hz hd2 hn2 b n cap olds o3 yv m news hsrc hgr h6 h5;have hge:=grownCap_ge w (n+m) cap e;have hcm':grownCap w (n+m) cap e≤maxLen:=grownCap_le_maxLen w (n+m) cap e (by omega);obtain ⟨W,E⟩:=WorldOK.commit (w':=w.drew.alloc (.cells (olds++news++(Builtin.zeroCells z.cells (grownCap w (n+m) cap e - (n+m))).toList).toArray e)) H.ok (olds++news) (some d)
   _ e (0,0) rfl rfl rfl rfl (by
     intro j u hu;simp only[List.getElem?_toArray];rw[List.getElem?_append_left (List.getElem?_eq_some_iff.1 hu).1];exact hu)
  have le:=E.le H.ok;refine ⟨_,_,_,hrun,⟨?_,?_,W,E.env H.ok envk,E.frm H.ok⟩⟩
  . simp only[Rep]
    refine ⟨_,_,rfl,hge,hcm',by simp,.inr ⟨w.heap.size,0,rfl,?_⟩⟩;refine n7 ((o2.append hry).mono le) ?_ ?_
    . intro u hu
      rcases List.mem_append.1 hu with hu|hu
      . exact o3.2.2 u hu
      . exact hsrc.2.2 u hu
    . intro j u hu
      simp only[co,Sx.commit,Nat.zero_add,if_true];exact hu
  . intro s' n' xs' e'
    cases e';refine .inr ⟨w.heap.size,_,_,e,rfl,by simp[co],iS w.drew _,?_,fun q hq=>?_,fun b' hb'=>?_⟩
    . simp only[List.size_toArray,List.length_append,Array.length_toList,jY]
      have hzl:z.cells.size=de.size:=by rw[←h4,←hzz];simp
      rw[o1,hnl,h1,h2,hzl,←Nat.add_mul,←Nat.add_mul];congr 1
      omega
    . simp only[co,Sx.commit,if_true]
      rw[List.getElem?_eq_none];simp only[List.length_append,o1,hnl,h1,h2,←Nat.add_mul];exact hq
    . have:G.μ b'=some w.heap.size:=hb'
      have:=H.ok.μlt this;omega
 . have hfit:n+m≤cap:=by omega
   have nothing:∀ (hm0:m=0)(hOwn:∃G',G.Le G'∧WorldOK G' st.h w∧Frm G w G' w∧gD G' w (br k st.env) (av a)∧OwnRow G' w d (.slice b n cap) de.size n)
    (hrun: (Builtin.append_ #[t,t2] ty #[.slice b n cap,yv]).run cx.P w= .ok (.slice b n cap) w),
    ∃v w' G',(Builtin.append_ #[t,t2] ty #[.slice b n cap,yv]).run cx.P w= .ok v w'∧Out G w ⟨br k st.env,st.h⟩ (av a) d (.sl (.own de.size) (n+m) (xs++ys)) v G' w':=by
    intro hm0 hOwn hrun;obtain ⟨G',le,W,F,Ev,O⟩:=hOwn;have hy0:ys= []:=List.eq_nil_of_length_eq_zero (by rw[h2,hm0,Nat.zero_mul]);subst hm0;refine ⟨_,_,G',hrun,⟨?_,?_,W,Ev,F⟩⟩
    . have:Rep G (.sl (.own de.size) n xs) (.slice b n cap):=by
       simp only[Rep];exact ⟨b,cap,rfl,hnc,hcm,by simp,hk⟩
      simpa[hy0] using this.mono le
    . intro s' n' xs' e'
      simp only[Nat.add_zero] at e';cases e';exact O
   by_cases hcn:cap=n
   . have hm0:m=0:=by omega
     have hn0:news= []:=List.eq_nil_of_length_eq_zero (by rw[hnl,h2,hm0,Nat.zero_mul]);subst hcn;refine nothing hm0 ⟨G,.refl G,H.ok,Frm.refl G w,envk,.inl ⟨b,rfl⟩⟩ (k8 t t2 ty e dt d2 de hd hde he hd2 hn2 b _ yv ?_);rw[hm0,hn0] at hsrc;exact hsrc
   . rcases hstart with hs| ⟨p,rfl,O⟩
     . exact absurd hs hcn
     rcases O with ⟨ad,hO⟩ | ⟨g,cap',cur,e',a1,a2,a3,a4,a5,a6⟩
     . cases hO;exact absurd rfl hcn
     cases a1;have hcur: (n+m)*de.size≤cur.size:=by rw[a4];exact Nat.mul_le_mul_right _ hfit
     have hrun:=n6 (P:=cx.P) (w:=w) t t2 ty e dt d2 de hd hde he hd2 hn2 g n cap cur e' (by rw[a3];exact .of) yv m news hsrc (by rw[hnl,h2]) hfit hcur;have hnd:n*de.size+news.length= (n+m)*de.size:=by rw[hnl,h2,Nat.add_mul]
     have htl: (cur.toList.take (n*de.size)).length=n*de.size:=by
      rw[List.length_take,Array.length_toList];omega
     obtain ⟨W,F,Ow⟩:=OD (G:=G) (cur':=(cur.toList.take (n*de.size)++news++cur.toList.drop (n*de.size+news.length)).toArray) (hi:=(n+m)*de.size) (q:=d) H.ok a2 a3 a5 a6 (by
      intro j hj;simp only[List.getElem?_toArray];rw[List.append_assoc,List.getElem?_append_left (by rw[htl];exact hj),List.getElem?_take,if_pos hj];simp)
     have le:=F.le;refine ⟨_,_,_,hrun,⟨?_,?_,W,⟨fun t=>(envk.1 t).mono le,fun t s' n' xs' e''=>?_⟩,F⟩⟩
     . simp only[Rep]
       refine ⟨_,_,rfl,hfit,hcm,by simp,.inr ⟨g,0,rfl,?_⟩⟩;rcases hk with hk| ⟨blk,off,hb,hk⟩
       . have hx0:n*de.size=0:=by rw[←h1,hk];rfl
         subst hk;refine n7 (hry.mono le) hsrc.2.2 fun j u hu=>?_;have hj:j< news.length:=(List.getElem?_eq_some_iff.1 hu).1;simp only[gV,Nat.zero_add];rw[if_pos ⟨trivial,by omega,by omega⟩];simp only[List.getElem?_toArray];rw[hx0];simp[List.getElem?_append_left hj,hu]
       . cases hb
         refine RepK.append (hk.mono le) (n7 (hry.mono le) hsrc.2.2 fun j u hu=>?_);have hj:j< news.length:=(List.getElem?_eq_some_iff.1 hu).1;simp only[gV,Nat.zero_add,h1];rw[if_pos ⟨trivial,by omega,by omega⟩];simp only[List.getElem?_toArray];rw[List.append_assoc,List.getElem?_append_right (by rw[htl];omega),htl,Nat.add_sub_cancel_left,List.getElem?_append_left hj];exact hu
     . intro s' n' xs' e''
       cases e'';refine .inr ⟨g,cap,_,e',rfl,by simp[gV],setRow_heap w g cur _ e' (0,0) a3,?_,fun q hq=>?_,a6⟩
       . simp only[List.size_toArray,List.length_append,List.length_drop,Array.length_toList,htl]
         rw[←a4];omega
       . simp only[gV]
         rw[if_neg (by omega)];exact a5 q (Nat.le_trans (Nat.mul_le_mul_right _ (by omega)) hq)
     . obtain ⟨e1,e2⟩:=jD (env:=st.env) (k:=some p) e''
       have hpt:p≠t:=by simpa using e2
       exact Ow _ _ _ _ (by simp;exact fun x=>hpt x.symm) (H.env.2 t s' n' xs' e1)
end
end Go.Sx
