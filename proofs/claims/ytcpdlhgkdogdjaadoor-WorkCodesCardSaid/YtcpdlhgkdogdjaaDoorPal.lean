/-
   And what follows.
-/
import Derived.Test.YtcpdlhgkdogdjaaDoorProg
import Derived.KernelRfl
import Derived.Test.YtcpdlhgkdogdjaaDoorPak
import Derived.Test.YtcpdlhgkdogdjaaDoorPaj
set_option linter.unusedSimpArgs false
set_option linter.unusedVariables false
namespace Go.Sx
open Go.RowKit
theorem xQ {G:Gh}{h:Hp}{w:World}(W:WorldOK G h w){l:Nat}{r:Loop}(hl:w.heap[l]? =some (.loop r))(o:Nat):G.K l o=none:=by
 cases hk:G.K l o with
 |none=>rfl
 |some u=>
  have:=W.known l o u hk;unfold World.cell? at this;rw[hl] at this;cases this
theorem FrmX.put {l n:Nat}{G:Gh}{w:World}(ob:Obj):FrmX l n G w G (w.putObj l ob):=
 ⟨rfl,rfl,rfl,by simp,fun _ _ _ x=>x,fun _ _ _ x=>x,fun _ _ _ x=>x,fun g hg _ ht hm=>⟨World.putObj_heap_other hg,ht,hm,fun _=>rfl⟩⟩
theorem FrmX.toFrm {l n:Nat}{G G':Gh}{w w':World}{h h':Hp}{r r0:Loop}(F:FrmX l n G w G' w')(hn:∀b k,G.μ b=some k→b< n)(W:WorldOK G h w)(W':WorldOK G' h' w')(h0:w.heap[l]? =some (.loop r0))(hl:w'.heap[l]? =some (.loop r))(hT:G'.T l=none)(hμ:∀b,G'.μ b≠some l):
 Frm G (w.putObj l (.loop r)) G' w':=
 ⟨F.os,F.tape,F.output,by rw[World.putObj_size];exact F.size,⟨F.K,fun b k x=>F.μ b k (hn b k x) x,fun b z x=>F.σ b z (by
   obtain ⟨k,_,_,_,hm,_⟩:=W.siz b z x;exact hn b k hm) x⟩,fun g hg ht hm=>by
   rw[World.putObj_size] at hg;by_cases e:g=l
   . subst e
     exact ⟨by rw[World.putObj_heap_same hg];exact hl,hT,hμ,fun o=>by rw[xQ W h0,xQ W' hl]⟩
   . obtain ⟨a1,a2⟩:=F.old g e hg ht hm
     exact ⟨by rw[World.putObj_heap_other e];exact a1,a2⟩⟩
theorem Shut.put {G:Gh}{w:World}{l:Nat}{ob0 ob:Obj}(h0:w.heap[l]? =some ob0)(hb:Bk ob0)(hT:G.T l=none)(hμ:∀b,G.μ b≠some l):Shut 0 G w (w.putObj l ob):=
 ⟨rfl,rfl,rfl,by simp,fun g=>by
   by_cases e:g=l
   . subst e;exact .inr ⟨Nat.zero_le _,⟨_,h0,hb⟩,hT,hμ⟩
   . exact .inl (World.putObj_heap_other e)⟩
theorem Sim.putL {cx:Cx}{G:Gh}{w:World}{st:St}{a:Act}{l:Nat}{r:Loop}{ob:Obj}(H:Sim cx G w st a)(h0:w.heap[l]? =some (.loop r))(hT:G.T l=none)(hμ:∀b,G.μ b≠some l):Sim cx G (w.putObj l ob) st a:=by
 have S:=Shut.put (ob:=ob) h0 (.inr ⟨r,rfl⟩) hT hμ;exact ⟨⟨H.defers.1,fun d hd=>by
  obtain ⟨E,e1,e2,e3⟩:=H.defers.2 d hd;refine ⟨E,e1,(World.putObj_heap_other fun q=>?_).trans e2,e3⟩;rw[q,h0] at e2;cases e2⟩,H.size,S.ok H.pre.ok,⟨H.pre.env.1,fun t s n xs e=>S.row (H.pre.env.2 t s n xs e)⟩,H.pre.glob⟩
def kz (IN:Hp→Prop)(B:Code→Hp→Prop):Option Code→Hp→Prop
 |none,h=>IN h
 |some j,h=>B j h
def ItrI (P:Program)(gl:Nat→C)(f:Nat)(caps:List C)(N:Nat)(xs:Nat→List C)(I:Nat→Hp→Prop):Prop:=
 jB P f∧∀ (l:Nat)(rec:LoopState→Option Code→Loop)(B:Code→Hp→Prop)(h:Hp)(G:Gh)(w:World)(vs:Array Value)(Y:Ys),vM P gl l rec G Y→
  (∀i h post,i< N→I i h→(∀o k,kz (I (i+1)) B o k→post o k)→Y (xs i) h post)→I 0 h→WorldOK G h w→(∀g p,G.T g=some p→p.1=1)→(∀g,Rep G (gl g) (.pointer (some ⟨g,0,none⟩)))→Rdy l rec G w .ready none→RepL G caps vs.toList→
  CallsIn Fence.wide 0 P f (#[.func (.yield l) #[] #[]]++vs) w fun e w'=> ∃v o G' h',e= .returned v∧kz (I N) B o h'∧WorldOK G' h' w'∧Frm G (w.putObj l (.loop (rec (jW o) o))) G' w'
def Lf (p:Option Code→Hp→Prop):Option Code→Ex→St→Prop
 |_,.exit _,_=>False
 |o,_,st=>p o st.h
theorem ItrI.of {cx:Cx} {f:Nat} {fn:Func} {code:Code} {caps:List C} {N:Nat} {xs:Nat→List C} {I:Nat→Hp→Prop} (hN:cx.N=fn.ntmps) (hf:cx.P.funcs[f]? =some fn) (hn: (fn.name== "runtime.NumGoroutine") =false) (hb:fn.body=some code) (hrs:fn.results= #[]) (hlen:caps.length+1≤fn.ntmps)
 (hT:∀ (l:Nat)(rec:LoopState→Option Code→Loop)(G:Gh)(B:Code→Hp→Prop)(h:Hp)(Y:Ys),vM cx.P cx.gl l rec G Y→(∀i h post,i< N→I i h→(∀o k,kz (I (i+1)) B o k→post o k)→Y (xs i) h post)→I 0 h→
   TrY l rec G cx h.length code ⟨A (bj 0 (.val (.func (.yield l) #[] #[])::caps)),h⟩ (Lf (kz (I N) B))):ItrI cx.P cx.gl f caps N xs I:=by
 refine ⟨⟨fn,hf,hn,by rw[hb];rfl⟩,fun l rec B h G w vs Y hY hI h0 W hTg hgl D hr=>?_⟩;have hvl:vs.size=caps.length:=by rw[hr.length];simp
 have hn0:∀b k,G.μ b=some k→b< h.length:=fun b k hm=>by
  obtain ⟨⟨cells,hc⟩,_⟩:=W.dom b k hm;exact (List.getElem?_eq_some_iff.1 hc).1
 have Le:Gle h.length G G:=⟨fun _ _ _ x=>x,fun b k x=>⟨hn0 b k x,x⟩,fun b z x=>⟨by
  obtain ⟨k,_,_,_,hm,_⟩:=W.siz b z x;exact hn0 b k hm,x⟩⟩
 have hargs:RepL G (.val (.func (.yield l) #[] #[])::caps) (#[Value.func (.yield l) #[] #[]]++vs).toList:=by
  simp only[Array.toList_append,List.cons_append,List.nil_append,RepL];exact ⟨_,_,rfl,aj.2 rfl,hr⟩
 have hsz: (#[Value.func (.yield l) #[] #[]]++vs).size=caps.length+1:=by simp[hvl];omega
 refine callsIn_of_wp_marks (F:=Fence.wide) (n:=0) hf hb trivial ?_;have hsim:Sim cx G w ⟨init (.val (.func (.yield l) #[] #[])::caps),h⟩ { tmps:=(#[.func (.yield l) #[] #[]]++vs)++Array.replicate (fn.ntmps - (#[Value.func (.yield l) #[] #[]]++vs).size) undef,defers:=[] }:=by
  refine ⟨Mks.nil,?_,W,⟨fun t=>?_,fun t s m xs e=>(gR e).elim⟩,hgl⟩
  . rw[Array.size_append,Array.size_replicate,hsz,hN];omega
  . simp only[init,av,Array.getD_eq_getD_getElem?]
    refine Rep.noR ?_
    cases hq: (C.val (.func (.yield l) #[] #[])::caps)[t]? with
    |some x=>
     obtain ⟨v,hv,hrv⟩:=hargs.get t x hq;have hlt:t< (#[Value.func (.yield l) #[] #[]]++vs).size:=by
      have:=(List.getElem?_eq_some_iff.1 hv).1;rw[hsz];simp at this;omega
     rw[Array.getElem?_append_left hlt];have hv': (#[Value.func (.yield l) #[] #[]]++vs)[t]? =some v:=by rw[←Array.getElem?_toList];exact hv
     rw[hv'];exact hrv
    |none=>
     have hge: (#[Value.func (.yield l) #[] #[]]++vs).size≤t:=by
      have:=List.getElem?_eq_none_iff.1 hq;rw[hsz];simpa using this
     rw[Array.getElem?_append_right hge];simp only[Option.getD_none];rw[aj]
     cases hq2: (Array.replicate (fn.ntmps - (#[Value.func (.yield l) #[] #[]]++vs).size) undef)[t - (#[Value.func (.yield l) #[] #[]]++vs).size]? with
     |none=>rfl
     |some u=>
      rw[Array.getElem?_replicate] at hq2;split at hq2
      . cases hq2;rfl
      . cases hq2
 have hW:=(TrY.weaken (fun t=>CLe.init _ t) (hT l rec G B h Y hY hI h0)) G w _ Le hsim D;refine hW _ fun o x st' G' w' a' hx S F F1 Df D'=>?_;obtain ⟨ds,hds,hnew⟩:=Df;rw[List.append_nil] at hds;have go:kz (I N) B o st'.h→LeavesInM Fence.wide 0 cx.P fn a'.tmps (fun e w'=> ∃v o G' h',e= .returned v∧kz (I N) B o h'∧WorldOK G' h' w'∧Frm G (w.putObj l (.loop (rec (jW o) o))) G' w') a'.defers .returning w':=fun hx=>
  mb (m:=w.heap.size) (G:=G') (w:=w') a'.defers (Shut.refl _ _ _) S.defers (by rw[hds];exact hnew) fun w2 T=>by
   have hres:results { cx with N:=fn.ntmps } fn st'=some (.tup []):=by
    unfold results;rw[hrs];rfl
   have S2:=T.sim S;obtain ⟨v,G2,r1,r2,r3,r4,r5,r6,r7⟩:=sU (cx:= { cx with N:=fn.ntmps }) (n:=h.length) (fn:=fn) (c:= .tup []) (⟨S2.defers,hN▸S2.size,⟨S2.pre.ok,S2.pre.env,S2.pre.glob⟩⟩:Sim { cx with N:=fn.ntmps } G' w2 st' { a' with defers:=[] }) hres;have hlt:l< w.heap.size:=(Array.getElem?_eq_some_iff.1 D.obj).1;have hl2:w2.heap[l]? =some (.loop (rec (jW o) o)):=by
    rcases T.heap l with q| ⟨q,_⟩
    . exact q.trans D'.obj
    . omega
   have F2:FrmX l h.length G w G2 w2:=by
    refine FrmX.trans (B:=G') (b:=w2) ?_ (.of r5);exact ⟨T.os.trans F.os,T.tape.trans F.tape,T.output.trans F.output,by rw[T.size];exact F.size,F.K,F.μ,F.σ,fun g hg hs ht hm=>by
     obtain ⟨a1,a2⟩:=F.old g hg hs ht hm;refine ⟨?_,a2⟩;rcases T.heap g with q| ⟨q,_⟩
     . exact q.trans a1
     . omega⟩
   have D2:Rdy l rec G2 w2 (jW o) o:=Rdy.frmN (n:=h.length) ⟨hl2,D'.T,D'.μ⟩ r5;exact ⟨v,r1,v,o,G2,st'.h,rfl,hx,r4,F2.toFrm hn0 W r4 D.obj hl2 D2.T D2.μ⟩
 cases x with
 |exit k=>exact hx.elim
 |normal=>exact go hx
 |ret=>exact go hx
def jX:List Nat→List C→(Nat→C)→(Nat→C)
 |p::ps,c::az,env=>jX ps az (put (some p) c.noR env)
 |_,_,env=>env
theorem zZ {G:Gh}:∀ (ps:List Nat)(az:List C)(vs:List Value)(env:Nat→C)(tm:Array Value),RepL G az vs→az.length=ps.length→(∀p∈ps,p< tm.size)→(∀t,Rep G (env t) (tm.getD t undef))→(∀t s n xs,env t≠ .sl (.own s) n xs)→
 ((ps.zip vs).foldl (fun tm (p:Nat×Value) =>tm.setIfInBounds p.1 p.2) tm).size=tm.size∧(∀t,Rep G (jX ps az env t) (((ps.zip vs).foldl (fun tm (p:Nat×Value) =>tm.setIfInBounds p.1 p.2) tm).getD t undef))∧∀t s n xs,jX ps az env t≠ .sl (.own s) n xs
 | [],[],vs,env,tm,_,_,_,h1,h2=>⟨rfl,h1,h2⟩
 | [],c::az,vs,env,tm,_,hl,_,_,_=>by simp at hl
 |p::ps,[],vs,env,tm,_,hl,_,_,_=>by simp at hl
 |p::ps,c::az,vs,env,tm,hr,hl,hp,h1,h2=>by
  simp only[RepL] at hr;obtain ⟨v,vs',rfl,hv,hr'⟩:=hr;have hpp:p< tm.size:=hp p (List.mem_cons_self ..);have:=zZ ps az vs' (put (some p) c.noR env) (tm.setIfInBounds p v) hr' (by simpa using hl) (fun q hq=>by rw[Array.size_setIfInBounds];exact hp q (List.mem_cons_of_mem _ hq)) (fun t=>by
   simp only[put];by_cases e:t=p
   . subst e;simp only[if_true];rw[Array.getD_eq_getD_getElem?];simp[hpp];exact hv.noR
   . rw[if_neg e,Array.getD_eq_getD_getElem?,Array.getElem?_setIfInBounds_ne (Ne.symm e),←Array.getD_eq_getD_getElem?];exact h1 t) (fun t s n xs=>by
   simp only[put];split
   . exact fun q=>gR q
   . exact h2 t s n xs)
  simp only[List.zip_cons_cons,List.foldl_cons,jX];rw[Array.size_setIfInBounds] at this;exact this
theorem WorldOK.grown {G:Gh}{h:Hp}{w w':World}(W:WorldOK G h w)(hs:w.heap.size≤w'.heap.size)(hh:∀g,g< w.heap.size→w'.heap[g]? =w.heap[g]?):WorldOK G h w':=by
 have hk:∀ {g:Nat}{o:Obj},w.heap[g]? =some o→w'.heap[g]? =some o:=fun {g o} q=>(hh g (Array.getElem?_eq_some_iff.1 q).1).trans q;have hμ:∀ {b g:Nat},G.μ b=some g→w'.heap[g]? =w.heap[g]? :=fun {b g} q=>hh g (W.dom b g q).2;have row:∀ {p:bB}{v:Value}{s n:Nat},OwnRow G w p v s n→OwnRow G w' p v s n:=by
  intro p v s n O;rcases O with O| ⟨g,cap,cur,e,a1,a2,a3,a4⟩
  . exact .inl O
  . exact .inr ⟨g,cap,cur,e,a1,a2,hk a3,a4⟩
 refine ⟨fun b o u hu=>?_,fun b cells hb=>?_,fun b blk hb=>⟨(W.dom b blk hb).1,Nat.lt_of_lt_of_le (W.dom b blk hb).2 hs⟩,W.inj,W.sep,fun g p hg=>Nat.lt_of_lt_of_le (W.tlt g p hg) hs,fun b cells off s n xs blk v hb hc hm hv=>?_,fun b z hz=>?_,fun b l hb=>?_,W.mpi⟩
 . have:=W.known b o u hu
   unfold World.cell? at this ⊢
   cases ho:w.heap[b]? with
   |none=>rw[ho] at this;cases this
   |some ob=>rw[ho] at this;rw[hk ho];exact this
 . rcases W.box b cells hb with q| ⟨blk,cs,e,h1,h2,h3⟩
   . exact .inl q
   . exact .inr ⟨blk,cs,e,h1,by rw[hμ h1];exact h2,h3⟩
 . refine row (W.own b cells off s n xs blk v hb hc hm ?_)
   unfold World.cell? at hv ⊢;rw[hμ hm] at hv;exact hv
 . obtain ⟨blk,cs,e,fr,h1,h2,h3⟩:=W.siz b z hz
   exact ⟨blk,cs,e,fr,h1,by rw[hμ h1];exact h2,h3⟩
 . obtain ⟨blk,es,clk,h1,h2,h3⟩:=W.mpo b l hb
   exact ⟨blk,es,clk,h1,by rw[hμ h1];exact h2,h3⟩
def Jh (I1:Hp→Prop)(Q:Ex→Hp→Prop):Ex→Hp→Prop
 | .normal,h=>I1 h
 |x,h=>Q x h
def RoundQ (k:Nat)(I1:Hp→Prop)(Q:Ex→Hp→Prop)(x:Ex)(s:St):Prop:=
 (Jh I1 Q x (s.h.take k)∧∀ (b:Nat) cells,b< k→s.h[b]? =some (some cells)→noRefs k cells=true)∨Jh I1 Q x s.h
def EP (Q:Ex→Hp→Prop)(j:Code)(h:Hp):Prop:=(j= .ret∧Q .ret h)∨∃id,j= .exit id∧Q (.exit id) h
theorem Tk {G:Gh}{k g:Nat}(h:∀b,G.μ b≠some g):∀b,(bI G k).μ b≠some g:=fun b hb=>by
 simp only[bI] at hb;split at hb
 . exact h b hb
 . cases hb
section
variable {cx:Cx} {n:Nat} {Q:Ex→St→Prop}
theorem Ji {l:Nat}{fn:FuncId}{tm:Array Value}{ps:List Nat}{assign body:Code}{df:Nat}{G₀:Gh}{env:Nat→C}{N:Nat}{xs:Nat→List C}{I:Nat→Hp→Prop}{Q:Ex→Hp→Prop}
 (hsz:tm.size=cx.N) (henv:∀t,Rep G₀ (env t) (tm.getD t undef)) (hno:∀t s n xs,env t≠ .sl (.own s) n xs) (hx:∀i,i< N→(xs i).length=ps.length) (hp:∀p∈ps,p< cx.N)
 (hb:∀i k,i< N→I i k→Tr { cx with top:=false } k.length assign ⟨jX ps (xs i) env,k⟩ fun x s=>x= .normal∧Tr { cx with top:=false } k.length body s (RoundQ k.length (I (i+1)) Q)):
 vM cx.P cx.gl l (fun st pe=> { state:=st,pending:=pe,fn,tmps:=tm,params:=ps.toArray,assign,body,defers:=df }) G₀
  fun az k post=> ∃i,i< N∧az=xs i∧I i k∧∀o k',kz (I (i+1)) (EP Q) o k'→post o k':=by
 rintro az k post ⟨i,hi,rfl,hIk,hpost⟩ G w vs Le W hT hgl D hr;have hvs:vs.size=ps.toArray.size:=by
  have:=hr.length;rw[hx i hi] at this;simpa using this.symm
 have hy:=run_yield (P:=cx.P) (args:=vs) D.obj hvs;refine ⟨_,_,_,_,hy,roundIn_of_wpIn trivial ?_⟩;have hn0:∀b j,G.μ b=some j→b< k.length:=fun b j hm=>by
  obtain ⟨⟨cells,hc⟩,_⟩:=W.dom b j hm;exact (List.getElem?_eq_some_iff.1 hc).1
 have hfold: (ps.toArray.zip vs).foldl (fun (tmps:Array Value) (x:Nat×Value) =>tmps.setIfInBounds x.1 x.2) tm= (ps.zip vs.toList).foldl (fun tm (p:Nat×Value) =>tm.setIfInBounds p.1 p.2) tm:=by
  rw[←Array.foldl_toList,Array.toList_zip]
 obtain ⟨b1,b2,b3⟩:=zZ ps (xs i) vs.toList env tm hr (hx i hi) (fun p q=>by rw[hsz];exact hp p q) (fun t=>(henv t).mono Le) hno;have S1:Sim { cx with top:=false } G w ⟨jX ps (xs i) env,k⟩ { tmps:=(ps.toArray.zip vs).foldl (fun (tmps:Array Value) (x:Nat×Value) =>tmps.setIfInBounds x.1 x.2) tm,defers:=[] }:=by
  rw[hfold];exact ⟨Mks.nil,by rw[b1,hsz],W,⟨b2,fun t s n xs e=>absurd e (b3 t s n xs)⟩,hgl⟩
 refine hb i k hi hIk (some l) (fun h=>by cases h) G w _ S1 _ fun x s G2 w2 a2 hq S2 F2=>?_;obtain ⟨rfl,hbody⟩:=hq;have D2:=D.frmN F2.fr;refine ⟨_,run_beginRound D2.obj rfl,?_⟩;obtain ⟨rb,hrb⟩:∃rb:Loop,rb= { state:= .busy,pending:=none,fn,tmps:=tm,params:=ps.toArray,assign,body,defers:=df }:=⟨_,rfl⟩;have Db:Rdy l (fun _ _=>rb) G2 (w2.putObj l (.loop rb)) .ready none:=⟨World.putObj_heap_same (Array.getElem?_eq_some_iff.1 D2.obj).1,D2.T,D2.μ⟩;have S2':=S2.putL (ob:= .loop rb) D2.obj D2.T D2.μ;rw[show (Loop.mk .busy none fn tm ps.toArray assign body df) =rb from hrb.symm];refine hbody (some l) (fun h=>by cases h) G2 _ a2 S2' _ fun x s3 G3 w3 a3 q S3 F3=>?_;have D3:=Db.frmN F3.fr;have FX:FrmX l k.length G w G3 w3:=(FrmX.of F2.fr).trans ((FrmX.put (.loop rb)).trans (.of F3.fr));have fin:∀ (o:Option Code)(k':Hp)(G4:Gh),kz (I (i+1)) (EP Q) o k'→WorldOK G4 k' w3→FrmX l k.length G w G4 w3→G4.T l=none→(∀b,G4.μ b≠some l)→
  ∃v w',(Instr.endRound l o).run cx.P w3= .ok v w'∧∃o' G' h',Ending.returned v= .returned (.bool o'.isNone)∧post o' h'∧WorldOK G' h' w'∧Frm G (w.putObj l (.loop { state:=jW o',pending:=o',fn,tmps:=tm,params:=ps.toArray,assign,body,defers:=df })) G' w':=by
  intro o k' G4 he W4 F4 hT4 hm4;have hrun:=run_endRound (P:=cx.P) o D3.obj;have Sh:=Shut.put (ob:= .loop { state:=jW o,pending:=o,fn,tmps:=tm,params:=ps.toArray,assign,body,defers:=df }) D3.obj (.inr ⟨_,rfl⟩) hT4 hm4;refine ⟨_,_,hrun,o,G4,k',rfl,hpost o k' he,?_,?_⟩
  . rw[hrb];exact Sh.ok W4
  . rw[hrb]
    refine (F4.trans (FrmX.put _)).toFrm hn0 W (Sh.ok W4) D.obj (World.putObj_heap_same (Array.getElem?_eq_some_iff.1 D3.obj).1) hT4 hm4
 have two:∀o,(∀k',Jh (I (i+1)) Q x k'→kz (I (i+1)) (EP Q) o k')→∃v w',(Instr.endRound l o).run cx.P w3= .ok v w'∧∃o' G' h',Ending.returned v= .returned (.bool o'.isNone)∧post o' h'∧WorldOK G' h' w'∧Frm G (w.putObj l (.loop { state:=jW o',pending:=o',fn,tmps:=tm,params:=ps.toArray,assign,body,defers:=df })) G' w':=by
  intro o ho;rcases q with ⟨q,hnb⟩ |q
  . exact fin o _ _ (ho _ q) (S3.pre.ok.cut k.length hnb) (FX.trans (.of (rO (Nat.le_refl _)))) D3.T (Tk D3.μ)
  . exact fin o _ _ (ho _ q) S3.pre.ok FX D3.T D3.μ
 cases x with
 |normal=>exact two none fun k' q=>q
 |ret=>exact two (some .ret) fun k' q=> .inl ⟨rfl,q⟩
 |exit id=>exact two (some (.exit id)) fun k' q=> .inr ⟨id,rfl,q⟩
theorem xR (ht:cx.top=true){g f:Nat}{ps:List Nat}{assign body:Code}{e:List (Nat×C)}{h:Hp}{caps:List C}{N:Nat}{xs:Nat→List C}(I:Nat→Hp→Prop)(hg:A e g= .fn f caps)(hI:ItrI cx.P cx.gl f caps N xs I)
 (hx:∀i,i< N→(xs i).length=ps.length) (hp:∀p∈ps,p< cx.N) (h0:I 0 h)
 (hb:∀i k,i< N→I i k→Tr { cx with top:=false } k.length assign ⟨jX ps (xs i) (fun t=>(A e t).noR),k⟩ fun x s=>x= .normal∧Tr { cx with top:=false } k.length body s (RoundQ k.length (I (i+1)) fun x h'=>Q x ⟨A e,h'⟩))
 (hd:∀k,I N k→Q .normal ⟨A e,k⟩):Tr cx n (.rangeFunc (.tmp g) ps.toArray assign body) ⟨A e,h⟩ Q:=by
 intro r hr G w a S R hR;obtain rfl:r=none:=hr ht;refine wpIn_rangeFunc (F:=wF none) fun fn _=>?_;obtain ⟨⟨fn',e1,e2,e3⟩,hit⟩:=hI;have hv:=S.pre.ev (.tmp g);rw[ga] at hv;simp only[] at hv;rw[hg] at hv;simp only[Rep] at hv;obtain ⟨cv,hfv,hcaps⟩:=hv;obtain ⟨rec,hrec⟩:∃rec:LoopState→Option Code→Loop,rec=fun st pe=> { state:=st,pending:=pe,fn,tmps:=a.tmps,params:=ps.toArray,assign,body,defers:=w.heap.size }:=⟨_,rfl⟩;obtain ⟨W1,hW1⟩:∃W1,(w.alloc (.deferred (some []))).alloc (.loop (rec .ready none)) =W1:=⟨_,rfl⟩;have hL1:W1.heap[w.heap.size+1]? =some (.loop (rec .ready none)):=by
  rw[←hW1];have:=World.alloc_heap_new (w.alloc (.deferred (some []))) (.loop (rec .ready none));rwa [World.size_alloc] at this
 have hsz1:W1.heap.size=w.heap.size+2:=by rw[←hW1];simp
 have hlow:∀g,g< w.heap.size+1→W1.heap[g]? = (w.alloc (.deferred (some []))).heap[g]? :=fun g hg=>by
  rw[←hW1];show ((w.heap.push _).push _)[g]? = (w.heap.push _)[g]?
  rw[Array.getElem?_push,if_neg (by simp;omega)]
 have hsame:∀g,g< w.heap.size→W1.heap[g]? =w.heap[g]? :=fun g hg=>by
  rw[hlow g (by omega)];show (w.heap.push _)[g]? =w.heap[g]?;rw[Array.getElem?_push,if_neg (by omega)]
 have hK1:W1.heap[w.heap.size]? =some (.deferred (some [])):=by
  rw[hlow _ (by omega)];exact World.alloc_heap_new w _
 have hW:WorldOK G h W1:=S.pre.ok.grown (by omega) hsame;have hTl:∀g,w.heap.size≤g→G.T g=none:=fun g hg=>S.pre.ok.tnone hg;have hml:∀g,w.heap.size≤g→∀b,G.μ b≠some g:=fun g hg b hb=>by have:=(S.pre.ok.dom b g hb).2;omega
 refine ⟨w.heap.size+1,[{ target:= .collected w.heap.size,args:= #[] }],W1,{ target:= .fn (.func f) cv,args:= #[.func (.yield (w.heap.size+1)) #[] #[]] },W1,f,
  #[.func (.yield (w.heap.size+1)) #[] #[]]++cv,W1,?_,?_,fun _ _=>trivial,?_,(fun h=>by cases h),?_⟩
 . rw[←hW1,hrec];exact run_enterLoop_outer _ _ _ _ _
 . simp only[resolve,rangeCall,hfv]
   simp[Deferred.ofValue,Act.eval]
 · have e2': ¬fn'.name= "runtime.NumGoroutine" :=by simpa using e2
   have e3':¬fn'.body=none:=by cases hq:fn'.body<;>simp_all
   simp[invoke,callFunc,e1,e2',e3',program,Sem.run]
 . have D1:Rdy (w.heap.size+1) rec (eM G) W1 .ready none:=⟨hL1,ib (hTl _ (by omega)),hml _ (by omega)⟩
   have hY:vM cx.P cx.gl (w.heap.size+1) rec (eM G) (fun az k post=> ∃i,i< N∧az=xs i∧I i k∧∀o k',kz (I (i+1)) (EP fun x h'=>Q x ⟨A e,h'⟩) o k'→post o k'):=by
    rw[hrec];exact Ji S.size (fun t=>((S.pre.env.1 t).noR).mono fY) (fun t s n xs q=>gR q) hx hp hb
   have hcall:=hit (w.heap.size+1) rec (EP fun x h'=>Q x ⟨A e,h'⟩) h (eM G) W1 cv _ hY (fun i k post hi hk hp=>⟨i,hi,rfl,hk,hp⟩) h0 (uo hW) (fun g p hg=>by
    simp only[eM] at hg
    cases hq:G.T g with
    |none=>rw[hq] at hg;cases hg
    |some q=>
     rw[hq] at hg;simp only[] at hg;split at hg
     . cases hg;assumption
     . cases hg) (fun g=>(S.pre.glob g).mono fY) D1 (RepL.mono fY _ _ hcaps)
   refine hcall.mono ?_;rintro e0 W2 ⟨v,o,G',h',rfl,hend,W',F⟩;obtain ⟨ob,hob⟩:∃ob,Obj.loop (rec (jW o) o) =ob:=⟨_,rfl⟩;rw[hob] at F;have hlt:w.heap.size+1< W1.heap.size:=by omega
   have hput: (W1.putObj (w.heap.size+1) ob).heap[w.heap.size+1]? =some ob:=World.putObj_heap_same hlt;have S1:Sim cx G W1 ⟨A e,h⟩ a:=⟨⟨S.defers.1,fun d hd=>by
    obtain ⟨E,q1,q2,q3⟩:=S.defers.2 d hd;exact ⟨E,q1,(hsame E (Array.getElem?_eq_some_iff.1 q2).1).trans q2,q3⟩⟩,S.size,hW,⟨S.pre.env.1,fun t s m xs q=>by
    rcases S.pre.env.2 t s m xs q with O| ⟨g,cap,cur,ee,a1,a2,a3,a4⟩
    . exact .inl O
    . exact .inr ⟨g,cap,cur,ee,a1,a2,(hsame g (Array.getElem?_eq_some_iff.1 a3).1).trans a3,a4⟩⟩,S.pre.glob⟩
   have S1':=S1.putL (ob:=ob) hL1 (hTl _ (by omega)) (hml _ (by omega));have O:=rL (c:= .top) (v:=undef) S1'.pre (3,0,0) W' F (by simp only[Rep]) (fun s n xs e=>by cases e);obtain ⟨G'',hG⟩:∃G'',l7 G (W1.putObj (w.heap.size+1) ob).heap.size G' (3,0,0) =G'':=⟨_,rfl⟩;rw[hG] at O;have S2:Sim cx G'' W2 ⟨A e,h'⟩ a:=⟨S1'.defers.frm O.frm,S.size,O.ok,O.env,fun g=>(S.pre.glob g).mono O.frm.le⟩;obtain ⟨l1,l2,l3,_⟩:=O.frm.old (w.heap.size+1) (by rw[World.putObj_size];exact hlt) (hTl _ (by omega)) (hml _ (by omega));obtain ⟨d1,d2,d3,_⟩:=O.frm.old w.heap.size (by rw[World.putObj_size];omega) (hTl _ (Nat.le_refl _)) (hml _ (Nat.le_refl _));rw[hput] at l1;rw[World.putObj_heap_other (by omega),hK1] at d1;rw[←hob] at l1;have hend2:=run_endLoop (P:=cx.P) l1 (by rw[hrec];cases o<;>simp[jW]);refine ⟨_,_,hend2,?_⟩;obtain ⟨ob2,hob2⟩:∃ob2,Obj.loop { (rec (jW o) o) with state:= .exhausted } =ob2:=⟨_,rfl⟩;rw[hob2,show (rec (jW o) o).pending=o from by rw[hrec]];have S3:=S2.putL (ob:=ob2) l1 l2 l3;have S4:Sim cx G'' (W2.putObj (w.heap.size+1) ob2) ⟨A e,h'⟩ { a with defers:=[{ target:= .collected w.heap.size,args:= #[] }]++a.defers }:=
    ⟨⟨List.nodup_cons.2 ⟨fun hm=>by
      obtain ⟨E,q1,q2,_⟩:=S.defers.2 _ hm;have:=(Array.getElem?_eq_some_iff.1 q2).1;simp only[Deferred.mk.injEq,Target.collected.injEq,and_true] at q1;omega,S3.defers.1⟩,fun d hd=>by
      rcases List.mem_cons.1 hd with rfl|hd
      . exact ⟨w.heap.size,rfl,(World.putObj_heap_other (by omega)).trans d1,d2,d3⟩
      . exact S3.defers.2 d hd⟩,S3.size,⟨S3.pre.ok,S3.pre.env,S3.pre.glob⟩⟩
   have FA:FrmA n G w a G'' (W2.putObj (w.heap.size+1) ob2) { a with defers:=[{ target:= .collected w.heap.size,args:= #[] }]++a.defers }:=by
    refine ⟨⟨?_,?_,?_,?_,O.frm.le.K,fun b k _ x=>O.frm.le.μ b k x,fun b k _ x=>O.frm.le.σ b k x,fun g hg ht2 hm=>?_⟩,⟨_,rfl,fun d hd D hD=>by
     rw[List.mem_singleton.1 hd] at hD;cases hD;exact Nat.le_refl _⟩⟩
    . exact O.frm.os.trans (by rw[←hW1];rfl)
    . exact O.frm.tape.trans (by rw[←hW1];rfl)
    . exact O.frm.output.trans (by rw[←hW1];rfl)
    . have:=O.frm.size
      rw[World.putObj_size] at this;rw[World.putObj_size];omega
    . obtain ⟨a1,a2⟩:=O.frm.old g (by rw[World.putObj_size];omega) ht2 hm
      exact ⟨(World.putObj_heap_other (by omega)).trans (a1.trans ((World.putObj_heap_other (by omega)).trans (hsame g hg))),a2⟩
   cases o with
   |none=>exact hR .normal _ _ _ _ (hd h' hend) S4 FA
   |some j=>
    rcases hend with ⟨rfl,hq⟩ | ⟨id,rfl,hq⟩
    . exact wpIn_ret (hR .ret _ _ _ _ hq S4 FA)
    . exact wpIn_exit (hR (.exit id) _ _ _ _ hq S4 FA)
end
def iX:List Nat→List C→List (Nat×C)→List (Nat×C)
 |p::ps,c::az,e=>iX ps az ((p,c.noR)::e)
 |_,_,e=>e
theorem ph:∀ (ps:List Nat)(az:List C)(e:List (Nat×C)),jX ps az (A e) =A (iX ps az e)
 | [],_,_=>by simp only[jX,iX]
 |_::_,[],_=>by simp only[jX,iX]
 |p::ps,c::az,e=>by
  have:put (some p) c.noR (A e) =A ((p,c.noR)::e):=rfl;simp only[jX,iX];rw[this];exact ph ps az _
theorem EQ (az:List C)(e:List (Nat×C)):iX [] az e=e:=by simp only[iX]
theorem BT (p:Nat)(ps:List Nat)(c:C)(az:List C)(e:List (Nat×C)):iX (p::ps) (c::az) e=iX ps az ((p,c.noR)::e):=rfl
def rz:List (Nat×C)→List (Nat×C)
 | [] =>[]
 | (k,c)::l=>(k,c.noR)::rz l
theorem OE:rz [] = []:=rfl
theorem Jj (k:Nat)(c:C)(l:List (Nat×C)):rz ((k,c)::l) = (k,c.noR)::rz l:=rfl
theorem tf:∀e:List (Nat×C),(fun t=>(A e t).noR) =A (rz e)
 | [] =>by funext t;rfl
 | (k,c)::l=>by
   funext t
   have:=congrFun (tf l) t;simp only[rz,A] at this ⊢;split
   . rfl
   . exact this
attribute [go_sem] EQ BT OE Jj
def ItrB (P:Program)(gl:Nat→C)(f:Nat)(caps:List C)(N:Nat)(xs:Nat→List C)(R:Nat→Hp→Prop):Prop:= ∀ (m:Nat)(I:Nat→Hp→Prop),(∀i h,I i h→R m h)→ItrI P gl f caps N xs I
theorem Tl {R:Nat→Hp→Prop}{cx:Cx}{n:Nat}{Q:Ex→St→Prop}(ht:cx.top=true){g f:Nat}{ps:List Nat}{assign body:Code}{e:List (Nat×C)}{h:Hp}{caps:List C}(N:Nat)(xs:Nat→List C)(H:Nat→Hp)(hg:A e g= .fn f caps)(hI:ItrB cx.P cx.gl f caps N xs R)
 (m:Nat) (hR:∀i,R m (H i)) (hx:∀i,i< N→(xs i).length=ps.length) (hp:∀p∈ps,p< cx.N) (h0:h=H 0)
 (hb:∀i,i< N→Tr { cx with top:=false } (H i).length assign ⟨A (iX ps (xs i) (rz e)),H i⟩ fun x s=>x= .normal∧Tr { cx with top:=false } (H i).length body s (RoundQ (H i).length (fun k=>k=H (i+1)) fun x h'=>Q x ⟨A e,h'⟩))
 (hd:Q .normal ⟨A e,H N⟩):Tr cx n (.rangeFunc (.tmp g) ps.toArray assign body) ⟨A e,h⟩ Q:=
 xR ht (fun i k=>k=H i) hg (hI m _ fun i k hk=>by subst hk;exact hR i) hx hp h0 (fun i k hi hk=>by subst hk;rw[tf,ph];exact hb i hi) (fun k hk=>by subst hk;exact hd)
theorem RoundQ.r {k:Nat}{I1:Hp→Prop}{Q:Ex→Hp→Prop}{s:St}(h:Q .ret s.h):RoundQ k I1 Q .ret s:= .inr h
section
variable {l0:Nat} {rec:LoopState→Option Code→Loop} {G₀:Gh} {cx:Cx} {n:Nat} {Q:Option Code→Ex→St→Prop} {e:List (Nat×C)} {h:Hp} {b:Code} {id:Nat} {l:List Oper} {s:St}
theorem TrY.w (hcx:CxOK cx)(apps:List Nat)(dsts:List (Option Nat))(z:Hp)(h1:l.filterMap ct=apps)(h2:l.map (·.dst) =dsts)(h3:ez l=z)(H:TrY l0 rec G₀ cx n b s Q)(E:∀K:St→Prop,K s→run cx apps dsts l h.length e (h++z) [] (fun _ s=>K s)):TrY l0 rec G₀ cx n (.seq (.region id l.toArray false) b) ⟨A e,h⟩ Q:=
 TrY.seq (gF (Q1:=fun x s'=>x= .normal∧TrY l0 rec G₀ cx n b s' Q) (Tr.rg hcx apps dsts z h1 h2 h3 (E (fun s'=>Ex.normal= .normal∧TrY l0 rec G₀ cx n b s' Q) ⟨rfl,H⟩)) (fun x s' q=>by obtain ⟨rfl,q⟩:=q;exact ⟨fun _=>q,fun c=>absurd rfl c⟩))
theorem TrY.v (hcx:CxOK cx)(apps:List Nat)(dsts:List (Option Nat))(z:Hp)(h1:l.filterMap ct=apps)(h2:l.map (·.dst) =dsts)(h3:ez l=z)(H:Q none .normal s)(E:∀K:St→Prop,K s→run cx apps dsts l h.length e (h++z) [] (fun _ s=>K s)):TrY l0 rec G₀ cx n (.region id l.toArray false) ⟨A e,h⟩ Q:=
 gF (Q1:=fun x s'=>x= .normal∧Q none .normal s') (Tr.rg hcx apps dsts z h1 h2 h3 (E (fun s'=>Ex.normal= .normal∧Q none .normal s') ⟨rfl,H⟩)) (fun x s' q=>by obtain ⟨rfl,q⟩:=q;exact q)
theorem TrY.live {c:Code}(k:List (Nat×C))(hl:Le s.env k)(H:TrY l0 rec G₀ cx n c ⟨A k,s.h⟩ Q):TrY l0 rec G₀ cx n c s Q:=TrY.weaken (fun t=>hl.spec t) H
theorem TrY.k (ks:List Nat){c:Code}{e':List (Nat×C)}(H:TrY l0 rec G₀ cx n c ⟨A e',h⟩ Q)(E:∀R:List (Nat×C)→Prop,R e'→R (pk e ks)):TrY l0 rec G₀ cx n c ⟨A e,h⟩ Q:=
 TrY.weaken (fun t=>by
  rcases HZ e t ks with q|q
  . simp only[];rw[q];exact CLe.top _
  . simp only[];rw[q];exact CLe.refl _) (E (fun x=>TrY l0 rec G₀ cx n c ⟨A x,h⟩ Q) H)
theorem Tm (hcx:CxOK cx){Y:Ys}(hY:vM cx.P cx.gl l0 rec G₀ Y)(kk:Nat){d y:Nat}{args:Array Operand}{ts:Array TypeId}{ty:TypeId}{pos:String}{aft:Array Edge}{e1:List (Nat×C)}{e2:Bool→List (Nat×C)}{az:List C}{P1:Hp→Prop}{B:Code→Hp→Prop}
 (hL:l=l.take kk++⟨some d,.call { callee:= .value (.tmp y),args,argTypes:=ts },ty,pos,aft,none⟩::l.drop (kk+1)) (hd:d< cx.N) (hm:l.countP dr=0) (apps:List Nat) (dsts:List (Option Nat)) (h1:l.filterMap ct=apps) (h2:l.map (·.dst) =dsts)
 (hYs:∀post,(∀o k,kz P1 B o k→post o k)→Y az h post)
 (E1:∀K:St→Prop,K ⟨A e1,h⟩→run cx apps dsts (l.take kk) h.length e h [] (fun _ s=>K s)) (hy:A e1 y= .val (.func (.yield l0) #[] #[])) (haz: (args.toList.map (cx.evn (A e1))).map C.share=az)
 (E2:∀ (c:Bool)(k:Hp)(K:St→Prop),K ⟨A (e2 c),k⟩→run cx apps dsts (l.drop (kk+1)) h.length ((d,.val (.bool c))::e1) k [] (fun _ s=>K s))
 (Hn:∀k,P1 k→TrY l0 rec G₀ cx n b ⟨A (e2 true),k⟩ Q) (Hs:∀j k,B j k→Tr cx n b ⟨A (e2 false),k⟩ fun x s=>Q (some j) x s):TrY l0 rec G₀ cx n (.seq (.region id l.toArray false) b) ⟨A e,h⟩ Q:=by
 refine TrY.seq (TrY.rg hcx hY _ _ hL hd hm apps dsts h1 h2 (E1 _ ⟨hy,?_⟩));rw[haz];refine hYs _ fun o k hk=>?_;have hput:∀c,put (some d) (C.val (.bool c)) (A e1) =A ((d,.val (.bool c))::e1):=fun c=>rfl;rw[hput];refine jj _ _ _ _ (E2 o.isNone k _ ?_)
 cases o with
 |none=>exact ⟨fun _=>Hn k hk,fun c=>absurd rfl c⟩
 |some j=>exact ⟨(fun c=>by cases c),fun _=>Hs j k hk⟩
end
structure RowN (n:Nat) (h:Hp):Prop where
 len:h.length=n
 nr:nY 0 h=true
 lv:∀j,j< n→((h.at j).isSome|| (h.mp j).isSome) =true∨h[j]? =some none
mutual
theorem sc {k m:Nat}(hk:k≤m):∀c:C,ae k c=true→ae m c=true
 | .val _,_=>rfl
 | .top,_=>rfl
 | .agg xs,h=>by simp only[ae] at h ⊢;exact noRefs_le hk xs h
 | .tup xs,h=>by simp only[ae] at h ⊢;exact noRefs_le hk xs h
 | .kp xs,h=>by simp only[ae] at h ⊢;exact noRefs_le hk xs h
 | .sl _ _ xs,h=>by simp only[ae] at h ⊢;exact noRefs_le hk xs h
 | .fn _ xs,h=>by simp only[ae] at h ⊢;exact noRefs_le hk xs h
 | .sv _ _ _,h=>by simp only[ae,decide_eq_true_eq] at h ⊢;omega
 | .gv _ _ _,h=>by simp only[ae,decide_eq_true_eq] at h ⊢;omega
 | .bp _ _,h=>by simp only[ae,decide_eq_true_eq] at h ⊢;omega
 | .bt _ _ _,h=>by simp only[ae,decide_eq_true_eq] at h ⊢;omega
 | .mp _,h=>by simp only[ae,decide_eq_true_eq] at h ⊢;omega
theorem noRefs_le {k m:Nat}(hk:k≤m):∀l:List C,noRefs k l=true→noRefs m l=true
 | [],_=>rfl
 |x::xs,h=>by simp only[noRefs,Bool.and_eq_true] at h ⊢;exact ⟨sc hk x h.1,noRefs_le hk xs h.2⟩
end
def ER (n:Nat)(ys:List C):List (Nat×C)→List (Nat×C)→Prop
 | [],[] =>True
 | (k,c)::e,(k',c')::e'=>k=k'∧((c'=c∧ae 0 c=true)∨∃o,c= .bp n o∧c'= .kp (ys.drop o))∧ER n ys e e'
 |_,_=>False
theorem z0 {ok:Nat→Bool}{n:Nat}{ys:List C}:∀ {e e':List (Nat×C)},ER n ys e e'→lh (bh ok n ys) e=e'
 | [],[],_=>rfl
 | (k,c)::e,(k',c')::e',h=>by
   obtain ⟨rfl,h1,h2⟩:=h;rw[qg,z0 h2];rcases h1 with ⟨rfl,h1⟩ | ⟨o,rfl,rfl⟩
   . rw[ED _ _ _ _ h1]
   . rw[EL,if_pos rfl]
 | [],_::_,h=>by cases h
 |_::_,[],h=>by cases h
theorem ES {n:Nat}{ys:List C}(hy:noRefs 0 ys=true):∀ {e e':List (Nat×C)},ER n ys e e'→∀t,ae 0 (A e' t) =true
 | [],[],_,t=>rfl
 | (k,c)::e,(k',c')::e',h,t=>by
   obtain ⟨rfl,h1,h2⟩:=h;simp only[A];split
   . rcases h1 with ⟨rfl,h1⟩ | ⟨o,rfl,rfl⟩
     . exact h1
     . show noRefs 0 (ys.drop o) =true
       have:∀ (l:List C)(o:Nat),noRefs 0 l=true→noRefs 0 (l.drop o) =true:=fun l=>by
        induction l with
        |nil=>intro o _;simp[noRefs]
        |cons x l ih=>
         intro o h
         cases o with
         |zero=>exact h
         |succ o=>simp only[noRefs,Bool.and_eq_true] at h;exact ih o h.2
       exact this ys o hy
   . exact ES hy h2 t
 | [],_::_,h,_=>by cases h
 |_::_,[],h,_=>by cases h
section
variable {l0:Nat} {rec:LoopState→Option Code→Loop} {G₀:Gh} {cx:Cx} {n:Nat} {Q:Option Code→Ex→St→Prop}
theorem Tn {k:Hp}{cells ys:List C}{ok:Nat→Bool}(hk:RowN n k): (mZ ok n ys (k++[some cells])).take n=k:=by
 obtain ⟨rfl,h2,h3⟩:=hk;unfold mZ;rw[List.map_append,List.map_cons,List.map_nil,List.set_append_right _ _ (by simp),List.take_append_of_le_length (by simp),List.take_of_length_le (by simp)];refine (List.map_congr_left (g:=id) fun o ho=>?_).trans (List.map_id _)
 cases o with
 |none=>rfl
 |some c=>
  obtain ⟨b,hb⟩:=List.getElem?_of_mem ho;simp only[Option.map_some,id_eq,fzCs_nr _ _ _ _ (p9 0 k b c h2 hb)]
theorem z4 {c:Code}{e:List (Nat×C)}{k:Hp}{cells:List C}(hcx:CxOK cx)(e':List (Nat×C))(ys:List C)(hk:RowN n k)(hc:noRefs 0 cells=true)(hl:aR (some cells) =some cells)(hy:ys=cells.map C.noR)(he:ER k.length ys e e')
 (H:TrY l0 rec G₀ cx n c ⟨A e',k⟩ Q):TrY l0 rec G₀ cx n c ⟨A e,k++[some cells]⟩ Q:=by
 rw[hk.len] at he;intro G w a Le S D R hR;have hb:Hp.at (k++[some cells]) n=some cells:=by rw[cL,if_pos hk.len.symm];exact hl
 have hys:fzY (k++[some cells]) n cells=ys:=by rw[hy,fzY,scrs_nr _ _ hc]
 have hnr:noRefs 0 ys=true:=by
  rw[hy];have:∀l:List C,noRefs 0 l=true→noRefs 0 (l.map C.noR) =true:=fun l=>by
   induction l with
   |nil=>intro _;rfl
   |cons x l ih=>
    intro h;simp only[noRefs,Bool.and_eq_true] at h;simp only[List.map_cons,noRefs,Bool.and_eq_true];refine ⟨?_,ih h.2⟩;have h1:=h.1;cases x<;>first|exact h1|skip
    rename_i r m xs;cases r<;>exact h1
  exact this cells hc
 have W1:=S.pre.ok.fz hb;rw[hys] at W1;have hrow:=Tn (cells:=cells) (ys:=ys) (ok:=dn (k++[some cells]) n) hk;have W2:=W1.cut n (fun b cs hbn hcs=>by
  have:k[b]? =some (some cs):=by
   rw[←hrow,List.getElem?_take,if_pos hbn];exact hcs
  exact noRefs_le (Nat.zero_le _) cs (p9 0 k b cs hk.nr this))
 rw[hrow] at W2;have hlen:k.length=n:=hk.len;have hn:∀j,j< n→((Hp.at (k++[some cells]) j).isSome|| (Hp.mp (k++[some cells]) j).isSome) =true∨(k++[some cells])[j]? =some none:=fun j hj=>by
  have e1: (k++[some cells])[j]? =k[j]? :=List.getElem?_append_left (by omega);rcases hk.lv j hj with h|h
  . left
    rw[cL,if_neg (by omega)];have:Hp.mp (k++[some cells]) j=Hp.mp k j:=by unfold Hp.mp;rw[e1]
    rw[this];exact h
  . right;rw[e1];exact h
 have F1:FrmN n G w (cI G w n cells.length) w:=zT S.pre.ok hb (Nat.le_refl _) hn _;have F2:FrmN n (cI G w n cells.length) w (bI (cI G w n cells.length) n) w:=rO (Nat.le_refl _);have F:=F1.trans F2;have hμ:∀g,(∀b,G.μ b≠some g)→∀b,(bI (cI G w n cells.length) n).μ b≠some g:=fun g h b hb'=>by
  simp only[bI,cI] at hb';split at hb'
  . split at hb'
    . cases hb'
    . exact h b hb'
  . cases hb'
 have hm:lh (bh (dn (k++[some cells]) n) n ys) e=e':=z0 he;have hE:∀t,Rep (bI (cI G w n cells.length) n) (A e' t) (a.tmps.getD t undef):=fun t=>by
  have h1:=lM S.pre.ok hb _ _ (S.pre.env.1 t);rw[hys] at h1;have h2:bh (dn (k++[some cells]) n) n ys (A e t) =A e' t:=by
   rw[←hm];exact congrFun (qh (bh (dn (k++[some cells]) n) n ys) (by simp only[bh]) e) t
  simp only[] at h1;rw[h2] at h1;exact dJ _ _ (sc (Nat.zero_le _) _ (ES hnr he t)) h1
 have S':Sim cx (bI (cI G w n cells.length) n) w ⟨A e',k⟩ a:=by
  refine ⟨S.defers.same (fun _ h=>h) hμ,S.size,W2,⟨hE,fun t s m xs q=>?_⟩,fun g=>?_⟩
  . have h2:bh (dn (k++[some cells]) n) n ys (A e t) =A e' t:=by
     rw[←hm];exact congrFun (qh (bh (dn (k++[some cells]) n) n ys) (by simp only[bh]) e) t
    simp only[] at q;rw[←h2] at q;obtain ⟨zs,hz⟩:=qP q;have O:=(S.pre.env.2 t s m zs hz).fz (b:=n) (k:=cells.length);rcases O with O| ⟨g,cap,cur,ee,a1,a2,a3,a4,a5,a6⟩
    . exact .inl O
    . refine .inr ⟨g,cap,cur,ee,a1,a2,a3,a4,a5,fun b' hb'=>?_⟩
      simp only[bI] at hb';split at hb'
      . exact a6 b' hb'
      . cases hb'
  . exact dJ _ _ (sc (Nat.zero_le _) _ (hcx.glo g)) ((dJ _ _ (hcx.glo g) (S.pre.glob g)).mono (qO S.pre.ok _))
 exact H (bI (cI G w n cells.length) n) w a (Le.frm F) S' (D.frmN F) R fun o x st' G' w' a' q S2 FX FN Df D2=>hR o x st' G' w' a' q S2 ((FrmX.of F).trans FX) (fun e=>F.trans (FN e)) Df D2
theorem ET {n:Nat}{ys:List C}:∀ {e:List (Nat×C)},(e.all fun p=>ae 0 p.2) =true→ER n ys e e
 | [],_=>True.intro
 | (k,c)::e,h=>by
   rw[List.all_cons,Bool.and_eq_true] at h;exact ⟨rfl,.inl ⟨rfl,h.1⟩,ET h.2⟩
theorem z5 {c:Code}{e:List (Nat×C)}{k:Hp}{cells:List C}(hcx:CxOK cx)(hk:RowN n k)(hc:noRefs 0 cells=true)(hl:aR (some cells) =some cells)(he: (e.all fun p=>ae 0 p.2) =true)
 (H:TrY l0 rec G₀ cx n c ⟨A e,k⟩ Q):TrY l0 rec G₀ cx n c ⟨A e,k++[some cells]⟩ Q:=z4 hcx e _ hk hc hl rfl (ET he) H
end
theorem RowN.nil:RowN 0 []:=⟨rfl,rfl,fun j h=>by omega⟩
theorem ItrB.of {cx:Cx} {f:Nat} {fn:Func} {code:Code} {caps:List C} {N:Nat} {xs:Nat→List C} (hN:cx.N=fn.ntmps) (hf:cx.P.funcs[f]? =some fn) (hn: (fn.name== "runtime.NumGoroutine") =false) (hb:fn.body=some code) (hrs:fn.results= #[]) (hlen:caps.length+1≤fn.ntmps)
 (hT:∀ (n l:Nat)(rec:LoopState→Option Code→Loop)(G:Gh)(I:Nat→Hp→Prop)(B:Code→Hp→Prop)(h:Hp)(Y:Ys),vM cx.P cx.gl l rec G Y→(∀i h post,i< N→I i h→(∀o k,kz (I (i+1)) B o k→post o k)→Y (xs i) h post)→I 0 h→(∀i h,I i h→RowN n h)→
   TrY l rec G cx n code ⟨A (bj 0 (.val (.func (.yield l) #[] #[])::caps)),h⟩ (Lf (kz (I N) B))):ItrB cx.P cx.gl f caps N xs RowN:=fun m I hR=>
 ItrI.of hN hf hn hb hrs hlen fun l rec G B h Y hY hI h0=>by
  have:=hT m l rec G I B h Y hY hI h0 hR
  rwa [← (hR 0 h h0).len] at this
theorem uf {α:Type}(l r:List α)(x v:α)(t:Nat)(h:l.length=t): (l++x::r).set t v=l++v::r:=by
 subst h;simp
theorem ug {α:Type}(l:List α)(x v:α)(n t:Nat)(h:l.length=t)(h2:t< n): (l++List.replicate (n - t) x).set t v=l++v::List.replicate (n - 1 - t) x:=by
 have e:n - t= (n - 1 - t)+1:=by omega
 rw[e,List.replicate_succ,uf _ _ _ _ _ h]
theorem wA {α:Type}[Inhabited α](l r:List α)(x:α)(t:Nat)(h:l.length=t):gt (l++x::r) t=x:=by
 subst h;simp[gt,List.getD]
theorem uh {α:Type}[Inhabited α](l r:List α)(t:Nat)(h:t< l.length):gt (l++r) t=gt l t:=by
 simp[gt,List.getD,List.getElem?_append_left h]
theorem fq {α:Type}[Inhabited α](l:List α)(j:Nat)(h:j< l.length):l.take (j+1) =l.take j++[gt l j]:=by
 rw[List.take_add_one,List.getElem?_eq_getElem h];simp[gt,List.getD,List.getElem?_eq_getElem h]
def le (m:Nat):List UInt8:=if h:m=0 then [] else UInt8.ofNat (m % 256)::le (m / 256)
termination_by m
decreasing_by omega
theorem ka:le 0= []:=by rw[le];simp
theorem nJ (m:Nat)(h:m≠0):le m=UInt8.ofNat (m % 256)::le (m / 256):=by rw[le];simp[h]
def bu (n:Int):List UInt8:=
 if 0≤n then UInt8.ofNat (128+(le n.toNat).length):: (le n.toNat).reverse
 else UInt8.ofNat (127 - (le (-1 - n).toNat).length):: ((le (-1 - n).toNat).reverse.map fun c=>255 - c)
def wb (s:List UInt8):List UInt8:=bu s.length++s
theorem fu (k:Nat):∀m,m< 256 ^ k→(le m).length≤k:=by
 induction k with
 |zero=>intro m h;have:m=0:=by simpa using h
        subst this;simp[ka]
 |succ k ih=>
  intro m h;by_cases hm:m=0
  . subst hm;simp[ka]
  . rw[nJ m hm]
    have:=ih (m / 256) (by rw[Nat.pow_succ] at h;exact Nat.div_lt_of_lt_mul (by omega));simp;omega
theorem Qr (s:List UInt8):1≤(wb s).length:=by
 unfold wb bu;split<;>simp<;>omega
theorem pL:∀ (k m:Nat),m< 256 ^ k→(k=0∨256 ^ (k - 1)≤m)→(le m).length=k
 |0,m,h,_=>by
  have:m=0:=by simpa using h
  subst this;simp[ka]
 |k+1,m,h,h2=>by
  have h3:256 ^ k≤m:=by simpa using h2
  have hp:0< 256 ^ k:=Nat.pow_pos (by decide);have hm:m≠0:=by omega
  rw[nJ m hm,List.length_cons,pL k (m / 256) (by rw[Nat.pow_succ] at h;exact Nat.div_lt_of_lt_mul (by omega)) ?_];rcases Nat.eq_zero_or_pos k with rfl|hk
  . exact .inl rfl
  . right
    rw[Nat.le_div_iff_mul_le (by decide),←Nat.pow_succ];rw[show (k - 1).succ=k by omega];exact h3
def be (m k:Nat):List UInt8:=(List.range k).map fun j=>UInt8.ofNat (m>>> (8*(k - 1 - j)))
theorem be_len (m k:Nat): (be m k).length=k:=by simp[be]
theorem v5 (m k j:Nat)(h:j< k):gt (be m k) j=UInt8.ofNat (m>>> (8*(k - 1 - j))):=by
 simp[be,gt,List.getD,h]
theorem Kr:∀ (j m:Nat),j< (le m).length→gt (le m) j=UInt8.ofNat (m>>> (8*j))
 |0,m,h=>by
  have hm:m≠0:=by rintro rfl;simp[ka] at h
  rw[nJ m hm];show UInt8.ofNat (m % 256) =_;apply UInt8.toNat_inj.1;simp
 |j+1,m,h=>by
  have hm:m≠0:=by rintro rfl;simp[ka] at h
  rw[nJ m hm] at h ⊢;rw[rX,Kr j (m / 256) (by simpa using h)];have:8*(j+1) =8+8*j:=by omega
  rw[this,Nat.shiftRight_add,show m>>>8=m / 256 from Nat.shiftRight_eq_div_pow m 8]
theorem Ct {α:Type}[Inhabited α](l:List α)(j:Nat)(h:j< l.length):gt l.reverse j=gt l (l.length - 1 - j):=by
 simp[gt,List.getD,List.getElem?_reverse h]
theorem Cu {α:Type}[Inhabited α](l l':List α)(h:l.length=l'.length)(hg:∀i< l.length,gt l i=gt l' i):l=l':=by
 apply List.ext_getElem h;intro i h1 h2;have:=hg i h1;simpa[gt,List.getD,List.getElem?_eq_getElem h1,List.getElem?_eq_getElem h2] using this
theorem Cv (m:Nat): (le m).reverse=be m (le m).length:=by
 refine Cu _ _ (by simp[be_len]) fun i hi=>?_;have hi':i< (le m).length:=by simpa using hi
 rw[Ct _ _ hi',v5 _ _ _ hi',Kr _ _ (by omega)]
theorem sy (x:UInt8):x ^^^ 255=255 - x:=by
 apply UInt8.toNat_inj.1;have hx:=x.toNat_lt;rw[UInt8.toNat_xor,UInt8.toNat_sub_of_le _ _ (by rw[UInt8.le_iff_toNat_le];show _≤255;omega)];show x.toNat ^^^ 255=255 - x.toNat;have h1:BitVec.ofNat 8 x.toNat ^^^ BitVec.allOnes 8= ~~~(BitVec.ofNat 8 x.toNat):=BitVec.xor_allOnes;have h2:=congrArg BitVec.toNat h1;rw[BitVec.toNat_xor,BitVec.toNat_not,BitVec.toNat_ofNat,BitVec.toNat_allOnes,Nat.mod_eq_of_lt (by omega)] at h2;simpa using h2
theorem Cw {α β:Type}[Inhabited α][Inhabited β](l:List α)(f:α→β)(j:Nat)(h:j< l.length):gt (l.map f) j=f (gt l j):=by
 simp[gt,List.getD,List.getElem?_eq_getElem h]
def wI (m:Nat)(x:UInt8):List UInt8:=(UInt8.ofNat (128+(le m).length) ^^^ x):: (be m (le m).length).map (· ^^^ x)
theorem wint_pos (m:Nat):bu m=wI m 0:=by
 unfold bu wI;rw[if_pos (by omega),←Cv];simp
theorem oI (m:Nat)(h: (le m).length≤8):bu (-1 - (m:Int)) =wI m 255:=by
 unfold bu wI;have e: (-1 - (-1 - (m:Int))).toNat=m:=by omega
 rw[if_neg (by omega),e,←Cv];have h2:UInt8.ofNat (127 - (le m).length) =UInt8.ofNat (128+(le m).length) ^^^ 255:=by
  generalize (le m).length=k at h
  have key:∀k:Fin 9,UInt8.ofNat (127 - k.val) =UInt8.ofNat (128+k.val) ^^^ 255:=by decide
  exact key ⟨k,by omega⟩
 rw[h2];simp only[sy]
theorem qA (m k:Nat):m>>> (8*k) =m / 256 ^ k:=by
 rw[Nat.shiftRight_eq_div_pow,Nat.pow_mul]
theorem qB (m k:Nat)(h:m< 256 ^ k)(h2:¬0< k∨0< m>>> (8*(k - 1))):k= (le m).length:=by
 refine (pL k m h ?_).symm;rcases h2 with h2|h2
 . left;omega
 . right
   rw[qA] at h2;have hp:0< 256 ^ (k - 1):=Nat.pow_pos (by decide);exact (Nat.le_div_iff_mul_le hp).1 h2|> (by simpa using ·)
theorem ze (m k:Nat)(_:0< k)(h2:¬0< m>>> (8*(k - 1))):m< 256 ^ (k - 1):=by
 rw[qA] at h2;have hp:0< 256 ^ (k - 1):=Nat.pow_pos (by decide);have:m / 256 ^ (k - 1) =0:=Nat.eq_zero_of_not_pos h2;exact (Nat.div_eq_zero_iff_lt hp).1 this
theorem qC (m:Nat)(x:UInt8)(a:Nat)(h:a< (le m).length): ((be m (le m).length).map (· ^^^ x)).take a++[UInt8.ofNat (m>>> (8*((le m).length - 1 - a))) ^^^ x] = ((be m (le m).length).map (· ^^^ x)).take (a+1):=by
 have hl:a< ((be m (le m).length).map (· ^^^ x)).length:=by simpa[be_len] using h
 rw[fq _ _ hl,Cw _ _ _ (by rw[be_len];exact h),v5 _ _ _ h]
theorem zf (l:List UInt8)(f:UInt8→UInt8)(a:Nat)(h:a< l.length): (l.reverse.map f).take a++[f (gt l (l.length - 1 - a))] = (l.reverse.map f).take (a+1):=by
 rw[fq _ _ (by simpa using h),Cw _ _ _ (by simpa using h),Ct _ _ h]
end Go.Sx
namespace Go.Sx
open Go.RowKit Go.Proofs
theorem jc:td Tryd.prog 3=some ⟨.int .i64,1,8,[.int .i64 0]⟩:=by kernel_rfl
theorem td4:td Tryd.prog 4=some ⟨.bool,1,1,[.bool false]⟩:=by kernel_rfl
theorem Qs:td Tryd.prog 5=some ⟨.int .u8,1,1,[.int .u8 0]⟩:=by kernel_rfl
theorem Cy:td Tryd.prog 9=some ⟨.string,1,16,[.string ⟨#[]⟩]⟩:=by kernel_rfl
theorem Qt:td Tryd.prog 22=some ⟨.slice 3,1,24,[.slice none 0 0]⟩:=by kernel_rfl
theorem ab0:td Tryd.prog 23=some ⟨.slice 29,1,24,[.slice none 0 0]⟩:=by kernel_rfl
theorem GC:td Tryd.prog 25=some ⟨.int .i64,1,8,[.int .i64 0]⟩:=by kernel_rfl
theorem GD:td Tryd.prog 27=some ⟨.slice 46,1,24,[.slice none 0 0]⟩:=by kernel_rfl
theorem GE:td Tryd.prog 29=some ⟨.struct #[Field.mk "List" 27 0 false "" "" 0],1,24,[.slice none 0 0]⟩ :=by kernel_rfl
theorem GF:td Tryd.prog 30=some ⟨.slice 37,1,24,[.slice none 0 0]⟩:=by kernel_rfl
theorem lW:td Tryd.prog 34=some ⟨.struct #[Field.mk "By" 3 0 false "" "" 0,Field.mk "Seq" 3 1 false "" "" 8,Field.mk "K" 3 2 false "" "" 16],3,24,[.int .i64 0,.int .i64 0,.int .i64 0]⟩ :=by kernel_rfl
theorem GG:td Tryd.prog 35=some ⟨.slice 34,1,24,[.slice none 0 0]⟩:=by kernel_rfl
theorem lX:td Tryd.prog 37=some ⟨.struct #[Field.mk "ID" 34 0 false "" "" 0,Field.mk "Form" 3 3 false "" "" 24,Field.mk "Lang" 3 4 false "" "" 32,Field.mk "Text" 9 5 false "" "" 40,Field.mk "Refs" 35 6 false "" "" 56],7,80,[.int .i64 0,.int .i64 0,.int .i64 0,.int .i64 0,.int .i64 0,.string ⟨#[]⟩,.slice none 0 0]⟩ :=by kernel_rfl
theorem GH:td Tryd.prog 44=some ⟨.slice 48,1,24,[.slice none 0 0]⟩:=by kernel_rfl
theorem wB:td Tryd.prog 46=some ⟨.struct #[Field.mk "List" 44 0 false "" "" 0],1,24,[.slice none 0 0]⟩ :=by kernel_rfl
theorem ui:td Tryd.prog 48=some ⟨.struct #[Field.mk "Title" 9 0 false "" "" 0,Field.mk "List" 30 1 false "" "" 16],2,40,[.string ⟨#[]⟩,.slice none 0 0]⟩ :=by kernel_rfl
theorem Qu:td Tryd.prog 53=some ⟨.array 3 3,3,24,List.replicate 3 (.int .i64 0)⟩:=by kernel_rfl
theorem AS:td Tryd.prog 60=some ⟨.struct #[Field.mk "Volume" 3 0 false "" "" 0,Field.mk "Article" 3 1 false "" "" 8,Field.mk "Index" 3 2 false "" "" 16],3,24,[.int .i64 0,.int .i64 0,.int .i64 0]⟩ :=by kernel_rfl
theorem AT:td Tryd.prog 72=some ⟨.slice 5,1,24,[.slice none 0 0]⟩:=by kernel_rfl
theorem Qv:td Tryd.prog 80=some ⟨.array 16 5,16,16,List.replicate 16 (.int .u8 0)⟩:=by kernel_rfl
theorem ab1:td Tryd.prog 84=some ⟨.slice 72,1,24,[.slice none 0 0]⟩:=by kernel_rfl
theorem ab2:td Tryd.prog 97=some ⟨.slice 143,1,24,[.slice none 0 0]⟩:=by kernel_rfl
theorem AU:td Tryd.prog 116=some ⟨.struct #[Field.mk "b" 72 0 false "" "passim/work" 0,Field.mk "e" 25 1 false "" "passim/work" 24],2,32,[.slice none 0 0,.int .i64 0]⟩ :=by kernel_rfl
theorem Xw:td Tryd.prog 122=some ⟨.slice 9,1,24,[.slice none 0 0]⟩:=by kernel_rfl
theorem Ks:td Tryd.prog 123=some ⟨.int .u32,1,4,[.int .u32 0]⟩:=by kernel_rfl
theorem Kt:td Tryd.prog 124=some ⟨.array 8 123,8,32,List.replicate 8 (.int .u32 0)⟩:=by kernel_rfl
theorem Ku:td Tryd.prog 125=some ⟨.array 64 5,64,64,List.replicate 64 (.int .u8 0)⟩:=by kernel_rfl
theorem Kv:td Tryd.prog 126=some ⟨.int .u64,1,8,[.int .u64 0]⟩:=by kernel_rfl
theorem v7:td Tryd.prog 128=some ⟨.struct #[Field.mk "state" 124 0 false "" "passim/hash" 0,Field.mk "block" 125 8 false "" "passim/hash" 32,Field.mk "n" 126 72 false "" "passim/hash" 96],73,104,List.replicate 8 (.int .u32 0)++(List.replicate 64 (.int .u8 0)++[.int .u64 0])⟩ :=by kernel_rfl
theorem Xx:td Tryd.prog 131=some ⟨.array 32 5,32,32,List.replicate 32 (.int .u8 0)⟩:=by kernel_rfl
theorem AV:td Tryd.prog 135=some ⟨.struct #[Field.mk "B" 72 0 false "" "" 0,Field.mk "E" 25 1 false "" "" 24],2,32,[.slice none 0 0,.int .i64 0]⟩ :=by kernel_rfl
theorem Kw:td Tryd.prog 143=some ⟨.struct #[Field.mk "At" 3 0 false "" "" 0,Field.mk "End" 3 1 false "" "" 8,Field.mk "Kind" 3 2 false "" "" 16],3,24,[.int .i64 0,.int .i64 0,.int .i64 0]⟩ :=by kernel_rfl
theorem Xy:td Tryd.prog 162=some ⟨.int .u64,1,8,[.int .u64 0]⟩:=by kernel_rfl
theorem Kx:td Tryd.prog 166=some ⟨.array 64 123,64,256,List.replicate 64 (.int .u32 0)⟩:=by kernel_rfl
theorem Xz:td Tryd.prog 168=some ⟨.array 4 123,4,16,List.replicate 4 (.int .u32 0)⟩:=by kernel_rfl
attribute [go_sem] jc td4 Qs Cy Qt ab0 GC GD GE GF lW GG lX GH wB ui Qu AS AT Qv ab1 ab2 AU Xw Ks Kt Ku Kv v7 Xx AV Kw Xy Kx Xz
noncomputable def ax (gl:Nat→C)(M:Nat)(pu:Nat→List C→Option C):Cx:=⟨Tryd.prog,M,gl,pu,fun _ _ _=>none,fun _=>false,fun _ _=>false,true⟩
theorem Qw (P:Program)(N:Nat)(gl:Nat→C)(pu:Nat→List C→Option C)(hp:Nat→List C→Hp→Option (C×Hp))(km:TypeId→Value→Bool)(d:Option Nat):kW ⟨P,N,gl,pu,hp,fun _=>false,km,true⟩ d=false:=by cases d<;>rfl
theorem Qx (gl:Nat→C)(M:Nat)(pu:Nat→List C→Option C)(d:Option Nat):kW (ax gl M pu) d=false:=by cases d<;>rfl
theorem Ky (gl:Nat→C)(M:Nat)(pu:Nat→List C→Option C): (ax gl M pu).P=Tryd.prog:=rfl
theorem XA (gl:Nat→C)(M:Nat)(pu:Nat→List C→Option C): (ax gl M pu).N=M:=rfl
theorem Qy (gl:Nat→C)(M:Nat)(pu:Nat→List C→Option C): (ax gl M pu).pu=pu:=rfl
theorem Qz (gl:Nat→C)(M:Nat)(pu:Nat→List C→Option C): (ax gl M pu).hp=fun _ _ _=>none:=rfl
theorem QA (gl:Nat→C)(M:Nat)(pu:Nat→List C→Option C): (ax gl M pu).gl=gl:=rfl
theorem bM {gl:Nat→C}{M:Nat}{pu:Nat→List C→Option C}: (ax gl M pu).P.follows .mixedOrders=true:=by
 rw[Ky];kernel_rfl
attribute [go_sem] Qw Qx Ky XA Qy Qz QA
set_option maxRecDepth 10000
abbrev ID:=Int×Int×Int
def iD (x:ID):List C:=[.val (.int .i64 x.1),.val (.int .i64 x.2.1),.val (.int .i64 x.2.2)]
abbrev aI:=ID×Int×Int×List UInt8×List ID
def pC (x:aI):List C:=[.val (.int .i64 x.1.1),.val (.int .i64 x.1.2.1),.val (.int .i64 x.1.2.2),.val (.int .i64 x.2.1),.val (.int .i64 x.2.2.1),.val (str x.2.2.2.1),sl iD .no x.2.2.2.2]
abbrev dG:=List UInt8×List aI
def aC (x:dG):List C:=[.val (str x.1),sl pC .no x.2]
abbrev bE:=List dG
def vC (x:bE):List C:=[sl aC .no x]
abbrev ah:=List bE
instance:Cel iD 3:=⟨fun _=>rfl,fun _=>rfl,by decide,fun _ _=>rfl⟩
instance:Cel pC 7:=⟨fun _=>rfl,fun _=>rfl,by decide,fun _ _=>rfl⟩
instance:Cel aC 2:=⟨fun _=>rfl,fun _=>rfl,by decide,fun _ _=>rfl⟩
instance:Sca vC (sl aC .no):=⟨fun _=>rfl,fun _=>rfl,fun _=>rfl,fun _ _=>rfl⟩
instance:Fla iD:=⟨fun _=>rfl⟩
instance:Nrf pC:=⟨fun k x=>by simp only[pC,noRefs,ae,bf,Bool.and_self]⟩
instance:Nrf aC:=⟨fun k x=>by simp only[aC,noRefs,ae,bf,Bool.and_self]⟩
instance:Nrf vC:=⟨fun k x=>by simp only[vC,noRefs,ae,bf,Bool.and_self]⟩
instance:Inj iD:=⟨fun a b h=>by
 obtain ⟨a1,a2,a3⟩:=a;obtain ⟨b1,b2,b3⟩:=b
 simp only[iD,List.cons.injEq,C.val.injEq,Value.int.injEq,true_and,and_true] at h;obtain ⟨rfl,rfl,rfl⟩:=h;rfl⟩
instance:Inj pC:=⟨fun a b h=>by
 obtain ⟨⟨a1,a2,a3⟩,a4,a5,a6,a7⟩:=a;obtain ⟨⟨b1,b2,b3⟩,b4,b5,b6,b7⟩:=b
 simp only[pC,List.cons.injEq,C.val.injEq,Value.int.injEq,nW,kX,true_and,and_true] at h;obtain ⟨rfl,rfl,rfl,rfl,rfl,rfl,rfl⟩:=h;rfl⟩
instance:Inj aC:=⟨fun a b h=>by
 obtain ⟨a1,a2⟩:=a;obtain ⟨b1,b2⟩:=b
 simp only[aC,List.cons.injEq,C.val.injEq,nW,kX,true_and,and_true] at h;obtain ⟨rfl,rfl⟩:=h;rfl⟩
instance:Inj vC:=⟨fun a b h=>by
 simp only[vC,List.cons.injEq,kX,and_true] at h;exact h⟩
theorem TG (x:ID):List.map C.noR (iD x) =iD x:=rfl
theorem TH (x:aI):List.map C.noR (pC x) =pC x:=rfl
theorem TI (x:dG):List.map C.noR (aC x) =aC x:=rfl
theorem TJ (x:bE):List.map C.noR (vC x) =vC x:=rfl
theorem Jy (xs:List C)(k o n:Nat)(h:k≤xs.length):eA (xs.drop k) o n=eA xs (k+o) n:=by
 unfold eA;rw[List.length_drop,List.drop_drop];by_cases e:k+o+n≤xs.length
 . rw[if_pos (by omega),if_pos e]
 . rw[if_neg (by omega),if_neg e]
theorem qo {α:Type}[Inhabited α](f:α→List C){s:Nat}[hf:Cel f s](l:List α)(k j:Nat)(h:k< l.length)(hj:j< s):cb (cl f l) (k*s+j) =cb (f (gt l k)) j:=by
 unfold cb;have e:gt l k=l[k]:=by simp[gt,List.getD,List.getElem?_eq_getElem h]
 rw[zO (f:=f) l k j hj,List.getElem?_eq_getElem h,e];rfl
theorem uN {α:Type}[Inhabited α](f:α→List C){s:Nat}[hf:Cel f s](l:List α)(k j n:Nat)(h:k< l.length)(hj:j+n≤s):eA (cl f l) (k*s+j) n=eA (f (gt l k)) j n:=by
 have e:l[k]? =some (gt l k):=by simp[gt,List.getD,List.getElem?_eq_getElem h]
 have ha:=KH (f:=f) l k _ e;have hl:=aD (f:=f) l;have hlf:=hf.len (gt l k);have hk:k*s+s≤l.length*s:=by
  have: (k+1)*s≤l.length*s:=Nat.mul_le_mul_right s h;rw[Nat.add_mul,Nat.one_mul] at this;exact this
 unfold eA;rw[if_pos (by rw[hl];omega),if_pos (by rw[hlf];omega)];congr 3
 rw[←ha,List.drop_take,List.take_take,Nat.min_eq_left (by omega),List.drop_drop]
theorem OR (k:Hp)(x y:Option (List C)): (k++[x]).set k.length y=k++[y]:=by simp
theorem TK (k:Hp)(x:Option (List C)):Hp.at (k++[x]) k.length=aR x:=by rw[cL,if_pos rfl]
theorem OS (k:Hp)(x:Option (List C)): (k++[x])[k.length]? =some x:=by simp
theorem Af (x:aI):aR (some (pC x)) =some (pC x):=rfl
theorem Ag (x:dG):aR (some (aC x)) =some (aC x):=rfl
theorem Ah (x:bE):aR (some (vC x)) =some (vC x):=rfl
theorem TL (x:ID):eA (iD x) 0 3=some (.agg (iD x)):=rfl
theorem TM (x:aI):eA (pC x) 0 7=some (.agg (pC x)):=rfl
theorem OT (x:aI):eA (pC x) 0 3=some (.agg (iD x.1)):=rfl
theorem jH {P:Program}{t i ft k:Nat}{fs:Array Field}{fd:Field}{de:TD}{s y:Nat}{z:List Value}(h1:td P t=some ⟨.struct fs,s,y,z⟩)(h2:fs[i]? =some fd)(ht:fd.type=ft)(hk:fd.offset=k)(h3:td P ft=some de)(h4:¬de.size=0)(b o:Nat):an P t (.bp b o) i=some (vp (.bp b (o+k))):=by
 subst ht hk;unfold an;simp only[h1,h2,h3,if_neg h4];rfl
theorem pG {P:Program}{t i ft k:Nat}{fs:Array Field}{fd:Field}{de:TD}{s y:Nat}{z:List Value}(h1:td P t=some ⟨.struct fs,s,y,z⟩)(h2:fs[i]? =some fd)(ht:fd.type=ft)(hk:fd.offset=k)(h3:td P ft=some de)(h4:¬de.size=0)(xs:List C)(h:k≤xs.length):an P t (.kp xs) i=some (vp (.kp (xs.drop k))):=by
 subst ht hk;unfold an;simp only[h1,h2,h3,if_neg h4,if_pos h];rfl
theorem TN (a b c:C)(x:ID):cj [a,b,c] 0 (iD x) =some (iD x,.val undef):=rfl
theorem TO (fs:Array Field)(b o y:Nat)(z:List Value)(x:ID):mW (some ⟨.struct fs,3,y,z⟩) b o (some (iD x)) =some (.wr b (fun cells=>cj cells o (iD x)) none):=rfl
theorem TP (x:ID): (iD x).length=3:=rfl
theorem TQ (a b c d e f g:C)(x:aI):cj [a,b,c,d,e,f,g] 0 (pC x) =some (pC x,.val undef):=rfl
theorem TR (fs:Array Field)(b o y:Nat)(z:List Value)(x:aI):mW (some ⟨.struct fs,7,y,z⟩) b o (some (pC x)) =some (.wr b (fun cells=>cj cells o (pC x)) none):=rfl
theorem E6 (x:aI): (pC x).length=7:=rfl
theorem TT (a b:C)(x:dG):cj [a,b] 0 (aC x) =some (aC x,.val undef):=rfl
theorem TU (fs:Array Field)(b o y:Nat)(z:List Value)(x:dG):mW (some ⟨.struct fs,2,y,z⟩) b o (some (aC x)) =some (.wr b (fun cells=>cj cells o (aC x)) none):=rfl
theorem TV (x:dG): (aC x).length=2:=rfl
theorem TW (a:C)(x:bE):cj [a] 0 (vC x) =some (vC x,.val undef):=rfl
theorem TX (fs:Array Field)(b o y:Nat)(z:List Value)(x:bE):mW (some ⟨.struct fs,1,y,z⟩) b o (some (vC x)) =some (.wr b (fun cells=>cj cells o (vC x)) none):=rfl
theorem TY (x:bE): (vC x).length=1:=rfl
theorem Jz (x:ID):cb (iD x) 0=some (.val (.int .i64 x.1)):=rfl
theorem B0 (l:List ID)(k:Nat)(h:k< l.length):cb (cl iD l) (k*3) =some (.val (.int .i64 (gt l k).1)):=by
 have:=qo iD l k 0 h (by decide);rw[Nat.add_zero] at this;exact this
theorem JA (x:ID):cb (iD x) 1=some (.val (.int .i64 x.2.1)):=rfl
theorem B1 (l:List ID)(k:Nat)(h:k< l.length):cb (cl iD l) (k*3+1) =some (.val (.int .i64 (gt l k).2.1)):=by
 have:=qo iD l k 1 h (by decide);exact this
theorem JB (x:ID):cb (iD x) 2=some (.val (.int .i64 x.2.2)):=rfl
theorem B2 (l:List ID)(k:Nat)(h:k< l.length):cb (cl iD l) (k*3+2) =some (.val (.int .i64 (gt l k).2.2)):=by
 have:=qo iD l k 2 h (by decide);exact this
theorem JC (l:List ID)(k:Nat)(h:k< l.length):eA (cl iD l) (k*3) 3=some (.agg (iD (gt l k))):=by
 have:=uN iD l k 0 3 h (by decide);rw[Nat.add_zero] at this;exact this
theorem JD (x:aI):cb (pC x) 0=some (.val (.int .i64 x.1.1)):=rfl
theorem JE (x:aI):cb (pC x) 1=some (.val (.int .i64 x.1.2.1)):=rfl
theorem JF (x:aI):cb (pC x) 2=some (.val (.int .i64 x.1.2.2)):=rfl
theorem JG (x:aI):cb (pC x) 3=some (.val (.int .i64 x.2.1)):=rfl
theorem B3 (l:List aI)(k:Nat)(h:k< l.length):cb (cl pC l) (k*7+3) =some (.val (.int .i64 (gt l k).2.1)):=by
 have:=qo pC l k 3 h (by decide);exact this
theorem JH (x:aI):cb (pC x) 4=some (.val (.int .i64 x.2.2.1)):=rfl
theorem JI (x:aI):cb (pC x) 5=some (.val (str x.2.2.2.1)):=rfl
theorem JJ (x:aI):cb (pC x) 6=some (sl iD .no x.2.2.2.2):=rfl
theorem B4 (l:List aI)(k:Nat)(h:k< l.length):cb (cl pC l) (k*7+6) =some (sl iD .no (gt l k).2.2.2.2):=by
 have:=qo pC l k 6 h (by decide);exact this
theorem JK (l:List aI)(k:Nat)(h:k< l.length):eA (cl pC l) (k*7) 7=some (.agg (pC (gt l k))):=by
 have:=uN pC l k 0 7 h (by decide);rw[Nat.add_zero] at this;exact this
theorem E7 (l:List aI)(k:Nat)(h:k< l.length):eA (cl pC l) (k*7) 3=some (.agg (iD (gt l k).1)):=by
 have:=uN pC l k 0 3 h (by decide);rw[Nat.add_zero] at this;exact this
theorem JL (x:dG):cb (aC x) 0=some (.val (str x.1)):=rfl
theorem B5 (l:List dG)(k:Nat)(h:k< l.length):cb (cl aC l) (k*2) =some (.val (str (gt l k).1)):=by
 have:=qo aC l k 0 h (by decide);rw[Nat.add_zero] at this;exact this
theorem JM (x:dG):cb (aC x) 1=some (sl pC .no x.2):=rfl
theorem tz (l:List dG)(k:Nat)(h:k< l.length):cb (cl aC l) (k*2+1) =some (sl pC .no (gt l k).2):=by
 have:=qo aC l k 1 h (by decide);exact this
theorem JN (l:List dG)(k:Nat)(h:k< l.length):eA (cl aC l) (k*2) 2=some (.agg (aC (gt l k))):=by
 have:=uN aC l k 0 2 h (by decide);rw[Nat.add_zero] at this;exact this
theorem JO (x:bE):cb (vC x) 0=some (sl aC .no x):=rfl
theorem tA (l:List bE)(k:Nat)(h:k< l.length):cb (cl vC l) (k) =some (sl aC .no (gt l k)):=by
 have:=qo vC l k 0 h (by decide);rw[Nat.mul_one,Nat.add_zero] at this;exact this
theorem JP (l:List bE)(k:Nat)(h:k< l.length):eA (cl vC l) (k) 1=some (.agg (vC (gt l k))):=by
 have:=uN vC l k 0 1 h (by decide);rw[Nat.mul_one,Nat.add_zero] at this;exact this
theorem TZ (a b x:C):cj [a,b] 0 [x] =some ([x,b],.val undef):=rfl
theorem T1 (a b x:C):pB [a,b] 0 x=some ([x,b],.val undef):=rfl
theorem T3 (a b x:C):cj [a,b] 1 [x] =some ([a,x],.val undef):=rfl
theorem T4 (a b x:C):pB [a,b] 1 x=some ([a,x],.val undef):=rfl
theorem T5 (a b c x:C):cj [a,b,c] 0 [x] =some ([x,b,c],.val undef):=rfl
theorem T6 (a b c x:C):cj [a,b,c] 1 [x] =some ([a,x,c],.val undef):=rfl
theorem T7 (a b c x:C):cj [a,b,c] 2 [x] =some ([a,b,x],.val undef):=rfl
theorem T8 (a b c d e f g x:C):cj [a,b,c,d,e,f,g] 3 [x] =some ([a,b,c,x,e,f,g],.val undef):=rfl
theorem T9 (a b c d e f g x:C):cj [a,b,c,d,e,f,g] 4 [x] =some ([a,b,c,d,x,f,g],.val undef):=rfl
theorem Ua (a b c d e f g x:C):cj [a,b,c,d,e,f,g] 5 [x] =some ([a,b,c,d,e,x,g],.val undef):=rfl
theorem Ub (a b c d e f g x:C):cj [a,b,c,d,e,f,g] 6 [x] =some ([a,b,c,d,e,f,x],.val undef):=rfl
theorem Uc (a b c d e f g x:C):pB [a,b,c,d,e,f,g] 6 x=some ([a,b,c,d,e,f,x],.val undef):=rfl
theorem Ud (b o:Nat):an Tryd.prog 34 (.bp b o) 0=some (vp (.bp b (o+0))):= @jH Tryd.prog 34 0 3 0 _ _ _ _ _ _ lW rfl rfl rfl jc (by decide) b o
theorem Ue (xs:List C)(h:0≤xs.length):an Tryd.prog 34 (.kp xs) 0=some (vp (.kp (xs.drop 0))):= @pG Tryd.prog 34 0 3 0 _ _ _ _ _ _ lW rfl rfl rfl jc (by decide) xs h
theorem Uf (b o:Nat):an Tryd.prog 34 (.bp b o) 1=some (vp (.bp b (o+1))):= @jH Tryd.prog 34 1 3 1 _ _ _ _ _ _ lW rfl rfl rfl jc (by decide) b o
theorem Ug (xs:List C)(h:1≤xs.length):an Tryd.prog 34 (.kp xs) 1=some (vp (.kp (xs.drop 1))):= @pG Tryd.prog 34 1 3 1 _ _ _ _ _ _ lW rfl rfl rfl jc (by decide) xs h
theorem Uh (b o:Nat):an Tryd.prog 34 (.bp b o) 2=some (vp (.bp b (o+2))):= @jH Tryd.prog 34 2 3 2 _ _ _ _ _ _ lW rfl rfl rfl jc (by decide) b o
theorem Ui (xs:List C)(h:2≤xs.length):an Tryd.prog 34 (.kp xs) 2=some (vp (.kp (xs.drop 2))):= @pG Tryd.prog 34 2 3 2 _ _ _ _ _ _ lW rfl rfl rfl jc (by decide) xs h
theorem Uj (b o:Nat):an Tryd.prog 60 (.bp b o) 0=some (vp (.bp b (o+0))):= @jH Tryd.prog 60 0 3 0 _ _ _ _ _ _ AS rfl rfl rfl jc (by decide) b o
theorem Uk (b o:Nat):an Tryd.prog 60 (.bp b o) 1=some (vp (.bp b (o+1))):= @jH Tryd.prog 60 1 3 1 _ _ _ _ _ _ AS rfl rfl rfl jc (by decide) b o
theorem Ul (b o:Nat):an Tryd.prog 60 (.bp b o) 2=some (vp (.bp b (o+2))):= @jH Tryd.prog 60 2 3 2 _ _ _ _ _ _ AS rfl rfl rfl jc (by decide) b o
theorem Um (b o:Nat):an Tryd.prog 37 (.bp b o) 0=some (vp (.bp b (o+0))):= @jH Tryd.prog 37 0 34 0 _ _ _ _ _ _ lX rfl rfl rfl lW (by decide) b o
theorem Un (xs:List C)(h:0≤xs.length):an Tryd.prog 37 (.kp xs) 0=some (vp (.kp (xs.drop 0))):= @pG Tryd.prog 37 0 34 0 _ _ _ _ _ _ lX rfl rfl rfl lW (by decide) xs h
theorem Uo (b o:Nat):an Tryd.prog 37 (.bp b o) 1=some (vp (.bp b (o+3))):= @jH Tryd.prog 37 1 3 3 _ _ _ _ _ _ lX rfl rfl rfl jc (by decide) b o
theorem Up (xs:List C)(h:3≤xs.length):an Tryd.prog 37 (.kp xs) 1=some (vp (.kp (xs.drop 3))):= @pG Tryd.prog 37 1 3 3 _ _ _ _ _ _ lX rfl rfl rfl jc (by decide) xs h
theorem Uq (b o:Nat):an Tryd.prog 37 (.bp b o) 2=some (vp (.bp b (o+4))):= @jH Tryd.prog 37 2 3 4 _ _ _ _ _ _ lX rfl rfl rfl jc (by decide) b o
theorem Ur (xs:List C)(h:4≤xs.length):an Tryd.prog 37 (.kp xs) 2=some (vp (.kp (xs.drop 4))):= @pG Tryd.prog 37 2 3 4 _ _ _ _ _ _ lX rfl rfl rfl jc (by decide) xs h
theorem Us (b o:Nat):an Tryd.prog 37 (.bp b o) 3=some (vp (.bp b (o+5))):= @jH Tryd.prog 37 3 9 5 _ _ _ _ _ _ lX rfl rfl rfl Cy (by decide) b o
theorem Ut (xs:List C)(h:5≤xs.length):an Tryd.prog 37 (.kp xs) 3=some (vp (.kp (xs.drop 5))):= @pG Tryd.prog 37 3 9 5 _ _ _ _ _ _ lX rfl rfl rfl Cy (by decide) xs h
theorem Uu (b o:Nat):an Tryd.prog 37 (.bp b o) 4=some (vp (.bp b (o+6))):= @jH Tryd.prog 37 4 35 6 _ _ _ _ _ _ lX rfl rfl rfl GG (by decide) b o
theorem Uv (xs:List C)(h:6≤xs.length):an Tryd.prog 37 (.kp xs) 4=some (vp (.kp (xs.drop 6))):= @pG Tryd.prog 37 4 35 6 _ _ _ _ _ _ lX rfl rfl rfl GG (by decide) xs h
theorem Uw (b o:Nat):an Tryd.prog 46 (.bp b o) 0=some (vp (.bp b (o+0))):= @jH Tryd.prog 46 0 44 0 _ _ _ _ _ _ wB rfl rfl rfl GH (by decide) b o
theorem Ux (xs:List C)(h:0≤xs.length):an Tryd.prog 46 (.kp xs) 0=some (vp (.kp (xs.drop 0))):= @pG Tryd.prog 46 0 44 0 _ _ _ _ _ _ wB rfl rfl rfl GH (by decide) xs h
theorem Uy (b o:Nat):an Tryd.prog 48 (.bp b o) 0=some (vp (.bp b (o+0))):= @jH Tryd.prog 48 0 9 0 _ _ _ _ _ _ ui rfl rfl rfl Cy (by decide) b o
theorem Uz (xs:List C)(h:0≤xs.length):an Tryd.prog 48 (.kp xs) 0=some (vp (.kp (xs.drop 0))):= @pG Tryd.prog 48 0 9 0 _ _ _ _ _ _ ui rfl rfl rfl Cy (by decide) xs h
theorem UA (b o:Nat):an Tryd.prog 48 (.bp b o) 1=some (vp (.bp b (o+1))):= @jH Tryd.prog 48 1 30 1 _ _ _ _ _ _ ui rfl rfl rfl GF (by decide) b o
theorem UB (xs:List C)(h:1≤xs.length):an Tryd.prog 48 (.kp xs) 1=some (vp (.kp (xs.drop 1))):= @pG Tryd.prog 48 1 30 1 _ _ _ _ _ _ ui rfl rfl rfl GF (by decide) xs h
theorem UC (b o:Nat):an Tryd.prog 29 (.bp b o) 0=some (vp (.bp b (o+0))):= @jH Tryd.prog 29 0 27 0 _ _ _ _ _ _ GE rfl rfl rfl GD (by decide) b o
theorem UD (xs:List C)(h:0≤xs.length):an Tryd.prog 29 (.kp xs) 0=some (vp (.kp (xs.drop 0))):= @pG Tryd.prog 29 0 27 0 _ _ _ _ _ _ GE rfl rfl rfl GD (by decide) xs h
attribute [go_sem] TP E6 TV TY TO TR TU TX Jy OR TK OS Af Ag Ah TL TM OT Jz JA JB JD JE JF JG JH JI JJ JL JM JO Ud Ue Uf Ug Uh Ui Uj Uk Ul Um Un Uo Up Uq Ur Us Ut Uu Uv Uw Ux Uy Uz UA UB UC UD
attribute [go_sem high] TN TQ TT TW TG TH TI TJ B0 B1 B2 JC B3 B4 JK E7 B5 tz JN tA JP TZ T1 T3 T4 T5 T6 T7 T8 T9 Ua Ub Uc
end Go.Sx
namespace Go.Sx
structure Tok where
 a:Nat
 e:Nat
 k:Nat
deriving DecidableEq
instance:Inhabited Tok:=⟨⟨0,0,0⟩⟩
def kd (c:UInt8):Nat:=if (97≤c∧c≤122)∨(65≤c∧c≤90) then 0 else if 48≤c∧c≤57 then 1 else if c=64 then 3 else 2
theorem ack (p:UInt8→Bool)(h: (List.range 256).all (fun n=>p (UInt8.ofNat n)) =true)(c:UInt8):p c=true:=by
 have h1:=List.all_eq_true.1 h c.toNat (List.mem_range.2 c.toNat_lt);have h2:UInt8.ofNat c.toNat=c:=UInt8.toNat_inj.1 (by simp)
 rwa [h2] at h1
theorem YN (c:UInt8):kd c≤3:=by
 have:=ack (fun c=>decide (kd c≤3)) (by decide+kernel) c;simpa using this
theorem Jr:kd 32=2:=by decide
def eT (p:Nat):Option (Nat×Nat)→List UInt8→List Tok
 |none,[] =>[]
 |some (a,k),[] =>[⟨a,p,k⟩]
 |none,c::r=>if c=32 then eT (p+1) none r else eT (p+1) (some (p,kd c)) r
 |some (a,k),c::r=>if c≠32∧k< 2∧kd c=k then eT (p+1) (some (a,k)) r else
  ⟨a,p,k⟩:: (if c=32 then eT (p+1) none r else eT (p+1) (some (p,kd c)) r)
def jf (s:List UInt8):List Tok:=eT 0 none s
def jl (k:Nat):List UInt8→Nat
 | [] =>0
 |c::r=>if k< 2∧kd c=k then jl k r+1 else 0
theorem EX (k:Nat):∀l,jl k l≤l.length
 | [] =>Nat.le_refl _
 |c::r=>by
  unfold jl;have:=EX k r;split<;>simp<;>omega
theorem lj (p:Nat)(c:UInt8)(r:List UInt8):eT p none (c::r) =if c=32 then eT (p+1) none r else eT (p+1) (some (p,kd c)) r:=rfl
theorem xX (a k:Nat):∀ (l:List UInt8)(p:Nat),eT p (some (a,k)) l= ⟨a,p+jl k l,k⟩::eT (p+jl k l) none (l.drop (jl k l))
 | [],p=>rfl
 |c::r,p=>by
  by_cases h:k< 2∧kd c=k
  . have hc:c≠32:=by rintro rfl;rw[Jr] at h;omega
    have e1:eT p (some (a,k)) (c::r) =eT (p+1) (some (a,k)) r:=if_pos ⟨hc,h⟩;have e2:jl k (c::r) =jl k r+1:=if_pos h;rw[e1,e2,xX a k r (p+1),List.drop_succ_cons];rw[show p+1+jl k r=p+(jl k r+1) by omega]
  . have e1:eT p (some (a,k)) (c::r) = ⟨a,p,k⟩::eT p none (c::r):=if_neg (fun h'=>h h'.2)
    have e2:jl k (c::r) =0:=if_neg h;rw[e1,e2];rfl
theorem OG (p:Nat)(c:UInt8)(r:List UInt8)(h:c≠32):eT p none (c::r) = ⟨p,p+1+jl (kd c) r,kd c⟩::eT (p+1+jl (kd c) r) none (r.drop (jl (kd c) r)):=by
 rw[lj,if_neg h,xX]
theorem EY (p:Nat)(r:List UInt8):eT p none (32::r) =eT (p+1) none r:=by rw[lj,if_pos rfl]
def Lie (lo hi:Nat):List Tok→Prop
 | [] =>lo≤hi
 |t::r=>lo≤t.a∧t.a< t.e∧t.e≤hi∧t.k≤3∧Lie t.e hi r
theorem Lie.mono {lo lo' hi:Nat}(h:lo'≤lo):∀ {l:List Tok},Lie lo hi l→Lie lo' hi l
 | [],k=>Nat.le_trans h k
 |t::r,k=>⟨Nat.le_trans h k.1,k.2⟩
theorem z6:∀ (l:List UInt8)(p:Nat),Lie p (p+l.length) (eT p none l)∧∀a k,a< p→k≤3→Lie a (p+l.length) (eT p (some (a,k)) l)
 | [],p=>⟨Nat.le_refl _,fun a k h hk=>⟨Nat.le_refl _,h,Nat.le_refl _,hk,Nat.le_refl _⟩⟩
 |c::r,p=>by
  obtain ⟨i1,i2⟩:=z6 r (p+1);have e:p+1+r.length=p+(c::r).length:=by simp;omega
  rw[e] at i1 i2;have hno:Lie p (p+(c::r).length) (if c=32 then eT (p+1) none r else eT (p+1) (some (p,kd c)) r):=by
   split
   . exact i1.mono (by omega)
   . exact i2 p (kd c) (by omega) (YN c)
  refine ⟨by rw[lj];exact hno,fun a k h hk=>?_⟩;unfold eT;split
  . exact i2 a k (by omega) hk
  . exact ⟨Nat.le_refl _,h,Nat.le_add_right _ _,hk,hno⟩
theorem Js (s:List UInt8):Lie 0 s.length (jf s):=by
 have:=(z6 s 0).1
 rwa [Nat.zero_add] at this
theorem Lie.len {lo hi:Nat}:∀ {l:List Tok},Lie lo hi l→l.length+lo≤hi
 | [],h=>by simpa[Lie] using h
 |t::r,h=>by
  have:=h.2.2.2.2.len;have:=h.1;have:=h.2.1;simp;omega
theorem se (s:List UInt8): (jf s).length≤s.length:=by have:=(Js s).len;omega
def m7 (s:List UInt8)(i:Nat):Bool:=decide (gt s i< 32) ||decide (126< gt s i) || (decide (gt s i=32) && (decide (i=0) ||decide (i+1=s.length) ||decide (gt s (i - 1) =32)))
def Tu (s:List UInt8):Bool:=(List.range s.length).any (m7 s)
def fF (s:List UInt8):Nat:=if 4096< s.length then 4 else if Tu s=true then 2 else if s= [] then 2 else if 256< (jf s).length then 4 else 0
def YO (s:List UInt8)(f t:Nat):List UInt8:=(s.drop (gt (jf s) f).a).take ((gt (jf s) (t - 1)).e - (gt (jf s) f).a)
def part (s:List UInt8)(f t:Int):List UInt8:=if f< 0∨t≤f∨((jf s).length:Int) < t then [] else YO s f.toNat t.toNat
def EZ (k:Nat)(l:List Tok):List Nat:=(List.range l.length).filter fun i=>decide ((gt l i).k=k)
def fG (s:List UInt8):List Nat:=EZ 3 (jf s)
end Go.Sx
namespace Go.Sx
open Go.RowKit Go.Proofs
set_option maxRecDepth 10000
def tC (t:Tok):List C:=[.val (nI t.a),.val (nI t.e),.val (nI t.k)]
instance:Cel tC 3:=⟨fun _=>rfl,fun _=>rfl,by decide,fun _ _=>rfl⟩
instance:Fla tC:=⟨fun _=>rfl⟩
instance:Inj tC:=⟨fun a b h=>by
 cases a;cases b
 simp only[tC,List.cons.injEq,C.val.injEq,me,and_true] at h;obtain ⟨rfl,rfl,rfl⟩:=h;rfl⟩
theorem LR (u:TypeDesc)(y:Nat)(z:List Value)(a e k:Nat)(hz:z.length=3)(h1:z.all (·.oneCell') =true):fD (some ⟨u,3,y,z⟩) 1 [(0,.agg [.val (nI a),.val (nI e),.val (nI k)])] =some (vp (sl tC .full [⟨a,e,k⟩])):=by
 unfold fD;simp only[hz,h1];rw[if_pos ⟨by decide,by decide,trivial,trivial⟩];have hr: (bG z 1).length=3:=by simp[bG,hz]
 unfold f8;have hc:C.cells? (.agg [.val (nI a),.val (nI e),.val (nI k)]) =some [.val (nI a),.val (nI e),.val (nI k)]:=rfl;simp only[hc];rw[if_pos ⟨rfl,by omega⟩];unfold f8;simp only[Option.map_some,splice,Nat.zero_mul,List.take_zero,List.nil_append,Nat.zero_add];rw[List.drop_of_length_le (by rw[hr];exact Nat.le_refl _),List.append_nil];rfl
theorem Qe (t:Tok):List.map C.noR (tC t) =tC t:=rfl
theorem Qf (a b c:C)(t:Tok):cj [a,b,c] 0 (tC t) =some (tC t,.val undef):=rfl
theorem LS (u:TypeDesc)(y:Nat)(v:Value)(i:Nat)(h:v.oneCell'=true):fD (some ⟨u,1,y,[v]⟩) 1 [(0,.val (nI i))] =some (vp (sl nC .full [i])):=by
 rw[lI u y 1 v _ h (by decide)];rfl
theorem Gt (u:TypeDesc)(y:Nat)(v:Value)(i:List UInt8)(h:v.oneCell'=true):fD (some ⟨u,1,y,[v]⟩) 1 [(0,.val (str i))] =some (vp (sl sC .full [i])):=by
 rw[lI u y 1 v _ h (by decide)];rfl
theorem Gu (x:Tok):cb (tC x) 2=some (.val (nI x.k)):=rfl
theorem Gw (l:List Tok)(k:Nat)(h:k< l.length):eA (cl tC l) (k*3) 3=some (.agg (tC (gt l k))):=by
 have:=uN tC l k 0 3 h (by decide);rw[Nat.add_zero] at this;exact this
theorem Qg (fs:Array Field)(b o y:Nat)(z:List Value)(x:Tok):mW (some ⟨.struct fs,3,y,z⟩) b o (some (tC x)) =some (.wr b (fun cells=>cj cells o (tC x)) none):=rfl
theorem LU (b o:Nat):an Tryd.prog 143 (.bp b o) 2=some (vp (.bp b (o+2))):= @jH Tryd.prog 143 2 3 2 _ _ _ _ _ _ Kw rfl rfl rfl jc (by decide) b o
attribute [go_sem] LR Gu Qg LU
attribute [go_sem high] Qe Qf LS Gt Gw
set_option maxRecDepth 100000
set_option maxHeartbeats 8000000
end Go.Sx
