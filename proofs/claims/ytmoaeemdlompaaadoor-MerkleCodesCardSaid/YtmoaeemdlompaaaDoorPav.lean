/-
   And what follows.
-/
import Derived.Test.YtmoaeemdlompaaaDoorPau
import Derived.Test.YtmoaeemdlompaaaDoorPar
set_option linter.unusedSimpArgs false
set_option linter.unusedVariables false
namespace Go.Sx
open Go.RowKit
def j3:List Nat→List C→(Nat→C)→(Nat→C)
 |p::ps,c::az,env=>j3 ps az (put (some p) c.noR env)
 |_,_,env=>env
theorem DX {G:Gh}:∀ (ps:List Nat)(az:List C)(vs:List Value)(env:Nat→C)(tm:Array Value),RepL G az vs→az.length=ps.length→(∀p∈ps,p< tm.size)→(∀t,Rep G (env t) (tm.getD t undef))→(∀t s n xs,env t≠ .sl (.own s) n xs)→
 ((ps.zip vs).foldl (fun tm (p:Nat×Value) =>tm.setIfInBounds p.1 p.2) tm).size=tm.size∧(∀t,Rep G (j3 ps az env t) (((ps.zip vs).foldl (fun tm (p:Nat×Value) =>tm.setIfInBounds p.1 p.2) tm).getD t undef))∧∀t s n xs,j3 ps az env t≠ .sl (.own s) n xs
 | [],[],vs,env,tm,_,_,_,h1,h2=>⟨rfl,h1,h2⟩
 | [],c::az,vs,env,tm,_,hl,_,_,_=>by simp at hl
 |p::ps,[],vs,env,tm,_,hl,_,_,_=>by simp at hl
 |p::ps,c::az,vs,env,tm,hr,hl,hp,h1,h2=>by
  simp only[RepL] at hr
  obtain ⟨v,vs',rfl,hv,hr'⟩:=hr
  have hpp:p< tm.size:=hp p (List.mem_cons_self ..)
  have:=DX ps az vs' (put (some p) c.noR env) (tm.setIfInBounds p v) hr' (by simpa using hl) (fun q hq=>by rw[Array.size_setIfInBounds];exact hp q (List.mem_cons_of_mem _ hq)) (fun t=>by
   simp only[put]
   by_cases e:t=p
   . subst e;simp only[if_true];rw[Array.getD_eq_getD_getElem?];simp[hpp];exact hv.noR
   . rw[if_neg e,Array.getD_eq_getD_getElem?,Array.getElem?_setIfInBounds_ne (Ne.symm e),←Array.getD_eq_getD_getElem?];exact h1 t) (fun t s n xs=>by
   simp only[put]
   split
   . exact fun q=>gY q
   . exact h2 t s n xs)
  simp only[List.zip_cons_cons,List.foldl_cons,j3]
  rw[Array.size_setIfInBounds] at this
  exact this
theorem WorldOK.grown {G:Gh}{h:Hp}{w w':World}(W:WorldOK G h w)(hs:w.heap.size≤w'.heap.size)(hh:∀g,g< w.heap.size→w'.heap[g]? =w.heap[g]?):WorldOK G h w':=by
 have hk:∀ {g:Nat}{o:Obj},w.heap[g]? =some o→w'.heap[g]? =some o:=fun {g o} q=>(hh g (Array.getElem?_eq_some_iff.1 q).1).trans q
 have hμ:∀ {b g:Nat},G.μ b=some g→w'.heap[g]? =w.heap[g]? :=fun {b g} q=>hh g (W.dom b g q).2
 have row:∀ {p:bJ}{v:Value}{s n:Nat},OwnRow G w p v s n→OwnRow G w' p v s n:=by
  intro p v s n O
  rcases O with O| ⟨g,cap,cur,e,a1,a2,a3,a4⟩
  . exact .inl O
  . exact .inr ⟨g,cap,cur,e,a1,a2,hk a3,a4⟩
 refine ⟨fun b o u hu=>?_,fun b cells hb=>?_,fun b blk hb=>⟨(W.dom b blk hb).1,Nat.lt_of_lt_of_le (W.dom b blk hb).2 hs⟩,W.inj,W.sep,fun g p hg=>Nat.lt_of_lt_of_le (W.tlt g p hg) hs,fun b cells off s n xs blk v hb hc hm hv=>?_,fun b z hz=>?_,fun b l hb=>?_,W.mpi⟩
 . have:=W.known b o u hu
   unfold World.cell? at this ⊢
   cases ho:w.heap[b]? with
   |none=>rw[ho] at this;cases this
   |some ob=>rw[ho] at this;rw[hk ho];exact this
 . rcases W.box b cells hb with q| ⟨blk,cs,e,h1,h2,h3⟩
   . exact .inl q
   . exact .inr ⟨blk,cs,e,h1,by rw[hμ h1];exact h2,h3⟩
 . refine row (W.own b cells off s n xs blk v hb hc hm ?_)
   unfold World.cell? at hv ⊢
   rw[hμ hm] at hv
   exact hv
 . obtain ⟨blk,cs,e,fr,h1,h2,h3⟩:=W.siz b z hz
   exact ⟨blk,cs,e,fr,h1,by rw[hμ h1];exact h2,h3⟩
 . obtain ⟨blk,es,clk,h1,h2,h3⟩:=W.mpo b l hb
   exact ⟨blk,es,clk,h1,by rw[hμ h1];exact h2,h3⟩
def Nq (I1:Hp→Prop)(Q:Ex→Hp→Prop):Ex→Hp→Prop
 | .normal,h=>I1 h
 |x,h=>Q x h
def RoundQ (k:Nat)(I1:Hp→Prop)(Q:Ex→Hp→Prop)(x:Ex)(s:St):Prop:=
 (Nq I1 Q x (s.h.take k)∧∀ (b:Nat) cells,b< k→s.h[b]? =some (some cells)→noRefs k cells=true)∨Nq I1 Q x s.h
def Jz (Q:Ex→Hp→Prop)(j:Code)(h:Hp):Prop:=(j= .ret∧Q .ret h)∨∃id,j= .exit id∧Q (.exit id) h
theorem aaU {G:Gh}{k g:Nat}(h:∀b,G.μ b≠some g):∀b,(b7 G k).μ b≠some g:=fun b hb=>by
 simp only[b7] at hb
 split at hb
 . exact h b hb
 . cases hb
section
variable {cx:Cx} {n:Nat} {Q:Ex→St→Prop}
theorem Nr {l:Nat}{fn:FuncId}{tm:Array Value}{ps:List Nat}{assign body:Code}{df:Nat}{G₀:Gh}{env:Nat→C}{N:Nat}{xs:Nat→List C}{I:Nat→Hp→Prop}{Q:Ex→Hp→Prop}
 (hsz:tm.size=cx.N) (henv:∀t,Rep G₀ (env t) (tm.getD t undef)) (hno:∀t s n xs,env t≠ .sl (.own s) n xs) (hx:∀i,i< N→(xs i).length=ps.length) (hp:∀p∈ps,p< cx.N)
 (hb:∀i k,i< N→I i k→Tr { cx with top:=false } k.length assign ⟨j3 ps (xs i) env,k⟩ fun x s=>x= .normal∧Tr { cx with top:=false } k.length body s (RoundQ k.length (I (i+1)) Q)):
 Cl cx.P cx.gl l (fun st pe=> { state:=st,pending:=pe,fn,tmps:=tm,params:=ps.toArray,assign,body,defers:=df }) G₀
  fun az k post=> ∃i,i< N∧az=xs i∧I i k∧∀o k',mJ (I (i+1)) (Jz Q) o k'→post o k':=by
 rintro az k post ⟨i,hi,rfl,hIk,hpost⟩ G w vs Le W hT hgl D hr
 have hvs:vs.size=ps.toArray.size:=by
  have:=hr.length
  rw[hx i hi] at this
  simpa using this.symm
 have hy:=run_yield (P:=cx.P) (args:=vs) D.obj hvs
 refine ⟨_,_,_,_,hy,roundIn_of_wpIn trivial ?_⟩
 have hn0:∀b j,G.μ b=some j→b< k.length:=fun b j hm=>by
  obtain ⟨⟨cells,hc⟩,_⟩:=W.dom b j hm
  exact (List.getElem?_eq_some_iff.1 hc).1
 have hfold: (ps.toArray.zip vs).foldl (fun (tmps:Array Value) (x:Nat×Value) =>tmps.setIfInBounds x.1 x.2) tm= (ps.zip vs.toList).foldl (fun tm (p:Nat×Value) =>tm.setIfInBounds p.1 p.2) tm:=by
  rw[←Array.foldl_toList,Array.toList_zip]
 obtain ⟨b1,b2,b3⟩:=DX ps (xs i) vs.toList env tm hr (hx i hi) (fun p q=>by rw[hsz];exact hp p q) (fun t=>(henv t).mono Le) hno
 have S1:Sim { cx with top:=false } G w ⟨j3 ps (xs i) env,k⟩ { tmps:=(ps.toArray.zip vs).foldl (fun (tmps:Array Value) (x:Nat×Value) =>tmps.setIfInBounds x.1 x.2) tm,defers:=[] }:=by
  rw[hfold]
  exact ⟨Mks.nil,by rw[b1,hsz],W,⟨b2,fun t s n xs e=>absurd e (b3 t s n xs)⟩,hgl⟩
 refine hb i k hi hIk (some l) (fun h=>by cases h) G w _ S1 _ fun x s G2 w2 a2 hq S2 F2=>?_
 obtain ⟨rfl,hbody⟩:=hq
 have D2:=D.frmN F2.fr
 refine ⟨_,run_beginRound D2.obj rfl,?_⟩
 obtain ⟨rb,hrb⟩:∃rb:Loop,rb= { state:= .busy,pending:=none,fn,tmps:=tm,params:=ps.toArray,assign,body,defers:=df }:=⟨_,rfl⟩
 have Db:Rdy l (fun _ _=>rb) G2 (w2.putObj l (.loop rb)) .ready none:=⟨World.putObj_heap_same (Array.getElem?_eq_some_iff.1 D2.obj).1,D2.T,D2.μ⟩
 have S2':=S2.putL (ob:= .loop rb) D2.obj D2.T D2.μ
 rw[show (Loop.mk .busy none fn tm ps.toArray assign body df) =rb from hrb.symm]
 refine hbody (some l) (fun h=>by cases h) G2 _ a2 S2' _ fun x s3 G3 w3 a3 q S3 F3=>?_
 have D3:=Db.frmN F3.fr
 have FX:FrmX l k.length G w G3 w3:=(FrmX.of F2.fr).trans ((FrmX.put (.loop rb)).trans (.of F3.fr))
 have fin:∀ (o:Option Code)(k':Hp)(G4:Gh),mJ (I (i+1)) (Jz Q) o k'→WorldOK G4 k' w3→FrmX l k.length G w G4 w3→G4.T l=none→(∀b,G4.μ b≠some l)→
  ∃v w',(Instr.endRound l o).run cx.P w3= .ok v w'∧∃o' G' h',Ending.returned v= .returned (.bool o'.isNone)∧post o' h'∧WorldOK G' h' w'∧Frm G (w.putObj l (.loop { state:=j1 o',pending:=o',fn,tmps:=tm,params:=ps.toArray,assign,body,defers:=df })) G' w':=by
  intro o k' G4 he W4 F4 hT4 hm4
  have hrun:=run_endRound (P:=cx.P) o D3.obj
  have Sh:=Shut.put (ob:= .loop { state:=j1 o,pending:=o,fn,tmps:=tm,params:=ps.toArray,assign,body,defers:=df }) D3.obj (.inr ⟨_,rfl⟩) hT4 hm4
  refine ⟨_,_,hrun,o,G4,k',rfl,hpost o k' he,?_,?_⟩
  . rw[hrb];exact Sh.ok W4
  . rw[hrb]
    refine (F4.trans (FrmX.put _)).toFrm hn0 W (Sh.ok W4) D.obj (World.putObj_heap_same (Array.getElem?_eq_some_iff.1 D3.obj).1) hT4 hm4
 have two:∀o,(∀k',Nq (I (i+1)) Q x k'→mJ (I (i+1)) (Jz Q) o k')→∃v w',(Instr.endRound l o).run cx.P w3= .ok v w'∧∃o' G' h',Ending.returned v= .returned (.bool o'.isNone)∧post o' h'∧WorldOK G' h' w'∧Frm G (w.putObj l (.loop { state:=j1 o',pending:=o',fn,tmps:=tm,params:=ps.toArray,assign,body,defers:=df })) G' w':=by
  intro o ho
  rcases q with ⟨q,hnb⟩ |q
  . exact fin o _ _ (ho _ q) (S3.pre.ok.cut k.length hnb) (FX.trans (.of (s9 (Nat.le_refl _)))) D3.T (aaU D3.μ)
  . exact fin o _ _ (ho _ q) S3.pre.ok FX D3.T D3.μ
 cases x with
 |normal=>exact two none fun k' q=>q
 |ret=>exact two (some .ret) fun k' q=> .inl ⟨rfl,q⟩
 |exit id=>exact two (some (.exit id)) fun k' q=> .inr ⟨id,rfl,q⟩
theorem afn (ht:cx.top=true){g f:Nat}{ps:List Nat}{assign body:Code}{e:List (Nat×C)}{h:Hp}{caps:List C}{N:Nat}{xs:Nat→List C}(hg:A e g= .fn f caps)(hI:ItrC cx.P cx.gl f caps N xs)
 (hx:∀i,i< N→(xs i).length=ps.length) (hp:∀p∈ps,p< cx.N) (I:Nat→Hp→Prop) (h0:I 0 h)
 (hb:∀i k,i< N→I i k→Tr { cx with top:=false } k.length assign ⟨j3 ps (xs i) (fun t=>(A e t).noR),k⟩ fun x s=>x= .normal∧Tr { cx with top:=false } k.length body s (RoundQ k.length (I (i+1)) fun x h'=>Q x ⟨A e,h'⟩))
 (hd:∀k,I N k→Q .normal ⟨A e,k⟩):Tr cx n (.rangeFunc (.tmp g) ps.toArray assign body) ⟨A e,h⟩ Q:=by
 intro r hr G w a S R hR
 obtain rfl:r=none:=hr ht
 refine wpIn_rangeFunc (F:=wF none) fun fn _=>?_
 obtain ⟨⟨fn',e1,e2,e3⟩,hit⟩:=hI
 have hv:=S.pre.ev (.tmp g)
 rw[kR] at hv
 simp only[] at hv
 rw[hg] at hv
 simp only[Rep] at hv
 obtain ⟨cv,hfv,hcaps⟩:=hv
 obtain ⟨rec,hrec⟩:∃rec:LoopState→Option Code→Loop,rec=fun st pe=> { state:=st,pending:=pe,fn,tmps:=a.tmps,params:=ps.toArray,assign,body,defers:=w.heap.size }:=⟨_,rfl⟩
 obtain ⟨W1,hW1⟩:∃W1,(w.alloc (.deferred (some []))).alloc (.loop (rec .ready none)) =W1:=⟨_,rfl⟩
 have hL1:W1.heap[w.heap.size+1]? =some (.loop (rec .ready none)):=by
  rw[←hW1];have:=World.alloc_heap_new (w.alloc (.deferred (some []))) (.loop (rec .ready none));rwa [World.size_alloc] at this
 have hsz1:W1.heap.size=w.heap.size+2:=by rw[←hW1];simp
 have hlow:∀g,g< w.heap.size+1→W1.heap[g]? = (w.alloc (.deferred (some []))).heap[g]? :=fun g hg=>by
  rw[←hW1];show ((w.heap.push _).push _)[g]? = (w.heap.push _)[g]?
  rw[Array.getElem?_push,if_neg (by simp;omega)]
 have hsame:∀g,g< w.heap.size→W1.heap[g]? =w.heap[g]? :=fun g hg=>by
  rw[hlow g (by omega)]
  show (w.heap.push _)[g]? =w.heap[g]?
  rw[Array.getElem?_push,if_neg (by omega)]
 have hK1:W1.heap[w.heap.size]? =some (.deferred (some [])):=by
  rw[hlow _ (by omega)];exact World.alloc_heap_new w _
 have hW:WorldOK G h W1:=S.pre.ok.grown (by omega) hsame
 have hTl:∀g,w.heap.size≤g→G.T g=none:=fun g hg=>S.pre.ok.tnone hg
 have hml:∀g,w.heap.size≤g→∀b,G.μ b≠some g:=fun g hg b hb=>by have:=(S.pre.ok.dom b g hb).2;omega
 refine ⟨w.heap.size+1,[{ target:= .collected w.heap.size,args:= #[] }],W1,{ target:= .fn (.func f) cv,args:= #[.func (.yield (w.heap.size+1)) #[] #[]] },W1,f,
  #[.func (.yield (w.heap.size+1)) #[] #[]]++cv,W1,?_,?_,fun _ _=>trivial,?_,(fun h=>by cases h),?_⟩
 . rw[←hW1,hrec];exact run_enterLoop_outer _ _ _ _ _
 . simp only[resolve,rangeCall,hfv]
   simp[Deferred.ofValue,Act.eval]
 · have e2': ¬fn'.name= "runtime.NumGoroutine" :=by simpa using e2
   have e3':¬fn'.body=none:=by cases hq:fn'.body<;>simp_all
   simp[invoke,callFunc,e1,e2',e3',program,Sem.run]
 . have D1:Rdy (w.heap.size+1) rec (eQ G) W1 .ready none:=⟨hL1,il (hTl _ (by omega)),hml _ (by omega)⟩
   have hY:Cl cx.P cx.gl (w.heap.size+1) rec (eQ G) (fun az k post=> ∃i,i< N∧az=xs i∧I i k∧∀o k',mJ (I (i+1)) (Jz fun x h'=>Q x ⟨A e,h'⟩) o k'→post o k'):=by
    rw[hrec]
    exact Nr S.size (fun t=>((S.pre.env.1 t).noR).mono gf) (fun t s n xs q=>gY q) hx hp hb
   have hcall:=hit (w.heap.size+1) rec I (Jz fun x h'=>Q x ⟨A e,h'⟩) h (eQ G) W1 cv _ hY (fun i k post hi hk hp=>⟨i,hi,rfl,hk,hp⟩) h0 (vQ hW) (fun g p hg=>by
    simp only[eQ] at hg
    cases hq:G.T g with
    |none=>rw[hq] at hg;cases hg
    |some q=>
     rw[hq] at hg
     simp only[] at hg
     split at hg
     . cases hg;assumption
     . cases hg) (fun g=>(S.pre.glob g).mono gf) D1 (RepL.mono gf _ _ hcaps)
   refine hcall.mono ?_
   rintro e0 W2 ⟨v,o,G',h',rfl,hend,W',F⟩
   obtain ⟨ob,hob⟩:∃ob,Obj.loop (rec (j1 o) o) =ob:=⟨_,rfl⟩
   rw[hob] at F
   have hlt:w.heap.size+1< W1.heap.size:=by omega
   have hput: (W1.putObj (w.heap.size+1) ob).heap[w.heap.size+1]? =some ob:=World.putObj_heap_same hlt
   have S1:Sim cx G W1 ⟨A e,h⟩ a:=⟨⟨S.defers.1,fun d hd=>by
    obtain ⟨E,q1,q2,q3⟩:=S.defers.2 d hd
    exact ⟨E,q1,(hsame E (Array.getElem?_eq_some_iff.1 q2).1).trans q2,q3⟩⟩,S.size,hW,⟨S.pre.env.1,fun t s m xs q=>by
    rcases S.pre.env.2 t s m xs q with O| ⟨g,cap,cur,ee,a1,a2,a3,a4⟩
    . exact .inl O
    . exact .inr ⟨g,cap,cur,ee,a1,a2,(hsame g (Array.getElem?_eq_some_iff.1 a3).1).trans a3,a4⟩⟩,S.pre.glob⟩
   have S1':=S1.putL (ob:=ob) hL1 (hTl _ (by omega)) (hml _ (by omega))
   have O:=s6 (c:= .top) (v:=undef) S1'.pre (3,0,0) W' F (by simp only[Rep]) (fun s n xs e=>by cases e)
   obtain ⟨G'',hG⟩:∃G'',mm G (W1.putObj (w.heap.size+1) ob).heap.size G' (3,0,0) =G'':=⟨_,rfl⟩
   rw[hG] at O
   have S2:Sim cx G'' W2 ⟨A e,h'⟩ a:=⟨S1'.defers.frm O.frm,S.size,O.ok,O.env,fun g=>(S.pre.glob g).mono O.frm.le⟩
   obtain ⟨l1,l2,l3,_⟩:=O.frm.old (w.heap.size+1) (by rw[World.putObj_size];exact hlt) (hTl _ (by omega)) (hml _ (by omega))
   obtain ⟨d1,d2,d3,_⟩:=O.frm.old w.heap.size (by rw[World.putObj_size];omega) (hTl _ (Nat.le_refl _)) (hml _ (Nat.le_refl _))
   rw[hput] at l1
   rw[World.putObj_heap_other (by omega),hK1] at d1
   rw[←hob] at l1
   have hend2:=run_endLoop (P:=cx.P) l1 (by rw[hrec];cases o<;>simp[j1])
   refine ⟨_,_,hend2,?_⟩
   obtain ⟨ob2,hob2⟩:∃ob2,Obj.loop { (rec (j1 o) o) with state:= .exhausted } =ob2:=⟨_,rfl⟩
   rw[hob2,show (rec (j1 o) o).pending=o from by rw[hrec]]
   have S3:=S2.putL (ob:=ob2) l1 l2 l3
   have S4:Sim cx G'' (W2.putObj (w.heap.size+1) ob2) ⟨A e,h'⟩ { a with defers:=[{ target:= .collected w.heap.size,args:= #[] }]++a.defers }:=
    ⟨⟨List.nodup_cons.2 ⟨fun hm=>by
      obtain ⟨E,q1,q2,_⟩:=S.defers.2 _ hm
      have:=(Array.getElem?_eq_some_iff.1 q2).1
      simp only[Deferred.mk.injEq,Target.collected.injEq,and_true] at q1
      omega,S3.defers.1⟩,fun d hd=>by
      rcases List.mem_cons.1 hd with rfl|hd
      . exact ⟨w.heap.size,rfl,(World.putObj_heap_other (by omega)).trans d1,d2,d3⟩
      . exact S3.defers.2 d hd⟩,S3.size,⟨S3.pre.ok,S3.pre.env,S3.pre.glob⟩⟩
   have FA:FrmA n G w a G'' (W2.putObj (w.heap.size+1) ob2) { a with defers:=[{ target:= .collected w.heap.size,args:= #[] }]++a.defers }:=by
    refine ⟨⟨?_,?_,?_,?_,O.frm.le.K,fun b k _ x=>O.frm.le.μ b k x,fun b k _ x=>O.frm.le.σ b k x,fun g hg ht2 hm=>?_⟩,⟨_,rfl,fun d hd D hD=>by
     rw[List.mem_singleton.1 hd] at hD;cases hD;exact Nat.le_refl _⟩⟩
    . exact O.frm.os.trans (by rw[←hW1];rfl)
    . exact O.frm.tape.trans (by rw[←hW1];rfl)
    . exact O.frm.output.trans (by rw[←hW1];rfl)
    . have:=O.frm.size
      rw[World.putObj_size] at this
      rw[World.putObj_size];omega
    . obtain ⟨a1,a2⟩:=O.frm.old g (by rw[World.putObj_size];omega) ht2 hm
      exact ⟨(World.putObj_heap_other (by omega)).trans (a1.trans ((World.putObj_heap_other (by omega)).trans (hsame g hg))),a2⟩
   cases o with
   |none=>exact hR .normal _ _ _ _ (hd h' hend) S4 FA
   |some j=>
    rcases hend with ⟨rfl,hq⟩ | ⟨id,rfl,hq⟩
    . exact wpIn_ret (hR .ret _ _ _ _ hq S4 FA)
    . exact wpIn_exit (hR (.exit id) _ _ _ _ hq S4 FA)
end
end Go.Sx
namespace Go.Sx
open Go.RowKit
def j4:List Nat→List C→List (Nat×C)→List (Nat×C)
 |p::ps,c::az,e=>j4 ps az ((p,c.noR)::e)
 |_,_,e=>e
theorem Cn:∀ (ps:List Nat)(az:List C)(e:List (Nat×C)),j3 ps az (A e) =A (j4 ps az e)
 | [],_,_=>by simp only[j3,j4]
 |_::_,[],_=>by simp only[j3,j4]
 |p::ps,c::az,e=>by
  have:put (some p) c.noR (A e) =A ((p,c.noR)::e):=rfl
  simp only[j3,j4]
  rw[this];exact Cn ps az _
theorem JA (az:List C)(e:List (Nat×C)):j4 [] az e=e:=by simp only[j4]
theorem FN (p:Nat)(ps:List Nat)(c:C)(az:List C)(e:List (Nat×C)):j4 (p::ps) (c::az) e=j4 ps az ((p,c.noR)::e):=rfl
def xm:List (Nat×C)→List (Nat×C)
 | [] =>[]
 | (k,c)::l=>(k,c.noR)::xm l
theorem TR:xm [] = []:=rfl
theorem Ns (k:Nat)(c:C)(l:List (Nat×C)):xm ((k,c)::l) = (k,c.noR)::xm l:=rfl
theorem JB:∀e:List (Nat×C),(fun t=>(A e t).noR) =A (xm e)
 | [] =>by funext t;rfl
 | (k,c)::l=>by
   funext t
   have:=congrFun (JB l) t
   simp only[xm,A] at this ⊢
   split
   . rfl
   . exact this
attribute [go_sem] JA FN TR Ns
theorem aaV {cx:Cx}{n:Nat}{Q:Ex→St→Prop}(ht:cx.top=true){g f:Nat}{ps:List Nat}{assign body:Code}{e:List (Nat×C)}{h:Hp}{caps:List C}(N:Nat)(xs:Nat→List C)(H:Nat→Hp)(hg:A e g= .fn f caps)(hI:ItrC cx.P cx.gl f caps N xs)
 (hx:∀i,i< N→(xs i).length=ps.length) (hp:∀p∈ps,p< cx.N) (h0:h=H 0)
 (hb:∀i,i< N→Tr { cx with top:=false } (H i).length assign ⟨A (j4 ps (xs i) (xm e)),H i⟩ fun x s=>x= .normal∧Tr { cx with top:=false } (H i).length body s (RoundQ (H i).length (fun k=>k=H (i+1)) fun x h'=>Q x ⟨A e,h'⟩))
 (hd:Q .normal ⟨A e,H N⟩):Tr cx n (.rangeFunc (.tmp g) ps.toArray assign body) ⟨A e,h⟩ Q:=
 afn ht hg hI hx hp (fun i k=>k=H i) h0 (fun i k hi hk=>by subst hk;rw[JB,Cn];exact hb i hi) (fun k hk=>by subst hk;exact hd)
theorem RoundQ.n {k:Nat}{I1:Hp→Prop}{Q:Ex→Hp→Prop}{s:St}(h:I1 s.h):RoundQ k I1 Q .normal s:= .inr h
end Go.Sx
namespace Go.Sx
open Go.RowKit
section
variable {l0:Nat} {rec:LoopState→Option Code→Loop} {G₀:Gh} {cx:Cx} {n:Nat} {Q:Option Code→Ex→St→Prop} {e:List (Nat×C)} {h:Hp} {b:Code} {id:Nat} {l:List Oper} {s:St}
theorem TrY.w (hcx:CxOK cx)(apps:List Nat)(dsts:List (Option Nat))(z:Hp)(h1:l.filterMap cG=apps)(h2:l.map (·.dst) =dsts)(h3:eu l=z)(H:TrY l0 rec G₀ cx n b s Q)(E:∀K:St→Prop,K s→run cx apps dsts l h.length e (h++z) [] (fun _ s=>K s)):TrY l0 rec G₀ cx n (.seq (.region id l.toArray false) b) ⟨A e,h⟩ Q:=
 TrY.seq (kz (Q1:=fun x s'=>x= .normal∧TrY l0 rec G₀ cx n b s' Q) (Tr.rg hcx apps dsts z h1 h2 h3 (E (fun s'=>Ex.normal= .normal∧TrY l0 rec G₀ cx n b s' Q) ⟨rfl,H⟩)) (fun x s' q=>by obtain ⟨rfl,q⟩:=q;exact ⟨fun _=>q,fun c=>absurd rfl c⟩))
theorem TrY.v (hcx:CxOK cx)(apps:List Nat)(dsts:List (Option Nat))(z:Hp)(h1:l.filterMap cG=apps)(h2:l.map (·.dst) =dsts)(h3:eu l=z)(H:Q none .normal s)(E:∀K:St→Prop,K s→run cx apps dsts l h.length e (h++z) [] (fun _ s=>K s)):TrY l0 rec G₀ cx n (.region id l.toArray false) ⟨A e,h⟩ Q:=
 kz (Q1:=fun x s'=>x= .normal∧Q none .normal s') (Tr.rg hcx apps dsts z h1 h2 h3 (E (fun s'=>Ex.normal= .normal∧Q none .normal s') ⟨rfl,H⟩)) (fun x s' q=>by obtain ⟨rfl,q⟩:=q;exact q)
theorem TrY.wD (hcx:CxOK cx)(hm:cx.P.follows .mixedOrders=true)(apps:List Nat)(dsts:List (Option Nat))(z:Hp)(h1:l.filterMap cG=apps)(h2:l.map (·.dst) =dsts)(h3:eu l=z)(hs:dN l.toArray=true)(H:TrY l0 rec G₀ cx n b s Q)(E:∀K:St→Prop,K s→run cx apps dsts l h.length e (h++z) [] (fun fs s=>fG l.toArray fs.reverse=true∧K s)):TrY l0 rec G₀ cx n (.seq (.region id l.toArray true) b) ⟨A e,h⟩ Q:=
 TrY.seq (kz (Q1:=fun x s'=>x= .normal∧TrY l0 rec G₀ cx n b s' Q) (ut hcx hm apps dsts z h1 h2 h3 hs (E (fun s'=>Ex.normal= .normal∧TrY l0 rec G₀ cx n b s' Q) ⟨rfl,H⟩)) (fun x s' q=>by obtain ⟨rfl,q⟩:=q;exact ⟨fun _=>q,fun c=>absurd rfl c⟩))
theorem TrY.live {c:Code}(k:List (Nat×C))(hl:Le s.env k)(H:TrY l0 rec G₀ cx n c ⟨A k,s.h⟩ Q):TrY l0 rec G₀ cx n c s Q:=TrY.weaken (fun t=>hl.spec t) H
theorem TrY.k (ks:List Nat){c:Code}{e':List (Nat×C)}(H:TrY l0 rec G₀ cx n c ⟨A e',h⟩ Q)(E:∀R:List (Nat×C)→Prop,R e'→R (pk e ks)):TrY l0 rec G₀ cx n c ⟨A e,h⟩ Q:=
 TrY.weaken (fun t=>by
  rcases LY e t ks with q|q
  . simp only[];rw[q];exact CLe.top _
  . simp only[];rw[q];exact CLe.refl _) (E (fun x=>TrY l0 rec G₀ cx n c ⟨A x,h⟩ Q) H)
theorem aaW (hcx:CxOK cx){Y:Ys}(hY:Cl cx.P cx.gl l0 rec G₀ Y)(kk:Nat){d y:Nat}{args:Array Operand}{ts:Array TypeId}{ty:TypeId}{pos:String}{aft:Array Edge}{e1:List (Nat×C)}{e2:Bool→List (Nat×C)}{az:List C}{P1:Hp→Prop}{B:Code→Hp→Prop}
 (hL:l=l.take kk++⟨some d,.call { callee:= .value (.tmp y),args,argTypes:=ts },ty,pos,aft,none⟩::l.drop (kk+1)) (hd:d< cx.N) (hm:l.countP dl=0) (apps:List Nat) (dsts:List (Option Nat)) (h1:l.filterMap cG=apps) (h2:l.map (·.dst) =dsts)
 (hYs:∀post,(∀o k,mJ P1 B o k→post o k)→Y az h post)
 (E1:∀K:St→Prop,K ⟨A e1,h⟩→run cx apps dsts (l.take kk) h.length e h [] (fun _ s=>K s)) (hy:A e1 y= .val (.func (.yield l0) #[] #[])) (haz: (args.toList.map (cx.evn (A e1))).map C.share=az)
 (E2:∀ (c:Bool)(k:Hp)(K:St→Prop),K ⟨A (e2 c),k⟩→run cx apps dsts (l.drop (kk+1)) h.length ((d,.val (.bool c))::e1) k [] (fun _ s=>K s))
 (Hn:∀k,P1 k→TrY l0 rec G₀ cx n b ⟨A (e2 true),k⟩ Q) (Hs:∀j k,B j k→Tr cx n b ⟨A (e2 false),k⟩ fun x s=>Q (some j) x s):TrY l0 rec G₀ cx n (.seq (.region id l.toArray false) b) ⟨A e,h⟩ Q:=by
 refine TrY.seq (TrY.rg hcx hY _ _ hL hd hm apps dsts h1 h2 (E1 _ ⟨hy,?_⟩))
 rw[haz]
 refine hYs _ fun o k hk=>?_
 have hput:∀c,put (some d) (C.val (.bool c)) (A e1) =A ((d,.val (.bool c))::e1):=fun c=>rfl
 rw[hput]
 refine jb _ _ _ _ (E2 o.isNone k _ ?_)
 cases o with
 |none=>exact ⟨fun _=>Hn k hk,fun c=>absurd rfl c⟩
 |some j=>exact ⟨(fun c=>by cases c),fun _=>Hs j k hk⟩
end
end Go.Sx
namespace Go.Sx
open Go.RowKit Go.Proofs
set_option maxRecDepth 100000
set_option maxHeartbeats 8000000
noncomputable def vm (gl:Nat→C)(M:Nat)(pu:Nat→List C→Option C):Cx:= { af gl M pu with top:=false }
section
variable {gl:Nat→C} {M:Nat} {pu:Nat→List C→Option C}
theorem VF: (vm gl M pu).P=Tryd.prog:=rfl
theorem VG: (vm gl M pu).N=M:=rfl
theorem QQ (d:Option Nat):nT (vm gl M pu) d=false:=by cases d<;>rfl
theorem agG: (vm gl M pu).P.follows .mixedOrders=true:=ct (gl:=gl) (M:=M) (pu:=pu)
theorem VH {n:Nat}{Q:Ex→St→Prop}{g f:Nat}{ps:List Nat}{assign body:Code}{e:List (Nat×C)}{h:Hp}{caps:List C}(N:Nat)(xs:Nat→List C)(H:Nat→Hp)(hg:A e g= .fn f caps)(hI:ItrC Tryd.prog gl f caps N xs)
 (hx:∀i,i< N→(xs i).length=ps.length) (hp:∀p∈ps,p< M) (h0:h=H 0)
 (hb:∀i,i< N→Tr (vm gl M pu) (H i).length assign ⟨A (j4 ps (xs i) (xm e)),H i⟩ fun x s=>x= .normal∧Tr (vm gl M pu) (H i).length body s (RoundQ (H i).length (fun k=>k=H (i+1)) fun x h'=>Q x ⟨A e,h'⟩))
 (hd:Q .normal ⟨A e,H N⟩):Tr (af gl M pu) n (.rangeFunc (.tmp g) ps.toArray assign body) ⟨A e,h⟩ Q:=
 aaV (cx:=af gl M pu) rfl N xs H hg hI hx hp h0 hb hd
end
attribute [go_sem] VF VG QQ
theorem QR {P:Program}{t e:TypeId}{a1 b1 y:Nat}{z1 z:List Value}{u:TypeDesc}(ht:td P t=some ⟨.slice e,a1,b1,z1⟩)(he:td P e=some ⟨u,1,y,z⟩){α:Type}(f:α→List C)[hc:Cel f 1](r:Rt)(l:List α)(a b:Nat)(h:a≤b∧b≤l.length):
 dg P t (sl f r l) (some (.val (nI a))) (some (.val (nI b))) (some (.val (nI b))) =some (vp (sl f .full ((l.drop a).take (b - a)))):=by
 have hl: (cl f l).length=l.length*1:=bm (f:=f) l
 unfold dg
 simp only[ht,sl,he,C.sl?]
 rw[if_pos ⟨hl,.inr rfl⟩,mD _ _ _ h.2]
 simp only[Option.isSome_some,if_true,mD _ _ _ (Nat.le_refl _),mD _ _ _ h.1,true_and]
 rw[gi (f:=f),iI (f:=f),show ((l.drop a).take (b - a)).length=b - a from by rw[List.length_take,List.length_drop];omega]
 rfl
theorem abT (l:List (List UInt8))(i:Nat)(h:2*i+2≤l.length): (l.drop (2*i)).take 2= [gt l (2*i),gt l (2*i+1)]:=by
 have e1:=List.drop_eq_getElem_cons (l:=l) (i:=2*i) (by omega)
 have e2:=List.drop_eq_getElem_cons (l:=l) (i:=2*i+1) (by omega)
 rw[e1,List.take_succ_cons,e2,List.take_succ_cons,List.take_zero]
 simp only[gt,List.getD,List.getElem?_eq_getElem (show 2*i< l.length by omega),List.getElem?_eq_getElem (show 2*i+1< l.length by omega),Option.getD_some]
theorem tS {p:Prop}(e:p:=by intro KZ hZ;simp -implicitDefEqProofs (disch:=first|omega| (simp only[go_sem,lA,lD,lT] <;>omega) |decide) only[go_sem,↓reduceIte,Nat.reduceEqDiff,reduceCtorEq,Nat.reduceLT,Nat.reduceBEq,Nat.reduceAdd,ss,List.append_nil];with_reducible exact hZ):p:=e
theorem VI {p:Prop}(e:p:=by intro KZ hZ;simp -implicitDefEqProofs (disch:=first|omega| (simp only[go_sem,lA,lD,lT] <;>omega) |decide) only[go_sem,↓reduceIte,Nat.reduceEqDiff,reduceCtorEq,Nat.reduceLT,Nat.reduceBEq,Nat.reduceAdd,ss,List.append_nil];with_reducible refine And.intro ?_ hZ;first|exact rfl|decide):p:=e
theorem VJ {p:Prop}(e:p:=by intro c k KZ hZ;simp -implicitDefEqProofs (disch:=first|omega|decide) only[go_sem,↓reduceIte,Nat.reduceEqDiff,reduceCtorEq,Nat.reduceLT,Nat.reduceBEq,Nat.reduceAdd];with_reducible exact hZ):p:=e
theorem agH {gl:Nat→C}{M:Nat}{pu:Nat→List C→Option C}(hcx:CxOK (af gl M pu))(l:List (List UInt8))(he:l.length % 2=0)(hl:l.length< 1099511627776):
 ItrC Tryd.prog gl 99 [.kp [sl sC .no l],.kp [.val (nI 2)]] (l.length / 2) (fun i=>[sl sC .no ((l.drop (2*i)).take 2)]):=by
 replace hcx:=hcx.reN (M:=31)
 refine ItrC.of (cx:=af gl 31 pu) rfl Tryd.func99 rfl rfl rfl (by simp only[List.length_cons,List.length_nil];decide) ?_
 intro l0 rec G I B h Y hY hst h0
 have ss:=True.intro
 simp only[bq,go_sem]
 refine TrY.w hcx [] _ [] rfl rfl rfl ?_ tS
 refine TrY.block ?_
 refine TrY.loop (fun m s=> ∃i,i≤l.length / 2∧m=l.length / 2 - i∧I i s.h∧Le s.env [(0,.val (.func (.yield l0) #[] #[])),(1,.kp [sl sC .no l]),(2,.kp [.val (nI 2)]),(4,.val (nI (2*i)))]) (l.length / 2) ⟨0,Nat.zero_le _,rfl,h0,LT⟩ ?_
 rintro m s ⟨i,hi,rfl,hIi,hle⟩
 refine TrY.live _ hle ?_
 generalize s.h=k at hIi ⊢
 refine TrY.seq ?_
 refine TrY.w hcx [] _ [] rfl rfl rfl ?_ tS
 by_cases hc:2*i< l.length
 . refine TrY.cond (b:=true) (by rw[kR];exact congrArg (fun b=>C.val (.bool b)) (decide_eq_true hc)) ?_
   refine kz (Tr.skip (Q:=fun x s'=>x= .normal∧s'=_) ⟨rfl,rfl⟩) ?_
   rintro x s' ⟨rfl,rfl⟩
   refine ⟨fun _=>?_,fun c=>absurd rfl c⟩
   refine TrY.k [0,1,2,4] ?_ (by intro RZ hZ;simp only[vZ,BM,↓aY,↓reduceIte,Nat.reduceEqDiff,reduceCtorEq];exact hZ)
   refine TrY.seq (TrY.block ?_)
   have hm:min 2 (List.drop (2*i) l).length=2:=by rw[List.length_drop];omega
   have sm:=QR (P:=Tryd.prog) Kv sy sC Rt.no l (2*i) (2*i+2) (by omega)
   rw[Nat.add_sub_cancel_left] at sm
   have ss:=And.intro hm sm
   refine TrY.wD hcx ct [1000018] _ [] rfl rfl rfl rfl ?_ VI
   refine aaW hcx hY 10 rfl (show 29< 31 by decide) rfl [] _ rfl rfl (fun post hp=>hst i k post (by omega) hIi hp) tS rfl ?_ VJ ?_ ?_
   . rfl
   . intro k hk
     refine TrY.cond (b:=false) rfl ?_
     refine kz (Tr.skip (Q:=fun x s'=>x= .normal∧s'=_) ⟨rfl,rfl⟩) ?_
     rintro x s' ⟨rfl,rfl⟩
     refine ⟨fun _=>?_,fun c=>absurd rfl c⟩
     refine TrY.k [0,1,2,4] ?_ (by intro RZ hZ;simp only[vZ,BM,↓aY,↓reduceIte,Nat.reduceEqDiff,reduceCtorEq];exact hZ)
     refine TrY.v hcx [1000012] _ [] rfl rfl rfl ?_ tS
     exact ⟨rfl,l.length / 2 - (i+1),by omega,i+1,by omega,rfl,hk,LT⟩
   . intro j k hk
     exact bf rfl (Tr.ret hk)
 . refine TrY.cond (b:=false) (by rw[kR];exact congrArg (fun b=>C.val (.bool b)) (decide_eq_false hc)) ?_
   refine kz (Tr.exit (Q:=fun x s'=>x= .exit 0∧s'=_) ⟨rfl,rfl⟩) ?_
   rintro x s' ⟨rfl,rfl⟩
   obtain rfl:i=l.length / 2:=by omega
   exact hIi
end Go.Sx
namespace Go.Sx
open Go.RowKit Go.Proofs
set_option maxRecDepth 100000
set_option maxHeartbeats 8000000
theorem sW:∀ (l:List (List UInt8))(i:Nat),2*i+2≤l.length→mT (l.take (2*i))++[(gt l (2*i),gt l (2*i+1))] =mT (l.take (2*(i+1)))
 | [],i,h=>by simp at h
 | [a],i,h=>by simp at h
 |a::b::l,0,h=>rfl
 |a::b::l,i+1,h=>by
  have ih:=sW l i (by simp at h;omega)
  have e1:∀j,gt (a::b::l) (j+2) =gt l j:=fun j=>rfl
  rw[show 2*(i+1) =2*i+2 from by omega,show 2*(i+1+1) =2*(i+1)+2 from by omega,show 2*i+2+1=2*i+1+2 from by omega,e1,e1]
  show (a,b)::mT (l.take (2*i))++_= (a,b)::mT (l.take (2*(i+1)))
  rw[List.cons_append,ih]
theorem qk:∀ (l:List (List UInt8)),2*(mT l).length≤l.length
 | [] =>Nat.le_refl _
 | [a] =>by simp[mT]
 |a::b::l=>by have:=qk l;simp only[mT,List.length_cons];omega
theorem Hc {l:List Int}(h:l.length=2):∃x y,l= [x,y]:=by
 rcases l with _| ⟨x,_| ⟨y,_| ⟨z,l⟩⟩⟩
 . cases h
 . cases h
 . exact ⟨x,y,rfl⟩
 . simp at h
theorem NV {l:List Int}(h:l.length=2):w6 (some ⟨.int .i64,1,8,[nI 0]⟩) (some 0) 2 (cl iC l) =some (vp (.kp [.val (.int .i64 (gt l 0)),.val (.int .i64 (gt l 1))])):=by
 obtain ⟨x,y,rfl⟩:=Hc h;rfl
theorem NW {l:List Int}(h:l.length=2):w6 (some ⟨.int .i64,1,8,[nI 0]⟩) (some 1) 2 (cl iC l) =some (vp (.kp [.val (.int .i64 (gt l 1))])):=by
 obtain ⟨x,y,rfl⟩:=Hc h;rfl
theorem abU (x y:List UInt8):w6 (some ⟨.string,1,16,[str []]⟩) (some 0) 2 (cl sC [x,y]) =some (vp (.kp [.val (str x),.val (str y)])):=rfl
theorem abV (x y:List UInt8):w6 (some ⟨.string,1,16,[str []]⟩) (some 1) 2 (cl sC [x,y]) =some (vp (.kp [.val (str y)])):=rfl
theorem zV {b:List UInt8}(h: (cL b).2.2=0): (cL b).2.1≤b.length∧(cL b).1.length≤b.length:=by
 obtain ⟨h1,h2⟩:=JI h
 have h3:=Nx (aX ag 1 b).1
 rw[h1,List.length_take] at h3
 exact ⟨h2,by unfold cL;omega⟩
theorem zW {b:List UInt8}(h: (cS b).2.2=0): (cS b).2.1≤b.length - (cL b).2.1∧(cS b).1.length≤b.length:=by
 obtain ⟨h1,h2⟩:=JJ h
 have h3:=Ny (aX bn 1 (b.drop (cL b).2.1)).1
 rw[h1,List.length_take] at h3
 rw[List.length_drop] at h2 h3
 exact ⟨h2,by unfold cS;omega⟩
theorem zX {b:List UInt8}(h: (f7 b).2.2=0): (f7 b).2.1≤b.length - ((cL b).2.1+(cS b).2.1)∧(f7 b).1.length≤b.length:=by
 obtain ⟨h1,h2⟩:=JK h
 have h3:=Nz (aX b8 16 (b.drop ((cL b).2.1+(cS b).2.1))).1
 rw[h1,List.length_take] at h3
 rw[List.length_drop] at h2 h3
 exact ⟨h2,by unfold f7;omega⟩
theorem zY {p:Prop}(e:p:=by intro KZ hZ;simp -implicitDefEqProofs (disch:=first|omega| (simp only[go_sem,lA,lD,lT] <;>omega) |decide) only[go_sem,↓reduceIte,Nat.reduceEqDiff,reduceCtorEq,Nat.reduceLT,Nat.reduceBEq,Nat.reduceAdd,hy];with_reducible exact hZ):p:=e
theorem VN {p:Prop}(e:p:=by simp -implicitDefEqProofs (disch:=first|omega| (simp only[go_sem,lA,lD,lT] <;>omega) |decide) only[go_sem,↓reduceIte,Nat.reduceEqDiff,reduceCtorEq]):p:=e
theorem agK {gl:Nat→C}{M:Nat}{pu:Nat→List C→Option C}(hcx:CxOK (af gl M pu))(l:List (List UInt8)):FC Tryd.prog gl 73 [sl sC .no l,.val (nI 2)] [] (.fn 99 [.kp [sl sC .no l],.kp [.val (nI 2)]]) []:=by
 replace hcx:=hcx.reN (M:=9)
 refine aB (cx:=af gl 9 pu) (rs:=[.tmp 4]) rfl Tryd.func73 rfl rfl rfl (by simp only[List.length_cons,List.length_nil];decide) (by simp only[go_sem]) ?_
 simp only[bq,go_sem]
 have hy:=True.intro
 refine Tr.w hcx [] _ [none,none] rfl rfl rfl ?_ zY
 refine aa fun K1 hK1=>?_
 refine Tr.w hcx [] _ [] rfl rfl rfl ?_ zY
 refine bc rfl ?_
 refine Tr.skip ?_
 refine hK1 _ ?_
 refine bW hcx 0 [sl sC .no l] ?_
 refine bW hcx 1 [.val (nI 2)] ?_
 refine Tr.w hcx [1000008] _ [] rfl rfl rfl ?_ zY
 exact Tr.ret VN
theorem dq {p:Prop}(e:p:=by intro KZ hZ;simp -implicitDefEqProofs (maxSteps:=2000000) (disch:=first|omega| (simp only[go_sem,lA,lD,lT,hle,bI,bS,bD,hx1] <;>omega) |decide) only[go_sem,↓reduceIte,Nat.reduceEqDiff,reduceCtorEq,Nat.reduceLT,Nat.reduceBEq,Nat.reduceAdd,eI,eS,eD,h73,c1,c2,c3,c4,c5,hy];with_reducible exact hZ):p:=e
theorem Hd {p:Prop}(e:p:=by intro KZ hZ;simp -implicitDefEqProofs (maxSteps:=2000000) (disch:=first|omega| (simp only[go_sem,lA,lD,lT,hle,bI,bS,bD,hx1] <;>omega) |decide) only[go_sem,↓reduceIte,Nat.reduceEqDiff,reduceCtorEq,Nat.reduceLT,Nat.reduceBEq,Nat.reduceAdd,eI,eS,eD,h73,c1,c2,c3,c4,c5,hy];with_reducible refine And.intro ?_ hZ;first|exact rfl|decide):p:=e
theorem nG {p:Prop}(e:p:=by simp -implicitDefEqProofs (disch:=first|omega| (simp only[go_sem,lA,lD,lT,hle,bI,bS,bD,hx1] <;>omega) |decide) only[go_sem,↓reduceIte,Nat.reduceEqDiff,reduceCtorEq];all_goals (first| (rw[hR];done) | (rw[hR];rfl))):p:=e
theorem agL {gl:Nat→C}{M:Nat}{pu:Nat→List C→Option C}(hcx:CxOK (af gl M pu))(h70:∀b:List UInt8,b.length< 1099511627776→pu 70 [sl bC .no b] =some (.tup [sl iC .no (aX ag 1 b).1,.val (nI (aX ag 1 b).2.1),.val (nI (aX ag 1 b).2.2)]))(h71:∀b:List UInt8,b.length< 1099511627776→pu 71 [sl bC .no b] =some (.tup [sl sC .no (aX bn 1 b).1,.val (nI (aX bn 1 b).2.1),.val (nI (aX bn 1 b).2.2)]))(h72:∀b:List UInt8,b.length< 1099511627776→pu 72 [sl bC .no b] =some (.tup [sl dC .no (aX b8 16 b).1,.val (nI (aX b8 16 b).2.1),.val (nI (aX b8 16 b).2.2)]))(h73:∀ (l:List (List UInt8)),pu 73 [sl sC .no l,.val (nI 2)] =some (.fn 99 [.kp [sl sC .no l],.kp [.val (nI 2)]]))(b:List UInt8)(hb:b.length< 1099511627776):FC Tryd.prog gl 43 [sl bC .no b] [] (.tup [.agg [.val (.int .i64 (bF b).1.1),.val (.int .i64 (bF b).1.2.1),sl eC .no (bF b).1.2.2.1,sl dC .no (bF b).1.2.2.2],.val (nI (bF b).2.1),.val (nI (bF b).2.2)]) []:=by
 replace hcx:=hcx.reN (M:=88)
 refine aB (cx:=af gl 88 pu) (rs:=[.cell 2 50,.tmp 3,.tmp 4]) rfl Tryd.func43 rfl rfl rfl (by simp only[List.length_cons,List.length_nil];decide) (by simp only[go_sem]) ?_
 simp only[bq,go_sem]
 have c1:=True.intro
 have c2:=True.intro
 have c3:=True.intro
 have c4:=True.intro
 have c5:=True.intro
 have hy:=True.intro
 have hle:=hb
 have eI:pu 70 [sl bC .no b] =some (.tup [sl iC .no (cL b).1,.val (nI (cL b).2.1),.val (nI (cL b).2.2)]):=h70 b hb
 have eS:pu 71 [sl bC .no (b.drop (cL b).2.1)] =some (.tup [sl sC .no (cS b).1,.val (nI (cS b).2.1),.val (nI (cS b).2.2)]):=h71 _ (by rw[List.length_drop];omega)
 have eD:pu 72 [sl bC .no (b.drop ((cL b).2.1+(cS b).2.1))] =some (.tup [sl dC .no (f7 b).1,.val (nI (f7 b).2.1),.val (nI (f7 b).2.2)]):=h72 _ (by rw[List.length_drop];omega)
 have bI:=True.intro
 have bS:=True.intro
 have bD:=True.intro
 have hx1:=True.intro
 refine Tr.w hcx [] _ [none] rfl rfl rfl ?_ dq
 refine Tr.w hcx [1000017,1000018,1000019] _ [] rfl rfl rfl ?_ dq
 refine aa fun K1 hK1=>?_
 by_cases c1: (cL b).2.2=0
 ·
  have bI:=zV c1
  refine Tr.w hcx [] _ [] rfl rfl rfl ?_ dq
  refine bc rfl ?_
  refine Tr.skip ?_
  refine hK1 _ ?_
  refine aa fun K2 hK2=>?_
  by_cases c2: (cL b).1.length=2
  ·
   skip
   refine Tr.w hcx [] _ [] rfl rfl rfl ?_ dq
   refine bc rfl ?_
   refine Tr.skip ?_
   refine hK2 _ ?_
   refine Tr.k [0,2,5,6] ?_
   refine Tr.w hcx [1000033,1000034,1000035] _ [] rfl rfl rfl ?_ dq
   refine aa fun K3 hK3=>?_
   by_cases c3: (cS b).2.2=0
   ·
    have bS:=zW c3
    refine Tr.w hcx [] _ [] rfl rfl rfl ?_ dq
    refine bc rfl ?_
    refine Tr.skip ?_
    refine hK3 _ ?_
    refine aa fun K4 hK4=>?_
    by_cases c4: (cS b).1.length % 2=0
    ·
     skip
     refine Tr.w hcx [] _ [] rfl rfl rfl ?_ dq
     refine bc rfl ?_
     refine Tr.skip ?_
     refine hK4 _ ?_
     refine Tr.k [0,2,5,6,8,9] ?_
     refine Tr.w hcx [1000052,1000053,1000054] _ [] rfl rfl rfl ?_ dq
     refine aa fun K5 hK5=>?_
     by_cases c5: (f7 b).2.2=0
     ·
      have bD:=zX c5
      have hR:=xD c1 c2 c3 c4 c5
      refine Tr.w hcx [] _ [] rfl rfl rfl ?_ dq
      refine bc rfl ?_
      refine Tr.skip ?_
      refine hK5 _ ?_
      refine Tr.k [2,5,6,8,9,10,11] ?_
      have x20:=NV c2
      have x21:=NW c2
      have hy:=And.intro @x20 @x21
      refine Tr.wD hcx ct [] _ [none] rfl rfl rfl rfl ?_ Hd
      refine aa fun K6 hK6=>?_
      have hy:=True.intro
      refine Tr.w hcx [] _ [] rfl rfl rfl ?_ dq
      refine Tr.blk ?_
      refine Tr.bxc 1 2 (sl eC (.own 2) []) _ rfl rfl (an rfl) rfl ?_
      simp only[List.set_cons_succ,List.set_cons_zero]
      refine VH ((cS b).1.length / 2) (fun i=>[sl sC .no (((cS b).1.drop (2*i)).take 2)]) (fun i=>[some [.val (nI 0),.val (nI 0),.val (.slice none 0 0),.val (.slice none 0 0)],some [.val (.int .i64 (gt (cL b).1 0)),.val (.int .i64 (gt (cL b).1 1)),sl eC (.own 2) (mT ((cS b).1.take (2*i))),sl dC .no (f7 b).1]]) rfl (agH hcx (cS b).1 c4 (by omega)) (fun i hi=>rfl) (by decide) (rfl) ?rb_1 ?rd_1
      case rb_1=>
       intro i hi
       replace hcx:=hcx.rnd
       have ct:= @agG
       simp only[go_sem]
       rw[abT (cS b).1 i (by omega)]
       have hx1:=qk ((cS b).1.take (2*i))
       rw[List.length_take] at hx1
       refine Tr.v hcx [1000069] _ [] rfl rfl rfl ?_ dq
       refine ⟨rfl,?_⟩
       refine Tr.k [12,13] ?_
       refine Tr.blk ?_
       have hy:=And.intro @abU @abV
       refine fA hcx ct [71] _ [] rfl rfl rfl rfl ?_ Hd
       exact RoundQ.n (by rw[←sW _ i (by omega)])
      case rd_1=>
       refine hK6 _ ?_
       rw[List.take_of_length_le (show (cS b).1.length≤2*((cS b).1.length / 2) by omega)]
       refine Tr.w hcx [1000087] _ [] rfl rfl rfl ?_ dq
       exact Tr.ret nG
     have hR:=xC c1 c2 c3 c4 c5
     refine Tr.w hcx [] _ [] rfl rfl rfl ?_ dq
     refine bf rfl ?_
     refine Tr.w hcx [1000058] _ [] rfl rfl rfl ?_ dq
     refine Tr.bxc 0 2 (sl eC .no []) _ rfl rfl (an rfl) rfl ?_
     refine Tr.bxc 0 3 (sl dC .no []) _ rfl rfl (an rfl) rfl ?_
     simp only[List.set_cons_succ,List.set_cons_zero]
     exact Tr.ret nG
    have hR:=Ez c1 c2 c3 c4
    refine Tr.w hcx [] _ [] rfl rfl rfl ?_ dq
    refine bf rfl ?_
    refine Tr.w hcx [] _ [] rfl rfl rfl ?_ dq
    refine Tr.bxc 0 2 (sl eC .no []) _ rfl rfl (an rfl) rfl ?_
    refine Tr.bxc 0 3 (sl dC .no []) _ rfl rfl (an rfl) rfl ?_
    simp only[List.set_cons_succ,List.set_cons_zero]
    exact Tr.ret nG
   have hR:=xB c1 c2 c3
   refine Tr.w hcx [] _ [] rfl rfl rfl ?_ dq
   refine bf rfl ?_
   refine Tr.w hcx [1000039] _ [] rfl rfl rfl ?_ dq
   refine Tr.bxc 0 2 (sl eC .no []) _ rfl rfl (an rfl) rfl ?_
   refine Tr.bxc 0 3 (sl dC .no []) _ rfl rfl (an rfl) rfl ?_
   simp only[List.set_cons_succ,List.set_cons_zero]
   exact Tr.ret nG
  have hR:=Ey c1 c2
  refine Tr.w hcx [] _ [] rfl rfl rfl ?_ dq
  refine bf rfl ?_
  refine Tr.w hcx [] _ [] rfl rfl rfl ?_ dq
  refine Tr.bxc 0 2 (sl eC .no []) _ rfl rfl (an rfl) rfl ?_
  refine Tr.bxc 0 3 (sl dC .no []) _ rfl rfl (an rfl) rfl ?_
  simp only[List.set_cons_succ,List.set_cons_zero]
  exact Tr.ret nG
 have hR:=xA c1
 refine Tr.w hcx [] _ [] rfl rfl rfl ?_ dq
 refine bf rfl ?_
 refine Tr.w hcx [1000023] _ [] rfl rfl rfl ?_ dq
 refine Tr.bxc 0 2 (sl eC .no []) _ rfl rfl (an rfl) rfl ?_
 refine Tr.bxc 0 3 (sl dC .no []) _ rfl rfl (an rfl) rfl ?_
 simp only[List.set_cons_succ,List.set_cons_zero]
 exact Tr.ret nG
theorem dc {p:Prop}(e:p:=by intro KZ hZ;simp -implicitDefEqProofs (maxSteps:=2000000) (disch:=first|omega| (simp only[go_sem,lA,lD,lT,hle,bI,bS,bD,hx1] <;>omega) |decide) only[go_sem,↓reduceIte,Nat.reduceEqDiff,reduceCtorEq,Nat.reduceLT,Nat.reduceBEq,Nat.reduceAdd,eI,eS,eD,c1,c2,c3,c4,c5,hy];with_reducible exact hZ):p:=e
theorem He {p:Prop}(e:p:=by intro KZ hZ;simp -implicitDefEqProofs (maxSteps:=2000000) (disch:=first|omega| (simp only[go_sem,lA,lD,lT,hle,bI,bS,bD,hx1] <;>omega) |decide) only[go_sem,↓reduceIte,Nat.reduceEqDiff,reduceCtorEq,Nat.reduceLT,Nat.reduceBEq,Nat.reduceAdd,eI,eS,eD,c1,c2,c3,c4,c5,hy];with_reducible refine And.intro ?_ hZ;first|exact rfl|decide):p:=e
theorem nH {p:Prop}(e:p:=by simp -implicitDefEqProofs (disch:=first|omega| (simp only[go_sem,lA,lD,lT,hle,bI,bS,bD,hx1] <;>omega) |decide) only[go_sem,↓reduceIte,Nat.reduceEqDiff,reduceCtorEq];all_goals (first| (rw[hR];done) | (rw[hR];rfl))):p:=e
theorem agM {gl:Nat→C}{M:Nat}{pu:Nat→List C→Option C}(hcx:CxOK (af gl M pu))(h75:∀b:List UInt8,b.length< 1099511627776→pu 75 [sl bC .no b] =some (.tup [sl iC .no (aX ag 1 b).1,.val (nI (aX ag 1 b).2.1),.val (nI (aX ag 1 b).2.2)]))(h76:∀b:List UInt8,b.length< 1099511627776→pu 76 [sl bC .no b] =some (.tup [sl sC .no (aX bn 1 b).1,.val (nI (aX bn 1 b).2.1),.val (nI (aX bn 1 b).2.2)]))(h77:∀b:List UInt8,b.length< 1099511627776→pu 77 [sl bC .no b] =some (.tup [sl dC .no (aX b8 16 b).1,.val (nI (aX b8 16 b).2.1),.val (nI (aX b8 16 b).2.2)]))(b:List UInt8)(hb:b.length< 1099511627776):FC Tryd.prog gl 47 [sl bC .no b] [] (.tup [.agg [.val (.int .i64 (bF b).1.1),.val (.int .i64 (bF b).1.2.1),sl eC .no (bF b).1.2.2.1,sl dC .no (bF b).1.2.2.2],.val (nI (bF b).2.1),.val (nI (bF b).2.2)]) []:=by
 replace hcx:=hcx.reN (M:=97)
 refine aB (cx:=af gl 97 pu) (rs:=[.cell 2 54,.tmp 3,.tmp 4]) rfl Tryd.func47 rfl rfl rfl (by simp only[List.length_cons,List.length_nil];decide) (by simp only[go_sem]) ?_
 simp only[bq,go_sem]
 have c1:=True.intro
 have c2:=True.intro
 have c3:=True.intro
 have c4:=True.intro
 have c5:=True.intro
 have hy:=True.intro
 have hle:=hb
 have eI:pu 75 [sl bC .no b] =some (.tup [sl iC .no (cL b).1,.val (nI (cL b).2.1),.val (nI (cL b).2.2)]):=h75 b hb
 have eS:pu 76 [sl bC .no (b.drop (cL b).2.1)] =some (.tup [sl sC .no (cS b).1,.val (nI (cS b).2.1),.val (nI (cS b).2.2)]):=h76 _ (by rw[List.length_drop];omega)
 have eD:pu 77 [sl bC .no (b.drop ((cL b).2.1+(cS b).2.1))] =some (.tup [sl dC .no (f7 b).1,.val (nI (f7 b).2.1),.val (nI (f7 b).2.2)]):=h77 _ (by rw[List.length_drop];omega)
 have bI:=True.intro
 have bS:=True.intro
 have bD:=True.intro
 have hx1:=True.intro
 refine Tr.w hcx [] _ [none] rfl rfl rfl ?_ dc
 refine Tr.w hcx [1000019,1000020,1000021] _ [] rfl rfl rfl ?_ dc
 refine aa fun K1 hK1=>?_
 by_cases c1: (cL b).2.2=0
 ·
  have bI:=zV c1
  refine Tr.w hcx [] _ [] rfl rfl rfl ?_ dc
  refine bc rfl ?_
  refine Tr.skip ?_
  refine hK1 _ ?_
  refine aa fun K2 hK2=>?_
  by_cases c2: (cL b).1.length=2
  ·
   skip
   refine Tr.w hcx [] _ [] rfl rfl rfl ?_ dc
   refine bc rfl ?_
   refine Tr.skip ?_
   refine hK2 _ ?_
   refine Tr.k [0,2,5,6] ?_
   refine Tr.w hcx [1000035,1000036,1000037] _ [] rfl rfl rfl ?_ dc
   refine aa fun K3 hK3=>?_
   by_cases c3: (cS b).2.2=0
   ·
    have bS:=zW c3
    refine Tr.w hcx [] _ [] rfl rfl rfl ?_ dc
    refine bc rfl ?_
    refine Tr.skip ?_
    refine hK3 _ ?_
    refine aa fun K4 hK4=>?_
    by_cases c4: (cS b).1.length % 2=0
    ·
     skip
     refine Tr.w hcx [] _ [] rfl rfl rfl ?_ dc
     refine bc rfl ?_
     refine Tr.skip ?_
     refine hK4 _ ?_
     refine Tr.k [0,2,5,6,8,9] ?_
     refine Tr.w hcx [1000054,1000055,1000056] _ [] rfl rfl rfl ?_ dc
     refine aa fun K5 hK5=>?_
     by_cases c5: (f7 b).2.2=0
     ·
      have bD:=zX c5
      have hR:=xD c1 c2 c3 c4 c5
      refine Tr.w hcx [] _ [] rfl rfl rfl ?_ dc
      refine bc rfl ?_
      refine Tr.skip ?_
      refine hK5 _ ?_
      refine Tr.k [2,5,6,8,9,11,12] ?_
      have x20:=NV c2
      have x21:=NW c2
      have hy:=And.intro @x20 @x21
      refine Tr.wD hcx ct [] _ [none] rfl rfl rfl rfl ?_ He
      refine aa fun K6 hK6=>?_
      have hy:=True.intro
      refine Tr.w hcx [] _ [] rfl rfl rfl ?_ dc
      refine Tr.k [2,6,8,9,12,14,15] ?_
      refine Tr.blk ?_
      refine Tr.bxc 1 2 (sl eC (.own 2) []) _ rfl rfl (an rfl) rfl ?_
      simp only[List.set_cons_succ,List.set_cons_zero]
      refine aN (α:=Nat) (fun a=>[(2,?v2_1),(6,?v6_1),(8,?v8_1),(9,?v9_1),(12,?v12_1),(14,?v14_1),(15,.val (nI (2*a)))]) (fun a=>[some [.val (nI 0),.val (nI 0),.val (.slice none 0 0),.val (.slice none 0 0)],some [.val (.int .i64 (gt (cL b).1 0)),.val (.int .i64 (gt (cL b).1 1)),sl eC (.own 2) (mT ((cS b).1.take (2*a))),sl dC .no (f7 b).1]]) (fun a=>2*a≤(cS b).1.length) (fun a=>(cS b).1.length - 2*a) (0) (by omega) ?le_1 ?hh_1 ?bd_1
      case hh_1=>exact rfl
      case le_1=>exact LT
      rintro i hi
      have hx1:=qk ((cS b).1.take (2*i))
      rw[List.length_take] at hx1
      refine aa fun K7 hK7=>?_
      refine Tr.w hcx [] _ [] rfl rfl rfl ?_ dc
      refine aq rfl (fun hc73=>?_) (fun hc73=>?_)
      ·
       refine Tr.skip ?_
       refine hK7 _ ?_
       refine Tr.k [2,6,8,9,12,14,15] ?_
       refine aa fun K8 hK8=>?_
       refine Tr.blk ?_
       refine fA hcx ct [77] _ [] rfl rfl rfl rfl ?_ He
       refine hK8 _ ?_
       refine Tr.v hcx [1000075] _ [] rfl rfl rfl ?_ dc
       exact ⟨i+1,⟨(by omega),O1⟩,LT,by dsimp only;rw[←sW _ i (by omega)] <;>rfl⟩
      refine Tr.exit ?_
      refine hK6 _ ?_
      rw[List.take_of_length_le (show (cS b).1.length≤2*i by omega)]
      refine Tr.w hcx [1000096] _ [] rfl rfl rfl ?_ dc
      exact Tr.ret nH
     have hR:=xC c1 c2 c3 c4 c5
     refine Tr.w hcx [] _ [] rfl rfl rfl ?_ dc
     refine bf rfl ?_
     refine Tr.w hcx [1000060] _ [] rfl rfl rfl ?_ dc
     refine Tr.bxc 0 2 (sl eC .no []) _ rfl rfl (an rfl) rfl ?_
     refine Tr.bxc 0 3 (sl dC .no []) _ rfl rfl (an rfl) rfl ?_
     simp only[List.set_cons_succ,List.set_cons_zero]
     exact Tr.ret nH
    have hR:=Ez c1 c2 c3 c4
    refine Tr.w hcx [] _ [] rfl rfl rfl ?_ dc
    refine bf rfl ?_
    refine Tr.w hcx [] _ [] rfl rfl rfl ?_ dc
    refine Tr.bxc 0 2 (sl eC .no []) _ rfl rfl (an rfl) rfl ?_
    refine Tr.bxc 0 3 (sl dC .no []) _ rfl rfl (an rfl) rfl ?_
    simp only[List.set_cons_succ,List.set_cons_zero]
    exact Tr.ret nH
   have hR:=xB c1 c2 c3
   refine Tr.w hcx [] _ [] rfl rfl rfl ?_ dc
   refine bf rfl ?_
   refine Tr.w hcx [1000041] _ [] rfl rfl rfl ?_ dc
   refine Tr.bxc 0 2 (sl eC .no []) _ rfl rfl (an rfl) rfl ?_
   refine Tr.bxc 0 3 (sl dC .no []) _ rfl rfl (an rfl) rfl ?_
   simp only[List.set_cons_succ,List.set_cons_zero]
   exact Tr.ret nH
  have hR:=Ey c1 c2
  refine Tr.w hcx [] _ [] rfl rfl rfl ?_ dc
  refine bf rfl ?_
  refine Tr.w hcx [] _ [] rfl rfl rfl ?_ dc
  refine Tr.bxc 0 2 (sl eC .no []) _ rfl rfl (an rfl) rfl ?_
  refine Tr.bxc 0 3 (sl dC .no []) _ rfl rfl (an rfl) rfl ?_
  simp only[List.set_cons_succ,List.set_cons_zero]
  exact Tr.ret nH
 have hR:=xA c1
 refine Tr.w hcx [] _ [] rfl rfl rfl ?_ dc
 refine bf rfl ?_
 refine Tr.w hcx [1000025] _ [] rfl rfl rfl ?_ dc
 refine Tr.bxc 0 2 (sl eC .no []) _ rfl rfl (an rfl) rfl ?_
 refine Tr.bxc 0 3 (sl dC .no []) _ rfl rfl (an rfl) rfl ?_
 simp only[List.set_cons_succ,List.set_cons_zero]
 exact Tr.ret nH
end Go.Sx
namespace Go.Sx
open Go.RowKit Go.Proofs
set_option maxRecDepth 100000
set_option maxHeartbeats 8000000
def zZ (u w:Int):List C:=[.val (.int .i64 u),.val (.int .i64 w),.val (.slice none 0 0),.val (.slice none 0 0)]
theorem VO (u:TypeDesc)(y:Nat)(z:List Value)(hz:z= [.int .i64 0,.int .i64 0,.slice none 0 0,.slice none 0 0])(a b:fB)(x w:Int):
 j6 (some ⟨u,4,y,z⟩) 4 [(0,.agg (pC a)),(1,.agg (pC b)),(2,.agg zR),(3,.agg (zZ x w))] =some (vp (.sl .full 4 (cl pC [a,b]++(zR++zZ x w)))):=by
 subst hz;kernel_rfl
theorem QS (u w:Int):CLs (zZ u w) (pC (u,w,[],[])):= .cons (CLe.refl _) (.cons (CLe.refl _) (.cons (an rfl) (.cons (an rfl) .nil)))
theorem VP (a b:fB)(u w:Int):CLe (.sl .full 4 (cl pC [a,b]++(zR++zZ u w))) (sl pC .full [a,b,Ew,(u,w,[],[])]):=by
 show CLe _ (.sl .full 4 (cl pC [a,b]++(pC Ew++pC (u,w,[],[]))))
 exact Vy (C1 (CLs.refl _) (C1 QN (QS u w)))
theorem QT (n:Nat){u w:Int}(hu:fo u)(hw:fo w):PB n (u,w,[],[]):=⟨hu,hw,Nat.zero_le _,fun i hi=>absurd hi (Nat.not_lt_zero i),Nat.zero_le _⟩
theorem J7 {l:List ab}(h:l.length≤11)(h2:∀i,i< l.length→(gt l i).1.length≤42∧(gt l i).2.length≤42)(hv:cb l=0)(k:List UInt8):PB 42 (l4 (bR l k).1):=by
 have h5:=Vz (l:=l) (n:=5000) (by omega) (fun i hi=>by have:=h2 i hi;omega) (by omega) k
 have h24:=Vk h hv k
 refine ⟨h5.1,h5.2.1,?_,?_,by show (bR l k).1.2.2.2.length≤42;omega⟩
 . have:=(U5 l k).1
   show (bR l k).1.2.2.1.length≤42;omega
 . show ∀i,i< (bR l k).1.2.2.1.length→_
   have key:∀f e,∀i,i< (jJ l f e).2.2.1.length→(gt (jJ l f e).2.2.1 i).1.length≤42∧(gt (jJ l f e).2.2.1 i).2.length≤42:=fun f e=>GZ h2 f (e - f)
   unfold bR
   split
   . simp only[];split<;>exact key _ _
   . rename_i q;exact absurd hv q
theorem VQ {p:fB}(h:PB 50 p): (dv p).length≤20000:=by
 have h1:=h.fl.1
 have h2:=zT (n:=50) (lZ.1 h.2.2.2.1)
 have hl:=h.2.2.1
 have hs:=h.2.2.2.2
 have h3:=zU (l:=dn p.2.2.1) (by omega) (by omega)
 have h4:=vl p.1 p.2.1 h.1 h.2.1
 have h5:=Hb p.2.2.2 (by omega)
 have h6: (dv p).length= (bV [p.1,p.2.1]).length+(cf (dn p.2.2.1)).length+(db p.2.2.2).length:=by unfold dv;simp only[List.length_append]
 omega
theorem QU {b:List UInt8}(hb:b.length< 1099511627776):fo (bF b).1.1∧fo (bF b).1.2.1∧(bF b).1.2.2.1.length≤b.length∧(bF b).1.2.2.2.length≤b.length∧(bF b).2.1≤b.length:=by
 have z:fo mU.1∧fo mU.2.1∧mU.2.2.1.length≤b.length∧mU.2.2.2.length≤b.length∧0≤b.length:=⟨by unfold fo;decide,by unfold fo;decide,Nat.zero_le _,Nat.zero_le _,Nat.zero_le _⟩
 by_cases c1: (cL b).2.2=0
 . by_cases c2: (cL b).1.length=2
   . by_cases c3: (cS b).2.2=0
     . by_cases c4: (cS b).1.length % 2=0
       . by_cases c5: (f7 b).2.2=0
         . rw[xD c1 c2 c3 c4 c5]
           have b1:=zV c1
           have b2:=zW c3
           have b3:=zX c5
           have b4:=qk (cS b).1
           have hr:∀x∈ (cL b).1,fo x:=JO b
           refine ⟨hr _ (mK _ 0 (by omega)),hr _ (mK _ 1 (by omega)),by simp only[];omega,b3.2,by simp only[];omega⟩
         . rw[xC c1 c2 c3 c4 c5];exact z
       . rw[Ez c1 c2 c3 c4];exact z
     . rw[xB c1 c2 c3];exact z
   . rw[Ey c1 c2];exact z
 . rw[xA c1];exact z
theorem z0 {p:Prop}(e:p:=by intro KZ hZ;simp -implicitDefEqProofs (disch:=first|omega| (simp only[go_sem,lA,lD,lT,hmm] <;>omega) |decide) only[go_sem,↓reduceIte,Nat.reduceEqDiff,reduceCtorEq,Nat.reduceLT,Nat.reduceBEq,Nat.reduceAdd,hy];with_reducible exact hZ):p:=e
theorem VR {p:Prop}(e:p:=by simp -implicitDefEqProofs (disch:=first|omega| (simp only[go_sem,lA,lD,lT,hmm] <;>omega) |decide) only[go_sem,↓reduceIte,Nat.reduceEqDiff,reduceCtorEq];all_goals (rw[show b.take (min b.length n) =b.take n from by rw[Nat.min_comm,←List.take_take,List.take_length]] <;>rfl)):p:=e
theorem agN {gl:Nat→C}{M:Nat}{pu:Nat→List C→Option C}(hcx:CxOK (af gl M pu))(b:List UInt8)(n:Nat)(hn:n≤1000000)(hb:b.length< 9223372036854775808):FC Tryd.prog gl 44 [sl bC .no b,.val (nI n)] [] (sl bC (.own 1) (b.take n)) []:=by
 replace hcx:=hcx.reN (M:=14)
 refine aB (cx:=af gl 14 pu) (rs:=[.tmp 4]) rfl Tryd.func44 rfl rfl rfl (by simp only[List.length_cons,List.length_nil];decide) (by simp only[go_sem]) ?_
 simp only[bq,go_sem]
 have hy:=True.intro
 have hmm:min b.length n≤1000000∧min b.length n≤b.length:=by omega
 refine Tr.w hcx [] _ [] rfl rfl rfl ?_ z0
 refine Tr.w hcx [] _ [] rfl rfl rfl ?_ z0
 refine Tr.w hcx [6,1000013] _ [] rfl rfl rfl ?_ z0
 exact Tr.ret VR
end Go.Sx
