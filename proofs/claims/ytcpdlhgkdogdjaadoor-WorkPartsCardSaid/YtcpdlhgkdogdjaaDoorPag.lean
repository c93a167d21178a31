/-
   And what follows.
-/
import Derived.Test.YtcpdlhgkdogdjaaDoorPaf
set_option linter.unusedSimpArgs false
set_option linter.unusedVariables false
namespace Go.Sx
open Go.RowKit
def Do (body:St→Option (Ex×St)):Nat→St→Option (Ex×St)
 |0,_=>none
 |n+1,st=>match body st with
  |some (.normal,st') =>Do body n st'
  |r=>r
def kj (cx:Cx)(n:Nat):Code→St→Option (Ex×St)
 | .skip,st=>some (.normal,st)
 | .label _,st=>some (.normal,st)
 | .region _ ops draw,st=>if draw then (if eh ops=true then (iS cx ops st).map fun s=>(.normal,s) else none) else (mb cx ops st).map fun s=>(.normal,s)
 | .seq a b,st=>match kj cx n a st with
   |some (.normal,st') =>kj cx n b st'
   |r=>r
 | .cond c a b,st=>match cx.ev st.env c with
   | .val (.bool true) =>kj cx n a st
   | .val (.bool false) =>kj cx n b st
   |_=>none
 | .block id c,st=>match kj cx n c st with
   |some (.exit k,st') =>if k=id then some (.normal,st') else some (.exit k,st')
   |r=>r
 | .scope c,st=>kj cx n c st
 | .loop c,st=>Do (kj cx n c) n st
 | .exit id,st=>some (.exit id,st)
 | .ret,st=>some (.ret,st)
 |_,_=>none
section
variable {cx:Cx} {n:Nat} {st:St} {Q:Ex→St→Prop} {G:Gh} {w:World} {a:Act}
theorem t9 (H:Sim cx G w st a){r:ResultVar}{c:C}(h:eW cx st r=some c):
 ∃v,(match r with| .tmp t=>pure (a.tmps.getD t undef) | .cell p t=>do loadVar t (←asAddr (a.tmps.getD p undef)):Sem Value).run cx.P w= .ok v w∧Rep G c v∧
  (∀s m xs,c= .sl (.own s) m xs→∃t,r= .tmp t∧OwnRow G w (0,t,0) v s m):=by
 unfold eW at h
 cases r with
 |tmp t=>
  simp only[Option.some.injEq] at h
  subst h
  exact ⟨a.tmps.getD t undef,rfl,H.pre.env.1 t,fun s m xs e=>⟨t,rfl,H.pre.env.2 t s m xs e⟩⟩
 |cell p t=>
  simp only[] at h
  split at h
  . rename_i d b off hd he
    cases hb:st.h.at b with
    |none=>rw[hb] at h;cases h
    |some cells=>
     rw[hb] at h
     simp only[Option.bind_some] at h
     have hr:=H.pre.env.1 p
     rw[he] at hr
     simp only[Rep] at hr
     obtain ⟨blk,hμ,hv⟩:=hr
     obtain ⟨cs,e,q1,q2,q3,q4,q5,q6⟩:=gj H.pre.ok hb hμ
     obtain ⟨v,hv1,hv2,hv3⟩:=ka (P:=cx.P) (w:=w) (blk:=blk) (o0:=0) hd q2 (fun u hu=>q3 u (List.mem_of_mem_take hu)) (fun j u hu=>by rw[Nat.zero_add];exact q4 j u hu) h
     rw[Nat.zero_add] at hv1
     refine ⟨v,?_,hv2,fun s m xs e=>by rw[e] at hv3;exact hv3.elim⟩
     have hv':a.tmps.getD p undef= .pointer (some ⟨blk,off,none⟩):=hv
     simp only[Sem.run_bind,hv',asAddr,Sem.run_pure,Result.andThen_ok]
     simpa[Instr.loadAt,Instr.sureAddr] using hv1
  . cases h
theorem ua (H:Sim cx G w st a):∀ (rs:List ResultVar){cs:List C},rs.mapM (eW cx st) =some cs→
 ∃vs:List Value,(rs.mapM (fun r=>(match r with| .tmp t=>pure (a.tmps.getD t undef) | .cell p t=>do loadVar t (←asAddr (a.tmps.getD p undef)):Sem Value))).run cx.P w= .ok vs w∧RepL G cs vs
 | [],cs,h=>by
   simp at h;subst h;exact ⟨[],by simp,by simp[RepL]⟩
 |r::rs,cs,h=>by
  simp only[List.mapM_cons,Option.bind_eq_bind,Option.pure_def] at h
  cases hr:eW cx st r with
  |none=>simp[hr] at h
  |some c=>
   cases hrs:rs.mapM (eW cx st) with
   |none=>simp[hr,hrs] at h
   |some cs'=>
    simp[hr,hrs] at h
    subst h
    obtain ⟨v,h1,h2,_⟩:=t9 H hr
    obtain ⟨vs,h3,h4⟩:=ua H rs hrs
    refine ⟨v::vs,?_,by simp only[RepL];exact ⟨v,vs,rfl,h2,h4⟩⟩
    simp only[List.mapM_cons,Sem.run_bind,h1,Result.andThen_ok,h3,Sem.run_pure]
theorem og (H:Sim cx G w st a){fn:Func}{c:C}(h:results cx fn st=some c):
 ∃v G',(Go.results fn a.tmps).run cx.P w= .ok v w∧Rep G' c v∧(∀s m xs,c= .sl (.own s) m xs→OwnRow G' w (2,0,0) v s m)∧WorldOK G' st.h w∧FrmN n G w G' w∧(∀c' v',Rep G c' v'→Rep G' c' v')∧G'.μ=G.μ:=by
 unfold results at h
 unfold Go.results
 have hl: (fn.results.mapM (fun r=>(match r with| .tmp t=>pure (a.tmps.getD t undef) | .cell p t=>do loadVar t (←asAddr (a.tmps.getD p undef)):Sem Value))).run cx.P w=
  ((fn.results.toList.mapM (fun r=>(match r with| .tmp t=>pure (a.tmps.getD t undef) | .cell p t=>do loadVar t (←asAddr (a.tmps.getD p undef)):Sem Value))).run cx.P w).andThen fun vs w'=> .ok vs.toArray w':=by
  rw[Array.mapM_eq_mapM_toList,Sem.run_map]
 split at h
 . rename_i r hrs
   obtain ⟨v,h1,h2,h3⟩:=t9 H h
   have hrun: (fn.results.mapM (fun r=>(match r with| .tmp t=>pure (a.tmps.getD t undef) | .cell p t=>do loadVar t (←asAddr (a.tmps.getD p undef)):Sem Value))).run cx.P w= .ok #[v] w→
    ((do let vs ←fn.results.mapM (fun r=>(match r with| .tmp t=>pure (a.tmps.getD t undef) | .cell p t=>do loadVar t (←asAddr (a.tmps.getD p undef)):Sem Value));pure (if h:vs.size=1 then vs[0] else .tuple vs)):Sem Value).run cx.P w= .ok v w:=fun hq=>by
    simp only[Sem.run_bind,hq,Result.andThen_ok,Sem.run_pure]
    rfl
   have hone:=hrun (by rw[hl,hrs];simp only[List.mapM_cons,List.mapM_nil,Sem.run_bind,h1,Result.andThen_ok,Sem.run_pure])
   by_cases hno:c.noOwn
   . exact ⟨v,G,hone,h2,fun s m xs e=>by rw[e] at hno;exact hno.elim,H.pre.ok,FrmN.refl n G w,fun _ _ x=>x,rfl⟩
   . obtain ⟨s,m,xs,hs⟩:∃s m xs,c= .sl (.own s) m xs:=by
      cases c with
      |sl r m xs=>cases r with
       |own s=>exact ⟨_,_,_,rfl⟩
       |no=>exact absurd trivial hno
       |full=>exact absurd trivial hno
      |_=>exact absurd trivial hno
     obtain ⟨t,rfl,O⟩:=h3 s m xs hs
     rcases O with O| ⟨g,cap,cur,e,a1,a2,a3,a4,a5,a6⟩
     . exact ⟨v,G,hone,h2,fun s' m' xs' e=>by rw[hs] at e;cases e;exact .inl O,H.pre.ok,FrmN.refl n G w,fun _ _ x=>x,rfl⟩
     . have le:G.Le (cb G g (some (2,0,0))):=⟨fun _ _ _ x=>x,fun _ _ x=>x,fun _ _ x=>x⟩
       refine ⟨v,cb G g (some (2,0,0)),hone,h2.mono le,fun s' m' xs' e'=>?_,sq H.pre.ok a2,.of (lm a2),fun c' v' x=>x.mono le,rfl⟩
       rw[hs] at e'
       cases e'
       exact .inr ⟨g,cap,cur,e,a1,by simp[cb],a3,a4,a5,a6⟩
 . rename_i rs hrs
   cases hm:fn.results.toList.mapM (eW cx st) with
   |none=>rw[hm] at h;cases h
   |some cs=>
    rw[hm] at h
    simp only[Option.map_some,Option.some.injEq] at h
    subst h
    obtain ⟨vs,h1,h2⟩:=ua H _ hm
    refine ⟨.tuple vs.toArray,G,?_,?_,(fun s m xs e=>by cases e),H.pre.ok,FrmN.refl n G w,fun _ _ x=>x,rfl⟩
    . have:=hl
      rw[h1] at this
      simp only[Result.andThen_ok] at this
      have hlen:vs.length≠1:=by
       intro e
       have h3:=h2.length
       have h4:cs.length=fn.results.toList.length:=by
        have key:∀ (l:List ResultVar)(ds:List C),l.mapM (eW cx st) =some ds→ds.length=l.length:=by
         intro l
         induction l with
         |nil=>intro ds hd;simp at hd;subst hd;rfl
         |cons r l ih=>
          intro ds hd
          simp only[List.mapM_cons,Option.bind_eq_bind,Option.pure_def] at hd
          cases hr:eW cx st r with
          |none=>simp[hr] at hd
          |some c=>
           cases hrs:l.mapM (eW cx st) with
           |none=>simp[hr,hrs] at hd
           |some ds'=>simp[hr,hrs] at hd;subst hd;simp[ih ds' hrs]
        exact key _ _ hm
       have h5:fn.results.toList.length=1:=by omega
       obtain ⟨r,hr⟩:=List.length_eq_one_iff.1 h5
       exact hrs r hr
      have hrun: ((do let vs ←fn.results.mapM (fun r=>(match r with| .tmp t=>pure (a.tmps.getD t undef) | .cell p t=>do loadVar t (←asAddr (a.tmps.getD p undef)):Sem Value));pure (if h:vs.size=1 then vs[0] else .tuple vs)):Sem Value).run cx.P w= .ok (.tuple vs.toArray) w:=by
       simp only[Sem.run_bind,this,Result.andThen_ok,Sem.run_pure]
       rw[dif_neg (by simpa using hlen)]
      exact hrun
    . simp only[Rep]
      exact ⟨_,rfl,by simpa using h2.map_noR⟩
def Bk (o:Obj):Prop:=(∃ds,o= .deferred ds)∨∃r,o= .loop r
structure Shut (m:Nat) (G:Gh) (w w2:World):Prop where
 os:w2.os=w.os
 tape:w2.tape=w.tape
 output:w2.output=w.output
 size:w2.heap.size=w.heap.size
 heap:∀g,w2.heap[g]? =w.heap[g]? ∨(m≤g∧(∃o,w.heap[g]? =some o∧Bk o)∧G.T g=none∧∀b,G.μ b≠some g)
theorem Shut.refl (m:Nat)(G:Gh)(w:World):Shut m G w w:=⟨rfl,rfl,rfl,rfl,fun _=> .inl rfl⟩
section
variable {m:Nat} {G:Gh} {w w2:World} (S:Shut m G w w2)
include S
theorem Shut.kept {g:Nat}{o:Obj}(h:w.heap[g]? =some o)(hd:¬Bk o):w2.heap[g]? =some o:=by
 rcases S.heap g with e| ⟨_,⟨o',e,hb⟩,_⟩
 . exact e.trans h
 . rw[h] at e;cases e;exact absurd hb hd
theorem Shut.mu {b g:Nat}(h:G.μ b=some g):w2.heap[g]? =w.heap[g]? :=by
 rcases S.heap g with e| ⟨_,_,_,e⟩
 . exact e
 . exact absurd h (e b)
theorem Shut.cell {p:Addr}{u:Value}(h:w.cell? p=some u):w2.cell? p=some u:=by
 unfold World.cell? at h ⊢
 cases ho:w.heap[p.block]? with
 |none=>rw[ho] at h;cases h
 |some o=>
  rw[ho] at h
  rw[S.kept ho (fun e=>by rcases e with ⟨ds,e⟩ | ⟨r,e⟩ <;> (rw[e] at h;cases h))]
  exact h
theorem Shut.row {p:bg}{v:Value}{s n:Nat}(O:OwnRow G w p v s n):OwnRow G w2 p v s n:=by
 rcases O with O| ⟨g,cap,cur,e,a1,a2,a3,a4⟩
 . exact .inl O
 . exact .inr ⟨g,cap,cur,e,a1,a2,S.kept a3 (fun e=>by rcases e with ⟨ds,e⟩ | ⟨r,e⟩ <;>cases e),a4⟩
theorem Shut.ok {h:Hp}(W:WorldOK G h w):WorldOK G h w2:=by
 refine ⟨fun b o u hu=>S.cell (W.known b o u hu),fun b cells hb=>?_,fun b blk hb=>⟨(W.dom b blk hb).1,by rw[S.size];exact (W.dom b blk hb).2⟩,W.inj,W.sep,fun g p hg=>by rw[S.size];exact W.tlt g p hg,fun b cells off s n xs blk v hb hc hm hv=>?_,fun b z hz=>?_,fun b l hb=>?_,W.mpi⟩
 . rcases W.box b cells hb with q| ⟨blk,cs,e,h1,h2,h3⟩
   . exact .inl q
   . exact .inr ⟨blk,cs,e,h1,by rw[S.mu h1];exact h2,h3⟩
 . refine S.row (W.own b cells off s n xs blk v hb hc hm ?_)
   unfold World.cell? at hv ⊢
   rw[S.mu hm] at hv
   exact hv
 . obtain ⟨blk,cs,e,fr,h1,h2,h3⟩:=W.siz b z hz
   exact ⟨blk,cs,e,fr,h1,by rw[S.mu h1];exact h2,h3⟩
 . obtain ⟨blk,es,clk,h1,h2,h3⟩:=W.mpo b l hb
   exact ⟨blk,es,clk,h1,by rw[S.mu h1];exact h2,h3⟩
theorem Shut.sim {st:St}{a:Act}(H:Sim cx G w st a):Sim cx G w2 st { a with defers:=[] }:=
 ⟨Mks.nil,H.size,S.ok H.pre.ok,⟨H.pre.env.1,fun t s n xs e=>S.row (H.pre.env.2 t s n xs e)⟩,H.pre.glob⟩
theorem Shut.frm {n:Nat}{G0:Gh}{w0:World}(hm:m=w0.heap.size)(F:FrmN n G0 w0 G w):FrmN n G0 w0 G w2:=
 ⟨S.os.trans F.os,S.tape.trans F.tape,S.output.trans F.output,by rw[S.size];exact F.size,F.K,F.μ,F.σ,fun g hg ht hmu=>by
   obtain ⟨a1,a2⟩:=F.old g hg ht hmu
   refine ⟨?_,a2⟩
   rcases S.heap g with e| ⟨e,_⟩
   . exact e.trans a1
   . omega⟩
end
theorem iT {P:Program}{fn:Func}{tmps:Array Value}{R:Ending→World→Prop}{m:Nat}{G:Gh}{w:World}:∀ (ds:List Deferred){w1:World},Shut m G w w1→Mks G w1 ds→(∀d∈ds,∀D,d.target= .collected D→m≤D)→
 (∀w2,Shut m G w w2→∃v,(Go.results fn tmps).run P w2= .ok v w2∧R (.returned v) w2)→LeavesInM Fence.wide 0 P fn tmps R ds .returning w1
 | [],w1,S,_,_,h=>h w1 S
 |d::ds,w1,S,M,hm,h=>by
  obtain ⟨D,e,h1,h2,h3⟩:=M.2 d (List.mem_cons_self ..)
  have hD:m≤D:=hm d (List.mem_cons_self ..) D (by rw[e])
  have hlt:D< w1.heap.size:=(Array.getElem?_eq_some_iff.1 h1).1
  refine ⟨(fun e=>by cases e),.inl ⟨D,_,by rw[e],run_takeDeferred h1,iT ds ?_ ?_ (fun d' hd'=>hm d' (List.mem_cons_of_mem _ hd')) h⟩⟩
  . refine ⟨S.os,S.tape,S.output,by rw[World.putObj_size];exact S.size,fun g=>?_⟩
    by_cases hg:g=D
    . subst hg
      refine .inr ⟨hD,?_,h2,h3⟩
      rcases S.heap g with q| ⟨_,q,_⟩
      . exact ⟨_,q.symm.trans h1,.inl ⟨_,rfl⟩⟩
      . exact q
    . rw[World.putObj_heap_other hg];exact S.heap g
  . obtain ⟨n1,n2⟩:=List.nodup_cons.1 M.1
    refine ⟨n2,fun d' hd'=>?_⟩
    obtain ⟨D',e',k1,k2⟩:=M.2 d' (List.mem_cons_of_mem _ hd')
    refine ⟨D',e',?_,k2⟩
    rw[World.putObj_heap_other (fun q=>n1 (by rw[e,←q,←e'];exact hd'))]
    exact k1
def In (cx:Cx)(fn:Func)(k:Nat)(c:C)(h':Hp):Ex→St→Prop
 | .exit _,_=>False
 |_,st'=>results cx fn st'=some c∧((st'.h.take k=h'∧ag k c=true∧∀ (b:Nat) cells,b< k→st'.h[b]? =some (some cells)→noRefs k cells=true)∨st'.h=h')
theorem AE {f:Nat} {fn:Func} {code:Code} {args:List C} {h h':Hp} {c:C} (hf:cx.P.funcs[f]? =some fn) (hn: (fn.name== "runtime.NumGoroutine") =false) (hb:fn.body=some code)
 (hlen:args.length≤fn.ntmps) (hT:Tr { cx with N:=fn.ntmps } h.length code ⟨init args,h⟩ (In cx fn h.length c h')):FC cx.P cx.gl f args h c h':=by
 refine ⟨⟨fn,hf,hn,by rw[hb];rfl⟩,fun G w vs W hTg hgl hr=>?_⟩
 have hvl:vs.size=args.length:=by rw[hr.length];simp
 refine callsIn_wide.1 (callsIn_of_wp_marks (F:=Fence.wide) (n:=0) hf hb trivial ?_)
 have hsim:Sim { cx with N:=fn.ntmps } G w ⟨init args,h⟩ { tmps:=vs++Array.replicate (fn.ntmps - vs.size) undef,defers:=[] }:=by
  refine ⟨Mks.nil,by simp;omega,W,⟨fun t=>?_,fun t s m xs e=>(fo e).elim⟩,hgl⟩
  simp only[init,av,Array.getD_eq_getD_getElem?]
  refine Rep.noR ?_
  cases hq:args[t]? with
  |some x=>
   obtain ⟨v,hv,hrv⟩:=hr.get t x hq
   have hlt:t< vs.size:=by
    have:=(List.getElem?_eq_some_iff.1 hv).1
    simpa using this
   rw[Array.getElem?_append_left hlt]
   have hv':vs[t]? =some v:=by simpa using hv
   rw[hv']
   exact hrv
  |none=>
   have hge:vs.size≤t:=by
    have:=List.getElem?_eq_none_iff.1 hq
    omega
   rw[Array.getElem?_append_right hge]
   simp only[Option.getD_none]
   rw[am]
   cases hq2: (Array.replicate (fn.ntmps - vs.size) undef)[t - vs.size]? with
   |none=>rfl
   |some u=>
    rw[Array.getElem?_replicate] at hq2
    split at hq2
    . cases hq2;rfl
    . cases hq2
 have fin:∀ (st':St)(G':Gh)(w':World)(a':Act),(results cx fn st'=some c∧((st'.h.take h.length=h'∧ag h.length c=true∧∀ (b:Nat) cells,b< h.length→st'.h[b]? =some (some cells)→noRefs h.length cells=true)∨st'.h=h'))→
  Sim { cx with N:=fn.ntmps } G' w' st' a'→FrmN h.length G w G' w'→
  ∃v,(Go.results fn a'.tmps).run cx.P w'= .ok v w'∧∃v' G',Ending.returned v= .returned v'∧Rep G' c v'∧(∀s n xs,c= .sl (.own s) n xs→OwnRow G' w' (2,0,0) v' s n)∧WorldOK G' h' w'∧Frm G w G' w':=by
  rintro st' G' w' a' ⟨hres,hend⟩ S F
  obtain ⟨v,G2,r1,r2,r3,r4,r5,r6,r7⟩:=og (cx:= { cx with N:=fn.ntmps }) (n:=h.length) S (fn:=fn) (c:=c) hres
  have F2:=F.trans r5
  have full:∀G3,FrmN h.length G w G3 w'→Frm G w G3 w':=fun G3 F3=>
   ⟨F3.os,F3.tape,F3.output,F3.size,⟨F3.K,fun b k hm=>F3.μ b k (by
     obtain ⟨⟨cells,hc⟩,_⟩:=W.dom b k hm
     exact (List.getElem?_eq_some_iff.1 hc).1) hm,fun b z hz=>F3.σ b z (by
     obtain ⟨k,_,_,_,hm,_⟩:=W.siz b z hz
     obtain ⟨⟨cells,hc⟩,_⟩:=W.dom b k hm
     exact (List.getElem?_eq_some_iff.1 hc).1) hz⟩,F3.old⟩
  refine ⟨v,r1,?_⟩
  rcases hend with ⟨rfl,hnc,hnb⟩ |rfl
  . exact ⟨v,bm G2 h.length,rfl,dx _ _ hnc r2,fun s m xs e=>(r3 s m xs e).cut _,r4.cut _ hnb,full _ (F2.trans (ng (Nat.le_refl _)))⟩
  . exact ⟨v,G2,rfl,r2,r3,r4,full _ F2⟩
 refine hT none (fun _=>rfl) G w _ hsim _ fun x st' G' w' a' hx S F=>?_
 obtain ⟨ds,hds,hnew⟩:=F.df
 rw[List.append_nil] at hds
 have go: (results cx fn st'=some c∧((st'.h.take h.length=h'∧ag h.length c=true∧∀ (b:Nat) cells,b< h.length→st'.h[b]? =some (some cells)→noRefs h.length cells=true)∨st'.h=h'))→LeavesInM Fence.wide 0 cx.P fn a'.tmps (fun e w'=> ∃v G',e= .returned v∧Rep G' c v∧(∀s n xs,c= .sl (.own s) n xs→OwnRow G' w' (2,0,0) v s n)∧WorldOK G' h' w'∧Frm G w G' w') a'.defers .returning w':=fun hx=>
  iT (m:=w.heap.size) (G:=G') (w:=w') a'.defers (Shut.refl _ _ _) S.defers (by rw[hds];exact hnew) fun w2 T=>fin st' G' w2 { a' with defers:=[] } hx (T.sim S) (T.frm rfl F.fr)
 cases x with
 |exit k=>exact hx.elim
 |normal=>exact go hx
 |ret=>exact go hx
end
end Go.Sx
namespace Go.Sx
open Go.RowKit
theorem qs (ops:Array Oper)(d:Option Nat):qZ ops d= (match d with|some t=>(ops.toList.filterMap cu).contains t|none=>false):=by
 cases d<;>rfl
def splanA (cx:Cx)(apps:List Nat)(o:Oper)(env:Nat→C):Option Plan:=
 match o.op with
 | .move (.tmp p) =>some (if ((match o.dst with|some t=>apps.contains t|none=>false) || (match o.dst.map (· +1000000) with|some t=>apps.contains t|none=>false)) then .val (env p) (some p) else .pure (env p).noR)
 | .load t x=>loadPlan cx.P (match o.dst with|some t=>apps.contains t|none=>false) t (cx.evn env x)
 |_=>splan cx #[] o env
theorem lc (cx:Cx)(ops:Array Oper)(o:Oper)(env:Nat→C):splanA cx (ops.toList.filterMap cu) o env=splan cx ops o env:=by
 unfold splanA
 split
 . rename_i p ho
   unfold splan
   rw[ho]
   simp only[AF,qs]
   rfl
 . rename_i t x ho
   unfold splan
   rw[ho]
   simp only[qs]
   rfl
 . rename_i h1 h2
   unfold splan
   simp only[]
   split<;>first|rfl|skip
   . rename_i x ho
     cases x with
     |tmp p=>exact absurd ho (h1 p)
     |_=>rfl
   . rename_i t x ho
     exact absurd ho (h2 t x)
def fl (dsts:List (Option Nat))(g:Option (Nat×Bool))(env:Nat→C):Option Bool:=
 match g with
 |none=>some true
 |some (j,want) =>match (dsts[j]?).bind id with
  |none=>some false
  |some t=>match (env t).noR with
   | .val (.bool b) =>some (b==want)
   | .val (.tuple _) =>some false
   |_=>none
theorem kl (ops:Array Oper)(o:Oper)(env:Nat→C):fl (ops.toList.map (·.dst)) o.guard env=dP ops o env:=by
 unfold fl dP
 cases o.guard with
 |none=>rfl
 |some g=>
  obtain ⟨j,want⟩:=g
  simp only[]
  have: ((ops.toList.map (·.dst))[j]?).bind id= (ops[j]?).bind (·.dst):=by
   rw[List.getElem?_map,Array.getElem?_toList]
   cases ops[j]? <;>rfl
  rw[this]
  rfl
def vk (cx:Cx)(id:Nat)(d:Option Nat)(st:St)(K:St→Prop)(p:Option Plan):Prop:=
 match p with
 |none=>False
 |some p=>match aB cx id p st.h with
  |none=>False
  |some (c,k,h') =>K ⟨put d c (aZ k st.env),h'⟩
def gz (cx:Cx)(apps:List Nat)(dsts:List (Option Nat)):List Oper→Nat→St→(St→Prop)→Prop
 | [],_,st,K=>K st
 |o::l,id,st,K=>gY cx.N o.dst=true∧match fl dsts o.guard st.env with
  |none=>False
  |some false=>gz cx apps dsts l (if da o then id+1 else id) ⟨put o.dst (.val undef) st.env,st.h⟩ K
  |some true=>vk cx id o.dst st (fun s=>gz cx apps dsts l (if da o then id+1 else id) s K) (splanA cx apps o st.env)
theorem nh (ops:Array Oper)(k:Nat)(o:Oper)(h:ops[k]? =some o):dw ops (k+1) =if da o then dw ops k+1 else dw ops k:=by
 unfold dw
 have h':ops.toList[k]? =some o:=by simpa using h
 rw[List.take_add_one,h']
 simp only[Option.toList_some,List.countP_append,List.countP_singleton]
 split<;>simp
theorem oh {cx:Cx}{ops:Array Oper}{base:Nat}{K:St→Prop}:∀ (l:List Oper)(k:Nat)(st:St),ops.toList.drop k=l→
 gz cx (ops.toList.filterMap cu) (ops.toList.map (·.dst)) l (base+dw ops k) st K→∃st',fq cx ops base (List.range' k l.length) st=some st'∧K st'
 | [],k,st,_,h=>⟨st,rfl,h⟩
 |o::l,k,st,hl,h=>by
  have hk:ops[k]? =some o:=by
   have: (ops.toList.drop k)[0]? =some o:=by rw[hl];rfl
   rw[List.getElem?_drop] at this
   simpa using this
  have hl':ops.toList.drop (k+1) =l:=by rw[←List.drop_drop,hl];rfl
  simp only[gz] at h
  obtain ⟨hd,h⟩:=h
  rw[kl,lc] at h
  have hid: (if da o then base+dw ops k+1 else base+dw ops k) =base+dw ops (k+1):=by
   rw[nh ops k o hk];split<;>omega
  rw[hid] at h
  simp only[List.length_cons,List.range'_succ,fq]
  have next:∀s,gz cx (ops.toList.filterMap cu) (ops.toList.map (·.dst)) l (base+dw ops (k+1)) s K→step cx ops base k st=some s→∃st',(step cx ops base k st).bind (fq cx ops base (List.range' (k+1) l.length)) =some st'∧K st':=fun s hs hst=>by
   obtain ⟨st',h1,h2⟩:=oh l (k+1) s hl' hs
   exact ⟨st',by rw[hst];exact h1,h2⟩
  cases hw:dP ops o st.env with
  |none=>rw[hw] at h;exact h.elim
  |some b=>
   rw[hw] at h
   cases b with
   |false=>
    refine next _ h ?_
    unfold step
    rw[hk]
    simp only[hd,if_true,hw]
   |true=>
    simp only[vk] at h
    cases hp:splan cx ops o st.env with
    |none=>rw[hp] at h;exact h.elim
    |some p=>
     rw[hp] at h
     simp only[] at h
     cases ha:aB cx (base+dw ops k) p st.h with
     |none=>rw[ha] at h;exact h.elim
     |some r=>
      rw[ha] at h
      refine next _ h ?_
      unfold step
      rw[hk]
      simp only[hd,if_true,hw,hp,bQ,ha,Option.map_some]
theorem vl {cx:Cx}{n:Nat}{st:St}{Q:Ex→St→Prop}(hcx:CxOK cx){id:Nat}{l:List Oper}(h:gz cx (l.filterMap cu) (l.map (·.dst)) l st.h.length ⟨st.env,st.h++List.replicate (l.countP da) none⟩ (Q .normal)):
 Tr cx n (.region id l.toArray false) st Q:=by
 have h':gz cx (l.toArray.toList.filterMap cu) (l.toArray.toList.map (·.dst)) l (st.h.length+dw l.toArray 0) ⟨st.env,st.h++List.replicate (l.countP da) none⟩ (Q .normal):=by simpa[dw] using h
 obtain ⟨st',h1,h2⟩:=oh l 0 _ (by simp) h'
 refine Tr.region hcx (st':=st') ?_ h2
 unfold mb
 have hc:dw l.toArray l.toArray.size=l.countP da:=by simp[dw]
 rw[hc,List.range_eq_range']
 simpa using h1
def gA (cx:Cx)(id:Nat)(d:Option Nat)(st:St)(K:FP→St→Prop)(p:Option Plan):Prop:=
 match p with
 |none=>False
 |some p=>match aB cx id p st.h with
  |none=>False
  |some (c,k,h') =>K (br id st.h p) ⟨put d c (aZ k st.env),h'⟩
def eU (cx:Cx)(apps:List Nat)(dsts:List (Option Nat)):List Oper→Nat→St→List FP→(List FP→St→Prop)→Prop
 | [],_,st,fs,K=>K fs st
 |o::l,id,st,fs,K=>gY cx.N o.dst=true∧match fl dsts o.guard st.env with
  |none=>False
  |some false=>eU cx apps dsts l (if da o then id+1 else id) ⟨put o.dst (.val undef) st.env,st.h⟩ ((0,0)::fs) K
  |some true=>gA cx id o.dst st (fun f s=>eU cx apps dsts l (if da o then id+1 else id) s (f::fs) K) (splanA cx apps o st.env)
theorem qt {cx:Cx}{ops:Array Oper}{base:Nat}{K:List FP→St→Prop}:∀ (l:List Oper)(k:Nat)(st:St)(fs:List FP),ops.toList.drop k=l→
 eU cx (ops.toList.filterMap cu) (ops.toList.map (·.dst)) l (base+dw ops k) st fs K→∃st' gs,gy cx ops base (List.range' k l.length) st=some (st',gs)∧K (gs.reverse++fs) st'
 | [],k,st,fs,_,h=>⟨st,[],rfl,h⟩
 |o::l,k,st,fs,hl,h=>by
  have hk:ops[k]? =some o:=by
   have: (ops.toList.drop k)[0]? =some o:=by rw[hl];rfl
   rw[List.getElem?_drop] at this
   simpa using this
  have hl':ops.toList.drop (k+1) =l:=by rw[←List.drop_drop,hl];rfl
  simp only[eU] at h
  obtain ⟨hd,h⟩:=h
  rw[kl,lc] at h
  have hid: (if da o then base+dw ops k+1 else base+dw ops k) =base+dw ops (k+1):=by
   rw[nh ops k o hk];split<;>omega
  rw[hid] at h
  simp only[List.length_cons,List.range'_succ,gy]
  have next:∀s f,eU cx (ops.toList.filterMap cu) (ops.toList.map (·.dst)) l (base+dw ops (k+1)) s (f::fs) K→fa cx ops base k st=some (s,f)→
   ∃st' gs,(match fa cx ops base k st with|none=>none|some (st',f) =>(gy cx ops base (List.range' (k+1) l.length) st').map fun r=>(r.1,f::r.2)) =some (st',gs)∧K (gs.reverse++fs) st':=fun s f hs hst=>by
   obtain ⟨st',gs,h1,h2⟩:=qt l (k+1) s (f::fs) hl' hs
   refine ⟨st',f::gs,by rw[hst];simp only[h1,Option.map_some],?_⟩
   simpa using h2
  cases hw:dP ops o st.env with
  |none=>rw[hw] at h;exact h.elim
  |some b=>
   rw[hw] at h
   cases b with
   |false=>
    refine next _ _ h ?_
    unfold fa k8
    rw[hk]
    simp only[hd,if_true,hw,Option.map_some,aZ]
   |true=>
    simp only[gA] at h
    cases hp:splan cx ops o st.env with
    |none=>rw[hp] at h;exact h.elim
    |some p=>
     rw[hp] at h
     simp only[] at h
     cases ha:aB cx (base+dw ops k) p st.h with
     |none=>rw[ha] at h;exact h.elim
     |some r=>
      rw[ha] at h
      refine next _ _ h ?_
      unfold fa k8
      rw[hk]
      simp only[hd,if_true,hw,hp,ha,Option.map_some]
theorem tU {cx:Cx}{n:Nat}{st:St}{Q:Ex→St→Prop}(hcx:CxOK cx)(hm:cx.P.follows .mixedOrders=true){id:Nat}{l:List Oper}(hs:eh l.toArray=true)
 (h:eU cx (l.filterMap cu) (l.map (·.dst)) l st.h.length ⟨st.env,st.h++List.replicate (l.countP da) none⟩ [] (fun fs s=>fK l.toArray fs.reverse=true∧Q .normal s)):
 Tr cx n (.region id l.toArray true) st Q:=by
 have h':eU cx (l.toArray.toList.filterMap cu) (l.toArray.toList.map (·.dst)) l (st.h.length+dw l.toArray 0) ⟨st.env,st.h++List.replicate (l.countP da) none⟩ [] (fun fs s=>fK l.toArray fs.reverse=true∧Q .normal s):=by simpa[dw] using h
 obtain ⟨st',gs,h1,h2,h3⟩:=qt l 0 _ [] (by simp) h'
 refine vi hcx hm (st':=st') hs ?_ h3
 unfold iS
 have hc:dw l.toArray l.toArray.size=l.countP da:=by simp[dw]
 rw[hc,List.range_eq_range']
 have h1':gy cx l.toArray st.h.length (List.range' 0 l.toArray.size) ⟨st.env,st.h++List.replicate (l.countP da) none⟩ =some (st',gs):=by simpa using h1
 rw[h1']
 simp only[List.append_nil,List.reverse_reverse] at h2
 simp only[h2,if_true]
theorem FC.of {cx:Cx} {f:Nat} {fn:Func} {code:Code} {args:List C} {h h':Hp} {c:C} (hN:cx.N=fn.ntmps) (hf:cx.P.funcs[f]? =some fn) (hn: (fn.name== "runtime.NumGoroutine") =false) (hb:fn.body=some code)
 (hlen:args.length≤fn.ntmps) (hT:Tr cx h.length code ⟨init args,h⟩ (In cx fn h.length c h')):FC cx.P cx.gl f args h c h':=by
 refine AE hf hn hb hlen ?_
 obtain ⟨P,N,gl,pu,hp⟩:=cx
 simp only[] at hN
 subst hN
 exact hT
theorem af {cx:Cx}{n:Nat}{st:St}{Q:Ex→St→Prop}{a b:Code}(h:∀K:St→Prop,(∀s,Tr cx n b s Q→K s)→Tr cx n a st (l7 K Q)):Tr cx n (.seq a b) st Q:=
 Tr.seq (h _ fun _ x=>x)
end Go.Sx
namespace Go.Sx
open Go.RowKit
def A:List (Nat×C)→Nat→C
 | [],_=> .top
 | (k,c)::l,t=>if t=k then c else A l t
def Le (env:Nat→C):List (Nat×C)→Prop
 | [] =>True
 | (k,c)::l=>CLe (env k) c∧Le env l
theorem Le.spec {env:Nat→C}:∀ {l:List (Nat×C)},Le env l→∀t,CLe (env t) (A l t)
 | [],_,t=>CLe.top _
 | (k,c)::l,h,t=>by
   unfold A
   split
   . rename_i e;subst e;exact h.1
   . exact Le.spec h.2 t
section
variable {cx:Cx} {n:Nat} {st:St} {Q:Ex→St→Prop}
theorem Tr.live {c:Code}(l:List (Nat×C))(h:Le st.env l)(k:Tr cx n c ⟨A l,st.h⟩ Q):Tr cx n c st Q:=
 Tr.weaken (fun t=>h.spec t) k
def At {α:Type}(I:α→List (Nat×C))(H:α→Hp)(ok:α→Prop)(s:St):Prop:= ∃a,ok a∧Le s.env (I a)∧s.h=H a
theorem bz {α:Type}(I:α→List (Nat×C))(H:α→Hp)(ok:α→Prop)(μ:α→Nat){c:Code}(a:α)(h0:ok a)(hl:Le st.env (I a))(hh:st.h=H a)
 (hb:∀a,ok a→Tr cx n c ⟨A (I a),H a⟩ (l7 (At I H fun a'=>ok a'∧μ a'< μ a) Q)):Tr cx n (.loop c) st Q:=by
 refine Tr.loop (fun m s=> ∃a,μ a=m∧ok a∧Le s.env (I a)∧s.h=H a) (μ a) ⟨a,rfl,h0,hl,hh⟩ ?_
 rintro m s ⟨a,rfl,h1,h2,h3⟩
 refine Tr.live _ h2 ?_
 rw[h3]
 refine (hb a h1).mono fun e s q=>?_
 cases e with
 |normal=>
  obtain ⟨a',⟨q1,q2⟩,q3,q4⟩:=q
  exact ⟨μ a',q2,a',rfl,q1,q3,q4⟩
 |exit id=>exact q
 |ret=>exact q
end
theorem FC.frame {P:Program}{gl:Nat→C}{f:Nat}{args:List C}{c:C}(hf:FC P gl f args [] c [])(ha:noRefs 0 args=true)(hg:∀g,ag 0 (gl g) =true)(h:Hp):FC P gl f args h c h:=by
 obtain ⟨he,hf⟩:=hf
 refine ⟨he,fun G w vs W hTg hgl hr=>?_⟩
 have le1: (bm G 0).Le { K:=G.K,μ:=fun _=>none,T:=fun _=>none }:=⟨fun _ _ _ x=>x,fun b k x=>by simp[bm] at x,fun b k x=>by simp[bm] at x⟩
 have hn:∀b,Hp.at [] b=none:=fun b=>by simp[Hp.at]
 refine Calls.mono (hf { K:=G.K,μ:=fun _=>none,T:=fun _=>none } w vs ⟨W.known,(fun b cells x=>by rw[hn] at x;cases x),(fun b blk x=>by cases x),(fun b b' c c' blk _ _ x=>by cases x),(fun b blk x=>by cases x),(fun g p x=>by cases x),(fun b cells off s n xs blk v x=>by rw[hn] at x;cases x),(fun b z x=>by cases x),(fun b l x=>by simp[Hp.mp] at x),(fun b b' l l' blk x=>by simp[Hp.mp] at x)⟩
  (fun g p x=>by cases x) (fun g=>(dx _ _ (hg g) (hgl g)).mono le1) ((noRef_repL _ _ ha hr).mono le1)) ?_
 rintro e w' ⟨v,G2,rfl,rv,ro,W2,F⟩
 have hμ2:∀b k,G2.μ b≠some k:=fun b k x=>by
  obtain ⟨⟨cells,hc⟩,_⟩:=W2.dom b k x
  simp at hc
 have hσ2:∀b k,G2.σ b≠some k:=fun b k x=>by
  obtain ⟨blk,_,_,_,q,_⟩:=W2.siz b k x
  exact hμ2 b blk q
 have old:=fun g (hg:g< w.heap.size) =>F.old g hg rfl (fun b x=>by cases x)
 have hμlt:∀b blk,G.μ b=some blk→blk< w.heap.size:=fun b blk x=>by
  exact (W.dom b blk x).2
 let G3:Gh:= { K:=G2.K,μ:=G.μ,T:=fun g=>if g< w.heap.size then G.T g else G2.T g,σ:=G.σ }
 have le23:G2.Le G3:=⟨fun _ _ _ x=>x,fun b k x=>(hμ2 b k x).elim,fun b k x=>(hσ2 b k x).elim⟩
 have le13:G.Le G3:=⟨fun b o u x=>F.le.K b o u x,fun _ _ x=>x,fun _ _ x=>x⟩
 refine ⟨v,G3,rfl,rv.mono le23,fun s n xs e=>?_,⟨W2.known,fun b cells hc=>?_,fun b blk x=>⟨(W.dom b blk x).1,Nat.lt_of_lt_of_le (W.dom b blk x).2 F.size⟩,W.inj,fun b blk x=>?_,fun g p x=>?_,fun b cells off s n xs blk v hc hx hm hv=>?_,fun b z hz=>?_,fun b l hb=>(by obtain ⟨blk,es,clk,q1,q2,q3⟩:=W.mpo b l hb;exact ⟨blk,es,clk,q1,(old blk (hμlt b blk q1)).1.trans q2,q3.mono le13⟩),W.mpi⟩,F.os,F.tape,F.output,F.size,le13,fun g hg ht hm=>?_⟩
 . rcases ro s n xs e with O| ⟨g,cap,cur,e,a1,a2,a3,a4,a5,a6⟩
   . exact .inl O
   . refine .inr ⟨g,cap,cur,e,a1,?_,a3,a4,a5,fun b x=>?_⟩
     . have:¬g< w.heap.size:=fun hlt=>by rw[(old g hlt).2.1] at a2;cases a2
       show (if g< w.heap.size then G.T g else G2.T g) =_
       rw[if_neg this];exact a2
     . have hlt:=hμlt b g x
       rw[(old g hlt).2.1] at a2;cases a2
 . rcases W.box b cells hc with hE| ⟨blk,cs,e,q1,q2,q0,q3,q4⟩
   . exact .inl hE
   . exact .inr ⟨blk,cs,e,q1,by rw[(old blk (hμlt b blk q1)).1];exact q2,q0,q3.mono le13,q4⟩
 . have hlt:=hμlt b blk x
   refine ⟨fun o=>((old blk hlt).2.2.2 o).trans ((W.sep b blk x).1 o),?_⟩
   show (if blk< w.heap.size then G.T blk else G2.T blk) =none
   rw[if_pos hlt]
   exact (W.sep b blk x).2
 . have x': (if g< w.heap.size then G.T g else G2.T g) =some p:=x
   split at x'
   . exact Nat.lt_of_lt_of_le (W.tlt g p x') F.size
   . exact W2.tlt g p x'
 . have hlt:=hμlt b blk hm
   have hv':w.cell? ⟨blk,off,none⟩ =some v:=by
    rw[←hv]
    unfold World.cell?
    rw[(old blk hlt).1]
   rcases W.own b cells off s n xs blk v hc hx hm hv' with O| ⟨g,cap,cur,e,a1,a2,a3,a4,a5,a6⟩
   . exact .inl O
   . have hlt:=W.tlt g _ a2
     refine .inr ⟨g,cap,cur,e,a1,?_,(old g hlt).1.trans a3,a4,fun o ho=>((old g hlt).2.2.2 o).trans (a5 o ho),a6⟩
     show (if g< w.heap.size then G.T g else G2.T g) =_
     rw[if_pos hlt];exact a2
 . obtain ⟨blk,cs,e,fr,q1,q2,q3⟩:=W.siz b z hz
   exact ⟨blk,cs,e,fr,q1,(old blk (hμlt b blk q1)).1.trans q2,q3⟩
 . obtain ⟨b1,b2,b3,b4⟩:=old g hg
   refine ⟨b1,?_,hm,b4⟩
   show (if g< w.heap.size then G.T g else G2.T g) =none
   rw[if_pos hg];exact ht
end Go.Sx
namespace Go.Sx
open Go.RowKit
def eB:List Oper→Hp
 | [] =>[]
 |o::l=>if da o then none::eB l else eB l
theorem nl:∀l:List Oper,eB l=List.replicate (l.countP da) none
 | [] =>rfl
 |o::l=>by
  unfold eB
  rw[List.countP_cons,nl l]
  split<;>simp_all [List.replicate_succ]
def dm:Nat→List C→List (Nat×C)
 |_,[] =>[]
 |k,c::cs=>(k,c.noR)::dm (k+1) cs
theorem Dp:∀ (l:List C)(k t:Nat),A (dm k l) t=if k≤t then (match l[t - k]? with|some c=>c.noR|none=> .top) else .top
 | [],k,t=>by simp[dm,A]
 |c::l,k,t=>by
  simp only[dm,A,Dp l (k+1) t]
  by_cases h:t=k
  . subst h;simp
  . simp only[if_neg h]
    by_cases h2:k≤t
    . have h3:k+1≤t:=by omega
      simp only[h2,h3,if_true]
      have:t - k= (t - (k+1))+1:=by omega
      rw[this];simp
    . have h3:¬k+1≤t:=by omega
      simp only[h2,h3,if_false]
theorem CLe.init (args:List C)(t:Nat):CLe (init args t) (A (dm 0 args) t):=by
 rw[Dp]
 simp only[Nat.zero_le,if_true,Nat.sub_zero]
 unfold Sx.init
 cases args[t]? with
 |none=>exact CLe.top _
 |some c=>exact CLe.refl _
section
variable {cx:Cx} {n:Nat} {Q:Ex→St→Prop} {e:List (Nat×C)} {h:Hp}
theorem Io (hcx:CxOK cx){id:Nat}{l:List Oper}(H:gz cx (l.filterMap cu) (l.map (·.dst)) l h.length ⟨A e,h++eB l⟩ (Q .normal)):Tr cx n (.region id l.toArray false) ⟨A e,h⟩ Q:=by
 rw[nl] at H
 exact vl hcx H
theorem EU (hcx:CxOK cx)(hm:cx.P.follows .mixedOrders=true){id:Nat}{l:List Oper}(hs:eh l.toArray=true)
 (H:eU cx (l.filterMap cu) (l.map (·.dst)) l h.length ⟨A e,h++eB l⟩ [] (fun fs s=>fK l.toArray fs.reverse=true∧Q .normal s)):Tr cx n (.region id l.toArray true) ⟨A e,h⟩ Q:=by
 rw[nl] at H
 exact tU hcx hm hs H
theorem ax {id:Nat}{c:Code}{st:St}(H:Tr cx n c st (oc id Q)):Tr cx n (.block id c) st Q:=Tr.block H
end
def ip (cx:Cx)(st:St):List ResultVar→Option C
 | [r] =>eW cx st r
 |rs=>(rs.mapM (eW cx st)).map fun cs=> .tup (cs.map C.noR)
def Dq (cx:Cx)(rs:List ResultVar)(c:C):Ex→St→Prop
 | .exit _,_=>False
 |_,st=>ip cx st rs=some c
theorem cf {cx:Cx} {f:Nat} {fn:Func} {code:Code} {args:List C} {c:C} {rs:List ResultVar} (hN:cx.N=fn.ntmps) (hf:cx.P.funcs[f]? =some fn) (hn: (fn.name== "runtime.NumGoroutine") =false) (hb:fn.body=some code)
 (hrs:fn.results=rs.toArray) (hlen:args.length≤fn.ntmps) (hc:ag 0 c=true) (hT:Tr cx 0 code ⟨A (dm 0 args),[]⟩ (Dq cx rs c)):FC cx.P cx.gl f args [] c []:=by
 refine FC.of hN hf hn hb hlen ?_
 refine Tr.weaken (fun t=>CLe.init args t) (hT.mono fun x st q=>?_)
 have key:ip cx st rs=some c→results cx fn st=some c∧((st.h.take 0= []∧ag 0 c=true∧∀ (b:Nat) cells,b< 0→st.h[b]? =some (some cells)→noRefs 0 cells=true)∨st.h= []):=fun q=>by
  refine ⟨?_,.inl ⟨by simp,hc,fun b cells hb=>absurd hb (Nat.not_lt_zero b)⟩⟩
  rw[←q]
  unfold results
  rw[hrs]
  rcases rs with _| ⟨r,_| ⟨r2,rs⟩⟩ <;>rfl
 cases x with
 |exit k=>exact q
 |normal=>exact key q
 |ret=>exact key q
theorem cV (k:Nat)(c:C)(l:List (Nat×C))(t:Nat):A ((k,c)::l) t=if t=k then c else A l t:=rfl
theorem dM (env:Nat→C):aZ none env=env:=rfl
theorem ud (k:Nat)(l:List (Nat×C)):aZ (some k) (A l) =A ((k,(A l k).noR)::l):=by
 funext t
 simp only[aZ,A]
theorem eX (cx:Cx)(env:Nat→C)(t:Nat):cx.ev env (.tmp t) =env t:=rfl
theorem r8 (cx:Cx)(env:Nat→C)(v:Value):cx.ev env (.const v) = .val v:=rfl
open Classical in
noncomputable def bZ {α:Type}(enc:α→List C)(out:α→C)(args:List C):Option C:=
 if h:∃a,enc a=args then some (out h.choose) else none
theorem bn {α:Type}{enc:α→List C}{out:α→C}(hi:∀a b,enc a=enc b→out a=out b)(a:α):bZ enc out (enc a) =some (out a):=by
 have h:∃b,enc b=enc a:=⟨a,rfl⟩
 unfold bZ
 rw[dif_pos h]
 exact congrArg some (hi _ _ h.choose_spec)
theorem oo {α:Type}{enc:α→List C}{out:α→C}{args:List C}{c:C}(h:bZ enc out args=some c):∃a,enc a=args∧out a=c:=by
 unfold bZ at h
 split at h
 . rename_i h2;exact ⟨_,h2.choose_spec,Option.some.inj h⟩
 . cases h
def ext (pu:Nat→List C→Option C)(f:Nat)(sp:List C→Option C):Nat→List C→Option C:=fun g args=>if g=f then sp args else pu g args
theorem bN {pu:Nat→List C→Option C}{f:Nat}{sp:List C→Option C}(args:List C):ext pu f sp f args=sp args:=if_pos rfl
theorem ay {pu:Nat→List C→Option C}{f g:Nat}{sp:List C→Option C}(h:g≠f)(args:List C):ext pu f sp g args=pu g args:=if_neg h
theorem CxOK.ext {P:Program}{km:TypeId→Value→Bool}{gl:Nat→C}{pu:Nat→List C→Option C}{hp:Nat→List C→Hp→Option (C×Hp)}{N M:Nat}(hcx:CxOK ⟨P,N,gl,pu,hp,fun _=>false,km,true⟩)(hg:∀g,ag 0 (gl g) =true)
 {α:Type} {enc:α→List C} {out:α→C} {f:Nat} (he:∀a,noRefs 0 (enc a) =true) (h:∀a,FC P gl f (enc a) [] (out a) []):CxOK ⟨P,M,gl,Sx.ext pu f (bZ enc out),hp,fun _=>false,km,true⟩:=by
 refine ⟨hg,fun g args c hc k=>?_,fun g args k c k' hc=>hcx.hp g args k c k' hc,hcx.km⟩
 by_cases hgf:g=f
 . subst hgf
   have hc':bZ enc out args=some c:=by rw[←hc];exact (bN args).symm
   obtain ⟨a,rfl,rfl⟩:=oo hc'
   exact (h a).frame (he a) hg k
 . have hc':pu g args=some c:=by rw[←hc];exact (ay hgf args).symm
   exact hcx.pu g args c hc' k
theorem CxOK.rnd {cx:Cx}(hcx:CxOK cx):CxOK { cx with top:=false }:=⟨hcx.glo,hcx.pu,hcx.hp,hcx.km⟩
theorem vn {P:Program}{km:TypeId→Value→Bool}{gl:Nat→C}{N:Nat}(hg:∀g,ag 0 (gl g) =true)(hk:∀k u,km k u=true→Go.Maps.Keyed P k∧∃l,keyOf P k u=some l):CxOK ⟨P,N,gl,fun _ _=>none,fun _ _ _=>none,fun _=>false,km,true⟩:=
 ⟨hg,fun _ _ _ h _=>(Option.some_ne_none _ h.symm).elim,fun _ _ _ _ _ h=>(Option.some_ne_none _ h.symm).elim,hk⟩
theorem CxOK.zero {P:Program}{gl:Nat→C}{N:Nat}(hg:∀g,ag 0 (gl g) =true):CxOK ⟨P,N,gl,fun _ _=>none,fun _ _ _=>none,fun _=>false,fun _ _=>false,true⟩:=
 vn hg fun _ _ h=>by cases h
theorem CxOK.reN {P:Program}{km:TypeId→Value→Bool}{gl:Nat→C}{pu:Nat→List C→Option C}{hp:Nat→List C→Hp→Option (C×Hp)}{N M:Nat}(hcx:CxOK ⟨P,N,gl,pu,hp,fun _=>false,km,true⟩):CxOK ⟨P,M,gl,pu,hp,fun _=>false,km,true⟩:=⟨hcx.glo,hcx.pu,hcx.hp,hcx.km⟩
end Go.Sx
namespace Go.Sx
open Go.RowKit
def d5 (N:Nat):Option Nat→Prop
 |some d=>d< N
 |none=>True
theorem AG (N d:Nat):d5 N (some d) = (d< N):=rfl
theorem AH (N:Nat):d5 N none=True:=rfl
theorem ue (N:Nat)(d:Option Nat):gY N d=true↔d5 N d:=by
 cases d<;>simp[gY,d5]
def dU:Option Nat→C→List (Nat×C)→List (Nat×C)
 |some d,c,e=>(d,c)::e
 |none,_,e=>e
theorem fu (d:Option Nat)(c:C)(e:List (Nat×C)):put d c (A e) =A (dU d c e):=by
 cases d<;>rfl
def kP (apps:List Nat):Option Nat→Bool
 |some t=>apps.contains t
 |none=>false
theorem EV (d:Option Nat):kP [] d=false:=by cases d<;>rfl
theorem AI (a:Nat)(l:List Nat)(t:Nat):kP (a::l) (some t) = (t==a||kP l (some t)):=by
 by_cases hh:t=a<;>simp[kP,hh]
def vp (c:C):Plan:= .val c none
def on (cx:Cx)(e:List (Nat×C))(x:Operand):C:=(cx.ev (A e) x).noR
def qu (cx:Cx)(e:List (Nat×C))(x:Operand):C:=cx.ev (A e) x
def qv (cx:Cx)(e:List (Nat×C)):List Operand→List C
 | [] =>[]
 |x::l=>on cx e x::qv cx e l
def qw (cx:Cx)(e:List (Nat×C)):List (Nat×Operand)→List (Nat×C)
 | [] =>[]
 | (i,x)::l=>(i,on cx e x)::qw cx e l
theorem xw (cx:Cx)(e:List (Nat×C))(l:List Operand):l.map (cx.evn (A e)) =qv cx e l:=by
 induction l with
 |nil=>rfl
 |cons x l ih=>simp only[List.map_cons,ih,qv];rfl
theorem xx (cx:Cx)(e:List (Nat×C))(l:List (Nat×Operand)): (l.map fun x=>(x.1,cx.evn (A e) x.2)) =qw cx e l:=by
 induction l with
 |nil=>rfl
 |cons x l ih=>obtain ⟨i,x⟩:=x;simp only[List.map_cons,ih,qw];rfl
theorem Ip (cx:Cx)(e:List (Nat×C))(t:Nat):on cx e (.tmp t) = (A e t).noR:=rfl
theorem AJ (cx:Cx)(e:List (Nat×C))(v:Value):on cx e (.const v) = .val v:=rfl
theorem xy (cx:Cx)(e:List (Nat×C))(g:Nat):on cx e (.global g) = (cx.gl g).noR:=by
 unfold on;simp only[Cx.ev];cases hh:cx.gl g<;>first|rfl|skip
 rename_i r n xs
 cases r<;>rfl
theorem EW (cx:Cx)(e:List (Nat×C))(f:Nat):on cx e (.func f) = .fn f []:=rfl
theorem EX (cx:Cx)(e:List (Nat×C))(t:Nat):qu cx e (.tmp t) =A e t:=rfl
theorem xz (cx:Cx)(e:List (Nat×C))(v:Value):qu cx e (.const v) = .val v:=rfl
theorem AK (t:Nat):dL (.tmp t) =some t:=rfl
theorem vo (v:Value):dL (.const v) =none:=rfl
theorem EY (v:Value): (C.val v).noR= .val v:=rfl
theorem AL (n:Nat)(xs:List C): (C.sl .full n xs).noR= .sl .full n xs:=rfl
theorem Iq (n:Nat)(xs:List C): (C.sl .no n xs).noR= .sl .no n xs:=rfl
theorem Ir (b o n:Nat): (C.sv b o n).noR= .sv b o n:=rfl
theorem Is (b o:Nat): (C.bp b o).noR= .bp b o:=rfl
theorem It (xs:List C): (C.kp xs).noR= .kp xs:=rfl
theorem EZ (xs:List C): (C.agg xs).noR= .agg xs:=rfl
theorem E0 (xs:List C): (C.tup xs).noR= .tup xs:=rfl
theorem Iu (f:Nat)(xs:List C): (C.fn f xs).noR= .fn f xs:=rfl
theorem E3:C.top.noR= .top:=rfl
theorem xA (k:IntKind)(n:Int): (C.val (.int k n)).share= .val (.int k n):=rfl
theorem AM (b o:Nat): (C.bp b o).share= .bp b o:=rfl
theorem xB (xs:List C): (C.agg xs).share= .agg xs:=rfl
def hU:List C→List C
 | [] =>[]
 |c::l=>c.share::hU l
theorem qx (l:List C):l.map C.share=hU l:=by
 induction l with
 |nil=>rfl
 |cons x l ih=>simp only[List.map_cons,ih,hU]
def GB (b:Bool)(P Q:Prop):Prop:=(b=true→P)∧(b=false→Q)
theorem uf (P Q:Prop):GB true P Q=P:=by simp[GB]
theorem r9 (P Q:Prop):GB false P Q=Q:=by simp[GB]
theorem GB.mk {b:Bool}{P Q:Prop}(h:b=true→P)(k:b=false→Q):GB b P Q:=⟨h,k⟩
theorem GB.pos {b:Bool}{P Q:Prop}(hb:b=true)(h:P):GB b P Q:=⟨fun _=>h,fun e=>(Bool.noConfusion (hb.symm.trans e))⟩
theorem GB.neg {b:Bool}{P Q:Prop}(hb:b=false)(h:Q):GB b P Q:=⟨fun e=>(Bool.noConfusion (hb.symm.trans e)),fun _=>h⟩
@[congr] theorem PP {b b':Bool} {P Q:Prop} (h:b=b'):GB b P Q=GB b' P Q:=by rw[h]
theorem GB.dec {p:Prop}[Decidable p]{P Q:Prop}(h:p→P)(k:¬p→Q):GB (decide p) P Q:=⟨fun e=>h (by simpa using e),fun e=>k (by simpa using e)⟩
def AN (p q:Prop):Prop:=p∧q
@[congr] theorem PQ {p p' q:Prop} (h:p=p'):AN p q=AN p' q:=by rw[h]
theorem E4 (q:Prop):AN True q=q:=by simp[AN]
def run (cx:Cx)(apps:List Nat)(dsts:List (Option Nat))(l:List Oper)(id:Nat)(e:List (Nat×C))(h:Hp)(fs:List FP)(K:List FP→St→Prop):Prop:=
 eU cx apps dsts l id ⟨A e,h⟩ fs K
section
variable (cx:Cx) (apps:List Nat) (dsts:List (Option Nat)) (l:List Oper) (id id':Nat) (d:Option Nat) (e:List (Nat×C)) (h:Hp) (fs:List FP) (K:List FP→St→Prop)
def cW (p:Option Plan):Prop:=gA cx id d ⟨A e,h⟩ (fun f s=>eU cx apps dsts l id' s (f::fs) K) p
def xC (b:Nat)(o:Option C):Prop:=match o with
 |none=>False
 |some c=>run cx apps dsts l id' (dU d c e) h ((1,b)::fs) K
def ug (k:Option Nat)(b:Nat)(o:Option (List C×C)):Prop:=match o with
 |none=>False
 |some r=>eU cx apps dsts l id' ⟨put d r.2 (aZ k (A e)),h.set b (some r.1)⟩ ((2,b)::fs) K
def xD (b off:Nat)(o:Option (List C)):Prop:=match o with
 |none=>False
 |some cells=>match cells[off]? with
  |none=>False
  |some x=>run cx apps dsts l id' (dU d x e) (h.set b (some (cells.set off x.noR))) ((3,b)::fs) K
def qy (o:Option (C×Hp)):Prop:=match o with
 |none=>False
 |some r=>run cx apps dsts l id' (dU d r.1 e) r.2 ((4,0)::fs) K
def xE (cells:List C)(g:Nat→C)(o:Option (Option (List C))):Prop:=match o with
 |some none=>run cx apps dsts l id' (dU d (g id) e) (h.set id (some cells)) ((2,id)::fs) K
 |_=>False
theorem xF (c:C):cW cx apps dsts l id id' d e h fs K (some (vp c)) =run cx apps dsts l id' (dU d c e) h ((0,0)::fs) K:=by
 show eU _ _ _ _ _ ⟨put d c (aZ none (A e)),h⟩ _ _=_
 rw[dM,fu];rfl
theorem AO (c:C):cW cx apps dsts l id id' d e h fs K (some (.val c none)) =run cx apps dsts l id' (dU d c e) h ((0,0)::fs) K:=xF ..
theorem AP (c:C)(k:Nat):cW cx apps dsts l id id' d e h fs K (some (.val c (some k))) =run cx apps dsts l id' (dU d c ((k,(A e k).noR)::e)) h ((0,0)::fs) K:=by
 show eU _ _ _ _ _ ⟨put d c (aZ (some k) (A e)),h⟩ _ _=_
 rw[ud,fu];rfl
theorem Iv (b:Nat)(f:List C→Option C):cW cx apps dsts l id id' d e h fs K (some (.rd b f)) =xC cx apps dsts l id' d e h fs K b ((h.at b).bind f):=by
 unfold cW xC gA
 simp only[aB]
 cases (h.at b).bind f with
 |none=>rfl
 |some c=>
  simp only[Option.map_some,dM,fu];rfl
theorem Iw (b:Nat)(f:List C→Option (List C×C))(k:Option Nat):cW cx apps dsts l id id' d e h fs K (some (.wr b f k)) =ug cx apps dsts l id' d e h fs K k b ((h.at b).bind f):=by
 unfold cW ug gA
 simp only[aB]
 cases (h.at b).bind f with
 |none=>rfl
 |some c=>simp only[Option.map_some];rfl
theorem Ix (b off:Nat):cW cx apps dsts l id id' d e h fs K (some (.xr b off)) =xD cx apps dsts l id' d e h fs K b off (h.at b):=by
 unfold cW xD gA
 simp only[aB]
 cases h.at b with
 |none=>rfl
 |some cells=>
  simp only[Option.bind_some]
  cases cells[off]? with
  |none=>rfl
  |some x=>simp only[Option.map_some,dM,fu];rfl
theorem E5 (cells:List C)(g:Nat→C):cW cx apps dsts l id id' d e h fs K (some (.new cells g)) =xE cx apps dsts l id id' d e h fs K cells g (h[id]?):=by
 unfold cW xE gA
 simp only[aB]
 cases h[id]? with
 |none=>rfl
 |some o=>cases o with
  |none=>simp only[dM,fu];rfl
  |some o=>rfl
theorem AQ (f:Nat)(az:List C):cW cx apps dsts l id id' d e h fs K (some (.call f az)) =qy cx apps dsts l id' d e fs K (cx.hp f az h):=by
 unfold cW qy gA
 simp only[aB]
 cases cx.hp f az h with
 |none=>rfl
 |some c=>simp only[Option.map_some,dM,fu];rfl
def PR (o:Option (List C))(h:Hp):FP:=if o.isSome=true then (5,h.length) else (4,0)
def uh (z:FP)(b:Option (Nat×Nat))(s:Nat×Nat)(m:Nat)(o:Option (List C)):Prop:=match o with
 |none=>False
 |some cs=>match b with
  |none=>run cx apps dsts l id' (dU d (.gv h.length m s) e) (h++[some (cs.map C.noR)]) (z::fs) K
  |some (b,n) =>match h.at b with
   |none=>False
   |some cells=>
    if (n+m)*s.1≤cells.length∧(n≠0∨m=0) then run cx apps dsts l id' (dU d (.gv b (n+m) s) e) (h.set b (some (splice cells (n*s.1) (cs.map C.noR)))) ((4,0)::fs) K
    else if n*s.1=cells.length then run cx apps dsts l id' (dU d (.gv h.length (n+m) s) e) (h.set b (some cO)++[some ((cells++cs).map C.noR)]) ((4,0)::fs) K
    else if n=0 then run cx apps dsts l id' (dU d (.gv h.length (n+m) s) e) (h.set b (some cO)++[some (cs.map C.noR)]) ((4,0)::fs) K else False
theorem Iy (b:Option (Nat×Nat))(s:Nat×Nat)(m:Nat)(ys:Hp→Option (List C)):cW cx apps dsts l id id' d e h fs K (some (.ap b s m ys)) =uh cx apps dsts l id' d e h fs K (PR (ys []) h) b s m (ys h):=by
 unfold cW uh gA
 simp only[aB]
 cases ys h with
 |none=>rfl
 |some cs=>
  simp only[Option.bind_some]
  cases b with
  |none=>simp only[dM,fu];rfl
  |some q=>
   obtain ⟨b,n⟩:=q
   simp only[]
   cases h.at b with
   |none=>rfl
   |some cells=>
    simp only[Option.bind_some]
    by_cases h1: (n+m)*s.1≤cells.length∧(n≠0∨m=0)
    . rw[if_pos h1,if_pos h1];simp only[dM,fu];rfl
    . rw[if_neg h1,if_neg h1]
      by_cases h2:n*s.1=cells.length
      . rw[if_pos h2,if_pos h2];simp only[dM,fu];rfl
      . rw[if_neg h2,if_neg h2]
        by_cases h3:n=0
        . rw[if_pos h3,if_pos h3];simp only[dM,fu];rfl
        . rw[if_neg h3,if_neg h3]
theorem AS (b:Nat)(c:C):xC cx apps dsts l id' d e h fs K b (some c) =run cx apps dsts l id' (dU d c e) h ((1,b)::fs) K:=rfl
theorem xG (b:Nat)(cells:List C)(c:C):ug cx apps dsts l id' d e h fs K none b (some (cells,c)) =run cx apps dsts l id' (dU d c e) (h.set b (some cells)) ((2,b)::fs) K:=by
 show eU _ _ _ _ _ ⟨put d c (aZ none (A e)),_⟩ _ _=_
 rw[dM,fu];rfl
theorem xH (k b:Nat)(cells:List C)(c:C):ug cx apps dsts l id' d e h fs K (some k) b (some (cells,c)) =run cx apps dsts l id' (dU d c ((k,(A e k).noR)::e)) (h.set b (some cells)) ((2,b)::fs) K:=by
 show eU _ _ _ _ _ ⟨put d c (aZ (some k) (A e)),_⟩ _ _=_
 rw[ud,fu];rfl
theorem AT (c:C)(h':Hp):qy cx apps dsts l id' d e fs K (some (c,h')) =run cx apps dsts l id' (dU d c e) h' ((4,0)::fs) K:=rfl
theorem AU (cells:List C)(g:Nat→C):xE cx apps dsts l id id' d e h fs K cells g (some none) =run cx apps dsts l id' (dU d (g id) e) (h.set id (some cells)) ((2,id)::fs) K:=rfl
theorem E6:run cx apps dsts [] id e h fs K=K fs ⟨A e,h⟩:=rfl
end
@[congr] theorem OS {cx:Cx} {apps:List Nat} {dsts:List (Option Nat)} {l:List Oper} {id id':Nat} {d:Option Nat} {e:List (Nat×C)} {h:Hp} {fs:List FP} {K:List FP→St→Prop} {p p':Option Plan} (hp:p=p'):
   cW cx apps dsts l id id' d e h fs K p=cW cx apps dsts l id id' d e h fs K p':=by rw[hp]
@[congr] theorem OT {cx:Cx} {apps:List Nat} {dsts:List (Option Nat)} {l:List Oper} {id':Nat} {d:Option Nat} {e:List (Nat×C)} {h:Hp} {fs:List FP} {K:List FP→St→Prop} {b:Nat} {p p':Option C} (hp:p=p'):
   xC cx apps dsts l id' d e h fs K b p=xC cx apps dsts l id' d e h fs K b p':=by rw[hp]
@[congr] theorem OU {cx:Cx} {apps:List Nat} {dsts:List (Option Nat)} {l:List Oper} {id':Nat} {d:Option Nat} {e:List (Nat×C)} {h:Hp} {fs:List FP} {K:List FP→St→Prop} {k:Option Nat} {b:Nat} {p p':Option (List C×C)} (hp:p=p'):
   ug cx apps dsts l id' d e h fs K k b p=ug cx apps dsts l id' d e h fs K k b p':=by rw[hp]
@[congr] theorem OV {cx:Cx} {apps:List Nat} {dsts:List (Option Nat)} {l:List Oper} {id':Nat} {d:Option Nat} {e:List (Nat×C)} {h:Hp} {fs:List FP} {K:List FP→St→Prop} {b off:Nat} {p p':Option (List C)} (hp:p=p'):
   xD cx apps dsts l id' d e h fs K b off p=xD cx apps dsts l id' d e h fs K b off p':=by rw[hp]
@[congr] theorem OW {cx:Cx} {apps:List Nat} {dsts:List (Option Nat)} {l:List Oper} {id':Nat} {d:Option Nat} {e:List (Nat×C)} {fs:List FP} {K:List FP→St→Prop} {p p':Option (C×Hp)} (hp:p=p'):
   qy cx apps dsts l id' d e fs K p=qy cx apps dsts l id' d e fs K p':=by rw[hp]
@[congr] theorem OX {cx:Cx} {apps:List Nat} {dsts:List (Option Nat)} {l:List Oper} {id id':Nat} {d:Option Nat} {e:List (Nat×C)} {h:Hp} {fs:List FP} {K:List FP→St→Prop} {cells:List C} {g:Nat→C} {p p':Option (Option (List C))} (hp:p=p'):
   xE cx apps dsts l id id' d e h fs K cells g p=xE cx apps dsts l id id' d e h fs K cells g p':=by rw[hp]
@[congr] theorem OY {cx:Cx} {apps:List Nat} {dsts:List (Option Nat)} {l:List Oper} {id id':Nat} {e:List (Nat×C)} {h h':Hp} {fs:List FP} {K:List FP→St→Prop} (hi:id=id') (hh:h=h'):
   run cx apps dsts l id e h fs K=run cx apps dsts l id' e h' fs K:=by rw[hh,hi]
theorem E7 (cx:Cx)(apps:List Nat)(dsts:List (Option Nat))(l:List Oper)(id d:Nat)(c:C)(e:List (Nat×C))(h:Hp)(fs:List FP)(K:List FP→St→Prop):
 run cx apps dsts l id (dU (some d) c e) h fs K=run cx apps dsts l id ((d,c)::e) h fs K:=rfl
theorem E8 (cx:Cx)(apps:List Nat)(dsts:List (Option Nat))(l:List Oper)(id:Nat)(c:C)(e:List (Nat×C))(h:Hp)(fs:List FP)(K:List FP→St→Prop):
 run cx apps dsts l id (dU none c e) h fs K=run cx apps dsts l id e h fs K:=rfl
end Go.Sx
namespace Go.Sx
open Go.RowKit
theorem f7 {cx:Cx}{apps:List Nat}{dsts:List (Option Nat)}{K:St→Prop}:∀ (l:List Oper)(id:Nat)(st:St)(fs:List FP),eU cx apps dsts l id st fs (fun _ s=>K s)→gz cx apps dsts l id st K
 | [],_,_,_,h=>h
 |o::l,id,st,fs,h=>by
  simp only[eU,gz] at h ⊢
  refine ⟨h.1,?_⟩
  have h2:=h.2
  cases hw:fl dsts o.guard st.env with
  |none=>rw[hw] at h2;exact h2
  |some b=>
   rw[hw] at h2
   cases b with
   |false=>exact f7 l _ _ _ h2
   |true=>
    simp only[vk,gA] at h2 ⊢
    generalize splanA cx apps o st.env=q at h2 ⊢
    cases q with
    |none=>exact h2
    |some p=>
     simp only[] at h2 ⊢
     generalize aB cx id p st.h=r at h2 ⊢
     cases r with
     |none=>exact h2
     |some r=>exact f7 l _ _ _ h2
section
variable {cx:Cx} {n:Nat} {Q:Ex→St→Prop} {e:List (Nat×C)} {h:Hp}
theorem Tr.rg (hcx:CxOK cx){id:Nat}{l:List Oper}(apps:List Nat)(dsts:List (Option Nat))(z:Hp)(h1:l.filterMap cu=apps)(h2:l.map (·.dst) =dsts)(h3:eB l=z)
 (H:run cx apps dsts l h.length e (h++z) [] (fun _ s=>Q .normal s)):Tr cx n (.region id l.toArray false) ⟨A e,h⟩ Q:=by
 subst h1 h2 h3
 exact Io hcx (f7 _ _ _ _ H)
theorem xI (hcx:CxOK cx)(hm:cx.P.follows .mixedOrders=true){id:Nat}{l:List Oper}(apps:List Nat)(dsts:List (Option Nat))(z:Hp)(h1:l.filterMap cu=apps)(h2:l.map (·.dst) =dsts)(h3:eB l=z)
 (hs:eh l.toArray=true)
 (H:run cx apps dsts l h.length e (h++z) [] (fun fs s=>fK l.toArray fs.reverse=true∧Q .normal s)):Tr cx n (.region id l.toArray true) ⟨A e,h⟩ Q:=by
 subst h1 h2 h3
 exact EU hcx hm hs H
end
section
variable (cx:Cx) (apps:List Nat) (dsts:List (Option Nat)) (l:List Oper) (id id':Nat) (d:Option Nat) (e:List (Nat×C)) (h:Hp) (fs:List FP) (K:List FP→St→Prop) (ty:TypeId) (pos:String) (aft:Array Edge)
theorem bW (op:Op)(p:Option Plan)(hp:splanA cx apps ⟨d,op,ty,pos,aft,none⟩ (A e) =p)(hm: (if da ⟨d,op,ty,pos,aft,none⟩ then id+1 else id) =id'):
 run cx apps dsts (⟨d,op,ty,pos,aft,none⟩::l) id e h fs K=AN (d5 cx.N d) (cW cx apps dsts l id id' d e h fs K p):=by
 unfold run AN
 rw[eU]
 simp only[fl]
 rw[hp,hm,ue]
 rfl
def xJ (op:Op)(o:Option Bool):Prop:=match o with
 |none=>False
 |some b=>(b=true→run cx apps dsts (⟨d,op,ty,pos,aft,none⟩::l) id e h fs K)∧
  (b=false→AN (d5 cx.N d) (run cx apps dsts l (if da ⟨d,op,ty,pos,aft,none⟩ then id+1 else id) (dU d (.val undef) e) h ((0,0)::fs) K))
theorem xK (op:Op)(g:Nat×Bool):run cx apps dsts (⟨d,op,ty,pos,aft,some g⟩::l) id e h fs K=xJ cx apps dsts l id d e h fs K ty pos aft op (fl dsts (some g) (A e)):=by
 unfold run xJ
 rw[eU]
 simp only[]
 have hsp:splanA cx apps ⟨d,op,ty,pos,aft,some g⟩ (A e) =splanA cx apps ⟨d,op,ty,pos,aft,none⟩ (A e):=by
  rw[splanA.eq_def,splanA.eq_def]
  cases op with
  |move x=>cases x<;>rfl
  |_=>rfl
 have hmk:da ⟨d,op,ty,pos,aft,some g⟩ =da ⟨d,op,ty,pos,aft,none⟩:=rfl
 cases hw:fl dsts (some g) (A e) with
 |none=>simp
 |some b=>
  cases b with
  |true=>
   simp only[Bool.true_eq_false,false_implies,and_true,true_implies]
   rw[run,eU,hsp,hmk]
   simp only[fl]
  |false=>
   simp only[Bool.false_eq_true,false_implies,true_and,true_implies]
   rw[AN,ue,fu]
   rfl
def iW (op:Op)(id:Nat):Nat:=match op with
 | .alloc _| .box _ _| .makeSlice _ _ _=>id+1
 |_=>id
theorem E9 (op:Op): (if da ⟨d,op,ty,pos,aft,none⟩ then id+1 else id) =iW op id:=by cases op<;>rfl
theorem AV (op:Op)(b:Bool):xJ cx apps dsts l id d e h fs K ty pos aft op (some b) =GB b (run cx apps dsts (⟨d,op,ty,pos,aft,none⟩::l) id e h fs K)
 (AN (d5 cx.N d) (run cx apps dsts l (iW op id) (dU d (.val undef) e) h ((0,0)::fs) K)):=by
 rw[←E9 (d:=d) (ty:=ty) (pos:=pos) (aft:=aft)];rfl
theorem xL (x:Operand)(id:Nat):iW (.move x) id=id:=rfl
theorem xM (c a b:Operand)(id:Nat):iW (.pick c a b) id=id:=rfl
theorem xN (t:TypeId)(a:Operand)(id:Nat):iW (.load t a) id=id:=rfl
theorem vr (o:BinOp)(t:TypeId)(x y:Operand)(s:TypeId)(id:Nat):iW (.binOp o t x y s) id=id:=rfl
theorem xO (o:UnOp)(t:TypeId)(x:Operand)(id:Nat):iW (.unOp o t x) id=id:=rfl
theorem pn (t:TypeId)(x:Operand)(f:Nat)(id:Nat):iW (.fieldAddr t x f) id=id:=rfl
theorem pq (t:TypeId)(x i:Operand)(id:Nat):iW (.indexAddr t x i) id=id:=rfl
theorem vt (t:TypeId)(x i:Operand)(id:Nat):iW (.index t x i) id=id:=rfl
theorem xP (c:Call)(id:Nat):iW (.call c) id=id:=rfl
def iX (cx:Cx)(d:Option Nat):Bool:=d.any cx.gr
def qz (b:Bool)(p q:Option Plan):Option Plan:=if b=true then p else q
@[congr] theorem OZ {b b':Bool} {p q:Option Plan} (h:b=b'):qz b p q=qz b' p q:=by rw[h]
def jL (P:Program)(t:TypeId)(c:C)(lo hi mx:Option C):Option Plan:=match c,lo,mx with
 | .gv b n s,none,none=>iU P t b n s hi
 |c,_,_=>dZ P t c.asSv lo hi mx
def q8 (c a b:C):Option Plan:=match c with
 | .val (.bool true) =>some (vp a)
 | .val (.bool false) =>some (vp b)
 |_=>none
def sa (g:Bool)(t:TypeId)(T:Option TD):Option Plan:=match T with
 |some d=>if d.zero.all (·.oneCell') then some (.new (d.zero.map .val) fun id=>if g=true then .bt id t d.zero.length else .bp id 0) else none
 |none=>none
def xQ (t:Option TD):Option Plan:=match t with
 |some d=>if d.zero.all (·.oneCell') then some (.new (d.zero.map .val) fun id=> .bp id 0) else none
 |none=>none
def vu (x:C):Option Plan:=x.cells?.map fun cs=> .new cs fun id=> .bp id 0
def iY (P:Program)(t:Option TD)(parts:List (Nat×C)):Option Plan:=match t with
 |some d=>if d.zero.all (·.oneCell') =false then none else ((g9 P d.u).bind fun pl=>eV pl (d.zero.map .val) parts).map fun cs=>vp (.agg cs)
 |none=>none
def gZ (P:Program)(g:Bool)(t:Option TD)(n:Nat)(parts:List (Nat×C)):Option Plan:=match t with
 |some d=>(match d.u with
  | .slice e=>(match td P e with
    |some de=>if n*de.size≤65536∧n≤65536∧de.zero.length=de.size∧de.zero.all (·.oneCell') =true then
     (eV (fun i=>some (i*de.size,de.size)) (bI de.zero n) parts).map fun cs=>if g=true then .ap none (de.size,e) n fun _=>some cs else vp (.sl .full n cs) else none
    |none=>none)
  |_=>none)
 |none=>none
def nn (x:C)(i:Nat):Option Plan:=match x with
 | .tup xs=>(xs[i]?).map fun c=>vp c.noR
 |_=>none
def q9 (cx:Cx)(g:Nat)(az:List C)(o:Option C):Option Plan:=match o with
 |some c=>some (vp c)
 |none=>match fY az with
  |some b=>if (cx.hp g az []).isSome then some (.call g az) else some (.rd b (rdPu cx g az b))
  |none=>if cx.gr (1000000+g) =true then some (.rd 0 (rdE cx g az 0)) else some (.call g az)
def rc (cx:Cx)(f:C)(args:List C):Option Plan:=match f with
 | .fn g caps=>q9 cx g (hU args++caps) (cx.pu g (hU args++caps))
 |_=>none
def Dr (b:Bool)(c:C)(p:Nat):Option Plan:=match b with
 |true=>some (.val c (some p))
 |false=>some (vp c.noR)
theorem Fa (p:Nat):run cx apps dsts (⟨d,.move (.tmp p),ty,pos,aft,none⟩::l) id e h fs K=AN (d5 cx.N d) (cW cx apps dsts l id id d e h fs K (Dr (kP apps d||kP apps (d.map (· +1000000))) (A e p) p)):=
 bW cx apps dsts l id id d e h fs K ty pos aft (.move (.tmp p)) (Dr (kP apps d||kP apps (d.map (· +1000000))) (A e p) p) (by
  rw[splanA.eq_def];simp only[]
  cases d with
  |none=>rfl
  |some t=>
   simp only[kP,Dr,vp,Plan.pure,Option.map_some,List.contains_eq_mem]
   by_cases hb:t∈apps<;>by_cases hc:t+1000000∈apps<;>simp[hb,hc]) rfl
theorem Fb (v:Value):run cx apps dsts (⟨d,.move (.const v),ty,pos,aft,none⟩::l) id e h fs K=AN (d5 cx.N d) (cW cx apps dsts l id id d e h fs K (some (vp (.val v)))):=
 bW cx apps dsts l id id d e h fs K ty pos aft (.move (.const v)) (some (vp (.val v))) (by first|rfl| (cases d<;>rfl)) rfl
theorem Fc (x:Operand):run cx apps dsts (⟨d,.assign x,ty,pos,aft,none⟩::l) id e h fs K=AN (d5 cx.N d) (cW cx apps dsts l id id d e h fs K (some (.val (qu cx e x) (dL x)))):=
 bW cx apps dsts l id id d e h fs K ty pos aft (.assign x) (some (.val (qu cx e x) (dL x))) (by first|rfl| (cases d<;>rfl)) rfl
theorem AW (c a b:Operand):run cx apps dsts (⟨d,.pick c a b,ty,pos,aft,none⟩::l) id e h fs K=AN (d5 cx.N d) (cW cx apps dsts l id id d e h fs K (q8 (on cx e c) (on cx e a) (on cx e b))):=
 bW cx apps dsts l id id d e h fs K ty pos aft (.pick c a b) (q8 (on cx e c) (on cx e a) (on cx e b)) (by first|rfl| (cases d<;>rfl)) rfl
theorem xR (t:TypeId):run cx apps dsts (⟨d,.alloc t,ty,pos,aft,none⟩::l) id e h fs K=AN (d5 cx.N d) (cW cx apps dsts l id (id+1) d e h fs K (sa (iX cx d) t (td cx.P t))):=
 bW cx apps dsts l id (id+1) d e h fs K ty pos aft (.alloc t) (sa (iX cx d) t (td cx.P t)) (by first|rfl| (cases d<;>rfl)) rfl
theorem Fd (t:TypeId)(x:Operand):run cx apps dsts (⟨d,.box t x,ty,pos,aft,none⟩::l) id e h fs K=AN (d5 cx.N d) (cW cx apps dsts l id (id+1) d e h fs K (vu (on cx e x))):=
 bW cx apps dsts l id (id+1) d e h fs K ty pos aft (.box t x) (vu (on cx e x)) (by first|rfl| (cases d<;>rfl)) rfl
theorem run_build (t:TypeId)(ps:List (Nat×Operand)):run cx apps dsts (⟨d,.build t ps.toArray,ty,pos,aft,none⟩::l) id e h fs K=AN (d5 cx.N d) (cW cx apps dsts l id id d e h fs K (iY cx.P (td cx.P t) (qw cx e ps))):=
 bW cx apps dsts l id id d e h fs K ty pos aft (.build t ps.toArray) (iY cx.P (td cx.P t) (qw cx e ps)) (by rw[←xx];rfl) rfl
theorem vw (t:TypeId)(m:Nat)(ps:List (Nat×Operand)):run cx apps dsts (⟨d,.buildSlice t m ps.toArray,ty,pos,aft,none⟩::l) id e h fs K=AN (d5 cx.N d) (cW cx apps dsts l id id d e h fs K (gZ cx.P (iX cx d) (td cx.P t) m (qw cx e ps))):=
 bW cx apps dsts l id id d e h fs K ty pos aft (.buildSlice t m ps.toArray) (gZ cx.P (iX cx d) (td cx.P t) m (qw cx e ps)) (by rw[←xx];rfl) rfl
theorem AX (t:TypeId)(x:Operand):run cx apps dsts (⟨d,.load t x,ty,pos,aft,none⟩::l) id e h fs K=AN (d5 cx.N d) (cW cx apps dsts l id id d e h fs K (loadPlan cx.P (kP apps d) t (on cx e x))):=
 bW cx apps dsts l id id d e h fs K ty pos aft (.load t x) (loadPlan cx.P (kP apps d) t (on cx e x)) (by first|rfl| (cases d<;>rfl)) rfl
theorem run_store (t:TypeId)(x y:Operand):run cx apps dsts (⟨d,.store t x y,ty,pos,aft,none⟩::l) id e h fs K=AN (d5 cx.N d) (cW cx apps dsts l id id d e h fs K (ce cx.P t (on cx e x) (qu cx e y) (dL y))):=
 bW cx apps dsts l id id d e h fs K ty pos aft (.store t x y) (ce cx.P t (on cx e x) (qu cx e y) (dL y)) (by first|rfl| (cases d<;>rfl)) rfl
theorem Fe (o:BinOp)(t t2:TypeId)(x y:Operand):run cx apps dsts (⟨d,.binOp o t x y t2,ty,pos,aft,none⟩::l) id e h fs K=AN (d5 cx.N d) (cW cx apps dsts l id id d e h fs K (aO cx.P o t (on cx e x) (on cx e y))):=
 bW cx apps dsts l id id d e h fs K ty pos aft (.binOp o t x y t2) (aO cx.P o t (on cx e x) (on cx e y)) (by first|rfl| (cases d<;>rfl)) rfl
theorem Iz (o:UnOp)(t:TypeId)(x:Operand):run cx apps dsts (⟨d,.unOp o t x,ty,pos,aft,none⟩::l) id e h fs K=AN (d5 cx.N d) (cW cx apps dsts l id id d e h fs K (gB o (on cx e x))):=
 bW cx apps dsts l id id d e h fs K ty pos aft (.unOp o t x) (gB o (on cx e x)) (by first|rfl| (cases d<;>rfl)) rfl
theorem AY (s t:TypeId)(x:Operand):run cx apps dsts (⟨d,.convert s t x,ty,pos,aft,none⟩::l) id e h fs K=AN (d5 cx.N d) (cW cx apps dsts l id id d e h fs K (qz (iX cx d) (iB cx.P s t (on cx e x)) (eM cx.P s t (on cx e x).asSv))):=
 bW cx apps dsts l id id d e h fs K ty pos aft (.convert s t x) (qz (iX cx d) (iB cx.P s t (on cx e x)) (eM cx.P s t (on cx e x).asSv)) (by first|rfl| (cases d<;>rfl)) rfl
theorem Ff (f:Nat)(cs:List Operand):run cx apps dsts (⟨d,.makeFunc (.func f) #[] cs.toArray,ty,pos,aft,none⟩::l) id e h fs K=AN (d5 cx.N d) (cW cx apps dsts l id id d e h fs K (some (vp (.fn f (hU (qv cx e cs)))))):=
 bW cx apps dsts l id id d e h fs K ty pos aft (.makeFunc (.func f) #[] cs.toArray) (some (vp (.fn f (hU (qv cx e cs))))) (by rw[←xw,←qx,List.map_map];rfl) rfl
theorem xS (t:TypeId)(x:Operand)(lo hi mx:Option Operand):run cx apps dsts (⟨d,.slice t x lo hi mx,ty,pos,aft,none⟩::l) id e h fs K=AN (d5 cx.N d) (cW cx apps dsts l id id d e h fs K (jL cx.P t (on cx e x) (lo.map (on cx e)) (hi.map (on cx e)) (mx.map (on cx e)))):=
 bW cx apps dsts l id id d e h fs K ty pos aft (.slice t x lo hi mx) (jL cx.P t (on cx e x) (lo.map (on cx e)) (hi.map (on cx e)) (mx.map (on cx e))) (by rw[splanA.eq_def];simp only[];rw[splan.eq_def];simp only[];unfold jL;change (match on cx e x,lo,mx with| .gv b n s,none,none=>iU cx.P t b n s (hi.map (on cx e)) |c,_,_=>dZ cx.P t c.asSv (lo.map (on cx e)) (hi.map (on cx e)) (mx.map (on cx e))) =_;cases on cx e x<;>cases lo<;>cases mx<;>rfl) rfl
theorem IA (t:TypeId)(x:Operand)(f:Nat):run cx apps dsts (⟨d,.fieldAddr t x f,ty,pos,aft,none⟩::l) id e h fs K=AN (d5 cx.N d) (cW cx apps dsts l id id d e h fs K (aA cx.P t (on cx e x) f)):=
 bW cx apps dsts l id id d e h fs K ty pos aft (.fieldAddr t x f) (aA cx.P t (on cx e x) f) (by first|rfl| (cases d<;>rfl)) rfl
theorem Fg (t:TypeId)(x i:Operand):run cx apps dsts (⟨d,.indexAddr t x i,ty,pos,aft,none⟩::l) id e h fs K=AN (d5 cx.N d) (cW cx apps dsts l id id d e h fs K (dv cx.P t (on cx e x).asSv (on cx e i))):=
 bW cx apps dsts l id id d e h fs K ty pos aft (.indexAddr t x i) (dv cx.P t (on cx e x).asSv (on cx e i)) (by first|rfl| (cases d<;>rfl)) rfl
theorem IB (t:TypeId)(x i:Operand):run cx apps dsts (⟨d,.index t x i,ty,pos,aft,none⟩::l) id e h fs K=AN (d5 cx.N d) (cW cx apps dsts l id id d e h fs K (e8 cx.P t (on cx e x) (on cx e i))):=
 bW cx apps dsts l id id d e h fs K ty pos aft (.index t x i) (e8 cx.P t (on cx e x) (on cx e i)) (by first|rfl| (cases d<;>rfl)) rfl
theorem A0 (x:Operand)(i:Nat):run cx apps dsts (⟨d,.extract x i,ty,pos,aft,none⟩::l) id e h fs K=AN (d5 cx.N d) (cW cx apps dsts l id id d e h fs K (nn (on cx e x) i)):=
 bW cx apps dsts l id id d e h fs K ty pos aft (.extract x i) (nn (on cx e x) i) (by first|rfl| (cases d<;>rfl)) rfl
theorem Fh (t:TypeId)(x:Operand):run cx apps dsts (⟨d,.call ⟨.builtin .len,#[x],#[t]⟩,ty,pos,aft,none⟩::l) id e h fs K=AN (d5 cx.N d) (cW cx apps dsts l id id d e h fs K (gm cx.P t (on cx e x).asSv)):=
 bW cx apps dsts l id id d e h fs K ty pos aft (.call ⟨.builtin .len,#[x],#[t]⟩) (gm cx.P t (on cx e x).asSv) (by first|rfl| (cases d<;>rfl)) rfl
theorem Fi (t t2:TypeId)(x y:Operand):run cx apps dsts (⟨d,.call ⟨.builtin .append,#[x,y],#[t,t2]⟩,ty,pos,aft,none⟩::l) id e h fs K=AN (d5 cx.N d) (cW cx apps dsts l id id d e h fs K (qz (iX cx d) (fD cx.P t t2 (on cx e x) (on cx e y).asSv) (dX cx.P t t2 (qu cx e x) (on cx e y).asSv (dL x)))):=
 bW cx apps dsts l id id d e h fs K ty pos aft (.call ⟨.builtin .append,#[x,y],#[t,t2]⟩) (qz (iX cx d) (fD cx.P t t2 (on cx e x) (on cx e y).asSv) (dX cx.P t t2 (qu cx e x) (on cx e y).asSv (dL x))) (by first|rfl| (cases d<;>rfl)) rfl
theorem Fj (ts:Array TypeId)(x y:Operand):run cx apps dsts (⟨d,.call ⟨.builtin .max,#[x,y],ts⟩,ty,pos,aft,none⟩::l) id e h fs K=AN (d5 cx.N d) (cW cx apps dsts l id id d e h fs K (fZ true (on cx e x) (on cx e y))):=
 bW cx apps dsts l id id d e h fs K ty pos aft (.call ⟨.builtin .max,#[x,y],ts⟩) (fZ true (on cx e x) (on cx e y)) (by first|rfl| (cases d<;>rfl)) rfl
theorem A1 (ts:Array TypeId)(f:Operand)(xs:List Operand):run cx apps dsts (⟨d,.call ⟨.value f,xs.toArray,ts⟩,ty,pos,aft,none⟩::l) id e h fs K=AN (d5 cx.N d) (cW cx apps dsts l id id d e h fs K (rc cx (on cx e f) (qv cx e xs))):=
 bW cx apps dsts l id id d e h fs K ty pos aft (.call ⟨.value f,xs.toArray,ts⟩) (rc cx (on cx e f) (qv cx e xs)) (by rw[splanA.eq_def];simp only[];rw[splan.eq_def];simp only[];rw[xw];show gQ cx (on cx e f) _=_;unfold gQ rc;cases on cx e f<;>first|rfl| (simp only[qx];rfl)) rfl
end
end Go.Sx
