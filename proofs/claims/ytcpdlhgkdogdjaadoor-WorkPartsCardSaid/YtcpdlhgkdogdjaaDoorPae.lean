/-
   And what follows.
-/
import Derived.Test.YtcpdlhgkdogdjaaDoorPad
set_option linter.unusedSimpArgs false
set_option linter.unusedVariables false
namespace Go.Sx
open Go.RowKit
theorem u9 {r:Option Nat}{n:Nat}{P:Program}{f:FuncId}{args:Array Value}{w:World}{R:Ending→World→Prop}(h:Calls P f args w R):CallsIn (wF r) n P f args w R:=(callsIn_wide (n:=n)).2 h
theorem rS (z:List Value):∀n,(bI z n).length=n*z.length
 |0=>by simp[bI]
 |n+1=>by simp[bI,rS z n,Nat.add_mul,Nat.add_comm]
structure CxOK (cx:Cx):Prop where
 glo:∀g,ag 0 (cx.gl g) =true
 pu:∀f args c,cx.pu f args=some c→∀h,FC cx.P cx.gl f args h c h
 hp:∀f args h c h',cx.hp f args h=some (c,h')→FC cx.P cx.gl f args h c h'
 km:∀k u,cx.km k u=true→Go.Maps.Keyed cx.P k∧∃l,keyOf cx.P k u=some l
section
variable {cx:Cx} {G:Gh} {h:Hp} {w:World} {st:St} {a:Act} {o:Oper} {P:Program}
def eg (G:Gh):Gh:= { G with T:=fun g=>match G.T g with|some p=>if p.1=1 then some p else none|none=>none }
def iQ (G:Gh)(n:Nat)(G':Gh)(d:bg):Gh:=
 { G' with T:=fun g=>if g< n∧(G.T g≠(eg G).T g) then G.T g else match G'.T g with|some p=>if p.1=1 then some p else if p= (2,0,0) then some d else none|none=>none }
theorem eT:G.Le (eg G):=⟨fun _ _ _ x=>x,fun _ _ x=>x,fun _ _ x=>x⟩
theorem fB {g:Nat}(h:G.T g=none): (eg G).T g=none:=by simp[eg,h]
theorem rT {g:Nat}{b o:Nat}(h:G.T g=some (1,b,o)): (eg G).T g=some (1,b,o):=by simp[eg,h]
theorem qn {g:Nat}{p:bg}(h:G.T g=some p)(hp:p.1≠1): (eg G).T g=none:=by simp[eg,h,hp]
theorem pd (H:WorldOK G h w):WorldOK (eg G) h w:=by
 refine ⟨H.known,fun b c hb=>?_,H.dom,H.inj,fun b k hb=>?_,fun g p hg=>?_,fun b cells off s n xs blk v hb hc hm hv=>?_,H.siz,H.mpoT (fun _ _ x=>x) (fun _ _ _ x=>x) eT,H.mpi⟩
 . rcases H.box b c hb with hE| ⟨blk,cs,e,h1,h2,h0,h3,h4⟩
   . exact .inl hE
   . exact .inr ⟨blk,cs,e,h1,h2,h0,h3.mono eT,h4⟩
 . obtain ⟨s1,s2⟩:=H.sep b k hb
   exact ⟨s1,fB s2⟩
 . cases hq:G.T g with
   |none=>rw[fB hq] at hg;cases hg
   |some q=>exact H.tlt g q hq
 . rcases H.own b cells off s n xs blk v hb hc hm hv with O| ⟨g,cap,cur,e,a1,a2,a3,a4,a5,a6⟩
   . exact .inl O
   . exact .inr ⟨g,cap,cur,e,a1,rT a2,a3,a4,a5,a6⟩
theorem m8 {G':Gh}{w':World}{h':Hp}(H:WorldOK G h w)(F:Frm (eg G) w G' w'){g:Nat}(hg:g< w.heap.size)(hne:G.T g≠(eg G).T g):
 w'.heap[g]? =w.heap[g]? ∧G'.T g=none∧(∀b,G'.μ b≠some g)∧∀o,G'.K g o=G.K g o:=by
 obtain ⟨p,hp⟩:∃p,G.T g=some p:=by
  cases hq:G.T g with
  |none=>rw[fB hq,hq] at hne;exact absurd rfl hne
  |some p=>exact ⟨p,rfl⟩
 have hp1:p.1≠1:=fun e=>by
  obtain ⟨p1,b,o⟩:=p
  cases e
  rw[rT hp] at hne
  exact hne hp
 have hb:∀b,G.μ b≠some g:=fun b hb=>by
  have:=(H.sep b g hb).2
  rw[hp] at this;cases this
 exact F.old g hg (qn hp hp1) hb
theorem m9 (H:Pre cx G w st a){G':Gh}{w':World}{h':Hp}{c:C}{v:Value}(d:bg)(W:WorldOK G' h' w')(F:Frm (eg G) w G' w')(hr:Rep G' c v)
 (ho:∀s n xs,c= .sl (.own s) n xs→OwnRow G' w' (2,0,0) v s n):Out G w ⟨st.env,h'⟩ (av a) d c v (iQ G w.heap.size G' d) w':=by
 have le0:G'.Le (iQ G w.heap.size G' d):=⟨fun _ _ _ x=>x,fun _ _ x=>x,fun _ _ x=>x⟩
 have le:G.Le (iQ G w.heap.size G' d):=⟨F.le.K,F.le.μ,F.le.σ⟩
 have fresh:∀g p,G'.T g=some p→¬ (g< w.heap.size∧G.T g≠(eg G).T g):=fun g p hg hh=>by
  have:=(m8 (h':=h') H.ok F hh.1 hh.2).2.1
  rw[hg] at this;cases this
 have own1:∀ {b o:Nat}{v':Value}{s n:Nat},OwnRow G' w' (1,b,o) v' s n→OwnRow (iQ G w.heap.size G' d) w' (1,b,o) v' s n:=by
  intro b o v' s n O
  rcases O with O| ⟨g,cap,cur,e,a1,a2,a3,a4,a5,a6⟩
  . exact .inl O
  . exact .inr ⟨g,cap,cur,e,a1,by simp only[iQ];rw[if_neg (fresh g _ a2),a2];rfl,a3,a4,a5,a6⟩
 refine ⟨hr.mono le0,?_,⟨W.known,fun b cells hb=>?_,W.dom,W.inj,fun b k hb=>?_,fun g p hg=>?_,fun b cells off s n xs blk v' hb hc hm hv=>own1 (W.own b cells off s n xs blk v' hb hc hm hv),W.siz,W.mpoT (fun _ _ x=>x) (fun _ _ _ x=>x) le0,W.mpi⟩,⟨fun t=>(H.env.1 t).mono le,fun t s n xs he=>?_⟩,?_⟩
 . intro s n xs e
   rcases ho s n xs e with O| ⟨g,cap,cur,e',a1,a2,a3,a4,a5,a6⟩
   . exact .inl O
   . exact .inr ⟨g,cap,cur,e',a1,by simp only[iQ];rw[if_neg (fresh g _ a2),a2];rfl,a3,a4,a5,a6⟩
 . rcases W.box b cells hb with hE| ⟨blk,cs,e,h1,h2,h0,h3,h4⟩
   . exact .inl hE
   . exact .inr ⟨blk,cs,e,h1,h2,h0,h3.mono le0,h4⟩
 . obtain ⟨s1,s2⟩:=W.sep b k hb
   refine ⟨s1,?_⟩
   simp only[iQ]
   rw[if_neg]
   . rw[s2]
   . intro hh
     exact (m8 (h':=h') H.ok F hh.1 hh.2).2.2.1 b hb
 . simp only[iQ] at hg
   split at hg
   . rename_i hh;exact Nat.lt_of_lt_of_le hh.1 F.size
   . cases hq:G'.T g with
     |none=>rw[hq] at hg;cases hg
     |some q=>exact W.tlt g q hq
 . rcases H.env.2 t s n xs he with O| ⟨g,cap,cur,e',a1,a2,a3,a4,a5,a6⟩
   . exact .inl O
   . have hlt:=H.ok.tlt g _ a2
     have hne:G.T g≠(eg G).T g:=by rw[a2,qn a2 (by simp)];simp
     obtain ⟨b1,b2,b3,b4⟩:=m8 (h':=h') H.ok F hlt hne
     exact .inr ⟨g,cap,cur,e',a1,by simp only[iQ];rw[if_pos ⟨hlt,hne⟩];exact a2,by rw[b1];exact a3,a4,fun q hq=>by show G'.K g q=none;rw[b4];exact a5 q hq,b3⟩
 . refine ⟨F.os,F.tape,F.output,F.size,le,fun g hg ht hm=>?_⟩
   obtain ⟨b1,b2,b3,b4⟩:=F.old g hg (fB ht) hm
   refine ⟨b1,?_,b3,b4⟩
   simp only[iQ]
   rw[if_neg (by rw[ht,fB ht];simp),b2]
theorem qW (H:Pre cx G w st a){f:Operand}{args:Array Operand}{ts:Array TypeId}{g:Nat}{caps:List C}{c:C}{h':Hp}(ho:o.op= .call { callee:= .value f,args,argTypes:=ts })
 (hf:cx.evn st.env f= .fn g caps) (hFC:FC cx.P cx.gl g ((args.toList.map (cx.evn st.env)).map C.share++caps) st.h c h') (d:bg):OpOK cx.P o a G w ⟨st.env,h'⟩ d c:=by
 have hx:=H.evn f
 rw[hf] at hx
 simp only[Rep] at hx
 obtain ⟨cv,hfv,hcaps⟩:=hx
 obtain ⟨⟨fn,e1,e2,e3⟩,hcall⟩:=hFC
 have hrun: (execOp a.eval o).run cx.P w= .ok (.enter g (args.map a.eval++cv)) w:=by
  have e2': ¬fn.name= "runtime.NumGoroutine" :=by simpa using e2
  have e3':¬fn.body=none:=by cases hq:fn.body<;>simp_all
  simp[execOp,ho,resolve,hfv,Deferred.ofValue,invoke,callFunc,e1,e2',e3',program,Sem.run]
 have hargs:RepL (eg G) ((args.toList.map (cx.evn st.env)).map C.share++caps) (args.map a.eval++cv).toList:=by
  simp only[Array.toList_append,Array.toList_map]
  refine RepL.append ?_ (hcaps.mono eT)
  refine RepL.of_get (by simp) fun i x v hxx hv=>?_
  simp only[List.map_map,List.getElem?_map] at hxx hv
  cases hq:args.toList[i]? with
  |none=>rw[hq] at hxx;cases hxx
  |some q=>
   rw[hq] at hxx hv
   cases hxx;cases hv
   exact (ln (H.evn q)).mono eT
 intro r K Q hK
 refine ⟨fun _ _=>trivial,?_⟩
 rw[show (wF r).round=r from rfl,ku (fun d e=>by cases e) hrun]
 simp only[Oper.uponIn]
 refine ⟨(fun h=>by cases h),u9 ?_⟩
 refine (hcall (eg G) w _ (pd H.ok) (fun g p hg=>?_) (fun g=>(H.glob g).mono eT) hargs).mono ?_
 . simp only[eg] at hg
   cases hq:G.T g with
   |none=>rw[hq] at hg;cases hg
   |some q=>
    rw[hq] at hg
    simp only[] at hg
    split at hg
    . cases hg;assumption
    . cases hg
 . rintro e w' ⟨v,G',rfl,q1,q2,q3,q4⟩
   exact hK v _ w' (m9 H d q3 q4 q1 q2)
theorem dW (H:Pre cx G w st a){d:bg}{s:Sem Value}(hex: (execOp a.eval o).run cx.P w= (s.run cx.P w).andThen fun v w'=> .ok (.value v) w'){p:Plan}{id:Nat}{c:C}{st':St}(hact:bQ cx id p st=some (c,st'))
 (h:∃c v,p= .val c none∧c.noOwn∧s.run cx.P w= .ok v w∧Rep G c v):OpOK cx.P o a G w st' d c:=by
 obtain ⟨c',v,rfl,hno,hrun,hr⟩:=h
 simp only[bQ,aB] at hact
 cases hact
 exact OpOK.pure H (by rw[hex,hrun];rfl) hr hno
theorem xi (H:Pre cx G w st a){t t2:TypeId}{x y:Operand}{p:Plan}(ho:o.op= .call { callee:= .builtin .append,args:= #[x,y],argTypes:= #[t,t2] })
 {yc:C} (hy:Rep G yc.it (a.eval y)) (hp:dX cx.P t t2 (cx.ev st.env x) yc.it (dL x) =some p) {id:Nat} {c:C} {st':St} (hact:bQ cx id p st=some (c,st')) (d:bg):OpOK cx.P o a G w st' d c:=by
 have hx:=H.ev x
 have hex:=el (P:=cx.P) (w:=w) (a:=a) .append #[x,y] #[t,t2] (Builtin.append_ #[t,t2] o.type #[a.eval x,a.eval y]) ho (fun cs=>by simp[builtin])
 unfold dX at hp
 split at hp
 . cases hp
 . cases hp
 rename_i dt d2 hd hd2
 split at hp
 . cases hp
 rename_i hn2
 split at hp
 . rename_i e hu
   split at hp
   . cases hp
   rename_i de he
   simp only[] at hp
   have start:∀n xs k,(match cx.ev st.env x with
    | .val (.slice none 0 0) =>some (0,[],none)
    | .sl .full n xs=>some (n,xs,none)
    | .sl (.own s) n xs=>if s=de.size then some (n,xs,dL x) else none
    |_=>none) =some (n,xs,k)→
    ∃b cap,a.eval x= .slice b n cap∧n≤cap∧cap≤maxLen∧(xs= []∨∃blk off,b=some ⟨blk,off,none⟩∧RepK G blk off xs)∧(cap=n∨∃q,k=some q∧OwnRow G w (0,q,0) (.slice b n cap) de.size n):=by
    intro n xs k hs
    split at hs
    . rename_i hc
      cases hs
      rw[hc,am] at hx
      exact ⟨none,0,hx,Nat.le_refl _,Nat.zero_le _,.inl rfl,.inl rfl⟩
    . rename_i n' xs' hc
      cases hs
      rw[hc] at hx
      simp only[Rep] at hx
      obtain ⟨b,cap,h1,h2,h3,h4,h5⟩:=hx
      exact ⟨b,cap,h1,h2,h3,h5,.inl (h4 trivial)⟩
    . rename_i s n' xs' hc
      split at hs
      . rename_i hsz
        cases hs
        have hx0:=hx
        rw[hc] at hx
        simp only[Rep] at hx
        obtain ⟨b,cap,h1,h2,h3,h4,h5⟩:=hx
        refine ⟨b,cap,h1,h2,h3,h5,?_⟩
        cases x with
        |tmp q=>
         have:=H.env.2 q _ _ _ hc
         have hv:av a q= .slice b n cap:=h1
         rw[hv] at this
         exact .inr ⟨q,rfl,hsz▸this⟩
        |const v=>cases hc
        |global g=>exact (fo hc).elim
        |func f=>cases hc
      . cases hs
    . cases hs
   split at hp
   . cases hp
   rename_i n xs k hs
   obtain ⟨b,cap,hxv,hnc,hcm,hk,hst⟩:=start n xs k hs
   split at hp
   . rename_i b' off m hyc
     split at hp
     . cases hp
       simp only[bQ,aB] at hact
       cases hb:st.h.at b' with
       |none=>rw[hb] at hact;cases hact
       |some cells=>
        rw[hb] at hact
        simp only[Option.bind_some] at hact
        split at hact
        . rename_i hoff
          split at hact
          . rename_i hf
            simp only[Option.map_some,Option.some.injEq,Prod.mk.injEq] at hact
            obtain ⟨rfl,rfl⟩:=hact
            rw[hyc] at hy
            obtain ⟨news,n1,n2,n3⟩:=oz (P:=cx.P) H.ok hb hoff hy
            obtain ⟨v,w',G',r1,r2⟩:=jy H d (ty:=o.type) hd hu he hd2 (by simpa using hn2) hnc hcm hk hst (by rw[n1,hf.2.1]) n2 n3 hf.1 hf.2.1 hf.2.2.1 hf.2.2.2.1 hf.2.2.2.2.1 hf.2.2.2.2.2
            rw[mM hb]
            exact bD (by rw[hex,hxv,r1];rfl) ⟨G',r2⟩
          . cases hact
        . cases hact
     . rename_i hkn
       have hk0:k=none:=by cases k with|none=>rfl|some q=>simp at hkn
       subst hk0
       cases hp
       simp only[bQ,aB] at hact
       cases hb:st.h.at b' with
       |none=>rw[hb] at hact;cases hact
       |some cells=>
        rw[hb] at hact
        simp only[Option.bind_some] at hact
        split at hact
        . rename_i hoff
          split at hact
          . rename_i hf
            cases hact
            rw[hyc] at hy
            obtain ⟨news,n1,n2,n3⟩:=oz (P:=cx.P) H.ok hb hoff hy
            obtain ⟨v,w',G',r1,r2⟩:=jy H d (ty:=o.type) hd hu he hd2 (by simpa using hn2) hnc hcm hk hst (by rw[n1,hf.2.1]) n2 n3 hf.1 hf.2.1 hf.2.2.1 hf.2.2.2.1 hf.2.2.2.2.1 hf.2.2.2.2.2
            exact bD (by rw[hex,hxv,r1];rfl) ⟨G',r2⟩
          . cases hact
        . cases hact
   . rename_i hnsv
     split at hp
     . rename_i m ys hsrc
       split at hp
       . rename_i hf
         cases hp
         simp only[bQ,aB] at hact
         cases hact
         obtain ⟨news,n1,n2,n3⟩:=sW (P:=cx.P) H.ok hsrc hf.2.1 hy
         obtain ⟨v,w',G',r1,r2⟩:=jy H d (ty:=o.type) hd hu he hd2 (by simpa using hn2) hnc hcm hk hst n1 n2 n3 hf.1 hf.2.1 hf.2.2.1 hf.2.2.2.1 hf.2.2.2.2.1 hf.2.2.2.2.2
         exact bD (by rw[hex,hxv,r1];rfl) ⟨G',r2⟩
       . cases hp
     . cases hp
 . cases hp
theorem AA (hcx:CxOK cx)(H:Pre cx G w st a){ops:Array Oper}{p:Plan}(hp:splan cx ops o st.env=some p){id:Nat}{c:C}{st':St}(hact:bQ cx id p st=some (c,st'))(d:bg):
 OpOK cx.P o a G w st' d c:=by
 unfold splan at hp
 simp only[] at hp
 split at hp
 ·
  rename_i x ho
  split at hp
  . rename_i q
    cases hp
    have hrun: (execOp a.eval o).run cx.P w= .ok (.value (a.eval (.tmp q))) w:=by simp only[execOp,ho,Sem.run_pure]
    split at hact
    . simp only[bQ,aB] at hact
      cases hact
      exact OpOK.move H (x:= .tmp q) rfl hrun
    . simp only[bQ,aB,Plan.pure] at hact
      cases hact
      exact OpOK.pure H hrun (H.env.1 q).noR (cL _)
  . cases hp
    simp only[bQ,aB,Plan.pure] at hact
    cases hact
    exact OpOK.pure H (by simp only[execOp,ho,Sem.run_pure]) (H.evn x) (cL _)
 ·
  rename_i x ho
  cases hp
  simp only[bQ,aB] at hact
  cases hact
  exact OpOK.move H rfl (by simp only[execOp,ho,Sem.run_pure])
 ·
  rename_i b x y ho
  have hb:=H.evn b
  split at hp
  . rename_i hc
    cases hp
    simp only[bQ,aB,Plan.pure] at hact
    cases hact
    rw[hc,am] at hb
    exact OpOK.pure H (v:=a.eval x) (by simp[execOp,ho,hb,asBool]) (H.evn x) (cL _)
  . rename_i hc
    cases hp
    simp only[bQ,aB,Plan.pure] at hact
    cases hact
    rw[hc,am] at hb
    exact OpOK.pure H (v:=a.eval y) (by simp[execOp,ho,hb,asBool]) (H.evn y) (cL _)
  . cases hp
 ·
  rename_i t ho
  split at hp
  . rename_i dt hd
    split at hp
    . rename_i hz1
      cases hp
      simp only[bQ,aB] at hact
      split at hact
      . rename_i hid
        cases hact
        obtain ⟨_,i,z,hi,_,_,hz,hzz⟩:=aH hd
        refine OpOK.new H hid (vs:=z.cells) (e:=t) (v:= .pointer (some ⟨w.heap.size,0,none⟩)) ?_ (s4 hzz) (fun u hu=>by rw[hzz] at hu;exact (List.all_eq_true.1 hz1) u hu) ?_ (fun G' hG hs=>by split;all_goals simp only[Rep];all_goals first|exact ⟨_,hG,rfl⟩ |exact ⟨_,hG,rfl,by rw[hs];exact congrArg some (congrArg (·,t) (by rw[←hzz];simp))⟩) (by split<;>trivial)
        . simp[execOp,ho,Instr.alloc,zeroValue,typeInfo,hi,hz,newVar,newRow]
        . intro x hx
          obtain ⟨v,_,rfl⟩:=List.mem_map.1 hx
          trivial
      . cases hact
    . cases hp
  . cases hp
 ·
  rename_i t x ho
  cases hcs: (cx.evn st.env x).cells? with
  |none=>rw[hcs] at hp;cases hp
  |some cs=>
   rw[hcs] at hp
   cases hp
   simp only[bQ,aB] at hact
   split at hact
   . rename_i hid
     cases hact
     obtain ⟨r1,r2⟩:=ky hcs (H.evn x)
     refine OpOK.new H hid (vs:=(a.eval x).cells) (e:=t) (v:= .pointer (some ⟨w.heap.size,0,none⟩)) ?_ r1 r2 (lp hcs) (fun G' hG _=>by simp only[Rep];exact ⟨_,hG,rfl⟩) trivial
     simp[execOp,ho,Instr.box,newVar,newRow]
   . cases hact
 ·
  rename_i t parts ho
  split at hp
  . rename_i dt hd
    split at hp
    . cases hp
    rename_i hz1
    cases hb: ((g9 cx.P dt.u).bind fun pl=>eV pl (dt.zero.map .val) (parts.toList.map fun x=>(x.1,cx.evn st.env x.2))) with
    |none=>rw[hb] at hp;cases hp
    |some cs=>
     rw[hb] at hp
     cases hp
     simp only[bQ,aB,Plan.pure] at hact
     cases hact
     obtain ⟨v,v1,v2⟩:=Cq H hd (by simpa using hz1) hb
     exact OpOK.pure H (by simp only[execOp,ho,Sem.run_bind,v1,Result.andThen_ok,Sem.run_pure]) v2 trivial
  . cases hp
 ·
  rename_i t n parts ho
  split at hp
  . rename_i dt hd
    split at hp
    . rename_i e hu
      split at hp
      . rename_i de he
        split at hp
        . rename_i hn
          cases hb:eV (fun i=>some (i*de.size,de.size)) (bI de.zero n) (parts.toList.map fun x=>(x.1,cx.evn st.env x.2)) with
          |none=>rw[hb] at hp;cases hp
          |some cs=>
           rw[hb] at hp
           simp only[Option.map_some,Option.some.injEq] at hp
           split at hp
           . cases hp
             simp only[bQ,aB,Option.bind_some,Option.map_some,Option.some.injEq,Prod.mk.injEq] at hact
             obtain ⟨rfl,rfl⟩:=hact
             obtain ⟨v,w',G',v1,v2⟩:=xg H d hd hu he hn.2.2.2 ⟨hn.1,hn.2.1,hn.2.2.1⟩ hb
             exact bD (by simp only[execOp,ho,Sem.run_bind,v1,Result.andThen_ok,Sem.run_pure]) ⟨G',v2⟩
           cases hp
           simp only[bQ,aB,Plan.pure] at hact
           cases hact
           obtain ⟨v,w',G',v1,v2⟩:=qU H d hd hu he hn.2.2.2 ⟨hn.1,hn.2.1,hn.2.2.1⟩ hb
           exact bD (by simp only[execOp,ho,Sem.run_bind,v1,Result.andThen_ok,Sem.run_pure]) ⟨G',v2⟩
        . cases hp
      . cases hp
    . cases hp
  . cases hp
 ·
  rename_i t x ho
  exact EJ H ho hp hact d
 ·
  rename_i t x y ho
  exact Au H ho hp hact d
 ·
  rename_i x ho
  have hx:=H.evn x
  split at hp
  . rename_i b k hc
    cases hp
    simp only[bQ,aB,Plan.pure] at hact
    cases hact
    rw[hc] at hx
    have hx':=hx
    simp only[Rep] at hx
    obtain ⟨blk,_,hv⟩:=hx
    exact OpOK.pure H (v:=a.eval x) (by simp[execOp,ho,hv]) hx' trivial
  . rename_i xs hc
    cases hp
    simp only[bQ,aB,Plan.pure] at hact
    cases hact
    rw[hc] at hx
    have hx':=hx
    simp only[Rep] at hx
    obtain ⟨blk,hv,hv2,_⟩:=hx
    exact OpOK.pure H (v:=a.eval x) (by simp[execOp,ho,hv2]) hx' trivial
  . rename_i cs hc
    cases hp
    simp only[bQ,aB,Plan.pure] at hact
    cases hact
    rw[hc] at hx
    have hx':=hx
    simp only[Rep] at hx
    obtain ⟨blk,off,hv,_⟩:=hx
    exact OpOK.pure H (v:=a.eval x) (by simp[execOp,ho,hv]) hx' trivial
  . rename_i f cs hc
    cases hp
    simp only[bQ,aB,Plan.pure] at hact
    cases hact
    rw[hc] at hx
    have hx':=hx
    simp only[Rep] at hx
    obtain ⟨vs,hv,_⟩:=hx
    exact OpOK.pure H (v:=a.eval x) (by simp[execOp,ho,hv]) hx' trivial
  . cases hp
 ·
  rename_i op t x y yt ho
  exact dW H (s:=(do eqGuard op t x y (a.eval x) (a.eval y);binOp op t (a.eval x) (a.eval y))) (by simp only[execOp,ho,Sem.run_bind,Sem.run_pure]) hact (vY x y (H.evn x) (H.evn y) hp)
 ·
  rename_i op t x ho
  exact dW H (s:=Op.unary op (a.eval x)) (by simp only[execOp,ho,Sem.run_bind,Sem.run_pure]) hact (yU (H.evn x) hp)
 ·
  rename_i s t x ho
  split at hp
  . exact Aw H ho hp hact d
  . exact EL H ho (fg (H.evn x)) hp hact d
 ·
  rename_i t x ho
  have hx:=H.evn x
  split at hp
  . rename_i dt hd
    split at hp
    . rename_i n e hu
      split at hp
      . rename_i de b off m he hc
        split at hp
        . rename_i hn
          cases hp
          simp only[bQ,aB,Plan.pure] at hact
          cases hact
          rw[hc] at hx
          simp only[Rep] at hx
          obtain ⟨ad,cap,hv,hmc,_,had⟩:=hx
          obtain ⟨blk,hμ,had'⟩:=had (by omega)
          subst had'
          refine OpOK.pure H (v:= .pointer (some ⟨blk,off,none⟩)) ?_ (by simp only[Rep];exact ⟨blk,hμ,rfl⟩) trivial
          have hlt:¬ (m< n):=by omega
          simp[execOp,ho,hv,Instr.arrayAt,aM hd,hu,hlt]
        . cases hp
      . rename_i de b m s he hc
        split at hp
        . rename_i hn
          cases hp
          simp only[bQ,aB,Plan.pure] at hact
          cases hact
          rw[hc] at hx
          simp only[Rep] at hx
          obtain ⟨ad,cap,hv,hmc,_,hdj⟩:=hx
          rcases hdj with ⟨h0,_⟩ | ⟨blk,hμ,had',_⟩
          . omega
          subst had'
          refine OpOK.pure H (v:= .pointer (some ⟨blk,0,none⟩)) ?_ (by simp only[Rep];exact ⟨blk,hμ,rfl⟩) trivial
          have hlt:¬ (m< n):=by omega
          simp[execOp,ho,hv,Instr.arrayAt,aM hd,hu,hlt]
        . cases hp
      . rename_i de cc he hnsv hngv
        split at hp
        . rename_i m xs hsl
          split at hp
          . rename_i hn
            cases hp
            simp only[bQ,aB,Plan.pure] at hact
            cases hact
            obtain ⟨ad,cap,hv,_,_,hk⟩:=iH hsl hx
            rcases hk with hk| ⟨blk,off,rfl,hk⟩
            . exact absurd hk hn.2.1
            refine OpOK.pure H (v:= .pointer (some ⟨blk,off,none⟩)) ?_ (by simp only[Rep];exact ⟨blk,off,rfl,hk⟩) trivial
            have hlt:¬ (m< n):=by omega
            simp[execOp,ho,hv,Instr.arrayAt,aM hd,hu,hlt]
          . cases hp
        . cases hp
      . cases hp
    . cases hp
  . cases hp
 ·
  rename_i f first caps ho
  split at hp
  . rename_i hfe
    cases hp
    simp only[bQ,aB,Plan.pure] at hact
    cases hact
    have hf0:first= #[]:=by simpa using hfe
    refine OpOK.pure H (v:= .func (.func f) #[] (caps.map a.eval)) (by simp[execOp,ho,Instr.makeFunc,hf0]) ?_ trivial
    simp only[Rep]
    refine ⟨_,rfl,RepL.of_get (by simp) fun i x v hxx hv=>?_⟩
    simp only[Array.toList_map,List.getElem?_map] at hxx hv
    cases hq:caps.toList[i]? with
    |none=>rw[hq] at hxx;cases hxx
    |some q=>
     rw[hq] at hxx hv
     cases hxx;cases hv
     exact ln (H.evn q)
  . cases hp
 ·
  rename_i t l m ho
  split at hp
  . rename_i dt k1 n k2 m' hd hl hm
    split at hp
    . rename_i e hu
      split at hp
      . rename_i de he
        split at hp
        . rename_i hb
          cases hp
          simp only[bQ,aB] at hact
          split at hact
          . rename_i hid
            cases hact
            obtain ⟨_,i,z,hi,hsz,hby,hz,hzz⟩:=aH he
            obtain ⟨b1,b2,b3,b4,b5,b6⟩:=hb
            have hzs:z.cells.size=de.size:=by rw[←b5,←hzz];simp
            have hlv:=kx hl (H.evn l)
            have hmv:=kx hm (H.evn m)
            have hz1':∀u∈z.cells.toList,u.oneCell'=true:=fun u hu=>by rw[hzz] at hu;exact (List.all_eq_true.1 b6) u hu
            subst b2
            have hrun:=run_make (P:=cx.P) w t e i z (hu▸(aH hd).1) hi hz k1 k2 n n b1 (Int.le_refl _) (by rw[hby];omega) b4
            have hml:maxLen=9223372036854775807:=by decide
            refine OpOK.new H hid (vs:=madeCells z.cells (n.toNat*i.size)) (e:=e) (v:= .slice (some ⟨w.heap.size,0,none⟩) n.toNat n.toNat) ?_ (by rw[hsz,←hzs];exact f8 z.cells de.zero hzz _) (by rw[hsz,←hzs];exact kD z.cells hz1' _) ?_
             (fun G' hG hS=>by
               split
               . simp only[Rep]
                 exact ⟨_,_,rfl,Nat.le_refl _,by omega,.inr ⟨w.heap.size,hG,rfl,by rw[hS];exact congrArg some (congrArg (·,e) (by rw[←Array.length_toList,hsz,←hzs,← (f8 (G:=G) z.cells de.zero hzz n.toNat).length,rS,b5,hzs]))⟩⟩
               . simp only[Rep];exact ⟨_,_,rfl,Nat.le_refl _,by omega,fun _=>⟨w.heap.size,hG,rfl⟩⟩) (by split<;>trivial)
            . simp only[execOp,ho,hlv,hmv,Sem.run_bind,hrun,Result.andThen_ok,Sem.run_pure]
            . intro x hx
              have:∀q,∀x∈bI de.zero q,x.noOwn:=by
               intro q
               induction q with
               |zero=>intro x hx;simp[bI] at hx
               |succ q ih=>
                intro x hx
                simp only[bI,List.mem_append] at hx
                rcases hx with hx|hx
                . obtain ⟨v,_,rfl⟩:=List.mem_map.1 hx;trivial
                . exact ih x hx
              exact this _ x hx
          . cases hact
        . cases hp
      . cases hp
    . cases hp
  . cases hp
 ·
  rename_i t x lo hi mx ho
  split at hp
  . rename_i b n s hc
    have hx:=H.evn x
    rw[hc] at hx
    exact dW H (s:=Instr.sliceAt t (a.eval x) none (hi.map a.eval) none) (by simp only[execOp,ho,Sem.run_bind,Sem.run_pure];rfl) hact (xh H hx hp)
  . rename_i lo mx _ _ _ _
    exact dW H (s:=Instr.sliceAt t (a.eval x) (lo.map a.eval) (hi.map a.eval) (mx.map a.eval)) (by simp only[execOp,ho,Sem.run_bind,Sem.run_pure]) hact (sO H (fg (H.evn x)) hp)
 ·
  rename_i t x f ho
  exact dW H (s:=Instr.fieldAt t (a.eval x) f) (by simp only[execOp,ho,Sem.run_bind,Sem.run_pure]) hact (nG (H.evn x) hp)
 ·
  rename_i t x f ho
  exact dW H (s:=Instr.field t (a.eval x) f) (by simp only[execOp,ho,Sem.run_bind,Sem.run_pure]) hact (sQ (H.evn x) hp)
 ·
  rename_i t x i ho
  exact dW H (s:=Instr.indexAt t (a.eval x) (a.eval i)) (by simp only[execOp,ho,Sem.run_bind,Sem.run_pure]) hact (nF (fg (H.evn x)) (H.evn i) hp)
 ·
  rename_i t x i ho
  exact dW H (s:=Instr.index t (a.eval x) (a.eval i)) (by simp only[execOp,ho,Sem.run_bind,Sem.run_pure]) hact (sP (H.evn x) (H.evn i) hp)
 ·
  rename_i x i ho
  have hx:=H.evn x
  split at hp
  . rename_i xs hc
    cases hq:xs[i]? with
    |none=>rw[hq] at hp;cases hp
    |some y=>
     rw[hq] at hp
     cases hp
     simp only[bQ,aB,Plan.pure] at hact
     cases hact
     rw[hc] at hx
     simp only[Rep] at hx
     obtain ⟨vs,hv,hr⟩:=hx
     obtain ⟨u,hu,hru⟩:=hr.get i y hq
     have hu':vs[i]? =some u:=by simpa using hu
     exact OpOK.pure H (v:=u) (by simp[execOp,ho,hv,Instr.extract,hu']) hru.noR (cL _)
  . cases hp
 ·
  rename_i cl ho
  obtain ⟨callee,args,ts⟩:=cl
  simp only[] at hp ho
  split at hp
  . split at hp
    . rename_i x t ha ht
      obtain rfl:args= #[x]:=by apply Array.ext';simpa using ha
      obtain rfl:ts= #[t]:=by apply Array.ext';simpa using ht
      exact dW H (el (P:=cx.P) (w:=w) (a:=a) .len #[x] #[t] (Builtin.len_ #[t] o.type #[a.eval x]) ho (fun cs=>by simp[builtin])) hact (vX (fg (H.evn x)) hp)
    . rename_i x y t t2 ha ht
      obtain rfl:args= #[x,y]:=by apply Array.ext';simpa using ha
      obtain rfl:ts= #[t,t2]:=by apply Array.ext';simpa using ht
      split at hp
      . exact EM H ho (fg (H.evn y)) hp hact d
      . exact xi H ho (fg (H.evn y)) hp hact d
    . rename_i x y t t2 ha ht
      obtain rfl:args= #[x,y]:=by apply Array.ext';simpa using ha
      obtain rfl:ts= #[t,t2]:=by apply Array.ext';simpa using ht
      exact EK H ho (fg (H.evn x)) (fg (H.evn y)) hp hact d
    . rename_i x y ha
      obtain rfl:args= #[x,y]:=by apply Array.ext';simpa using ha
      unfold fZ at hp
      split at hp
      . rename_i k p1 k' p2 h1 h2
        split at hp
        . rename_i hk
          subst hk
          cases hp
          simp only[bQ,aB,Plan.pure] at hact
          cases hact
          have r1:=H.evn x
          have r2:=H.evn y
          rw[h1,am] at r1
          rw[h2,am] at r2
          refine OpOK.pure H ?_ (am.2 rfl) trivial
          rw[el (P:=cx.P) (w:=w) (a:=a) .min #[x,y] ts (Builtin.min_ ts o.type #[a.eval x,a.eval y]) ho (fun cs=>by simp[builtin]),r1,r2]
          simp[Builtin.min_,Builtin.min2]
        . cases hp
      . cases hp
    . rename_i x y ha
      obtain rfl:args= #[x,y]:=by apply Array.ext';simpa using ha
      unfold fZ at hp
      split at hp
      . rename_i k p1 k' p2 h1 h2
        split at hp
        . rename_i hk
          subst hk
          cases hp
          simp only[bQ,aB,Plan.pure] at hact
          cases hact
          have r1:=H.evn x
          have r2:=H.evn y
          rw[h1,am] at r1
          rw[h2,am] at r2
          refine OpOK.pure H ?_ (am.2 rfl) trivial
          rw[el (P:=cx.P) (w:=w) (a:=a) .max #[x,y] ts (Builtin.max_ ts o.type #[a.eval x,a.eval y]) ho (fun cs=>by simp[builtin]),r1,r2]
          simp[Builtin.max_,Builtin.max2]
        . cases hp
      . cases hp
    . rename_i x y t t2 ha ht
      obtain rfl:args= #[x,y]:=by apply Array.ext';simpa using ha
      obtain rfl:ts= #[t,t2]:=by apply Array.ext';simpa using ht
      exact EQ hcx.km H ho hp hact d
    . cases hp
  . rename_i f
    unfold gQ at hp
    split at hp
    . rename_i g caps hf
      simp only[] at hp
      split at hp
      . rename_i c' hpu
        cases hp
        simp only[bQ,aB,Plan.pure] at hact
        cases hact
        exact qW H ho hf (hcx.pu _ _ _ hpu st.h) d
      . split at hp
        rename_i b hrb
        split at hp
        case h_1.isFalse=>
         cases hp
         simp only[bQ,aB] at hact
         cases hq:st.h.at b with
         |none=>rw[hq] at hact;cases hact
         |some cells=>
          rw[hq] at hact
          simp only[Option.bind_some] at hact
          cases hr:rdPu cx g (List.map C.share (List.map (cx.evn st.env) args.toList)++caps) b cells with
          |none=>rw[hr] at hact;cases hact
          |some c2=>
           rw[hr] at hact
           cases hact
           exact qW H ho hf (FC.rdPu hcx.pu hcx.glo hq hr) d
        rotate_left
        split at hp
        case h_2.isTrue=>
         cases hp
         simp only[bQ,aB] at hact
         cases hq:st.h.at 0 with
         |none=>rw[hq] at hact;cases hact
         |some cells=>
          rw[hq] at hact
          simp only[Option.bind_some] at hact
          cases hr:rdE cx g (List.map C.share (List.map (cx.evn st.env) args.toList)++caps) 0 cells with
          |none=>rw[hr] at hact;cases hact
          |some c2=>
           rw[hr] at hact
           cases hact
           exact qW H ho hf (FC.rdE hcx.pu hcx.glo hq hr) d
        all_goals
        cases hp
        simp only[bQ,aB] at hact
        cases hq:cx.hp g (List.map C.share (List.map (cx.evn st.env) args.toList)++caps) st.h with
        |none=>rw[hq] at hact;cases hact
        |some r=>
         rw[hq] at hact
         cases hact
         exact qW H ho hf (hcx.hp _ _ _ _ _ hq) d
    . cases hp
  . cases hp
 . rename_i t ho
   exact EO trivial H ho hp hact d
 . rename_i t x k ok ho
   exact Az hcx.km H ho hp hact d
 . rename_i t m k x ho
   exact EP hcx.km H ho hp hact d
 . cases hp
end
end Go.Sx
namespace Go.Sx
open Go.RowKit
def Mks (G:Gh)(w:World)(ds:List Deferred):Prop:=ds.Nodup∧∀d∈ds,∃D,d= ⟨.collected D,#[]⟩∧w.heap[D]? =some (.deferred (some []))∧G.T D=none∧∀b,G.μ b≠some D
theorem Mks.nil {G:Gh}{w:World}:Mks G w []:=⟨List.nodup_nil,fun _ h=>by cases h⟩
theorem Mks.frm {G G':Gh}{w w':World}{ds:List Deferred}(h:Mks G w ds)(F:Frm G w G' w'):Mks G' w' ds:=⟨h.1,fun d hd=>by
 obtain ⟨D,e,h1,h2,h3⟩:=h.2 d hd
 obtain ⟨a1,a2,a3,_⟩:=F.old D (Array.getElem?_eq_some_iff.1 h1).1 h2 h3
 exact ⟨D,e,a1.trans h1,a2,a3⟩⟩
theorem Mks.same {G G':Gh}{w:World}{ds:List Deferred}(h:Mks G w ds)(hT:∀g,G.T g=none→G'.T g=none)(hμ:∀g,(∀b,G.μ b≠some g)→∀b,G'.μ b≠some g):Mks G' w ds:=⟨h.1,fun d hd=>by
 obtain ⟨D,e,h1,h2,h3⟩:=h.2 d hd
 exact ⟨D,e,h1,hT D h2,hμ D h3⟩⟩
structure Sim (cx:Cx) (G:Gh) (w:World) (st:St) (a:Act):Prop where
 defers:Mks G w a.defers
 size:a.tmps.size=cx.N
 pre:Pre cx G w st a
section
variable {cx:Cx} {G:Gh} {w:World} {st:St} {a:Act} {P:Program}
theorem kg (a:Act)(d:Option Nat)(v:Value): (a.put d v).defers=a.defers:=by cases d<;>rfl
theorem mN {d:Nat}(hd:d< a.tmps.size)(v:Value)(t:Nat):av (a.put (some d) v) t=if t=d then v else av a t:=by
 simp only[av,Act.put,Array.getD_eq_getD_getElem?]
 by_cases h:t=d
 . subst h;simp[hd]
 . rw[if_neg h,Array.getElem?_setIfInBounds_ne (Ne.symm h)]
theorem Sim.put (H:Sim cx G w st a){G':Gh}{w':World}{st':St}{dst:Option Nat}{c:C}{v:Value}(hd:∀d,dst=some d→d< cx.N)
 (O:Out G w st' (av a) (match dst with|some d=>(0,d,0) |none=>(3,0,0)) c v G' w'):Sim cx G' w' ⟨put dst c st'.env,st'.h⟩ (a.put dst v):=by
 have hg:∀g,Rep G' (cx.gl g) (.pointer (some ⟨g,0,none⟩)):=fun g=>(H.pre.glob g).mono O.frm.le
 cases dst with
 |none=>
  exact ⟨H.defers.frm O.frm,H.size,O.ok,O.env,hg⟩
 |some d=>
  have hd':d< a.tmps.size:=by rw[H.size];exact hd d rfl
  refine ⟨H.defers.frm O.frm,by simp[Act.put,H.size],O.ok,⟨fun t=>?_,fun t s n xs he=>?_⟩,hg⟩
  . rw[mN hd']
    simp only[Sx.put]
    split
    . exact O.rep
    . exact O.env.1 t
  . rw[mN hd']
    simp only[Sx.put] at he
    split at he
    . rename_i htd
      subst htd
      rw[if_pos rfl]
      exact O.own s n xs he
    . rename_i htd
      rw[if_neg htd]
      exact O.env.2 t s n xs he
theorem nZ (H:Sim cx G w st a){ops:Array Oper}{o:Oper}{b:Bool}(h:dP ops o st.env=some b):Region.wanted o (yielded ops a.tmps) =b:=by
 unfold dP at h
 unfold Region.wanted
 split at h
 . rename_i hg;cases h;rw[hg]
 . rename_i j want hg
   rw[hg]
   simp only[yielded]
   split at h
   . rename_i hd;cases h;rw[hd];rfl
   . rename_i t hd
     rw[hd]
     simp only[Option.bind_some]
     have hr:=(H.pre.env.1 t).noR
     split at h
     . rename_i x hx
       cases h
       rw[hx,am] at hr
       have:a.tmps[t]? =some (.bool x):=by
        simp only[av,Array.getD_eq_getD_getElem?] at hr
        cases hq:a.tmps[t]? with
        |none=>rw[hq] at hr;cases hr
        |some u=>rw[hq] at hr;simpa using hr
       rw[this]
       cases x<;>cases want<;>rfl
     . rename_i x hx
       cases h
       rw[hx,am] at hr
       cases hq:a.tmps[t]? with
       |none=>rfl
       |some u=>
        simp only[av,Array.getD_eq_getD_getElem?,hq,Option.getD_some] at hr
        subst hr
        rfl
     . cases h
theorem pf (hcx:CxOK cx)(H:Sim cx G w st a){ops:Array Oper}{base i:Nat}{st':St}(h:step cx ops base i st=some st'){r:Option Nat}{K:Act→World→Prop}{Q:Exit→Act→World→Prop}
 (hK:∀G' w' a',Sim cx G' w' st' a'→Frm G w G' w'→a'.defers=a.defers→K a' w'):wpOpIn (wF r) 0 cx.P ops Q i K a w:=by
 unfold step at h
 unfold wpOpIn
 split at h
 . cases h
 . rename_i o ho
   simp only[ho]
   split at h
   . rename_i hdst
     have hd:∀d,o.dst=some d→d< cx.N:=fun d e=>by rw[e] at hdst;simpa[gY] using hdst
     split at h
     . cases h
     . rename_i hw
       cases h
       rw[nZ H hw]
       simp only[Bool.false_eq_true,if_false]
       exact ⟨fun _ _=>trivial,hK G w _ (H.put hd ⟨am.2 rfl,by simp,H.pre.ok,H.pre.env,Frm.refl G w⟩) (Frm.refl G w) (kg _ _ _)⟩
     . rename_i hw
       rw[nZ H hw]
       simp only[if_true]
       split at h
       . cases h
       . rename_i p hp
         split at h
         . cases h
         . rename_i c st1 hact
           cases h
           exact AA hcx H.pre hp hact _ r K Q fun v G' w' O=>hK G' w' _ (H.put hd O) O.frm (kg _ _ _)
   . cases h
theorem rU (hcx:CxOK cx){r:Option Nat}{ops:Array Oper}{base:Nat}{Q:Exit→Act→World→Prop}:∀ (l:List Nat){G:Gh}{w:World}{st:St}{a:Act}{st':St},Sim cx G w st a→fq cx ops base l st=some st'→
 (∀G' w' a',Sim cx G' w' st' a'→Frm G w G' w'→a'.defers=a.defers→Q .normal a' w')→wpOpsIn (wF r) 0 cx.P ops Q l a w
 | [],G,w,st,a,st',H,h,hQ=>by
   simp only[fq,Option.some.injEq] at h
   subst h
   exact hQ G w a H (Frm.refl G w) rfl
 |i::l,G,w,st,a,st',H,h,hQ=>by
  simp only[fq] at h
  cases hs:step cx ops base i st with
  |none=>rw[hs] at h;cases h
  |some st1=>
   rw[hs] at h
   rw[wpOpsIn_cons]
   exact pf hcx H hs fun G' w' a' S F e=>rU hcx l S h fun G2 w2 a2 S2 F2 e2=>hQ G2 w2 a2 S2 (F.trans F2) (e2.trans e)
theorem fJ {h:Hp}(k b:Nat):Hp.at (h++List.replicate k none) b=h.at b:=by
 unfold Hp.at
 rw[List.getElem?_append]
 split
 . rfl
 . rename_i hb
   rw[List.getElem?_eq_none (l:=h) (by omega)]
   cases hq: (List.replicate k (none:Option (List C)))[b - h.length]? with
   |none=>rfl
   |some x=>
    have:=List.mem_of_getElem? hq
    rw[List.eq_of_mem_replicate this]
    rfl
theorem jI {h:Hp}{k b:Nat}:Hp.mp (h++List.replicate k none) b=h.mp b:=by
 unfold Hp.mp
 rcases Nat.lt_or_ge b h.length with hl|hl
 . rw[List.getElem?_append_left hl]
 . rw[List.getElem?_append_right hl,List.getElem?_eq_none hl]
   cases hq: (List.replicate k (none:Option (List C)))[b - h.length]? with
   |none=>rfl
   |some x=>
    have:=List.mem_of_getElem? hq
    rw[List.eq_of_mem_replicate this]
    rfl
theorem WorldOK.reserve {h:Hp}(H:WorldOK G h w)(k:Nat):WorldOK G (h++List.replicate k none) w:=
 ⟨H.known,fun b c hb=>H.box b c (by rwa [fJ] at hb),fun b blk hb=>⟨by
   obtain ⟨⟨c,hc⟩,_⟩:=H.dom b blk hb
   exact ⟨c,by rw[List.getElem?_append_left (List.getElem?_eq_some_iff.1 hc).1];exact hc⟩,(H.dom b blk hb).2⟩,fun b b' c c' blk x x'=>H.inj b b' c c' blk (by rwa [fJ] at x) (by rwa [fJ] at x'),H.sep,H.tlt,
   fun b cells off s n xs blk v hb hc hm hv=>H.own b cells off s n xs blk v (by rwa [fJ] at hb) hc hm hv,H.siz,H.mpoT (fun b l x=>by rwa [jI] at x) (fun _ _ _ x=>x) (.refl G),H.mpiT (fun b l x=>by rwa [jI] at x) (fun _ _ _ _ x=>x)⟩
theorem Sim.reserve (H:Sim cx G w st a)(k:Nat):Sim cx G w ⟨st.env,st.h++List.replicate k none⟩ a:=
 ⟨H.defers,H.size,H.pre.ok.reserve k,H.pre.env,H.pre.glob⟩
theorem Sim.drew (H:Sim cx G w st a):Sim cx G w.drew st a∧Frm G w G w.drew:=by
 have e:Ext G w G w.drew:=Ext.same rfl rfl rfl rfl
 exact ⟨⟨H.defers.frm (e.frm H.pre.ok),H.size,H.pre.ok.same rfl,e.env H.pre.ok H.pre.env,H.pre.glob⟩,e.frm H.pre.ok⟩
theorem xj (hcx:CxOK cx){r:Option Nat}(H:Sim cx G w st a){id:Nat}{ops:Array Oper}{st':St}(h:mb cx ops st=some st'){Q:Exit→Act→World→Prop}
 (hQ:∀G' w' a',Sim cx G' w' st' a'→Frm G w G' w'→a'.defers=a.defers→Q .normal a' w'): (Code.region id ops false).wpIn (wF r) 0 cx.P Q a w:=
 wpIn_region (rU hcx _ (H.reserve _) h hQ)
end
end Go.Sx
