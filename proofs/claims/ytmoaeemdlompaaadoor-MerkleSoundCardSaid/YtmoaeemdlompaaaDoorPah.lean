/-
   And what follows.
-/
import Derived.Test.YtmoaeemdlompaaaDoorPag
set_option linter.unusedSimpArgs false
set_option linter.unusedVariables false
namespace Go.Sx
open Go.RowKit
def Kn (body:St→Option (Ex×St)) :Nat→St→Option (Ex×St)
 |0,_=>none
 |n+1,st=>match body st with
  |some (.normal,st') =>Kn body n st'
  |r=>r
def np (cx:Cx) (n:Nat) :Code→St→Option (Ex×St)
 | .skip,st=>some (.normal,st)
 | .label _,st=>some (.normal,st)
 | .region _ ops draw,st=>if draw then (if eJ ops=true then (lE cx ops st).map fun s=> (.normal,s) else none) else (qe cx ops st).map fun s=> (.normal,s)
 | .seq a b,st=>match np cx n a st with
   |some (.normal,st') =>np cx n b st'
   |r=>r
 | .cond c a b,st=>match cx.ev st.env c with
   | .val (.bool true) =>np cx n a st
   | .val (.bool false) =>np cx n b st
   |_=>none
 | .block id c,st=>match np cx n c st with
   |some (.exit k,st') =>if k=id then some (.normal,st') else some (.exit k,st')
   |r=>r
 | .scope c,st=>np cx n c st
 | .loop c,st=>Kn (np cx n c) n st
 | .exit id,st=>some (.exit id,st)
 | .ret,st=>some (.ret,st)
 |_,_=>none
section
variable {cx:Cx} {n:Nat} {st:St} {Q:Ex→St→Prop} {G:Gh} {w:World} {a:Act}
theorem zk (H:Sim cx G w st a) {r:ResultVar} {c:C} (h:eX cx st r=some c) :
 ∃v,(match r with| .tmp t=>pure (a.tmps.getD t undef) | .cell p t=>do loadVar t (←asAddr (a.tmps.getD p undef)) :Sem Value).run cx.P w= .ok v w∧Rep G c v∧
  (∀s m xs,c= .sl (.own s) m xs→∃t,r= .tmp t∧OwnRow G w (0,t,0) v s m) :=by
 unfold eX at h
 cases r with
 |tmp t=>
  simp only[Option.some.injEq] at h
  subst h
  exact ⟨a.tmps.getD t undef,rfl,H.pre.env.1 t,fun s m xs e=> ⟨t,rfl,H.pre.env.2 t s m xs e⟩⟩
 |cell p t=>
  simp only[] at h
  split at h
  · rename_i d b off hd he
    cases hb:st.h.at b with
    |none=>rw[hb] at h;cases h
    |some cells=>
     rw[hb] at h
     simp only[Option.bind_some] at h
     have hr:=H.pre.env.1 p
     rw[he] at hr
     simp only[Rep] at hr
     obtain ⟨blk,hμ,hv⟩ :=hr
     obtain ⟨cs,e,q1,q2,q3,q4,q5,q6⟩ :=jb H.pre.ok hb hμ
     obtain ⟨v,hv1,hv2,hv3⟩ :=nd (P:=cx.P) (w:=w) (blk:=blk) (o0:=0) hd q2 (fun u hu=>q3 u (List.mem_of_mem_take hu)) (fun j u hu=>by rw[Nat.zero_add];exact q4 j u hu) h
     rw[Nat.zero_add] at hv1
     refine ⟨v,?_,hv2,fun s m xs e=>by rw[e] at hv3;exact hv3.elim⟩
     have hv':a.tmps.getD p undef= .pointer (some ⟨blk,off,none⟩) :=hv
     simp only[Sem.run_bind,hv',asAddr,Sem.run_pure,Result.andThen_ok]
     simpa[Instr.loadAt,Instr.sureAddr] using hv1
  · cases h
theorem zl (H:Sim cx G w st a) : ∀ (rs:List ResultVar) {cs:List C},rs.mapM (eX cx st) =some cs→
 ∃vs:List Value,(rs.mapM (fun r=> (match r with| .tmp t=>pure (a.tmps.getD t undef) | .cell p t=>do loadVar t (←asAddr (a.tmps.getD p undef)) :Sem Value))).run cx.P w= .ok vs w∧RepL G cs vs
 | [],cs,h=>by
   simp at h;subst h;exact ⟨[],by simp,by simp[RepL]⟩
 |r::rs,cs,h=>by
  simp only[List.mapM_cons,Option.bind_eq_bind,Option.pure_def] at h
  cases hr:eX cx st r with
  |none=>simp[hr] at h
  |some c=>
   cases hrs:rs.mapM (eX cx st) with
   |none=>simp[hr,hrs] at h
   |some cs'=>
    simp[hr,hrs] at h
    subst h
    obtain ⟨v,h1,h2,_⟩ :=zk H hr
    obtain ⟨vs,h3,h4⟩ :=zl H rs hrs
    refine ⟨v::vs,?_,by simp only[RepL];exact ⟨v,vs,rfl,h2,h4⟩⟩
    simp only[List.mapM_cons,Sem.run_bind,h1,Result.andThen_ok,h3,Sem.run_pure]
theorem Bl (H:Sim cx G w st a) {fn:Func} {c:C} (h:results cx fn st=some c) :
 ∃v G',(Go.results fn a.tmps).run cx.P w= .ok v w∧Rep G' c v∧(∀s m xs,c= .sl (.own s) m xs→OwnRow G' w (2,0,0) v s m)∧WorldOK G' st.h w∧FrmN n G w G' w∧(∀c' v',Rep G c' v'→Rep G' c' v')∧G'.μ=G.μ:=by
 unfold results at h
 unfold Go.results
 have hl: (fn.results.mapM (fun r=> (match r with| .tmp t=>pure (a.tmps.getD t undef) | .cell p t=>do loadVar t (←asAddr (a.tmps.getD p undef)) :Sem Value))).run cx.P w=
  ((fn.results.toList.mapM (fun r=> (match r with| .tmp t=>pure (a.tmps.getD t undef) | .cell p t=>do loadVar t (←asAddr (a.tmps.getD p undef)) :Sem Value))).run cx.P w).andThen fun vs w'=> .ok vs.toArray w':=by
  rw[Array.mapM_eq_mapM_toList,Sem.run_map]
 split at h
 · rename_i r hrs
   obtain ⟨v,h1,h2,h3⟩ :=zk H h
   have hrun: (fn.results.mapM (fun r=> (match r with| .tmp t=>pure (a.tmps.getD t undef) | .cell p t=>do loadVar t (←asAddr (a.tmps.getD p undef)) :Sem Value))).run cx.P w= .ok #[v] w→
    ((do let vs ←fn.results.mapM (fun r=> (match r with| .tmp t=>pure (a.tmps.getD t undef) | .cell p t=>do loadVar t (←asAddr (a.tmps.getD p undef)) :Sem Value));pure (if h:vs.size=1 then vs[0] else .tuple vs)) :Sem Value).run cx.P w= .ok v w:=fun hq=>by
    simp only[Sem.run_bind,hq,Result.andThen_ok,Sem.run_pure]
    rfl
   have hone:=hrun (by rw[hl,hrs];simp only[List.mapM_cons,List.mapM_nil,Sem.run_bind,h1,Result.andThen_ok,Sem.run_pure])
   by_cases hno:c.noOwn
   · exact ⟨v,G,hone,h2,fun s m xs e=>by rw[e] at hno;exact hno.elim,H.pre.ok,FrmN.refl n G w,fun _ _ x=>x,rfl⟩
   · obtain ⟨s,m,xs,hs⟩ : ∃s m xs,c= .sl (.own s) m xs:=by
      cases c with
      |sl r m xs=>cases r with
       |own s=>exact ⟨_,_,_,rfl⟩
       |no=>exact absurd trivial hno
       |full=>exact absurd trivial hno
      |_=>exact absurd trivial hno
     obtain ⟨t,rfl,O⟩ :=h3 s m xs hs
     rcases O with O| ⟨g,cap,cur,e,a1,a2,a3,a4,a5,a6⟩
     · exact ⟨v,G,hone,h2,fun s' m' xs' e=>by rw[hs] at e;cases e;exact .inl O,H.pre.ok,FrmN.refl n G w,fun _ _ x=>x,rfl⟩
     · have le:G.Le (dr G g (some (2,0,0))) := ⟨fun _ _ _ x=>x,fun _ _ x=>x,fun _ _ x=>x⟩
       refine ⟨v,dr G g (some (2,0,0)),hone,h2.mono le,fun s' m' xs' e'=> ?_,x8 H.pre.ok a2,.of (oB a2),fun c' v' x=>x.mono le,rfl⟩
       rw[hs] at e'
       cases e'
       exact .inr ⟨g,cap,cur,e,a1,by simp[dr],a3,a4,a5,a6⟩
 · rename_i rs hrs
   cases hm:fn.results.toList.mapM (eX cx st) with
   |none=>rw[hm] at h;cases h
   |some cs=>
    rw[hm] at h
    simp only[Option.map_some,Option.some.injEq] at h
    subst h
    obtain ⟨vs,h1,h2⟩ :=zl H _ hm
    refine ⟨.tuple vs.toArray,G,?_,?_,(fun s m xs e=>by cases e),H.pre.ok,FrmN.refl n G w,fun _ _ x=>x,rfl⟩
    · have:=hl
      rw[h1] at this
      simp only[Result.andThen_ok] at this
      have hlen:vs.length≠1:=by
       intro e
       have h3:=h2.length
       have h4:cs.length=fn.results.toList.length:=by
        have key: ∀ (l:List ResultVar) (ds:List C),l.mapM (eX cx st) =some ds→ds.length=l.length:=by
         intro l
         induction l with
         |nil=>intro ds hd;simp at hd;subst hd;rfl
         |cons r l ih=>
          intro ds hd
          simp only[List.mapM_cons,Option.bind_eq_bind,Option.pure_def] at hd
          cases hr:eX cx st r with
          |none=>simp[hr] at hd
          |some c=>
           cases hrs:l.mapM (eX cx st) with
           |none=>simp[hr,hrs] at hd
           |some ds'=>simp[hr,hrs] at hd;subst hd;simp[ih ds' hrs]
        exact key _ _ hm
       have h5:fn.results.toList.length=1:=by omega
       obtain ⟨r,hr⟩ :=List.length_eq_one_iff.1 h5
       exact hrs r hr
      have hrun: ((do let vs ←fn.results.mapM (fun r=> (match r with| .tmp t=>pure (a.tmps.getD t undef) | .cell p t=>do loadVar t (←asAddr (a.tmps.getD p undef)) :Sem Value));pure (if h:vs.size=1 then vs[0] else .tuple vs)) :Sem Value).run cx.P w= .ok (.tuple vs.toArray) w:=by
       simp only[Sem.run_bind,this,Result.andThen_ok,Sem.run_pure]
       rw[dif_neg (by simpa using hlen)]
      exact hrun
    · simp only[Rep]
      exact ⟨_,rfl,by simpa using h2.map_noR⟩
def Sv (cx:Cx) (fn:Func) (k:Nat) (c:C) (h':Hp) :Ex→St→Prop
 | .exit _,_=>False
 |_,st'=>results cx fn st'=some c∧((st'.h.take k=h'∧aG k c=true∧∀ (b:Nat) cells,b< k→st'.h[b]? =some (some cells)→noRefs k cells=true)∨st'.h=h')
theorem Gj {f:Nat} {fn:Func} {code:Code} {args:List C} {h h':Hp} {c:C} (hf:cx.P.funcs[f]? =some fn) (hn: (fn.name== "runtime.NumGoroutine") =false) (hb:fn.body=some code)
 (hlen:args.length≤fn.ntmps) (hT:Tr { cx with N:=fn.ntmps } h.length code ⟨init args,h⟩ (Sv cx fn h.length c h')) :FC cx.P cx.gl f args h c h':=by
 refine ⟨⟨fn,hf,hn,by rw[hb];rfl⟩,fun G w vs W hTg hgl hr=> ?_⟩
 have hvl:vs.size=args.length:=by rw[hr.length];simp
 refine calls_of_wp hf hb ?_
 have hsim:Sim { cx with N:=fn.ntmps } G w ⟨init args,h⟩ { tmps:=vs++Array.replicate (fn.ntmps - vs.size) undef,defers:= [] } :=by
  refine ⟨rfl,by simp;omega,W,⟨fun t=> ?_,fun t s m xs e=> (jP e).elim⟩,hgl⟩
  simp only[init,av,Array.getD_eq_getD_getElem?]
  refine Rep.noR ?_
  cases hq:args[t]? with
  |some x=>
   obtain ⟨v,hv,hrv⟩ :=hr.get t x hq
   have hlt:t< vs.size:=by
    have:= (List.getElem?_eq_some_iff.1 hv).1
    simpa using this
   rw[Array.getElem?_append_left hlt]
   have hv':vs[t]? =some v:=by simpa using hv
   rw[hv']
   exact hrv
  |none=>
   have hge:vs.size≤t:=by
    have:=List.getElem?_eq_none_iff.1 hq
    omega
   rw[Array.getElem?_append_right hge]
   simp only[Option.getD_none]
   rw[aY]
   cases hq2: (Array.replicate (fn.ntmps - vs.size) undef)[t - vs.size]? with
   |none=>rfl
   |some u=>
    rw[Array.getElem?_replicate] at hq2
    split at hq2
    · cases hq2;rfl
    · cases hq2
 have fin: ∀ (st':St) (G':Gh) (w':World) (a':Act),(results cx fn st'=some c∧((st'.h.take h.length=h'∧aG h.length c=true∧∀ (b:Nat) cells,b< h.length→st'.h[b]? =some (some cells)→noRefs h.length cells=true)∨st'.h=h'))→
  Sim { cx with N:=fn.ntmps } G' w' st' a'→FrmN h.length G w G' w'→
  a'.defers= []∧∃v,(Go.results fn a'.tmps).run cx.P w'= .ok v w'∧∃v' G',Ending.returned v= .returned v'∧Rep G' c v'∧(∀s n xs,c= .sl (.own s) n xs→OwnRow G' w' (2,0,0) v' s n)∧WorldOK G' h' w'∧Frm G w G' w':=by
  rintro st' G' w' a' ⟨hres,hend⟩ S F
  obtain ⟨v,G2,r1,r2,r3,r4,r5,r6,r7⟩ :=Bl (cx:= { cx with N:=fn.ntmps }) (n:=h.length) S (fn:=fn) (c:=c) hres
  have F2:=F.trans r5
  have full: ∀G3,FrmN h.length G w G3 w'→Frm G w G3 w':=fun G3 F3=>
   ⟨F3.os,F3.tape,F3.output,F3.size,⟨F3.K,fun b k hm=>F3.μ b k (by
     obtain ⟨⟨cells,hc⟩,_⟩ :=W.dom b k hm
     exact (List.getElem?_eq_some_iff.1 hc).1) hm,fun b z hz=>F3.σ b z (by
     obtain ⟨k,_,_,_,hm,_⟩ :=W.siz b z hz
     obtain ⟨⟨cells,hc⟩,_⟩ :=W.dom b k hm
     exact (List.getElem?_eq_some_iff.1 hc).1) hz⟩,F3.old⟩
  refine ⟨S.defers,v,r1,?_⟩
  rcases hend with ⟨rfl,hnc,hnb⟩ |rfl
  · exact ⟨v,da G2 h.length,rfl,eI _ _ hnc r2,fun s m xs e=> (r3 s m xs e).cut _,r4.cut _ hnb,full _ (F2.trans (xM (Nat.le_refl _)))⟩
  · exact ⟨v,G2,rfl,r2,r3,r4,full _ F2⟩
 refine hT G w _ hsim _ fun x st' G' w' a' hx S F=> ?_
 cases x with
 |exit k=>exact hx.elim
 |normal=>exact fin st' G' w' a' hx S F
 |ret=>exact fin st' G' w' a' hx S F
end
end Go.Sx
namespace Go.Sx
open Go.RowKit
theorem un (ops:Array Oper) (d:Option Nat) :we ops d= (match d with|some t=> (ops.toList.filterMap d8).contains t|none=>false) :=by
 cases d<;>rfl
def splanA (cx:Cx) (apps:List Nat) (o:Oper) (env:Nat→C) :Option Plan:=
 match o.op with
 | .move (.tmp p) =>some (if ((match o.dst with|some t=>apps.contains t|none=>false) || (match o.dst.map (· +1000000) with|some t=>apps.contains t|none=>false)) then .val (env p) (some p) else .pure (env p).noR)
 | .load t x=>loadPlan cx.P (match o.dst with|some t=>apps.contains t|none=>false) t (cx.evn env x)
 |_=>splan cx #[] o env
theorem uo (cx:Cx) (ops:Array Oper) (o:Oper) (env:Nat→C) :splanA cx (ops.toList.filterMap d8) o env=splan cx ops o env:=by
 unfold splanA
 split
 · rename_i p ho
   unfold splan
   rw[ho]
   simp only[Gl,un]
   rfl
 · rename_i t x ho
   unfold splan
   rw[ho]
   simp only[un]
   rfl
 · rename_i h1 h2
   unfold splan
   simp only[]
   split<;>first|rfl|skip
   · rename_i x ho
     cases x with
     |tmp p=>exact absurd ho (h1 p)
     |_=>rfl
   · rename_i t x ho
     exact absurd ho (h2 t x)
def g4 (dsts:List (Option Nat)) (g:Option (Nat×Bool)) (env:Nat→C) :Option Bool:=
 match g with
 |none=>some true
 |some (j,want) =>match (dsts[j]?).bind id with
  |none=>some false
  |some t=>match (env t).noR with
   | .val (.bool b) =>some (b==want)
   | .val (.tuple _) =>some false
   |_=>none
theorem sw (ops:Array Oper) (o:Oper) (env:Nat→C) :g4 (ops.toList.map (·.dst)) o.guard env=eP ops o env:=by
 unfold g4 eP
 cases o.guard with
 |none=>rfl
 |some g=>
  obtain ⟨j,want⟩ :=g
  simp only[]
  have: ((ops.toList.map (·.dst))[j]?).bind id= (ops[j]?).bind (·.dst) :=by
   rw[List.getElem?_map,Array.getElem?_toList]
   cases ops[j]? <;>rfl
  rw[this]
  rfl
def Gk (cx:Cx) (id:Nat) (d:Option Nat) (st:St) (K:St→Prop) (p:Option Plan) :Prop:=
 match p with
 |none=>False
 |some p=>match bY cx id p st.h with
  |none=>False
  |some (c,k,h') =>K ⟨put d c (cy k st.env),h'⟩
def mg (cx:Cx) (apps:List Nat) (dsts:List (Option Nat)) :List Oper→Nat→St→(St→Prop)→Prop
 | [],_,st,K=>K st
 |o::l,id,st,K=>j3 cx.N o.dst=true∧match g4 dsts o.guard st.env with
  |none=>False
  |some false=>mg cx apps dsts l (if eM o then id+1 else id) ⟨put o.dst (.val undef) st.env,st.h⟩ K
  |some true=>Gk cx id o.dst st (fun s=>mg cx apps dsts l (if eM o then id+1 else id) s K) (splanA cx apps o st.env)
theorem xN (ops:Array Oper) (k:Nat) (o:Oper) (h:ops[k]? =some o) :eF ops (k+1) =if eM o then eF ops k+1 else eF ops k:=by
 unfold eF
 have h':ops.toList[k]? =some o:=by simpa using h
 rw[List.take_add_one,h']
 simp only[Option.toList_some,List.countP_append,List.countP_singleton]
 split<;>simp
theorem sx {cx:Cx} {ops:Array Oper} {base:Nat} {K:St→Prop} : ∀ (l:List Oper) (k:Nat) (st:St),ops.toList.drop k=l→
 mg cx (ops.toList.filterMap d8) (ops.toList.map (·.dst)) l (base+eF ops k) st K→∃st',lZ cx ops base (List.range' k l.length) st=some st'∧K st'
 | [],k,st,_,h=> ⟨st,rfl,h⟩
 |o::l,k,st,hl,h=>by
  have hk:ops[k]? =some o:=by
   have: (ops.toList.drop k)[0]? =some o:=by rw[hl];rfl
   rw[List.getElem?_drop] at this
   simpa using this
  have hl':ops.toList.drop (k+1) =l:=by rw[←List.drop_drop,hl];rfl
  simp only[mg] at h
  obtain ⟨hd,h⟩ :=h
  rw[sw,uo] at h
  have hid: (if eM o then base+eF ops k+1 else base+eF ops k) =base+eF ops (k+1) :=by
   rw[xN ops k o hk];split<;>omega
  rw[hid] at h
  simp only[List.length_cons,List.range'_succ,lZ]
  have next: ∀s,mg cx (ops.toList.filterMap d8) (ops.toList.map (·.dst)) l (base+eF ops (k+1)) s K→lJ cx ops base k st=some s→∃st',(lJ cx ops base k st).bind (lZ cx ops base (List.range' (k+1) l.length)) =some st'∧K st':=fun s hs hst=>by
   obtain ⟨st',h1,h2⟩ :=sx l (k+1) s hl' hs
   exact ⟨st',by rw[hst];exact h1,h2⟩
  cases hw:eP ops o st.env with
  |none=>rw[hw] at h;exact h.elim
  |some b=>
   rw[hw] at h
   cases b with
   |false=>
    refine next _ h ?_
    unfold lJ
    rw[hk]
    simp only[hd,if_true,hw]
   |true=>
    simp only[Gk] at h
    cases hp:splan cx ops o st.env with
    |none=>rw[hp] at h;exact h.elim
    |some p=>
     rw[hp] at h
     simp only[] at h
     cases ha:bY cx (base+eF ops k) p st.h with
     |none=>rw[ha] at h;exact h.elim
     |some r=>
      rw[ha] at h
      refine next _ h ?_
      unfold lJ
      rw[hk]
      simp only[hd,if_true,hw,hp,dg,ha,Option.map_some]
theorem Bm {cx:Cx} {n:Nat} {st:St} {Q:Ex→St→Prop} (hcx:CxOK cx) {id:Nat} {l:List Oper} (h:mg cx (l.filterMap d8) (l.map (·.dst)) l st.h.length ⟨st.env,st.h++List.replicate (l.countP eM) none⟩ (Q .normal)) :
 Tr cx n (.region id l.toArray false) st Q:=by
 have h':mg cx (l.toArray.toList.filterMap d8) (l.toArray.toList.map (·.dst)) l (st.h.length+eF l.toArray 0) ⟨st.env,st.h++List.replicate (l.countP eM) none⟩ (Q .normal) :=by simpa[eF] using h
 obtain ⟨st',h1,h2⟩ :=sx l 0 _ (by simp) h'
 refine Tr.region hcx (st':=st') ?_ h2
 unfold qe
 have hc:eF l.toArray l.toArray.size=l.countP eM:=by simp[eF]
 rw[hc,List.range_eq_range']
 simpa using h1
def jZ (cx:Cx) (id:Nat) (d:Option Nat) (st:St) (K:FP→St→Prop) (p:Option Plan) :Prop:=
 match p with
 |none=>False
 |some p=>match bY cx id p st.h with
  |none=>False
  |some (c,k,h') =>K (cM id st.h p) ⟨put d c (cy k st.env),h'⟩
def gq (cx:Cx) (apps:List Nat) (dsts:List (Option Nat)) :List Oper→Nat→St→List FP→(List FP→St→Prop)→Prop
 | [],_,st,fs,K=>K fs st
 |o::l,id,st,fs,K=>j3 cx.N o.dst=true∧match g4 dsts o.guard st.env with
  |none=>False
  |some false=>gq cx apps dsts l (if eM o then id+1 else id) ⟨put o.dst (.val undef) st.env,st.h⟩ ((0,0) ::fs) K
  |some true=>jZ cx id o.dst st (fun f s=>gq cx apps dsts l (if eM o then id+1 else id) s (f::fs) K) (splanA cx apps o st.env)
theorem up {cx:Cx} {ops:Array Oper} {base:Nat} {K:List FP→St→Prop} : ∀ (l:List Oper) (k:Nat) (st:St) (fs:List FP),ops.toList.drop k=l→
 gq cx (ops.toList.filterMap d8) (ops.toList.map (·.dst)) l (base+eF ops k) st fs K→∃st' gs,js cx ops base (List.range' k l.length) st=some (st',gs)∧K (gs.reverse++fs) st'
 | [],k,st,fs,_,h=> ⟨st,[],rfl,h⟩
 |o::l,k,st,fs,hl,h=>by
  have hk:ops[k]? =some o:=by
   have: (ops.toList.drop k)[0]? =some o:=by rw[hl];rfl
   rw[List.getElem?_drop] at this
   simpa using this
  have hl':ops.toList.drop (k+1) =l:=by rw[←List.drop_drop,hl];rfl
  simp only[gq] at h
  obtain ⟨hd,h⟩ :=h
  rw[sw,uo] at h
  have hid: (if eM o then base+eF ops k+1 else base+eF ops k) =base+eF ops (k+1) :=by
   rw[xN ops k o hk];split<;>omega
  rw[hid] at h
  simp only[List.length_cons,List.range'_succ,js]
  have next: ∀s f,gq cx (ops.toList.filterMap d8) (ops.toList.map (·.dst)) l (base+eF ops (k+1)) s (f::fs) K→gE cx ops base k st=some (s,f)→
   ∃st' gs,(match gE cx ops base k st with|none=>none|some (st',f) => (js cx ops base (List.range' (k+1) l.length) st').map fun r=> (r.1,f::r.2)) =some (st',gs)∧K (gs.reverse++fs) st':=fun s f hs hst=>by
   obtain ⟨st',gs,h1,h2⟩ :=up l (k+1) s (f::fs) hl' hs
   refine ⟨st',f::gs,by rw[hst];simp only[h1,Option.map_some],?_⟩
   simpa using h2
  cases hw:eP ops o st.env with
  |none=>rw[hw] at h;exact h.elim
  |some b=>
   rw[hw] at h
   cases b with
   |false=>
    refine next _ _ h ?_
    unfold gE oq
    rw[hk]
    simp only[hd,if_true,hw,Option.map_some,cy]
   |true=>
    simp only[jZ] at h
    cases hp:splan cx ops o st.env with
    |none=>rw[hp] at h;exact h.elim
    |some p=>
     rw[hp] at h
     simp only[] at h
     cases ha:bY cx (base+eF ops k) p st.h with
     |none=>rw[ha] at h;exact h.elim
     |some r=>
      rw[ha] at h
      refine next _ _ h ?_
      unfold gE oq
      rw[hk]
      simp only[hd,if_true,hw,hp,ha,Option.map_some]
theorem yK {cx:Cx} {n:Nat} {st:St} {Q:Ex→St→Prop} (hcx:CxOK cx) (hm:cx.P.follows .mixedOrders=true) {id:Nat} {l:List Oper} (hs:eJ l.toArray=true)
 (h:gq cx (l.filterMap d8) (l.map (·.dst)) l st.h.length ⟨st.env,st.h++List.replicate (l.countP eM) none⟩ [] (fun fs s=>gp l.toArray fs.reverse=true∧Q .normal s)) :
 Tr cx n (.region id l.toArray true) st Q:=by
 have h':gq cx (l.toArray.toList.filterMap d8) (l.toArray.toList.map (·.dst)) l (st.h.length+eF l.toArray 0) ⟨st.env,st.h++List.replicate (l.countP eM) none⟩ [] (fun fs s=>gp l.toArray fs.reverse=true∧Q .normal s) :=by simpa[eF] using h
 obtain ⟨st',gs,h1,h2,h3⟩ :=up l 0 _ [] (by simp) h'
 refine Bj hcx hm (st':=st') hs ?_ h3
 unfold lE
 have hc:eF l.toArray l.toArray.size=l.countP eM:=by simp[eF]
 rw[hc,List.range_eq_range']
 have h1':js cx l.toArray st.h.length (List.range' 0 l.toArray.size) ⟨st.env,st.h++List.replicate (l.countP eM) none⟩ =some (st',gs) :=by simpa using h1
 rw[h1']
 simp only[List.append_nil,List.reverse_reverse] at h2
 simp only[h2,if_true]
theorem FC.of {cx:Cx} {f:Nat} {fn:Func} {code:Code} {args:List C} {h h':Hp} {c:C} (hN:cx.N=fn.ntmps) (hf:cx.P.funcs[f]? =some fn) (hn: (fn.name== "runtime.NumGoroutine") =false) (hb:fn.body=some code)
 (hlen:args.length≤fn.ntmps) (hT:Tr cx h.length code ⟨init args,h⟩ (Sv cx fn h.length c h')) :FC cx.P cx.gl f args h c h':=by
 refine Gj hf hn hb hlen ?_
 obtain ⟨P,N,gl,pu,hp⟩ :=cx
 simp only[] at hN
 subst hN
 exact hT
theorem ae {cx:Cx} {n:Nat} {st:St} {Q:Ex→St→Prop} {a b:Code} (h: ∀K:St→Prop,(∀s,Tr cx n b s Q→K s)→Tr cx n a st (nl K Q)) :Tr cx n (.seq a b) st Q:=
 Tr.seq (h _ fun _ x=>x)
end Go.Sx
namespace Go.Sx
open Go.RowKit
def A:List (Nat×C)→Nat→C
 | [],_=> .top
 | (k,c) ::l,t=>if t=k then c else A l t
def Le (env:Nat→C) :List (Nat×C)→Prop
 | [] =>True
 | (k,c) ::l=>CLe (env k) c∧Le env l
theorem Le.spec {env:Nat→C} : ∀ {l:List (Nat×C)},Le env l→∀t,CLe (env t) (A l t)
 | [],_,t=>CLe.top _
 | (k,c) ::l,h,t=>by
   unfold A
   split
   · rename_i e;subst e;exact h.1
   · exact Le.spec h.2 t
section
variable {cx:Cx} {n:Nat} {st:St} {Q:Ex→St→Prop}
theorem Tr.live {c:Code} (l:List (Nat×C)) (h:Le st.env l) (k:Tr cx n c ⟨A l,st.h⟩ Q) :Tr cx n c st Q:=
 lX (fun t=>h.spec t) k
def At {α:Type} (I:α→List (Nat×C)) (H:α→Hp) (ok:α→Prop) (s:St) :Prop:= ∃a,ok a∧Le s.env (I a)∧s.h=H a
theorem cm {α:Type} (I:α→List (Nat×C)) (H:α→Hp) (ok:α→Prop) (μ:α→Nat) {c:Code} (a:α) (h0:ok a) (hl:Le st.env (I a)) (hh:st.h=H a)
 (hb: ∀a,ok a→Tr cx n c ⟨A (I a),H a⟩ (nl (At I H fun a'=>ok a'∧μ a'< μ a) Q)) :Tr cx n (.loop c) st Q:=by
 refine Tr.loop (fun m s=> ∃a,μ a=m∧ok a∧Le s.env (I a)∧s.h=H a) (μ a) ⟨a,rfl,h0,hl,hh⟩ ?_
 rintro m s ⟨a,rfl,h1,h2,h3⟩
 refine Tr.live _ h2 ?_
 rw[h3]
 refine (hb a h1).mono fun e s q=> ?_
 cases e with
 |normal=>
  obtain ⟨a',⟨q1,q2⟩,q3,q4⟩ :=q
  exact ⟨μ a',q2,a',rfl,q1,q3,q4⟩
 |exit id=>exact q
 |ret=>exact q
end
theorem FC.frame {P:Program} {gl:Nat→C} {f:Nat} {args:List C} {c:C} (hf:FC P gl f args [] c []) (ha:noRefs 0 args=true) (hg: ∀g,aG 0 (gl g) =true) (h:Hp) :FC P gl f args h c h:=by
 obtain ⟨he,hf⟩ :=hf
 refine ⟨he,fun G w vs W hTg hgl hr=> ?_⟩
 have le1: (da G 0).Le { K:=G.K,μ:=fun _=>none,T:=fun _=>none } := ⟨fun _ _ _ x=>x,fun b k x=>by simp[da] at x,fun b k x=>by simp[da] at x⟩
 have hn: ∀b,Hp.at [] b=none:=fun b=>by simp[Hp.at]
 refine Calls.mono (hf { K:=G.K,μ:=fun _=>none,T:=fun _=>none } w vs ⟨W.known,(fun b cells x=>by rw[hn] at x;cases x),(fun b blk x=>by cases x),(fun b b' c c' blk _ _ x=>by cases x),(fun b blk x=>by cases x),(fun g p x=>by cases x),(fun b cells off s n xs blk v x=>by rw[hn] at x;cases x),(fun b z x=>by cases x),(fun b l x=>by simp[Hp.mp] at x),(fun b b' l l' blk x=>by simp[Hp.mp] at x)⟩
  (fun g p x=>by cases x) (fun g=> (eI _ _ (hg g) (hgl g)).mono le1) ((noRef_repL _ _ ha hr).mono le1)) ?_
 rintro e w' ⟨v,G2,rfl,rv,ro,W2,F⟩
 have hμ2: ∀b k,G2.μ b≠some k:=fun b k x=>by
  obtain ⟨⟨cells,hc⟩,_⟩ :=W2.dom b k x
  simp at hc
 have hσ2: ∀b k,G2.σ b≠some k:=fun b k x=>by
  obtain ⟨blk,_,_,_,q,_⟩ :=W2.siz b k x
  exact hμ2 b blk q
 have old:=fun g (hg:g< w.heap.size) =>F.old g hg rfl (fun b x=>by cases x)
 have hμlt: ∀b blk,G.μ b=some blk→blk< w.heap.size:=fun b blk x=>by
  exact (W.dom b blk x).2
 let G3:Gh:= { K:=G2.K,μ:=G.μ,T:=fun g=>if g< w.heap.size then G.T g else G2.T g,σ:=G.σ }
 have le23:G2.Le G3:= ⟨fun _ _ _ x=>x,fun b k x=> (hμ2 b k x).elim,fun b k x=> (hσ2 b k x).elim⟩
 have le13:G.Le G3:= ⟨fun b o u x=>F.le.K b o u x,fun _ _ x=>x,fun _ _ x=>x⟩
 refine ⟨v,G3,rfl,rv.mono le23,fun s n xs e=> ?_,⟨W2.known,fun b cells hc=> ?_,fun b blk x=> ⟨(W.dom b blk x).1,Nat.lt_of_lt_of_le (W.dom b blk x).2 F.size⟩,W.inj,fun b blk x=> ?_,fun g p x=> ?_,fun b cells off s n xs blk v hc hx hm hv=> ?_,fun b z hz=> ?_,fun b l hb=> (by obtain ⟨blk,es,clk,q1,q2,q3⟩ :=W.mpo b l hb;exact ⟨blk,es,clk,q1,(old blk (hμlt b blk q1)).1.trans q2,q3.mono le13⟩),W.mpi⟩,F.os,F.tape,F.output,F.size,le13,fun g hg ht hm=> ?_⟩
 · rcases ro s n xs e with O| ⟨g,cap,cur,e,a1,a2,a3,a4,a5,a6⟩
   · exact .inl O
   · refine .inr ⟨g,cap,cur,e,a1,?_,a3,a4,a5,fun b x=> ?_⟩
     · have: ¬g< w.heap.size:=fun hlt=>by rw[(old g hlt).2.1] at a2;cases a2
       show (if g< w.heap.size then G.T g else G2.T g) =_
       rw[if_neg this];exact a2
     · have hlt:=hμlt b g x
       rw[(old g hlt).2.1] at a2;cases a2
 · rcases W.box b cells hc with hE| ⟨blk,cs,e,q1,q2,q0,q3,q4⟩
   · exact .inl hE
   · exact .inr ⟨blk,cs,e,q1,by rw[(old blk (hμlt b blk q1)).1];exact q2,q0,q3.mono le13,q4⟩
 · have hlt:=hμlt b blk x
   refine ⟨fun o=> ((old blk hlt).2.2.2 o).trans ((W.sep b blk x).1 o),?_⟩
   show (if blk< w.heap.size then G.T blk else G2.T blk) =none
   rw[if_pos hlt]
   exact (W.sep b blk x).2
 · have x': (if g< w.heap.size then G.T g else G2.T g) =some p:=x
   split at x'
   · exact Nat.lt_of_lt_of_le (W.tlt g p x') F.size
   · exact W2.tlt g p x'
 · have hlt:=hμlt b blk hm
   have hv':w.cell? ⟨blk,off,none⟩ =some v:=by
    rw[←hv]
    unfold World.cell?
    rw[(old blk hlt).1]
   rcases W.own b cells off s n xs blk v hc hx hm hv' with O| ⟨g,cap,cur,e,a1,a2,a3,a4,a5,a6⟩
   · exact .inl O
   · have hlt:=W.tlt g _ a2
     refine .inr ⟨g,cap,cur,e,a1,?_,(old g hlt).1.trans a3,a4,fun o ho=> ((old g hlt).2.2.2 o).trans (a5 o ho),a6⟩
     show (if g< w.heap.size then G.T g else G2.T g) =_
     rw[if_pos hlt];exact a2
 · obtain ⟨blk,cs,e,fr,q1,q2,q3⟩ :=W.siz b z hz
   exact ⟨blk,cs,e,fr,q1,(old blk (hμlt b blk q1)).1.trans q2,q3⟩
 · obtain ⟨b1,b2,b3,b4⟩ :=old g hg
   refine ⟨b1,?_,hm,b4⟩
   show (if g< w.heap.size then G.T g else G2.T g) =none
   rw[if_pos hg];exact ht
end Go.Sx
namespace Go.Sx
open Go.RowKit
def fP:List Oper→Hp
 | [] => []
 |o::l=>if eM o then none::fP l else fP l
theorem qY: ∀l:List Oper,fP l=List.replicate (l.countP eM) none
 | [] =>rfl
 |o::l=>by
  unfold fP
  rw[List.countP_cons,qY l]
  split<;>simp_all [List.replicate_succ]
def cO:Nat→List C→List (Nat×C)
 |_,[] => []
 |k,c::cs=> (k,c.noR) ::cO (k+1) cs
theorem Kv: ∀ (l:List C) (k t:Nat),A (cO k l) t=if k≤t then (match l[t - k]? with|some c=>c.noR|none=> .top) else .top
 | [],k,t=>by simp[cO,A]
 |c::l,k,t=>by
  simp only[cO,A,Kv l (k+1) t]
  by_cases h:t=k
  · subst h;simp
  · simp only[if_neg h]
    by_cases h2:k≤t
    · have h3:k+1≤t:=by omega
      simp only[h2,h3,if_true]
      have:t - k= (t - (k+1))+1:=by omega
      rw[this];simp
    · have h3: ¬k+1≤t:=by omega
      simp only[h2,h3,if_false]
theorem CLe.init (args:List C) (t:Nat) :CLe (init args t) (A (cO 0 args) t) :=by
 rw[Kv]
 simp only[Nat.zero_le,if_true,Nat.sub_zero]
 unfold Sx.init
 cases args[t]? with
 |none=>exact CLe.top _
 |some c=>exact CLe.refl _
section
variable {cx:Cx} {n:Nat} {Q:Ex→St→Prop} {e:List (Nat×C)} {h:Hp}
theorem Sw (hcx:CxOK cx) {id:Nat} {l:List Oper} (H:mg cx (l.filterMap d8) (l.map (·.dst)) l h.length ⟨A e,h++fP l⟩ (Q .normal)) :Tr cx n (.region id l.toArray false) ⟨A e,h⟩ Q:=by
 rw[qY] at H
 exact Bm hcx H
theorem Mi (hcx:CxOK cx) (hm:cx.P.follows .mixedOrders=true) {id:Nat} {l:List Oper} (hs:eJ l.toArray=true)
 (H:gq cx (l.filterMap d8) (l.map (·.dst)) l h.length ⟨A e,h++fP l⟩ [] (fun fs s=>gp l.toArray fs.reverse=true∧Q .normal s)) :Tr cx n (.region id l.toArray true) ⟨A e,h⟩ Q:=by
 rw[qY] at H
 exact yK hcx hm hs H
theorem Tr.blk {id:Nat} {c:Code} {st:St} (H:Tr cx n c st (ow id Q)) :Tr cx n (.block id c) st Q:=Tr.block H
end
def jM (cx:Cx) (st:St) :List ResultVar→Option C
 | [r] =>eX cx st r
 |rs=> (rs.mapM (eX cx st)).map fun cs=> .tup (cs.map C.noR)
def Kw (cx:Cx) (rs:List ResultVar) (c:C) :Ex→St→Prop
 | .exit _,_=>False
 |_,st=>jM cx st rs=some c
theorem bZ {cx:Cx} {f:Nat} {fn:Func} {code:Code} {args:List C} {c:C} {rs:List ResultVar} (hN:cx.N=fn.ntmps) (hf:cx.P.funcs[f]? =some fn) (hn: (fn.name== "runtime.NumGoroutine") =false) (hb:fn.body=some code)
 (hrs:fn.results=rs.toArray) (hlen:args.length≤fn.ntmps) (hc:aG 0 c=true) (hT:Tr cx 0 code ⟨A (cO 0 args),[]⟩ (Kw cx rs c)) :FC cx.P cx.gl f args [] c [] :=by
 refine FC.of hN hf hn hb hlen ?_
 refine lX (fun t=>CLe.init args t) (hT.mono fun x st q=> ?_)
 have key:jM cx st rs=some c→results cx fn st=some c∧((st.h.take 0= []∧aG 0 c=true∧∀ (b:Nat) cells,b< 0→st.h[b]? =some (some cells)→noRefs 0 cells=true)∨st.h= []) :=fun q=>by
  refine ⟨?_,.inl ⟨by simp,hc,fun b cells hb=>absurd hb (Nat.not_lt_zero b)⟩⟩
  rw[←q]
  unfold results
  rw[hrs]
  rcases rs with _| ⟨r,_| ⟨r2,rs⟩⟩ <;>rfl
 cases x with
 |exit k=>exact q
 |normal=>exact key q
 |ret=>exact key q
theorem bD (k:Nat) (c:C) (l:List (Nat×C)) (t:Nat) :A ((k,c) ::l) t=if t=k then c else A l t:=rfl
theorem eV (env:Nat→C) :cy none env=env:=rfl
theorem zm (k:Nat) (l:List (Nat×C)) :cy (some k) (A l) =A ((k,(A l k).noR) ::l) :=by
 funext t
 simp only[cy,A]
theorem sy (cx:Cx) (env:Nat→C) (t:Nat) :cx.ev env (.tmp t) =env t:=rfl
open Classical in
noncomputable def ce {α:Type} (enc:α→List C) (out:α→C) (args:List C) :Option C:=
 if h: ∃a,enc a=args then some (out h.choose) else none
theorem bv {α:Type} {enc:α→List C} {out:α→C} (hi: ∀a b,enc a=enc b→out a=out b) (a:α) :ce enc out (enc a) =some (out a) :=by
 have h: ∃b,enc b=enc a:= ⟨a,rfl⟩
 unfold ce
 rw[dif_pos h]
 exact congrArg some (hi _ _ h.choose_spec)
theorem nu {α:Type} {enc:α→List C} {out:α→C} {args:List C} {c:C} (h:ce enc out args=some c) : ∃a,enc a=args∧out a=c:=by
 unfold ce at h
 split at h
 · rename_i h2;exact ⟨_,h2.choose_spec,Option.some.inj h⟩
 · cases h
def ext (pu:Nat→List C→Option C) (f:Nat) (sp:List C→Option C) :Nat→List C→Option C:=fun g args=>if g=f then sp args else pu g args
theorem bM {pu:Nat→List C→Option C} {f:Nat} {sp:List C→Option C} (args:List C) :ext pu f sp f args=sp args:=if_pos rfl
theorem aX {pu:Nat→List C→Option C} {f g:Nat} {sp:List C→Option C} (h:g≠f) (args:List C) :ext pu f sp g args=pu g args:=if_neg h
theorem CxOK.ext {P:Program} {km:TypeId→Value→Bool} {gl:Nat→C} {pu:Nat→List C→Option C} {hp:Nat→List C→Hp→Option (C×Hp)} {N M:Nat} (hcx:CxOK ⟨P,N,gl,pu,hp,fun _=>false,km⟩) (hg: ∀g,aG 0 (gl g) =true)
 {α:Type} {enc:α→List C} {out:α→C} {f:Nat} (he: ∀a,noRefs 0 (enc a) =true) (h: ∀a,FC P gl f (enc a) [] (out a) []) :CxOK ⟨P,M,gl,Sx.ext pu f (ce enc out),hp,fun _=>false,km⟩ :=by
 refine ⟨hg,fun g args c hc k=> ?_,fun g args k c k' hc=>hcx.hp g args k c k' hc,hcx.km⟩
 by_cases hgf:g=f
 · subst hgf
   have hc':ce enc out args=some c:=by rw[←hc];exact (bM args).symm
   obtain ⟨a,rfl,rfl⟩ :=nu hc'
   exact (h a).frame (he a) hg k
 · have hc':pu g args=some c:=by rw[←hc];exact (aX hgf args).symm
   exact hcx.pu g args c hc' k
theorem Bn {P:Program} {km:TypeId→Value→Bool} {gl:Nat→C} {N:Nat} (hg: ∀g,aG 0 (gl g) =true) (hk: ∀k u,km k u=true→Go.Maps.Keyed P k∧∃l,keyOf P k u=some l) :CxOK ⟨P,N,gl,fun _ _=>none,fun _ _ _=>none,fun _=>false,km⟩ :=
 ⟨hg,fun _ _ _ h _=> (Option.some_ne_none _ h.symm).elim,fun _ _ _ _ _ h=> (Option.some_ne_none _ h.symm).elim,hk⟩
theorem CxOK.zero {P:Program} {gl:Nat→C} {N:Nat} (hg: ∀g,aG 0 (gl g) =true) :CxOK ⟨P,N,gl,fun _ _=>none,fun _ _ _=>none,fun _=>false,fun _ _=>false⟩ :=
 Bn hg fun _ _ h=>by cases h
theorem CxOK.reN {P:Program} {km:TypeId→Value→Bool} {gl:Nat→C} {pu:Nat→List C→Option C} {hp:Nat→List C→Hp→Option (C×Hp)} {N M:Nat} (hcx:CxOK ⟨P,N,gl,pu,hp,fun _=>false,km⟩) :CxOK ⟨P,M,gl,pu,hp,fun _=>false,km⟩ := ⟨hcx.glo,hcx.pu,hcx.hp,hcx.km⟩
end Go.Sx
namespace Go.Sx
open Go.RowKit
def e8 (N:Nat) :Option Nat→Prop
 |some d=>d< N
 |none=>True
theorem Gm (N d:Nat) :e8 N (some d) = (d< N) :=rfl
theorem Gn (N:Nat) :e8 N none=True:=rfl
theorem zn (N:Nat) (d:Option Nat) :j3 N d=true↔e8 N d:=by
 cases d<;>simp[j3,e8]
def fK:Option Nat→C→List (Nat×C)→List (Nat×C)
 |some d,c,e=> (d,c) ::e
 |none,_,e=>e
theorem iD (d:Option Nat) (c:C) (e:List (Nat×C)) :put d c (A e) =A (fK d c e) :=by
 cases d<;>rfl
def nQ (apps:List Nat) :Option Nat→Bool
 |some t=>apps.contains t
 |none=>false
theorem Mj (d:Option Nat) :nQ [] d=false:=by cases d<;>rfl
theorem Gp (a:Nat) (l:List Nat) (t:Nat) :nQ (a::l) (some t) = (t==a||nQ l (some t)) :=by
 by_cases hh:t=a<;>simp[nQ,hh]
def vp (c:C) :Plan:= .val c none
theorem Mk (c:C) :Plan.pure c=vp c:=rfl
def on (cx:Cx) (e:List (Nat×C)) (x:Operand) :C:= (cx.ev (A e) x).noR
def uq (cx:Cx) (e:List (Nat×C)) (x:Operand) :C:=cx.ev (A e) x
def ur (cx:Cx) (e:List (Nat×C)) :List Operand→List C
 | [] => []
 |x::l=>on cx e x::ur cx e l
def ut (cx:Cx) (e:List (Nat×C)) :List (Nat×Operand)→List (Nat×C)
 | [] => []
 | (i,x) ::l=> (i,on cx e x) ::ut cx e l
theorem DV (cx:Cx) (e:List (Nat×C)) (l:List Operand) :l.map (cx.evn (A e)) =ur cx e l:=by
 induction l with
 |nil=>rfl
 |cons x l ih=>simp only[List.map_cons,ih,ur];rfl
theorem DW (cx:Cx) (e:List (Nat×C)) (l:List (Nat×Operand)) : (l.map fun x=> (x.1,cx.evn (A e) x.2)) =ut cx e l:=by
 induction l with
 |nil=>rfl
 |cons x l ih=>obtain ⟨i,x⟩ :=x;simp only[List.map_cons,ih,ut];rfl
theorem Sy (cx:Cx) (e:List (Nat×C)) (t:Nat) :on cx e (.tmp t) = (A e t).noR:=rfl
theorem Gq (cx:Cx) (e:List (Nat×C)) (v:Value) :on cx e (.const v) = .val v:=rfl
theorem DX (cx:Cx) (e:List (Nat×C)) (g:Nat) :on cx e (.global g) = (cx.gl g).noR:=by
 unfold on;simp only[Cx.ev];cases hh:cx.gl g<;>first|rfl|skip
 rename_i r n xs
 cases r<;>rfl
theorem Ml (cx:Cx) (e:List (Nat×C)) (f:Nat) :on cx e (.func f) = .fn f [] :=rfl
theorem Mm (cx:Cx) (e:List (Nat×C)) (t:Nat) :uq cx e (.tmp t) =A e t:=rfl
theorem DY (cx:Cx) (e:List (Nat×C)) (v:Value) :uq cx e (.const v) = .val v:=rfl
theorem Gr (t:Nat) :eE (.tmp t) =some t:=rfl
theorem Bo (v:Value) :eE (.const v) =none:=rfl
theorem Mn (v:Value) : (C.val v).noR= .val v:=rfl
theorem Sz (b o n:Nat) : (C.sv b o n).noR= .sv b o n:=rfl
theorem SA (b o:Nat) : (C.bp b o).noR= .bp b o:=rfl
theorem SB (xs:List C) : (C.kp xs).noR= .kp xs:=rfl
theorem Mo (xs:List C) : (C.agg xs).noR= .agg xs:=rfl
theorem Mp (xs:List C) : (C.tup xs).noR= .tup xs:=rfl
theorem SD (f:Nat) (xs:List C) : (C.fn f xs).noR= .fn f xs:=rfl
theorem DZ (k:IntKind) (n:Int) : (C.val (.int k n)).share= .val (.int k n) :=rfl
theorem Gs (b o n:Nat) : (C.sv b o n).share= .sv b o n:=rfl
theorem Gt (b o:Nat) : (C.bp b o).share= .bp b o:=rfl
theorem D0 (xs:List C) : (C.agg xs).share= .agg xs:=rfl
theorem Gu (f:Nat) (xs:List C) : (C.fn f xs).share= .fn f xs:=rfl
def kg:List C→List C
 | [] => []
 |c::l=>c.share::kg l
theorem uu (l:List C) :l.map C.share=kg l:=by
 induction l with
 |nil=>rfl
 |cons x l ih=>simp only[List.map_cons,ih,kg]
def GB (b:Bool) (P Q:Prop) :Prop:= (b=true→P)∧(b=false→Q)
theorem Mq (P Q:Prop) :GB true P Q=P:=by simp[GB]
theorem Gv (P Q:Prop) :GB false P Q=Q:=by simp[GB]
theorem GB.pos {b:Bool} {P Q:Prop} (hb:b=true) (h:P) :GB b P Q:= ⟨fun _=>h,fun e=> (Bool.noConfusion (hb.symm.trans e))⟩
theorem GB.neg {b:Bool} {P Q:Prop} (hb:b=false) (h:Q) :GB b P Q:= ⟨fun e=> (Bool.noConfusion (hb.symm.trans e)),fun _=>h⟩
@[congr] theorem aaV {b b':Bool} {P Q:Prop} (h:b=b') :GB b P Q=GB b' P Q:=by rw[h]
theorem GB.dec {p:Prop} [Decidable p] {P Q:Prop} (h:p→P) (k: ¬p→Q) :GB (decide p) P Q:= ⟨fun e=>h (by simpa using e),fun e=>k (by simpa using e)⟩
def AN (p q:Prop) :Prop:=p∧q
@[congr] theorem aaW {p p' q:Prop} (h:p=p') :AN p q=AN p' q:=by rw[h]
theorem Mr (q:Prop) :AN True q=q:=by simp[AN]
def run (cx:Cx) (apps:List Nat) (dsts:List (Option Nat)) (l:List Oper) (id:Nat) (e:List (Nat×C)) (h:Hp) (fs:List FP) (K:List FP→St→Prop) :Prop:=
 gq cx apps dsts l id ⟨A e,h⟩ fs K
section
variable (cx:Cx) (apps:List Nat) (dsts:List (Option Nat)) (l:List Oper) (id id':Nat) (d:Option Nat) (e:List (Nat×C)) (h:Hp) (fs:List FP) (K:List FP→St→Prop)
def dY (p:Option Plan) :Prop:=jZ cx id d ⟨A e,h⟩ (fun f s=>gq cx apps dsts l id' s (f::fs) K) p
def Ea (b:Nat) (o:Option C) :Prop:=match o with
 |none=>False
 |some c=>run cx apps dsts l id' (fK d c e) h ((1,b) ::fs) K
def zo (k:Option Nat) (b:Nat) (o:Option (List C×C)) :Prop:=match o with
 |none=>False
 |some r=>gq cx apps dsts l id' ⟨put d r.2 (cy k (A e)),h.set b (some r.1)⟩ ((2,b) ::fs) K
def Eb (b off:Nat) (o:Option (List C)) :Prop:=match o with
 |none=>False
 |some cells=>match cells[off]? with
  |none=>False
  |some x=>run cx apps dsts l id' (fK d x e) (h.set b (some (cells.set off x.noR))) ((3,b) ::fs) K
def Ec (o:Option (C×Hp)) :Prop:=match o with
 |none=>False
 |some r=>run cx apps dsts l id' (fK d r.1 e) r.2 ((4,0) ::fs) K
def Ed (cells:List C) (g:Nat→C) (o:Option (Option (List C))) :Prop:=match o with
 |some none=>run cx apps dsts l id' (fK d (g id) e) (h.set id (some cells)) ((2,id) ::fs) K
 |_=>False
theorem Ee (c:C) :dY cx apps dsts l id id' d e h fs K (some (vp c)) =run cx apps dsts l id' (fK d c e) h ((0,0) ::fs) K:=by
 show gq _ _ _ _ _ ⟨put d c (cy none (A e)),h⟩ _ _=_
 rw[eV,iD];rfl
theorem Gw (c:C) :dY cx apps dsts l id id' d e h fs K (some (.val c none)) =run cx apps dsts l id' (fK d c e) h ((0,0) ::fs) K:=Ee ..
theorem Gx (c:C) (k:Nat) :dY cx apps dsts l id id' d e h fs K (some (.val c (some k))) =run cx apps dsts l id' (fK d c ((k,(A e k).noR) ::e)) h ((0,0) ::fs) K:=by
 show gq _ _ _ _ _ ⟨put d c (cy (some k) (A e)),h⟩ _ _=_
 rw[zm,iD];rfl
theorem SF (b:Nat) (f:List C→Option C) :dY cx apps dsts l id id' d e h fs K (some (.rd b f)) =Ea cx apps dsts l id' d e h fs K b ((h.at b).bind f) :=by
 unfold dY Ea jZ
 simp only[bY]
 cases (h.at b).bind f with
 |none=>rfl
 |some c=>
  simp only[Option.map_some,eV,iD];rfl
theorem SG (b:Nat) (f:List C→Option (List C×C)) (k:Option Nat) :dY cx apps dsts l id id' d e h fs K (some (.wr b f k)) =zo cx apps dsts l id' d e h fs K k b ((h.at b).bind f) :=by
 unfold dY zo jZ
 simp only[bY]
 cases (h.at b).bind f with
 |none=>rfl
 |some c=>simp only[Option.map_some];rfl
theorem SI (b off:Nat) :dY cx apps dsts l id id' d e h fs K (some (.xr b off)) =Eb cx apps dsts l id' d e h fs K b off (h.at b) :=by
 unfold dY Eb jZ
 simp only[bY]
 cases h.at b with
 |none=>rfl
 |some cells=>
  simp only[Option.bind_some]
  cases cells[off]? with
  |none=>rfl
  |some x=>simp only[Option.map_some,eV,iD];rfl
theorem Ms (cells:List C) (g:Nat→C) :dY cx apps dsts l id id' d e h fs K (some (.new cells g)) =Ed cx apps dsts l id id' d e h fs K cells g (h[id]?) :=by
 unfold dY Ed jZ
 simp only[bY]
 cases h[id]? with
 |none=>rfl
 |some o=>cases o with
  |none=>simp only[eV,iD];rfl
  |some o=>rfl
theorem Gy (f:Nat) (az:List C) :dY cx apps dsts l id id' d e h fs K (some (.call f az)) =Ec cx apps dsts l id' d e fs K (cx.hp f az h) :=by
 unfold dY Ec jZ
 simp only[bY]
 cases cx.hp f az h with
 |none=>rfl
 |some c=>simp only[Option.map_some,eV,iD];rfl
def SJ (o:Option (List C)) (h:Hp) :FP:=if o.isSome=true then (5,h.length) else (4,0)
def zp (z:FP) (b:Option (Nat×Nat)) (s:Nat×Nat) (m:Nat) (o:Option (List C)) :Prop:=match o with
 |none=>False
 |some cs=>match b with
  |none=>run cx apps dsts l id' (fK d (.gv h.length m s) e) (h++[some (cs.map C.noR)]) (z::fs) K
  |some (b,n) =>match h.at b with
   |none=>False
   |some cells=>
    if (n+m)*s.1≤cells.length∧(n≠0∨m=0) then run cx apps dsts l id' (fK d (.gv b (n+m) s) e) (h.set b (some (splice cells (n*s.1) (cs.map C.noR)))) ((4,0) ::fs) K
    else if n*s.1=cells.length then run cx apps dsts l id' (fK d (.gv h.length (n+m) s) e) (h.set b (some eL)++[some ((cells++cs).map C.noR)]) ((4,0) ::fs) K
    else if n=0 then run cx apps dsts l id' (fK d (.gv h.length (n+m) s) e) (h.set b (some eL)++[some (cs.map C.noR)]) ((4,0) ::fs) K else False
theorem SK (b:Option (Nat×Nat)) (s:Nat×Nat) (m:Nat) (ys:Hp→Option (List C)) :dY cx apps dsts l id id' d e h fs K (some (.ap b s m ys)) =zp cx apps dsts l id' d e h fs K (SJ (ys []) h) b s m (ys h) :=by
 unfold dY zp jZ
 simp only[bY]
 cases ys h with
 |none=>rfl
 |some cs=>
  simp only[Option.bind_some]
  cases b with
  |none=>simp only[eV,iD];rfl
  |some q=>
   obtain ⟨b,n⟩ :=q
   simp only[]
   cases h.at b with
   |none=>rfl
   |some cells=>
    simp only[Option.bind_some]
    by_cases h1: (n+m)*s.1≤cells.length∧(n≠0∨m=0)
    · rw[if_pos h1,if_pos h1];simp only[eV,iD];rfl
    · rw[if_neg h1,if_neg h1]
      by_cases h2:n*s.1=cells.length
      · rw[if_pos h2,if_pos h2];simp only[eV,iD];rfl
      · rw[if_neg h2,if_neg h2]
        by_cases h3:n=0
        · rw[if_pos h3,if_pos h3];simp only[eV,iD];rfl
        · rw[if_neg h3,if_neg h3]
theorem Gz (b:Nat) (c:C) :Ea cx apps dsts l id' d e h fs K b (some c) =run cx apps dsts l id' (fK d c e) h ((1,b) ::fs) K:=rfl
theorem Ef (b:Nat) (cells:List C) (c:C) :zo cx apps dsts l id' d e h fs K none b (some (cells,c)) =run cx apps dsts l id' (fK d c e) (h.set b (some cells)) ((2,b) ::fs) K:=by
 show gq _ _ _ _ _ ⟨put d c (cy none (A e)),_⟩ _ _=_
 rw[eV,iD];rfl
theorem Eg (k b:Nat) (cells:List C) (c:C) :zo cx apps dsts l id' d e h fs K (some k) b (some (cells,c)) =run cx apps dsts l id' (fK d c ((k,(A e k).noR) ::e)) (h.set b (some cells)) ((2,b) ::fs) K:=by
 show gq _ _ _ _ _ ⟨put d c (cy (some k) (A e)),_⟩ _ _=_
 rw[zm,iD];rfl
theorem GA (c:C) (h':Hp) :Ec cx apps dsts l id' d e fs K (some (c,h')) =run cx apps dsts l id' (fK d c e) h' ((4,0) ::fs) K:=rfl
theorem GC (cells:List C) (g:Nat→C) :Ed cx apps dsts l id id' d e h fs K cells g (some none) =run cx apps dsts l id' (fK d (g id) e) (h.set id (some cells)) ((2,id) ::fs) K:=rfl
theorem Mt:run cx apps dsts [] id e h fs K=K fs ⟨A e,h⟩ :=rfl
end
@[congr] theorem Yh {cx:Cx} {apps:List Nat} {dsts:List (Option Nat)} {l:List Oper} {id id':Nat} {d:Option Nat} {e:List (Nat×C)} {h:Hp} {fs:List FP} {K:List FP→St→Prop} {p p':Option Plan} (hp:p=p') :
   dY cx apps dsts l id id' d e h fs K p=dY cx apps dsts l id id' d e h fs K p':=by rw[hp]
@[congr] theorem Yi {cx:Cx} {apps:List Nat} {dsts:List (Option Nat)} {l:List Oper} {id':Nat} {d:Option Nat} {e:List (Nat×C)} {h:Hp} {fs:List FP} {K:List FP→St→Prop} {b:Nat} {p p':Option C} (hp:p=p') :
   Ea cx apps dsts l id' d e h fs K b p=Ea cx apps dsts l id' d e h fs K b p':=by rw[hp]
@[congr] theorem Yj {cx:Cx} {apps:List Nat} {dsts:List (Option Nat)} {l:List Oper} {id':Nat} {d:Option Nat} {e:List (Nat×C)} {h:Hp} {fs:List FP} {K:List FP→St→Prop} {k:Option Nat} {b:Nat} {p p':Option (List C×C)} (hp:p=p') :
   zo cx apps dsts l id' d e h fs K k b p=zo cx apps dsts l id' d e h fs K k b p':=by rw[hp]
@[congr] theorem Yk {cx:Cx} {apps:List Nat} {dsts:List (Option Nat)} {l:List Oper} {id':Nat} {d:Option Nat} {e:List (Nat×C)} {h:Hp} {fs:List FP} {K:List FP→St→Prop} {b off:Nat} {p p':Option (List C)} (hp:p=p') :
   Eb cx apps dsts l id' d e h fs K b off p=Eb cx apps dsts l id' d e h fs K b off p':=by rw[hp]
@[congr] theorem Yl {cx:Cx} {apps:List Nat} {dsts:List (Option Nat)} {l:List Oper} {id':Nat} {d:Option Nat} {e:List (Nat×C)} {fs:List FP} {K:List FP→St→Prop} {p p':Option (C×Hp)} (hp:p=p') :
   Ec cx apps dsts l id' d e fs K p=Ec cx apps dsts l id' d e fs K p':=by rw[hp]
@[congr] theorem Ym {cx:Cx} {apps:List Nat} {dsts:List (Option Nat)} {l:List Oper} {id id':Nat} {d:Option Nat} {e:List (Nat×C)} {h:Hp} {fs:List FP} {K:List FP→St→Prop} {cells:List C} {g:Nat→C} {p p':Option (Option (List C))} (hp:p=p') :
   Ed cx apps dsts l id id' d e h fs K cells g p=Ed cx apps dsts l id id' d e h fs K cells g p':=by rw[hp]
@[congr] theorem Yn {cx:Cx} {apps:List Nat} {dsts:List (Option Nat)} {l:List Oper} {id id':Nat} {e:List (Nat×C)} {h h':Hp} {fs:List FP} {K:List FP→St→Prop} (hi:id=id') (hh:h=h') :
   run cx apps dsts l id e h fs K=run cx apps dsts l id' e h' fs K:=by rw[hh,hi]
theorem Mu (cx:Cx) (apps:List Nat) (dsts:List (Option Nat)) (l:List Oper) (id d:Nat) (c:C) (e:List (Nat×C)) (h:Hp) (fs:List FP) (K:List FP→St→Prop) :
 run cx apps dsts l id (fK (some d) c e) h fs K=run cx apps dsts l id ((d,c) ::e) h fs K:=rfl
theorem Mv (cx:Cx) (apps:List Nat) (dsts:List (Option Nat)) (l:List Oper) (id:Nat) (c:C) (e:List (Nat×C)) (h:Hp) (fs:List FP) (K:List FP→St→Prop) :
 run cx apps dsts l id (fK none c e) h fs K=run cx apps dsts l id e h fs K:=rfl
end Go.Sx
namespace Go.Sx
open Go.RowKit
theorem mh {cx:Cx} {apps:List Nat} {dsts:List (Option Nat)} {K:St→Prop} : ∀ (l:List Oper) (id:Nat) (st:St) (fs:List FP),gq cx apps dsts l id st fs (fun _ s=>K s)→mg cx apps dsts l id st K
 | [],_,_,_,h=>h
 |o::l,id,st,fs,h=>by
  simp only[gq,mg] at h ⊢
  refine ⟨h.1,?_⟩
  have h2:=h.2
  cases hw:g4 dsts o.guard st.env with
  |none=>rw[hw] at h2;exact h2
  |some b=>
   rw[hw] at h2
   cases b with
   |false=>exact mh l _ _ _ h2
   |true=>
    simp only[Gk,jZ] at h2 ⊢
    generalize splanA cx apps o st.env=q at h2 ⊢
    cases q with
    |none=>exact h2
    |some p=>
     simp only[] at h2 ⊢
     generalize bY cx id p st.h=r at h2 ⊢
     cases r with
     |none=>exact h2
     |some r=>exact mh l _ _ _ h2
section
variable {cx:Cx} {n:Nat} {Q:Ex→St→Prop} {e:List (Nat×C)} {h:Hp}
theorem wg (hcx:CxOK cx) {id:Nat} {l:List Oper} (apps:List Nat) (dsts:List (Option Nat)) (z:Hp) (h1:l.filterMap d8=apps) (h2:l.map (·.dst) =dsts) (h3:fP l=z)
 (H:run cx apps dsts l h.length e (h++z) [] (fun _ s=>Q .normal s)) :Tr cx n (.region id l.toArray false) ⟨A e,h⟩ Q:=by
 subst h1 h2 h3
 exact Sw hcx (mh _ _ _ _ H)
theorem xP (hcx:CxOK cx) (hm:cx.P.follows .mixedOrders=true) {id:Nat} {l:List Oper} (apps:List Nat) (dsts:List (Option Nat)) (z:Hp) (h1:l.filterMap d8=apps) (h2:l.map (·.dst) =dsts) (h3:fP l=z)
 (hs:eJ l.toArray=true)
 (H:run cx apps dsts l h.length e (h++z) [] (fun fs s=>gp l.toArray fs.reverse=true∧Q .normal s)) :Tr cx n (.region id l.toArray true) ⟨A e,h⟩ Q:=by
 subst h1 h2 h3
 exact Mi hcx hm hs H
end
section
variable (cx:Cx) (apps:List Nat) (dsts:List (Option Nat)) (l:List Oper) (id id':Nat) (d:Option Nat) (e:List (Nat×C)) (h:Hp) (fs:List FP) (K:List FP→St→Prop) (ty:TypeId) (pos:String) (aft:Array Edge)
theorem dj (op:Op) (p:Option Plan) (hp:splanA cx apps ⟨d,op,ty,pos,aft,none⟩ (A e) =p) (hm: (if eM ⟨d,op,ty,pos,aft,none⟩ then id+1 else id) =id') :
 run cx apps dsts (⟨d,op,ty,pos,aft,none⟩ ::l) id e h fs K=AN (e8 cx.N d) (dY cx apps dsts l id id' d e h fs K p) :=by
 unfold run AN
 rw[gq]
 simp only[g4]
 rw[hp,hm,zn]
 rfl
def Eh (op:Op) (o:Option Bool) :Prop:=match o with
 |none=>False
 |some b=> (b=true→run cx apps dsts (⟨d,op,ty,pos,aft,none⟩ ::l) id e h fs K)∧
  (b=false→AN (e8 cx.N d) (run cx apps dsts l (if eM ⟨d,op,ty,pos,aft,none⟩ then id+1 else id) (fK d (.val undef) e) h ((0,0) ::fs) K))
theorem Ei (op:Op) (g:Nat×Bool) :run cx apps dsts (⟨d,op,ty,pos,aft,some g⟩ ::l) id e h fs K=Eh cx apps dsts l id d e h fs K ty pos aft op (g4 dsts (some g) (A e)) :=by
 unfold run Eh
 rw[gq]
 simp only[]
 have hsp:splanA cx apps ⟨d,op,ty,pos,aft,some g⟩ (A e) =splanA cx apps ⟨d,op,ty,pos,aft,none⟩ (A e) :=by
  rw[splanA.eq_def,splanA.eq_def]
  cases op with
  |move x=>cases x<;>rfl
  |_=>rfl
 have hmk:eM ⟨d,op,ty,pos,aft,some g⟩ =eM ⟨d,op,ty,pos,aft,none⟩ :=rfl
 cases hw:g4 dsts (some g) (A e) with
 |none=>simp
 |some b=>
  cases b with
  |true=>
   simp only[Bool.true_eq_false,false_implies,and_true,true_implies]
   rw[run,gq,hsp,hmk]
   simp only[g4]
  |false=>
   simp only[Bool.false_eq_true,false_implies,true_and,true_implies]
   rw[AN,zn,iD]
   rfl
def lK (op:Op) (id:Nat) :Nat:=match op with
 | .alloc _| .box _ _| .makeSlice _ _ _=>id+1
 |_=>id
theorem Mw (op:Op) : (if eM ⟨d,op,ty,pos,aft,none⟩ then id+1 else id) =lK op id:=by cases op<;>rfl
theorem GD (op:Op) (b:Bool) :Eh cx apps dsts l id d e h fs K ty pos aft op (some b) =GB b (run cx apps dsts (⟨d,op,ty,pos,aft,none⟩ ::l) id e h fs K)
 (AN (e8 cx.N d) (run cx apps dsts l (lK op id) (fK d (.val undef) e) h ((0,0) ::fs) K)) :=by
 rw[←Mw (d:=d) (ty:=ty) (pos:=pos) (aft:=aft)];rfl
theorem Ej (x:Operand) (id:Nat) :lK (.move x) id=id:=rfl
theorem Ek (c a b:Operand) (id:Nat) :lK (.pick c a b) id=id:=rfl
theorem Bp (t:TypeId) (p:Array (Nat×Operand)) (id:Nat) :lK (.build t p) id=id:=rfl
theorem El (t:TypeId) (a:Operand) (id:Nat) :lK (.load t a) id=id:=rfl
theorem Bq (o:BinOp) (t:TypeId) (x y:Operand) (s:TypeId) (id:Nat) :lK (.binOp o t x y s) id=id:=rfl
theorem Em (o:UnOp) (t:TypeId) (x:Operand) (id:Nat) :lK (.unOp o t x) id=id:=rfl
theorem tO (t:TypeId) (x:Operand) (f:Nat) (id:Nat) :lK (.fieldAddr t x f) id=id:=rfl
theorem tP (t:TypeId) (x i:Operand) (id:Nat) :lK (.indexAddr t x i) id=id:=rfl
theorem En (c:Call) (id:Nat) :lK (.call c) id=id:=rfl
def nS (cx:Cx) (d:Option Nat) :Bool:=d.any cx.gr
def uv (b:Bool) (p q:Option Plan) :Option Plan:=if b=true then p else q
@[congr] theorem Yo {b b':Bool} {p q:Option Plan} (h:b=b') :uv b p q=uv b' p q:=by rw[h]
def kh (P:Program) (t:TypeId) (c:C) (lo hi mx:Option C) :Option Plan:=match c,lo,mx with
 | .gv b n s,none,none=>lI P t b n s hi
 |c,_,_=>eA P t c.asSv lo hi mx
def wh (c a b:C) :Option Plan:=match c with
 | .val (.bool true) =>some (vp a)
 | .val (.bool false) =>some (vp b)
 |_=>none
def xQ (g:Bool) (t:TypeId) (T:Option TD) :Option Plan:=match T with
 |some d=>if d.zero.all (·.oneCell') then some (.new (d.zero.map .val) fun id=>if g=true then .bt id t d.zero.length else .bp id 0) else none
 |none=>none
def Eo (t:Option TD) :Option Plan:=match t with
 |some d=>if d.zero.all (·.oneCell') then some (.new (d.zero.map .val) fun id=> .bp id 0) else none
 |none=>none
def Br (x:C) :Option Plan:=x.cells?.map fun cs=> .new cs fun id=> .bp id 0
def lL (P:Program) (t:Option TD) (parts:List (Nat×C)) :Option Plan:=match t with
 |some d=>if d.zero.all (·.oneCell') =false then none else ((ke P d.u).bind fun pl=>gb pl (d.zero.map .val) parts).map fun cs=>vp (.agg cs)
 |none=>none
def mi (P:Program) (g:Bool) (t:Option TD) (n:Nat) (parts:List (Nat×C)) :Option Plan:=match t with
 |some d=> (match d.u with
  | .slice e=> (match td P e with
    |some de=>if n*de.size≤65536∧n≤65536∧de.zero.length=de.size∧de.zero.all (·.oneCell') =true then
     (gb (fun i=>some (i*de.size,de.size)) (dG de.zero n) parts).map fun cs=>if g=true then .ap none (de.size,e) n fun _=>some cs else vp (.sl .full n cs) else none
    |none=>none)
  |_=>none)
 |none=>none
def GE (x:C) :Option Plan:=match x with
 | .bp b k=>some (vp (.bp b k))
 | .bt b t n=>some (vp (.bt b t n))
 | .kp xs=>some (vp (.kp xs))
 | .fn f cs=>some (vp (.fn f cs))
 |_=>none
def qZ (x:C) (i:Nat) :Option Plan:=match x with
 | .tup xs=> (xs[i]?).map fun c=>vp c.noR
 |_=>none
def wj (cx:Cx) (g:Nat) (az:List C) (o:Option C) :Option Plan:=match o with
 |some c=>some (vp c)
 |none=>match gU az with
  |some b=>if (cx.hp g az []).isSome then some (.call g az) else some (.rd b (rdPu cx g az b))
  |none=>some (.call g az)
def wl (cx:Cx) (f:C) (args:List C) :Option Plan:=match f with
 | .fn g caps=>wj cx g (kg args++caps) (cx.pu g (kg args++caps))
 |_=>none
def Kx (b:Bool) (c:C) (p:Nat) :Option Plan:=match b with
 |true=>some (.val c (some p))
 |false=>some (vp c.noR)
def Bs (P:Program) (t:Option TD) (x:C) :Option Plan:=match t with
 |some d=> (match d.u with
  | .array n e=> (match td P e,x with
    |some _,.sv b off m=>if n≤m∧n≠0 then some (vp (.bp b off)) else none
    |some _,.gv b m _=>if n≤m∧n≠0 then some (vp (.bp b 0)) else none
    |some de,c=> (match c.sl? with
     |some (m,xs) =>if n≤m∧xs≠[]∧xs.length=m*de.size then some (vp (.kp xs)) else none
     |none=>none)
    |_,_=>none)
  |_=>none)
 |none=>none
theorem Mx (p:Nat) :run cx apps dsts (⟨d,.move (.tmp p),ty,pos,aft,none⟩ ::l) id e h fs K=AN (e8 cx.N d) (dY cx apps dsts l id id d e h fs K (Kx (nQ apps d||nQ apps (d.map (· +1000000))) (A e p) p)) :=
 dj cx apps dsts l id id d e h fs K ty pos aft (.move (.tmp p)) (Kx (nQ apps d||nQ apps (d.map (· +1000000))) (A e p) p) (by
  rw[splanA.eq_def];simp only[]
  cases d with
  |none=>rfl
  |some t=>
   simp only[nQ,Kx,vp,Plan.pure,Option.map_some,List.contains_eq_mem]
   by_cases hb:t∈apps<;>by_cases hc:t+1000000∈apps<;>simp[hb,hc]) rfl
theorem My (v:Value) :run cx apps dsts (⟨d,.move (.const v),ty,pos,aft,none⟩ ::l) id e h fs K=AN (e8 cx.N d) (dY cx apps dsts l id id d e h fs K (some (vp (.val v)))) :=
 dj cx apps dsts l id id d e h fs K ty pos aft (.move (.const v)) (some (vp (.val v))) (by first|rfl| (cases d<;>rfl)) rfl
theorem Mz (x:Operand) :run cx apps dsts (⟨d,.assign x,ty,pos,aft,none⟩ ::l) id e h fs K=AN (e8 cx.N d) (dY cx apps dsts l id id d e h fs K (some (.val (uq cx e x) (eE x)))) :=
 dj cx apps dsts l id id d e h fs K ty pos aft (.assign x) (some (.val (uq cx e x) (eE x))) (by first|rfl| (cases d<;>rfl)) rfl
theorem GF (c a b:Operand) :run cx apps dsts (⟨d,.pick c a b,ty,pos,aft,none⟩ ::l) id e h fs K=AN (e8 cx.N d) (dY cx apps dsts l id id d e h fs K (wh (on cx e c) (on cx e a) (on cx e b))) :=
 dj cx apps dsts l id id d e h fs K ty pos aft (.pick c a b) (wh (on cx e c) (on cx e a) (on cx e b)) (by first|rfl| (cases d<;>rfl)) rfl
theorem Ep (t:TypeId) :run cx apps dsts (⟨d,.alloc t,ty,pos,aft,none⟩ ::l) id e h fs K=AN (e8 cx.N d) (dY cx apps dsts l id (id+1) d e h fs K (xQ (nS cx d) t (td cx.P t))) :=
 dj cx apps dsts l id (id+1) d e h fs K ty pos aft (.alloc t) (xQ (nS cx d) t (td cx.P t)) (by first|rfl| (cases d<;>rfl)) rfl
theorem MA (t:TypeId) (x:Operand) :run cx apps dsts (⟨d,.box t x,ty,pos,aft,none⟩ ::l) id e h fs K=AN (e8 cx.N d) (dY cx apps dsts l id (id+1) d e h fs K (Br (on cx e x))) :=
 dj cx apps dsts l id (id+1) d e h fs K ty pos aft (.box t x) (Br (on cx e x)) (by first|rfl| (cases d<;>rfl)) rfl
theorem run_build (t:TypeId) (ps:List (Nat×Operand)) :run cx apps dsts (⟨d,.build t ps.toArray,ty,pos,aft,none⟩ ::l) id e h fs K=AN (e8 cx.N d) (dY cx apps dsts l id id d e h fs K (lL cx.P (td cx.P t) (ut cx e ps))) :=
 dj cx apps dsts l id id d e h fs K ty pos aft (.build t ps.toArray) (lL cx.P (td cx.P t) (ut cx e ps)) (by rw[←DW];rfl) rfl
theorem Bt (t:TypeId) (m:Nat) (ps:List (Nat×Operand)) :run cx apps dsts (⟨d,.buildSlice t m ps.toArray,ty,pos,aft,none⟩ ::l) id e h fs K=AN (e8 cx.N d) (dY cx apps dsts l id id d e h fs K (mi cx.P (nS cx d) (td cx.P t) m (ut cx e ps))) :=
 dj cx apps dsts l id id d e h fs K ty pos aft (.buildSlice t m ps.toArray) (mi cx.P (nS cx d) (td cx.P t) m (ut cx e ps)) (by rw[←DW];rfl) rfl
theorem GG (t:TypeId) (x:Operand) :run cx apps dsts (⟨d,.load t x,ty,pos,aft,none⟩ ::l) id e h fs K=AN (e8 cx.N d) (dY cx apps dsts l id id d e h fs K (loadPlan cx.P (nQ apps d) t (on cx e x))) :=
 dj cx apps dsts l id id d e h fs K ty pos aft (.load t x) (loadPlan cx.P (nQ apps d) t (on cx e x)) (by first|rfl| (cases d<;>rfl)) rfl
theorem run_store (t:TypeId) (x y:Operand) :run cx apps dsts (⟨d,.store t x y,ty,pos,aft,none⟩ ::l) id e h fs K=AN (e8 cx.N d) (dY cx apps dsts l id id d e h fs K (dw cx.P t (on cx e x) (uq cx e y) (eE y))) :=
 dj cx apps dsts l id id d e h fs K ty pos aft (.store t x y) (dw cx.P t (on cx e x) (uq cx e y) (eE y)) (by first|rfl| (cases d<;>rfl)) rfl
theorem GH (x:Operand) :run cx apps dsts (⟨d,.nilCheck x,ty,pos,aft,none⟩ ::l) id e h fs K=AN (e8 cx.N d) (dY cx apps dsts l id id d e h fs K (GE (on cx e x))) :=
 dj cx apps dsts l id id d e h fs K ty pos aft (.nilCheck x) (GE (on cx e x)) (by first|rfl| (cases d<;>rfl)) rfl
theorem MB (o:BinOp) (t t2:TypeId) (x y:Operand) :run cx apps dsts (⟨d,.binOp o t x y t2,ty,pos,aft,none⟩ ::l) id e h fs K=AN (e8 cx.N d) (dY cx apps dsts l id id d e h fs K (aW cx.P o t (on cx e x) (on cx e y))) :=
 dj cx apps dsts l id id d e h fs K ty pos aft (.binOp o t x y t2) (aW cx.P o t (on cx e x) (on cx e y)) (by first|rfl| (cases d<;>rfl)) rfl
theorem SL (o:UnOp) (t:TypeId) (x:Operand) :run cx apps dsts (⟨d,.unOp o t x,ty,pos,aft,none⟩ ::l) id e h fs K=AN (e8 cx.N d) (dY cx apps dsts l id id d e h fs K (gT o (on cx e x))) :=
 dj cx apps dsts l id id d e h fs K ty pos aft (.unOp o t x) (gT o (on cx e x)) (by first|rfl| (cases d<;>rfl)) rfl
theorem GI (s t:TypeId) (x:Operand) :run cx apps dsts (⟨d,.convert s t x,ty,pos,aft,none⟩ ::l) id e h fs K=AN (e8 cx.N d) (dY cx apps dsts l id id d e h fs K (uv (nS cx d) (nt cx.P s t (on cx e x)) (fZ cx.P s t (on cx e x).asSv))) :=
 dj cx apps dsts l id id d e h fs K ty pos aft (.convert s t x) (uv (nS cx d) (nt cx.P s t (on cx e x)) (fZ cx.P s t (on cx e x).asSv)) (by first|rfl| (cases d<;>rfl)) rfl
theorem MC (t:TypeId) (x:Operand) :run cx apps dsts (⟨d,.sliceToArrayPointer t x,ty,pos,aft,none⟩ ::l) id e h fs K=AN (e8 cx.N d) (dY cx apps dsts l id id d e h fs K (Bs cx.P (td cx.P t) (on cx e x))) :=
 dj cx apps dsts l id id d e h fs K ty pos aft (.sliceToArrayPointer t x) (Bs cx.P (td cx.P t) (on cx e x)) (by first|rfl| (cases d<;>rfl)) rfl
theorem MD (f:Nat) (cs:List Operand) :run cx apps dsts (⟨d,.makeFunc (.func f) #[] cs.toArray,ty,pos,aft,none⟩ ::l) id e h fs K=AN (e8 cx.N d) (dY cx apps dsts l id id d e h fs K (some (vp (.fn f (kg (ur cx e cs)))))) :=
 dj cx apps dsts l id id d e h fs K ty pos aft (.makeFunc (.func f) #[] cs.toArray) (some (vp (.fn f (kg (ur cx e cs))))) (by rw[←DV,←uu,List.map_map];rfl) rfl
theorem Eq (t:TypeId) (x:Operand) (lo hi mx:Option Operand) :run cx apps dsts (⟨d,.slice t x lo hi mx,ty,pos,aft,none⟩ ::l) id e h fs K=AN (e8 cx.N d) (dY cx apps dsts l id id d e h fs K (kh cx.P t (on cx e x) (lo.map (on cx e)) (hi.map (on cx e)) (mx.map (on cx e)))) :=
 dj cx apps dsts l id id d e h fs K ty pos aft (.slice t x lo hi mx) (kh cx.P t (on cx e x) (lo.map (on cx e)) (hi.map (on cx e)) (mx.map (on cx e))) (by rw[splanA.eq_def];simp only[];rw[splan.eq_def];simp only[];unfold kh;change (match on cx e x,lo,mx with| .gv b n s,none,none=>lI cx.P t b n s (hi.map (on cx e)) |c,_,_=>eA cx.P t c.asSv (lo.map (on cx e)) (hi.map (on cx e)) (mx.map (on cx e))) =_;cases on cx e x<;>cases lo<;>cases mx<;>rfl) rfl
theorem SM (t:TypeId) (x:Operand) (f:Nat) :run cx apps dsts (⟨d,.fieldAddr t x f,ty,pos,aft,none⟩ ::l) id e h fs K=AN (e8 cx.N d) (dY cx apps dsts l id id d e h fs K (bL cx.P t (on cx e x) f)) :=
 dj cx apps dsts l id id d e h fs K ty pos aft (.fieldAddr t x f) (bL cx.P t (on cx e x) f) (by first|rfl| (cases d<;>rfl)) rfl
theorem ME (t:TypeId) (x i:Operand) :run cx apps dsts (⟨d,.indexAddr t x i,ty,pos,aft,none⟩ ::l) id e h fs K=AN (e8 cx.N d) (dY cx apps dsts l id id d e h fs K (eo cx.P t (on cx e x).asSv (on cx e i))) :=
 dj cx apps dsts l id id d e h fs K ty pos aft (.indexAddr t x i) (eo cx.P t (on cx e x).asSv (on cx e i)) (by first|rfl| (cases d<;>rfl)) rfl
theorem SN (t:TypeId) (x i:Operand) :run cx apps dsts (⟨d,.index t x i,ty,pos,aft,none⟩ ::l) id e h fs K=AN (e8 cx.N d) (dY cx apps dsts l id id d e h fs K (gA cx.P t (on cx e x) (on cx e i))) :=
 dj cx apps dsts l id id d e h fs K ty pos aft (.index t x i) (gA cx.P t (on cx e x) (on cx e i)) (by first|rfl| (cases d<;>rfl)) rfl
theorem GJ (x:Operand) (i:Nat) :run cx apps dsts (⟨d,.extract x i,ty,pos,aft,none⟩ ::l) id e h fs K=AN (e8 cx.N d) (dY cx apps dsts l id id d e h fs K (qZ (on cx e x) i)) :=
 dj cx apps dsts l id id d e h fs K ty pos aft (.extract x i) (qZ (on cx e x) i) (by first|rfl| (cases d<;>rfl)) rfl
theorem MF (t:TypeId) (x:Operand) :run cx apps dsts (⟨d,.call ⟨.builtin .len,#[x],#[t]⟩,ty,pos,aft,none⟩ ::l) id e h fs K=AN (e8 cx.N d) (dY cx apps dsts l id id d e h fs K (jc cx.P t (on cx e x).asSv)) :=
 dj cx apps dsts l id id d e h fs K ty pos aft (.call ⟨.builtin .len,#[x],#[t]⟩) (jc cx.P t (on cx e x).asSv) (by first|rfl| (cases d<;>rfl)) rfl
theorem MG (t t2:TypeId) (x y:Operand) :run cx apps dsts (⟨d,.call ⟨.builtin .append,#[x,y],#[t,t2]⟩,ty,pos,aft,none⟩ ::l) id e h fs K=AN (e8 cx.N d) (dY cx apps dsts l id id d e h fs K (uv (nS cx d) (ip cx.P t t2 (on cx e x) (on cx e y).asSv) (eU cx.P t t2 (uq cx e x) (on cx e y).asSv (eE x)))) :=
 dj cx apps dsts l id id d e h fs K ty pos aft (.call ⟨.builtin .append,#[x,y],#[t,t2]⟩) (uv (nS cx d) (ip cx.P t t2 (on cx e x) (on cx e y).asSv) (eU cx.P t t2 (uq cx e x) (on cx e y).asSv (eE x))) (by first|rfl| (cases d<;>rfl)) rfl
theorem GK (t t2:TypeId) (x y:Operand) :run cx apps dsts (⟨d,.call ⟨.builtin .copy,#[x,y],#[t,t2]⟩,ty,pos,aft,none⟩ ::l) id e h fs K=AN (e8 cx.N d) (dY cx apps dsts l id id d e h fs K (iq cx.P t (on cx e x).asSv (on cx e y).asSv)) :=
 dj cx apps dsts l id id d e h fs K ty pos aft (.call ⟨.builtin .copy,#[x,y],#[t,t2]⟩) (iq cx.P t (on cx e x).asSv (on cx e y).asSv) (by first|rfl| (cases d<;>rfl)) rfl
theorem MH (ts:Array TypeId) (x y:Operand) :run cx apps dsts (⟨d,.call ⟨.builtin .min,#[x,y],ts⟩,ty,pos,aft,none⟩ ::l) id e h fs K=AN (e8 cx.N d) (dY cx apps dsts l id id d e h fs K (eW false (on cx e x) (on cx e y))) :=
 dj cx apps dsts l id id d e h fs K ty pos aft (.call ⟨.builtin .min,#[x,y],ts⟩) (eW false (on cx e x) (on cx e y)) (by first|rfl| (cases d<;>rfl)) rfl
theorem MI (ts:Array TypeId) (x y:Operand) :run cx apps dsts (⟨d,.call ⟨.builtin .max,#[x,y],ts⟩,ty,pos,aft,none⟩ ::l) id e h fs K=AN (e8 cx.N d) (dY cx apps dsts l id id d e h fs K (eW true (on cx e x) (on cx e y))) :=
 dj cx apps dsts l id id d e h fs K ty pos aft (.call ⟨.builtin .max,#[x,y],ts⟩) (eW true (on cx e x) (on cx e y)) (by first|rfl| (cases d<;>rfl)) rfl
theorem GL (ts:Array TypeId) (f:Operand) (xs:List Operand) :run cx apps dsts (⟨d,.call ⟨.value f,xs.toArray,ts⟩,ty,pos,aft,none⟩ ::l) id e h fs K=AN (e8 cx.N d) (dY cx apps dsts l id id d e h fs K (wl cx (on cx e f) (ur cx e xs))) :=
 dj cx apps dsts l id id d e h fs K ty pos aft (.call ⟨.value f,xs.toArray,ts⟩) (wl cx (on cx e f) (ur cx e xs)) (by rw[splanA.eq_def];simp only[];rw[splan.eq_def];simp only[];rw[DV];show jL cx (on cx e f) _=_;unfold jL wl;cases on cx e f<;>first|rfl| (simp only[uu];rfl)) rfl
end
end Go.Sx
