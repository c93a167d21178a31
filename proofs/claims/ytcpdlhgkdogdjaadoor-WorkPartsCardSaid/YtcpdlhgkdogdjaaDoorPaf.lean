/-
   And what follows.
-/
import Derived.Deep.LoopGhost
import Derived.Test.YtcpdlhgkdogdjaaDoorPae
set_option linter.unusedSimpArgs false
set_option linter.unusedVariables false
namespace Go.Sx
open Go.RowKit
abbrev FP:=Nat×Nat
def br (id:Nat)(h:Hp):Plan→FP
 | .val _ _=>(0,0)
 | .rd b _=>(1,b)
 | .wr b _ _=>(2,b)
 | .xr b _=>(3,b)
 | .new _ _=>(2,id)
 | .call _ _=>(4,0)
 | .mo _=>(4,0)
 | .ap none _ _ f=>if (f []).isSome=true then (5,h.length) else (4,0)
 | .ap (some _) _ _ _=>(4,0)
def dl (p q:FP):Bool:=p.1==0||q.1==0|| (p.1 !=4 && p.1 !=5 && q.1 !=4 && q.1 !=5 && (p.2 !=q.2|| (p.1==1 && q.1==1) || (p.1==1 && q.1==3) || (p.1==3 && q.1==1))) ||
 (p.1 !=4 && p.1 !=5 && q.1==5) || (p.1==5 && q.1 !=4 && q.1 !=5 && p.2 !=q.2)
def k8 (cx:Cx)(ops:Array Oper)(id:Nat)(o:Oper)(st:St):Option (C×Option Nat×Hp×FP):=
 match dP ops o st.env with
 |none=>none
 |some false=>some (.val undef,none,st.h,(0,0))
 |some true=>match splan cx ops o st.env with
  |none=>none
  |some p=>(aB cx id p st.h).map fun r=>(r.1,r.2.1,r.2.2,br id st.h p)
def fa (cx:Cx)(ops:Array Oper)(base i:Nat)(st:St):Option (St×FP):=
 match ops[i]? with
 |none=>none
 |some o=>if gY cx.N o.dst=true then (k8 cx ops (base+dw ops i) o st).map fun r=>(⟨put o.dst r.1 (aZ r.2.1 st.env),r.2.2.1⟩,r.2.2.2) else none
theorem vc {cx:Cx}{ops:Array Oper}{base i:Nat}{st:St}:step cx ops base i st= (fa cx ops base i st).map (·.1):=by
 unfold step fa
 cases ops[i]? with
 |none=>rfl
 |some o=>
  simp only[]
  by_cases hd:gY cx.N o.dst=true
  . rw[if_pos hd,if_pos hd]
    unfold k8
    cases dP ops o st.env with
    |none=>rfl
    |some b=>
     cases b with
     |false=>rfl
     |true=>
      simp only[]
      cases splan cx ops o st.env with
      |none=>rfl
      |some p=>
       simp only[bQ]
       cases aB cx (base+dw ops i) p st.h<;>rfl
  . rw[if_neg hd,if_neg hd];rfl
def cq (ops:Array Oper)(o:Oper):List Nat:=
 match o.op with
 | .move x=>if AF ops o.dst then (dL x).toList else []
 | .assign x=>(dL x).toList
 | .store _ _ y=>(dL y).toList
 | .call { callee:= .builtin .append,args,.. } =>match args.toList with
   |x::_=>(dL x).toList
   | [] =>[]
 |_=>[]
def apart (ops:Array Oper)(x y:Oper):Bool:=Oper.apart ops x y && (cq ops x).all fun t=> !(cq ops y).contains t
section
variable {cx:Cx} {G:Gh} {w:World} {st:St} {a:Act} {P:Program}
theorem xk {env env':Nat→C}{x:Operand}(h:∀t,x= .tmp t→(env t).noR= (env' t).noR):cx.evn env x=cx.evn env' x:=by
 cases x with
 |tmp t=>exact h t rfl
 |_=>rfl
theorem nb {env env':Nat→C}{x:Operand}(h:∀t,dL x=some t→env t=env' t):cx.ev env x=cx.ev env' x:=by
 cases x with
 |tmp t=>exact h t rfl
 |_=>rfl
theorem mO {ops:Array Oper}{o:Oper}{env env':Nat→C}(h:∀t∈o.looksAt ops,(env t).noR= (env' t).noR)(h2:∀t∈cq ops o,env t=env' t):
 splan cx ops o env=splan cx ops o env':=by
 have hE:∀x∈o.op.operands,cx.evn env x=cx.evn env' x:=fun x hx=>xk fun t ht=>h t (by
  subst ht
  exact List.mem_append_left _ (List.mem_filterMap.2 ⟨.tmp t,by simpa using hx,rfl⟩))
 obtain ⟨dst,op,type,pos,after,guard⟩:=o
 unfold splan
 cases op<;>simp only[Op.operands] at hE<;>simp only[] <;>try rfl
 case move x=>
  cases x with
  |tmp p=>
   simp only[]
   simp only[cq,dL] at h2
   split
   . rename_i ha
     rw[if_pos ha] at h2
     rw[h2 p (by simp)]
   . have:=hE (.tmp p) (by simp)
     simp only[Cx.evn,Cx.ev] at this
     rw[this]
  |_=>rfl
 case assign x=>
  rw[nb (cx:=cx) (env:=env) (env':=env') fun t ht=>h2 t (by simp[cq,ht])]
 case pick c x y=>simp only[hE c (by simp),hE x (by simp),hE y (by simp)]
 case box t x=>rw[hE x (by simp)]
 case build t ps=>
  have: (ps.toList.map fun x=>(x.1,cx.evn env x.2)) =ps.toList.map fun x=>(x.1,cx.evn env' x.2):=List.map_congr_left fun x hx=>by
   rw[hE x.2 (by simp;exact ⟨x.1,by simpa using hx⟩)]
  rw[this]
 case buildSlice t n ps=>
  have: (ps.toList.map fun x=>(x.1,cx.evn env x.2)) =ps.toList.map fun x=>(x.1,cx.evn env' x.2):=List.map_congr_left fun x hx=>by
   rw[hE x.2 (by simp;exact ⟨x.1,by simpa using hx⟩)]
  rw[this]
 case load t x=>rw[hE x (by simp)]
 case store t x y=>
  rw[hE x (by simp),nb (cx:=cx) (x:=y) (env:=env) (env':=env') fun t ht=>h2 t (by simp[cq,ht])]
 case nilCheck x=>rw[hE x (by simp)]
 case binOp op t x y yt=>rw[hE x (by simp),hE y (by simp)]
 case unOp op t x=>rw[hE x (by simp)]
 case convert s t x=>rw[hE x (by simp)]
 case sliceToArrayPointer t x=>rw[hE x (by simp)]
 case makeFunc fn first caps=>
  cases fn<;>try rfl
  rename_i f
  have: (caps.toList.map fun x=>(cx.evn env x).share) =caps.toList.map fun x=>(cx.evn env' x).share:=List.map_congr_left fun x hx=>by
   rw[hE x (by simp;exact .inr (by simpa using hx))]
  simp only[this]
 case makeSlice t l c=>rw[hE l (by simp),hE c (by simp)]
 case slice t x lo hi mx=>
  have e1:lo.map (cx.evn env) =lo.map (cx.evn env'):=by cases lo with|none=>rfl|some q=>simp only[Option.map_some];rw[hE q (by simp)]
  have e2:hi.map (cx.evn env) =hi.map (cx.evn env'):=by cases hi with|none=>rfl|some q=>simp only[Option.map_some];rw[hE q (by simp)]
  have e3:mx.map (cx.evn env) =mx.map (cx.evn env'):=by cases mx with|none=>rfl|some q=>simp only[Option.map_some];rw[hE q (by simp)]
  rw[hE x (by simp),e1,e2,e3]
 case fieldAddr t x f=>rw[hE x (by simp)]
 case field t x f=>rw[hE x (by simp)]
 case indexAddr t x i=>rw[hE x (by simp),hE i (by simp)]
 case index t x i=>rw[hE x (by simp),hE i (by simp)]
 case extract x i=>rw[hE x (by simp)]
 case makeMap t r=>cases r<;>rfl
 case lookup t x k ok=>rw[hE x (by simp),hE k (by simp)]
 case mapUpdate t m k x=>rw[hE m (by simp),hE k (by simp),hE x (by simp)]
 case call c=>
  obtain ⟨callee,args,ts⟩:=c
  cases callee with
  |invoke r m=>rfl
  |builtin b=>
   simp only[]
   have hA:∀x∈args.toList,cx.evn env x=cx.evn env' x:=fun x hx=>hE x (by simpa[Call.operands] using hx)
   split
   . rename_i x t ha ht;rw[hA x (by rw[ha];simp)]
   . rename_i x y t t2 ha ht
     rw[hA y (by rw[ha];simp),hA x (by rw[ha];simp),nb (cx:=cx) (x:=x) (env:=env) (env':=env') fun t ht=>h2 t (by simp[cq,ha,ht])]
   . rename_i x y t t2 ha ht;rw[hA x (by rw[ha];simp),hA y (by rw[ha];simp)]
   . rename_i x y ha;rw[hA x (by rw[ha];simp),hA y (by rw[ha];simp)]
   . rename_i x y ha;rw[hA x (by rw[ha];simp),hA y (by rw[ha];simp)]
   . rename_i x y t t2 ha ht;rw[hA x (by rw[ha];simp),hA y (by rw[ha];simp)]
   . rfl
  |value f=>
   simp only[]
   have hA:args.toList.map (cx.evn env) =args.toList.map (cx.evn env'):=List.map_congr_left fun x hx=>hE x (by simp[Call.operands];exact .inr (by simpa using hx))
   rw[hE f (by simp[Call.operands]),hA]
theorem k9 {ops:Array Oper}{o:Oper}{env env':Nat→C}(h:∀t∈o.looksAt ops,(env t).noR= (env' t).noR):dP ops o env=dP ops o env':=by
 unfold dP
 cases hg:o.guard with
 |none=>rfl
 |some g=>
  obtain ⟨j,want⟩:=g
  simp only[]
  cases hd: (ops[j]?).bind (·.dst) with
  |none=>rfl
  |some t=>
   simp only[]
   rw[h t (List.mem_append_right _ (by simp[hg,hd]))]
def NR (f:List C→Option C):Prop:= ∀ (cells:List C)(i:Nat)(x:C),cells[i]? =some x→f (cells.set i x.noR) =f cells
theorem jw {cells:List C}{i:Nat}{x:C}(h:cells[i]? =some x): (cells.set i x.noR).map C.noR=cells.map C.noR:=by
 apply List.ext_getElem?
 intro j
 simp only[List.getElem?_map,List.getElem?_set]
 split
 . rename_i hij
   subst hij
   have hlt:=(List.getElem?_eq_some_iff.1 h).1
   rw[h]
   split
   . cases x with
     |sl r n xs=>cases r<;>rfl
     |_=>rfl
   . omega
 . rfl
theorem Nr {f:List C→Option C}(g:List C→Option C)(h:∀cells,f cells=g (cells.map C.noR)):NR f:=fun cells i x hx=>by
 rw[h,h,jw hx]
theorem AB (d:TD)(off:Nat):NR fun cells=>cJ d cells off:=
 Nr (fun cs=>if d.isAgg then (if off+d.size≤cs.length then some (.agg ((cs.drop off).take d.size)) else none) else cs[off]?) fun cells=>by
  simp only[cJ,List.length_map,List.map_take,List.map_drop,List.getElem?_map]
theorem nf:∀ (xs:List C),ew xs=ew (xs.map C.noR)
 | [] =>rfl
 |c::xs=>by
  cases c with
  |val v=>
   cases v with
   |int k n=>
    cases k<;>simp only[List.map_cons,C.noR,ew]
    rw[nf xs]
   |_=>rfl
  |sl r n ys=>cases r<;>rfl
  |_=>rfl
theorem rV {cells:List C}{i:Nat}{x:C}(h:cells[i]? =some x)(o n:Nat): (((cells.set i x.noR).drop o).take n).map C.noR= ((cells.drop o).take n).map C.noR:=by
 simp only[List.map_take,List.map_drop,jw h]
def Plan.nr:Plan→Prop
 | .rd _ f=>NR f
 | .ap none _ _ f=>(f []).isSome=true→∀h,f h=f []
 |_=>True
theorem ER {s d:TypeId}{c:C}{p:Plan}(h:eM P s d c=some p):p.nr:=by
 unfold eM at h
 repeat' split at h
 all_goals first
  | (cases h;done)
  | (cases h;trivial)
  |skip
 . cases h
   simp only[Plan.nr]
   intro cells i x hx
   simp only[List.length_set]
   rw[nf,rV hx,←nf]
 . rename_i n xs _ _
   cases hq:ew xs with
   |none=>rw[hq] at h;cases h
   |some ns=>rw[hq] at h;cases h;trivial
theorem ES {own:Bool}{t:TypeId}{c:C}{p:Plan}(h:loadPlan P own t c=some p):p.nr:=by
 unfold loadPlan at h
 split at h
 . cases h
 . rename_i d hd
   split at h
   . split at h
     . cases h;trivial
     . cases h;exact AB d _
   . cases hq:cJ d _ loadPlan.off0 with
     |none=>rw[hq] at h;cases h
     |some x=>rw[hq] at h;cases h;trivial
   . cases h
theorem xl {t t2:TypeId}{x y:C}{k:Option Nat}{p:Plan}(h:dX P t t2 x y k=some p):p.nr:=by
 unfold dX at h
 split at h
 . cases h
 . cases h
 split at h
 . cases h
 split at h
 . split at h
   . cases h
   simp only[] at h
   split at h
   . cases h
   split at h
   . split at h
     . cases h;trivial
     . cases h
       simp only[Plan.nr]
       intro cells i x hx
       simp only[List.length_set,rV hx]
   . split at h
     . rename_i m ys _
       split at h
       . cases h;trivial
       . cases h
     . cases h
 . cases h
theorem n4 {α:Type}{x:Option α}{g:α→Plan}{p:Plan}(h:x.map g=some p)(hg:∀y,(g y).nr):p.nr:=by
 cases x with
 |none=>cases h
 |some y=>cases h;exact hg y
theorem AC {b:Nat}{cells:List C}{i:Nat}{x:C}(hx:cells[i]? =some x)(c:C):gC b (cells.set i x.noR) c=gC b cells c:=by
 have hm:∀k,((cells.set i x.noR).drop k).map C.noR= (cells.drop k).map C.noR:=fun k=>by
  apply List.ext_getElem?
  intro j
  simp only[List.getElem?_map,List.getElem?_drop,List.getElem?_set]
  split
  . rename_i e;subst e
    rw[hx]
    split
    . simp only[Option.map_some]
      congr 1
      cases x with
      |sl r n xs=>cases r<;>rfl
      |_=>rfl
    . rename_i hlt
      exact absurd (List.getElem?_eq_some_iff.1 hx).1 hlt
  . rfl
 cases c with
 |sv b' off n=>
  simp only[gC,List.length_set]
  split
  . rw[List.map_take,List.map_take,hm]
  . rfl
 |bp b' off=>simp only[gC,hm]
 |gv b' n s=>
  simp only[gC,List.length_set]
  split
  . have:=hm 0
    simp only[List.drop_zero] at this
    rw[List.map_take,List.map_take,this]
  . rfl
 |_=>rfl
theorem qo {b:Nat}{cells:List C}{i:Nat}{x:C}(hx:cells[i]? =some x):∀az:List C,fe b (cells.set i x.noR) az=fe b cells az
 | [] =>rfl
 |c::l=>by simp only[fe,AC hx,qo hx l]
theorem ET (g:Nat)(az:List C)(b:Nat):NR (rdPu cx g az b):=fun cells i x hx=>by
 unfold rdPu;rw[qo hx]
theorem Ik (g:Nat)(az:List C)(b:Nat):NR (rdE cx g az b):=fun cells i x hx=>by
 unfold rdE;rw[jw hx]
theorem Dn {b:Option (Nat×Nat)}{s:Nat×Nat}{m:Nat}{f:Hp→Option (List C)}(h: (f []).isSome=true→∀h,f h=f []): (Plan.ap b s m f).nr:=by
 cases b with
 |none=>exact h
 |some q=>trivial
theorem vd {d d2:TD}{x y:C}{p:Plan}(h:iF P d d2 x y=some p):∃b s m f,p= .ap b s m f∧p.nr:=by
 unfold iF at h
 repeat' split at h
 all_goals first| (cases h;done) | (cases h;exact ⟨_,_,_,_,rfl,Dn fun _ _=>rfl⟩)
theorem mP {t t2:TypeId}{x y:C}{p:Plan}(h:fD P t t2 x y=some p):∃b s m f,p= .ap b s m f∧p.nr:=by
 unfold fD at h
 simp only[] at h
 repeat' split at h
 all_goals first| (cases h;done) |exact vd h| (cases h;refine ⟨_,_,_,_,rfl,Dn ?_⟩)
 all_goals first|exact fun _ _=>rfl| (intro hs;exact absurd hs (by simp[Hp.at]))
theorem rW {s d:TypeId}{c:C}{p:Plan}(h:iB P s d c=some p):∃b s m f,p= .ap b s m f∧p.nr:=by
 unfold iB at h
 repeat' split at h
 all_goals first| (cases h;done) | (cases h;exact ⟨_,_,_,_,rfl,fun _ _=>rfl⟩)
theorem n5 {t:TypeId}{b n:Nat}{s:Nat×Nat}{hi:Option C}{p:Plan}(h:iU P t b n s hi=some p):∃c,p= .val c none:=by
 unfold iU at h
 repeat' split at h
 all_goals first| (cases h;done) | (cases h;exact ⟨_,rfl⟩)
theorem rX {ops:Array Oper}{o:Oper}{env:Nat→C}{p:Plan}(h:splan cx ops o env=some p):p.nr:=by
 unfold splan at h
 simp only[] at h
 split at h
 case h_8=>exact ES h
 case h_13=>
  split at h
  . obtain ⟨_,_,_,_,_,hn⟩:=rW h;exact hn
  . exact ER h
 case h_23=>
  split at h
  . split at h
    case h_2=>
     split at h
     . obtain ⟨_,_,_,_,_,hn⟩:=mP h;exact hn
     . exact xl h
    all_goals
     try simp only[gm,iV,fZ,eL] at h
     repeat' split at h
     all_goals first| (cases h;done) | (cases h;trivial) |exact n4 h fun _=>trivial
  . simp only[gQ] at h
    repeat' split at h
    all_goals first| (cases h;done) | (cases h;exact ET _ _ _) | (cases h;exact Ik _ _ _) | (cases h;trivial)
  . cases h
 all_goals
  try simp only[ce,dZ,dv,e8,hJ,aA,aO,fX,gB,eJ,ej,eK] at h
  repeat' split at h
  all_goals first| (cases h;done) | (cases h;trivial) |exact n4 h fun _=>trivial|exact n4 h (fun _=>(fun _ _=>rfl)) |exact n4 h fun _=>(by split<;>first|trivial|exact fun _ _=>rfl) | (obtain ⟨_,rfl⟩:=n5 h;trivial)
def ph (id:Nat):Plan→Option (Nat×(Option (List C)→Option (C×Option Nat×Option (List C))))
 | .rd b f=>some (b,fun e=>((aQ e).bind f).map fun c=>(c,none,e))
 | .wr b f k=>some (b,fun e=>((aQ e).bind f).map fun r=>(r.2,k,some r.1))
 | .xr b off=>some (b,fun e=>(aQ e).bind fun cells=>(cells[off]?).map fun x=>(x,none,some (cells.set off x.noR)))
 | .new cells g=>some (id,fun e=>match e with|none=>some (g id,none,some cells) |some _=>none)
 |_=>none
theorem qp {cells:List C}{off:Nat}{x:C}(h:aQ (some cells) =some cells)(hx:cells[off]? =some x):aQ (some (cells.set off x.noR)) =some (cells.set off x.noR):=by
 cases cells with
 |nil=>rfl
 |cons y l=>
  cases off with
  |zero=>
   simp only[List.getElem?_cons_zero,Option.some.injEq] at hx
   subst hx
   simp only[List.set_cons_zero]
   cases y with
   |tup xs=>cases h
   |sl r n xs=>cases r<;>rfl
   |_=>rfl
  |succ k=>
   simp only[List.set_cons_succ]
   cases y with
   |tup xs=>cases h
   |_=>rfl
theorem fb {id b:Nat}{p:Plan}{l:Option (List C)→Option (C×Option Nat×Option (List C))}(h:ph id p=some (b,l))(hp:Hp):
 aB cx id p hp= (hp[b]?).bind fun e=>(l e).map fun r=>(r.1,r.2.1,hp.set b r.2.2):=by
 cases p<;>simp only[ph,Option.some.injEq,Prod.mk.injEq,reduceCtorEq] at h
 case rd b' f=>
  obtain ⟨rfl,rfl⟩:=h
  simp only[aB,Hp.at]
  cases hq:hp[b']? with
  |none=>rfl
  |some e=>
   simp only[Option.bind_some,id_eq]
   cases hf: (aQ e).bind f with
   |none=>rfl
   |some c=>
    simp only[Option.map_some]
    have:hp.set b' e=hp:=by
     apply List.ext_getElem?
     intro j
     rw[List.getElem?_set]
     split
     . rename_i hj;subst hj
       have:=(List.getElem?_eq_some_iff.1 hq).1
       simp[this,hq]
       have:=(List.getElem?_eq_some_iff.1 hq).2
       exact this.symm
     . rfl
    rw[this]
 case wr b' f k=>
  obtain ⟨rfl,rfl⟩:=h
  simp only[aB,Hp.at]
  cases hq:hp[b']? with
  |none=>rfl
  |some e=>
   simp only[Option.bind_some,id_eq]
   cases hf: (aQ e).bind f<;>rfl
 case xr b' off=>
  obtain ⟨rfl,rfl⟩:=h
  simp only[aB,Hp.at]
  cases hq:hp[b']? with
  |none=>rfl
  |some e=>
   simp only[Option.bind_some]
   cases aQ e with
   |none=>rfl
   |some cells=>
    simp only[Option.bind_some,id_eq]
    cases cells[off]? <;>rfl
 case new cells g=>
  obtain ⟨rfl,rfl⟩:=h
  simp only[aB]
  cases hq:hp[id]? with
  |none=>rfl
  |some e=>cases e<;>rfl
theorem g7 {id:Nat}{h:Hp}{p:Plan}(h0: (br id h p).1≠0)(h4: (br id h p).1≠4)(h5: (br id h p).1≠5):∃l,ph id p=some ((br id h p).2,l):=by
 cases p with
 |ap b s m f=>
  cases b with
  |none=>
   simp only[br] at h4 h5
   split at h4
   . rename_i e;rw[if_pos e] at h5;exact absurd rfl h5
   . exact absurd rfl h4
  |some q=>exact absurd rfl h4
 |val c k=>exact absurd rfl h0
 |call f az=>exact absurd rfl h4
 |mo f=>exact absurd rfl h4
 |_=>exact ⟨_,rfl⟩
theorem n6 {id m:Nat}{s:Nat×Nat}{h:Hp}{b:Option (Nat×Nat)}{f:Hp→Option (List C)}(h4: (br id h (.ap b s m f)).1≠4)(h5: (br id h (.ap b s m f)).1≠5):False:=by
 cases b with
 |none=>
  simp only[br] at h4 h5
  split at h4
  . rename_i e;rw[if_pos e] at h5;exact h5 rfl
  . exact h4 rfl
 |some q=>exact h4 rfl
theorem Il {id:Nat}{h:Hp}{p:Plan}(h5: (br id h p).1=5):∃s m f,p= .ap none s m f∧(f []).isSome=true∧(br id h p).2=h.length:=by
 cases p with
 |ap b s m f=>
  cases b with
  |none=>
   simp only[br] at h5 ⊢
   split at h5
   . rename_i e;exact ⟨s,m,f,rfl,e,by rw[if_pos e]⟩
   . cases h5
  |some q=>cases h5
 |_=>cases h5
theorem n7 {id:Nat}{h h':Hp}{p:Plan}(e:h.length=h'.length):br id h p=br id h' p:=by
 cases p with
 |ap b s m f=>cases b<;>simp only[br,e]
 |_=>rfl
theorem jJ {cx:Cx}{id b:Nat}{p:Plan}{l:Option (List C)→Option (C×Option Nat×Option (List C))}(h:ph id p=some (b,l)){hp h':Hp}{c:C}{k:Option Nat}(e:aB cx id p hp=some (c,k,h')):h'.length=hp.length:=by
 rw[fb h] at e
 cases hq:hp[b]? with
 |none=>rw[hq] at e;cases e
 |some x=>
  rw[hq] at e
  simp only[Option.bind_some] at e
  cases hl:l x with
  |none=>rw[hl] at e;cases e
  |some r=>
   rw[hl] at e
   simp only[Option.map_some,Option.some.injEq,Prod.mk.injEq] at e
   obtain ⟨_,_,rfl⟩:=e
   exact List.length_set
theorem AD {idk idi b m:Nat}{s:Nat×Nat}{pk:Plan}{l:Option (List C)→Option (C×Option Nat×Option (List C))}{f:Hp→Option (List C)}{h h1 h2:Hp}{ck ci:C}{kk ki:Option Nat}(hl:ph idk pk=some (b,l))(hf:∀h,f h=f [])
 (e1:aB cx idk pk h=some (ck,kk,h1)) (e2:aB cx idi (.ap none s m f) h1=some (ci,ki,h2)):∃h1',aB cx idi (.ap none s m f) h=some (ci,ki,h1')∧aB cx idk pk h1'=some (ck,kk,h2):=by
 have hlen:=jJ hl e1
 rw[fb hl] at e1
 have ea:∀g:Hp,aB cx idi (.ap none s m f) g= (f g).bind fun cs=>some (.gv g.length m s,none,g++[some (cs.map C.noR)]):=fun g=>rfl
 rw[ea,hf h1] at e2
 rw[ea,hf h]
 cases hcs:f [] with
 |none=>rw[hcs] at e2;cases e2
 |some cs=>
  rw[hcs] at e2
  simp only[Option.bind_some,Option.some.injEq,Prod.mk.injEq] at e2
  obtain ⟨rfl,rfl,rfl⟩:=e2
  refine ⟨h++[some (cs.map C.noR)],by simp only[Option.bind_some,hlen],?_⟩
  rw[fb hl]
  cases hq:h[b]? with
  |none=>rw[hq] at e1;cases e1
  |some x=>
   have hlt:b< h.length:=(List.getElem?_eq_some_iff.1 hq).1
   rw[hq] at e1
   rw[List.getElem?_append_left hlt,hq]
   simp only[Option.bind_some] at e1 ⊢
   cases hx:l x with
   |none=>rw[hx] at e1;cases e1
   |some r=>
    rw[hx] at e1
    simp only[Option.map_some,Option.some.injEq,Prod.mk.injEq] at e1 ⊢
    obtain ⟨rfl,rfl,rfl⟩:=e1
    refine ⟨rfl,rfl,?_⟩
    rw[List.set_append,if_pos hlt]
theorem xm {idk idi b m:Nat}{s:Nat×Nat}{pi:Plan}{l:Option (List C)→Option (C×Option Nat×Option (List C))}{f:Hp→Option (List C)}{h h1 h2:Hp}{ck ci:C}{kk ki:Option Nat}(hl:ph idi pi=some (b,l))(hf:∀h,f h=f [])(hb:h.length≠b)
 (e1:aB cx idk (.ap none s m f) h=some (ck,kk,h1)) (e2:aB cx idi pi h1=some (ci,ki,h2)):∃h1',aB cx idi pi h=some (ci,ki,h1')∧aB cx idk (.ap none s m f) h1'=some (ck,kk,h2):=by
 rw[fb hl] at e2
 have ea:∀g:Hp,aB cx idk (.ap none s m f) g= (f g).bind fun cs=>some (.gv g.length m s,none,g++[some (cs.map C.noR)]):=fun g=>rfl
 rw[ea,hf h] at e1
 simp only[ea]
 cases hcs:f [] with
 |none=>rw[hcs] at e1;cases e1
 |some cs=>
  rw[hcs] at e1
  simp only[Option.bind_some,Option.some.injEq,Prod.mk.injEq] at e1
  obtain ⟨rfl,rfl,rfl⟩:=e1
  cases hq: (h++[some (cs.map C.noR)])[b]? with
  |none=>rw[hq] at e2;cases e2
  |some x=>
   have hlt':=(List.getElem?_eq_some_iff.1 hq).1
   have hlt:b< h.length:=by simp at hlt';omega
   rw[List.getElem?_append_left hlt] at hq
   rw[List.getElem?_append_left hlt,hq] at e2
   simp only[Option.bind_some] at e2
   cases hx:l x with
   |none=>rw[hx] at e2;cases e2
   |some r=>
    rw[hx] at e2
    simp only[Option.map_some,Option.some.injEq,Prod.mk.injEq] at e2
    obtain ⟨rfl,rfl,rfl⟩:=e2
    refine ⟨h.set b r.2.2,?_,?_⟩
    . rw[fb hl,hq]
      simp only[Option.bind_some,hx,Option.map_some]
    . rw[hf,hcs]
      simp only[Option.bind_some,List.length_set,Option.some.injEq,Prod.mk.injEq,true_and]
      rw[List.set_append,if_pos hlt]
theorem xn {idk idi:Nat}{pk pi:Plan}{h h1 h2:Hp}{ck ci:C}{kk ki:Option Nat}(e1:aB cx idk pk h=some (ck,kk,h1))(e2:aB cx idi pi h1=some (ci,ki,h2))
 (hc:dl (br idk h pk) (br idi h1 pi) =true) (nk:pk.nr) (ni:pi.nr):∃h1',aB cx idi pi h=some (ci,ki,h1')∧aB cx idk pk h1'=some (ck,kk,h2)∧br idi h pi=br idi h1 pi∧br idk h1' pk=br idk h pk:=by
 suffices hh:∃h1',aB cx idi pi h=some (ci,ki,h1')∧aB cx idk pk h1'=some (ck,kk,h2) by
  obtain ⟨h1',q1,q2⟩:=hh
  refine ⟨h1',q1,q2,?_⟩
  have lenk: (br idk h pk).1≠4→(br idk h pk).1≠5→h1.length=h.length:=fun h4 h5=>by
   by_cases k0: (br idk h pk).1=0
   . cases pk with
     |val c k=>simp only[aB,Option.some.injEq,Prod.mk.injEq] at e1;rw[e1.2.2]
     |ap b s m f=>cases b with
      |none=>simp only[br] at k0;split at k0<;>cases k0
      |some q=>cases k0
     |_=>cases k0
   . obtain ⟨l,hl⟩:=g7 k0 h4 h5;exact jJ hl e1
  have leni: (br idi h1 pi).1≠4→(br idi h1 pi).1≠5→h1'.length=h.length:=fun h4 h5=>by
   by_cases i0: (br idi h1 pi).1=0
   . cases pi with
     |val c k=>simp only[aB,Option.some.injEq,Prod.mk.injEq] at q1;rw[q1.2.2]
     |ap b s m f=>cases b with
      |none=>simp only[br] at i0;split at i0<;>cases i0
      |some q=>cases i0
     |_=>cases i0
   . obtain ⟨l,hl⟩:=g7 i0 h4 h5;exact jJ hl q1
  have free:∀ {id:Nat}{h h':Hp}{p:Plan},(br id h p).1≠5→br id h' p=br id h p:=fun {id h h' p} h5=>by
   cases p with
   |ap b s m f=>cases b with
    |none=>
     simp only[br] at h5 ⊢
     split at h5
     . exact absurd rfl h5
     . rename_i e;rw[if_neg e,if_neg e]
    |some q=>rfl
   |_=>rfl
  refine ⟨?_,?_⟩
  . by_cases i5: (br idi h1 pi).1=5
    . refine n7 (lenk ?_ ?_).symm<;> (intro e;simp[dl,e,i5] at hc)
    . exact free i5
  . by_cases k5: (br idk h pk).1=5
    . refine n7 (leni ?_ ?_) <;> (intro e;simp[dl,e,k5] at hc)
    . exact free k5
 by_cases k0: (br idk h pk).1=0
 . obtain ⟨c,k,rfl⟩:∃c k,pk= .val c k:=by
    cases pk with
    |val c k=>exact ⟨c,k,rfl⟩
    |ap b s m f=>cases b with
     |none=>simp only[br] at k0;split at k0<;>cases k0
     |some q=>cases k0
    |_=>cases k0
   simp only[aB,Option.some.injEq,Prod.mk.injEq] at e1 ⊢
   obtain ⟨rfl,rfl,rfl⟩:=e1
   exact ⟨h2,e2,rfl,rfl,rfl⟩
 by_cases i0: (br idi h1 pi).1=0
 . obtain ⟨c,k,rfl⟩:∃c k,pi= .val c k:=by
    cases pi with
    |val c k=>exact ⟨c,k,rfl⟩
    |ap b s m f=>cases b with
     |none=>simp only[br] at i0;split at i0<;>cases i0
     |some q=>cases i0
    |_=>cases i0
   simp only[aB,Option.some.injEq,Prod.mk.injEq] at e2 ⊢
   obtain ⟨rfl,rfl,rfl⟩:=e2
   exact ⟨h,⟨rfl,rfl,rfl⟩,e1⟩
 have k4: (br idk h pk).1≠4:=fun e=>by simp[dl,k0,i0,e] at hc
 have i4: (br idi h1 pi).1≠4:=fun e=>by simp[dl,k0,i0,e] at hc
 by_cases k5: (br idk h pk).1=5
 . have i5: (br idi h1 pi).1≠5:=fun e=>by simp[dl,k5,e] at hc
   have hne: (br idk h pk).2≠(br idi h1 pi).2:=fun e=>by simp[dl,k0,i0,k5,e] at hc
   obtain ⟨l,hl⟩:=g7 i0 i4 i5
   obtain ⟨s,m,f,rfl,hs,h2'⟩:=Il k5
   rw[h2'] at hne
   exact xm hl (nk hs) hne e1 e2
 by_cases i5: (br idi h1 pi).1=5
 . obtain ⟨l,hl⟩:=g7 k0 k4 k5
   obtain ⟨s,m,f,rfl,hs,_⟩:=Il i5
   exact AD hl (ni hs) e1 e2
 replace hc:dl (br idk h pk) (br idi h pi) =true:=by
  have:br idi h pi=br idi h1 pi:=n7 (by
   obtain ⟨l,hl⟩:=g7 k0 k4 k5;exact (jJ hl e1).symm)
  rwa [this]
 have hfi:br idi h1 pi=br idi h pi:=n7 (by
  obtain ⟨l,hl⟩:=g7 k0 k4 k5;exact jJ hl e1)
 rw[hfi] at i0 i4 i5
 by_cases hb: (br idk h pk).2= (br idi h pi).2
 . cases pk with
   |val c k=>exact absurd rfl k0
   |call f az=>exact absurd rfl k4
   |mo f=>exact absurd rfl k4
   |ap b' s m ys=>exact (n6 k4 k5).elim
   |wr b f k=>cases pi with
    |val c k=>exact absurd rfl i0
    |call f az=>exact absurd rfl i4
    |mo f=>exact absurd rfl i4
    |ap b'' s m ys=>exact (n6 i4 i5).elim
    |_=>simp[dl,br] at hc hb;omega
   |new cells g=>cases pi with
    |val c k=>exact absurd rfl i0
    |call f az=>exact absurd rfl i4
    |mo f=>exact absurd rfl i4
    |ap b'' s m ys=>exact (n6 i4 i5).elim
    |_=>simp[dl,br] at hc hb;omega
   |rd b f=>
    simp only[aB] at e1
    cases hq: (h.at b).bind f with
    |none=>rw[hq] at e1;cases e1
    |some c=>
     rw[hq] at e1
     simp only[Option.map_some,Option.some.injEq,Prod.mk.injEq] at e1
     obtain ⟨rfl,rfl,rfl⟩:=e1
     cases pi with
     |val c k=>exact absurd rfl i0
     |call f az=>exact absurd rfl i4
     |mo f=>exact absurd rfl i4
     |ap b'' s m ys=>exact (n6 i4 i5).elim
     |wr b f k=>simp[dl,br] at hc hb;omega
     |new cells g=>simp[dl,br] at hc hb;omega
     |rd b' f'=>
      have e2':=e2
      simp only[aB] at e2'
      cases hq': (h.at b').bind f' with
      |none=>rw[hq'] at e2';cases e2'
      |some c'=>
       rw[hq'] at e2'
       simp only[Option.map_some,Option.some.injEq,Prod.mk.injEq] at e2'
       obtain ⟨rfl,rfl,rfl⟩:=e2'
       exact ⟨h,e2,by simp only[aB,hq];rfl⟩
     |xr b' off=>
      have hbb:b=b':=hb
      subst hbb
      refine ⟨h2,e2,?_⟩
      simp only[aB] at e2 ⊢
      cases hat:h.at b with
      |none=>rw[hat] at e2;cases e2
      |some cells=>
       rw[hat] at e2 hq
       simp only[Option.bind_some] at e2 hq
       cases hx:cells[off]? with
       |none=>rw[hx] at e2;cases e2
       |some x=>
        rw[hx] at e2
        simp only[Option.map_some,Option.some.injEq,Prod.mk.injEq] at e2
        obtain ⟨_,_,rfl⟩:=e2
        have hlt:b< h.length:=dS hat
        rw[bT hlt,if_pos rfl,qp (fI hat) hx]
        simp only[Option.bind_some]
        rw[nk cells off x hx,hq]
        rfl
   |xr b off=>
    simp only[aB] at e1
    cases hat:h.at b with
    |none=>rw[hat] at e1;cases e1
    |some cells=>
     rw[hat] at e1
     simp only[Option.bind_some] at e1
     cases hx:cells[off]? with
     |none=>rw[hx] at e1;cases e1
     |some x=>
      rw[hx] at e1
      simp only[Option.map_some,Option.some.injEq,Prod.mk.injEq] at e1
      obtain ⟨rfl,rfl,rfl⟩:=e1
      have hlt:b< h.length:=dS hat
      cases pi with
      |val c k=>exact absurd rfl i0
      |call f az=>exact absurd rfl i4
      |mo f=>exact absurd rfl i4
      |ap b'' s m ys=>exact (n6 i4 i5).elim
      |wr b f k=>simp[dl,br] at hc hb;omega
      |new cells g=>simp[dl,br] at hc hb;omega
      |xr b' off'=>simp[dl,br] at hc hb;omega
      |rd b' f'=>
       have hbb:b=b':=hb
       subst hbb
       simp only[aB] at e2 ⊢
       rw[bT hlt,if_pos rfl,qp (fI hat) hx] at e2
       simp only[Option.bind_some] at e2
       rw[ni cells off x hx] at e2
       cases hf:f' cells with
       |none=>rw[hf] at e2;cases e2
       |some c'=>
        rw[hf] at e2
        simp only[Option.map_some,Option.some.injEq,Prod.mk.injEq] at e2
        obtain ⟨rfl,rfl,rfl⟩:=e2
        refine ⟨h,?_,?_⟩
        . rw[hat];simp only[Option.bind_some,hf];rfl
        . rw[hat];simp only[Option.bind_some,hx];rfl
 . obtain ⟨lk,hlk⟩:=g7 k0 k4 k5
   obtain ⟨li,hli⟩:=g7 i0 i4 i5
   rw[fb hlk] at e1
   rw[fb hli] at e2
   simp only[fb hlk,fb hli]
   generalize (br idk h pk).2=bk at*
   generalize (br idi h pi).2=bi at*
   cases hk:h[bk]? with
   |none=>rw[hk] at e1;cases e1
   |some ek=>
    rw[hk] at e1
    simp only[Option.bind_some] at e1
    cases hlk':lk ek with
    |none=>rw[hlk'] at e1;cases e1
    |some rk=>
     rw[hlk'] at e1
     simp only[Option.map_some,Option.some.injEq,Prod.mk.injEq] at e1
     obtain ⟨rfl,rfl,rfl⟩:=e1
     rw[List.getElem?_set_ne hb] at e2
     cases hi:h[bi]? with
     |none=>rw[hi] at e2;cases e2
     |some ei=>
      rw[hi] at e2
      simp only[Option.bind_some] at e2
      cases hli':li ei with
      |none=>rw[hli'] at e2;cases e2
      |some ri=>
       rw[hli'] at e2
       simp only[Option.map_some,Option.some.injEq,Prod.mk.injEq] at e2
       obtain ⟨rfl,rfl,rfl⟩:=e2
       refine ⟨h.set bi ri.2.2,by simp[hli'],?_⟩
       rw[List.getElem?_set_ne (Ne.symm hb),hk]
       simp only[Option.bind_some,hlk',Option.map_some,Option.some.injEq,Prod.mk.injEq,true_and]
       exact List.set_comm _ _ (Ne.symm hb)
theorem qq (k:Option Nat)(env:Nat→C)(t:Nat): (aZ k env t).noR= (env t).noR:=by
 cases k with
 |none=>rfl
 |some p=>
  simp only[aZ]
  split
  . rename_i e
    subst e
    cases hc:env t with
    |sl r n xs=>cases r<;>rfl
    |_=>rfl
  . rfl
def Plan.kill:Plan→Option Nat
 | .val _ k=>k
 | .wr _ _ k=>k
 |_=>none
theorem iR {α:Type}{x:Option α}{g:α→Plan}{p:Plan}(h:x.map g=some p)(hg:∀y,(g y).kill=none):p.kill=none:=by
 cases x with
 |none=>cases h
 |some y=>cases h;exact hg y
theorem ve {t:TypeId}{c x:C}{k:Option Nat}{p:Plan}(h:ce P t c x k=some p):p.kill=none∨p.kill=k:=by
 unfold ce at h
 repeat' split at h
 all_goals first| (cases h;done) | (cases h;exact .inl rfl) | (cases h;exact .inr rfl)
theorem tS {t t2:TypeId}{x y:C}{k:Option Nat}{p:Plan}(h:dX P t t2 x y k=some p):p.kill=none∨p.kill=k:=by
 unfold dX at h
 split at h
 . cases h
 . cases h
 split at h
 . cases h
 split at h
 . split at h
   . cases h
   simp only[] at h
   split at h
   . cases h
   . rename_i n xs k' hs
     have hk:k'=none∨k'=k:=by
      split at hs
      . cases hs;exact .inl rfl
      . cases hs;exact .inl rfl
      . split at hs
        . cases hs;exact .inr rfl
        . cases hs
      . cases hs
     split at h
     . split at h
       . cases h;exact hk
       . cases h;exact .inl rfl
     . split at h
       . split at h
         . cases h;exact hk
         . cases h
       . cases h
 . cases h
theorem xp {s d:TypeId}{c:C}{p:Plan}(h:eM P s d c=some p):p.kill=none:=by
 unfold eM at h
 repeat' split at h
 all_goals first
  | (cases h;done)
  | (cases h;rfl)
  |exact iR h fun _=>rfl
theorem xq {own:Bool}{t:TypeId}{c:C}{p:Plan}(h:loadPlan P own t c=some p):p.kill=none:=by
 unfold loadPlan at h
 repeat' split at h
 all_goals first
  | (cases h;done)
  | (cases h;rfl)
  |exact iR h fun _=>rfl
theorem vf {ops:Array Oper}{o:Oper}{env:Nat→C}{p:Plan}(h:splan cx ops o env=some p){q:Nat}(hq:p.kill=some q):q∈cq ops o:=by
 have none_:p.kill=none→q∈cq ops o:=fun e=>by rw[e] at hq;cases hq
 unfold splan at h
 simp only[] at h
 split at h
 case h_1 x ho=>
  split at h
  . split at h
    . rename_i ha
      cases h
      cases hq
      simp[cq,ho,ha,dL]
    . cases h;cases hq
  . cases h;cases hq
 case h_2 x ho=>
  cases h
  simp only[Plan.kill] at hq
  simp[cq,ho,hq]
 case h_8=>exact none_ (xq h)
 case h_9 t x y ho=>
  rcases ve h with e|e
  . exact none_ e
  . rw[e] at hq;simp[cq,ho,hq]
 case h_13=>
  split at h
  . obtain ⟨_,_,_,_,rfl,_⟩:=rW h;exact none_ rfl
  . exact none_ (xp h)
 case h_23 c ho=>
  split at h
  . rename_i b hb
    split at h
    case h_2 x y t t2 ha ht=>
     split at h
     . obtain ⟨_,_,_,_,rfl,_⟩:=mP h;exact none_ rfl
     rcases tS h with e|e
     . exact none_ e
     . rw[e] at hq
       obtain ⟨callee,args,ts⟩:=c
       simp only[] at hb ha
       subst hb
       simp[cq,ho,ha,hq]
    all_goals
     refine none_ ?_
     try simp only[gm,iV,fZ,eL] at h
     repeat' split at h
     all_goals first| (cases h;done) | (cases h;rfl) |exact iR h fun _=>rfl
  . refine none_ ?_
    simp only[gQ] at h
    repeat' split at h
    all_goals first| (cases h;done) | (cases h;rfl)
  . cases h
 all_goals
  refine none_ ?_
  try simp only[dZ,dv,e8,hJ,aA,aO,fX,gB,eJ,ej,eK] at h
  repeat' split at h
  all_goals first| (cases h;done) | (cases h;rfl) |exact iR h fun _=>rfl|exact iR h fun _=>(by split<;>rfl) | (obtain ⟨_,rfl⟩:=n5 h;rfl)
theorem rY {ops:Array Oper}{id:Nat}{o:Oper}{st:St}{c:C}{k:Option Nat}{h':Hp}{f:FP}(h:k8 cx ops id o st=some (c,k,h',f)):∀p,k=some p→p∈cq ops o:=by
 intro p hk
 subst hk
 unfold k8 at h
 split at h
 . cases h
 . cases h
 . split at h
   . cases h
   . rename_i pl hpl
     cases ha:aB cx id pl st.h with
     |none=>rw[ha] at h;cases h
     |some r=>
      rw[ha] at h
      simp only[Option.map_some,Option.some.injEq,Prod.mk.injEq] at h
      obtain ⟨rfl,hk,rfl,rfl⟩:=h
      have hkill: (∃c,pl= .val c (some p))∨∃b f,pl= .wr b f (some p):=by
       cases pl with
       |val c k=>simp only[aB,Option.some.injEq] at ha;subst ha;simp only[] at hk;subst hk;exact .inl ⟨c,rfl⟩
       |rd b f=>simp only[aB] at ha;cases hq: (st.h.at b).bind f<;>rw[hq] at ha<;>cases ha;cases hk
       |wr b f k=>
        simp only[aB] at ha
        cases hq: (st.h.at b).bind f with
        |none=>rw[hq] at ha;cases ha
        |some r'=>rw[hq] at ha;cases ha;simp only[] at hk;subst hk;exact .inr ⟨b,f,rfl⟩
       |xr b off=>
        simp only[aB] at ha
        cases hq:st.h.at b with
        |none=>rw[hq] at ha;cases ha
        |some cells=>
         rw[hq] at ha
         simp only[Option.bind_some] at ha
         cases hq2:cells[off]? <;>rw[hq2] at ha<;>cases ha
         cases hk
       |new cells g=>
        simp only[aB] at ha
        split at ha<;>cases ha
        cases hk
       |call g az=>simp only[aB] at ha;cases hq:cx.hp g az st.h<;>rw[hq] at ha<;>cases ha;cases hk
       |mo f=>simp only[aB] at ha;cases hq:f st.h<;>rw[hq] at ha<;>cases ha;cases hk
       |ap b s m ys=>
        simp only[aB] at ha
        cases hq:ys st.h with
        |none=>rw[hq] at ha;cases ha
        |some cs=>
         rw[hq] at ha
         simp only[Option.bind_some] at ha
         split at ha
         . cases ha;cases hk
         . rename_i b n
           cases hq2:st.h.at b with
           |none=>rw[hq2] at ha;cases ha
           |some cells=>
            rw[hq2] at ha
            simp only[Option.bind_some] at ha
            repeat' split at ha
            all_goals first| (cases ha;done) | (cases ha;cases hk)
      refine vf hpl ?_
      rcases hkill with ⟨c,rfl⟩ | ⟨b,f,rfl⟩ <;>rfl
theorem ji {ops:Array Oper}{o:Oper}{t:Nat}(h:t∈cq ops o):t∈o.looksAt ops:=by
 refine List.mem_append_left _ (List.mem_filterMap.2 ⟨.tmp t,?_,rfl⟩)
 have key:∀x:Operand,dL x=some t→x= .tmp t:=fun x hx=>by cases x<;>simp[dL] at hx;rw[hx]
 obtain ⟨dst,op,type,pos,after,guard⟩:=o
 unfold cq at h
 split at h
 . rename_i x ho
   simp only[] at ho
   subst ho
   split at h
   . rw[Option.mem_toList] at h
     simp[Op.operands,key x h]
   . cases h
 . rename_i x ho
   simp only[] at ho
   subst ho
   rw[Option.mem_toList] at h
   simp[Op.operands,key x h]
 . rename_i a b y ho
   simp only[] at ho
   subst ho
   rw[Option.mem_toList] at h
   simp[Op.operands,key y h]
 . rename_i args ts ho
   simp only[] at ho
   subst ho
   split at h
   . rename_i x r ha
     rw[Option.mem_toList] at h
     simp only[Op.operands,Call.operands,Array.toList_append,List.mem_append]
     right
     rw[ha,key x h]
     simp
   . cases h
 . cases h
theorem vg {ops:Array Oper}{base k i:Nat}{st st1 st2:St}{fk fi:FP}{ok oi:Oper}(hok:ops[k]? =some ok)(hoi:ops[i]? =some oi)(hap:apart ops ok oi=true)
 (h1:fa cx ops base k st=some (st1,fk)) (h2:fa cx ops base i st1=some (st2,fi)) (hc:dl fk fi=true):
 ∃st1',fa cx ops base i st=some (st1',fi)∧fa cx ops base k st1'=some (st2,fk):=by
 simp only[apart,Bool.and_eq_true] at hap
 obtain ⟨hap,hos⟩:=hap
 obtain ⟨a1,a2,a3⟩:=Oper.apart_spec hap
 have hos':∀t,t∈cq ops ok→t∉cq ops oi:=fun t ht=>by simpa using List.all_eq_true.1 hos t ht
 unfold fa at h1 h2 ⊢
 rw[hok] at h1
 rw[hoi] at h2
 simp only[hok,hoi] at h1 h2 ⊢
 by_cases dk:gY cx.N ok.dst=true
 case neg=>rw[if_neg dk] at h1;cases h1
 by_cases di:gY cx.N oi.dst=true
 case neg=>rw[if_neg di] at h2;cases h2
 rw[if_pos dk] at h1
 rw[if_pos di] at h2
 rw[if_pos di]
 cases hk:k8 cx ops (base+dw ops k) ok st with
 |none=>rw[hk] at h1;cases h1
 |some rk=>
  obtain ⟨ck,kk,hk',fk'⟩:=rk
  rw[hk] at h1
  simp only[Option.map_some,Option.some.injEq,Prod.mk.injEq] at h1
  obtain ⟨rfl,rfl⟩:=h1
  cases hi:k8 cx ops (base+dw ops i) oi ⟨put ok.dst ck (aZ kk st.env),hk'⟩ with
  |none=>rw[hi] at h2;cases h2
  |some ri=>
   obtain ⟨ci,ki,hi',fi'⟩:=ri
   rw[hi] at h2
   simp only[Option.map_some,Option.some.injEq,Prod.mk.injEq] at h2
   obtain ⟨rfl,rfl⟩:=h2
   have kk':=rY hk
   have ki':=rY hi
   have put_ne:∀ {d:Option Nat}{c:C}{env:Nat→C}{t:Nat},d≠some t→put d c env t=env t:=by
    intro d c env t hne
    cases d with
    |none=>rfl
    |some d=>simp only[put];rw[if_neg (fun e=>hne (by rw[e]))]
   have kill_ne:∀ {kq:Option Nat}{env:Nat→C}{t:Nat},kq≠some t→aZ kq env t=env t:=by
    intro kq env t hne
    cases kq with
    |none=>rfl
    |some q=>simp only[aZ];rw[if_neg (fun e=>hne (by rw[e]))]
   have see_i:∀t∈oi.looksAt ops,(put ok.dst ck (aZ kk st.env) t).noR= (st.env t).noR:=fun t ht=>by
    rw[put_ne (fun e=>a1 t e ht),qq]
   have own_i:∀t∈cq ops oi,put ok.dst ck (aZ kk st.env) t=st.env t:=fun t ht=>by
    rw[put_ne (fun e=>a1 t e (ji ht)),kill_ne (fun e=>hos' t (kk' t e) ht)]
   have see_k:∀t∈ok.looksAt ops,(put oi.dst ci (aZ ki st.env) t).noR= (st.env t).noR:=fun t ht=>by
    rw[put_ne (fun e=>a3 t e ht),qq]
   have own_k:∀t∈cq ops ok,put oi.dst ci (aZ ki st.env) t=st.env t:=fun t ht=>by
    rw[put_ne (fun e=>a3 t e (ji ht)),kill_ne (fun e=>hos' t ht (ki' t e))]
   have env_eq:put oi.dst ci (aZ ki (put ok.dst ck (aZ kk st.env))) =put ok.dst ck (aZ kk (put oi.dst ci (aZ ki st.env))):=by
    funext t
    by_cases t1:oi.dst=some t
    . have t2:ok.dst≠some t:=fun e=>a2 t e t1
      have t3:kk≠some t:=fun e=>a3 t t1 (ji (kk' t e))
      rw[put_ne t2,kill_ne t3,t1]
      simp[put]
    . rw[put_ne t1]
      by_cases t2:ok.dst=some t
      . have t3:ki≠some t:=fun e=>a1 t t2 (ji (ki' t e))
        rw[kill_ne t3,t2]
        simp[put]
      . rw[put_ne t2]
        have e1:aZ ki (put ok.dst ck (aZ kk st.env)) t=aZ ki (aZ kk st.env) t:=by
         cases ki with
         |none=>simp only[aZ];rw[put_ne t2]
         |some q=>
          simp only[aZ]
          split
          . rename_i e;subst e;rw[put_ne t2]
          . rw[put_ne t2]
        have e2:aZ kk (put oi.dst ci (aZ ki st.env)) t=aZ kk (aZ ki st.env) t:=by
         cases kk with
         |none=>simp only[aZ];rw[put_ne t1]
         |some q=>
          simp only[aZ]
          split
          . rename_i e;subst e;rw[put_ne t1]
          . rw[put_ne t1]
        rw[e1,e2]
        cases ki<;>cases kk<;>simp only[aZ]
        split<;>split<;>simp_all
   have comm:∃h1',k8 cx ops (base+dw ops i) oi st=some (ci,ki,h1',fi')∧k8 cx ops (base+dw ops k) ok ⟨put oi.dst ci (aZ ki st.env),h1'⟩ =some (ck,kk,hi',fk'):=by
    unfold k8 at hk hi ⊢
    simp only[] at hk hi ⊢
    rw[k9 (env:=put ok.dst ck (aZ kk st.env)) see_i,mO see_i own_i] at hi
    cases wk:dP ops ok st.env with
    |none=>rw[wk] at hk;cases hk
    |some bk=>
     rw[wk] at hk
     cases wi:dP ops oi st.env with
     |none=>rw[wi] at hi;cases hi
     |some bi=>
      rw[wi] at hi
      have wk2:dP ops ok (put oi.dst ci (aZ ki st.env)) =some bk:=by rw[k9 see_k,wk]
      have sk2:splan cx ops ok (put oi.dst ci (aZ ki st.env)) =splan cx ops ok st.env:=mO see_k own_k
      cases bk with
      |false=>
       simp only[Option.some.injEq,Prod.mk.injEq] at hk
       obtain ⟨rfl,rfl,rfl,rfl⟩:=hk
       exact ⟨hi',hi,by rw[wk2]⟩
      |true=>
       simp only[] at hk
       cases pk:splan cx ops ok st.env with
       |none=>rw[pk] at hk;cases hk
       |some plk=>
        rw[pk] at hk
        simp only[] at hk
        cases ak:aB cx (base+dw ops k) plk st.h with
        |none=>rw[ak] at hk;cases hk
        |some rk=>
         rw[ak] at hk
         simp only[Option.map_some,Option.some.injEq,Prod.mk.injEq] at hk
         obtain ⟨rfl,rfl,rfl,rfl⟩:=hk
         cases bi with
         |false=>
          simp only[Option.some.injEq,Prod.mk.injEq] at hi
          obtain ⟨rfl,rfl,rfl,rfl⟩:=hi
          refine ⟨st.h,rfl,?_⟩
          rw[wk2,sk2,pk]
          simp only[ak,Option.map_some]
         |true=>
          simp only[] at hi
          cases pi:splan cx ops oi st.env with
          |none=>rw[pi] at hi;cases hi
          |some pli=>
           rw[pi] at hi
           simp only[] at hi
           cases ai:aB cx (base+dw ops i) pli rk.2.2 with
           |none=>rw[ai] at hi;cases hi
           |some ri=>
            rw[ai] at hi
            simp only[Option.map_some,Option.some.injEq,Prod.mk.injEq] at hi
            obtain ⟨rfl,rfl,rfl,rfl⟩:=hi
            obtain ⟨h1',q1,q2,q3,q4⟩:=xn (cx:=cx) ak ai hc (rX pk) (rX pi)
            refine ⟨h1',?_,?_⟩
            . simp only[q1,Option.map_some,q3]
            . rw[wk2,sk2,pk]
              simp only[q2,Option.map_some,q4]
   obtain ⟨h1',q1,q2⟩:=comm
   refine ⟨⟨put oi.dst ci (aZ ki st.env),h1'⟩,by rw[q1];rfl,?_⟩
   rw[if_pos dk,q2,env_eq]
   rfl
end
end Go.Sx
namespace Go.Sx
open Go.RowKit
def la (cx:Cx)(ops:Array Oper)(base:Nat)(F:Nat→FP):List Nat→St→St→Prop
 | [],st,fin=>st=fin
 |i::l,st,fin=> ∃st',fa cx ops base i st=some (st',F i)∧la cx ops base F l st' fin
def n8 (acc:List Nat)(o:Oper):Nat:=o.after.toList.foldl (fun s e=>if Region.binds .any e then s|||2 ^ e.on||| (acc[e.on]?).getD 0 else s) 0
def lb:List Oper→List Nat→List Nat
 | [],acc=>acc
 |o::r,acc=>lb r (acc++[n8 acc o])
def rZ (ops:Array Oper):List Nat:=lb ops.toList []
def n9 (d:List Nat)(i k:Nat):Bool:=((d[i]?).getD 0).testBit k
def eh (ops:Array Oper):Bool:=
 let d:=rZ ops
 (ops.toList.zipIdx.all fun x=>x.1.after.toList.all fun e=> !Region.binds .any e||decide (e.on< x.2)) &&
 ops.toList.zipIdx.all fun x=>ops.toList.zipIdx.all fun y=> !decide (y.2< x.2) ||n9 d x.2 y.2||apart ops y.1 x.1
def fK (ops:Array Oper)(fps:List FP):Bool:=
 let d:=rZ ops
 fps.zipIdx.all fun x=>x.1.1==0||fps.zipIdx.all fun y=> !decide (y.2< x.2) ||y.1.1==0||n9 d x.2 y.2||dl y.1 x.1
def gy (cx:Cx)(ops:Array Oper)(base:Nat):List Nat→St→Option (St×List FP)
 | [],st=>some (st,[])
 |i::l,st=>match fa cx ops base i st with
  |none=>none
  |some (st',f) =>(gy cx ops base l st').map fun r=>(r.1,f::r.2)
def iS (cx:Cx)(ops:Array Oper)(st:St):Option St:=
 match gy cx ops st.h.length (List.range ops.size) ⟨st.env,st.h++List.replicate (dw ops ops.size) none⟩ with
 |some (st',fps) =>if fK ops fps=true then some st' else none
 |none=>none
section
variable {cx:Cx} {G:Gh} {w:World} {st:St} {a:Act} {P:Program} {ops:Array Oper} {base:Nat}
theorem oa {F:Nat→FP}{i:Nat}{oi:Oper}(hoi:ops[i]? =some oi):∀ (l1:List Nat){l2:List Nat}{st fin:St},
 (∀k∈l1,∃ok,ops[k]? =some ok∧apart ops ok oi=true∧dl (F k) (F i) =true)→la cx ops base F (l1++i::l2) st fin→
 ∃st',fa cx ops base i st=some (st',F i)∧la cx ops base F (l1++l2) st' fin
 | [],l2,st,fin,_,h=>h
 |k::l1,l2,st,fin,hk,h=>by
  simp only[List.cons_append,la] at h
  obtain ⟨st1,h1,h2⟩:=h
  obtain ⟨st2,h3,h4⟩:=oa hoi l1 (fun k' hk'=>hk k' (by simp[hk'])) h2
  obtain ⟨ok,hok,hap,hc⟩:=hk k (by simp)
  obtain ⟨st1',q1,q2⟩:=vg hok hoi hap h1 h3 hc
  exact ⟨st1',q1,st2,q2,h4⟩
theorem tT {acc:List Nat}{o:Oper}{k:Nat}(h: (n8 acc o).testBit k=true):∃e∈o.after,Region.binds .any e=true∧(k=e.on∨((acc[e.on]?).getD 0).testBit k=true):=by
 unfold n8 at h
 have key:∀ (l:List Edge)(s:Nat),(l.foldl (fun s e=>if Region.binds .any e then s|||2 ^ e.on||| (acc[e.on]?).getD 0 else s) s).testBit k=true→
  s.testBit k=true∨∃e∈l,Region.binds .any e=true∧(k=e.on∨((acc[e.on]?).getD 0).testBit k=true):=by
  intro l
  induction l with
  |nil=>intro s hs;exact .inl hs
  |cons e l ih=>
   intro s hs
   simp only[List.foldl_cons] at hs
   rcases ih _ hs with h1| ⟨e',he',h1⟩
   . split at h1
     . rename_i hb
       simp only[Nat.testBit_or,Bool.or_eq_true] at h1
       rcases h1 with (h1|h1) |h1
       . exact .inl h1
       . refine .inr ⟨e,by simp,hb,.inl ?_⟩
         rw[Nat.testBit_two_pow] at h1
         exact (of_decide_eq_true h1).symm
       . exact .inr ⟨e,by simp,hb,.inr h1⟩
     . exact .inl h1
   . exact .inr ⟨e',by simp[he'],h1⟩
 rcases key _ 0 h with h1| ⟨e,he,h1⟩
 . simp at h1
 . exact ⟨e,by simpa using he,h1⟩
theorem vh {S:Nat→Prop}(hS:∀ (j:Nat) (oj:Oper),S j→ops[j]? =some oj→∀e∈oj.after,Region.binds .any e=true→S e.on):
 ∀ (i:Nat)(oi:Oper),ops[i]? =some oi→(∀e∈oi.after,Region.binds .any e=true→S e.on)→∀k,n9 (rZ ops) i k=true→S k:=by
 have inv:∀ (r:List Oper)(acc:List Nat),ops.toList.drop acc.length=r→(∀ (i:Nat)(oi:Oper),i< acc.length→ops[i]? =some oi→(∀e∈oi.after,Region.binds .any e=true→S e.on)→∀k,((acc[i]?).getD 0).testBit k=true→S k)→
  ∀ (i:Nat)(oi:Oper),ops[i]? =some oi→(∀e∈oi.after,Region.binds .any e=true→S e.on)→∀k,(((lb r acc)[i]?).getD 0).testBit k=true→S k:=by
  intro r
  induction r with
  |nil=>
   intro acc hr hacc i oi hoi hd k hk
   simp only[lb] at hk
   have hlen:ops.size≤acc.length:=by simpa using hr
   have:i< ops.size:=(Array.getElem?_eq_some_iff.1 hoi).1
   exact hacc i oi (by omega) hoi hd k hk
  |cons o r ih=>
   intro acc hr hacc
   simp only[lb]
   have hget:ops[acc.length]? =some o:=by
    have: (ops.toList.drop acc.length)[0]? =some o:=by rw[hr];rfl
    rw[List.getElem?_drop] at this
    simpa using this
   refine ih (acc++[n8 acc o]) ?_ ?_
   . simp only[List.length_append,List.length_singleton]
     rw[←List.drop_drop,hr];rfl
   . intro i oi hi hoi hd k hk
     by_cases hil:i< acc.length
     . rw[List.getElem?_append_left hil] at hk
       exact hacc i oi hil hoi hd k hk
     . have hia:i=acc.length:=by simp at hi;omega
       subst hia
       rw[hget] at hoi
       cases hoi
       rw[List.getElem?_append_right (Nat.le_refl _)] at hk
       simp only[Nat.sub_self,List.getElem?_cons_zero,Option.getD_some] at hk
       obtain ⟨e,he,hb,h1⟩:=tT hk
       have hSe:=hd e he hb
       rcases h1 with rfl|h1
       . exact hSe
       . by_cases hel:e.on< acc.length
         . have hlt:e.on< ops.size:=by
            have:acc.length< ops.size:=(Array.getElem?_eq_some_iff.1 hget).1
            omega
           have hoe:ops[e.on]? =some ops[e.on]:=Array.getElem?_eq_getElem hlt
           exact hacc e.on _ hel hoe (hS e.on _ hSe hoe) k h1
         . rw[List.getElem?_eq_none (by omega)] at h1
           simp at h1
 intro i oi hoi hd k hk
 exact inv ops.toList [] rfl (fun i _ hi=>absurd hi (by simp)) i oi hoi hd k hk
theorem Im (hcx:CxOK cx){r:Option Nat}{F:Nat→FP}{fin:St}{Q:Exit→Act→World→Prop}(hup:∀i oi,ops[i]? =some oi→∀e∈oi.after,Region.binds .any e=true→e.on< i)
 (hpair:∀k i ok oi,k< i→ops[k]? =some ok→ops[i]? =some oi→n9 (rZ ops) i k=true∨(apart ops ok oi=true∧dl (F k) (F i) =true)):
 ∀ (fuel:Nat)(l:List Nat)(listed:Array Bool){G:Gh}{w:World}{st:St}{a:Act},Sim cx G w st a→la cx ops base F l st fin→l.Pairwise (· < ·)→listed.size=ops.size→
   (∀i,i< ops.size→(listed[i]? =some false↔i∈l))→(∀i∈l,i< ops.size)→
   (∀ (j:Nat)(oj:Oper),listed[j]? =some true→ops[j]? =some oj→∀e∈oj.after,Region.binds .any e=true→listed[e.on]? =some true)→l.length≤fuel→
   (∀G' w' a',Sim cx G' w' fin a'→Frm G w G' w'→a'.defers=a.defers→Q .normal a' w')→wpAnyIn (wF r) 0 cx.P .any ops Q fuel listed a w:=by
 have ready_iff:∀ (listed:Array Bool)(i:Nat),listed.size=ops.size→(i∈Region.ready .any ops listed↔i< ops.size∧listed[i]? =some false∧∀oi,ops[i]? =some oi→∀e∈oi.after,Region.binds .any e=true→listed[e.on]? =some true):=by
  intro listed i hsz
  unfold Region.ready
  simp only[List.mem_filter,List.mem_range,Bool.and_eq_true]
  constructor
  . rintro ⟨hi,h1,h2⟩
    have hl:listed[i]? =some listed[i]:=Array.getElem?_eq_getElem (by omega)
    refine ⟨hi,?_,fun oi hoi e he hb=>?_⟩
    . rw[hl]
      simp only[Array.getD_eq_getD_getElem?,hl,Option.getD_some] at h1
      cases hq:listed[i] <;>simp[hq] at h1 ⊢
    . rw[hoi] at h2
      simp only[Option.map_some,Option.getD_some,Array.all_eq_true_iff_forall_mem] at h2
      have:=h2 e he
      rw[hb] at this
      simp only[Bool.not_true,Bool.false_or,Array.getD_eq_getD_getElem?] at this
      cases hq:listed[e.on]? with
      |none=>rw[hq] at this;cases this
      |some b=>rw[hq] at this;simp at this;rw[this]
  . rintro ⟨hi,h1,h2⟩
    refine ⟨hi,by simp[Array.getD_eq_getD_getElem?,h1],?_⟩
    have hoi:ops[i]? =some ops[i]:=Array.getElem?_eq_getElem hi
    rw[hoi]
    simp only[Option.map_some,Option.getD_some,Array.all_eq_true_iff_forall_mem]
    intro e he
    cases hb:Region.binds .any e with
    |false=>rfl
    |true=>simp[Array.getD_eq_getD_getElem?,h2 _ hoi e he hb]
 intro fuel
 induction fuel with
 |zero=>
  intro l listed G w st a H hrun hs hsz hm hl hcl hfuel hQ
  have hl0:l= []:=List.eq_nil_of_length_eq_zero (by omega)
  subst hl0
  simp only[la] at hrun
  subst hrun
  refine ⟨?_,hQ G w a H (Frm.refl G w) rfl⟩
  cases hr:Region.ready .any ops listed with
  |nil=>rfl
  |cons i r=>
   have hi:i∈Region.ready .any ops listed:=by rw[hr];simp
   obtain ⟨h1,h2,_⟩:=(ready_iff listed i hsz).1 hi
   exact absurd ((hm i h1).1 h2) (by simp)
 |succ fuel ih=>
  intro l listed G w st a H hrun hs hsz hm hl hcl hfuel hQ
  refine ⟨fun h0=>?_,fun i hi=>?_⟩
  . cases l with
    |nil=>
     simp only[la] at hrun
     subst hrun
     exact hQ G w a H (Frm.refl G w) rfl
    |cons k l=>
     exfalso
     have hk:k∈Region.ready .any ops listed:=by
      have hks:k< ops.size:=hl k (by simp)
      refine (ready_iff listed k hsz).2 ⟨hks,(hm k hks).2 (by simp),fun oi hoi e he hb=>?_⟩
      have hlt:=hup k oi hoi e he hb
      have hle:e.on< listed.size:=by omega
      have hg:listed[e.on]? =some listed[e.on]:=Array.getElem?_eq_getElem hle
      cases hq:listed[e.on] with
      |true=>rw[hg,hq]
      |false=>
       rw[hq] at hg
       have hmem:=(hm e.on (by omega)).1 hg
       rcases List.mem_cons.1 hmem with h1|h1
       . omega
       . have:=(List.pairwise_cons.1 hs).1 _ h1
         omega
     rw[h0] at hk
     cases hk
  . obtain ⟨hi1,hi2,hi3⟩:=(ready_iff listed i hsz).1 hi
    have hmem:=(hm i hi1).1 hi2
    obtain ⟨l1,l2,rfl⟩:=List.append_of_mem hmem
    have hoi:ops[i]? =some ops[i]:=Array.getElem?_eq_getElem hi1
    have hS:∀k,n9 (rZ ops) i k=true→listed[k]? =some true:=vh (S:=fun k=>listed[k]? =some true) hcl i _ hoi (hi3 _ hoi)
    obtain ⟨st',q1,q2⟩:=oa hoi l1 (fun k hk=>by
     have hkl:k∈l1++i::l2:=by simp[hk]
     have hks:=hl k hkl
     have hok:ops[k]? =some ops[k]:=Array.getElem?_eq_getElem hks
     have hki:k< i:=(List.pairwise_append.1 hs).2.2 k hk i (by simp)
     rcases hpair k i _ _ hki hok hoi with h1|h1
     . have:=hS k h1
       rw[(hm k hks).2 hkl] at this
       cases this
     . exact ⟨_,hok,h1⟩) hrun
    have hstep:step cx ops base i st=some st':=by rw[vc,q1];rfl
    refine pf hcx H hstep fun G' w' a' S F' ee=>?_
    have hnd:∀j,j∈l1++l2↔j∈l1++i::l2∧j≠i:=fun j=>by
     obtain ⟨p1,p2,p3⟩:=List.pairwise_append.1 hs
     constructor
     . intro hj
       rcases List.mem_append.1 hj with hj|hj
       . exact ⟨by simp[hj],fun e=>by have:=p3 j hj i (by simp);omega⟩
       . exact ⟨by simp[hj],fun e=>by have:=(List.pairwise_cons.1 p2).1 j hj;omega⟩
     . rintro ⟨hj,hne⟩
       rcases List.mem_append.1 hj with hj|hj
       . simp[hj]
       . rcases List.mem_cons.1 hj with hj|hj
         . exact absurd hj hne
         . simp[hj]
    have hset:∀j,j< ops.size→(listed.setIfInBounds i true)[j]? =if j=i then some true else listed[j]? :=fun j hj=>by
     by_cases hji:j=i
     . subst hji;simp[hsz,hj]
     . rw[Array.getElem?_setIfInBounds_ne (Ne.symm hji),if_neg hji]
    refine ih (l1++l2) (listed.setIfInBounds i true) S q2 ?_ (by simp[hsz]) ?_ (fun j hj=>hl j ((hnd j).1 hj).1) ?_ ?_ fun G2 w2 a2 S2 F2 ee2=>hQ G2 w2 a2 S2 (F'.trans F2) (ee2.trans ee)
    . refine List.Pairwise.sublist ?_ hs
      exact List.Sublist.append_left (List.sublist_cons_self i l2) l1
    . intro j hj
      rw[hset j hj,hnd]
      split
      . rename_i e;subst e;simp
      . rename_i e;rw[hm j hj];simp[e]
    . intro j oj hj hoj e he hb
      have hjs:j< ops.size:=(Array.getElem?_eq_some_iff.1 hoj).1
      have hej:e.on< ops.size:=by have:=hup j oj hoj e he hb;omega
      rw[hset j hjs] at hj
      rw[hset e.on hej]
      split
      . rfl
      . split at hj
        . rename_i e';subst e'
          rw[hoi] at hoj
          cases hoj
          exact hi3 _ hoi e he hb
        . exact hcl j oj hj hoj e he hb
    . simp at hfuel ⊢;omega
theorem qr {F:Nat→FP}:∀ (l:List Nat){st fin:St}{fps:List FP},gy cx ops base l st=some (fin,fps)→(∀ (j i:Nat),l[j]? =some i→fps[j]? =some (F i))→la cx ops base F l st fin
 | [],st,fin,fps,h,_=>by simp only[gy,Option.some.injEq,Prod.mk.injEq] at h;exact h.1
 |i::l,st,fin,fps,h,hF=>by
  simp only[gy] at h
  cases hs:fa cx ops base i st with
  |none=>rw[hs] at h;cases h
  |some r=>
   obtain ⟨st',f⟩:=r
   rw[hs] at h
   simp only[] at h
   cases hr:gy cx ops base l st' with
   |none=>rw[hr] at h;cases h
   |some q=>
    rw[hr] at h
    simp only[Option.map_some,Option.some.injEq,Prod.mk.injEq] at h
    obtain ⟨rfl,rfl⟩:=h
    have h0:=hF 0 i (by simp)
    simp only[List.getElem?_cons_zero,Option.some.injEq] at h0
    refine ⟨st',by rw[hs,h0],qr l hr fun j k hk=>?_⟩
    have:=hF (j+1) k (by simpa using hk)
    simpa using this
theorem mQ:∀ (l:List Nat){st fin:St}{fps:List FP},gy cx ops base l st=some (fin,fps)→fps.length=l.length
 | [],st,fin,fps,h=>by simp only[gy,Option.some.injEq,Prod.mk.injEq] at h;rw[←h.2];rfl
 |i::l,st,fin,fps,h=>by
  simp only[gy] at h
  split at h
  . cases h
  . rename_i st' f hs
    cases hr:gy cx ops base l st' with
    |none=>rw[hr] at h;cases h
    |some q=>
     rw[hr] at h
     simp only[Option.map_some,Option.some.injEq,Prod.mk.injEq] at h
     rw[←h.2]
     simp[mQ l hr]
theorem pj (hcx:CxOK cx){r:Option Nat}(hm:cx.P.follows .mixedOrders=true)(H:Sim cx G w st a){id:Nat}(hst:eh ops=true){st':St}(h:iS cx ops st=some st'){Q:Exit→Act→World→Prop}
 (hQ:∀G' w' a',Sim cx G' w' st' a'→Frm G w G' w'→a'.defers=a.defers→Q .normal a' w'): (Code.region id ops true).wpIn (wF r) 0 cx.P Q a w:=by
 unfold iS at h
 split at h
 . rename_i st1 fps hr
   split at h
   . rename_i hc
     cases h
     refine wpIn_region_any hm ?_
     have hlen:fps.length=ops.size:=by rw[mQ _ hr];simp
     obtain ⟨H1,F1⟩:=(H.reserve (dw ops ops.size)).drew
     unfold eh at hst
     simp only[Bool.and_eq_true,List.all_eq_true] at hst
     have hz:∀i oi,ops[i]? =some oi→(oi,i) ∈ops.toList.zipIdx:=fun i oi hoi=>by
      rw[List.mem_zipIdx_iff_getElem?];simpa using hoi
     refine Im (F:=fun i=>(fps[i]?).getD (0,0)) hcx (fun i oi hoi e he hb=>?_) (fun k i ok oi hki hok hoi=>?_) ops.size (List.range ops.size) (Array.replicate ops.size false) H1
      (qr _ hr fun j i hj=>?_) ?_ (by simp) ?_ (fun i hi=>by simpa using hi) ?_ (by simp) fun G2 w2 a2 S2 F2 ee=>hQ G2 w2 a2 S2 (F1.trans F2) ee
     . have:=hst.1 _ (hz i oi hoi) e (by simpa using he)
       rw[hb] at this
       simpa using this
     . have h1:=hst.2 _ (hz i oi hoi) _ (hz k ok hok)
       simp only[Bool.or_eq_true,Bool.not_eq_true',decide_eq_false_iff_not] at h1
       rcases h1 with (h1|h1) |h1
       . exact absurd hki h1
       . exact .inl h1
       . have hks:k< ops.size:=(Array.getElem?_eq_some_iff.1 hok).1
         have his:i< ops.size:=(Array.getElem?_eq_some_iff.1 hoi).1
         have e1:fps[k]? =some fps[k]:=List.getElem?_eq_getElem (by omega)
         have e2:fps[i]? =some fps[i]:=List.getElem?_eq_getElem (by omega)
         unfold fK at hc
         simp only[List.all_eq_true,Bool.or_eq_true] at hc
         rcases hc (fps[i],i) (List.mem_zipIdx_iff_getElem?.2 e2) with h2|h2
         . refine .inr ⟨h1,?_⟩
           rw[e1,e2]
           simp only[Option.getD_some,dl]
           simp at h2
           simp[h2]
         . have h3:=h2 (fps[k],k) (List.mem_zipIdx_iff_getElem?.2 e1)
           simp only[Bool.not_eq_true',decide_eq_false_iff_not] at h3
           rcases h3 with ((h3|h3) |h3) |h3
           . exact absurd hki h3
           . refine .inr ⟨h1,?_⟩
             rw[e1,e2]
             simp only[Option.getD_some,dl]
             simp at h3
             simp[h3]
           . exact .inl h3
           . refine .inr ⟨h1,?_⟩
             rw[e1,e2]
             exact h3
     . have hji:j=i:=by
        rw[List.getElem?_range] at hj
        . simpa using hj
        . have:=(List.getElem?_eq_some_iff.1 hj).1
          simpa using this
       subst hji
       have hjs:j< ops.size:=by
        have:=(List.getElem?_eq_some_iff.1 hj).1
        simpa using this
       rw[List.getElem?_eq_getElem (by omega)]
       rfl
     . exact List.pairwise_lt_range
     . intro i hi
       simp[hi]
     . intro j oj hj
       rw[Array.getElem?_replicate] at hj
       split at hj<;>cases hj
   . cases h
 . cases h
end
end Go.Sx
namespace Go.Sx
open Go.RowKit
theorem jj {F:Fence}{k:Nat}{P:Program}{Q:Exit→Act→World→Prop}{a:Act}{w:World}{c:Code}(I:Nat→Act→World→Prop)(n₀:Nat)(h₀:I n₀ a w)
 (round:∀n a w,I n a w→c.wpIn F k P (Exit.then (fun a' w'=> ∃n',n'< n∧I n' a' w') Q) a w): (Code.loop c).wpIn F k P Q a w:=by
 refine wpIn_loop (fun a w=> ∃n,I n a w) (fun a w=>leastOf (fun n=>I n a w)) ⟨n₀,h₀⟩ ?_
 intro a w hI
 refine wpIn_mono (round _ a w (leastOf_spec hI).1) ?_
 intro e a' w' hq
 cases e with
 |normal=>
  obtain ⟨n',hlt,hI'⟩:=hq
  exact show (∃n,I n a' w')∧leastOf (fun n=>I n a' w') < leastOf (fun n=>I n a w) from ⟨⟨n',hI'⟩,Nat.lt_of_le_of_lt ((leastOf_spec ⟨n',hI'⟩).2 n' hI') hlt⟩
 |exit id=>exact hq
 |goto l=>exact hq
 |ret=>exact hq
 |panic ch=>exact hq
 |outgrown=>exact hq
structure FrmN (n:Nat) (G₀:Gh) (w₀:World) (G:Gh) (w:World):Prop where
 os:w.os=w₀.os
 tape:w.tape=w₀.tape
 output:w.output=w₀.output
 size:w₀.heap.size≤w.heap.size
 K:∀b o u,G₀.K b o=some u→G.K b o=some u
 μ:∀b k,b< n→G₀.μ b=some k→G.μ b=some k
 σ:∀b k,b< n→G₀.σ b=some k→G.σ b=some k
 old:∀g,g< w₀.heap.size→G₀.T g=none→(∀b,G₀.μ b≠some g)→
  w.heap[g]? =w₀.heap[g]? ∧G.T g=none∧(∀b,G.μ b≠some g)∧∀o,G.K g o=G₀.K g o
theorem FrmN.of {n:Nat}{A B:Gh}{a b:World}(h:Frm A a B b):FrmN n A a B b:=⟨h.os,h.tape,h.output,h.size,h.le.K,fun b k _ x=>h.le.μ b k x,fun b k _ x=>h.le.σ b k x,h.old⟩
theorem FrmN.refl (n:Nat)(G:Gh)(w:World):FrmN n G w G w:= .of (Frm.refl G w)
theorem FrmN.trans {n:Nat}{A B D:Gh}{a b d:World}(h:FrmN n A a B b)(k:FrmN n B b D d):FrmN n A a D d:=
 ⟨k.os.trans h.os,k.tape.trans h.tape,k.output.trans h.output,Nat.le_trans h.size k.size,fun b o u x=>k.K b o u (h.K b o u x),fun b o hb x=>k.μ b o hb (h.μ b o hb x),fun b o hb x=>k.σ b o hb (h.σ b o hb x),fun g hg ht hm=>by
   obtain ⟨a1,a2,a3,a4⟩:=h.old g hg ht hm
   obtain ⟨b1,b2,b3,b4⟩:=k.old g (Nat.lt_of_lt_of_le hg h.size) a2 a3
   exact ⟨b1.trans a1,b2,b3,fun o=>(b4 o).trans (a4 o)⟩⟩
def DefN (w:World)(a a':Act):Prop:= ∃ds,a'.defers=ds++a.defers∧∀d∈ds,∀D,d.target= .collected D→w.heap.size≤D
structure FrmA (n:Nat) (G:Gh) (w:World) (a:Act) (G':Gh) (w':World) (a':Act):Prop where
 fr:FrmN n G w G' w'
 df:DefN w a a'
theorem FrmA.of {n:Nat}{G G':Gh}{w w':World}{a a':Act}(h:Frm G w G' w')(e:a'.defers=a.defers):FrmA n G w a G' w' a':=⟨.of h,[],by rw[e];rfl,fun _ h=>by cases h⟩
theorem FrmA.refl (n:Nat)(G:Gh)(w:World)(a:Act):FrmA n G w a G w a:= .of (Frm.refl G w) rfl
theorem FrmA.trans {n:Nat}{A B D:Gh}{a b d:World}{x y z:Act}(h:FrmA n A a x B b y)(k:FrmA n B b y D d z):FrmA n A a x D d z:=⟨h.fr.trans k.fr,by
 obtain ⟨ds,e,h1⟩:=h.df
 obtain ⟨es,e2,h2⟩:=k.df
 refine ⟨es++ds,by rw[e2,e,List.append_assoc],fun q hq D hD=>?_⟩
 rcases List.mem_append.1 hq with hq|hq
 . exact Nat.le_trans h.fr.size (h2 q hq D hD)
 . exact h1 q hq D hD⟩
theorem FrmN.transA {n:Nat}{A B D:Gh}{b d:World}{x z:Act}(h:FrmN n A b B b)(k:FrmA n B b x D d z):FrmA n A b x D d z:=⟨h.trans k.fr,k.df⟩
def g8:Ex→Exit
 | .normal=> .normal
 | .exit id=> .exit id
 | .ret=> .ret
def l7 (K:St→Prop)(Q:Ex→St→Prop):Ex→St→Prop
 | .normal,s=>K s
 |x,s=>Q x s
def oc (id:Nat)(Q:Ex→St→Prop):Ex→St→Prop
 | .exit k,s=>if k=id then Q .normal s else Q (.exit k) s
 |x,s=>Q x s
def Tr (cx:Cx)(n:Nat)(c:Code)(st:St)(Q:Ex→St→Prop):Prop:=
 ∀ (r:Option Nat),(cx.top=true→r=none)→∀ (G:Gh)(w:World)(a:Act),Sim cx G w st a→∀ (R:Exit→Act→World→Prop),
   (∀x st' G' w' a',Q x st'→Sim cx G' w' st' a'→FrmA n G w a G' w' a'→R (g8 x) a' w')→c.wpIn (wF r) 0 cx.P R a w
section
variable {cx:Cx} {n:Nat} {st:St} {Q:Ex→St→Prop}
theorem Tr.mono {c:Code}{Q':Ex→St→Prop}(h:Tr cx n c st Q)(hq:∀x s,Q x s→Q' x s):Tr cx n c st Q':=
 fun r hr G w a H R hR=>h r hr G w a H R fun x s G' w' a' q=>hR x s G' w' a' (hq x s q)
theorem Tr.skip (h:Q .normal st):Tr cx n .skip st Q:=fun r hr G w a H R hR=>wpIn_skip (hR .normal st G w a h H (.refl n G w a))
theorem Tr.exit {id:Nat}(h:Q (.exit id) st):Tr cx n (.exit id) st Q:=fun r hr G w a H R hR=>wpIn_exit (hR (.exit id) st G w a h H (.refl n G w a))
theorem Tr.ret (h:Q .ret st):Tr cx n .ret st Q:=fun r hr G w a H R hR=>wpIn_ret (hR .ret st G w a h H (.refl n G w a))
theorem Tr.seq {a b:Code}(h:Tr cx n a st (l7 (fun s=>Tr cx n b s Q) Q)):Tr cx n (.seq a b) st Q:=fun r hr G w ac H R hR=>
 wpIn_seq (h r hr G w ac H _ fun x s G' w' a' q S F=>by
  cases x with
  |normal=>exact q r hr G' w' a' S R fun x2 s2 G2 w2 a2 q2 S2 F2=>hR x2 s2 G2 w2 a2 q2 S2 (F.trans F2)
  |exit id=>exact hR (.exit id) s G' w' a' q S F
  |ret=>exact hR .ret s G' w' a' q S F)
theorem Tr.cond {c:Operand}{x y:Code}{b:Bool}(hc:cx.ev st.env c= .val (.bool b))(h:Tr cx n (if b then x else y) st Q):Tr cx n (.cond c x y) st Q:=fun r hr G w a H R hR=>by
 have hv:=H.pre.ev c
 rw[hc,am] at hv
 refine wpIn_cond (t:=b) hv ?_
 cases b
 . exact h r hr G w a H R hR
 . exact h r hr G w a H R hR
theorem qT {c:Operand}{x y:Code}{b:Bool}(hc:cx.ev st.env c= .val (.bool b))(ht:b=true→Tr cx n x st Q)(hf:b=false→Tr cx n y st Q):Tr cx n (.cond c x y) st Q:=by
 cases b
 . exact Tr.cond hc (hf rfl)
 . exact Tr.cond hc (ht rfl)
theorem Tr.block {id:Nat}{c:Code}(h:Tr cx n c st (oc id Q)):Tr cx n (.block id c) st Q:=fun r hr G w a H R hR=>
 wpIn_block (h r hr G w a H _ fun x s G' w' a' q S F=>by
  cases x with
  |normal=>exact hR .normal s G' w' a' q S F
  |ret=>exact hR .ret s G' w' a' q S F
  |exit k=>
   simp only[g8,Exit.inBlock,oc] at q ⊢
   split at q
   . rename_i e;rw[if_pos e];exact hR .normal s G' w' a' q S F
   . rename_i e;rw[if_neg e];exact hR (.exit k) s G' w' a' q S F)
theorem Tr.loop {c:Code}(Inv:Nat→St→Prop)(m:Nat)(h0:Inv m st)(h:∀m s,Inv m s→Tr cx n c s (l7 (fun s'=> ∃k,k< m∧Inv k s') Q)):Tr cx n (.loop c) st Q:=fun r hr G w a H R hR=>by
 refine jj (fun m a' w'=> ∃s G',Inv m s∧Sim cx G' w' s a'∧FrmA n G w a G' w' a') m ⟨st,G,h0,H,.refl n G w a⟩ ?_
 rintro m a' w' ⟨s,G',hi,S,F⟩
 refine h m s hi r hr G' w' a' S _ fun x s2 G2 w2 a2 q S2 F2=>?_
 cases x with
 |normal=>
  obtain ⟨k,hk,hik⟩:=q
  exact ⟨k,hk,s2,G2,hik,S2,F.trans F2⟩
 |exit id=>exact hR (.exit id) s2 G2 w2 a2 q S2 (F.trans F2)
 |ret=>exact hR .ret s2 G2 w2 a2 q S2 (F.trans F2)
theorem Tr.region (hcx:CxOK cx){id:Nat}{ops:Array Oper}{st':St}(h:mb cx ops st=some st')(hQ:Q .normal st'):Tr cx n (.region id ops false) st Q:=fun r hr _ _ _ H _ hR=>
 xj hcx H h fun G' w' a' S F e=>hR .normal st' G' w' a' hQ S (.of F e)
theorem vi (hcx:CxOK cx)(hm:cx.P.follows .mixedOrders=true){id:Nat}{ops:Array Oper}{st':St}(hs:eh ops=true)(h:iS cx ops st=some st')(hQ:Q .normal st'):
 Tr cx n (.region id ops true) st Q:=fun r hr _ _ _ H _ hR=>
 pj hcx hm H hs h fun G' w' a' S F e=>hR .normal st' G' w' a' hQ S (.of F e)
def CLe (c c':C):Prop:=(∀G v,Rep G c v→Rep G c' v)∧∀s n xs,c'= .sl (.own s) n xs→c=c'∨∀G v,Rep G c v→∃a,v= .slice a n n
theorem CLe.refl (c:C):CLe c c:=⟨fun _ _ h=>h,fun _ _ _ _=> .inl rfl⟩
theorem CLe.top (c:C):CLe c .top:=⟨fun _ _ _=>by simp[Rep],fun _ _ _ e=>by cases e⟩
theorem CLe.nil (r:Rt):CLe (.val (.slice none 0 0)) (.sl r 0 []):=
 ⟨fun G v h=>by rw[am] at h;simp only[Rep];exact ⟨none,0,h,Nat.le_refl _,Nat.zero_le _,fun _=>rfl,by simp⟩,fun s n xs e=>by cases e;exact .inr fun G v h=>⟨none,am.1 h⟩⟩
theorem CLe.full (r:Rt)(n:Nat)(xs:List C):CLe (.sl .full n xs) (.sl r n xs):=
 ⟨fun G v h=>by simp only[Rep] at h ⊢;obtain ⟨a,cap,h1,h2,h3,h4,h5⟩:=h;exact ⟨a,cap,h1,h2,h3,fun _=>h4 trivial,h5⟩,fun s n' xs' e=>by
   cases e
   exact .inr fun G v h=>by
    simp only[Rep] at h
    obtain ⟨a,cap,h1,_,_,h4,_⟩:=h
    exact ⟨a,by rw[h1,h4 trivial]⟩⟩
theorem CLe.noR (c:C):CLe c c.noR:=⟨fun _ _ h=>h.noR,fun _ _ _ e=>(fo e).elim⟩
theorem Tr.weaken {c:Code}{env':Nat→C}(h:∀t,CLe (st.env t) (env' t))(k:Tr cx n c ⟨env',st.h⟩ Q):Tr cx n c st Q:=fun r hr G w a H R hR=>
 k r hr G w a ⟨H.defers,H.size,H.pre.ok,⟨fun t=>(h t).1 G _ (H.pre.env.1 t),fun t s m xs e=>by
   rcases (h t).2 s m xs e with e'|e'
   . exact H.pre.env.2 t s m xs (e'.trans e)
   . obtain ⟨ad,hv⟩:=e' G _ (H.pre.env.1 t)
     rw[hv];exact .inl ⟨ad,rfl⟩⟩,H.pre.glob⟩ R hR
theorem OwnRow.cut {G:Gh}{w:World}{p:bg}{v:Value}{s m:Nat}(k:Nat)(O:OwnRow G w p v s m):OwnRow (bm G k) w p v s m:=by
 rcases O with O| ⟨g,cap,cur,e,a1,a2,a3,a4,a5,a6⟩
 . exact .inl O
 . refine .inr ⟨g,cap,cur,e,a1,a2,a3,a4,a5,fun b hb=>?_⟩
   simp only[bm] at hb
   split at hb
   . exact a6 b hb
   . cases hb
theorem kh {h:Hp}{k b:Nat}:Hp.at (h.take k) b=if b< k then h.at b else none:=by
 unfold Hp.at
 rw[List.getElem?_take]
 split<;>rfl
theorem od {h:Hp}{k b:Nat}:Hp.mp (h.take k) b=if b< k then h.mp b else none:=by
 unfold Hp.mp
 rw[List.getElem?_take]
 split<;>rfl
theorem oe {G:Gh}{k:Nat}:∀ (l:List C)(es:List MapEntry),noRefs k l=true→MRep G l es→MRep (bm G k) l es
 | [],_,_,r=>by simpa[MRep] using r
 | [_],_,_,r=>by simp[MRep] at r
 |c::d::l,es,hn,r=>by
  simp only[MRep] at r ⊢
  simp only[noRefs,Bool.and_eq_true] at hn
  obtain ⟨e,es',h1,h2,h3,h4⟩:=r
  exact ⟨e,es',h1,dx c _ hn.1 h2,dx d _ hn.2.1 h3,oe l es' hn.2.2 h4⟩
theorem vj {k:Nat}{o:Option (List C)}{l:List C}(h:eu o=some l)(hn:∀cells,o=some cells→noRefs k cells=true):noRefs k l=true:=by
 unfold eu at h
 split at h
 . cases h
   have:=hn _ rfl
   simp only[noRefs,ag,Bool.and_eq_true] at this
   exact this.1.2
 . cases h
theorem WorldOK.cut {G:Gh}{h:Hp}{w:World}(H:WorldOK G h w)(k:Nat)(hb:∀ (b:Nat) cells,b< k→h[b]? =some (some cells)→noRefs k cells=true):WorldOK (bm G k) (h.take k) w:=by
 refine ⟨H.known,fun b cells hc=>?_,fun b blk hm=>?_,fun b b' c c' blk ha ha' h1 h2=>?_,fun b blk hm=>?_,H.tlt,fun b cells off s m xs blk v hc hx hm hv=>?_,fun b z hz=>?_,fun b l hb'=>?_,fun b b' l l' blk x x' y y'=>?_⟩
 . rw[kh] at hc
   split at hc
   . rename_i hbk
     rcases H.box b cells hc with ⟨hE,hE2⟩ | ⟨blk,cs,e,q1,q2,q0,q3,q4⟩
     . exact .inl ⟨hE,by simp only[bm];rw[if_pos hbk];exact hE2⟩
     . exact .inr ⟨blk,cs,e,by simp only[bm];rw[if_pos hbk];exact q1,q2,q0,noRef_repL cells _ (hb b cells hbk (eG hc)) q3,q4⟩
   . cases hc
 . simp only[bm] at hm
   split at hm
   . rename_i hbk
     obtain ⟨⟨c,hc⟩,hl⟩:=H.dom b blk hm
     exact ⟨⟨c,by rw[List.getElem?_take,if_pos hbk];exact hc⟩,hl⟩
   . cases hm
 . simp only[bm] at h1 h2
   rw[kh] at ha ha'
   split at h1
   . rename_i hb1
     split at h2
     . rename_i hb2
       rw[if_pos hb1] at ha
       rw[if_pos hb2] at ha'
       exact H.inj b b' c c' blk ha ha' h1 h2
     . cases h2
   . cases h1
 . simp only[bm] at hm
   split at hm
   . exact H.sep b blk hm
   . cases hm
 . rw[kh] at hc
   simp only[bm] at hm
   split at hc
   . rename_i hbk
     rw[if_pos hbk] at hm
     exact (H.own b cells off s m xs blk v hc hx hm hv).cut k
   . cases hc
 . simp only[bm] at hz ⊢
   split at hz
   . rename_i hbk
     obtain ⟨blk,cs,e,fr,q1,q2,q3⟩:=H.siz b z hz
     exact ⟨blk,cs,e,fr,by rw[if_pos hbk];exact q1,q2,q3⟩
   . cases hz
 . rw[od] at hb'
   split at hb'
   . rename_i hbk
     obtain ⟨blk,es,clk,q1,q2,q3⟩:=H.mpo b l hb'
     refine ⟨blk,es,clk,by simp only[bm];rw[if_pos hbk];exact q1,q2,oe l _ ?_ q3⟩
     unfold Hp.mp at hb'
     cases hq:h[b]? with
     |none=>rw[hq] at hb';cases hb'
     |some o=>
      rw[hq] at hb'
      exact vj (o:=o) hb' fun cells hc=>hb b cells hbk (by rw[hq,hc])
   . cases hb'
 . rw[od] at x x'
   simp only[bm] at y y'
   split at x
   . rename_i n1
     split at x'
     . rename_i n2
       rw[if_pos n1] at y
       rw[if_pos n2] at y'
       exact H.mpi b b' l l' blk x x' y y'
     . cases x'
   . cases x
theorem ng {G:Gh}{w:World}{k:Nat}(hk:n≤k):FrmN n G w (bm G k) w:=
 ⟨rfl,rfl,rfl,Nat.le_refl _,fun _ _ _ x=>x,fun b o hb x=>by simp only[bm];rw[if_pos (by omega)];exact x,fun b o hb x=>by simp only[bm];rw[if_pos (by omega)];exact x,fun g _ ht hm=>⟨rfl,ht,(fun b hb=>by
   simp only[bm] at hb
   split at hb
   . exact hm b hb
   . cases hb),fun _=>rfl⟩⟩
end
end Go.Sx
