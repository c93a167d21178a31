/-
   And what follows.
-/
import Derived.Test.YtcpdlhgkdogdjaaDoorPae
set_option linter.unusedSimpArgs false
set_option linter.unusedVariables false
namespace Go.Sx
open Go.RowKit
abbrev FP:=Nat×Nat
def bd (id:Nat)(h:Hp):Plan→FP
 | .val _ _=>(0,0)
 | .rd b _=>(1,b)
 | .wr b _ _=>(2,b)
 | .xr b _=>(3,b)
 | .new _ _=>(2,id)
 | .call _ _=>(4,0)
 | .mo _=>(4,0)
 | .cw b _=>(6,b)
 | .ap none _ _ f=>if (f []).isSome=true then (5,h.length) else (4,0)
 | .ap (some _) _ _ _=>(4,0)
def db (p q:FP):Bool:=p.1==0||q.1==0|| (p.1 !=4 && p.1 !=5 && p.1 !=6 && q.1 !=4 && q.1 !=5 && q.1 !=6 && (p.2 !=q.2|| (p.1==1 && q.1==1) || (p.1==1 && q.1==3) || (p.1==3 && q.1==1))) ||
 (p.1 !=4 && p.1 !=5 && p.1 !=6 && q.1==5) || (p.1==5 && q.1 !=4 && q.1 !=5 && q.1 !=6 && p.2 !=q.2) ||
 (p.1==6 && (q.1==1||q.1==3) && p.2 !=q.2) || ((p.1==1||p.1==3) && q.1==6 && p.2 !=q.2)
def pW (cx:Cx)(ops:Array Oper)(id:Nat)(o:Oper)(st:St):Option (C×Option Nat×Hp×FP):=
 match dW ops o st.env with
 |none=>none
 |some false=>some (.val undef,none,st.h,(0,0))
 |some true=>match splan cx ops o st.env with
  |none=>none
  |some p=>(aA cx id p st.h).map fun r=>(r.1,r.2.1,r.2.2,bd id st.h p)
def gz (cx:Cx)(ops:Array Oper)(base i:Nat)(st:St):Option (St×FP):=
 match ops[i]? with
 |none=>none
 |some o=>if kK cx.N o.dst=true then (pW cx ops (base+dF ops i) o st).map fun r=>(⟨put o.dst r.1 (br r.2.1 st.env),r.2.2.1⟩,r.2.2.2) else none
theorem A3 {cx:Cx}{ops:Array Oper}{base i:Nat}{st:St}:step cx ops base i st= (gz cx ops base i st).map (·.1):=by
 unfold step gz
 cases ops[i]? with
 |none=>rfl
 |some o=>
  simp only[];by_cases hd:kK cx.N o.dst=true
  . rw[if_pos hd,if_pos hd]
    unfold pW
    cases dW ops o st.env with
    |none=>rfl
    |some b=>
     cases b with
     |false=>rfl
     |true=>
      simp only[]
      cases splan cx ops o st.env with
      |none=>rfl
      |some p=>
       simp only[b8];cases aA cx (base+dF ops i) p st.h<;>rfl
  . rw[if_neg hd,if_neg hd];rfl
def cC (ops:Array Oper)(o:Oper):List Nat:=
 match o.op with
 | .move x=>if G6 ops o.dst then (dO x).toList else []
 | .assign x=>(dO x).toList
 | .store _ _ y=>(dO y).toList
 | .call { callee:= .builtin .append,args,.. } =>match args.toList with
   |x::_=>(dO x).toList
   | [] =>[]
 |_=>[]
def apart (ops:Array Oper)(x y:Oper):Bool:=Oper.apart ops x y && (cC ops x).all fun t=> !(cC ops y).contains t
section
variable {cx:Cx} {G:Gh} {w:World} {st:St} {a:Act} {P:Program}
theorem CY {env env':Nat→C}{x:Operand}(h:∀t,x= .tmp t→(env t).noR= (env' t).noR):cx.evn env x=cx.evn env' x:=by
 cases x with
 |tmp t=>exact h t rfl
 |_=>rfl
theorem rM {env env':Nat→C}{x:Operand}(h:∀t,dO x=some t→env t=env' t):cx.ev env x=cx.ev env' x:=by
 cases x with
 |tmp t=>exact h t rfl
 |_=>rfl
theorem rh {ops:Array Oper}{o:Oper}{env env':Nat→C}(h:∀t∈o.looksAt ops,(env t).noR= (env' t).noR)(h2:∀t∈cC ops o,env t=env' t):
 splan cx ops o env=splan cx ops o env':=by
 have hE:∀x∈o.op.operands,cx.evn env x=cx.evn env' x:=fun x hx=>CY fun t ht=>h t (by
  subst ht;exact List.mem_append_left _ (List.mem_filterMap.2 ⟨.tmp t,by simpa using hx,rfl⟩))
 obtain ⟨dst,op,type,pos,after,guard⟩:=o;unfold splan;cases op<;>simp only[Op.operands] at hE<;>simp only[] <;>try rfl
 case move x=>
  cases x with
  |tmp p=>
   simp only[];simp only[cC,dO] at h2;split
   . rename_i ha
     rw[if_pos ha] at h2;rw[h2 p (by simp)]
   . have:=hE (.tmp p) (by simp)
     simp only[Cx.evn,Cx.ev] at this;rw[this]
  |_=>rfl
 case assign x=>
  rw[rM (cx:=cx) (env:=env) (env':=env') fun t ht=>h2 t (by simp[cC,ht])]
 case pick c x y=>simp only[hE c (by simp),hE x (by simp),hE y (by simp)]
 case box t x=>rw[hE x (by simp)]
 case build t ps=>
  have: (ps.toList.map fun x=>(x.1,cx.evn env x.2)) =ps.toList.map fun x=>(x.1,cx.evn env' x.2):=List.map_congr_left fun x hx=>by
   rw[hE x.2 (by simp;exact ⟨x.1,by simpa using hx⟩)]
  rw[this]
 case buildSlice t n ps=>
  have: (ps.toList.map fun x=>(x.1,cx.evn env x.2)) =ps.toList.map fun x=>(x.1,cx.evn env' x.2):=List.map_congr_left fun x hx=>by
   rw[hE x.2 (by simp;exact ⟨x.1,by simpa using hx⟩)]
  rw[this]
 case load t x=>rw[hE x (by simp)]
 case store t x y=>
  rw[hE x (by simp),rM (cx:=cx) (x:=y) (env:=env) (env':=env') fun t ht=>h2 t (by simp[cC,ht])]
 case nilCheck x=>rw[hE x (by simp)]
 case binOp op t x y yt=>rw[hE x (by simp),hE y (by simp)]
 case unOp op t x=>rw[hE x (by simp)]
 case convert s t x=>rw[hE x (by simp)]
 case sliceToArrayPointer t x=>rw[hE x (by simp)]
 case makeFunc fn first caps=>
  cases fn<;>try rfl
  rename_i f;have: (caps.toList.map fun x=>(cx.evn env x).share) =caps.toList.map fun x=>(cx.evn env' x).share:=List.map_congr_left fun x hx=>by
   rw[hE x (by simp;exact .inr (by simpa using hx))]
  simp only[this]
 case makeSlice t l c=>rw[hE l (by simp),hE c (by simp)]
 case slice t x lo hi mx=>
  have e1:lo.map (cx.evn env) =lo.map (cx.evn env'):=by cases lo with|none=>rfl|some q=>simp only[Option.map_some];rw[hE q (by simp)]
  have e2:hi.map (cx.evn env) =hi.map (cx.evn env'):=by cases hi with|none=>rfl|some q=>simp only[Option.map_some];rw[hE q (by simp)]
  have e3:mx.map (cx.evn env) =mx.map (cx.evn env'):=by cases mx with|none=>rfl|some q=>simp only[Option.map_some];rw[hE q (by simp)]
  rw[hE x (by simp),e1,e2,e3]
 case fieldAddr t x f=>rw[hE x (by simp)]
 case field t x f=>rw[hE x (by simp)]
 case indexAddr t x i=>rw[hE x (by simp),hE i (by simp)]
 case index t x i=>rw[hE x (by simp),hE i (by simp)]
 case extract x i=>rw[hE x (by simp)]
 case makeMap t r=>cases r<;>rfl
 case lookup t x k ok=>rw[hE x (by simp),hE k (by simp)]
 case mapUpdate t m k x=>rw[hE m (by simp),hE k (by simp),hE x (by simp)]
 case call c=>
  obtain ⟨callee,args,ts⟩:=c
  cases callee with
  |invoke r m=>rfl
  |builtin b=>
   simp only[];have hA:∀x∈args.toList,cx.evn env x=cx.evn env' x:=fun x hx=>hE x (by simpa[Call.operands] using hx);split
   . rename_i x t ha ht;rw[hA x (by rw[ha];simp)]
   . rename_i x y t t2 ha ht
     rw[hA y (by rw[ha];simp),hA x (by rw[ha];simp),rM (cx:=cx) (x:=x) (env:=env) (env':=env') fun t ht=>h2 t (by simp[cC,ha,ht])]
   . rename_i x y t t2 ha ht;rw[hA x (by rw[ha];simp),hA y (by rw[ha];simp)]
   . rename_i x y ha;rw[hA x (by rw[ha];simp),hA y (by rw[ha];simp)]
   . rename_i x y ha;rw[hA x (by rw[ha];simp),hA y (by rw[ha];simp)]
   . rename_i x y t t2 ha ht;rw[hA x (by rw[ha];simp),hA y (by rw[ha];simp)]
   . rfl
  |value f=>
   simp only[];have hA:args.toList.map (cx.evn env) =args.toList.map (cx.evn env'):=List.map_congr_left fun x hx=>hE x (by simp[Call.operands];exact .inr (by simpa using hx));rw[hE f (by simp[Call.operands]),hA]
theorem pX {ops:Array Oper}{o:Oper}{env env':Nat→C}(h:∀t∈o.looksAt ops,(env t).noR= (env' t).noR):dW ops o env=dW ops o env':=by
 unfold dW
 cases hg:o.guard with
 |none=>rfl
 |some g=>
  obtain ⟨j,want⟩:=g;simp only[]
  cases hd: (ops[j]?).bind (·.dst) with
  |none=>rfl
  |some t=>
   simp only[];rw[h t (List.mem_append_right _ (by simp[hg,hd]))]
def NR (f:List C→Option C):Prop:= ∀ (cells:List C)(i:Nat)(x:C),cells[i]? =some x→f (cells.set i x.noR) =f cells
theorem nu {cells:List C}{i:Nat}{x:C}(h:cells[i]? =some x): (cells.set i x.noR).map C.noR=cells.map C.noR:=by
 apply List.ext_getElem?;intro j;simp only[List.getElem?_map,List.getElem?_set];split
 . rename_i hij
   subst hij;have hlt:=(List.getElem?_eq_some_iff.1 h).1;rw[h];split
   . cases x with
     |sl r n xs=>cases r<;>rfl
     |_=>rfl
   . omega
 . rfl
theorem XN {f:List C→Option C}(g:List C→Option C)(h:∀cells,f cells=g (cells.map C.noR)):NR f:=fun cells i x hx=>by
 rw[h,h,nu hx]
theorem GU (d:TD)(off:Nat):NR fun cells=>cA d cells off:=
 XN (fun cs=>if d.isAgg then (if off+d.size≤cs.length then some (.agg ((cs.drop off).take d.size)) else none) else cs[off]?) fun cells=>by
  simp only[cA,List.length_map,List.map_take,List.map_drop,List.getElem?_map]
theorem rN:∀ (xs:List C),fa xs=fa (xs.map C.noR)
 | [] =>rfl
 |c::xs=>by
  cases c with
  |val v=>
   cases v with
   |int k n=>
    cases k<;>simp only[List.map_cons,C.noR,fa]
    rw[rN xs]
   |_=>rfl
  |sl r n ys=>cases r<;>rfl
  |_=>rfl
theorem wZ {cells:List C}{i:Nat}{x:C}(h:cells[i]? =some x)(o n:Nat): (((cells.set i x.noR).drop o).take n).map C.noR= ((cells.drop o).take n).map C.noR:=by
 simp only[List.map_take,List.map_drop,nu h]
def Plan.nr:Plan→Prop
 | .rd _ f=>NR f
 | .ap none _ _ f=>(f []).isSome=true→∀h,f h=f []
 |_=>True
theorem Ml {s d:TypeId}{c:C}{p:Plan}(h:fO P s d c=some p):p.nr:=by
 unfold fO at h
 repeat' split at h
 all_goals first
  | (cases h;done)
  | (cases h;trivial)
  |skip
 . cases h
   simp only[Plan.nr];intro cells i x hx;simp only[List.length_set];rw[rN,wZ hx,←rN]
 . rename_i n xs _ _
   cases hq:fa xs with
   |none=>rw[hq] at h;cases h
   |some ns=>rw[hq] at h;cases h;trivial
theorem Mm {own:Bool}{t:TypeId}{c:C}{p:Plan}(h:loadPlan P own t c=some p):p.nr:=by
 unfold loadPlan at h;split at h
 . cases h
 . rename_i d hd
   split at h
   . split at h
     . cases h;trivial
     . cases h;exact GU d _
   . cases hq:cA d _ loadPlan.off0 with
     |none=>rw[hq] at h;cases h
     |some x=>rw[hq] at h;cases h;trivial
   . cases h
theorem CZ {t t2:TypeId}{x y:C}{k:Option Nat}{p:Plan}(h:eh P t t2 x y k=some p):p.nr:=by
 unfold eh at h;split at h
 . cases h
 . cases h
 split at h
 . cases h
 split at h
 . split at h
   . cases h
   simp only[] at h;split at h
   . cases h
   split at h
   . split at h
     . cases h;trivial
     . cases h
       simp only[Plan.nr];intro cells i x hx;simp only[List.length_set,wZ hx]
   . split at h
     . rename_i m ys _
       split at h
       . cases h;trivial
       . cases h
     . cases h
 . cases h
theorem sK {α:Type}{x:Option α}{g:α→Plan}{p:Plan}(h:x.map g=some p)(hg:∀y,(g y).nr):p.nr:=by
 cases x with
 |none=>cases h
 |some y=>cases h;exact hg y
theorem GV {b:Nat}{cells:List C}{i:Nat}{x:C}(hx:cells[i]? =some x)(c:C):ik b (cells.set i x.noR) c=ik b cells c:=by
 have hm:∀k,((cells.set i x.noR).drop k).map C.noR= (cells.drop k).map C.noR:=fun k=>by
  apply List.ext_getElem?;intro j;simp only[List.getElem?_map,List.getElem?_drop,List.getElem?_set];split
  . rename_i e;subst e
    rw[hx];split
    . simp only[Option.map_some]
      congr 1
      cases x with
      |sl r n xs=>cases r<;>rfl
      |_=>rfl
    . rename_i hlt
      exact absurd (List.getElem?_eq_some_iff.1 hx).1 hlt
  . rfl
 cases c with
 |sv b' off n=>
  simp only[ik,List.length_set];split
  . rw[List.map_take,List.map_take,hm]
  . rfl
 |bp b' off=>simp only[ik,hm]
 |gv b' n s=>
  simp only[ik,List.length_set];split
  . have:=hm 0
    simp only[List.drop_zero] at this;rw[List.map_take,List.map_take,this]
  . rfl
 |_=>rfl
theorem vj {b:Nat}{cells:List C}{i:Nat}{x:C}(hx:cells[i]? =some x):∀az:List C,gB b (cells.set i x.noR) az=gB b cells az
 | [] =>rfl
 |c::l=>by simp only[gB,GV hx,vj hx l]
theorem Mn (g:Nat)(az:List C)(b:Nat):NR (rdPu cx g az b):=fun cells i x hx=>by
 unfold rdPu;rw[vj hx]
theorem QN (g:Nat)(az:List C)(b:Nat):NR (rdE cx g az b):=fun cells i x hx=>by
 unfold rdE;rw[nu hx]
theorem KA {b:Option (Nat×Nat)}{s:Nat×Nat}{m:Nat}{f:Hp→Option (List C)}(h: (f []).isSome=true→∀h,f h=f []): (Plan.ap b s m f).nr:=by
 cases b with
 |none=>exact h
 |some q=>trivial
theorem A4 {d d2:TD}{x y:C}{p:Plan}(h:gP P d d2 x y=some p):∃b s m f,p= .ap b s m f∧p.nr:=by
 unfold gP at h
 repeat' split at h
 all_goals first| (cases h;done) | (cases h;exact ⟨_,_,_,_,rfl,KA fun _ _=>rfl⟩)
theorem rj {t t2:TypeId}{x y:C}{p:Plan}(h:ig P t t2 x y=some p):∃b s m f,p= .ap b s m f∧p.nr:=by
 unfold ig at h;simp only[] at h
 repeat' split at h
 all_goals first| (cases h;done) |exact A4 h| (cases h;refine ⟨_,_,_,_,rfl,KA ?_⟩)
 all_goals first|exact fun _ _=>rfl| (intro hs;exact absurd hs (by simp[Hp.at]))
theorem w4 {s d:TypeId}{c:C}{p:Plan}(h:lB P s d c=some p):∃b s m f,p= .ap b s m f∧p.nr:=by
 unfold lB at h
 repeat' split at h
 all_goals first| (cases h;done) | (cases h;exact ⟨_,_,_,_,rfl,fun _ _=>rfl⟩)
theorem sL {t:TypeId}{b n:Nat}{s:Nat×Nat}{hi:Option C}{p:Plan}(h:mc P t b n s hi=some p):∃c,p= .val c none:=by
 unfold mc at h
 repeat' split at h
 all_goals first| (cases h;done) | (cases h;exact ⟨_,rfl⟩)
theorem w5 {ops:Array Oper}{o:Oper}{env:Nat→C}{p:Plan}(h:splan cx ops o env=some p):p.nr:=by
 unfold splan at h;simp only[] at h;split at h
 case h_8=>exact Mm h
 case h_13=>
  split at h
  . obtain ⟨_,_,_,_,_,hn⟩:=w4 h;exact hn
  . exact Ml h
 case h_23=>
  split at h
  . split at h
    case h_2=>
     split at h
     . obtain ⟨_,_,_,_,_,hn⟩:=rj h;exact hn
     . exact CZ h
    all_goals
     try simp only[jC,ii,fy,fM] at h
     repeat' split at h
     all_goals first| (cases h;done) | (cases h;trivial) |exact sK h fun _=>trivial
  . simp only[kf] at h
    repeat' split at h
    all_goals first| (cases h;done) | (cases h;exact Mn _ _ _) | (cases h;exact QN _ _ _) | (cases h;trivial)
  . cases h
 all_goals
  try simp only[cq,d6,dD,gx,kU,an,aw,ji,gM,fK,eR,fL] at h
  repeat' split at h
  all_goals first| (cases h;done) | (cases h;trivial) |exact sK h fun _=>trivial|exact sK h (fun _=>(fun _ _=>rfl)) |exact sK h fun _=>(by split<;>first|trivial|exact fun _ _=>rfl) | (obtain ⟨_,rfl⟩:=sL h;trivial)
def uq (id:Nat):Plan→Option (Nat×(Option (List C)→Option (C×Option Nat×Option (List C))))
 | .rd b f=>some (b,fun e=>((aR e).bind f).map fun c=>(c,none,e))
 | .wr b f k=>some (b,fun e=>((aR e).bind f).map fun r=>(r.2,k,some r.1))
 | .xr b off=>some (b,fun e=>(aR e).bind fun cells=>(cells[off]?).map fun x=>(x,none,some (cells.set off x.noR)))
 | .new cells g=>some (id,fun e=>match e with|none=>some (g id,none,some cells) |some _=>none)
 |_=>none
theorem pY {cells:List C}{off:Nat}{x:C}(h:aR (some cells) =some cells)(hx:cells[off]? =some x):aR (some (cells.set off x.noR)) =some (cells.set off x.noR):=by
 cases cells with
 |nil=>rfl
 |cons y l=>
  cases off with
  |zero=>
   simp only[List.getElem?_cons_zero,Option.some.injEq] at hx;subst hx;simp only[List.set_cons_zero]
   cases y with
   |tup xs=>cases h
   |sl r n xs=>cases r<;>rfl
   |_=>rfl
  |succ k=>
   simp only[List.set_cons_succ]
   cases y with
   |tup xs=>cases h
   |_=>rfl
theorem gA {id b:Nat}{p:Plan}{l:Option (List C)→Option (C×Option Nat×Option (List C))}(h:uq id p=some (b,l))(hp:Hp):
 aA cx id p hp= (hp[b]?).bind fun e=>(l e).map fun r=>(r.1,r.2.1,hp.set b r.2.2):=by
 cases p<;>simp only[uq,Option.some.injEq,Prod.mk.injEq,reduceCtorEq] at h
 case rd b' f=>
  obtain ⟨rfl,rfl⟩:=h;simp only[aA,Hp.at]
  cases hq:hp[b']? with
  |none=>rfl
  |some e=>
   simp only[Option.bind_some,id_eq]
   cases hf: (aR e).bind f with
   |none=>rfl
   |some c=>
    simp only[Option.map_some];have:hp.set b' e=hp:=by
     apply List.ext_getElem?;intro j;rw[List.getElem?_set];split
     . rename_i hj;subst hj
       have:=(List.getElem?_eq_some_iff.1 hq).1;simp[this,hq]
       have:=(List.getElem?_eq_some_iff.1 hq).2;exact this.symm
     . rfl
    rw[this]
 case wr b' f k=>
  obtain ⟨rfl,rfl⟩:=h;simp only[aA,Hp.at]
  cases hq:hp[b']? with
  |none=>rfl
  |some e=>
   simp only[Option.bind_some,id_eq];cases hf: (aR e).bind f<;>rfl
 case xr b' off=>
  obtain ⟨rfl,rfl⟩:=h;simp only[aA,Hp.at]
  cases hq:hp[b']? with
  |none=>rfl
  |some e=>
   simp only[Option.bind_some]
   cases aR e with
   |none=>rfl
   |some cells=>
    simp only[Option.bind_some,id_eq];cases cells[off]? <;>rfl
 case new cells g=>
  obtain ⟨rfl,rfl⟩:=h;simp only[aA]
  cases hq:hp[id]? with
  |none=>rfl
  |some e=>cases e<;>rfl
theorem kR {id:Nat}{h:Hp}{p:Plan}(h0: (bd id h p).1≠0)(h4: (bd id h p).1≠4)(h5: (bd id h p).1≠5)(h6: (bd id h p).1≠6):∃l,uq id p=some ((bd id h p).2,l):=by
 cases p with
 |ap b s m f=>
  cases b with
  |none=>
   simp only[bd] at h4 h5;split at h4
   . rename_i e;rw[if_pos e] at h5;exact absurd rfl h5
   . exact absurd rfl h4
  |some q=>exact absurd rfl h4
 |val c k=>exact absurd rfl h0
 |call f az=>exact absurd rfl h4
 |mo f=>exact absurd rfl h4
 |cw b f=>exact absurd rfl h6
 |_=>exact ⟨_,rfl⟩
theorem sM {id m:Nat}{s:Nat×Nat}{h:Hp}{b:Option (Nat×Nat)}{f:Hp→Option (List C)}(h4: (bd id h (.ap b s m f)).1≠4)(h5: (bd id h (.ap b s m f)).1≠5):False:=by
 cases b with
 |none=>
  simp only[bd] at h4 h5;split at h4
  . rename_i e;rw[if_pos e] at h5;exact h5 rfl
  . exact h4 rfl
 |some q=>exact h4 rfl
theorem QO {id:Nat}{h:Hp}{p:Plan}(h5: (bd id h p).1=5):∃s m f,p= .ap none s m f∧(f []).isSome=true∧(bd id h p).2=h.length:=by
 cases p with
 |ap b s m f=>
  cases b with
  |none=>
   simp only[bd] at h5 ⊢;split at h5
   . rename_i e;exact ⟨s,m,f,rfl,e,by rw[if_pos e]⟩
   . cases h5
  |some q=>cases h5
 |_=>cases h5
theorem sN {id:Nat}{h h':Hp}{p:Plan}(e:h.length=h'.length):bd id h p=bd id h' p:=by
 cases p with
 |ap b s m f=>cases b<;>simp only[bd,e]
 |_=>rfl
theorem nQ {cx:Cx}{id b:Nat}{p:Plan}{l:Option (List C)→Option (C×Option Nat×Option (List C))}(h:uq id p=some (b,l)){hp h':Hp}{c:C}{k:Option Nat}(e:aA cx id p hp=some (c,k,h')):h'.length=hp.length:=by
 rw[gA h] at e
 cases hq:hp[b]? with
 |none=>rw[hq] at e;cases e
 |some x=>
  rw[hq] at e;simp only[Option.bind_some] at e
  cases hl:l x with
  |none=>rw[hl] at e;cases e
  |some r=>
   rw[hl] at e;simp only[Option.map_some,Option.some.injEq,Prod.mk.injEq] at e;obtain ⟨_,_,rfl⟩:=e;exact List.length_set
theorem GX {idk idi b m:Nat}{s:Nat×Nat}{pk:Plan}{l:Option (List C)→Option (C×Option Nat×Option (List C))}{f:Hp→Option (List C)}{h h1 h2:Hp}{ck ci:C}{kk ki:Option Nat}(hl:uq idk pk=some (b,l))(hf:∀h,f h=f [])
 (e1:aA cx idk pk h=some (ck,kk,h1)) (e2:aA cx idi (.ap none s m f) h1=some (ci,ki,h2)):∃h1',aA cx idi (.ap none s m f) h=some (ci,ki,h1')∧aA cx idk pk h1'=some (ck,kk,h2):=by
 have hlen:=nQ hl e1;rw[gA hl] at e1;have ea:∀g:Hp,aA cx idi (.ap none s m f) g= (f g).bind fun cs=>some (.gv g.length m s,none,g++[some (cs.map C.noR)]):=fun g=>rfl;rw[ea,hf h1] at e2;rw[ea,hf h]
 cases hcs:f [] with
 |none=>rw[hcs] at e2;cases e2
 |some cs=>
  rw[hcs] at e2;simp only[Option.bind_some,Option.some.injEq,Prod.mk.injEq] at e2;obtain ⟨rfl,rfl,rfl⟩:=e2;refine ⟨h++[some (cs.map C.noR)],by simp only[Option.bind_some,hlen],?_⟩;rw[gA hl]
  cases hq:h[b]? with
  |none=>rw[hq] at e1;cases e1
  |some x=>
   have hlt:b< h.length:=(List.getElem?_eq_some_iff.1 hq).1;rw[hq] at e1;rw[List.getElem?_append_left hlt,hq];simp only[Option.bind_some] at e1 ⊢
   cases hx:l x with
   |none=>rw[hx] at e1;cases e1
   |some r=>
    rw[hx] at e1;simp only[Option.map_some,Option.some.injEq,Prod.mk.injEq] at e1 ⊢;obtain ⟨rfl,rfl,rfl⟩:=e1;refine ⟨rfl,rfl,?_⟩;rw[List.set_append,if_pos hlt]
theorem C0 {idk idi b m:Nat}{s:Nat×Nat}{pi:Plan}{l:Option (List C)→Option (C×Option Nat×Option (List C))}{f:Hp→Option (List C)}{h h1 h2:Hp}{ck ci:C}{kk ki:Option Nat}(hl:uq idi pi=some (b,l))(hf:∀h,f h=f [])(hb:h.length≠b)
 (e1:aA cx idk (.ap none s m f) h=some (ck,kk,h1)) (e2:aA cx idi pi h1=some (ci,ki,h2)):∃h1',aA cx idi pi h=some (ci,ki,h1')∧aA cx idk (.ap none s m f) h1'=some (ck,kk,h2):=by
 rw[gA hl] at e2;have ea:∀g:Hp,aA cx idk (.ap none s m f) g= (f g).bind fun cs=>some (.gv g.length m s,none,g++[some (cs.map C.noR)]):=fun g=>rfl;rw[ea,hf h] at e1;simp only[ea]
 cases hcs:f [] with
 |none=>rw[hcs] at e1;cases e1
 |some cs=>
  rw[hcs] at e1;simp only[Option.bind_some,Option.some.injEq,Prod.mk.injEq] at e1;obtain ⟨rfl,rfl,rfl⟩:=e1
  cases hq: (h++[some (cs.map C.noR)])[b]? with
  |none=>rw[hq] at e2;cases e2
  |some x=>
   have hlt':=(List.getElem?_eq_some_iff.1 hq).1;have hlt:b< h.length:=by simp at hlt';omega
   rw[List.getElem?_append_left hlt] at hq;rw[List.getElem?_append_left hlt,hq] at e2;simp only[Option.bind_some] at e2
   cases hx:l x with
   |none=>rw[hx] at e2;cases e2
   |some r=>
    rw[hx] at e2;simp only[Option.map_some,Option.some.injEq,Prod.mk.injEq] at e2;obtain ⟨rfl,rfl,rfl⟩:=e2;refine ⟨h.set b r.2.2,?_,?_⟩
    . rw[gA hl,hq]
      simp only[Option.bind_some,hx,Option.map_some]
    . rw[hf,hcs]
      simp only[Option.bind_some,List.length_set,Option.some.injEq,Prod.mk.injEq,true_and];rw[List.set_append,if_pos hlt]
theorem C1 {cx:Cx}{id b:Nat}{f:List C→Option (List C×C)}{h h':Hp}{c:C}{k:Option Nat}(e:aA cx id (.cw b f) h=some (c,k,h')):h'.length=h.length:=by
 simp only[aA] at e;split at e
 . cases hq: (h.at b).bind f with
   |none=>rw[hq] at e;cases e
   |some r=>
    rw[hq] at e;simp only[Option.map_some,Option.some.injEq,Prod.mk.injEq] at e;obtain ⟨_,_,rfl⟩:=e;exact List.length_set
 . cases e
theorem A5 {id:Nat}{h:Hp}{p:Plan}(h6: (bd id h p).1=6):∃b f,p= .cw b f∧(bd id h p).2=b:=by
 cases p with
 |ap b s m f=>
  cases b with
  |none=>simp only[bd] at h6;split at h6<;>cases h6
  |some q=>cases h6
 |cw b f=>exact ⟨b,f,rfl,rfl⟩
 |_=>cases h6
theorem KB {id:Nat}{h:Hp}{p:Plan}(h13: (bd id h p).1=1∨(bd id h p).1=3): (∃b f,p= .rd b f∧(bd id h p).2=b)∨(∃b off,p= .xr b off∧(bd id h p).2=b):=by
 cases p with
 |ap b s m f=>
  cases b with
  |none=>exfalso;simp only[bd] at h13;split at h13<;>rcases h13 with h|h<;>cases h
  |some q=>rcases h13 with h|h<;>cases h
 |rd b f=>exact .inl ⟨b,f,rfl,rfl⟩
 |xr b off=>exact .inr ⟨b,off,rfl,rfl⟩
 |_=>rcases h13 with h|h<;>cases h
theorem Mo {h:Hp}{b:Nat}{o:Option (List C)}(ha:h.all da=true)(ho:da o=true):List.all (h.set b o) da=true:=by
 rw[List.all_eq_true] at ha ⊢;intro x hx;rcases List.mem_or_eq_of_mem_set hx with q|rfl
 . exact ha x q
 . exact ho
theorem C2 {h:Hp}{b:Nat}{o:Option (List C)}{cells:List C}(hb:h.at b=some cells)(ha:List.all (h.set b o) da=true):h.all da=true:=by
 rw[List.all_eq_true] at ha ⊢;intro x hx;obtain ⟨i,hi,rfl⟩:=List.getElem_of_mem hx;by_cases e:b=i
 . subst e
   have hq:aR h[b] =some cells:=by
    unfold Hp.at at hb;rw[List.getElem?_eq_getElem hi] at hb;exact hb
   unfold da;rw[hq];rfl
 . refine ha _ ?_
   have: (h.set b o)[i]? =some h[i]:=by rw[List.getElem?_set_ne e,List.getElem?_eq_getElem hi]
   exact List.mem_of_getElem? this
theorem GY {cells:List C}(h:aR (some cells) =some cells):da (some cells) =true:=by unfold da;rw[h];rfl
theorem qH {h:Hp}{b b':Nat}{o:Option (List C)}(e:b≠b'):Hp.at (h.set b o) b'=h.at b':=by
 unfold Hp.at;rw[List.getElem?_set_ne e]
theorem C3 {cx:Cx}{idk idi b:Nat}{f:List C→Option (List C×C)}{pi:Plan}{h h1 h2:Hp}{ck ci:C}{kk ki:Option Nat}(e1:aA cx idk (.cw b f) h=some (ck,kk,h1))(e2:aA cx idi pi h1=some (ci,ki,h2))
 (hp: (∃b' f',pi= .rd b' f'∧b≠b')∨(∃b' off,pi= .xr b' off∧b≠b')):∃h1',aA cx idi pi h=some (ci,ki,h1')∧aA cx idk (.cw b f) h1'=some (ck,kk,h2):=by
 have e1':=e1;simp only[aA] at e1';split at e1'
 . rename_i hall
   cases hq: (h.at b).bind f with
   |none=>rw[hq] at e1';cases e1'
   |some r=>
    rw[hq] at e1';simp only[Option.map_some,Option.some.injEq,Prod.mk.injEq] at e1';obtain ⟨rfl,rfl,rfl⟩:=e1';rcases hp with ⟨b',f',rfl,hne⟩ | ⟨b',off,rfl,hne⟩
    . simp only[aA] at e2
      rw[qH hne] at e2
      cases hr: (h.at b').bind f' with
      |none=>rw[hr] at e2;cases e2
      |some c=>
       rw[hr] at e2;simp only[Option.map_some,Option.some.injEq,Prod.mk.injEq] at e2;obtain ⟨rfl,rfl,rfl⟩:=e2;exact ⟨h,by simp only[aA,hr];rfl,e1⟩
    . simp only[aA] at e2
      rw[qH hne] at e2
      cases hat:h.at b' with
      |none=>rw[hat] at e2;cases e2
      |some cells=>
       rw[hat] at e2;simp only[Option.bind_some] at e2
       cases hx:cells[off]? with
       |none=>rw[hx] at e2;cases e2
       |some x=>
        rw[hx] at e2;simp only[Option.map_some,Option.some.injEq,Prod.mk.injEq] at e2;obtain ⟨rfl,rfl,rfl⟩:=e2;refine ⟨h.set b' (some (cells.set off x.noR)),by simp only[aA,hat,Option.bind_some,hx,Option.map_some],?_⟩;simp only[aA];rw[if_pos (Mo hall (GY (pY (fv hat) hx))),qH (Ne.symm hne),hq];simp only[Option.map_some,Option.some.injEq,Prod.mk.injEq,true_and];exact List.set_comm _ _ (Ne.symm hne)
 . cases e1'
theorem GZ {cx:Cx}{idk idi b:Nat}{f:List C→Option (List C×C)}{pk:Plan}{h h1 h2:Hp}{ck ci:C}{kk ki:Option Nat}(e1:aA cx idk pk h=some (ck,kk,h1))(e2:aA cx idi (.cw b f) h1=some (ci,ki,h2))
 (hp: (∃b' f',pk= .rd b' f'∧b'≠b)∨(∃b' off,pk= .xr b' off∧b'≠b)):∃h1',aA cx idi (.cw b f) h=some (ci,ki,h1')∧aA cx idk pk h1'=some (ck,kk,h2):=by
 rcases hp with ⟨b',f',rfl,hne⟩ | ⟨b',off,rfl,hne⟩
 . simp only[aA] at e1
   cases hr: (h.at b').bind f' with
   |none=>rw[hr] at e1;cases e1
   |some c=>
    rw[hr] at e1;simp only[Option.map_some,Option.some.injEq,Prod.mk.injEq] at e1;obtain ⟨rfl,rfl,rfl⟩:=e1;refine ⟨h2,e2,?_⟩;simp only[aA] at e2;split at e2
    . cases hq: (h.at b).bind f with
      |none=>rw[hq] at e2;cases e2
      |some r=>
       rw[hq] at e2;simp only[Option.map_some,Option.some.injEq,Prod.mk.injEq] at e2;obtain ⟨rfl,rfl,rfl⟩:=e2;simp only[aA];rw[qH (Ne.symm hne),hr];rfl
    . cases e2
 . simp only[aA] at e1
   cases hat:h.at b' with
   |none=>rw[hat] at e1;cases e1
   |some cells=>
    rw[hat] at e1;simp only[Option.bind_some] at e1
    cases hx:cells[off]? with
    |none=>rw[hx] at e1;cases e1
    |some x=>
     rw[hx] at e1;simp only[Option.map_some,Option.some.injEq,Prod.mk.injEq] at e1;obtain ⟨rfl,rfl,rfl⟩:=e1;simp only[aA] at e2;split at e2
     . rename_i hall
       rw[qH hne] at e2
       cases hq: (h.at b).bind f with
       |none=>rw[hq] at e2;cases e2
       |some r=>
        rw[hq] at e2;simp only[Option.map_some,Option.some.injEq,Prod.mk.injEq] at e2;obtain ⟨rfl,rfl,rfl⟩:=e2;refine ⟨h.set b (some r.1),by simp only[aA];rw[if_pos (C2 hat hall),hq];rfl,?_⟩;simp only[aA];rw[qH (Ne.symm hne),hat];simp only[Option.bind_some,hx,Option.map_some,Option.some.injEq,Prod.mk.injEq,true_and];exact List.set_comm _ _ (Ne.symm hne)
     . cases e2
theorem C4 {idk idi:Nat}{pk pi:Plan}{h h1 h2:Hp}{ck ci:C}{kk ki:Option Nat}(e1:aA cx idk pk h=some (ck,kk,h1))(e2:aA cx idi pi h1=some (ci,ki,h2))
 (hc:db (bd idk h pk) (bd idi h1 pi) =true) (nk:pk.nr) (ni:pi.nr):∃h1',aA cx idi pi h=some (ci,ki,h1')∧aA cx idk pk h1'=some (ck,kk,h2)∧bd idi h pi=bd idi h1 pi∧bd idk h1' pk=bd idk h pk:=by
 suffices hh:∃h1',aA cx idi pi h=some (ci,ki,h1')∧aA cx idk pk h1'=some (ck,kk,h2) by
  obtain ⟨h1',q1,q2⟩:=hh;refine ⟨h1',q1,q2,?_⟩;have lenk: (bd idk h pk).1≠4→(bd idk h pk).1≠5→h1.length=h.length:=fun h4 h5=>by
   by_cases k0: (bd idk h pk).1=0
   . cases pk with
     |val c k=>simp only[aA,Option.some.injEq,Prod.mk.injEq] at e1;rw[e1.2.2]
     |ap b s m f=>cases b with
      |none=>simp only[bd] at k0;split at k0<;>cases k0
      |some q=>cases k0
     |_=>cases k0
   . by_cases k6: (bd idk h pk).1=6
     . obtain ⟨b,f,rfl,_⟩:=A5 k6;exact C1 e1
     . obtain ⟨l,hl⟩:=kR k0 h4 h5 k6;exact nQ hl e1
  have leni: (bd idi h1 pi).1≠4→(bd idi h1 pi).1≠5→h1'.length=h.length:=fun h4 h5=>by
   by_cases i0: (bd idi h1 pi).1=0
   . cases pi with
     |val c k=>simp only[aA,Option.some.injEq,Prod.mk.injEq] at q1;rw[q1.2.2]
     |ap b s m f=>cases b with
      |none=>simp only[bd] at i0;split at i0<;>cases i0
      |some q=>cases i0
     |_=>cases i0
   . by_cases i6: (bd idi h1 pi).1=6
     . obtain ⟨b,f,rfl,_⟩:=A5 i6;exact C1 q1
     . obtain ⟨l,hl⟩:=kR i0 h4 h5 i6;exact nQ hl q1
  have free:∀ {id:Nat}{h h':Hp}{p:Plan},(bd id h p).1≠5→bd id h' p=bd id h p:=fun {id h h' p} h5=>by
   cases p with
   |ap b s m f=>cases b with
    |none=>
     simp only[bd] at h5 ⊢;split at h5
     . exact absurd rfl h5
     . rename_i e;rw[if_neg e,if_neg e]
    |some q=>rfl
   |_=>rfl
  refine ⟨?_,?_⟩
  . by_cases i5: (bd idi h1 pi).1=5
    . refine sN (lenk ?_ ?_).symm<;> (intro e;simp[db,e,i5] at hc)
    . exact free i5
  . by_cases k5: (bd idk h pk).1=5
    . refine sN (leni ?_ ?_) <;> (intro e;simp[db,e,k5] at hc)
    . exact free k5
 by_cases k0: (bd idk h pk).1=0
 . obtain ⟨c,k,rfl⟩:∃c k,pk= .val c k:=by
    cases pk with
    |val c k=>exact ⟨c,k,rfl⟩
    |ap b s m f=>cases b with
     |none=>simp only[bd] at k0;split at k0<;>cases k0
     |some q=>cases k0
    |_=>cases k0
   simp only[aA,Option.some.injEq,Prod.mk.injEq] at e1 ⊢;obtain ⟨rfl,rfl,rfl⟩:=e1;exact ⟨h2,e2,rfl,rfl,rfl⟩
 by_cases i0: (bd idi h1 pi).1=0
 . obtain ⟨c,k,rfl⟩:∃c k,pi= .val c k:=by
    cases pi with
    |val c k=>exact ⟨c,k,rfl⟩
    |ap b s m f=>cases b with
     |none=>simp only[bd] at i0;split at i0<;>cases i0
     |some q=>cases i0
    |_=>cases i0
   simp only[aA,Option.some.injEq,Prod.mk.injEq] at e2 ⊢;obtain ⟨rfl,rfl,rfl⟩:=e2;exact ⟨h,⟨rfl,rfl,rfl⟩,e1⟩
 by_cases k6: (bd idk h pk).1=6
 . obtain ⟨b,f,rfl,hb⟩:=A5 k6
   have hk: ((bd idi h1 pi).1=1∨(bd idi h1 pi).1=3)∧b≠(bd idi h1 pi).2:=by
    simp only[db,k6,hb] at hc;simpa[i0] using hc
   refine C3 e1 e2 ?_;rcases KB hk.1 with ⟨b',f',rfl,h'⟩ | ⟨b',f',rfl,h'⟩
   . exact .inl ⟨b',f',rfl,h'▸hk.2⟩
   . exact .inr ⟨b',f',rfl,h'▸hk.2⟩
 by_cases i6: (bd idi h1 pi).1=6
 . obtain ⟨b,f,rfl,hb⟩:=A5 i6
   have hk: ((bd idk h pk).1=1∨(bd idk h pk).1=3)∧(bd idk h pk).2≠b:=by
    simp only[db,i6,hb] at hc;simpa[k0,k6] using hc
   refine GZ e1 e2 ?_;rcases KB hk.1 with ⟨b',f',rfl,h'⟩ | ⟨b',f',rfl,h'⟩
   . exact .inl ⟨b',f',rfl,h'▸hk.2⟩
   . exact .inr ⟨b',f',rfl,h'▸hk.2⟩
 have k4: (bd idk h pk).1≠4:=fun e=>by simp[db,k0,i0,i6,e] at hc
 have i4: (bd idi h1 pi).1≠4:=fun e=>by simp[db,k0,i0,k6,e] at hc
 by_cases k5: (bd idk h pk).1=5
 . have i5: (bd idi h1 pi).1≠5:=fun e=>by simp[db,k5,e] at hc
   have hne: (bd idk h pk).2≠(bd idi h1 pi).2:=fun e=>by simp[db,k0,i0,k5,e] at hc
   obtain ⟨l,hl⟩:=kR i0 i4 i5 i6;obtain ⟨s,m,f,rfl,hs,h2'⟩:=QO k5;rw[h2'] at hne;exact C0 hl (nk hs) hne e1 e2
 by_cases i5: (bd idi h1 pi).1=5
 . obtain ⟨l,hl⟩:=kR k0 k4 k5 k6
   obtain ⟨s,m,f,rfl,hs,_⟩:=QO i5;exact GX hl (ni hs) e1 e2
 replace hc:db (bd idk h pk) (bd idi h pi) =true:=by
  have:bd idi h pi=bd idi h1 pi:=sN (by
   obtain ⟨l,hl⟩:=kR k0 k4 k5 k6;exact (nQ hl e1).symm)
  rwa [this]
 have hfi:bd idi h1 pi=bd idi h pi:=sN (by
  obtain ⟨l,hl⟩:=kR k0 k4 k5 k6;exact nQ hl e1)
 rw[hfi] at i0 i4 i5 i6;by_cases hb: (bd idk h pk).2= (bd idi h pi).2
 . cases pk with
   |val c k=>exact absurd rfl k0
   |call f az=>exact absurd rfl k4
   |mo f=>exact absurd rfl k4
   |cw b f=>exact absurd rfl k6
   |ap b' s m ys=>exact (sM k4 k5).elim
   |wr b f k=>cases pi with
    |val c k=>exact absurd rfl i0
    |call f az=>exact absurd rfl i4
    |mo f=>exact absurd rfl i4
    |cw b f=>exact absurd rfl i6
    |ap b'' s m ys=>exact (sM i4 i5).elim
    |_=>simp[db,bd] at hc hb;omega
   |new cells g=>cases pi with
    |val c k=>exact absurd rfl i0
    |call f az=>exact absurd rfl i4
    |mo f=>exact absurd rfl i4
    |cw b f=>exact absurd rfl i6
    |ap b'' s m ys=>exact (sM i4 i5).elim
    |_=>simp[db,bd] at hc hb;omega
   |rd b f=>
    simp only[aA] at e1
    cases hq: (h.at b).bind f with
    |none=>rw[hq] at e1;cases e1
    |some c=>
     rw[hq] at e1;simp only[Option.map_some,Option.some.injEq,Prod.mk.injEq] at e1;obtain ⟨rfl,rfl,rfl⟩:=e1
     cases pi with
     |val c k=>exact absurd rfl i0
     |call f az=>exact absurd rfl i4
     |mo f=>exact absurd rfl i4
     |cw b f=>exact absurd rfl i6
     |ap b'' s m ys=>exact (sM i4 i5).elim
     |wr b f k=>simp[db,bd] at hc hb;omega
     |new cells g=>simp[db,bd] at hc hb;omega
     |rd b' f'=>
      have e2':=e2;simp only[aA] at e2'
      cases hq': (h.at b').bind f' with
      |none=>rw[hq'] at e2';cases e2'
      |some c'=>
       rw[hq'] at e2';simp only[Option.map_some,Option.some.injEq,Prod.mk.injEq] at e2';obtain ⟨rfl,rfl,rfl⟩:=e2';exact ⟨h,e2,by simp only[aA,hq];rfl⟩
     |xr b' off=>
      have hbb:b=b':=hb;subst hbb;refine ⟨h2,e2,?_⟩;simp only[aA] at e2 ⊢
      cases hat:h.at b with
      |none=>rw[hat] at e2;cases e2
      |some cells=>
       rw[hat] at e2 hq;simp only[Option.bind_some] at e2 hq
       cases hx:cells[off]? with
       |none=>rw[hx] at e2;cases e2
       |some x=>
        rw[hx] at e2;simp only[Option.map_some,Option.some.injEq,Prod.mk.injEq] at e2;obtain ⟨_,_,rfl⟩:=e2;have hlt:b< h.length:=dI hat;rw[cd hlt,if_pos rfl,pY (fv hat) hx];simp only[Option.bind_some];rw[nk cells off x hx,hq];rfl
   |xr b off=>
    simp only[aA] at e1
    cases hat:h.at b with
    |none=>rw[hat] at e1;cases e1
    |some cells=>
     rw[hat] at e1;simp only[Option.bind_some] at e1
     cases hx:cells[off]? with
     |none=>rw[hx] at e1;cases e1
     |some x=>
      rw[hx] at e1;simp only[Option.map_some,Option.some.injEq,Prod.mk.injEq] at e1;obtain ⟨rfl,rfl,rfl⟩:=e1;have hlt:b< h.length:=dI hat
      cases pi with
      |val c k=>exact absurd rfl i0
      |call f az=>exact absurd rfl i4
      |mo f=>exact absurd rfl i4
      |cw b f=>exact absurd rfl i6
      |ap b'' s m ys=>exact (sM i4 i5).elim
      |wr b f k=>simp[db,bd] at hc hb;omega
      |new cells g=>simp[db,bd] at hc hb;omega
      |xr b' off'=>simp[db,bd] at hc hb;omega
      |rd b' f'=>
       have hbb:b=b':=hb;subst hbb;simp only[aA] at e2 ⊢;rw[cd hlt,if_pos rfl,pY (fv hat) hx] at e2;simp only[Option.bind_some] at e2;rw[ni cells off x hx] at e2
       cases hf:f' cells with
       |none=>rw[hf] at e2;cases e2
       |some c'=>
        rw[hf] at e2;simp only[Option.map_some,Option.some.injEq,Prod.mk.injEq] at e2;obtain ⟨rfl,rfl,rfl⟩:=e2;refine ⟨h,?_,?_⟩
        . rw[hat];simp only[Option.bind_some,hf];rfl
        . rw[hat];simp only[Option.bind_some,hx];rfl
 . obtain ⟨lk,hlk⟩:=kR k0 k4 k5 k6
   obtain ⟨li,hli⟩:=kR i0 i4 i5 i6;rw[gA hlk] at e1;rw[gA hli] at e2;simp only[gA hlk,gA hli];generalize (bd idk h pk).2=bk at*
   generalize (bd idi h pi).2=bi at*
   cases hk:h[bk]? with
   |none=>rw[hk] at e1;cases e1
   |some ek=>
    rw[hk] at e1;simp only[Option.bind_some] at e1
    cases hlk':lk ek with
    |none=>rw[hlk'] at e1;cases e1
    |some rk=>
     rw[hlk'] at e1;simp only[Option.map_some,Option.some.injEq,Prod.mk.injEq] at e1;obtain ⟨rfl,rfl,rfl⟩:=e1;rw[List.getElem?_set_ne hb] at e2
     cases hi:h[bi]? with
     |none=>rw[hi] at e2;cases e2
     |some ei=>
      rw[hi] at e2;simp only[Option.bind_some] at e2
      cases hli':li ei with
      |none=>rw[hli'] at e2;cases e2
      |some ri=>
       rw[hli'] at e2;simp only[Option.map_some,Option.some.injEq,Prod.mk.injEq] at e2;obtain ⟨rfl,rfl,rfl⟩:=e2;refine ⟨h.set bi ri.2.2,by simp[hli'],?_⟩;rw[List.getElem?_set_ne (Ne.symm hb),hk];simp only[Option.bind_some,hlk',Option.map_some,Option.some.injEq,Prod.mk.injEq,true_and];exact List.set_comm _ _ (Ne.symm hb)
theorem vk (k:Option Nat)(env:Nat→C)(t:Nat): (br k env t).noR= (env t).noR:=by
 cases k with
 |none=>rfl
 |some p=>
  simp only[br];split
  . rename_i e
    subst e
    cases hc:env t with
    |sl r n xs=>cases r<;>rfl
    |_=>rfl
  . rfl
def Plan.kill:Plan→Option Nat
 | .val _ k=>k
 | .wr _ _ k=>k
 |_=>none
theorem l8 {α:Type}{x:Option α}{g:α→Plan}{p:Plan}(h:x.map g=some p)(hg:∀y,(g y).kill=none):p.kill=none:=by
 cases x with
 |none=>cases h
 |some y=>cases h;exact hg y
theorem A6 {t:TypeId}{c x:C}{k:Option Nat}{p:Plan}(h:cq P t c x k=some p):p.kill=none∨p.kill=k:=by
 unfold cq at h
 repeat' split at h
 all_goals first| (cases h;done) | (cases h;exact .inl rfl) | (cases h;exact .inr rfl)
theorem y6 {t t2:TypeId}{x y:C}{k:Option Nat}{p:Plan}(h:eh P t t2 x y k=some p):p.kill=none∨p.kill=k:=by
 unfold eh at h;split at h
 . cases h
 . cases h
 split at h
 . cases h
 split at h
 . split at h
   . cases h
   simp only[] at h;split at h
   . cases h
   . rename_i n xs k' hs
     have hk:k'=none∨k'=k:=by
      split at hs
      . cases hs;exact .inl rfl
      . cases hs;exact .inl rfl
      . split at hs
        . cases hs;exact .inr rfl
        . cases hs
      . cases hs
     split at h
     . split at h
       . cases h;exact hk
       . cases h;exact .inl rfl
     . split at h
       . split at h
         . cases h;exact hk
         . cases h
       . cases h
 . cases h
theorem C5 {s d:TypeId}{c:C}{p:Plan}(h:fO P s d c=some p):p.kill=none:=by
 unfold fO at h
 repeat' split at h
 all_goals first
  | (cases h;done)
  | (cases h;rfl)
  |exact l8 h fun _=>rfl
theorem C6 {own:Bool}{t:TypeId}{c:C}{p:Plan}(h:loadPlan P own t c=some p):p.kill=none:=by
 unfold loadPlan at h
 repeat' split at h
 all_goals first
  | (cases h;done)
  | (cases h;rfl)
  |exact l8 h fun _=>rfl
theorem A7 {ops:Array Oper}{o:Oper}{env:Nat→C}{p:Plan}(h:splan cx ops o env=some p){q:Nat}(hq:p.kill=some q):q∈cC ops o:=by
 have none_:p.kill=none→q∈cC ops o:=fun e=>by rw[e] at hq;cases hq
 unfold splan at h;simp only[] at h;split at h
 case h_1 x ho=>
  split at h
  . split at h
    . rename_i ha
      cases h;cases hq;simp[cC,ho,ha,dO]
    . cases h;cases hq
  . cases h;cases hq
 case h_2 x ho=>
  cases h;simp only[Plan.kill] at hq;simp[cC,ho,hq]
 case h_8=>exact none_ (C6 h)
 case h_9 t x y ho=>
  rcases A6 h with e|e
  . exact none_ e
  . rw[e] at hq;simp[cC,ho,hq]
 case h_13=>
  split at h
  . obtain ⟨_,_,_,_,rfl,_⟩:=w4 h;exact none_ rfl
  . exact none_ (C5 h)
 case h_23 c ho=>
  split at h
  . rename_i b hb
    split at h
    case h_2 x y t t2 ha ht=>
     split at h
     . obtain ⟨_,_,_,_,rfl,_⟩:=rj h;exact none_ rfl
     rcases y6 h with e|e
     . exact none_ e
     . rw[e] at hq
       obtain ⟨callee,args,ts⟩:=c;simp only[] at hb ha;subst hb;simp[cC,ho,ha,hq]
    all_goals
     refine none_ ?_
     try simp only[jC,ii,fy,fM] at h
     repeat' split at h
     all_goals first| (cases h;done) | (cases h;rfl) |exact l8 h fun _=>rfl
  . refine none_ ?_
    simp only[kf] at h
    repeat' split at h
    all_goals first| (cases h;done) | (cases h;rfl)
  . cases h
 all_goals
  refine none_ ?_
  try simp only[d6,dD,gx,kU,an,aw,ji,gM,fK,eR,fL] at h
  repeat' split at h
  all_goals first| (cases h;done) | (cases h;rfl) |exact l8 h fun _=>rfl|exact l8 h fun _=>(by split<;>rfl) | (obtain ⟨_,rfl⟩:=sL h;rfl)
theorem w6 {ops:Array Oper}{id:Nat}{o:Oper}{st:St}{c:C}{k:Option Nat}{h':Hp}{f:FP}(h:pW cx ops id o st=some (c,k,h',f)):∀p,k=some p→p∈cC ops o:=by
 intro p hk;subst hk;unfold pW at h;split at h
 . cases h
 . cases h
 . split at h
   . cases h
   . rename_i pl hpl
     cases ha:aA cx id pl st.h with
     |none=>rw[ha] at h;cases h
     |some r=>
      rw[ha] at h;simp only[Option.map_some,Option.some.injEq,Prod.mk.injEq] at h;obtain ⟨rfl,hk,rfl,rfl⟩:=h;have hkill: (∃c,pl= .val c (some p))∨∃b f,pl= .wr b f (some p):=by
       cases pl with
       |val c k=>simp only[aA,Option.some.injEq] at ha;subst ha;simp only[] at hk;subst hk;exact .inl ⟨c,rfl⟩
       |rd b f=>simp only[aA] at ha;cases hq: (st.h.at b).bind f<;>rw[hq] at ha<;>cases ha;cases hk
       |wr b f k=>
        simp only[aA] at ha
        cases hq: (st.h.at b).bind f with
        |none=>rw[hq] at ha;cases ha
        |some r'=>rw[hq] at ha;cases ha;simp only[] at hk;subst hk;exact .inr ⟨b,f,rfl⟩
       |xr b off=>
        simp only[aA] at ha
        cases hq:st.h.at b with
        |none=>rw[hq] at ha;cases ha
        |some cells=>
         rw[hq] at ha;simp only[Option.bind_some] at ha;cases hq2:cells[off]? <;>rw[hq2] at ha<;>cases ha
         cases hk
       |new cells g=>
        simp only[aA] at ha;split at ha<;>cases ha
        cases hk
       |call g az=>simp only[aA] at ha;cases hq:cx.hp g az st.h<;>rw[hq] at ha<;>cases ha;cases hk
       |mo f=>simp only[aA] at ha;cases hq:f st.h<;>rw[hq] at ha<;>cases ha;cases hk
       |cw b f=>
        simp only[aA] at ha;split at ha
        . cases hq: (st.h.at b).bind f<;>rw[hq] at ha<;>cases ha;cases hk
        . cases ha
       |ap b s m ys=>
        simp only[aA] at ha
        cases hq:ys st.h with
        |none=>rw[hq] at ha;cases ha
        |some cs=>
         rw[hq] at ha;simp only[Option.bind_some] at ha;split at ha
         . cases ha;cases hk
         . rename_i b n
           cases hq2:st.h.at b with
           |none=>rw[hq2] at ha;cases ha
           |some cells=>
            rw[hq2] at ha;simp only[Option.bind_some] at ha
            repeat' split at ha
            all_goals first| (cases ha;done) | (cases ha;cases hk)
      refine A7 hpl ?_;rcases hkill with ⟨c,rfl⟩ | ⟨b,f,rfl⟩ <;>rfl
theorem mT {ops:Array Oper}{o:Oper}{t:Nat}(h:t∈cC ops o):t∈o.looksAt ops:=by
 refine List.mem_append_left _ (List.mem_filterMap.2 ⟨.tmp t,?_,rfl⟩);have key:∀x:Operand,dO x=some t→x= .tmp t:=fun x hx=>by cases x<;>simp[dO] at hx;rw[hx]
 obtain ⟨dst,op,type,pos,after,guard⟩:=o;unfold cC at h;split at h
 . rename_i x ho
   simp only[] at ho;subst ho;split at h
   . rw[Option.mem_toList] at h
     simp[Op.operands,key x h]
   . cases h
 . rename_i x ho
   simp only[] at ho;subst ho;rw[Option.mem_toList] at h;simp[Op.operands,key x h]
 . rename_i a b y ho
   simp only[] at ho;subst ho;rw[Option.mem_toList] at h;simp[Op.operands,key y h]
 . rename_i args ts ho
   simp only[] at ho;subst ho;split at h
   . rename_i x r ha
     rw[Option.mem_toList] at h;simp only[Op.operands,Call.operands,Array.toList_append,List.mem_append];right
     rw[ha,key x h];simp
   . cases h
 . cases h
theorem A8 {ops:Array Oper}{base k i:Nat}{st st1 st2:St}{fk fi:FP}{ok oi:Oper}(hok:ops[k]? =some ok)(hoi:ops[i]? =some oi)(hap:apart ops ok oi=true)
 (h1:gz cx ops base k st=some (st1,fk)) (h2:gz cx ops base i st1=some (st2,fi)) (hc:db fk fi=true):
 ∃st1',gz cx ops base i st=some (st1',fi)∧gz cx ops base k st1'=some (st2,fk):=by
 simp only[apart,Bool.and_eq_true] at hap;obtain ⟨hap,hos⟩:=hap;obtain ⟨a1,a2,a3⟩:=Oper.apart_spec hap;have hos':∀t,t∈cC ops ok→t∉cC ops oi:=fun t ht=>by simpa using List.all_eq_true.1 hos t ht
 unfold gz at h1 h2 ⊢;rw[hok] at h1;rw[hoi] at h2;simp only[hok,hoi] at h1 h2 ⊢;by_cases dk:kK cx.N ok.dst=true
 case neg=>rw[if_neg dk] at h1;cases h1
 by_cases di:kK cx.N oi.dst=true
 case neg=>rw[if_neg di] at h2;cases h2
 rw[if_pos dk] at h1;rw[if_pos di] at h2;rw[if_pos di]
 cases hk:pW cx ops (base+dF ops k) ok st with
 |none=>rw[hk] at h1;cases h1
 |some rk=>
  obtain ⟨ck,kk,hk',fk'⟩:=rk;rw[hk] at h1;simp only[Option.map_some,Option.some.injEq,Prod.mk.injEq] at h1;obtain ⟨rfl,rfl⟩:=h1
  cases hi:pW cx ops (base+dF ops i) oi ⟨put ok.dst ck (br kk st.env),hk'⟩ with
  |none=>rw[hi] at h2;cases h2
  |some ri=>
   obtain ⟨ci,ki,hi',fi'⟩:=ri;rw[hi] at h2;simp only[Option.map_some,Option.some.injEq,Prod.mk.injEq] at h2;obtain ⟨rfl,rfl⟩:=h2;have kk':=w6 hk;have ki':=w6 hi;have put_ne:∀ {d:Option Nat}{c:C}{env:Nat→C}{t:Nat},d≠some t→put d c env t=env t:=by
    intro d c env t hne
    cases d with
    |none=>rfl
    |some d=>simp only[put];rw[if_neg (fun e=>hne (by rw[e]))]
   have kill_ne:∀ {kq:Option Nat}{env:Nat→C}{t:Nat},kq≠some t→br kq env t=env t:=by
    intro kq env t hne
    cases kq with
    |none=>rfl
    |some q=>simp only[br];rw[if_neg (fun e=>hne (by rw[e]))]
   have see_i:∀t∈oi.looksAt ops,(put ok.dst ck (br kk st.env) t).noR= (st.env t).noR:=fun t ht=>by
    rw[put_ne (fun e=>a1 t e ht),vk]
   have own_i:∀t∈cC ops oi,put ok.dst ck (br kk st.env) t=st.env t:=fun t ht=>by
    rw[put_ne (fun e=>a1 t e (mT ht)),kill_ne (fun e=>hos' t (kk' t e) ht)]
   have see_k:∀t∈ok.looksAt ops,(put oi.dst ci (br ki st.env) t).noR= (st.env t).noR:=fun t ht=>by
    rw[put_ne (fun e=>a3 t e ht),vk]
   have own_k:∀t∈cC ops ok,put oi.dst ci (br ki st.env) t=st.env t:=fun t ht=>by
    rw[put_ne (fun e=>a3 t e (mT ht)),kill_ne (fun e=>hos' t ht (ki' t e))]
   have env_eq:put oi.dst ci (br ki (put ok.dst ck (br kk st.env))) =put ok.dst ck (br kk (put oi.dst ci (br ki st.env))):=by
    funext t
    by_cases t1:oi.dst=some t
    . have t2:ok.dst≠some t:=fun e=>a2 t e t1
      have t3:kk≠some t:=fun e=>a3 t t1 (mT (kk' t e));rw[put_ne t2,kill_ne t3,t1];simp[put]
    . rw[put_ne t1]
      by_cases t2:ok.dst=some t
      . have t3:ki≠some t:=fun e=>a1 t t2 (mT (ki' t e))
        rw[kill_ne t3,t2];simp[put]
      . rw[put_ne t2]
        have e1:br ki (put ok.dst ck (br kk st.env)) t=br ki (br kk st.env) t:=by
         cases ki with
         |none=>simp only[br];rw[put_ne t2]
         |some q=>
          simp only[br];split
          . rename_i e;subst e;rw[put_ne t2]
          . rw[put_ne t2]
        have e2:br kk (put oi.dst ci (br ki st.env)) t=br kk (br ki st.env) t:=by
         cases kk with
         |none=>simp only[br];rw[put_ne t1]
         |some q=>
          simp only[br];split
          . rename_i e;subst e;rw[put_ne t1]
          . rw[put_ne t1]
        rw[e1,e2];cases ki<;>cases kk<;>simp only[br]
        split<;>split<;>simp_all
   have comm:∃h1',pW cx ops (base+dF ops i) oi st=some (ci,ki,h1',fi')∧pW cx ops (base+dF ops k) ok ⟨put oi.dst ci (br ki st.env),h1'⟩ =some (ck,kk,hi',fk'):=by
    unfold pW at hk hi ⊢;simp only[] at hk hi ⊢;rw[pX (env:=put ok.dst ck (br kk st.env)) see_i,rh see_i own_i] at hi
    cases wk:dW ops ok st.env with
    |none=>rw[wk] at hk;cases hk
    |some bk=>
     rw[wk] at hk
     cases wi:dW ops oi st.env with
     |none=>rw[wi] at hi;cases hi
     |some bi=>
      rw[wi] at hi;have wk2:dW ops ok (put oi.dst ci (br ki st.env)) =some bk:=by rw[pX see_k,wk]
      have sk2:splan cx ops ok (put oi.dst ci (br ki st.env)) =splan cx ops ok st.env:=rh see_k own_k
      cases bk with
      |false=>
       simp only[Option.some.injEq,Prod.mk.injEq] at hk;obtain ⟨rfl,rfl,rfl,rfl⟩:=hk;exact ⟨hi',hi,by rw[wk2]⟩
      |true=>
       simp only[] at hk
       cases pk:splan cx ops ok st.env with
       |none=>rw[pk] at hk;cases hk
       |some plk=>
        rw[pk] at hk;simp only[] at hk
        cases ak:aA cx (base+dF ops k) plk st.h with
        |none=>rw[ak] at hk;cases hk
        |some rk=>
         rw[ak] at hk;simp only[Option.map_some,Option.some.injEq,Prod.mk.injEq] at hk;obtain ⟨rfl,rfl,rfl,rfl⟩:=hk
         cases bi with
         |false=>
          simp only[Option.some.injEq,Prod.mk.injEq] at hi;obtain ⟨rfl,rfl,rfl,rfl⟩:=hi;refine ⟨st.h,rfl,?_⟩;rw[wk2,sk2,pk];simp only[ak,Option.map_some]
         |true=>
          simp only[] at hi
          cases pi:splan cx ops oi st.env with
          |none=>rw[pi] at hi;cases hi
          |some pli=>
           rw[pi] at hi;simp only[] at hi
           cases ai:aA cx (base+dF ops i) pli rk.2.2 with
           |none=>rw[ai] at hi;cases hi
           |some ri=>
            rw[ai] at hi;simp only[Option.map_some,Option.some.injEq,Prod.mk.injEq] at hi;obtain ⟨rfl,rfl,rfl,rfl⟩:=hi;obtain ⟨h1',q1,q2,q3,q4⟩:=C4 (cx:=cx) ak ai hc (w5 pk) (w5 pi);refine ⟨h1',?_,?_⟩
            . simp only[q1,Option.map_some,q3]
            . rw[wk2,sk2,pk]
              simp only[q2,Option.map_some,q4]
   obtain ⟨h1',q1,q2⟩:=comm;refine ⟨⟨put oi.dst ci (br ki st.env),h1'⟩,by rw[q1];rfl,?_⟩;rw[if_pos dk,q2,env_eq];rfl
end
def pZ (cx:Cx)(ops:Array Oper)(base:Nat)(F:Nat→FP):List Nat→St→St→Prop
 | [],st,fin=>st=fin
 |i::l,st,fin=> ∃st',gz cx ops base i st=some (st',F i)∧pZ cx ops base F l st' fin
def sO (acc:List Nat)(o:Oper):Nat:=o.after.toList.foldl (fun s e=>if Region.binds .any e then s|||2 ^ e.on||| (acc[e.on]?).getD 0 else s) 0
def p5:List Oper→List Nat→List Nat
 | [],acc=>acc
 |o::r,acc=>p5 r (acc++[sO acc o])
def w7 (ops:Array Oper):List Nat:=p5 ops.toList []
def sP (d:List Nat)(i k:Nat):Bool:=((d[i]?).getD 0).testBit k
def d5 (ops:Array Oper):Bool:=
 let d:=w7 ops
 (ops.toList.zipIdx.all fun x=>x.1.after.toList.all fun e=> !Region.binds .any e||decide (e.on< x.2)) &&
 ops.toList.zipIdx.all fun x=>ops.toList.zipIdx.all fun y=> !decide (y.2< x.2) ||sP d x.2 y.2||apart ops y.1 x.1
def fZ (ops:Array Oper)(fps:List FP):Bool:=
 let d:=w7 ops
 fps.zipIdx.all fun x=>x.1.1==0||fps.zipIdx.all fun y=> !decide (y.2< x.2) ||y.1.1==0||sP d x.2 y.2||db y.1 x.1
def jL (cx:Cx)(ops:Array Oper)(base:Nat):List Nat→St→Option (St×List FP)
 | [],st=>some (st,[])
 |i::l,st=>match gz cx ops base i st with
  |none=>none
  |some (st',f) =>(jL cx ops base l st').map fun r=>(r.1,f::r.2)
def ma (cx:Cx)(ops:Array Oper)(st:St):Option St:=
 match jL cx ops st.h.length (List.range ops.size) ⟨st.env,st.h++List.replicate (dF ops ops.size) none⟩ with
 |some (st',fps) =>if fZ ops fps=true then some st' else none
 |none=>none
section
variable {cx:Cx} {G:Gh} {w:World} {st:St} {a:Act} {P:Program} {ops:Array Oper} {base:Nat}
theorem sQ {F:Nat→FP}{i:Nat}{oi:Oper}(hoi:ops[i]? =some oi):∀ (l1:List Nat){l2:List Nat}{st fin:St},
 (∀k∈l1,∃ok,ops[k]? =some ok∧apart ops ok oi=true∧db (F k) (F i) =true)→pZ cx ops base F (l1++i::l2) st fin→
 ∃st',gz cx ops base i st=some (st',F i)∧pZ cx ops base F (l1++l2) st' fin
 | [],l2,st,fin,_,h=>h
 |k::l1,l2,st,fin,hk,h=>by
  simp only[List.cons_append,pZ] at h;obtain ⟨st1,h1,h2⟩:=h;obtain ⟨st2,h3,h4⟩:=sQ hoi l1 (fun k' hk'=>hk k' (by simp[hk'])) h2;obtain ⟨ok,hok,hap,hc⟩:=hk k (by simp);obtain ⟨st1',q1,q2⟩:=A8 hok hoi hap h1 h3 hc;exact ⟨st1',q1,st2,q2,h4⟩
theorem y7 {acc:List Nat}{o:Oper}{k:Nat}(h: (sO acc o).testBit k=true):∃e∈o.after,Region.binds .any e=true∧(k=e.on∨((acc[e.on]?).getD 0).testBit k=true):=by
 unfold sO at h;have key:∀ (l:List Edge)(s:Nat),(l.foldl (fun s e=>if Region.binds .any e then s|||2 ^ e.on||| (acc[e.on]?).getD 0 else s) s).testBit k=true→
  s.testBit k=true∨∃e∈l,Region.binds .any e=true∧(k=e.on∨((acc[e.on]?).getD 0).testBit k=true):=by
  intro l
  induction l with
  |nil=>intro s hs;exact .inl hs
  |cons e l ih=>
   intro s hs;simp only[List.foldl_cons] at hs;rcases ih _ hs with h1| ⟨e',he',h1⟩
   . split at h1
     . rename_i hb
       simp only[Nat.testBit_or,Bool.or_eq_true] at h1;rcases h1 with (h1|h1) |h1
       . exact .inl h1
       . refine .inr ⟨e,by simp,hb,.inl ?_⟩
         rw[Nat.testBit_two_pow] at h1;exact (of_decide_eq_true h1).symm
       . exact .inr ⟨e,by simp,hb,.inr h1⟩
     . exact .inl h1
   . exact .inr ⟨e',by simp[he'],h1⟩
 rcases key _ 0 h with h1| ⟨e,he,h1⟩
 . simp at h1
 . exact ⟨e,by simpa using he,h1⟩
theorem A9 {S:Nat→Prop}(hS:∀ (j:Nat) (oj:Oper),S j→ops[j]? =some oj→∀e∈oj.after,Region.binds .any e=true→S e.on):
 ∀ (i:Nat)(oi:Oper),ops[i]? =some oi→(∀e∈oi.after,Region.binds .any e=true→S e.on)→∀k,sP (w7 ops) i k=true→S k:=by
 have inv:∀ (r:List Oper)(acc:List Nat),ops.toList.drop acc.length=r→(∀ (i:Nat)(oi:Oper),i< acc.length→ops[i]? =some oi→(∀e∈oi.after,Region.binds .any e=true→S e.on)→∀k,((acc[i]?).getD 0).testBit k=true→S k)→
  ∀ (i:Nat)(oi:Oper),ops[i]? =some oi→(∀e∈oi.after,Region.binds .any e=true→S e.on)→∀k,(((p5 r acc)[i]?).getD 0).testBit k=true→S k:=by
  intro r
  induction r with
  |nil=>
   intro acc hr hacc i oi hoi hd k hk;simp only[p5] at hk;have hlen:ops.size≤acc.length:=by simpa using hr
   have:i< ops.size:=(Array.getElem?_eq_some_iff.1 hoi).1;exact hacc i oi (by omega) hoi hd k hk
  |cons o r ih=>
   intro acc hr hacc;simp only[p5];have hget:ops[acc.length]? =some o:=by
    have: (ops.toList.drop acc.length)[0]? =some o:=by rw[hr];rfl
    rw[List.getElem?_drop] at this;simpa using this
   refine ih (acc++[sO acc o]) ?_ ?_
   . simp only[List.length_append,List.length_singleton]
     rw[←List.drop_drop,hr];rfl
   . intro i oi hi hoi hd k hk
     by_cases hil:i< acc.length
     . rw[List.getElem?_append_left hil] at hk
       exact hacc i oi hil hoi hd k hk
     . have hia:i=acc.length:=by simp at hi;omega
       subst hia;rw[hget] at hoi;cases hoi;rw[List.getElem?_append_right (Nat.le_refl _)] at hk;simp only[Nat.sub_self,List.getElem?_cons_zero,Option.getD_some] at hk;obtain ⟨e,he,hb,h1⟩:=y7 hk;have hSe:=hd e he hb;rcases h1 with rfl|h1
       . exact hSe
       . by_cases hel:e.on< acc.length
         . have hlt:e.on< ops.size:=by
            have:acc.length< ops.size:=(Array.getElem?_eq_some_iff.1 hget).1;omega
           have hoe:ops[e.on]? =some ops[e.on]:=Array.getElem?_eq_getElem hlt;exact hacc e.on _ hel hoe (hS e.on _ hSe hoe) k h1
         . rw[List.getElem?_eq_none (by omega)] at h1
           simp at h1
 intro i oi hoi hd k hk;exact inv ops.toList [] rfl (fun i _ hi=>absurd hi (by simp)) i oi hoi hd k hk
theorem QP (hcx:CxOK cx){r:Option Nat}{F:Nat→FP}{fin:St}{Q:Exit→Act→World→Prop}(hup:∀i oi,ops[i]? =some oi→∀e∈oi.after,Region.binds .any e=true→e.on< i)
 (hpair:∀k i ok oi,k< i→ops[k]? =some ok→ops[i]? =some oi→sP (w7 ops) i k=true∨(apart ops ok oi=true∧db (F k) (F i) =true)):
 ∀ (fuel:Nat)(l:List Nat)(listed:Array Bool){G:Gh}{w:World}{st:St}{a:Act},Sim cx G w st a→pZ cx ops base F l st fin→l.Pairwise (· < ·)→listed.size=ops.size→
   (∀i,i< ops.size→(listed[i]? =some false↔i∈l))→(∀i∈l,i< ops.size)→
   (∀ (j:Nat)(oj:Oper),listed[j]? =some true→ops[j]? =some oj→∀e∈oj.after,Region.binds .any e=true→listed[e.on]? =some true)→l.length≤fuel→
   (∀G' w' a',Sim cx G' w' fin a'→Frm G w G' w'→a'.defers=a.defers→Q .normal a' w')→wpAnyIn (wF r) 0 cx.P .any ops Q fuel listed a w:=by
 have ready_iff:∀ (listed:Array Bool)(i:Nat),listed.size=ops.size→(i∈Region.ready .any ops listed↔i< ops.size∧listed[i]? =some false∧∀oi,ops[i]? =some oi→∀e∈oi.after,Region.binds .any e=true→listed[e.on]? =some true):=by
  intro listed i hsz;unfold Region.ready;simp only[List.mem_filter,List.mem_range,Bool.and_eq_true];constructor
  . rintro ⟨hi,h1,h2⟩
    have hl:listed[i]? =some listed[i]:=Array.getElem?_eq_getElem (by omega);refine ⟨hi,?_,fun oi hoi e he hb=>?_⟩
    . rw[hl]
      simp only[Array.getD_eq_getD_getElem?,hl,Option.getD_some] at h1;cases hq:listed[i] <;>simp[hq] at h1 ⊢
    . rw[hoi] at h2
      simp only[Option.map_some,Option.getD_some,Array.all_eq_true_iff_forall_mem] at h2;have:=h2 e he;rw[hb] at this;simp only[Bool.not_true,Bool.false_or,Array.getD_eq_getD_getElem?] at this
      cases hq:listed[e.on]? with
      |none=>rw[hq] at this;cases this
      |some b=>rw[hq] at this;simp at this;rw[this]
  . rintro ⟨hi,h1,h2⟩
    refine ⟨hi,by simp[Array.getD_eq_getD_getElem?,h1],?_⟩;have hoi:ops[i]? =some ops[i]:=Array.getElem?_eq_getElem hi;rw[hoi];simp only[Option.map_some,Option.getD_some,Array.all_eq_true_iff_forall_mem];intro e he
    cases hb:Region.binds .any e with
    |false=>rfl
    |true=>simp[Array.getD_eq_getD_getElem?,h2 _ hoi e he hb]
 intro fuel
 induction fuel with
 |zero=>
  intro l listed G w st a H hrun hs hsz hm hl hcl hfuel hQ;have hl0:l= []:=List.eq_nil_of_length_eq_zero (by omega);subst hl0;simp only[pZ] at hrun;subst hrun;refine ⟨?_,hQ G w a H (Frm.refl G w) rfl⟩
  cases hr:Region.ready .any ops listed with
  |nil=>rfl
  |cons i r=>
   have hi:i∈Region.ready .any ops listed:=by rw[hr];simp
   obtain ⟨h1,h2,_⟩:=(ready_iff listed i hsz).1 hi;exact absurd ((hm i h1).1 h2) (by simp)
 |succ fuel ih=>
  intro l listed G w st a H hrun hs hsz hm hl hcl hfuel hQ;refine ⟨fun h0=>?_,fun i hi=>?_⟩
  . cases l with
    |nil=>
     simp only[pZ] at hrun;subst hrun;exact hQ G w a H (Frm.refl G w) rfl
    |cons k l=>
     exfalso
     have hk:k∈Region.ready .any ops listed:=by
      have hks:k< ops.size:=hl k (by simp);refine (ready_iff listed k hsz).2 ⟨hks,(hm k hks).2 (by simp),fun oi hoi e he hb=>?_⟩;have hlt:=hup k oi hoi e he hb;have hle:e.on< listed.size:=by omega
      have hg:listed[e.on]? =some listed[e.on]:=Array.getElem?_eq_getElem hle
      cases hq:listed[e.on] with
      |true=>rw[hg,hq]
      |false=>
       rw[hq] at hg;have hmem:=(hm e.on (by omega)).1 hg;rcases List.mem_cons.1 hmem with h1|h1
       . omega
       . have:=(List.pairwise_cons.1 hs).1 _ h1
         omega
     rw[h0] at hk;cases hk
  . obtain ⟨hi1,hi2,hi3⟩:=(ready_iff listed i hsz).1 hi
    have hmem:=(hm i hi1).1 hi2;obtain ⟨l1,l2,rfl⟩:=List.append_of_mem hmem;have hoi:ops[i]? =some ops[i]:=Array.getElem?_eq_getElem hi1;have hS:∀k,sP (w7 ops) i k=true→listed[k]? =some true:=A9 (S:=fun k=>listed[k]? =some true) hcl i _ hoi (hi3 _ hoi);obtain ⟨st',q1,q2⟩:=sQ hoi l1 (fun k hk=>by
     have hkl:k∈l1++i::l2:=by simp[hk]
     have hks:=hl k hkl;have hok:ops[k]? =some ops[k]:=Array.getElem?_eq_getElem hks;have hki:k< i:=(List.pairwise_append.1 hs).2.2 k hk i (by simp);rcases hpair k i _ _ hki hok hoi with h1|h1
     . have:=hS k h1
       rw[(hm k hks).2 hkl] at this;cases this
     . exact ⟨_,hok,h1⟩) hrun
    have hstep:step cx ops base i st=some st':=by rw[A3,q1];rfl
    refine up hcx H hstep fun G' w' a' S F' ee=>?_;have hnd:∀j,j∈l1++l2↔j∈l1++i::l2∧j≠i:=fun j=>by
     obtain ⟨p1,p2,p3⟩:=List.pairwise_append.1 hs;constructor
     . intro hj
       rcases List.mem_append.1 hj with hj|hj
       . exact ⟨by simp[hj],fun e=>by have:=p3 j hj i (by simp);omega⟩
       . exact ⟨by simp[hj],fun e=>by have:=(List.pairwise_cons.1 p2).1 j hj;omega⟩
     . rintro ⟨hj,hne⟩
       rcases List.mem_append.1 hj with hj|hj
       . simp[hj]
       . rcases List.mem_cons.1 hj with hj|hj
         . exact absurd hj hne
         . simp[hj]
    have hset:∀j,j< ops.size→(listed.setIfInBounds i true)[j]? =if j=i then some true else listed[j]? :=fun j hj=>by
     by_cases hji:j=i
     . subst hji;simp[hsz,hj]
     . rw[Array.getElem?_setIfInBounds_ne (Ne.symm hji),if_neg hji]
    refine ih (l1++l2) (listed.setIfInBounds i true) S q2 ?_ (by simp[hsz]) ?_ (fun j hj=>hl j ((hnd j).1 hj).1) ?_ ?_ fun G2 w2 a2 S2 F2 ee2=>hQ G2 w2 a2 S2 (F'.trans F2) (ee2.trans ee)
    . refine List.Pairwise.sublist ?_ hs
      exact List.Sublist.append_left (List.sublist_cons_self i l2) l1
    . intro j hj
      rw[hset j hj,hnd];split
      . rename_i e;subst e;simp
      . rename_i e;rw[hm j hj];simp[e]
    . intro j oj hj hoj e he hb
      have hjs:j< ops.size:=(Array.getElem?_eq_some_iff.1 hoj).1;have hej:e.on< ops.size:=by have:=hup j oj hoj e he hb;omega
      rw[hset j hjs] at hj;rw[hset e.on hej];split
      . rfl
      . split at hj
        . rename_i e';subst e'
          rw[hoi] at hoj;cases hoj;exact hi3 _ hoi e he hb
        . exact hcl j oj hj hoj e he hb
    . simp at hfuel ⊢;omega
theorem vl {F:Nat→FP}:∀ (l:List Nat){st fin:St}{fps:List FP},jL cx ops base l st=some (fin,fps)→(∀ (j i:Nat),l[j]? =some i→fps[j]? =some (F i))→pZ cx ops base F l st fin
 | [],st,fin,fps,h,_=>by simp only[jL,Option.some.injEq,Prod.mk.injEq] at h;exact h.1
 |i::l,st,fin,fps,h,hF=>by
  simp only[jL] at h
  cases hs:gz cx ops base i st with
  |none=>rw[hs] at h;cases h
  |some r=>
   obtain ⟨st',f⟩:=r;rw[hs] at h;simp only[] at h
   cases hr:jL cx ops base l st' with
   |none=>rw[hr] at h;cases h
   |some q=>
    rw[hr] at h;simp only[Option.map_some,Option.some.injEq,Prod.mk.injEq] at h;obtain ⟨rfl,rfl⟩:=h;have h0:=hF 0 i (by simp);simp only[List.getElem?_cons_zero,Option.some.injEq] at h0;refine ⟨st',by rw[hs,h0],vl l hr fun j k hk=>?_⟩;have:=hF (j+1) k (by simpa using hk);simpa using this
theorem rl:∀ (l:List Nat){st fin:St}{fps:List FP},jL cx ops base l st=some (fin,fps)→fps.length=l.length
 | [],st,fin,fps,h=>by simp only[jL,Option.some.injEq,Prod.mk.injEq] at h;rw[←h.2];rfl
 |i::l,st,fin,fps,h=>by
  simp only[jL] at h;split at h
  . cases h
  . rename_i st' f hs
    cases hr:jL cx ops base l st' with
    |none=>rw[hr] at h;cases h
    |some q=>
     rw[hr] at h;simp only[Option.map_some,Option.some.injEq,Prod.mk.injEq] at h;rw[←h.2];simp[rl l hr]
theorem ur (hcx:CxOK cx){r:Option Nat}(hm:cx.P.follows .mixedOrders=true)(H:Sim cx G w st a){id:Nat}(hst:d5 ops=true){st':St}(h:ma cx ops st=some st'){Q:Exit→Act→World→Prop}
 (hQ:∀G' w' a',Sim cx G' w' st' a'→Frm G w G' w'→a'.defers=a.defers→Q .normal a' w'): (Code.region id ops true).wpIn (wF r) 0 cx.P Q a w:=by
 unfold ma at h;split at h
 . rename_i st1 fps hr
   split at h
   . rename_i hc
     cases h;refine wpIn_region_any hm ?_;have hlen:fps.length=ops.size:=by rw[rl _ hr];simp
     obtain ⟨H1,F1⟩:=(H.reserve (dF ops ops.size)).drew;unfold d5 at hst;simp only[Bool.and_eq_true,List.all_eq_true] at hst;have hz:∀i oi,ops[i]? =some oi→(oi,i) ∈ops.toList.zipIdx:=fun i oi hoi=>by
      rw[List.mem_zipIdx_iff_getElem?];simpa using hoi
     refine QP (F:=fun i=>(fps[i]?).getD (0,0)) hcx (fun i oi hoi e he hb=>?_) (fun k i ok oi hki hok hoi=>?_) ops.size (List.range ops.size) (Array.replicate ops.size false) H1
      (vl _ hr fun j i hj=>?_) ?_ (by simp) ?_ (fun i hi=>by simpa using hi) ?_ (by simp) fun G2 w2 a2 S2 F2 ee=>hQ G2 w2 a2 S2 (F1.trans F2) ee
     . have:=hst.1 _ (hz i oi hoi) e (by simpa using he)
       rw[hb] at this;simpa using this
     . have h1:=hst.2 _ (hz i oi hoi) _ (hz k ok hok)
       simp only[Bool.or_eq_true,Bool.not_eq_true',decide_eq_false_iff_not] at h1;rcases h1 with (h1|h1) |h1
       . exact absurd hki h1
       . exact .inl h1
       . have hks:k< ops.size:=(Array.getElem?_eq_some_iff.1 hok).1
         have his:i< ops.size:=(Array.getElem?_eq_some_iff.1 hoi).1;have e1:fps[k]? =some fps[k]:=List.getElem?_eq_getElem (by omega);have e2:fps[i]? =some fps[i]:=List.getElem?_eq_getElem (by omega);unfold fZ at hc;simp only[List.all_eq_true,Bool.or_eq_true] at hc;rcases hc (fps[i],i) (List.mem_zipIdx_iff_getElem?.2 e2) with h2|h2
         . refine .inr ⟨h1,?_⟩
           rw[e1,e2];simp only[Option.getD_some,db];simp at h2
           simp[h2]
         . have h3:=h2 (fps[k],k) (List.mem_zipIdx_iff_getElem?.2 e1)
           simp only[Bool.not_eq_true',decide_eq_false_iff_not] at h3;rcases h3 with ((h3|h3) |h3) |h3
           . exact absurd hki h3
           . refine .inr ⟨h1,?_⟩
             rw[e1,e2];simp only[Option.getD_some,db];simp at h3
             simp[h3]
           . exact .inl h3
           . refine .inr ⟨h1,?_⟩
             rw[e1,e2];exact h3
     . have hji:j=i:=by
        rw[List.getElem?_range] at hj
        . simpa using hj
        . have:=(List.getElem?_eq_some_iff.1 hj).1
          simpa using this
       subst hji;have hjs:j< ops.size:=by
        have:=(List.getElem?_eq_some_iff.1 hj).1;simpa using this
       rw[List.getElem?_eq_getElem (by omega)];rfl
     . exact List.pairwise_lt_range
     . intro i hi
       simp[hi]
     . intro j oj hj
       rw[Array.getElem?_replicate] at hj;split at hj<;>cases hj
   . cases h
 . cases h
end
end Go.Sx
