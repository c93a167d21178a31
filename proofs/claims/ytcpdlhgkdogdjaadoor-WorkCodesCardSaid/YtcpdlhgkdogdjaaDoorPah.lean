/-
   And what follows.
-/
import Derived.Test.YtcpdlhgkdogdjaaDoorPag
set_option linter.unusedSimpArgs false
set_option linter.unusedVariables false
namespace Go.Sx
open Go.RowKit
theorem jj {cx:Cx}{apps:List Nat}{dsts:List (Option Nat)}{K:St→Prop}:∀ (l:List Oper)(id:Nat)(st:St)(fs:List FP),f7 cx apps dsts l id st fs (fun _ s=>K s)→jM cx apps dsts l id st K
 | [],_,_,_,h=>h
 |o::l,id,st,fs,h=>by
  simp only[f7,jM] at h ⊢;refine ⟨h.1,?_⟩;have h2:=h.2
  cases hw:gO dsts o.guard st.env with
  |none=>rw[hw] at h2;exact h2
  |some b=>
   rw[hw] at h2
   cases b with
   |false=>exact jj l _ _ _ h2
   |true=>
    simp only[Bc,jp] at h2 ⊢;generalize splanA cx apps o st.env=q at h2 ⊢
    cases q with
    |none=>exact h2
    |some p=>
     simp only[] at h2 ⊢;generalize aA cx id p st.h=r at h2 ⊢
     cases r with
     |none=>exact h2
     |some r=>exact jj l _ _ _ h2
section
variable {cx:Cx} {n:Nat} {Q:Ex→St→Prop} {e:List (Nat×C)} {h:Hp}
theorem Tr.rg (hcx:CxOK cx){id:Nat}{l:List Oper}(apps:List Nat)(dsts:List (Option Nat))(z:Hp)(h1:l.filterMap ct=apps)(h2:l.map (·.dst) =dsts)(h3:ez l=z)
 (H:run cx apps dsts l h.length e (h++z) [] (fun _ s=>Q .normal s)):Tr cx n (.region id l.toArray false) ⟨A e,h⟩ Q:=by
 subst h1 h2 h3;exact QR hcx (jj _ _ _ _ H)
theorem xd (hcx:CxOK cx)(hm:cx.P.follows .mixedOrders=true){id:Nat}{l:List Oper}(apps:List Nat)(dsts:List (Option Nat))(z:Hp)(h1:l.filterMap ct=apps)(h2:l.map (·.dst) =dsts)(h3:ez l=z)
 (hs:d5 l.toArray=true)
 (H:run cx apps dsts l h.length e (h++z) [] (fun fs s=>fZ l.toArray fs.reverse=true∧Q .normal s)):Tr cx n (.region id l.toArray true) ⟨A e,h⟩ Q:=by
 subst h1 h2 h3;exact Mq hcx hm hs H
end
section
variable (cx:Cx) (apps:List Nat) (dsts:List (Option Nat)) (l:List Oper) (id id':Nat) (d:Option Nat) (e:List (Nat×C)) (h:Hp) (fs:List FP) (K:List FP→St→Prop) (ty:TypeId) (pos:String) (aft:Array Edge)
theorem bT (op:Op)(p:Option Plan)(hp:splanA cx apps ⟨d,op,ty,pos,aft,none⟩ (A e) =p)(hm: (if dr ⟨d,op,ty,pos,aft,none⟩ then id+1 else id) =id'):
 run cx apps dsts (⟨d,op,ty,pos,aft,none⟩::l) id e h fs K=AN (dQ cx.N d) (cG cx apps dsts l id id' d e h fs K p):=by
 unfold run AN;rw[f7];simp only[gO];rw[hp,hm,zu];rfl
def Dn (op:Op)(o:Option Bool):Prop:=match o with
 |none=>False
 |some b=>(b=true→run cx apps dsts (⟨d,op,ty,pos,aft,none⟩::l) id e h fs K)∧
  (b=false→AN (dQ cx.N d) (run cx apps dsts l (if dr ⟨d,op,ty,pos,aft,none⟩ then id+1 else id) (dR d (.val undef) e) h ((0,0)::fs) K))
theorem Do (op:Op)(g:Nat×Bool):run cx apps dsts (⟨d,op,ty,pos,aft,some g⟩::l) id e h fs K=Dn cx apps dsts l id d e h fs K ty pos aft op (gO dsts (some g) (A e)):=by
 unfold run Dn;rw[f7];simp only[];have hsp:splanA cx apps ⟨d,op,ty,pos,aft,some g⟩ (A e) =splanA cx apps ⟨d,op,ty,pos,aft,none⟩ (A e):=by
  rw[splanA.eq_def,splanA.eq_def]
  cases op with
  |move x=>cases x<;>rfl
  |_=>rfl
 have hmk:dr ⟨d,op,ty,pos,aft,some g⟩ =dr ⟨d,op,ty,pos,aft,none⟩:=rfl
 cases hw:gO dsts (some g) (A e) with
 |none=>simp
 |some b=>
  cases b with
  |true=>
   simp only[Bool.true_eq_false,false_implies,and_true,true_implies];rw[run,f7,hsp,hmk];simp only[gO]
  |false=>
   simp only[Bool.false_eq_true,false_implies,true_and,true_implies];rw[AN,zu,gC];rfl
def lg (op:Op)(id:Nat):Nat:=match op with
 | .alloc _| .box _ _| .makeSlice _ _ _=>id+1
 |_=>id
theorem ME (op:Op): (if dr ⟨d,op,ty,pos,aft,none⟩ then id+1 else id) =lg op id:=by cases op<;>rfl
theorem Hm (op:Op)(b:Bool):Dn cx apps dsts l id d e h fs K ty pos aft op (some b) =GB b (run cx apps dsts (⟨d,op,ty,pos,aft,none⟩::l) id e h fs K)
 (AN (dQ cx.N d) (run cx apps dsts l (lg op id) (dR d (.val undef) e) h ((0,0)::fs) K)):=by
 rw[←ME (d:=d) (ty:=ty) (pos:=pos) (aft:=aft)];rfl
theorem Dp (x:Operand)(id:Nat):lg (.move x) id=id:=rfl
theorem Dq (c a b:Operand)(id:Nat):lg (.pick c a b) id=id:=rfl
theorem Dr (t:TypeId)(a:Operand)(id:Nat):lg (.load t a) id=id:=rfl
theorem vY (x:Operand)(id:Nat):lg (.nilCheck x) id=id:=rfl
theorem Bi (o:BinOp)(t:TypeId)(x y:Operand)(s:TypeId)(id:Nat):lg (.binOp o t x y s) id=id:=rfl
theorem Ds (o:UnOp)(t:TypeId)(x:Operand)(id:Nat):lg (.unOp o t x) id=id:=rfl
theorem ut (t:TypeId)(x:Operand)(f:Nat)(id:Nat):lg (.fieldAddr t x f) id=id:=rfl
theorem uu (t:TypeId)(x i:Operand)(id:Nat):lg (.indexAddr t x i) id=id:=rfl
theorem Bj (t:TypeId)(x i:Operand)(id:Nat):lg (.index t x i) id=id:=rfl
theorem Dt (c:Call)(id:Nat):lg (.call c) id=id:=rfl
def kW (cx:Cx)(d:Option Nat):Bool:=d.any cx.gr
def vw (b:Bool)(p q:Option Plan):Option Plan:=if b=true then p else q
@[congr] theorem aak {b b':Bool} {p q:Option Plan} (h:b=b'):vw b p q=vw b' p q:=by rw[h]
def nV (P:Program)(t:TypeId)(c:C)(lo hi mx:Option C):Option Plan:=match c,lo,mx with
 | .gv b n s,none,none=>mc P t b n s hi
 |c,_,_=>d6 P t c.asSv lo hi mx
def wd (c a b:C):Option Plan:=match c with
 | .val (.bool true) =>some (vp a)
 | .val (.bool false) =>some (vp b)
 |_=>none
def xe (g:Bool)(t:TypeId)(T:Option TD):Option Plan:=match T with
 |some d=>if d.zero.all (·.oneCell') then some (.new (d.zero.map .val) fun id=>if g=true then .bt id t d.zero.length else .bp id 0) else none
 |none=>none
def Du (t:Option TD):Option Plan:=match t with
 |some d=>if d.zero.all (·.oneCell') then some (.new (d.zero.map .val) fun id=> .bp id 0) else none
 |none=>none
def Bl (x:C):Option Plan:=x.cells?.map fun cs=> .new cs fun id=> .bp id 0
def md (P:Program)(t:Option TD)(parts:List (Nat×C)):Option Plan:=match t with
 |some d=>if d.zero.all (·.oneCell') =false then none else ((kT P d.u).bind fun pl=>f8 pl (d.zero.map .val) parts).map fun cs=>vp (.agg cs)
 |none=>none
def kL (P:Program)(g:Bool)(t:Option TD)(n:Nat)(parts:List (Nat×C)):Option Plan:=match t with
 |some d=>(match d.u with
  | .slice e=>(match td P e with
    |some de=>if n*de.size≤65536∧n≤65536∧de.zero.length=de.size∧de.zero.all (·.oneCell') =true then
     (f8 (fun i=>some (i*de.size,de.size)) (bG de.zero n) parts).map fun cs=>if g=true then .ap none (de.size,e) n fun _=>some cs else vp (.sl .full n cs) else none
    |none=>none)
  |_=>none)
 |none=>none
def Ho (x:C):Option Plan:=match x with
 | .bp b k=>some (vp (.bp b k))
 | .bt b t n=>some (vp (.bt b t n))
 | .kp xs=>some (vp (.kp xs))
 | .fn f cs=>some (vp (.fn f cs))
 |_=>none
def rS (x:C)(i:Nat):Option Plan:=match x with
 | .tup xs=>(xs[i]?).map fun c=>vp c.noR
 |_=>none
def we (cx:Cx)(g:Nat)(az:List C)(o:Option C):Option Plan:=match o with
 |some c=>some (vp c)
 |none=>match f9 az with
  |some b=>match cx.hp g az [] with
   |some (_,[]) =>some (.call g az)
   |some (_,_::_) =>some (.cw b (w9 cx g az b))
   |none=>some (.rd b (rdPu cx g az b))
  |none=>if cx.gr (1000000+g) =true then some (.rd 0 (rdE cx g az 0)) else some (.call g az)
def wh (cx:Cx)(f:C)(args:List C):Option Plan:=match f with
 | .fn g caps=>we cx g (kV args++caps) (cx.pu g (kV args++caps))
 |_=>none
def KG (b:Bool)(c:C)(p:Nat):Option Plan:=match b with
 |true=>some (.val c (some p))
 |false=>some (vp c.noR)
def Bm (P:Program)(t:Option TD)(x:C):Option Plan:=match t with
 |some d=>(match d.u with
  | .array n e=>(match td P e,x with
    |some _,.sv b off m=>if n≤m∧n≠0 then some (vp (.bp b off)) else none
    |some _,.gv b m _=>if n≤m∧n≠0 then some (vp (.bp b 0)) else none
    |some de,c=>(match c.sl? with
     |some (m,xs) =>if n≤m∧xs≠[]∧xs.length=m*de.size then some (vp (.kp xs)) else none
     |none=>none)
    |_,_=>none)
  |_=>none)
 |none=>none
def adT (P:Program)(t:Option TD)(l c:C):Option Plan:=match t,l.int?,c.int? with
 |some d,some (_,n),some (_,m) =>(match d.u with
  | .slice e=>(match td P e with
    |some de=>if 0≤n∧n=m∧de.bytes*n≤140737488355328∧n≤9223372036854775807∧de.zero.length=de.size∧de.zero.all (·.oneCell') =true then some (.new (bG de.zero n.toNat) fun id=> .sv id 0 n.toNat) else none
    |none=>none)
  |_=>none)
 |_,_,_=>none
def uv (P:Program)(g:Bool)(t:Option TD)(l c:C):Option Plan:=match t,l.int?,c.int? with
 |some d,some (_,n),some (_,m) =>(match d.u with
  | .slice e=>(match td P e with
    |some de=>if 0≤n∧n=m∧de.bytes*n≤140737488355328∧n≤9223372036854775807∧de.zero.length=de.size∧de.zero.all (·.oneCell') =true then some (.new (bG de.zero n.toNat) fun id=>if g=true then .gv id n.toNat (de.size,e) else .sv id 0 n.toNat) else none
    |none=>none)
  |_=>none)
 |_,_,_=>none
theorem MF (p:Nat):run cx apps dsts (⟨d,.move (.tmp p),ty,pos,aft,none⟩::l) id e h fs K=AN (dQ cx.N d) (cG cx apps dsts l id id d e h fs K (KG (nT apps d||nT apps (d.map (· +1000000))) (A e p) p)):=
 bT cx apps dsts l id id d e h fs K ty pos aft (.move (.tmp p)) (KG (nT apps d||nT apps (d.map (· +1000000))) (A e p) p) (by
  rw[splanA.eq_def];simp only[]
  cases d with
  |none=>rfl
  |some t=>
   simp only[nT,KG,vp,Plan.pure,Option.map_some,List.contains_eq_mem];by_cases hb:t∈apps<;>by_cases hc:t+1000000∈apps<;>simp[hb,hc]) rfl
theorem MG (v:Value):run cx apps dsts (⟨d,.move (.const v),ty,pos,aft,none⟩::l) id e h fs K=AN (dQ cx.N d) (cG cx apps dsts l id id d e h fs K (some (vp (.val v)))):=
 bT cx apps dsts l id id d e h fs K ty pos aft (.move (.const v)) (some (vp (.val v))) (by first|rfl| (cases d<;>rfl)) rfl
theorem MH (x:Operand):run cx apps dsts (⟨d,.assign x,ty,pos,aft,none⟩::l) id e h fs K=AN (dQ cx.N d) (cG cx apps dsts l id id d e h fs K (some (.val (vo cx e x) (dO x)))):=
 bT cx apps dsts l id id d e h fs K ty pos aft (.assign x) (some (.val (vo cx e x) (dO x))) (by first|rfl| (cases d<;>rfl)) rfl
theorem Hq (c a b:Operand):run cx apps dsts (⟨d,.pick c a b,ty,pos,aft,none⟩::l) id e h fs K=AN (dQ cx.N d) (cG cx apps dsts l id id d e h fs K (wd (on cx e c) (on cx e a) (on cx e b))):=
 bT cx apps dsts l id id d e h fs K ty pos aft (.pick c a b) (wd (on cx e c) (on cx e a) (on cx e b)) (by first|rfl| (cases d<;>rfl)) rfl
theorem Dv (t:TypeId):run cx apps dsts (⟨d,.alloc t,ty,pos,aft,none⟩::l) id e h fs K=AN (dQ cx.N d) (cG cx apps dsts l id (id+1) d e h fs K (xe (kW cx d) t (td cx.P t))):=
 bT cx apps dsts l id (id+1) d e h fs K ty pos aft (.alloc t) (xe (kW cx d) t (td cx.P t)) (by first|rfl| (cases d<;>rfl)) rfl
theorem MI (t:TypeId)(x:Operand):run cx apps dsts (⟨d,.box t x,ty,pos,aft,none⟩::l) id e h fs K=AN (dQ cx.N d) (cG cx apps dsts l id (id+1) d e h fs K (Bl (on cx e x))):=
 bT cx apps dsts l id (id+1) d e h fs K ty pos aft (.box t x) (Bl (on cx e x)) (by first|rfl| (cases d<;>rfl)) rfl
theorem run_build (t:TypeId)(ps:List (Nat×Operand)):run cx apps dsts (⟨d,.build t ps.toArray,ty,pos,aft,none⟩::l) id e h fs K=AN (dQ cx.N d) (cG cx apps dsts l id id d e h fs K (md cx.P (td cx.P t) (vt cx e ps))):=
 bT cx apps dsts l id id d e h fs K ty pos aft (.build t ps.toArray) (md cx.P (td cx.P t) (vt cx e ps)) (by rw[←Da];rfl) rfl
theorem Bn (t:TypeId)(m:Nat)(ps:List (Nat×Operand)):run cx apps dsts (⟨d,.buildSlice t m ps.toArray,ty,pos,aft,none⟩::l) id e h fs K=AN (dQ cx.N d) (cG cx apps dsts l id id d e h fs K (kL cx.P (kW cx d) (td cx.P t) m (vt cx e ps))):=
 bT cx apps dsts l id id d e h fs K ty pos aft (.buildSlice t m ps.toArray) (kL cx.P (kW cx d) (td cx.P t) m (vt cx e ps)) (by rw[←Da];rfl) rfl
theorem Hr (t:TypeId)(x:Operand):run cx apps dsts (⟨d,.load t x,ty,pos,aft,none⟩::l) id e h fs K=AN (dQ cx.N d) (cG cx apps dsts l id id d e h fs K (loadPlan cx.P (nT apps d) t (on cx e x))):=
 bT cx apps dsts l id id d e h fs K ty pos aft (.load t x) (loadPlan cx.P (nT apps d) t (on cx e x)) (by first|rfl| (cases d<;>rfl)) rfl
theorem run_store (t:TypeId)(x y:Operand):run cx apps dsts (⟨d,.store t x y,ty,pos,aft,none⟩::l) id e h fs K=AN (dQ cx.N d) (cG cx apps dsts l id id d e h fs K (cq cx.P t (on cx e x) (vo cx e y) (dO y))):=
 bT cx apps dsts l id id d e h fs K ty pos aft (.store t x y) (cq cx.P t (on cx e x) (vo cx e y) (dO y)) (by first|rfl| (cases d<;>rfl)) rfl
theorem Ht (x:Operand):run cx apps dsts (⟨d,.nilCheck x,ty,pos,aft,none⟩::l) id e h fs K=AN (dQ cx.N d) (cG cx apps dsts l id id d e h fs K (Ho (on cx e x))):=
 bT cx apps dsts l id id d e h fs K ty pos aft (.nilCheck x) (Ho (on cx e x)) (by first|rfl| (cases d<;>rfl)) rfl
theorem MJ (o:BinOp)(t t2:TypeId)(x y:Operand):run cx apps dsts (⟨d,.binOp o t x y t2,ty,pos,aft,none⟩::l) id e h fs K=AN (dQ cx.N d) (cG cx apps dsts l id id d e h fs K (aw cx.P o t (on cx e x) (on cx e y))):=
 bT cx apps dsts l id id d e h fs K ty pos aft (.binOp o t x y t2) (aw cx.P o t (on cx e x) (on cx e y)) (by first|rfl| (cases d<;>rfl)) rfl
theorem Q3 (o:UnOp)(t:TypeId)(x:Operand):run cx apps dsts (⟨d,.unOp o t x,ty,pos,aft,none⟩::l) id e h fs K=AN (dQ cx.N d) (cG cx apps dsts l id id d e h fs K (gM o (on cx e x))):=
 bT cx apps dsts l id id d e h fs K ty pos aft (.unOp o t x) (gM o (on cx e x)) (by first|rfl| (cases d<;>rfl)) rfl
theorem Hu (s t:TypeId)(x:Operand):run cx apps dsts (⟨d,.convert s t x,ty,pos,aft,none⟩::l) id e h fs K=AN (dQ cx.N d) (cG cx apps dsts l id id d e h fs K (vw (kW cx d) (lB cx.P s t (on cx e x)) (fO cx.P s t (on cx e x).asSv))):=
 bT cx apps dsts l id id d e h fs K ty pos aft (.convert s t x) (vw (kW cx d) (lB cx.P s t (on cx e x)) (fO cx.P s t (on cx e x).asSv)) (by first|rfl| (cases d<;>rfl)) rfl
theorem MK (t:TypeId)(x:Operand):run cx apps dsts (⟨d,.sliceToArrayPointer t x,ty,pos,aft,none⟩::l) id e h fs K=AN (dQ cx.N d) (cG cx apps dsts l id id d e h fs K (Bm cx.P (td cx.P t) (on cx e x))):=
 bT cx apps dsts l id id d e h fs K ty pos aft (.sliceToArrayPointer t x) (Bm cx.P (td cx.P t) (on cx e x)) (by first|rfl| (cases d<;>rfl)) rfl
theorem ML (f:Nat)(cs:List Operand):run cx apps dsts (⟨d,.makeFunc (.func f) #[] cs.toArray,ty,pos,aft,none⟩::l) id e h fs K=AN (dQ cx.N d) (cG cx apps dsts l id id d e h fs K (some (vp (.fn f (kV (vr cx e cs)))))):=
 bT cx apps dsts l id id d e h fs K ty pos aft (.makeFunc (.func f) #[] cs.toArray) (some (vp (.fn f (kV (vr cx e cs))))) (by rw[←C9,←vu,List.map_map];rfl) rfl
theorem MM (t:TypeId)(x y:Operand):run cx apps dsts (⟨d,.makeSlice t x y,ty,pos,aft,none⟩::l) id e h fs K=AN (dQ cx.N d) (cG cx apps dsts l id (id+1) d e h fs K (uv cx.P (kW cx d) (td cx.P t) (on cx e x) (on cx e y))):=
 bT cx apps dsts l id (id+1) d e h fs K ty pos aft (.makeSlice t x y) (uv cx.P (kW cx d) (td cx.P t) (on cx e x) (on cx e y)) (by first|rfl| (cases d<;>rfl)) rfl
theorem Dw (t:TypeId)(x:Operand)(lo hi mx:Option Operand):run cx apps dsts (⟨d,.slice t x lo hi mx,ty,pos,aft,none⟩::l) id e h fs K=AN (dQ cx.N d) (cG cx apps dsts l id id d e h fs K (nV cx.P t (on cx e x) (lo.map (on cx e)) (hi.map (on cx e)) (mx.map (on cx e)))):=
 bT cx apps dsts l id id d e h fs K ty pos aft (.slice t x lo hi mx) (nV cx.P t (on cx e x) (lo.map (on cx e)) (hi.map (on cx e)) (mx.map (on cx e))) (by rw[splanA.eq_def];simp only[];rw[splan.eq_def];simp only[];unfold nV;change (match on cx e x,lo,mx with| .gv b n s,none,none=>mc cx.P t b n s (hi.map (on cx e)) |c,_,_=>d6 cx.P t c.asSv (lo.map (on cx e)) (hi.map (on cx e)) (mx.map (on cx e))) =_;cases on cx e x<;>cases lo<;>cases mx<;>rfl) rfl
theorem Q4 (t:TypeId)(x:Operand)(f:Nat):run cx apps dsts (⟨d,.fieldAddr t x f,ty,pos,aft,none⟩::l) id e h fs K=AN (dQ cx.N d) (cG cx apps dsts l id id d e h fs K (an cx.P t (on cx e x) f)):=
 bT cx apps dsts l id id d e h fs K ty pos aft (.fieldAddr t x f) (an cx.P t (on cx e x) f) (by first|rfl| (cases d<;>rfl)) rfl
theorem MN (t:TypeId)(x i:Operand):run cx apps dsts (⟨d,.indexAddr t x i,ty,pos,aft,none⟩::l) id e h fs K=AN (dQ cx.N d) (cG cx apps dsts l id id d e h fs K (dD cx.P t (on cx e x).asSv (on cx e i))):=
 bT cx apps dsts l id id d e h fs K ty pos aft (.indexAddr t x i) (dD cx.P t (on cx e x).asSv (on cx e i)) (by first|rfl| (cases d<;>rfl)) rfl
theorem Q5 (t:TypeId)(x i:Operand):run cx apps dsts (⟨d,.index t x i,ty,pos,aft,none⟩::l) id e h fs K=AN (dQ cx.N d) (cG cx apps dsts l id id d e h fs K (gx cx.P t (on cx e x) (on cx e i))):=
 bT cx apps dsts l id id d e h fs K ty pos aft (.index t x i) (gx cx.P t (on cx e x) (on cx e i)) (by first|rfl| (cases d<;>rfl)) rfl
theorem Hv (x:Operand)(i:Nat):run cx apps dsts (⟨d,.extract x i,ty,pos,aft,none⟩::l) id e h fs K=AN (dQ cx.N d) (cG cx apps dsts l id id d e h fs K (rS (on cx e x) i)):=
 bT cx apps dsts l id id d e h fs K ty pos aft (.extract x i) (rS (on cx e x) i) (by first|rfl| (cases d<;>rfl)) rfl
theorem MO (t:TypeId)(x:Operand):run cx apps dsts (⟨d,.call ⟨.builtin .len,#[x],#[t]⟩,ty,pos,aft,none⟩::l) id e h fs K=AN (dQ cx.N d) (cG cx apps dsts l id id d e h fs K (jC cx.P t (on cx e x).asSv)):=
 bT cx apps dsts l id id d e h fs K ty pos aft (.call ⟨.builtin .len,#[x],#[t]⟩) (jC cx.P t (on cx e x).asSv) (by first|rfl| (cases d<;>rfl)) rfl
theorem MP (t t2:TypeId)(x y:Operand):run cx apps dsts (⟨d,.call ⟨.builtin .append,#[x,y],#[t,t2]⟩,ty,pos,aft,none⟩::l) id e h fs K=AN (dQ cx.N d) (cG cx apps dsts l id id d e h fs K (vw (kW cx d) (ig cx.P t t2 (on cx e x) (on cx e y).asSv) (eh cx.P t t2 (vo cx e x) (on cx e y).asSv (dO x)))):=
 bT cx apps dsts l id id d e h fs K ty pos aft (.call ⟨.builtin .append,#[x,y],#[t,t2]⟩) (vw (kW cx d) (ig cx.P t t2 (on cx e x) (on cx e y).asSv) (eh cx.P t t2 (vo cx e x) (on cx e y).asSv (dO x))) (by first|rfl| (cases d<;>rfl)) rfl
theorem Hw (t t2:TypeId)(x y:Operand):run cx apps dsts (⟨d,.call ⟨.builtin .copy,#[x,y],#[t,t2]⟩,ty,pos,aft,none⟩::l) id e h fs K=AN (dQ cx.N d) (cG cx apps dsts l id id d e h fs K (ii cx.P t (on cx e x).asSv (on cx e y).asSv)):=
 bT cx apps dsts l id id d e h fs K ty pos aft (.call ⟨.builtin .copy,#[x,y],#[t,t2]⟩) (ii cx.P t (on cx e x).asSv (on cx e y).asSv) (by first|rfl| (cases d<;>rfl)) rfl
theorem MQ (ts:Array TypeId)(x y:Operand):run cx apps dsts (⟨d,.call ⟨.builtin .min,#[x,y],ts⟩,ty,pos,aft,none⟩::l) id e h fs K=AN (dQ cx.N d) (cG cx apps dsts l id id d e h fs K (fy false (on cx e x) (on cx e y))):=
 bT cx apps dsts l id id d e h fs K ty pos aft (.call ⟨.builtin .min,#[x,y],ts⟩) (fy false (on cx e x) (on cx e y)) (by first|rfl| (cases d<;>rfl)) rfl
theorem MR (ts:Array TypeId)(x y:Operand):run cx apps dsts (⟨d,.call ⟨.builtin .max,#[x,y],ts⟩,ty,pos,aft,none⟩::l) id e h fs K=AN (dQ cx.N d) (cG cx apps dsts l id id d e h fs K (fy true (on cx e x) (on cx e y))):=
 bT cx apps dsts l id id d e h fs K ty pos aft (.call ⟨.builtin .max,#[x,y],ts⟩) (fy true (on cx e x) (on cx e y)) (by first|rfl| (cases d<;>rfl)) rfl
theorem Hx (ts:Array TypeId)(f:Operand)(xs:List Operand):run cx apps dsts (⟨d,.call ⟨.value f,xs.toArray,ts⟩,ty,pos,aft,none⟩::l) id e h fs K=AN (dQ cx.N d) (cG cx apps dsts l id id d e h fs K (wh cx (on cx e f) (vr cx e xs))):=
 bT cx apps dsts l id id d e h fs K ty pos aft (.call ⟨.value f,xs.toArray,ts⟩) (wh cx (on cx e f) (vr cx e xs)) (by rw[splanA.eq_def];simp only[];rw[splan.eq_def];simp only[];rw[C9];show kf cx (on cx e f) _=_;unfold kf wh;cases on cx e f<;>first|rfl| (simp only[vu];rfl)) rfl
end
def bY (x:BitVec 32):Value:= .int .u32 x.toNat
def w8 (x:UInt8):Value:= .int .u8 x.toNat
def nI (n:Nat):Value:= .int .i64 n
def nU (n:Nat):Value:= .int .u64 n
def str (l:List UInt8):Value:= .string ⟨l.toArray⟩
theorem Q6 (l:List UInt8):Value.string ⟨l.toArray⟩ =str l:=rfl
theorem nW {l l':List UInt8}:str l=str l'↔l=l':=by
 constructor
 . intro h
   simp only[str,Value.string.injEq,ByteArray.mk.injEq] at h;simpa using congrArg Array.toList h
 . rintro rfl;rfl
theorem Dx {a b:UInt8}:w8 a=w8 b↔a=b:=by
 simp only[w8,Value.int.injEq,true_and];constructor
 . intro h;exact UInt8.toNat_inj.1 (by omega)
 . rintro rfl;rfl
theorem zy {a b:BitVec 32}:bY a=bY b↔a=b:=by
 simp only[bY,Value.int.injEq,true_and];constructor
 . intro h;exact BitVec.eq_of_toNat_eq (by omega)
 . rintro rfl;rfl
theorem me {a b:Nat}:nI a=nI b↔a=b:=by simp only[nI,Value.int.injEq,true_and];omega
theorem Dy {a b:Nat}:nU a=nU b↔a=b:=by simp only[nU,Value.int.injEq,true_and];omega
def cl {α:Type}(f:α→List C)(l:List α):List C:=l.flatMap f
def sl {α:Type}(f:α→List C)(r:Rt)(l:List α):C:= .sl r l.length (cl f l)
class Cel {α:Type} (f:α→List C) (s:outParam Nat):Prop where
 len:∀a,(f a).length=s
 clean:∀a,(f a).map C.noR=f a
 pos:0< s
 live:∀a r,aR (some (f a++r)) =some (f a++r)
class Sca {α:Type} (f:α→List C) (g:outParam (α→C)):Prop where
 one:∀a,f a= [g a]
 clean:∀a,(g a).noR=g a
 cells:∀a,(g a).cells?=some [g a]
 live:∀a r,aR (some (g a::r)) =some (g a::r)
def bC (b:UInt8):List C:=[.val (w8 b)]
def wC (b:BitVec 32):List C:=[.val (bY b)]
def sC (b:List UInt8):List C:=[.val (str b)]
def iC (b:Int):List C:=[.val (.int .i64 b)]
def nC (b:Nat):List C:=[.val (nI b)]
def oC (b:Bool):List C:=[.val (.bool b)]
instance:Sca bC (fun b=> .val (w8 b)):=⟨fun _=>rfl,fun _=>rfl,fun _=>rfl,fun _ _=>rfl⟩
instance:Sca wC (fun b=> .val (bY b)):=⟨fun _=>rfl,fun _=>rfl,fun _=>rfl,fun _ _=>rfl⟩
instance:Sca sC (fun b=> .val (str b)):=⟨fun _=>rfl,fun _=>rfl,fun _=>rfl,fun _ _=>rfl⟩
instance:Sca iC (fun b=> .val (.int .i64 b)):=⟨fun _=>rfl,fun _=>rfl,fun _=>rfl,fun _ _=>rfl⟩
instance:Sca nC (fun b=> .val (nI b)):=⟨fun _=>rfl,fun _=>rfl,fun _=>rfl,fun _ _=>rfl⟩
instance:Sca oC (fun b=> .val (.bool b)):=⟨fun _=>rfl,fun _=>rfl,fun _=>rfl,fun _ _=>rfl⟩
instance {α:Type} {f:α→List C} {g:α→C} [h:Sca f g]:Cel f 1:=⟨fun a=>by rw[h.one];rfl,fun a=>by rw[h.one];simp[h.clean],by decide,fun a r=>by rw[h.one];exact h.live a r⟩
theorem rT (l:List UInt8):l.map iO=cl bC l:=by
 unfold cl;induction l with
 |nil=>rfl
 |cons a l ih=>simp only[List.map_cons,ih,List.flatMap_cons];rfl
section
variable {α:Type} {f:α→List C} {s:Nat} [hf:Cel f s]
omit hf in
theorem Dz:cl f [] = []:=rfl
omit hf in
theorem cg (a:α)(l:List α):cl f (a::l) =f a++cl f l:=rfl
omit hf in
theorem jO (l l':List α):cl f (l++l') =cl f l++cl f l':=by simp[cl]
theorem aD:∀l:List α,(cl f l).length=l.length*s
 | [] =>by simp[cl]
 |a::l=>by rw[cg,List.length_append,hf.len,aD l,List.length_cons,Nat.add_mul,Nat.one_mul,Nat.add_comm]
include hf in
theorem dL:∀l:List α,(cl f l).map C.noR=cl f l
 | [] =>rfl
 |a::l=>by rw[cg,List.map_append,hf.clean,dL l]
theorem iP:∀ (l:List α)(k:Nat),(cl f l).drop (k*s) =cl f (l.drop k)
 |l,0=>by simp
 | [],k+1=>by simp[cl]
 |a::l,k+1=>by
  have e: (k+1)*s=s+k*s:=by rw[Nat.add_mul,Nat.one_mul,Nat.add_comm]
  have h: ((f a)++cl f l).drop s=cl f l:=by
   have:=List.drop_left (l₁:=f a) (l₂:=cl f l)
   rwa [hf.len] at this
  rw[cg,e,←List.drop_drop,h,List.drop_succ_cons];exact iP l k
theorem kg:∀ (l:List α)(k:Nat),(cl f l).take (k*s) =cl f (l.take k)
 |l,0=>by simp[cl]
 | [],k+1=>by simp[cl]
 |a::l,k+1=>by
  have e: (k+1)*s=s+k*s:=by rw[Nat.add_mul,Nat.one_mul,Nat.add_comm]
  rw[cg,e,List.take_append,hf.len,List.take_of_length_le (by rw[hf.len];omega),List.take_succ_cons,cg,Nat.add_sub_cancel_left,kg l k]
theorem mf (l:List α)(k:Nat)(a:α)(h:k< l.length):splice (cl f l) (k*s) (f a) =cl f (l.set k a):=by
 unfold splice;rw[kg,hf.len,←Nat.succ_mul,iP,List.set_eq_take_append_cons_drop,if_pos h,jO,cg,List.append_assoc]
theorem DA (l l':List α)(k:Nat):splice (cl f l) (k*s) (cl f l') =cl f (l.take k++l'++l.drop (k+l'.length)):=by
 unfold splice;rw[kg,aD,←Nat.add_mul,iP,jO,jO]
theorem KH (l:List α)(k:Nat)(a:α)(h:l[k]? =some a): ((cl f l).drop (k*s)).take s=f a:=by
 rw[iP];obtain ⟨hk,rfl⟩:=List.getElem?_eq_some_iff.1 h;rw[List.drop_eq_getElem_cons hk,cg,List.take_append,hf.len,Nat.sub_self,List.take_zero,List.append_nil,List.take_of_length_le (by rw[hf.len];exact Nat.le_refl _)]
end
section
variable {α:Type} [Inhabited α] {f:α→List C} {g:α→C} [hf:Sca f g]
theorem DB (l:List α)(k:Nat)(h:k< l.length): (cl f l)[k]? =some (g (l.getD k default)):=by
 have hq:l[k]? =some (l.getD k default):=by simp[List.getD,List.getElem?_eq_getElem h]
 have:=KH (f:=f) l k _ hq;rw[Nat.mul_one,hf.one] at this;have h2:=congrArg (fun z=>z[0]?) this;simpa[List.getElem?_take,List.getElem?_drop] using h2
end
theorem xf (x:Option (List C))(h:Hp):Hp.at (x::h) 0=aR x:=rfl
theorem DC:aR (some cM) =none:=rfl
theorem Hy (v:Value)(r:List C):aR (some (.val v::r)) =some (.val v::r):=rfl
theorem MS (q:Rt)(n:Nat)(xs r:List C):aR (some (.sl q n xs::r)) =some (.sl q n xs::r):=rfl
theorem MT (b o:Nat)(n:Nat×Nat)(r:List C):aR (some (.gv b o n::r)) =some (.gv b o n::r):=rfl
theorem Hz {α:Type}(f:α→List C)(q:Rt)(l:List α)(r:List C):aR (some (sl f q l::r)) =some (sl f q l::r):=rfl
theorem iQ {α:Type}(f:α→List C){s:Nat}[hf:Cel f s](l:List α):aR (some (cl f l)) =some (cl f l):=by
 cases l with
 |nil=>rfl
 |cons a l=>exact hf.live a _
theorem Q7 {α:Type}(f:α→List C){s:Nat}[hf:Cel f s](a:α):aR (some (f a)) =some (f a):=by
 have:=hf.live a [];simpa using this
theorem rU {α:Type}(f:α→List C){s:Nat}[hf:Cel f s](l:List α)(r:List C)(h:aR (some r) =some r):aR (some (cl f l++r)) =some (cl f l++r):=by
 cases l with
 |nil=>exact h
 |cons a l=>rw[cg,List.append_assoc];exact hf.live a _
theorem rV (x:Option (List C))(h:Hp)(n:Nat):Hp.at (x::h) (n+1) =Hp.at h n:=by simp[Hp.at]
def cb (cells:List C)(o:Nat):Option C:=(cells[o]?).map C.noR
def eA (cells:List C)(o n:Nat):Option C:=if o+n≤cells.length then some (.agg (((cells.drop o).take n).map C.noR)) else none
def cj (cells:List C)(o:Nat)(cs:List C):Option (List C×C):=if o+cs.length≤cells.length then some (splice cells o cs,.val undef) else none
def pB (cells:List C)(o:Nat)(c:C):Option (List C×C):=if o< cells.length then some (cells.set o c,.val undef) else none
theorem vx (c:C)(l:List C):cb (c::l) 0=some c.noR:=rfl
theorem DD (c:C)(l:List C)(n:Nat):cb (c::l) (n+1) =cb l n:=by simp[cb]
theorem HA (l:List C)(k n:Nat):cb (l.drop k) n=cb l (k+n):=by simp[cb,List.getElem?_drop]
theorem sY {α:Type}[Inhabited α]{f:α→List C}{g:α→C}[hf:Sca f g](l:List α)(k:Nat)(h:k< l.length):cb (cl f l) k=some (g (l.getD k default)):=by
 simp only[cb,DB (f:=f) l k h,Option.map_some,hf.clean]
theorem MU {α:Type}[Inhabited α]{f:α→List C}{g:α→C}[hf:Sca f g](l:List α)(r:List C)(k:Nat)(h:k< l.length):cb (cl f l++r) k=some (g (l.getD k default)):=by
 rw[←sY (f:=f) l k h];simp only[cb];rw[List.getElem?_append_left (by rw[aD (f:=f)];omega)]
theorem zz {α:Type}{f:α→List C}{s:Nat}[hf:Cel f s](l:List α)(r:List C)(k:Nat)(h:l.length*s≤k):cb (cl f l++r) k=cb r (k - l.length*s):=by
 simp only[cb];rw[List.getElem?_append_right (by rw[aD (f:=f)];exact h),aD (f:=f)]
theorem MV {α:Type}{f:α→List C}{s:Nat}[hf:Cel f s](l:List α)(r:List C)(n:Nat)(h:l.length*s=n):eA (cl f l++r) 0 n=some (.agg (cl f l)):=by
 subst h;simp only[eA,Nat.zero_add,List.length_append,aD (f:=f),Nat.le_add_right,if_true,List.drop_zero];rw[←aD (f:=f) l,List.take_left,dL]
theorem DE {α:Type}{f:α→List C}{g:α→C}[hf:Sca f g](l:List α)(k:Nat)(a:α)(h:k< l.length):cj (cl f l) k [g a] =some (cl f (l.set k a),.val undef):=by
 have:=mf (f:=f) l k a h;rw[Nat.mul_one,hf.one] at this;simp only[cj];rw[if_pos (by rw[aD (f:=f)];simp;omega),this]
theorem rm (x r cs:List C)(o:Nat)(h:o+cs.length≤x.length):splice (x++r) o cs=splice x o cs++r:=by
 unfold splice;rw[List.take_append_of_le_length (by omega),List.drop_append_of_le_length h];simp
theorem rn (x r cs:List C)(o:Nat)(h:x.length≤o):splice (x++r) o cs=x++splice r (o - x.length) cs:=by
 unfold splice;rw[List.take_append,List.take_of_length_le h,List.drop_append,List.drop_of_length_le (by omega)];simp
 congr 1;omega
theorem zB {α:Type}{f:α→List C}{s:Nat}[hf:Cel f s](l:List α)(r cs:List C)(o:Nat)(h:l.length*s≤o):cj (cl f l++r) o cs= (cj r (o - l.length*s) cs).map fun q=>(cl f l++q.1,q.2):=by
 have hl:=aD (f:=f) l;simp only[cj,List.length_append,hl];rw[rn _ _ _ _ (by rw[hl];exact h),hl];by_cases hh:o+cs.length≤l.length*s+r.length
 . rw[if_pos hh,if_pos (by omega)];rfl
 . rw[if_neg hh,if_neg (by omega)];rfl
theorem zC {α:Type}{f:α→List C}{s:Nat}[hf:Cel f s](l l':List α)(h:l'.length=l.length):cj (cl f l) 0 (cl f l') =some (cl f l',.val undef):=by
 simp only[cj,aD (f:=f),h,Nat.zero_add,Nat.le_refl,if_true,splice,List.take_zero,List.nil_append];rw[List.drop_of_length_le (by rw[aD (f:=f)];exact Nat.le_refl _),List.append_nil]
theorem HB {α:Type}{f:α→List C}{s:Nat}[hf:Cel f s](l l':List α)(r:List C)(h:l'.length=l.length):cj (cl f l++r) 0 (cl f l') =some (cl f l'++r,.val undef):=by
 have hl:=aD (f:=f) l;have hl':=aD (f:=f) l';have:=zC (f:=f) l l' h;simp only[cj,List.length_append,hl,hl',h,Nat.zero_add,Nat.le_refl,Nat.le_add_right,if_true] at this ⊢;rw[rm _ _ _ _ (by rw[hl,hl',h,Nat.zero_add];exact Nat.le_refl _)];simp only[Option.some.injEq,Prod.mk.injEq,and_true] at this;rw[this]
theorem MW (a c:C):pB [a] 0 c=some ([c],.val undef):=rfl
theorem kh (n:Int):IntKind.wrap .u8 n=n % 256:=by simp[IntKind.wrap,IntKind.bits,IntKind.signed]
theorem o5 (n:Int):IntKind.wrap .u32 n=n % 4294967296:=by simp[IntKind.wrap,IntKind.bits,IntKind.signed]
theorem fP (n:Int):IntKind.wrap .u64 n=n % 18446744073709551616:=by simp[IntKind.wrap,IntKind.bits,IntKind.signed]
theorem eG (n:Int)(h: -9223372036854775808≤n)(h2:n< 9223372036854775808):IntKind.wrap .i64 n=n:=by
 have e:IntKind.wrap .i64 n=if n % 18446744073709551616≥9223372036854775808 then n % 18446744073709551616 - 18446744073709551616 else n % 18446744073709551616:=by
  simp[IntKind.wrap,IntKind.bits,IntKind.signed]
 rw[e];split<;>omega
theorem o6 (z:BitVec 32):IntKind.wrap .u32 (z.toNat:Int) =z.toNat:=by rw[o5];have:=z.isLt;omega
theorem il (z:BitVec 32):BitVec.ofInt 32 (z.toNat:Int) =z:=by simp
theorem MX (n:Nat)(h:n< 4294967296):Value.int .u32 (n:Int) =bY (BitVec.ofNat 32 n):=by
 simp only[bY,BitVec.toNat_ofNat];rw[Nat.mod_eq_of_lt (by simpa using h)]
theorem HC (n:Nat)(h:n< 4294967296):Value.int .u32 (no_index (OfNat.ofNat n:Int)) =bY (BitVec.ofNat 32 n):=MX n h
theorem MY (n:Nat)(h:n< 256):Value.int .u8 (no_index (OfNat.ofNat n:Int)) =w8 (UInt8.ofNat n):=by
 simp only[w8,UInt8.toNat_ofNat'];rw[Nat.mod_eq_of_lt (by simpa using h)];rfl
theorem MZ (n:Nat):Value.int .i64 (no_index (OfNat.ofNat n:Int)) =nI n:=rfl
theorem M1 (n:Nat):Value.int .u64 (no_index (OfNat.ofNat n:Int)) =nU n:=rfl
section
variable (P:Program) (t:TypeId)
theorem bl (op:BinOp)(k k':IntKind)(a b:Int):aw P op t (.val (.int k a)) (.val (.int k' b)) = (bW op (.int k a) (.int k' b)).map fun v=>vp (.val v):=by
 unfold aw;cases td P t<;>rfl
theorem uw (op:BinOp)(a b:ByteArray):aw P op t (.val (.string a)) (.val (.string b)) = (bW op (.string a) (.string b)).map fun v=>vp (.val v):=by
 unfold aw;cases td P t<;>rfl
theorem XO (x y:BitVec 32):aw P .add t (.val (bY x)) (.val (bY y)) =some (vp (.val (bY (x+y)))):=by
 simp only[bY,bl,bW,ne_eq,not_true_eq_false,if_false,Option.map_some,o5,BitVec.toNat_add];simp
theorem XP (x y:BitVec 32):aw P .xor t (.val (bY x)) (.val (bY y)) =some (vp (.val (bY (x ^^^ y)))):=by
 simp only[bY,bl];show some (vp (.val (.int .u32 (IntKind.wrap .u32 ((BitVec.ofInt 32 (x.toNat:Int) ^^^ BitVec.ofInt 32 (y.toNat:Int)).toNat:Int))))) =_;rw[il,il,o6]
theorem XQ (x y:BitVec 32):aw P .and t (.val (bY x)) (.val (bY y)) =some (vp (.val (bY (x &&& y)))):=by
 simp only[bY,bl];show some (vp (.val (.int .u32 (IntKind.wrap .u32 ((BitVec.ofInt 32 (x.toNat:Int) &&& BitVec.ofInt 32 (y.toNat:Int)).toNat:Int))))) =_;rw[il,il,o6]
theorem acf (x y:BitVec 32):aw P .or t (.val (bY x)) (.val (bY y)) =some (vp (.val (bY (x|||y)))):=by
 simp only[bY,bl];show some (vp (.val (.int .u32 (IntKind.wrap .u32 ((BitVec.ofInt 32 (x.toNat:Int) |||BitVec.ofInt 32 (y.toNat:Int)).toNat:Int))))) =_;rw[il,il,o6]
theorem XR (x:BitVec 32):gM .xor (.val (bY x)) =some (vp (.val (bY (~~~x)))):=by
 show some (vp (.val (.int .u32 (IntKind.wrap .u32 ((BitVec.ofInt 32 4294967295 ^^^ BitVec.ofInt 32 (x.toNat:Int)).toNat:Int))))) =_;have e:BitVec.ofInt 32 4294967295=BitVec.allOnes 32:=by decide
 rw[il,e,BitVec.allOnes_xor,o6];rfl
theorem XS (x:BitVec 32)(k:IntKind)(n:Nat):aw P .shl t (.val (bY x)) (.val (.int k n)) =some (vp (.val (bY (x<<< n)))):=by
 rw[bY,bl];have e:bW .shl (.int .u32 (x.toNat:Int)) (.int k (n:Int)) =some (.int .u32 (IntKind.wrap .u32 ((x.toNat:Int)*2 ^ (min n 32)))):=by
  show (if (n:Int) < 0 then none else _) =_;rw[if_neg (by omega)];rfl
 rw[e,o5,bY,BitVec.toNat_shiftLeft,Nat.shiftLeft_eq];show some (vp (.val _)) =_;congr 4
 have ep:∀m:Nat,(x.toNat:Int)*2 ^ m= ((x.toNat*2 ^ m:Nat):Int):=fun m=>by rw[Int.natCast_mul,Int.natCast_pow];rfl
 by_cases h:n≤32
 . rw[Nat.min_eq_left h,ep];exact (Int.natCast_emod _ 4294967296).symm
 . rw[Nat.min_eq_right (by omega)]
   obtain ⟨m,rfl⟩:∃m,n=32+m:=⟨n - 32,by omega⟩;rw[Nat.pow_add,←Nat.mul_assoc,Nat.mul_right_comm,Nat.mul_mod_left];omega
theorem KI (x:BitVec 32)(k:IntKind)(n:Nat):aw P .shr t (.val (bY x)) (.val (.int k n)) =some (vp (.val (bY (x>>>n)))):=by
 rw[bY,bl];have e:bW .shr (.int .u32 (x.toNat:Int)) (.int k (n:Int)) =some (.int .u32 ((x.toNat:Int).fdiv (2 ^ (min n 32)))):=by
  show (if (n:Int) < 0 then none else _) =_;rw[if_neg (by omega)];rfl
 rw[e,bY,BitVec.toNat_ushiftRight,Nat.shiftRight_eq_div_pow];show some (vp (.val _)) =_;congr 4
 have hx:=x.isLt;by_cases h:n≤32
 . rw[Nat.min_eq_left h,Int.fdiv_eq_ediv_of_nonneg _ (Int.le_of_lt (Int.pow_pos (by decide)))]
   have ep: (2:Int) ^ n= ((2 ^ n:Nat):Int):=by rw[Int.natCast_pow];rfl
   rw[ep,←Int.natCast_ediv]
 . rw[Nat.min_eq_right (by omega),Nat.div_eq_of_lt (Nat.lt_of_lt_of_le hx (Nat.pow_le_pow_right (by omega) (by omega)))]
   rw[Int.fdiv_eq_ediv_of_nonneg _ (by omega)];omega
end
theorem M2 (z:UInt8):IntKind.wrap .u8 (z.toNat:Int) =z.toNat:=by rw[kh];have:=z.toNat_lt;omega
theorem xg (z:UInt8):BitVec.ofInt 8 (z.toNat:Int) =z.toBitVec:=by
 apply BitVec.eq_of_toNat_eq;simp
section
variable (P:Program) (t:TypeId)
theorem XT (x y:UInt8):aw P .xor t (.val (w8 x)) (.val (w8 y)) =some (vp (.val (w8 (x ^^^ y)))):=by
 simp only[w8,bl];show some (vp (.val (.int .u8 (IntKind.wrap .u8 ((BitVec.ofInt 8 (x.toNat:Int) ^^^ BitVec.ofInt 8 (y.toNat:Int)).toNat:Int))))) =_;rw[xg,xg];show some (vp (.val (.int .u8 (IntKind.wrap .u8 ((x ^^^ y).toNat:Int))))) =_;rw[M2]
theorem XU (x y:UInt8):aw P .add t (.val (w8 x)) (.val (w8 y)) =some (vp (.val (w8 (x+y)))):=by
 simp only[w8,bl,bW,ne_eq,not_true_eq_false,if_false,Option.map_some,kh,UInt8.toNat_add];simp
theorem XV (x y:UInt8):aw P .sub t (.val (w8 x)) (.val (w8 y)) =some (vp (.val (w8 (x - y)))):=by
 simp only[w8,bl,bW,ne_eq,not_true_eq_false,if_false,Option.map_some,kh,UInt8.toNat_sub];have:=x.toNat_lt;have:=y.toNat_lt
 congr 4;omega
theorem XW (x y:UInt8):aw P .eql t (.val (w8 x)) (.val (w8 y)) =some (vp (.val (.bool (decide (x=y))))):=by
 simp only[w8,bl,bW,ne_eq,not_true_eq_false,if_false,Option.map_some];congr 4;rw[Bool.eq_iff_iff];simp[←UInt8.toNat_inj];omega
theorem XX (x y:UInt8):aw P .neq t (.val (w8 x)) (.val (w8 y)) =some (vp (.val (.bool (decide (x≠y))))):=by
 simp only[w8,bl,bW,ne_eq,not_true_eq_false,if_false,Option.map_some];congr 4;rw[Bool.eq_iff_iff];simp[←UInt8.toNat_inj];omega
theorem XY (x y:UInt8):aw P .lss t (.val (w8 x)) (.val (w8 y)) =some (vp (.val (.bool (decide (x< y))))):=by
 simp only[w8,bl,bW,ne_eq,not_true_eq_false,if_false,Option.map_some];congr 4;rw[Bool.eq_iff_iff];simp[UInt8.lt_iff_toNat_lt]
theorem XZ (x y:UInt8):aw P .leq t (.val (w8 x)) (.val (w8 y)) =some (vp (.val (.bool (decide (x≤y))))):=by
 simp only[w8,bl,bW,ne_eq,not_true_eq_false,if_false,Option.map_some];congr 4;rw[Bool.eq_iff_iff];simp[UInt8.le_iff_toNat_le]
theorem X0 (x y:UInt8):aw P .gtr t (.val (w8 x)) (.val (w8 y)) =some (vp (.val (.bool (decide (y< x))))):=by
 simp only[w8,bl,bW,ne_eq,not_true_eq_false,if_false,Option.map_some];congr 4;rw[Bool.eq_iff_iff];simp[UInt8.lt_iff_toNat_lt]
theorem X1 (x y:UInt8):aw P .geq t (.val (w8 x)) (.val (w8 y)) =some (vp (.val (.bool (decide (y≤x))))):=by
 simp only[w8,bl,bW,ne_eq,not_true_eq_false,if_false,Option.map_some];congr 4;rw[Bool.eq_iff_iff];simp[UInt8.le_iff_toNat_le]
theorem X2 (x y:Nat)(h:x+y< 9223372036854775808):aw P .add t (.val (nI x)) (.val (nI y)) =some (vp (.val (nI (x+y)))):=by
 simp only[nI,bl,bW,ne_eq,not_true_eq_false,if_false,Option.map_some];rw[eG _ (by omega) (by omega)];simp
theorem X3 (x y:Nat)(h:y≤x∧x< 9223372036854775808):aw P .sub t (.val (nI x)) (.val (nI y)) =some (vp (.val (nI (x - y)))):=by
 simp only[nI,bl,bW,ne_eq,not_true_eq_false,if_false,Option.map_some];rw[eG _ (by omega) (by omega)];congr 4;omega
theorem X4 (x y:Nat)(h:x*y< 9223372036854775808):aw P .mul t (.val (nI x)) (.val (nI y)) =some (vp (.val (nI (x*y)))):=by
 have e: (x:Int)*(y:Int) = ((x*y:Nat):Int):=by simp
 simp only[nI,bl,bW,ne_eq,not_true_eq_false,if_false,Option.map_some];rw[e,eG _ (by omega) (by omega)]
theorem X5 (x y:Nat)(h:0< y∧x< 9223372036854775808):aw P .quo t (.val (nI x)) (.val (nI y)) =some (vp (.val (nI (x / y)))):=by
 have hy: (y:Int)≠0:=by omega
 have h2:x / y≤x:=Nat.div_le_self ..;simp only[nI,bl,bW,ne_eq,not_true_eq_false,if_false,Option.map_some,hy];have e: ((x:Int).tdiv (y:Int)) = ((x / y:Nat):Int):=rfl;rw[e];generalize x / y=q at h2
 rw[eG _ (by omega) (by omega)]
theorem X6 (x y:Nat)(h:0< y):aw P .rem t (.val (nI x)) (.val (nI y)) =some (vp (.val (nI (x % y)))):=by
 have hy: (y:Int)≠0:=by omega
 simp only[nI,bl,bW,ne_eq,not_true_eq_false,if_false,Option.map_some,hy];rfl
theorem X7 (x y:Nat):aw P .eql t (.val (nI x)) (.val (nI y)) =some (vp (.val (.bool (decide (x=y))))):=by
 simp only[nI,bl,bW,ne_eq,not_true_eq_false,if_false,Option.map_some];congr 4;rw[Bool.eq_iff_iff];simp;omega
theorem X8 (x y:Nat):aw P .neq t (.val (nI x)) (.val (nI y)) =some (vp (.val (.bool (decide (x≠y))))):=by
 simp only[nI,bl,bW,ne_eq,not_true_eq_false,if_false,Option.map_some];congr 4;rw[Bool.eq_iff_iff];simp;omega
theorem X9 (x y:Nat):aw P .lss t (.val (nI x)) (.val (nI y)) =some (vp (.val (.bool (decide (x< y))))):=by
 simp only[nI,bl,bW,ne_eq,not_true_eq_false,if_false,Option.map_some];congr 4;rw[Bool.eq_iff_iff];simp
theorem Ya (x y:Nat):aw P .leq t (.val (nI x)) (.val (nI y)) =some (vp (.val (.bool (decide (x≤y))))):=by
 simp only[nI,bl,bW,ne_eq,not_true_eq_false,if_false,Option.map_some];congr 4;rw[Bool.eq_iff_iff];simp
theorem Yb (x y:Nat):aw P .gtr t (.val (nI x)) (.val (nI y)) =some (vp (.val (.bool (decide (y< x))))):=by
 simp only[nI,bl,bW,ne_eq,not_true_eq_false,if_false,Option.map_some];congr 4;rw[Bool.eq_iff_iff];simp
theorem Yc (x y:Nat):aw P .geq t (.val (nI x)) (.val (nI y)) =some (vp (.val (.bool (decide (y≤x))))):=by
 simp only[nI,bl,bW,ne_eq,not_true_eq_false,if_false,Option.map_some];congr 4;rw[Bool.eq_iff_iff];simp
theorem Yd (x y:Nat)(h:x+y< 18446744073709551616):aw P .add t (.val (nU x)) (.val (nU y)) =some (vp (.val (nU (x+y)))):=by
 simp only[nU,bl,bW,ne_eq,not_true_eq_false,if_false,Option.map_some,fP];congr 4;omega
theorem Ye (x y:Nat)(h:y≤x∧x< 18446744073709551616):aw P .sub t (.val (nU x)) (.val (nU y)) =some (vp (.val (nU (x - y)))):=by
 simp only[nU,bl,bW,ne_eq,not_true_eq_false,if_false,Option.map_some,fP];congr 4;omega
theorem Yf (x y:Nat)(h:x*y< 18446744073709551616):aw P .mul t (.val (nU x)) (.val (nU y)) =some (vp (.val (nU (x*y)))):=by
 have e: (x:Int)*(y:Int) = ((x*y:Nat):Int):=by simp
 simp only[nU,bl,bW,ne_eq,not_true_eq_false,if_false,Option.map_some,fP];rw[e];congr 4;omega
theorem Yg (x y:Nat)(h:0< y):aw P .rem t (.val (nU x)) (.val (nU y)) =some (vp (.val (nU (x % y)))):=by
 have hy: (y:Int)≠0:=by omega
 simp only[nU,bl,bW,ne_eq,not_true_eq_false,if_false,Option.map_some,hy];rfl
theorem Yh (x y:Nat)(h:x< 18446744073709551616∧y< 18446744073709551616):aw P .and t (.val (nU x)) (.val (nU y)) =some (vp (.val (nU (x &&& y)))):=by
 simp only[nU,bl];show some (vp (.val (.int .u64 (IntKind.wrap .u64 ((BitVec.ofInt 64 (x:Int) &&& BitVec.ofInt 64 (y:Int)).toNat:Int))))) =_;rw[BitVec.ofInt_natCast,BitVec.ofInt_natCast,BitVec.toNat_and,BitVec.toNat_ofNat,BitVec.toNat_ofNat,Nat.mod_eq_of_lt h.1,Nat.mod_eq_of_lt h.2,fP];have:x &&& y≤x:=Nat.and_le_left;congr 4;omega
theorem KJ (x n:Nat)(k:IntKind)(h:x< 18446744073709551616):aw P .shr t (.val (nU x)) (.val (.int k n)) =some (vp (.val (nU (x>>>n)))):=by
 rw[nU,bl];have e:bW .shr (.int .u64 (x:Int)) (.int k (n:Int)) =some (.int .u64 ((x:Int).fdiv (2 ^ (min n 64)))):=by
  show (if (n:Int) < 0 then none else _) =_;rw[if_neg (by omega)];rfl
 rw[e,nU,Nat.shiftRight_eq_div_pow];show some (vp (.val _)) =_;congr 4
 by_cases h:n≤64
 . rw[Nat.min_eq_left h,Int.fdiv_eq_ediv_of_nonneg _ (Int.le_of_lt (Int.pow_pos (by decide)))]
   have ep: (2:Int) ^ n= ((2 ^ n:Nat):Int):=by rw[Int.natCast_pow];rfl
   rw[ep,←Int.natCast_ediv]
 . rename_i hx
   rw[Nat.min_eq_right (by omega),Nat.div_eq_of_lt (Nat.lt_of_lt_of_le hx (by
    have: (2:Nat) ^ 64≤2 ^ n:=Nat.pow_le_pow_right (by omega) (by omega);omega))]
   rw[Int.fdiv_eq_ediv_of_nonneg _ (by omega)];omega
theorem DF (x n:Nat)(h:x< 18446744073709551616):aw P .shr t (.val (nU x)) (.val (nI n)) =some (vp (.val (nU (x>>>n)))):=KJ P t x n .i64 h
theorem Q8 (x n:Nat)(h:x< 18446744073709551616):aw P .shr t (.val (nU x)) (.val (nU n)) =some (vp (.val (nU (x>>>n)))):=KJ P t x n .u64 h
theorem Q9 (x:BitVec 32)(n:Nat):aw P .shl t (.val (bY x)) (.val (nU n)) =some (vp (.val (bY (x<<< n)))):=XS P t x .u64 n
theorem Ra (x:BitVec 32)(n:Nat):aw P .shr t (.val (bY x)) (.val (nI n)) =some (vp (.val (bY (x>>>n)))):=KI P t x .i64 n
theorem Rb (x:BitVec 32)(n:Nat):aw P .shr t (.val (bY x)) (.val (nU n)) =some (vp (.val (bY (x>>>n)))):=KI P t x .u64 n
theorem iR (l:List UInt8): (⟨l.toArray⟩:ByteArray).size=l.length:=by simp[ByteArray.size]
theorem vy (l:List UInt8): (⟨l.toArray⟩:ByteArray).toList=l:=by
 have key:∀ (n:Nat)(i:Nat)(r:List UInt8),l.length - i=n→i≤l.length→ByteArray.toList.loop ⟨l.toArray⟩ i r=r.reverse++l.drop i:=by
  intro n
  induction n with
  |zero=>
   intro i r h hi;rw[ByteArray.toList.loop,iR,if_neg (by omega),List.drop_of_length_le (by omega),List.append_nil]
  |succ n ih=>
   intro i r h hi;rw[ByteArray.toList.loop,iR,if_pos (by omega),ih _ _ (by omega) (by omega)];have hlt:i< l.length:=by omega
   rw[List.drop_eq_getElem_cons hlt];simp[ByteArray.get!,hlt]
 have:=key l.length 0 [] rfl (Nat.zero_le _);simpa[ByteArray.toList] using this
theorem Yi (x y:List UInt8):aw P .eql t (.val (str x)) (.val (str y)) =some (vp (.val (.bool (decide (x=y))))):=by
 simp only[str,uw,bW,vy,Option.map_some];congr 4
 rw[Bool.eq_iff_iff];simp
theorem Yj (x y:List UInt8):aw P .neq t (.val (str x)) (.val (str y)) =some (vp (.val (.bool (decide (x≠y))))):=by
 simp only[str,uw,bW,vy,Option.map_some];congr 4
 by_cases h:x=y<;>simp[h]
theorem Yk (x y:List UInt8)(h:x.length+y.length< 9223372036854775808):aw P .add t (.val (str x)) (.val (str y)) =some (vp (.val (str (x++y)))):=by
 simp only[str,uw,bW,iR];rw[if_pos (by omega)];simp only[Option.map_some];congr 4
end
def gt {α:Type}[Inhabited α](l:List α)(k:Nat):α:=l.getD k default
def lu (P:Program)(s d:Option TD)(c:C):Option Plan:=match s,d with
 |some ds,some dd=>
  match ds.u,dd.u,c with
  |_,.int k,.val (.int _ n) =>some (.pure (.val (.int k (k.wrap n))))
  |_,.string,.val (.string s) =>some (.pure (.val (.string s)))
  | .string,.slice e,.val (.string s) =>match td P e with
    |some de=>(match de.u with
     | .int .u8=>if s.size≤140737488355328 then some (.pure (.sl .no s.size (s.data.toList.map iO))) else none
     |_=>none)
    |none=>none
  | .slice e,.string,c=>match td P e with
    |some de=>(match de.u with
     | .int .u8=>(match c with
       | .sv b off n=>some (.rd b fun cells=>if off+n≤cells.length then (fa ((cells.drop off).take n)).map fun ns=> .val (.string (mV ns)) else none)
       |c=>match c.sl? with
        |some (n,xs) =>if xs.length=n then (fa xs).map fun ns=> .pure (.val (.string (mV ns))) else none
        |none=>none)
     |_=>none)
    |none=>none
  |_,_,_=>none
 |_,_=>none
theorem M3 (P:Program)(s d:TypeId)(c:C):fO P s d c=lu P (td P s) (td P d) c:=rfl
section
variable (P:Program) (u1:TypeDesc) (a1 b1 a2 b2 a3 b3:Nat) (z1 z2 z3:List Value)
theorem im (k k':IntKind)(n:Int):lu P (some ⟨u1,a1,b1,z1⟩) (some ⟨.int k,a2,b2,z2⟩) (.val (.int k' n)) =some (vp (.val (.int k (k.wrap n)))):=by
 cases u1<;>rfl
theorem HD (x:UInt8):lu P (some ⟨u1,a1,b1,z1⟩) (some ⟨.int .u32,a2,b2,z2⟩) (.val (w8 x)) =some (vp (.val (bY (x.toBitVec.setWidth 32)))):=by
 rw[w8,im,o5,bY];have:=x.toNat_lt;congr 4;simp;omega
theorem HE (x:UInt8):lu P (some ⟨u1,a1,b1,z1⟩) (some ⟨.int .i64,a2,b2,z2⟩) (.val (w8 x)) =some (vp (.val (nI x.toNat))):=by
 have:=x.toNat_lt;rw[w8,im,nI,eG _ (by omega) (by omega)]
theorem HF (x:UInt8):lu P (some ⟨u1,a1,b1,z1⟩) (some ⟨.int .u64,a2,b2,z2⟩) (.val (w8 x)) =some (vp (.val (nU x.toNat))):=by
 have:=x.toNat_lt;rw[w8,im,nU,fP];congr 4;omega
theorem M4 (n:Nat)(h:n< 18446744073709551616):lu P (some ⟨u1,a1,b1,z1⟩) (some ⟨.int .u64,a2,b2,z2⟩) (.val (nI n)) =some (vp (.val (nU n))):=by
 rw[nI,im,nU,fP];congr 4;omega
theorem M5 (n:Nat)(h:n< 9223372036854775808):lu P (some ⟨u1,a1,b1,z1⟩) (some ⟨.int .i64,a2,b2,z2⟩) (.val (nU n)) =some (vp (.val (nI n))):=by
 rw[nU,im,nI,eG _ (by omega) (by omega)]
theorem HG (x:BitVec 32):lu P (some ⟨u1,a1,b1,z1⟩) (some ⟨.int .u8,a2,b2,z2⟩) (.val (bY x)) =some (vp (.val (w8 ⟨x.setWidth 8⟩))):=by
 rw[bY,im,kh,w8];have: (UInt8.ofBitVec (x.setWidth 8)).toNat=x.toNat % 256:=by simp[UInt8.toNat]
 rw[this];rfl
theorem HH (n:Nat):lu P (some ⟨u1,a1,b1,z1⟩) (some ⟨.int .u8,a2,b2,z2⟩) (.val (nU n)) =some (vp (.val (w8 (UInt8.ofNat n)))):=by
 rw[nU,im,kh,w8,UInt8.toNat_ofNat'];rfl
theorem Rc (n:Nat):lu P (some ⟨u1,a1,b1,z1⟩) (some ⟨.int .u8,a2,b2,z2⟩) (.val (nI n)) =some (vp (.val (w8 (UInt8.ofNat n)))):=by
 rw[nI,im,kh,w8,UInt8.toNat_ofNat'];rfl
theorem Re (n:Int):lu P (some ⟨u1,a1,b1,z1⟩) (some ⟨.int .u8,a2,b2,z2⟩) (.val (.int .i64 n)) =some (vp (.val (w8 (UInt8.ofNat (n % 256).toNat)))):=by
 rw[im,kh,w8,UInt8.toNat_ofNat'];congr 4;omega
def KK (de:Option TD)(l:List UInt8):Option Plan:=match de with
 |some de=>(match de.u with
  | .int .u8=>if l.length≤140737488355328 then some (vp (sl bC .no l)) else none
  |_=>none)
 |none=>none
theorem Yl (e:TypeId)(l:List UInt8):lu P (some ⟨.string,a1,b1,z1⟩) (some ⟨.slice e,a2,b2,z2⟩) (.val (str l)) =KK (td P e) l:=by
 unfold KK;show (match td P e with|some de=>_|none=>none) =_
 cases td P e with
 |none=>rfl
 |some de=>
  simp only[];split<;>simp_all [iR,sl,rT,Ms]
theorem Rf (l:List UInt8)(h:l.length≤140737488355328):KK (some ⟨.int .u8,a3,b3,z3⟩) l=some (vp (sl bC .no l)):=by
 unfold KK;simp only[];rw[if_pos h]
theorem DG (l:List UInt8):fa (cl bC l) =some (l.map fun b=>(b.toNat:Int)):=by
 induction l with
 |nil=>rfl
 |cons a l ih=>
  show fa (.val (.int .u8 _)::cl bC l) =_;simp only[fa,ih,Option.map_some,List.map_cons]
theorem vz (l:List UInt8): (Value.string (mV (l.map fun b=>(b.toNat:Int)))) =str l:=by
 unfold mV str;rw[List.map_map];have: (fun n:Int=>UInt8.ofNat n.toNat) ∘ (fun b:UInt8=>(b.toNat:Int)) =id:=by
  funext b;simp
 rw[this,List.map_id]
def Rg (de:Option TD)(_r:Rt)(l:List UInt8):Option Plan:=match de with
 |some de=>(match de.u with
  | .int .u8=>some (vp (.val (str l)))
  |_=>none)
 |none=>none
theorem Ym (e:TypeId)(r:Rt)(l:List UInt8):lu P (some ⟨.slice e,a1,b1,z1⟩) (some ⟨.string,a2,b2,z2⟩) (sl bC r l) =Rg (td P e) r l:=by
 unfold Rg;show (match td P e with|some de=>_|none=>none) =_
 cases td P e with
 |none=>rfl
 |some de=>
  simp only[];split
  . simp only[sl,C.sl?]
    rw[if_pos (by rw[aD (f:=bC)];omega),DG];simp only[Option.map_some,vz];rfl
  . rfl
theorem Rh (r:Rt)(l:List UInt8):Rg (some ⟨.int .u8,a3,b3,z3⟩) r l=some (vp (.val (str l))):=rfl
def Ri (de:Option TD)(b off n:Nat):Option Plan:=match de with
 |some de=>(match de.u with
  | .int .u8=>some (.rd b fun cells=>if off+n≤cells.length then (fa ((cells.drop off).take n)).map fun ns=> .val (.string (mV ns)) else none)
  |_=>none)
 |none=>none
def Rj (cells:List C)(o n:Nat):Option C:=if o+n≤cells.length then (fa ((cells.drop o).take n)).map fun ns=> .val (.string (mV ns)) else none
theorem Yn (e:TypeId)(b off n:Nat):lu P (some ⟨.slice e,a1,b1,z1⟩) (some ⟨.string,a2,b2,z2⟩) (.sv b off n) =Ri (td P e) b off n:=by
 unfold Ri;show (match td P e with|some de=>_|none=>none) =_
 cases td P e with
 |none=>rfl
 |some de=>rfl
theorem Rk (b off n:Nat):Ri (some ⟨.int .u8,a3,b3,z3⟩) b off n=some (.rd b fun cells=>Rj cells off n):=rfl
theorem Rl (l:List UInt8)(o n:Nat)(h:o+n≤l.length):Rj (cl bC l) o n=some (.val (str ((l.drop o).take n))):=by
 have e1:=iP (f:=bC) l o;have e2:=kg (f:=bC) (l.drop o) n;rw[Nat.mul_one] at e1 e2;simp only[Rj];rw[if_pos (by rw[aD (f:=bC)];omega),e1,e2,DG,Option.map_some,vz]
def vA (own:Bool)(t:Option TD)(b o:Nat):Option Plan:=match t with
 |none=>none
 |some d=>if own∧d.isAgg=false then some (.xr b o) else some (.rd b fun cells=>cA d cells o)
theorem M6 (own:Bool)(t:TypeId)(b o:Nat):loadPlan P own t (.bp b o) =vA own (td P t) b o:=by
 unfold loadPlan vA;cases td P t<;>rfl
theorem M7 (k:IntKind)(b o:Nat):vA false (some ⟨.int k,a1,b1,z1⟩) b o=some (.rd b fun cells=>cb cells o):=rfl
theorem M8 (b o:Nat):vA false (some ⟨.string,a1,b1,z1⟩) b o=some (.rd b fun cells=>cb cells o):=rfl
theorem Rm (e:TypeId)(b o:Nat):vA false (some ⟨.slice e,a1,b1,z1⟩) b o=some (.rd b fun cells=>cb cells o):=rfl
theorem M9 (e:TypeId)(b o:Nat):vA true (some ⟨.slice e,a1,b1,z1⟩) b o=some (.xr b o):=rfl
theorem Na (own:Bool)(n:Nat)(e:TypeId)(b o:Nat):vA own (some ⟨.array n e,a1,b1,z1⟩) b o=some (.rd b fun cells=>eA cells o a1):=by cases own<;>rfl
theorem Bo (own:Bool)(fs:Array Field)(b o:Nat):vA own (some ⟨.struct fs,a1,b1,z1⟩) b o=some (.rd b fun cells=>eA cells o a1):=by cases own<;>rfl
def vB (t:Option TD)(xs:List C):Option Plan:=match t with
 |none=>none
 |some d=>(cA d xs 0).map vp
theorem Nb (own:Bool)(t:TypeId)(xs:List C):loadPlan P own t (.kp xs) =vB (td P t) xs:=by
 unfold loadPlan vB;cases td P t<;>rfl
theorem Nc (k:IntKind)(xs:List C):vB (some ⟨.int k,a1,b1,z1⟩) xs= (cb xs 0).map vp:=rfl
theorem Nd (xs:List C):vB (some ⟨.string,a1,b1,z1⟩) xs= (cb xs 0).map vp:=rfl
theorem Rn (e:TypeId)(xs:List C):vB (some ⟨.slice e,a1,b1,z1⟩) xs= (cb xs 0).map vp:=rfl
theorem Nf (n:Nat)(e:TypeId)(xs:List C):vB (some ⟨.array n e,a1,b1,z1⟩) xs= (eA xs 0 a1).map vp:=rfl
theorem Bp (fs:Array Field)(xs:List C):vB (some ⟨.struct fs,a1,b1,z1⟩) xs= (eA xs 0 a1).map vp:=rfl
def mW (t:Option TD)(b o:Nat)(cs:Option (List C)):Option Plan:=match t with
 |none=>none
 |some d=>match cs with
  |some cs=>if cs.length=d.size then some (.wr b (fun cells=>cj cells o cs) none) else none
  |none=>none
theorem DH (t:TypeId)(b o:Nat)(v:Value)(k:Option Nat):cq P t (.bp b o) (.val v) k=mW (td P t) b o (C.val v).cells?:=by
 unfold cq mW;cases td P t with
 |none=>rfl
 |some d=>simp only[];cases (C.val v).cells?<;>rfl
theorem DI (t:TypeId)(b o:Nat)(xs:List C)(k:Option Nat):cq P t (.bp b o) (.agg xs) k=mW (td P t) b o (some (xs.map C.noR)):=by
 unfold cq mW;cases td P t<;>rfl
def KL (t:Option TD)(b o:Nat)(c:C)(k:Option Nat):Option Plan:=match t with
 |none=>none
 |some d=>if d.size=1 then some (.wr b (fun cells=>pB cells o c) k) else none
theorem xh (t:TypeId)(b o:Nat)(r:Rt)(n:Nat)(xs:List C)(k:Option Nat):cq P t (.bp b o) (.sl r n xs) k=KL (td P t) b o (.sl r n xs) k:=by
 unfold cq KL;cases td P t<;>rfl
theorem Ng (u:TypeDesc)(y:Nat)(z:List Value)(b o:Nat)(c:C)(k:Option Nat):KL (some ⟨u,1,y,z⟩) b o c k=some (.wr b (fun cells=>pB cells o c) k):=rfl
theorem HI (u:TypeDesc)(s y:Nat)(z:List Value)(b o:Nat)(cs:List C)(h:cs.length=s):mW (some ⟨u,s,y,z⟩) b o (some cs) =some (.wr b (fun cells=>cj cells o cs) none):=if_pos h
theorem DJ (x:BitVec 32): (C.val (bY x)).cells?=some [.val (bY x)]:=rfl
theorem HJ (x:UInt8): (C.val (w8 x)).cells?=some [.val (w8 x)]:=rfl
theorem HK (x:Nat): (C.val (nI x)).cells?=some [.val (nI x)]:=rfl
theorem HL (x:Nat): (C.val (nU x)).cells?=some [.val (nU x)]:=rfl
theorem DK (k:IntKind)(x:Int): (C.val (.int k x)).cells?=some [.val (.int k x)]:=rfl
theorem DL (x:List UInt8): (C.val (str x)).cells?=some [.val (str x)]:=rfl
theorem Bq (x:Bool): (C.val (.bool x)).cells?=some [.val (.bool x)]:=rfl
theorem DM: (C.val (.slice none 0 0)).cells?=some [.val (.slice none 0 0)]:=rfl
theorem DN (xs:List C): (C.agg xs).cells?=some (xs.map C.noR):=rfl
theorem Ro (i n:Nat)(h:i< n):dP (.val (nI i)) n=some i:=by
 simp only[dP,nI,C.int?];rw[if_pos (by omega)];simp
theorem xi (i d m:Nat)(h:i≤m):cp (some (.val (nI i))) d m=some i:=by
 simp only[cp,nI,C.int?];rw[if_pos (by omega)];simp
theorem o7 (d m:Nat):cp none d m=some d:=rfl
def sZ (de:Option TD)(k:Option Nat)(f:Nat→Nat→Option Plan):Option Plan:=match de,k with
 |some de,some k=>f de.size k
 |_,_=>none
theorem HM (u:TypeDesc)(s y:Nat)(z:List Value)(k:Nat)(f:Nat→Nat→Option Plan):sZ (some ⟨u,s,y,z⟩) (some k) f=f s k:=rfl
def p7 (P:Program)(t:Option TD)(c i:C):Option Plan:=match t with
 |none=>none
 |some d=>
  match d.u,c with
  | .array n e,.bp b off=>sZ (td P e) (dP i n) fun s k=>some (vp (.bp b (off+k*s)))
  | .array n e,.kp xs=>sZ (td P e) (dP i n) fun s k=>if n*s≤xs.length then some (vp (.kp (xs.drop (k*s)))) else none
  | .slice e,.sv b off n=>sZ (td P e) (dP i n) fun s k=>some (vp (.bp b (off+k*s)))
  | .slice e,.sl _ n xs=>sZ (td P e) (dP i n) fun s k=>if xs.length=n*s∧xs≠[] then some (vp (.kp (xs.drop (k*s)))) else none
  |_,_=>none
theorem Rp (t:TypeId)(c i:C):dD P t c i=p7 P (td P t) c i:=by
 unfold dD p7
 cases td P t with
 |none=>rfl
 |some d=>
  simp only[];cases d.u<;>cases c<;>first|rfl| (rename_i e _ _ _;cases td P e<;>first|rfl| (cases dP i _<;>rfl))
theorem Rq (n:Nat)(e:TypeId)(b off:Nat)(i:C):p7 P (some ⟨.array n e,a1,b1,z1⟩) (.bp b off) i=sZ (td P e) (dP i n) fun s k=>some (vp (.bp b (off+k*s))):=rfl
theorem Rr (e:TypeId)(b off n:Nat)(i:C):p7 P (some ⟨.slice e,a1,b1,z1⟩) (.sv b off n) i=sZ (td P e) (dP i n) fun s k=>some (vp (.bp b (off+k*s))):=rfl
theorem Rs {α:Type}(f:α→List C)(e:TypeId)(r:Rt)(l:List α)(i:C):p7 P (some ⟨.slice e,a1,b1,z1⟩) (sl f r l) i=sZ (td P e) (dP i l.length) fun s k=>if (cl f l).length=l.length*s∧cl f l≠[] then some (vp (.kp ((cl f l).drop (k*s)))) else none:=rfl
end
end Go.Sx
