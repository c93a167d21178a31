/-
   And what follows.
-/
import Derived.Test.YtmoaeemdlompaaaDoorPah
set_option linter.unusedSimpArgs false
set_option linter.unusedVariables false
namespace Go.Sx
open Go.RowKit
theorem jb {cx:Cx}{apps:List Nat}{dsts:List (Option Nat)}{K:St→Prop}:∀ (l:List Oper)(id:Nat)(st:St)(fs:List FP),gg cx apps dsts l id st fs (fun _ s=>K s)→jT cx apps dsts l id st K
 | [],_,_,_,h=>h
 |o::l,id,st,fs,h=>by
  simp only[gg,jT] at h ⊢
  refine ⟨h.1,?_⟩
  have h2:=h.2
  cases hw:gW dsts o.guard st.env with
  |none=>rw[hw] at h2;exact h2
  |some b=>
   rw[hw] at h2
   cases b with
   |false=>exact jb l _ _ _ h2
   |true=>
    simp only[E4,kB] at h2 ⊢
    generalize splanA cx apps o st.env=q at h2 ⊢
    cases q with
    |none=>exact h2
    |some p=>
     simp only[] at h2 ⊢
     generalize a8 cx id p st.h=r at h2 ⊢
     cases r with
     |none=>exact h2
     |some r=>exact jb l _ _ _ h2
section
variable {cx:Cx} {n:Nat} {Q:Ex→St→Prop} {e:List (Nat×C)} {h:Hp}
theorem Tr.rg (hcx:CxOK cx){id:Nat}{l:List Oper}(apps:List Nat)(dsts:List (Option Nat))(z:Hp)(h1:l.filterMap cG=apps)(h2:l.map (·.dst) =dsts)(h3:eu l=z)
 (H:run cx apps dsts l h.length e (h++z) [] (fun _ s=>Q .normal s)):Tr cx n (.region id l.toArray false) ⟨A e,h⟩ Q:=by
 subst h1 h2 h3
 exact Y9 hcx (jb _ _ _ _ H)
theorem ut (hcx:CxOK cx)(hm:cx.P.follows .mixedOrders=true){id:Nat}{l:List Oper}(apps:List Nat)(dsts:List (Option Nat))(z:Hp)(h1:l.filterMap cG=apps)(h2:l.map (·.dst) =dsts)(h3:eu l=z)
 (hs:dN l.toArray=true)
 (H:run cx apps dsts l h.length e (h++z) [] (fun fs s=>fG l.toArray fs.reverse=true∧Q .normal s)):Tr cx n (.region id l.toArray true) ⟨A e,h⟩ Q:=by
 subst h1 h2 h3
 exact RB hcx hm hs H
end
section
variable (cx:Cx) (apps:List Nat) (dsts:List (Option Nat)) (l:List Oper) (id id':Nat) (d:Option Nat) (e:List (Nat×C)) (h:Hp) (fs:List FP) (K:List FP→St→Prop) (ty:TypeId) (pos:String) (aft:Array Edge)
theorem cq (op:Op)(p:Option Plan)(hp:splanA cx apps ⟨d,op,ty,pos,aft,none⟩ (A e) =p)(hm: (if dl ⟨d,op,ty,pos,aft,none⟩ then id+1 else id) =id'):
 run cx apps dsts (⟨d,op,ty,pos,aft,none⟩::l) id e h fs K=AN (eB cx.N d) (dr cx apps dsts l id id' d e h fs K p):=by
 unfold run AN
 rw[gg]
 simp only[gW]
 rw[hp,hm,Dt]
 rfl
def Ib (op:Op)(o:Option Bool):Prop:=match o with
 |none=>False
 |some b=>(b=true→run cx apps dsts (⟨d,op,ty,pos,aft,none⟩::l) id e h fs K)∧
  (b=false→AN (eB cx.N d) (run cx apps dsts l (if dl ⟨d,op,ty,pos,aft,none⟩ then id+1 else id) (fD d (.val undef) e) h ((0,0)::fs) K))
theorem Ic (op:Op)(g:Nat×Bool):run cx apps dsts (⟨d,op,ty,pos,aft,some g⟩::l) id e h fs K=Ib cx apps dsts l id d e h fs K ty pos aft op (gW dsts (some g) (A e)):=by
 unfold run Ib
 rw[gg]
 simp only[]
 have hsp:splanA cx apps ⟨d,op,ty,pos,aft,some g⟩ (A e) =splanA cx apps ⟨d,op,ty,pos,aft,none⟩ (A e):=by
  rw[splanA.eq_def,splanA.eq_def]
  cases op with
  |move x=>cases x<;>rfl
  |_=>rfl
 have hmk:dl ⟨d,op,ty,pos,aft,some g⟩ =dl ⟨d,op,ty,pos,aft,none⟩:=rfl
 cases hw:gW dsts (some g) (A e) with
 |none=>simp
 |some b=>
  cases b with
  |true=>
   simp only[Bool.true_eq_false,false_implies,and_true,true_implies]
   rw[run,gg,hsp,hmk]
   simp only[gW]
  |false=>
   simp only[Bool.false_eq_true,false_implies,true_and,true_implies]
   rw[AN,Dt,iH]
   rfl
def nh (op:Op)(id:Nat):Nat:=match op with
 | .alloc _| .box _ _| .makeSlice _ _ _=>id+1
 |_=>id
theorem RQ (op:Op): (if dl ⟨d,op,ty,pos,aft,none⟩ then id+1 else id) =nh op id:=by cases op<;>rfl
theorem Lg (op:Op)(b:Bool):Ib cx apps dsts l id d e h fs K ty pos aft op (some b) =GB b (run cx apps dsts (⟨d,op,ty,pos,aft,none⟩::l) id e h fs K)
 (AN (eB cx.N d) (run cx apps dsts l (nh op id) (fD d (.val undef) e) h ((0,0)::fs) K)):=by
 rw[←RQ (d:=d) (ty:=ty) (pos:=pos) (aft:=aft)];rfl
theorem Id (x:Operand)(id:Nat):nh (.move x) id=id:=rfl
theorem Ie (c a b:Operand)(id:Nat):nh (.pick c a b) id=id:=rfl
theorem E8 (t:TypeId)(p:Array (Nat×Operand))(id:Nat):nh (.build t p) id=id:=rfl
theorem If (t:TypeId)(a:Operand)(id:Nat):nh (.load t a) id=id:=rfl
theorem E9 (o:BinOp)(t:TypeId)(x y:Operand)(s:TypeId)(id:Nat):nh (.binOp o t x y s) id=id:=rfl
theorem vW (t:TypeId)(x:Operand)(f:Nat)(id:Nat):nh (.fieldAddr t x f) id=id:=rfl
theorem vX (t:TypeId)(x i:Operand)(id:Nat):nh (.indexAddr t x i) id=id:=rfl
theorem Ig (c:Call)(id:Nat):nh (.call c) id=id:=rfl
def nT (cx:Cx)(d:Option Nat):Bool:=d.any cx.gr
def wV (b:Bool)(p q:Option Plan):Option Plan:=if b=true then p else q
@[congr] theorem afP {b b':Bool} {p q:Option Plan} (h:b=b'):wV b p q=wV b' p q:=by rw[h]
def kT (P:Program)(t:TypeId)(c:C)(lo hi mx:Option C):Option Plan:=match c,lo,mx with
 | .gv b n s,none,none=>mA P t b n s hi
 |c,_,_=>dg P t c.asSv lo hi mx
def ze (c a b:C):Option Plan:=match c with
 | .val (.bool true) =>some (vp a)
 | .val (.bool false) =>some (vp b)
 |_=>none
def BF (g:Bool)(t:TypeId)(T:Option TD):Option Plan:=match T with
 |some d=>if d.zero.all (·.oneCell') then some (.new (d.zero.map .val) fun id=>if g=true then .bt id t d.zero.length else .bp id 0) else none
 |none=>none
def Ih (t:Option TD):Option Plan:=match t with
 |some d=>if d.zero.all (·.oneCell') then some (.new (d.zero.map .val) fun id=> .bp id 0) else none
 |none=>none
def Fa (x:C):Option Plan:=x.cells?.map fun cs=> .new cs fun id=> .bp id 0
def mB (P:Program)(t:Option TD)(parts:List (Nat×C)):Option Plan:=match t with
 |some d=>if d.zero.all (·.oneCell') =false then none else ((kP P d.u).bind fun pl=>fW pl (d.zero.map .val) parts).map fun cs=>vp (.agg cs)
 |none=>none
def nj (P:Program)(g:Bool)(t:Option TD)(n:Nat)(parts:List (Nat×C)):Option Plan:=match t with
 |some d=>(match d.u with
  | .slice e=>(match td P e with
    |some de=>if n*de.size≤65536∧n≤65536∧de.zero.length=de.size∧de.zero.all (·.oneCell') =true then
     (fW (fun i=>some (i*de.size,de.size)) (cw de.zero n) parts).map fun cs=>if g=true then .ap none (de.size,e) n fun _=>some cs else vp (.sl .full n cs) else none
    |none=>none)
  |_=>none)
 |none=>none
def Lh (x:C):Option Plan:=match x with
 | .bp b k=>some (vp (.bp b k))
 | .bt b t n=>some (vp (.bt b t n))
 | .kp xs=>some (vp (.kp xs))
 | .fn f cs=>some (vp (.fn f cs))
 |_=>none
def tf (x:C)(i:Nat):Option Plan:=match x with
 | .tup xs=>(xs[i]?).map fun c=>vp c.noR
 |_=>none
def zf (cx:Cx)(g:Nat)(az:List C)(o:Option C):Option Plan:=match o with
 |some c=>some (vp c)
 |none=>match fq az with
  |some b=>if (cx.hp g az []).isSome then some (.call g az) else some (.rd b (rdPu cx g az b))
  |none=>some (.call g az)
def zg (cx:Cx)(f:C)(args:List C):Option Plan:=match f with
 | .fn g caps=>zf cx g (kS args++caps) (cx.pu g (kS args++caps))
 |_=>none
def PW (b:Bool)(c:C)(p:Nat):Option Plan:=match b with
 |true=>some (.val c (some p))
 |false=>some (vp c.noR)
def vY (P:Program)(t:Option TD)(x:C):Option Plan:=match t with
 |some d=>(match d.u with
  | .array n e=>(match td P e,x with
    |some _,.sv b off m=>if n≤m∧n≠0 then some (vp (.bp b off)) else none
    |some _,.gv b m _=>if n≤m∧n≠0 then some (vp (.bp b 0)) else none
    |some de,c=>(match c.sl? with
     |some (m,xs) =>if n≤m∧xs≠[]∧xs.length=m*de.size then some (vp (.kp xs)) else none
     |none=>none)
    |_,_=>none)
  |_=>none)
 |none=>none
theorem RR (p:Nat):run cx apps dsts (⟨d,.move (.tmp p),ty,pos,aft,none⟩::l) id e h fs K=AN (eB cx.N d) (dr cx apps dsts l id id d e h fs K (PW (pg apps d||pg apps (d.map (· +1000000))) (A e p) p)):=
 cq cx apps dsts l id id d e h fs K ty pos aft (.move (.tmp p)) (PW (pg apps d||pg apps (d.map (· +1000000))) (A e p) p) (by
  rw[splanA.eq_def];simp only[]
  cases d with
  |none=>rfl
  |some t=>
   simp only[pg,PW,vp,Plan.pure,Option.map_some,List.contains_eq_mem]
   by_cases hb:t∈apps<;>by_cases hc:t+1000000∈apps<;>simp[hb,hc]) rfl
theorem RS (v:Value):run cx apps dsts (⟨d,.move (.const v),ty,pos,aft,none⟩::l) id e h fs K=AN (eB cx.N d) (dr cx apps dsts l id id d e h fs K (some (vp (.val v)))):=
 cq cx apps dsts l id id d e h fs K ty pos aft (.move (.const v)) (some (vp (.val v))) (by first|rfl| (cases d<;>rfl)) rfl
theorem RT (x:Operand):run cx apps dsts (⟨d,.assign x,ty,pos,aft,none⟩::l) id e h fs K=AN (eB cx.N d) (dr cx apps dsts l id id d e h fs K (some (.val (wR cx e x) (dT x)))):=
 cq cx apps dsts l id id d e h fs K ty pos aft (.assign x) (some (.val (wR cx e x) (dT x))) (by first|rfl| (cases d<;>rfl)) rfl
theorem Li (c a b:Operand):run cx apps dsts (⟨d,.pick c a b,ty,pos,aft,none⟩::l) id e h fs K=AN (eB cx.N d) (dr cx apps dsts l id id d e h fs K (ze (on cx e c) (on cx e a) (on cx e b))):=
 cq cx apps dsts l id id d e h fs K ty pos aft (.pick c a b) (ze (on cx e c) (on cx e a) (on cx e b)) (by first|rfl| (cases d<;>rfl)) rfl
theorem Ii (t:TypeId):run cx apps dsts (⟨d,.alloc t,ty,pos,aft,none⟩::l) id e h fs K=AN (eB cx.N d) (dr cx apps dsts l id (id+1) d e h fs K (BF (nT cx d) t (td cx.P t))):=
 cq cx apps dsts l id (id+1) d e h fs K ty pos aft (.alloc t) (BF (nT cx d) t (td cx.P t)) (by first|rfl| (cases d<;>rfl)) rfl
theorem RU (t:TypeId)(x:Operand):run cx apps dsts (⟨d,.box t x,ty,pos,aft,none⟩::l) id e h fs K=AN (eB cx.N d) (dr cx apps dsts l id (id+1) d e h fs K (Fa (on cx e x))):=
 cq cx apps dsts l id (id+1) d e h fs K ty pos aft (.box t x) (Fa (on cx e x)) (by first|rfl| (cases d<;>rfl)) rfl
theorem run_build (t:TypeId)(ps:List (Nat×Operand)):run cx apps dsts (⟨d,.build t ps.toArray,ty,pos,aft,none⟩::l) id e h fs K=AN (eB cx.N d) (dr cx apps dsts l id id d e h fs K (mB cx.P (td cx.P t) (wT cx e ps))):=
 cq cx apps dsts l id id d e h fs K ty pos aft (.build t ps.toArray) (mB cx.P (td cx.P t) (wT cx e ps)) (by rw[←HW];rfl) rfl
theorem Fb (t:TypeId)(m:Nat)(ps:List (Nat×Operand)):run cx apps dsts (⟨d,.buildSlice t m ps.toArray,ty,pos,aft,none⟩::l) id e h fs K=AN (eB cx.N d) (dr cx apps dsts l id id d e h fs K (nj cx.P (nT cx d) (td cx.P t) m (wT cx e ps))):=
 cq cx apps dsts l id id d e h fs K ty pos aft (.buildSlice t m ps.toArray) (nj cx.P (nT cx d) (td cx.P t) m (wT cx e ps)) (by rw[←HW];rfl) rfl
theorem Lj (t:TypeId)(x:Operand):run cx apps dsts (⟨d,.load t x,ty,pos,aft,none⟩::l) id e h fs K=AN (eB cx.N d) (dr cx apps dsts l id id d e h fs K (loadPlan cx.P (pg apps d) t (on cx e x))):=
 cq cx apps dsts l id id d e h fs K ty pos aft (.load t x) (loadPlan cx.P (pg apps d) t (on cx e x)) (by first|rfl| (cases d<;>rfl)) rfl
theorem run_store (t:TypeId)(x y:Operand):run cx apps dsts (⟨d,.store t x y,ty,pos,aft,none⟩::l) id e h fs K=AN (eB cx.N d) (dr cx apps dsts l id id d e h fs K (cH cx.P t (on cx e x) (wR cx e y) (dT y))):=
 cq cx apps dsts l id id d e h fs K ty pos aft (.store t x y) (cH cx.P t (on cx e x) (wR cx e y) (dT y)) (by first|rfl| (cases d<;>rfl)) rfl
theorem Lk (x:Operand):run cx apps dsts (⟨d,.nilCheck x,ty,pos,aft,none⟩::l) id e h fs K=AN (eB cx.N d) (dr cx apps dsts l id id d e h fs K (Lh (on cx e x))):=
 cq cx apps dsts l id id d e h fs K ty pos aft (.nilCheck x) (Lh (on cx e x)) (by first|rfl| (cases d<;>rfl)) rfl
theorem RV (o:BinOp)(t t2:TypeId)(x y:Operand):run cx apps dsts (⟨d,.binOp o t x y t2,ty,pos,aft,none⟩::l) id e h fs K=AN (eB cx.N d) (dr cx apps dsts l id id d e h fs K (aw cx.P o t (on cx e x) (on cx e y))):=
 cq cx apps dsts l id id d e h fs K ty pos aft (.binOp o t x y t2) (aw cx.P o t (on cx e x) (on cx e y)) (by first|rfl| (cases d<;>rfl)) rfl
theorem Zk (o:UnOp)(t:TypeId)(x:Operand):run cx apps dsts (⟨d,.unOp o t x,ty,pos,aft,none⟩::l) id e h fs K=AN (eB cx.N d) (dr cx apps dsts l id id d e h fs K (gQ o (on cx e x))):=
 cq cx apps dsts l id id d e h fs K ty pos aft (.unOp o t x) (gQ o (on cx e x)) (by first|rfl| (cases d<;>rfl)) rfl
theorem Ll (s t:TypeId)(x:Operand):run cx apps dsts (⟨d,.convert s t x,ty,pos,aft,none⟩::l) id e h fs K=AN (eB cx.N d) (dr cx apps dsts l id id d e h fs K (wV (nT cx d) (oG cx.P s t (on cx e x)) (fM cx.P s t (on cx e x).asSv))):=
 cq cx apps dsts l id id d e h fs K ty pos aft (.convert s t x) (wV (nT cx d) (oG cx.P s t (on cx e x)) (fM cx.P s t (on cx e x).asSv)) (by first|rfl| (cases d<;>rfl)) rfl
theorem RW (t:TypeId)(x:Operand):run cx apps dsts (⟨d,.sliceToArrayPointer t x,ty,pos,aft,none⟩::l) id e h fs K=AN (eB cx.N d) (dr cx apps dsts l id id d e h fs K (vY cx.P (td cx.P t) (on cx e x))):=
 cq cx apps dsts l id id d e h fs K ty pos aft (.sliceToArrayPointer t x) (vY cx.P (td cx.P t) (on cx e x)) (by first|rfl| (cases d<;>rfl)) rfl
theorem RX (f:Nat)(cs:List Operand):run cx apps dsts (⟨d,.makeFunc (.func f) #[] cs.toArray,ty,pos,aft,none⟩::l) id e h fs K=AN (eB cx.N d) (dr cx apps dsts l id id d e h fs K (some (vp (.fn f (kS (wS cx e cs)))))):=
 cq cx apps dsts l id id d e h fs K ty pos aft (.makeFunc (.func f) #[] cs.toArray) (some (vp (.fn f (kS (wS cx e cs))))) (by rw[←HV,←wU,List.map_map];rfl) rfl
theorem Ij (t:TypeId)(x:Operand)(lo hi mx:Option Operand):run cx apps dsts (⟨d,.slice t x lo hi mx,ty,pos,aft,none⟩::l) id e h fs K=AN (eB cx.N d) (dr cx apps dsts l id id d e h fs K (kT cx.P t (on cx e x) (lo.map (on cx e)) (hi.map (on cx e)) (mx.map (on cx e)))):=
 cq cx apps dsts l id id d e h fs K ty pos aft (.slice t x lo hi mx) (kT cx.P t (on cx e x) (lo.map (on cx e)) (hi.map (on cx e)) (mx.map (on cx e))) (by rw[splanA.eq_def];simp only[];rw[splan.eq_def];simp only[];unfold kT;change (match on cx e x,lo,mx with| .gv b n s,none,none=>mA cx.P t b n s (hi.map (on cx e)) |c,_,_=>dg cx.P t c.asSv (lo.map (on cx e)) (hi.map (on cx e)) (mx.map (on cx e))) =_;cases on cx e x<;>cases lo<;>cases mx<;>rfl) rfl
theorem Zl (t:TypeId)(x:Operand)(f:Nat):run cx apps dsts (⟨d,.fieldAddr t x f,ty,pos,aft,none⟩::l) id e h fs K=AN (eB cx.N d) (dr cx apps dsts l id id d e h fs K (aE cx.P t (on cx e x) f)):=
 cq cx apps dsts l id id d e h fs K ty pos aft (.fieldAddr t x f) (aE cx.P t (on cx e x) f) (by first|rfl| (cases d<;>rfl)) rfl
theorem RY (t:TypeId)(x i:Operand):run cx apps dsts (⟨d,.indexAddr t x i,ty,pos,aft,none⟩::l) id e h fs K=AN (eB cx.N d) (dr cx apps dsts l id id d e h fs K (dF cx.P t (on cx e x).asSv (on cx e i))):=
 cq cx apps dsts l id id d e h fs K ty pos aft (.indexAddr t x i) (dF cx.P t (on cx e x).asSv (on cx e i)) (by first|rfl| (cases d<;>rfl)) rfl
theorem Zm (t:TypeId)(x i:Operand):run cx apps dsts (⟨d,.index t x i,ty,pos,aft,none⟩::l) id e h fs K=AN (eB cx.N d) (dr cx apps dsts l id id d e h fs K (gy cx.P t (on cx e x) (on cx e i))):=
 cq cx apps dsts l id id d e h fs K ty pos aft (.index t x i) (gy cx.P t (on cx e x) (on cx e i)) (by first|rfl| (cases d<;>rfl)) rfl
theorem Lm (x:Operand)(i:Nat):run cx apps dsts (⟨d,.extract x i,ty,pos,aft,none⟩::l) id e h fs K=AN (eB cx.N d) (dr cx apps dsts l id id d e h fs K (tf (on cx e x) i)):=
 cq cx apps dsts l id id d e h fs K ty pos aft (.extract x i) (tf (on cx e x) i) (by first|rfl| (cases d<;>rfl)) rfl
theorem R0 (t:TypeId)(x:Operand):run cx apps dsts (⟨d,.call ⟨.builtin .len,#[x],#[t]⟩,ty,pos,aft,none⟩::l) id e h fs K=AN (eB cx.N d) (dr cx apps dsts l id id d e h fs K (jz cx.P t (on cx e x).asSv)):=
 cq cx apps dsts l id id d e h fs K ty pos aft (.call ⟨.builtin .len,#[x],#[t]⟩) (jz cx.P t (on cx e x).asSv) (by first|rfl| (cases d<;>rfl)) rfl
theorem R1 (t t2:TypeId)(x y:Operand):run cx apps dsts (⟨d,.call ⟨.builtin .append,#[x,y],#[t,t2]⟩,ty,pos,aft,none⟩::l) id e h fs K=AN (eB cx.N d) (dr cx apps dsts l id id d e h fs K (wV (nT cx d) (io cx.P t t2 (on cx e x) (on cx e y).asSv) (er cx.P t t2 (wR cx e x) (on cx e y).asSv (dT x)))):=
 cq cx apps dsts l id id d e h fs K ty pos aft (.call ⟨.builtin .append,#[x,y],#[t,t2]⟩) (wV (nT cx d) (io cx.P t t2 (on cx e x) (on cx e y).asSv) (er cx.P t t2 (wR cx e x) (on cx e y).asSv (dT x))) (by first|rfl| (cases d<;>rfl)) rfl
theorem Ln (t t2:TypeId)(x y:Operand):run cx apps dsts (⟨d,.call ⟨.builtin .copy,#[x,y],#[t,t2]⟩,ty,pos,aft,none⟩::l) id e h fs K=AN (eB cx.N d) (dr cx apps dsts l id id d e h fs K (ip cx.P t (on cx e x).asSv (on cx e y).asSv)):=
 cq cx apps dsts l id id d e h fs K ty pos aft (.call ⟨.builtin .copy,#[x,y],#[t,t2]⟩) (ip cx.P t (on cx e x).asSv (on cx e y).asSv) (by first|rfl| (cases d<;>rfl)) rfl
theorem R2 (ts:Array TypeId)(x y:Operand):run cx apps dsts (⟨d,.call ⟨.builtin .min,#[x,y],ts⟩,ty,pos,aft,none⟩::l) id e h fs K=AN (eB cx.N d) (dr cx apps dsts l id id d e h fs K (ez false (on cx e x) (on cx e y))):=
 cq cx apps dsts l id id d e h fs K ty pos aft (.call ⟨.builtin .min,#[x,y],ts⟩) (ez false (on cx e x) (on cx e y)) (by first|rfl| (cases d<;>rfl)) rfl
theorem R3 (ts:Array TypeId)(x y:Operand):run cx apps dsts (⟨d,.call ⟨.builtin .max,#[x,y],ts⟩,ty,pos,aft,none⟩::l) id e h fs K=AN (eB cx.N d) (dr cx apps dsts l id id d e h fs K (ez true (on cx e x) (on cx e y))):=
 cq cx apps dsts l id id d e h fs K ty pos aft (.call ⟨.builtin .max,#[x,y],ts⟩) (ez true (on cx e x) (on cx e y)) (by first|rfl| (cases d<;>rfl)) rfl
theorem Lo (ts:Array TypeId)(f:Operand)(xs:List Operand):run cx apps dsts (⟨d,.call ⟨.value f,xs.toArray,ts⟩,ty,pos,aft,none⟩::l) id e h fs K=AN (eB cx.N d) (dr cx apps dsts l id id d e h fs K (zg cx (on cx e f) (wS cx e xs))):=
 cq cx apps dsts l id id d e h fs K ty pos aft (.call ⟨.value f,xs.toArray,ts⟩) (zg cx (on cx e f) (wS cx e xs)) (by rw[splanA.eq_def];simp only[];rw[splan.eq_def];simp only[];rw[HV];show kh cx (on cx e f) _=_;unfold kh zg;cases on cx e f<;>first|rfl| (simp only[wU];rfl)) rfl
end
end Go.Sx
namespace Go.Sx
open Go.RowKit
def bE (x:BitVec 32):Value:= .int .u32 x.toNat
def w8 (x:UInt8):Value:= .int .u8 x.toNat
def nI (n:Nat):Value:= .int .i64 n
def nU (n:Nat):Value:= .int .u64 n
def str (l:List UInt8):Value:= .string ⟨l.toArray⟩
theorem Zn (l:List UInt8):Value.string ⟨l.toArray⟩ =str l:=rfl
theorem ax {l l':List UInt8}:str l=str l'↔l=l':=by
 constructor
 . intro h
   simp only[str,Value.string.injEq,ByteArray.mk.injEq] at h
   simpa using congrArg Array.toList h
 . rintro rfl;rfl
theorem aU {a b:UInt8}:w8 a=w8 b↔a=b:=by
 simp only[w8,Value.int.injEq,true_and]
 constructor
 . intro h;exact UInt8.toNat_inj.1 (by omega)
 . rintro rfl;rfl
theorem aF {a b:BitVec 32}:bE a=bE b↔a=b:=by
 simp only[bE,Value.int.injEq,true_and]
 constructor
 . intro h;exact BitVec.eq_of_toNat_eq (by omega)
 . rintro rfl;rfl
theorem aI {a b:Nat}:nI a=nI b↔a=b:=by simp only[nI,Value.int.injEq,true_and];omega
theorem aV {a b:Nat}:nU a=nU b↔a=b:=by simp only[nU,Value.int.injEq,true_and];omega
def cl {α:Type}(f:α→List C)(l:List α):List C:=l.flatMap f
def sl {α:Type}(f:α→List C)(r:Rt)(l:List α):C:= .sl r l.length (cl f l)
class Cel {α:Type} (f:α→List C) (s:outParam Nat):Prop where
 len:∀a,(f a).length=s
 clean:∀a,(f a).map C.noR=f a
 pos:0< s
 live:∀a r,bK (some (f a++r)) =some (f a++r)
class Sca {α:Type} (f:α→List C) (g:outParam (α→C)):Prop where
 one:∀a,f a= [g a]
 clean:∀a,(g a).noR=g a
 cells:∀a,(g a).cells?=some [g a]
 live:∀a r,bK (some (g a::r)) =some (g a::r)
def bC (b:UInt8):List C:=[.val (w8 b)]
def wC (b:BitVec 32):List C:=[.val (bE b)]
def sC (b:List UInt8):List C:=[.val (str b)]
def iC (b:Int):List C:=[.val (.int .i64 b)]
def nC (b:Nat):List C:=[.val (nI b)]
def oC (b:Bool):List C:=[.val (.bool b)]
instance:Sca bC (fun b=> .val (w8 b)):=⟨fun _=>rfl,fun _=>rfl,fun _=>rfl,fun _ _=>rfl⟩
instance:Sca wC (fun b=> .val (bE b)):=⟨fun _=>rfl,fun _=>rfl,fun _=>rfl,fun _ _=>rfl⟩
instance:Sca sC (fun b=> .val (str b)):=⟨fun _=>rfl,fun _=>rfl,fun _=>rfl,fun _ _=>rfl⟩
instance:Sca iC (fun b=> .val (.int .i64 b)):=⟨fun _=>rfl,fun _=>rfl,fun _=>rfl,fun _ _=>rfl⟩
instance:Sca nC (fun b=> .val (nI b)):=⟨fun _=>rfl,fun _=>rfl,fun _=>rfl,fun _ _=>rfl⟩
instance:Sca oC (fun b=> .val (.bool b)):=⟨fun _=>rfl,fun _=>rfl,fun _=>rfl,fun _ _=>rfl⟩
instance {α:Type} {f:α→List C} {g:α→C} [h:Sca f g]:Cel f 1:=⟨fun a=>by rw[h.one];rfl,fun a=>by rw[h.one];simp[h.clean],by decide,fun a r=>by rw[h.one];exact h.live a r⟩
theorem BG (l:List UInt8):l.map kC=cl bC l:=by
 unfold cl;induction l with
 |nil=>rfl
 |cons a l ih=>simp only[List.map_cons,ih,List.flatMap_cons];rfl
section
variable {α:Type} {f:α→List C} {s:Nat} [hf:Cel f s]
omit hf in
theorem nV:cl f [] = []:=rfl
omit hf in
theorem dO (a:α)(l:List α):cl f (a::l) =f a++cl f l:=rfl
omit hf in
theorem iq (l l':List α):cl f (l++l') =cl f l++cl f l':=by simp[cl]
theorem bm:∀l:List α,(cl f l).length=l.length*s
 | [] =>by simp[cl]
 |a::l=>by rw[dO,List.length_append,hf.len,bm l,List.length_cons,Nat.add_mul,Nat.one_mul,Nat.add_comm]
include hf in
theorem fu:∀l:List α,(cl f l).map C.noR=cl f l
 | [] =>rfl
 |a::l=>by rw[dO,List.map_append,hf.clean,fu l]
theorem gi:∀ (l:List α)(k:Nat),(cl f l).drop (k*s) =cl f (l.drop k)
 |l,0=>by simp
 | [],k+1=>by simp[cl]
 |a::l,k+1=>by
  have e: (k+1)*s=s+k*s:=by rw[Nat.add_mul,Nat.one_mul,Nat.add_comm]
  have h: ((f a)++cl f l).drop s=cl f l:=by
   have:=List.drop_left (l₁:=f a) (l₂:=cl f l)
   rwa [hf.len] at this
  rw[dO,e,←List.drop_drop,h,List.drop_succ_cons]
  exact gi l k
theorem iI:∀ (l:List α)(k:Nat),(cl f l).take (k*s) =cl f (l.take k)
 |l,0=>by simp[cl]
 | [],k+1=>by simp[cl]
 |a::l,k+1=>by
  have e: (k+1)*s=s+k*s:=by rw[Nat.add_mul,Nat.one_mul,Nat.add_comm]
  rw[dO,e,List.take_append,hf.len,List.take_of_length_le (by rw[hf.len];omega),List.take_succ_cons,dO,Nat.add_sub_cancel_left,iI l k]
theorem mC (l:List α)(k:Nat)(a:α)(h:k< l.length):splice (cl f l) (k*s) (f a) =cl f (l.set k a):=by
 unfold splice
 rw[iI,hf.len,←Nat.succ_mul,gi,List.set_eq_take_append_cons_drop,if_pos h,iq,dO,List.append_assoc]
theorem Ik (l l':List α)(k:Nat):splice (cl f l) (k*s) (cl f l') =cl f (l.take k++l'++l.drop (k+l'.length)):=by
 unfold splice
 rw[iI,bm,←Nat.add_mul,gi,iq,iq]
theorem PX (l:List α)(k:Nat)(a:α)(h:l[k]? =some a): ((cl f l).drop (k*s)).take s=f a:=by
 rw[gi]
 obtain ⟨hk,rfl⟩:=List.getElem?_eq_some_iff.1 h
 rw[List.drop_eq_getElem_cons hk,dO,List.take_append,hf.len,Nat.sub_self,List.take_zero,List.append_nil,List.take_of_length_le (by rw[hf.len];exact Nat.le_refl _)]
end
section
variable {α:Type} [Inhabited α] {f:α→List C} {g:α→C} [hf:Sca f g]
theorem Il (l:List α)(k:Nat)(h:k< l.length): (cl f l)[k]? =some (g (l.getD k default)):=by
 have hq:l[k]? =some (l.getD k default):=by simp[List.getD,List.getElem?_eq_getElem h]
 have:=PX (f:=f) l k _ hq
 rw[Nat.mul_one,hf.one] at this
 have h2:=congrArg (fun z=>z[0]?) this
 simpa[List.getElem?_take,List.getElem?_drop] using h2
end
theorem Lp (x:Option (List C))(h:Hp):Hp.at (x::h) 0=bK x:=rfl
theorem Im:bK (some eb) =none:=rfl
theorem Lq (v:Value)(r:List C):bK (some (.val v::r)) =some (.val v::r):=rfl
theorem R4 (f:Nat)(xs r:List C):bK (some (.fn f xs::r)) =some (.fn f xs::r):=rfl
theorem Lr {α:Type}(f:α→List C)(q:Rt)(l:List α)(r:List C):bK (some (sl f q l::r)) =some (sl f q l::r):=rfl
theorem R5 {α:Type}(f:α→List C){s:Nat}[hf:Cel f s](l:List α):bK (some (cl f l)) =some (cl f l):=by
 cases l with
 |nil=>rfl
 |cons a l=>exact hf.live a _
theorem Zo {α:Type}(f:α→List C){s:Nat}[hf:Cel f s](a:α):bK (some (f a)) =some (f a):=by
 have:=hf.live a []
 simpa using this
theorem th {α:Type}(f:α→List C){s:Nat}[hf:Cel f s](l:List α)(r:List C)(h:bK (some r) =some r):bK (some (cl f l++r)) =some (cl f l++r):=by
 cases l with
 |nil=>exact h
 |cons a l=>rw[dO,List.append_assoc];exact hf.live a _
theorem Ls (x:Option (List C))(h:Hp)(n:Nat):Hp.at (x::h) (n+1) =Hp.at h n:=by simp[Hp.at]
def dH (cells:List C)(o:Nat):Option C:=(cells[o]?).map C.noR
def kU (cells:List C)(o n:Nat):Option C:=if o+n≤cells.length then some (.agg (((cells.drop o).take n).map C.noR)) else none
def eL (cells:List C)(o:Nat)(cs:List C):Option (List C×C):=if o+cs.length≤cells.length then some (splice cells o cs,.val undef) else none
def Dw (cells:List C)(o:Nat)(c:C):Option (List C×C):=if o< cells.length then some (cells.set o c,.val undef) else none
theorem wW (c:C)(l:List C):dH (c::l) 0=some c.noR:=rfl
theorem In (c:C)(l:List C)(n:Nat):dH (c::l) (n+1) =dH l n:=by simp[dH]
theorem oI (l:List C)(k n:Nat):dH (l.drop k) n=dH l (k+n):=by simp[dH,List.getElem?_drop]
theorem pQ {α:Type}[Inhabited α]{f:α→List C}{g:α→C}[hf:Sca f g](l:List α)(k:Nat)(h:k< l.length):dH (cl f l) k=some (g (l.getD k default)):=by
 simp only[dH,Il (f:=f) l k h,Option.map_some,hf.clean]
theorem R6 {α:Type}[Inhabited α]{f:α→List C}{g:α→C}[hf:Sca f g](l:List α)(r:List C)(k:Nat)(h:k< l.length):dH (cl f l++r) k=some (g (l.getD k default)):=by
 rw[←pQ (f:=f) l k h]
 simp only[dH]
 rw[List.getElem?_append_left (by rw[bm (f:=f)];omega)]
theorem Dx {α:Type}{f:α→List C}{s:Nat}[hf:Cel f s](l:List α)(r:List C)(k:Nat)(h:l.length*s≤k):dH (cl f l++r) k=dH r (k - l.length*s):=by
 simp only[dH]
 rw[List.getElem?_append_right (by rw[bm (f:=f)];exact h),bm (f:=f)]
theorem R7 {α:Type}{f:α→List C}{s:Nat}[hf:Cel f s](l:List α)(r:List C)(n:Nat)(h:l.length*s=n):kU (cl f l++r) 0 n=some (.agg (cl f l)):=by
 subst h
 simp only[kU,Nat.zero_add,List.length_append,bm (f:=f),Nat.le_add_right,if_true,List.drop_zero]
 rw[←bm (f:=f) l,List.take_left,fu]
theorem R8 {α:Type}[Inhabited α]{f:α→List C}{s:Nat}[hf:Cel f s](l:List α)(k:Nat)(h:k< l.length):kU (cl f l) (k*s) s=some (.agg (f (l.getD k default))):=by
 have hq:l[k]? =some (l.getD k default):=by simp[List.getD,List.getElem?_eq_getElem h]
 simp only[kU]
 rw[if_pos (by rw[bm (f:=f),←Nat.succ_mul];exact Nat.mul_le_mul_right _ h),PX (f:=f) l k _ hq,hf.clean]
theorem Io {α:Type}{f:α→List C}{g:α→C}[hf:Sca f g](l:List α)(k:Nat)(a:α)(h:k< l.length):eL (cl f l) k [g a] =some (cl f (l.set k a),.val undef):=by
 have:=mC (f:=f) l k a h
 rw[Nat.mul_one,hf.one] at this
 simp only[eL]
 rw[if_pos (by rw[bm (f:=f)];simp;omega),this]
theorem sJ (x r cs:List C)(o:Nat)(h:o+cs.length≤x.length):splice (x++r) o cs=splice x o cs++r:=by
 unfold splice
 rw[List.take_append_of_le_length (by omega),List.drop_append_of_le_length h]
 simp
theorem sK (x r cs:List C)(o:Nat)(h:x.length≤o):splice (x++r) o cs=x++splice r (o - x.length) cs:=by
 unfold splice
 rw[List.take_append,List.take_of_length_le h,List.drop_append,List.drop_of_length_le (by omega)]
 simp
 congr 1;omega
theorem Dy {α:Type}{f:α→List C}{s:Nat}[hf:Cel f s](l:List α)(r cs:List C)(o:Nat)(h:l.length*s≤o):eL (cl f l++r) o cs= (eL r (o - l.length*s) cs).map fun q=>(cl f l++q.1,q.2):=by
 have hl:=bm (f:=f) l
 simp only[eL,List.length_append,hl]
 rw[sK _ _ _ _ (by rw[hl];exact h),hl]
 by_cases hh:o+cs.length≤l.length*s+r.length
 . rw[if_pos hh,if_pos (by omega)];rfl
 . rw[if_neg hh,if_neg (by omega)];rfl
theorem Dz {α:Type}{f:α→List C}{s:Nat}[hf:Cel f s](l l':List α)(h:l'.length=l.length):eL (cl f l) 0 (cl f l') =some (cl f l',.val undef):=by
 simp only[eL,bm (f:=f),h,Nat.zero_add,Nat.le_refl,if_true,splice,List.take_zero,List.nil_append]
 rw[List.drop_of_length_le (by rw[bm (f:=f)];exact Nat.le_refl _),List.append_nil]
theorem Lt {α:Type}{f:α→List C}{s:Nat}[hf:Cel f s](l l':List α)(r:List C)(h:l'.length=l.length):eL (cl f l++r) 0 (cl f l') =some (cl f l'++r,.val undef):=by
 have hl:=bm (f:=f) l
 have hl':=bm (f:=f) l'
 have:=Dz (f:=f) l l' h
 simp only[eL,List.length_append,hl,hl',h,Nat.zero_add,Nat.le_refl,Nat.le_add_right,if_true] at this ⊢
 rw[sJ _ _ _ _ (by rw[hl,hl',h,Nat.zero_add];exact Nat.le_refl _)]
 simp only[Option.some.injEq,Prod.mk.injEq,and_true] at this
 rw[this]
theorem R9 (a c:C):Dw [a] 0 c=some ([c],.val undef):=rfl
end Go.Sx
namespace Go.Sx
open Go.RowKit
theorem lO (n:Int):IntKind.wrap .u8 n=n % 256:=by simp[IntKind.wrap,IntKind.bits,IntKind.signed]
theorem oJ (n:Int):IntKind.wrap .u32 n=n % 4294967296:=by simp[IntKind.wrap,IntKind.bits,IntKind.signed]
theorem fN (n:Int):IntKind.wrap .u64 n=n % 18446744073709551616:=by simp[IntKind.wrap,IntKind.bits,IntKind.signed]
theorem eg (n:Int)(h: -9223372036854775808≤n)(h2:n< 9223372036854775808):IntKind.wrap .i64 n=n:=by
 have e:IntKind.wrap .i64 n=if n % 18446744073709551616≥9223372036854775808 then n % 18446744073709551616 - 18446744073709551616 else n % 18446744073709551616:=by
  simp[IntKind.wrap,IntKind.bits,IntKind.signed]
 rw[e]
 split<;>omega
theorem oK (z:BitVec 32):IntKind.wrap .u32 (z.toNat:Int) =z.toNat:=by rw[oJ];have:=z.isLt;omega
theorem ir (z:BitVec 32):BitVec.ofInt 32 (z.toNat:Int) =z:=by simp
theorem Sa (n:Nat)(h:n< 4294967296):Value.int .u32 (n:Int) =bE (BitVec.ofNat 32 n):=by
 simp only[bE,BitVec.toNat_ofNat];rw[Nat.mod_eq_of_lt (by simpa using h)]
theorem Lu (n:Nat)(h:n< 4294967296):Value.int .u32 (no_index (OfNat.ofNat n:Int)) =bE (BitVec.ofNat 32 n):=Sa n h
theorem Sb (n:Nat)(h:n< 256):Value.int .u8 (no_index (OfNat.ofNat n:Int)) =w8 (UInt8.ofNat n):=by
 simp only[w8,UInt8.toNat_ofNat'];rw[Nat.mod_eq_of_lt (by simpa using h)];rfl
theorem Sc (n:Nat):Value.int .i64 (no_index (OfNat.ofNat n:Int)) =nI n:=rfl
theorem Sd (n:Nat):Value.int .u64 (no_index (OfNat.ofNat n:Int)) =nU n:=rfl
section
variable (P:Program) (t:TypeId)
theorem bu (op:BinOp)(k k':IntKind)(a b:Int):aw P op t (.val (.int k a)) (.val (.int k' b)) = (bX op (.int k a) (.int k' b)).map fun v=>vp (.val v):=by
 unfold aw;cases td P t<;>rfl
theorem lP (op:BinOp)(a b:ByteArray):aw P op t (.val (.string a)) (.val (.string b)) = (bX op (.string a) (.string b)).map fun v=>vp (.val v):=by
 unfold aw;cases td P t<;>rfl
theorem aet (x y:BitVec 32):aw P .add t (.val (bE x)) (.val (bE y)) =some (vp (.val (bE (x+y)))):=by
 simp only[bE,bu,bX,ne_eq,not_true_eq_false,if_false,Option.map_some,oJ,BitVec.toNat_add];simp
theorem aeu (x y:BitVec 32):aw P .xor t (.val (bE x)) (.val (bE y)) =some (vp (.val (bE (x ^^^ y)))):=by
 simp only[bE,bu]
 show some (vp (.val (.int .u32 (IntKind.wrap .u32 ((BitVec.ofInt 32 (x.toNat:Int) ^^^ BitVec.ofInt 32 (y.toNat:Int)).toNat:Int))))) =_
 rw[ir,ir,oK]
theorem aev (x y:BitVec 32):aw P .and t (.val (bE x)) (.val (bE y)) =some (vp (.val (bE (x &&& y)))):=by
 simp only[bE,bu]
 show some (vp (.val (.int .u32 (IntKind.wrap .u32 ((BitVec.ofInt 32 (x.toNat:Int) &&& BitVec.ofInt 32 (y.toNat:Int)).toNat:Int))))) =_
 rw[ir,ir,oK]
theorem ai8 (x y:BitVec 32):aw P .or t (.val (bE x)) (.val (bE y)) =some (vp (.val (bE (x|||y)))):=by
 simp only[bE,bu]
 show some (vp (.val (.int .u32 (IntKind.wrap .u32 ((BitVec.ofInt 32 (x.toNat:Int) |||BitVec.ofInt 32 (y.toNat:Int)).toNat:Int))))) =_
 rw[ir,ir,oK]
theorem aew (x:BitVec 32):gQ .xor (.val (bE x)) =some (vp (.val (bE (~~~x)))):=by
 show some (vp (.val (.int .u32 (IntKind.wrap .u32 ((BitVec.ofInt 32 4294967295 ^^^ BitVec.ofInt 32 (x.toNat:Int)).toNat:Int))))) =_
 have e:BitVec.ofInt 32 4294967295=BitVec.allOnes 32:=by decide
 rw[ir,e,BitVec.allOnes_xor,oK]
 rfl
theorem PY (x:BitVec 32)(k:IntKind)(n:Nat):aw P .shl t (.val (bE x)) (.val (.int k n)) =some (vp (.val (bE (x<<< n)))):=by
 rw[bE,bu]
 have e:bX .shl (.int .u32 (x.toNat:Int)) (.int k (n:Int)) =some (.int .u32 (IntKind.wrap .u32 ((x.toNat:Int)*2 ^ (min n 32)))):=by
  show (if (n:Int) < 0 then none else _) =_
  rw[if_neg (by omega)]
  rfl
 rw[e,oJ,bE,BitVec.toNat_shiftLeft,Nat.shiftLeft_eq]
 show some (vp (.val _)) =_
 congr 4
 have ep:∀m:Nat,(x.toNat:Int)*2 ^ m= ((x.toNat*2 ^ m:Nat):Int):=fun m=>by rw[Int.natCast_mul,Int.natCast_pow];rfl
 by_cases h:n≤32
 . rw[Nat.min_eq_left h,ep];exact (Int.natCast_emod _ 4294967296).symm
 . rw[Nat.min_eq_right (by omega)]
   obtain ⟨m,rfl⟩:∃m,n=32+m:=⟨n - 32,by omega⟩
   rw[Nat.pow_add,←Nat.mul_assoc,Nat.mul_right_comm,Nat.mul_mod_left]
   omega
theorem PZ (x:BitVec 32)(k:IntKind)(n:Nat):aw P .shr t (.val (bE x)) (.val (.int k n)) =some (vp (.val (bE (x>>>n)))):=by
 rw[bE,bu]
 have e:bX .shr (.int .u32 (x.toNat:Int)) (.int k (n:Int)) =some (.int .u32 ((x.toNat:Int).fdiv (2 ^ (min n 32)))):=by
  show (if (n:Int) < 0 then none else _) =_
  rw[if_neg (by omega)]
  rfl
 rw[e,bE,BitVec.toNat_ushiftRight,Nat.shiftRight_eq_div_pow]
 show some (vp (.val _)) =_
 congr 4
 have hx:=x.isLt
 by_cases h:n≤32
 . rw[Nat.min_eq_left h,Int.fdiv_eq_ediv_of_nonneg _ (Int.le_of_lt (Int.pow_pos (by decide)))]
   have ep: (2:Int) ^ n= ((2 ^ n:Nat):Int):=by rw[Int.natCast_pow];rfl
   rw[ep,←Int.natCast_ediv]
 . rw[Nat.min_eq_right (by omega),Nat.div_eq_of_lt (Nat.lt_of_lt_of_le hx (Nat.pow_le_pow_right (by omega) (by omega)))]
   rw[Int.fdiv_eq_ediv_of_nonneg _ (by omega)];omega
end
end Go.Sx
namespace Go.Sx
open Go.RowKit
theorem Se (z:UInt8):IntKind.wrap .u8 (z.toNat:Int) =z.toNat:=by rw[lO];have:=z.toNat_lt;omega
theorem BH (z:UInt8):BitVec.ofInt 8 (z.toNat:Int) =z.toBitVec:=by
 apply BitVec.eq_of_toNat_eq;simp
section
variable (P:Program) (t:TypeId)
theorem aex (x y:UInt8):aw P .xor t (.val (w8 x)) (.val (w8 y)) =some (vp (.val (w8 (x ^^^ y)))):=by
 simp only[w8,bu]
 show some (vp (.val (.int .u8 (IntKind.wrap .u8 ((BitVec.ofInt 8 (x.toNat:Int) ^^^ BitVec.ofInt 8 (y.toNat:Int)).toNat:Int))))) =_
 rw[BH,BH]
 show some (vp (.val (.int .u8 (IntKind.wrap .u8 ((x ^^^ y).toNat:Int))))) =_
 rw[Se]
theorem aey (x y:UInt8):aw P .sub t (.val (w8 x)) (.val (w8 y)) =some (vp (.val (w8 (x - y)))):=by
 simp only[w8,bu,bX,ne_eq,not_true_eq_false,if_false,Option.map_some,lO,UInt8.toNat_sub]
 have:=x.toNat_lt;have:=y.toNat_lt
 congr 4;omega
theorem aez (x y:UInt8):aw P .eql t (.val (w8 x)) (.val (w8 y)) =some (vp (.val (.bool (decide (x=y))))):=by
 simp only[w8,bu,bX,ne_eq,not_true_eq_false,if_false,Option.map_some]
 congr 4;rw[Bool.eq_iff_iff];simp[←UInt8.toNat_inj];omega
theorem aeA (x y:UInt8):aw P .neq t (.val (w8 x)) (.val (w8 y)) =some (vp (.val (.bool (decide (x≠y))))):=by
 simp only[w8,bu,bX,ne_eq,not_true_eq_false,if_false,Option.map_some]
 congr 4;rw[Bool.eq_iff_iff];simp[←UInt8.toNat_inj];omega
theorem aeB (x y:UInt8):aw P .lss t (.val (w8 x)) (.val (w8 y)) =some (vp (.val (.bool (decide (x< y))))):=by
 simp only[w8,bu,bX,ne_eq,not_true_eq_false,if_false,Option.map_some]
 congr 4;rw[Bool.eq_iff_iff];simp[UInt8.lt_iff_toNat_lt]
theorem aeC (x y:UInt8):aw P .gtr t (.val (w8 x)) (.val (w8 y)) =some (vp (.val (.bool (decide (y< x))))):=by
 simp only[w8,bu,bX,ne_eq,not_true_eq_false,if_false,Option.map_some]
 congr 4;rw[Bool.eq_iff_iff];simp[UInt8.lt_iff_toNat_lt]
theorem aeD (x y:Nat)(h:x+y< 9223372036854775808):aw P .add t (.val (nI x)) (.val (nI y)) =some (vp (.val (nI (x+y)))):=by
 simp only[nI,bu,bX,ne_eq,not_true_eq_false,if_false,Option.map_some]
 rw[eg _ (by omega) (by omega)];simp
theorem aeE (x y:Nat)(h:y≤x∧x< 9223372036854775808):aw P .sub t (.val (nI x)) (.val (nI y)) =some (vp (.val (nI (x - y)))):=by
 simp only[nI,bu,bX,ne_eq,not_true_eq_false,if_false,Option.map_some]
 rw[eg _ (by omega) (by omega)];congr 4;omega
theorem aeF (x y:Nat)(h:x*y< 9223372036854775808):aw P .mul t (.val (nI x)) (.val (nI y)) =some (vp (.val (nI (x*y)))):=by
 have e: (x:Int)*(y:Int) = ((x*y:Nat):Int):=by simp
 simp only[nI,bu,bX,ne_eq,not_true_eq_false,if_false,Option.map_some]
 rw[e,eg _ (by omega) (by omega)]
theorem aeG (x y:Nat)(h:0< y∧x< 9223372036854775808):aw P .quo t (.val (nI x)) (.val (nI y)) =some (vp (.val (nI (x / y)))):=by
 have hy: (y:Int)≠0:=by omega
 have h2:x / y≤x:=Nat.div_le_self ..
 simp only[nI,bu,bX,ne_eq,not_true_eq_false,if_false,Option.map_some,hy]
 have e: ((x:Int).tdiv (y:Int)) = ((x / y:Nat):Int):=rfl
 rw[e]
 generalize x / y=q at h2
 rw[eg _ (by omega) (by omega)]
theorem aeH (x y:Nat)(h:0< y):aw P .rem t (.val (nI x)) (.val (nI y)) =some (vp (.val (nI (x % y)))):=by
 have hy: (y:Int)≠0:=by omega
 simp only[nI,bu,bX,ne_eq,not_true_eq_false,if_false,Option.map_some,hy]
 rfl
theorem aeI (x y:Nat):aw P .eql t (.val (nI x)) (.val (nI y)) =some (vp (.val (.bool (decide (x=y))))):=by
 simp only[nI,bu,bX,ne_eq,not_true_eq_false,if_false,Option.map_some]
 congr 4;rw[Bool.eq_iff_iff];simp;omega
theorem aeJ (x y:Nat):aw P .neq t (.val (nI x)) (.val (nI y)) =some (vp (.val (.bool (decide (x≠y))))):=by
 simp only[nI,bu,bX,ne_eq,not_true_eq_false,if_false,Option.map_some]
 congr 4;rw[Bool.eq_iff_iff];simp;omega
theorem aeK (x y:Nat):aw P .lss t (.val (nI x)) (.val (nI y)) =some (vp (.val (.bool (decide (x< y))))):=by
 simp only[nI,bu,bX,ne_eq,not_true_eq_false,if_false,Option.map_some]
 congr 4;rw[Bool.eq_iff_iff];simp
theorem aeL (x y:Nat):aw P .leq t (.val (nI x)) (.val (nI y)) =some (vp (.val (.bool (decide (x≤y))))):=by
 simp only[nI,bu,bX,ne_eq,not_true_eq_false,if_false,Option.map_some]
 congr 4;rw[Bool.eq_iff_iff];simp
theorem aeM (x y:Nat):aw P .gtr t (.val (nI x)) (.val (nI y)) =some (vp (.val (.bool (decide (y< x))))):=by
 simp only[nI,bu,bX,ne_eq,not_true_eq_false,if_false,Option.map_some]
 congr 4;rw[Bool.eq_iff_iff];simp
theorem aeN (x y:Nat):aw P .geq t (.val (nI x)) (.val (nI y)) =some (vp (.val (.bool (decide (y≤x))))):=by
 simp only[nI,bu,bX,ne_eq,not_true_eq_false,if_false,Option.map_some]
 congr 4;rw[Bool.eq_iff_iff];simp
theorem aeO (x y:Nat)(h:x+y< 18446744073709551616):aw P .add t (.val (nU x)) (.val (nU y)) =some (vp (.val (nU (x+y)))):=by
 simp only[nU,bu,bX,ne_eq,not_true_eq_false,if_false,Option.map_some,fN]
 congr 4;omega
theorem aeP (x y:Nat)(h:y≤x∧x< 18446744073709551616):aw P .sub t (.val (nU x)) (.val (nU y)) =some (vp (.val (nU (x - y)))):=by
 simp only[nU,bu,bX,ne_eq,not_true_eq_false,if_false,Option.map_some,fN]
 congr 4;omega
theorem aeQ (x y:Nat)(h:x*y< 18446744073709551616):aw P .mul t (.val (nU x)) (.val (nU y)) =some (vp (.val (nU (x*y)))):=by
 have e: (x:Int)*(y:Int) = ((x*y:Nat):Int):=by simp
 simp only[nU,bu,bX,ne_eq,not_true_eq_false,if_false,Option.map_some,fN]
 rw[e];congr 4;omega
theorem aeR (x y:Nat)(h:0< y):aw P .rem t (.val (nU x)) (.val (nU y)) =some (vp (.val (nU (x % y)))):=by
 have hy: (y:Int)≠0:=by omega
 simp only[nU,bu,bX,ne_eq,not_true_eq_false,if_false,Option.map_some,hy]
 rfl
theorem aeS (x y:Nat)(h:x< 18446744073709551616∧y< 18446744073709551616):aw P .and t (.val (nU x)) (.val (nU y)) =some (vp (.val (nU (x &&& y)))):=by
 simp only[nU,bu]
 show some (vp (.val (.int .u64 (IntKind.wrap .u64 ((BitVec.ofInt 64 (x:Int) &&& BitVec.ofInt 64 (y:Int)).toNat:Int))))) =_
 rw[BitVec.ofInt_natCast,BitVec.ofInt_natCast,BitVec.toNat_and,BitVec.toNat_ofNat,BitVec.toNat_ofNat,Nat.mod_eq_of_lt h.1,Nat.mod_eq_of_lt h.2,fN]
 have:x &&& y≤x:=Nat.and_le_left
 congr 4;omega
theorem P0 (x n:Nat)(k:IntKind)(h:x< 18446744073709551616):aw P .shr t (.val (nU x)) (.val (.int k n)) =some (vp (.val (nU (x>>>n)))):=by
 rw[nU,bu]
 have e:bX .shr (.int .u64 (x:Int)) (.int k (n:Int)) =some (.int .u64 ((x:Int).fdiv (2 ^ (min n 64)))):=by
  show (if (n:Int) < 0 then none else _) =_
  rw[if_neg (by omega)]
  rfl
 rw[e,nU,Nat.shiftRight_eq_div_pow]
 show some (vp (.val _)) =_
 congr 4
 by_cases h:n≤64
 . rw[Nat.min_eq_left h,Int.fdiv_eq_ediv_of_nonneg _ (Int.le_of_lt (Int.pow_pos (by decide)))]
   have ep: (2:Int) ^ n= ((2 ^ n:Nat):Int):=by rw[Int.natCast_pow];rfl
   rw[ep,←Int.natCast_ediv]
 . rename_i hx
   rw[Nat.min_eq_right (by omega),Nat.div_eq_of_lt (Nat.lt_of_lt_of_le hx (by
    have: (2:Nat) ^ 64≤2 ^ n:=Nat.pow_le_pow_right (by omega) (by omega)
    omega))]
   rw[Int.fdiv_eq_ediv_of_nonneg _ (by omega)];omega
theorem Ip (x n:Nat)(h:x< 18446744073709551616):aw P .shr t (.val (nU x)) (.val (nI n)) =some (vp (.val (nU (x>>>n)))):=P0 P t x n .i64 h
theorem Zp (x n:Nat)(h:x< 18446744073709551616):aw P .shr t (.val (nU x)) (.val (nU n)) =some (vp (.val (nU (x>>>n)))):=P0 P t x n .u64 h
theorem Zq (x:BitVec 32)(n:Nat):aw P .shl t (.val (bE x)) (.val (nI n)) =some (vp (.val (bE (x<<< n)))):=PY P t x .i64 n
theorem Zr (x:BitVec 32)(n:Nat):aw P .shl t (.val (bE x)) (.val (nU n)) =some (vp (.val (bE (x<<< n)))):=PY P t x .u64 n
theorem Zs (x:BitVec 32)(n:Nat):aw P .shr t (.val (bE x)) (.val (nI n)) =some (vp (.val (bE (x>>>n)))):=PZ P t x .i64 n
theorem Zt (x:BitVec 32)(n:Nat):aw P .shr t (.val (bE x)) (.val (nU n)) =some (vp (.val (bE (x>>>n)))):=PZ P t x .u64 n
theorem kj (l:List UInt8): (⟨l.toArray⟩:ByteArray).size=l.length:=by simp[ByteArray.size]
theorem kV (l:List UInt8): (⟨l.toArray⟩:ByteArray).toList=l:=by
 have key:∀ (n:Nat)(i:Nat)(r:List UInt8),l.length - i=n→i≤l.length→ByteArray.toList.loop ⟨l.toArray⟩ i r=r.reverse++l.drop i:=by
  intro n
  induction n with
  |zero=>
   intro i r h hi
   rw[ByteArray.toList.loop,kj,if_neg (by omega),List.drop_of_length_le (by omega),List.append_nil]
  |succ n ih=>
   intro i r h hi
   rw[ByteArray.toList.loop,kj,if_pos (by omega),ih _ _ (by omega) (by omega)]
   have hlt:i< l.length:=by omega
   rw[List.drop_eq_getElem_cons hlt]
   simp[ByteArray.get!,hlt]
 have:=key l.length 0 [] rfl (Nat.zero_le _)
 simpa[ByteArray.toList] using this
theorem aeT (x y:List UInt8):aw P .eql t (.val (str x)) (.val (str y)) =some (vp (.val (.bool (decide (x=y))))):=by
 simp only[str,lP,bX,kV,Option.map_some]
 congr 4
 rw[Bool.eq_iff_iff];simp
theorem aeU (x y:List UInt8):aw P .neq t (.val (str x)) (.val (str y)) =some (vp (.val (.bool (decide (x≠y))))):=by
 simp only[str,lP,bX,kV,Option.map_some]
 congr 4
 by_cases h:x=y<;>simp[h]
theorem aeV (x y:List UInt8)(h:x.length+y.length< 9223372036854775808):aw P .add t (.val (str x)) (.val (str y)) =some (vp (.val (str (x++y)))):=by
 simp only[str,lP,bX,kj]
 rw[if_pos (by omega)]
 simp only[Option.map_some]
 congr 4
theorem P2 (x y:List UInt8):aw P .lss t (.val (str x)) (.val (str y)) =some (vp (.val (.bool (Op.bytesLess x y)))):=by
 simp only[str,lP,bX,kV,Option.map_some]
end
end Go.Sx
namespace Go.Sx
open Go.RowKit
def gt {α:Type}[Inhabited α](l:List α)(k:Nat):α:=l.getD k default
def lu (P:Program)(s d:Option TD)(c:C):Option Plan:=match s,d with
 |some ds,some dd=>
  match ds.u,dd.u,c with
  |_,.int k,.val (.int _ n) =>some (.pure (.val (.int k (k.wrap n))))
  |_,.string,.val (.string s) =>some (.pure (.val (.string s)))
  | .string,.slice e,.val (.string s) =>match td P e with
    |some de=>(match de.u with
     | .int .u8=>if s.size≤140737488355328 then some (.pure (.sl .no s.size (s.data.toList.map kC))) else none
     |_=>none)
    |none=>none
  | .slice e,.string,c=>match td P e with
    |some de=>(match de.u with
     | .int .u8=>(match c with
       | .sv b off n=>some (.rd b fun cells=>if off+n≤cells.length then (fp ((cells.drop off).take n)).map fun ns=> .val (.string (mY ns)) else none)
       |c=>match c.sl? with
        |some (n,xs) =>if xs.length=n then (fp xs).map fun ns=> .pure (.val (.string (mY ns))) else none
        |none=>none)
     |_=>none)
    |none=>none
  |_,_,_=>none
 |_,_=>none
theorem Sf (P:Program)(s d:TypeId)(c:C):fM P s d c=lu P (td P s) (td P d) c:=rfl
section
variable (P:Program) (u1:TypeDesc) (a1 b1 a2 b2 a3 b3:Nat) (z1 z2 z3:List Value)
theorem iu (k k':IntKind)(n:Int):lu P (some ⟨u1,a1,b1,z1⟩) (some ⟨.int k,a2,b2,z2⟩) (.val (.int k' n)) =some (vp (.val (.int k (k.wrap n)))):=by
 cases u1<;>rfl
theorem Lv (x:UInt8):lu P (some ⟨u1,a1,b1,z1⟩) (some ⟨.int .u32,a2,b2,z2⟩) (.val (w8 x)) =some (vp (.val (bE (x.toBitVec.setWidth 32)))):=by
 rw[w8,iu,oJ,bE]
 have:=x.toNat_lt
 congr 4;simp;omega
theorem Lw (x:UInt8):lu P (some ⟨u1,a1,b1,z1⟩) (some ⟨.int .i64,a2,b2,z2⟩) (.val (w8 x)) =some (vp (.val (nI x.toNat))):=by
 have:=x.toNat_lt
 rw[w8,iu,nI,eg _ (by omega) (by omega)]
theorem Lx (x:UInt8):lu P (some ⟨u1,a1,b1,z1⟩) (some ⟨.int .u64,a2,b2,z2⟩) (.val (w8 x)) =some (vp (.val (nU x.toNat))):=by
 have:=x.toNat_lt
 rw[w8,iu,nU,fN];congr 4;omega
theorem Sg (n:Nat)(h:n< 18446744073709551616):lu P (some ⟨u1,a1,b1,z1⟩) (some ⟨.int .u64,a2,b2,z2⟩) (.val (nI n)) =some (vp (.val (nU n))):=by
 rw[nI,iu,nU,fN];congr 4;omega
theorem Si (n:Nat)(h:n< 9223372036854775808):lu P (some ⟨u1,a1,b1,z1⟩) (some ⟨.int .i64,a2,b2,z2⟩) (.val (nU n)) =some (vp (.val (nI n))):=by
 rw[nU,iu,nI,eg _ (by omega) (by omega)]
theorem Ly (x:BitVec 32):lu P (some ⟨u1,a1,b1,z1⟩) (some ⟨.int .u8,a2,b2,z2⟩) (.val (bE x)) =some (vp (.val (w8 ⟨x.setWidth 8⟩))):=by
 rw[bE,iu,lO,w8]
 have: (UInt8.ofBitVec (x.setWidth 8)).toNat=x.toNat % 256:=by simp[UInt8.toNat]
 rw[this];rfl
theorem Lz (n:Nat):lu P (some ⟨u1,a1,b1,z1⟩) (some ⟨.int .u8,a2,b2,z2⟩) (.val (nU n)) =some (vp (.val (w8 (UInt8.ofNat n)))):=by
 rw[nU,iu,lO,w8,UInt8.toNat_ofNat'];rfl
theorem Zu (n:Nat):lu P (some ⟨u1,a1,b1,z1⟩) (some ⟨.int .u8,a2,b2,z2⟩) (.val (nI n)) =some (vp (.val (w8 (UInt8.ofNat n)))):=by
 rw[nI,iu,lO,w8,UInt8.toNat_ofNat'];rfl
theorem Zv (n:Int):lu P (some ⟨u1,a1,b1,z1⟩) (some ⟨.int .u8,a2,b2,z2⟩) (.val (.int .i64 n)) =some (vp (.val (w8 (UInt8.ofNat (n % 256).toNat)))):=by
 rw[iu,lO,w8,UInt8.toNat_ofNat'];congr 4;omega
def P3 (de:Option TD)(l:List UInt8):Option Plan:=match de with
 |some de=>(match de.u with
  | .int .u8=>if l.length≤140737488355328 then some (vp (sl bC .no l)) else none
  |_=>none)
 |none=>none
theorem aeW (e:TypeId)(l:List UInt8):lu P (some ⟨.string,a1,b1,z1⟩) (some ⟨.slice e,a2,b2,z2⟩) (.val (str l)) =P3 (td P e) l:=by
 unfold P3
 show (match td P e with|some de=>_|none=>none) =_
 cases td P e with
 |none=>rfl
 |some de=>
  simp only[]
  split<;>simp_all [kj,sl,BG,RD]
theorem Zw (l:List UInt8)(h:l.length≤140737488355328):P3 (some ⟨.int .u8,a3,b3,z3⟩) l=some (vp (sl bC .no l)):=by
 unfold P3;simp only[];rw[if_pos h]
theorem Iq (l:List UInt8):fp (cl bC l) =some (l.map fun b=>(b.toNat:Int)):=by
 induction l with
 |nil=>rfl
 |cons a l ih=>
  show fp (.val (.int .u8 _)::cl bC l) =_
  simp only[fp,ih,Option.map_some,List.map_cons]
theorem wX (l:List UInt8): (Value.string (mY (l.map fun b=>(b.toNat:Int)))) =str l:=by
 unfold mY str
 rw[List.map_map]
 have: (fun n:Int=>UInt8.ofNat n.toNat) ∘ (fun b:UInt8=>(b.toNat:Int)) =id:=by
  funext b;simp
 rw[this,List.map_id]
def Zx (de:Option TD)(_r:Rt)(l:List UInt8):Option Plan:=match de with
 |some de=>(match de.u with
  | .int .u8=>some (vp (.val (str l)))
  |_=>none)
 |none=>none
theorem aeX (e:TypeId)(r:Rt)(l:List UInt8):lu P (some ⟨.slice e,a1,b1,z1⟩) (some ⟨.string,a2,b2,z2⟩) (sl bC r l) =Zx (td P e) r l:=by
 unfold Zx
 show (match td P e with|some de=>_|none=>none) =_
 cases td P e with
 |none=>rfl
 |some de=>
  simp only[]
  split
  . simp only[sl,C.sl?]
    rw[if_pos (by rw[bm (f:=bC)];omega),Iq]
    simp only[Option.map_some,wX];rfl
  . rfl
theorem Zy (r:Rt)(l:List UInt8):Zx (some ⟨.int .u8,a3,b3,z3⟩) r l=some (vp (.val (str l))):=rfl
def Zz (de:Option TD)(b off n:Nat):Option Plan:=match de with
 |some de=>(match de.u with
  | .int .u8=>some (.rd b fun cells=>if off+n≤cells.length then (fp ((cells.drop off).take n)).map fun ns=> .val (.string (mY ns)) else none)
  |_=>none)
 |none=>none
def ZA (cells:List C)(o n:Nat):Option C:=if o+n≤cells.length then (fp ((cells.drop o).take n)).map fun ns=> .val (.string (mY ns)) else none
theorem aeY (e:TypeId)(b off n:Nat):lu P (some ⟨.slice e,a1,b1,z1⟩) (some ⟨.string,a2,b2,z2⟩) (.sv b off n) =Zz (td P e) b off n:=by
 unfold Zz
 show (match td P e with|some de=>_|none=>none) =_
 cases td P e with
 |none=>rfl
 |some de=>rfl
theorem ZB (b off n:Nat):Zz (some ⟨.int .u8,a3,b3,z3⟩) b off n=some (.rd b fun cells=>ZA cells off n):=rfl
theorem ZC (l:List UInt8)(o n:Nat)(h:o+n≤l.length):ZA (cl bC l) o n=some (.val (str ((l.drop o).take n))):=by
 have e1:=gi (f:=bC) l o
 have e2:=iI (f:=bC) (l.drop o) n
 rw[Nat.mul_one] at e1 e2
 simp only[ZA]
 rw[if_pos (by rw[bm (f:=bC)];omega),e1,e2,Iq,Option.map_some,wX]
def uu (own:Bool)(t:Option TD)(b o:Nat):Option Plan:=match t with
 |none=>none
 |some d=>if own∧d.isAgg=false then some (.xr b o) else some (.rd b fun cells=>cU d cells o)
theorem Sj (own:Bool)(t:TypeId)(b o:Nat):loadPlan P own t (.bp b o) =uu own (td P t) b o:=by
 unfold loadPlan uu;cases td P t<;>rfl
theorem Sk (k:IntKind)(b o:Nat):uu false (some ⟨.int k,a1,b1,z1⟩) b o=some (.rd b fun cells=>dH cells o):=rfl
theorem LA (b o:Nat):uu false (some ⟨.bool,a1,b1,z1⟩) b o=some (.rd b fun cells=>dH cells o):=rfl
theorem Sl (b o:Nat):uu false (some ⟨.string,a1,b1,z1⟩) b o=some (.rd b fun cells=>dH cells o):=rfl
theorem ZD (e:TypeId)(b o:Nat):uu false (some ⟨.slice e,a1,b1,z1⟩) b o=some (.rd b fun cells=>dH cells o):=rfl
theorem Sm (e:TypeId)(b o:Nat):uu true (some ⟨.slice e,a1,b1,z1⟩) b o=some (.xr b o):=rfl
theorem Sn (own:Bool)(n:Nat)(e:TypeId)(b o:Nat):uu own (some ⟨.array n e,a1,b1,z1⟩) b o=some (.rd b fun cells=>kU cells o a1):=by cases own<;>rfl
theorem Fc (own:Bool)(fs:Array Field)(b o:Nat):uu own (some ⟨.struct fs,a1,b1,z1⟩) b o=some (.rd b fun cells=>kU cells o a1):=by cases own<;>rfl
def wY (t:Option TD)(xs:List C):Option Plan:=match t with
 |none=>none
 |some d=>(cU d xs 0).map vp
theorem So (own:Bool)(t:TypeId)(xs:List C):loadPlan P own t (.kp xs) =wY (td P t) xs:=by
 unfold loadPlan wY;cases td P t<;>rfl
theorem Sp (k:IntKind)(xs:List C):wY (some ⟨.int k,a1,b1,z1⟩) xs= (dH xs 0).map vp:=rfl
theorem Sq (xs:List C):wY (some ⟨.string,a1,b1,z1⟩) xs= (dH xs 0).map vp:=rfl
theorem ZE (e:TypeId)(xs:List C):wY (some ⟨.slice e,a1,b1,z1⟩) xs= (dH xs 0).map vp:=rfl
theorem Sr (n:Nat)(e:TypeId)(xs:List C):wY (some ⟨.array n e,a1,b1,z1⟩) xs= (kU xs 0 a1).map vp:=rfl
theorem Fd (fs:Array Field)(xs:List C):wY (some ⟨.struct fs,a1,b1,z1⟩) xs= (kU xs 0 a1).map vp:=rfl
def uv (t:Option TD)(b o:Nat)(cs:Option (List C)):Option Plan:=match t with
 |none=>none
 |some d=>match cs with
  |some cs=>if cs.length=d.size then some (.wr b (fun cells=>eL cells o cs) none) else none
  |none=>none
theorem Ir (t:TypeId)(b o:Nat)(v:Value)(k:Option Nat):cH P t (.bp b o) (.val v) k=uv (td P t) b o (C.val v).cells?:=by
 unfold cH uv;cases td P t with
 |none=>rfl
 |some d=>simp only[];cases (C.val v).cells?<;>rfl
theorem Is (t:TypeId)(b o:Nat)(xs:List C)(k:Option Nat):cH P t (.bp b o) (.agg xs) k=uv (td P t) b o (some (xs.map C.noR)):=by
 unfold cH uv;cases td P t<;>rfl
theorem LD (t:TypeId)(b o f:Nat)(xs:List C)(k:Option Nat):cH P t (.bp b o) (.fn f xs) k=uv (td P t) b o (some [.fn f xs]):=by
 unfold cH uv;cases td P t<;>rfl
def P4 (t:Option TD)(b o:Nat)(c:C)(k:Option Nat):Option Plan:=match t with
 |none=>none
 |some d=>if d.size=1 then some (.wr b (fun cells=>Dw cells o c) k) else none
theorem BI (t:TypeId)(b o:Nat)(r:Rt)(n:Nat)(xs:List C)(k:Option Nat):cH P t (.bp b o) (.sl r n xs) k=P4 (td P t) b o (.sl r n xs) k:=by
 unfold cH P4;cases td P t<;>rfl
theorem Ss (u:TypeDesc)(y:Nat)(z:List Value)(b o:Nat)(c:C)(k:Option Nat):P4 (some ⟨u,1,y,z⟩) b o c k=some (.wr b (fun cells=>Dw cells o c) k):=rfl
theorem LF (u:TypeDesc)(s y:Nat)(z:List Value)(b o:Nat)(cs:List C)(h:cs.length=s):uv (some ⟨u,s,y,z⟩) b o (some cs) =some (.wr b (fun cells=>eL cells o cs) none):=if_pos h
theorem It (x:BitVec 32): (C.val (bE x)).cells?=some [.val (bE x)]:=rfl
theorem LG (x:UInt8): (C.val (w8 x)).cells?=some [.val (w8 x)]:=rfl
theorem LH (x:Nat): (C.val (nI x)).cells?=some [.val (nI x)]:=rfl
theorem LJ (x:Nat): (C.val (nU x)).cells?=some [.val (nU x)]:=rfl
theorem Iu (k:IntKind)(x:Int): (C.val (.int k x)).cells?=some [.val (.int k x)]:=rfl
theorem Iv (x:List UInt8): (C.val (str x)).cells?=some [.val (str x)]:=rfl
theorem Fe (x:Bool): (C.val (.bool x)).cells?=some [.val (.bool x)]:=rfl
theorem Iw (xs:List C): (C.agg xs).cells?=some (xs.map C.noR):=rfl
theorem ZF (i n:Nat)(h:i< n):eG (.val (nI i)) n=some i:=by
 simp only[eG,nI,C.int?];rw[if_pos (by omega)];simp
theorem mD (i d m:Nat)(h:i≤m):cA (some (.val (nI i))) d m=some i:=by
 simp only[cA,nI,C.int?];rw[if_pos (by omega)];simp
theorem oL (d m:Nat):cA none d m=some d:=rfl
def sL (de:Option TD)(k:Option Nat)(f:Nat→Nat→Option Plan):Option Plan:=match de,k with
 |some de,some k=>f de.size k
 |_,_=>none
theorem LK (u:TypeDesc)(s y:Nat)(z:List Value)(k:Nat)(f:Nat→Nat→Option Plan):sL (some ⟨u,s,y,z⟩) (some k) f=f s k:=rfl
def ti (P:Program)(t:Option TD)(c i:C):Option Plan:=match t with
 |none=>none
 |some d=>
  match d.u,c with
  | .array n e,.bp b off=>sL (td P e) (eG i n) fun s k=>some (vp (.bp b (off+k*s)))
  | .array n e,.kp xs=>sL (td P e) (eG i n) fun s k=>if n*s≤xs.length then some (vp (.kp (xs.drop (k*s)))) else none
  | .slice e,.sv b off n=>sL (td P e) (eG i n) fun s k=>some (vp (.bp b (off+k*s)))
  | .slice e,.sl _ n xs=>sL (td P e) (eG i n) fun s k=>if xs.length=n*s∧xs≠[] then some (vp (.kp (xs.drop (k*s)))) else none
  |_,_=>none
theorem ZG (t:TypeId)(c i:C):dF P t c i=ti P (td P t) c i:=by
 unfold dF ti
 cases td P t with
 |none=>rfl
 |some d=>
  simp only[]
  cases d.u<;>cases c<;>first|rfl| (rename_i e _ _ _;cases td P e<;>first|rfl| (cases eG i _<;>rfl))
theorem ZH (n:Nat)(e:TypeId)(b off:Nat)(i:C):ti P (some ⟨.array n e,a1,b1,z1⟩) (.bp b off) i=sL (td P e) (eG i n) fun s k=>some (vp (.bp b (off+k*s))):=rfl
theorem ZI (e:TypeId)(b off n:Nat)(i:C):ti P (some ⟨.slice e,a1,b1,z1⟩) (.sv b off n) i=sL (td P e) (eG i n) fun s k=>some (vp (.bp b (off+k*s))):=rfl
theorem ZJ {α:Type}(f:α→List C)(e:TypeId)(r:Rt)(l:List α)(i:C):ti P (some ⟨.slice e,a1,b1,z1⟩) (sl f r l) i=sL (td P e) (eG i l.length) fun s k=>if (cl f l).length=l.length*s∧cl f l≠[] then some (vp (.kp ((cl f l).drop (k*s)))) else none:=rfl
end
end Go.Sx
namespace Go.Sx
open Go.RowKit
section
variable {α:Type} (f:α→List C)
theorem LL (l:List α): (sl f .no l).noR=sl f .no l:=rfl
theorem Ff (l:List α): (sl f .full l).noR=sl f .full l:=rfl
theorem Ix (s:Nat)(l:List α): (sl f (.own s) l).noR=sl f .no l:=rfl
theorem Fg (l:List α): (sl f .no l).share=sl f .no l:=rfl
theorem BJ (l:List α): (sl f .full l).share=sl f .no l:=rfl
end
theorem Iy (x:BitVec 32): (C.val (bE x)).share= .val (bE x):=rfl
theorem LM (x:Nat): (C.val (nI x)).share= .val (nI x):=rfl
theorem Fh (x:List UInt8): (C.val (str x)).share= .val (str x):=rfl
section
variable (P:Program) (u1:TypeDesc) (a1 b1 a2 b2 a3 b3:Nat) (z1 z2 z3:List Value)
def Fi (t:Option TD)(x:C):Option Plan:=match t with
 |none=>none
 |some d=>
  match d.u,x with
  | .string,.val (.string s) =>some (.pure (.val (.int .i64 s.size)))
  | .array n _,_=>some (.pure (.val (.int .i64 n)))
  | .slice _,.sv _ _ n=>some (.pure (.val (.int .i64 n)))
  | .slice _,x=>x.sl?.map fun r=> .pure (.val (.int .i64 r.1))
  |_,_=>none
theorem ZK (t:TypeId)(x:C):jz P t x=Fi (td P t) x:=rfl
theorem Su (l:List UInt8):Fi (some ⟨.string,a1,b1,z1⟩) (.val (str l)) =some (vp (.val (nI l.length))):=by
 show some (vp (.val (.int .i64 ((⟨l.toArray⟩:ByteArray).size:Nat)))) =_
 rw[kj];rfl
theorem ZL (e:TypeId)(b o n:Nat):Fi (some ⟨.slice e,a1,b1,z1⟩) (.sv b o n) =some (vp (.val (nI n))):=rfl
theorem ZM {α:Type}(f:α→List C)(e:TypeId)(r:Rt)(l:List α):Fi (some ⟨.slice e,a1,b1,z1⟩) (sl f r l) =some (vp (.val (nI l.length))):=rfl
def ZN (P:Program)(t:Option TD)(c i:C):Option Plan:=match t with
 |none=>none
 |some d=>
  match d.u,c with
  | .string,.val (.string s) =>match eG i s.size with
    |some k=>(s.data[k]?).map fun b=> .pure (kC b)
    |none=>none
  | .array n e,c=>match td P e,eG i n,c.agg? with
    |some de,some k,some xs=>(cU de xs (k*de.size)).map .pure
    |_,_,_=>none
  |_,_=>none
theorem ZO (t:TypeId)(c i:C):gy P t c i=ZN P (td P t) c i:=rfl
def ZP (de:Option TD)(k:Option Nat)(xs:Option (List C)):Option Plan:=match de,k,xs with
 |some de,some k,some xs=>(cU de xs (k*de.size)).map vp
 |_,_,_=>none
theorem Sv (n:Nat)(e:TypeId)(xs:List C)(i:C):ZN P (some ⟨.array n e,a1,b1,z1⟩) (.agg xs) i=ZP (td P e) (eG i n) (some xs):=rfl
theorem LN (k:IntKind)(i:Nat)(xs:List C):ZP (some ⟨.int k,a1,b1,z1⟩) (some i) (some xs) = (dH xs (i*a1)).map vp:=rfl
def aj8 (P:Program)(t:Option TD)(c:C)(f:Nat):Option Plan:=match t with
 |none=>none
 |some d=>
  match d.u with
  | .struct fields=>match fields[f]?,c.agg? with
    |some fd,some xs=>(match td P fd.type with
     |some de=>(cU de xs fd.offset).map .pure
     |none=>none)
    |_,_=>none
  |_=>none
def ZQ (P:Program)(t:Option TD)(c:C)(f:Nat):Option Plan:=match t with
 |none=>none
 |some d=>
  match d.u with
  | .struct fields=>match fields[f]? with
    |some fd=>(match td P fd.type with
     |some de=>if de.size=0 then none else
      (match c with
      | .bp b off=>some (.pure (.bp b (off+fd.offset)))
      | .bt b _ _=>some (.pure (.bp b fd.offset))
      | .kp xs=>if fd.offset≤xs.length then some (.pure (.kp (xs.drop fd.offset))) else none
      |_=>none)
     |none=>none)
    |none=>none
  |_=>none
theorem Fj (t:TypeId)(c:C)(f:Nat):aE P t c f=ZQ P (td P t) c f:=rfl
def Iz (de:Option TD)(b o:Nat):Option Plan:=match de with
 |some de=>if de.size=0 then none else some (vp (.bp b o))
 |none=>none
theorem Fk (fs:Array Field)(b o:Nat)(i:Nat)(fd:Field)(h:fs[i]? =some fd):ZQ P (some ⟨.struct fs,a1,b1,z1⟩) (.bp b o) i=Iz (td P fd.type) b (o+fd.offset):=by
 unfold ZQ Iz;simp only[h];rfl
def kW (hi lo:Option C)(n:Nat)(F:Nat→Nat→Option Plan):Option Plan:=match cA hi n n with
 |some h=>(match cA lo 0 h with
  |some k=>F h k
  |none=>none)
 |none=>none
def IA (hi lo:Option Nat)(F:Nat→Nat→Option Plan):Option Plan:=match hi,lo with
 |some h,some k=>F h k
 |_,_=>none
def wZ (P:Program)(t:Option TD)(c:C)(lo hi:Option C):Option Plan:=match t with
 |none=>none
 |some d=>
  match d.u,c with
  | .string,.val (.string s) =>kW hi lo s.size fun h k=>some (vp (.val (.string (s.extract k h))))
  | .slice e,.sv b off n=>(match td P e with
    |some de=>kW hi lo n fun h k=>some (vp (.sv b (off+k*de.size) (h - k)))
    |none=>none)
  | .slice e,c=>(match td P e,c.sl? with
    |some de,some (n,xs) =>if xs.length=n*de.size then kW hi lo n fun h k=>some (vp (.sl .no (h - k) ((xs.drop (k*de.size)).take ((h - k)*de.size)))) else none
    |_,_=>none)
  | .array n e,.bp b off=>(match td P e with
    |some de=>if 65536< n then none else kW hi lo n fun h k=>some (vp (.sv b (off+k*de.size) (h - k)))
    |none=>none)
  | .array n e,.kp xs=>(match td P e with
    |some de=>if 65536< n∨xs.length< n*de.size then none else kW hi lo n fun h k=>some (vp (.sl .no (h - k) ((xs.drop (k*de.size)).take ((h - k)*de.size))))
    |none=>none)
  |_,_=>none
theorem LO (t:TypeId)(c:C)(lo hi:Option C):dg P t c lo hi none=wZ P (td P t) c lo hi:=by
 unfold dg wZ kW
 cases td P t with
 |none=>rfl
 |some d=>
  obtain ⟨u,s,y,z⟩:=d
  simp only[Option.isSome_none,Bool.false_eq_true,if_false,false_or,Option.isNone_none,true_or,and_true,oL,false_and]
  cases u with
  |string=>cases c with
   |val v=>cases v<;>rfl
   |_=>rfl
  |slice e=>cases c<;>rfl
  |array n e=>cases c<;>rfl
  |_=>rfl
theorem LS (lo:Option C)(n:Nat)(F:Nat→Nat→Option Plan):kW none lo n F=IA (some n) (cA lo 0 n) F:=by
 unfold kW IA;simp only[oL];cases cA lo 0 n<;>rfl
theorem ZR (lo:Option C)(n h:Nat)(F:Nat→Nat→Option Plan)(hh:h≤n):kW (some (.val (nI h))) lo n F=IA (some h) (cA lo 0 h) F:=by
 unfold kW IA;rw[mD _ _ _ hh];simp only[];cases cA lo 0 h<;>rfl
theorem LU (h k:Nat)(F:Nat→Nat→Option Plan):IA (some h) (some k) F=F h k:=rfl
theorem Sw (l:List UInt8)(lo hi:Option C):wZ P (some ⟨.string,a1,b1,z1⟩) (.val (str l)) lo hi=kW hi lo l.length fun h k=>some (vp (.val (str ((l.drop k).take (h - k))))):=by
 show kW hi lo (⟨l.toArray⟩:ByteArray).size _=_
 rw[kj]
 congr 1
 funext h k
 show some (vp (.val (.string _))) =_
 congr 4
 apply ByteArray.ext
 simp[ByteArray.data_extract]
def IB (de:Option TD)(F:Nat→Option Plan):Option Plan:=match de with
 |some de=>F de.size
 |none=>none
theorem LV (u:TypeDesc)(s y:Nat)(z:List Value)(F:Nat→Option Plan):IB (some ⟨u,s,y,z⟩) F=F s:=rfl
theorem ZS (e:TypeId)(b o n:Nat)(lo hi:Option C):wZ P (some ⟨.slice e,a1,b1,z1⟩) (.sv b o n) lo hi=IB (td P e) fun s=>kW hi lo n fun h k=>some (vp (.sv b (o+k*s) (h - k))):=rfl
theorem ZT (n:Nat)(e:TypeId)(b o:Nat)(lo hi:Option C)(hn:n≤65536):wZ P (some ⟨.array n e,a1,b1,z1⟩) (.bp b o) lo hi=IB (td P e) fun s=>kW hi lo n fun h k=>some (vp (.sv b (o+k*s) (h - k))):=by
 show (match td P e with|some de=>if 65536< n then none else _|none=>none) =_
 cases td P e with
 |none=>rfl
 |some de=>simp only[];rw[if_neg (by omega)];rfl
theorem ZU {α:Type}(f:α→List C){s0:Nat}[hf:Cel f s0](e:TypeId)(r:Rt)(l:List α)(lo hi:Option C)(u:TypeDesc)(y:Nat)(z:List Value)(h:td P e=some ⟨u,s0,y,z⟩):
 wZ P (some ⟨.slice e,a1,b1,z1⟩) (sl f r l) lo hi=kW hi lo l.length fun h k=>some (vp (sl f .no ((l.drop k).take (h - k)))):=by
 show (match td P e,(sl f r l).sl? with|some de,some (n,xs) =>_|_,_=>none) =_
 rw[h]
 simp only[sl,C.sl?]
 rw[if_pos (bm (f:=f) l)]
 simp only[gi,iI]
 unfold kW
 cases hb:cA hi l.length l.length with
 |none=>rfl
 |some hh=>
  simp only[]
  cases hb2:cA lo 0 hh with
  |none=>rfl
  |some k=>
   have h1:hh≤l.length:=by
    unfold cA at hb
    split at hb
    . simp only[Option.some.injEq] at hb;omega
    . split at hb
      . split at hb
        . simp only[Option.some.injEq] at hb;omega
        . cases hb
      . cases hb
   simp only[List.length_take,List.length_drop]
   rw[Nat.min_eq_left (by omega)]
def apS (x:C)(de:TD)(xt:Option Nat):Option (Nat×List C×Option Nat):=match x with
 | .val (.slice none 0 0) =>some (0,[],none)
 | .sl .full n xs=>some (n,xs,none)
 | .sl (.own s) n xs=>if s=de.size then some (n,xs,xt) else none
 |_=>none
def ph (de:TD)(n:Nat)(xs:List C)(m:Nat)(ys:List C):Option C:=
 if xs.length=n*de.size∧ys.length=m*de.size∧0< de.size∧de.zero.length=de.size∧(n+m)*de.bytes≤140737488355328∧n+m≤9223372036854775807 then some (.sl (.own de.size) (n+m) (xs++ys)) else none
def ZV (P:Program)(t t2:Option TD)(x y:C)(xt:Option Nat):Option Plan:=match t,t2 with
 |none,_=>none
 |_,none=>none
 |some d,some d2=>
  if im d2.u=false then none else
  match d.u with
  | .slice e=>match td P e with
    |none=>none
    |some de=>match apS x de xt with
     |none=>none
     |some (n,xs,k) =>
      match y with
      | .sv b off m=>if k.isSome then some (.wr b (fun cells=>(if off+m*de.size≤cells.length then ph de n xs m (((cells.drop off).take (m*de.size)).map C.noR) else none).map fun c=>(cells,c)) k)
        else some (.rd b fun cells=>if off+m*de.size≤cells.length then ph de n xs m (((cells.drop off).take (m*de.size)).map C.noR) else none)
      |y=>match jU y with
       |some (m,ys) =>(ph de n xs m ys).map fun c=> .val c k
       |none=>none
  |_=>none
theorem ZW (t t2:TypeId)(x y:C)(xt:Option Nat):er P t t2 x y xt=ZV P (td P t) (td P t2) x y xt:=rfl
def BK (de:Option TD)(x y:C)(xt:Option Nat):Option Plan:=match de with
 |none=>none
 |some de=>match apS x de xt with
  |none=>none
  |some (n,xs,k) =>
   match y with
   | .sv b off m=>if k.isSome then some (.wr b (fun cells=>(if off+m*de.size≤cells.length then ph de n xs m (((cells.drop off).take (m*de.size)).map C.noR) else none).map fun c=>(cells,c)) k)
         else some (.rd b fun cells=>if off+m*de.size≤cells.length then ph de n xs m (((cells.drop off).take (m*de.size)).map C.noR) else none)
   |y=>match jU y with
    |some (m,ys) =>(ph de n xs m ys).map fun c=> .val c k
    |none=>none
theorem ZX (e e2:TypeId)(x y:C)(xt:Option Nat):ZV P (some ⟨.slice e,a1,b1,z1⟩) (some ⟨.slice e2,a2,b2,z2⟩) x y xt=BK (td P e) x y xt:=rfl
theorem ZY (e:TypeId)(x y:C)(xt:Option Nat):ZV P (some ⟨.slice e,a1,b1,z1⟩) (some ⟨.string,a2,b2,z2⟩) x y xt=BK (td P e) x y xt:=rfl
section
variable {α:Type} (f:α→List C) {s:Nat} [hf:Cel f s] (u:TypeDesc) (y:Nat) (z:List Value)
theorem uw (l l':List α)(hz:z.length=s)(h: (l.length+l'.length)*y≤140737488355328∧l.length+l'.length≤9223372036854775807):
 ph ⟨u,s,y,z⟩ l.length (cl f l) l'.length (cl f l') =some (sl f (.own s) (l++l')):=by
 unfold ph
 rw[if_pos ⟨bm (f:=f) l,bm (f:=f) l',hf.pos,hz,h.1,h.2⟩]
 simp[sl,iq]
theorem Sy (l l':List α)(r:Rt)(xt:Option Nat)(hz:z.length=s)(h: (l.length+l'.length)*y≤140737488355328∧l.length+l'.length≤9223372036854775807):
 BK (some ⟨u,s,y,z⟩) (sl f (.own s) l) (sl f r l') xt=some (.val (sl f (.own s) (l++l')) xt):=by
 show (match (if s=s then some (l.length,cl f l,xt) else none) with|none=>none|some (n,xs,k) =>(match some (l'.length,cl f l') with|some (m,ys) =>(ph ⟨u,s,y,z⟩ n xs m ys).map fun c=>Plan.val c k|none=>none)) =_
 rw[if_pos rfl]
 simp only[uw f u y z l l' hz h,Option.map_some]
theorem BL (l l':List α)(r:Rt)(xt:Option Nat)(hz:z.length=s)(h: (l.length+l'.length)*y≤140737488355328∧l.length+l'.length≤9223372036854775807):
 BK (some ⟨u,s,y,z⟩) (sl f .full l) (sl f r l') xt=some (.val (sl f (.own s) (l++l')) none):=by
 show (match some (l'.length,cl f l') with|some (m,ys) =>(ph ⟨u,s,y,z⟩ l.length (cl f l) m ys).map fun c=>Plan.val c none|none=>none) =_
 simp only[uw f u y z l l' hz h,Option.map_some]
theorem Sz (l':List α)(r:Rt)(xt:Option Nat)(hz:z.length=s)(h:l'.length*y≤140737488355328∧l'.length≤9223372036854775807):
 BK (some ⟨u,s,y,z⟩) (.val (.slice none 0 0)) (sl f r l') xt=some (.val (sl f (.own s) l') none):=by
 have:=BL f u y z [] l' r xt hz (by simpa using h)
 exact this
end
theorem DA (l:List UInt8):jU (.val (str l)) =some (l.length,cl bC l):=by
 show some ((⟨l.toArray⟩:ByteArray).size,l.toArray.toList.map kC) =_
 rw[kj,List.toList_toArray,BG]
theorem LW (u:TypeDesc)(y:Nat)(z:List Value)(l l':List UInt8)(xt:Option Nat)(hz:z.length=1)(h: (l.length+l'.length)*y≤140737488355328∧l.length+l'.length≤9223372036854775807):
 BK (some ⟨u,1,y,z⟩) (sl bC (.own 1) l) (.val (str l')) xt=some (.val (sl bC (.own 1) (l++l')) xt):=by
 show (match (if (1:Nat) =1 then some (l.length,cl bC l,xt) else none) with|none=>none|some (n,xs,k) =>(match jU (.val (str l')) with|some (m,ys) =>(ph ⟨u,1,y,z⟩ n xs m ys).map fun c=>Plan.val c k|none=>none)) =_
 rw[if_pos rfl,DA]
 simp only[uw bC u y z l l' hz h,Option.map_some]
def ZZ (de:TD)(n:Nat)(xs:List C)(m:Nat)(off:Nat)(cells:List C):Option C:=if off+m*de.size≤cells.length then ph de n xs m (((cells.drop off).take (m*de.size)).map C.noR) else none
theorem IC {α:Type}(f:α→List C){s:Nat}[hf:Cel f s](u:TypeDesc)(y:Nat)(z:List Value)(l:List α)(b off m k:Nat):
 BK (some ⟨u,s,y,z⟩) (sl f (.own s) l) (.sv b off m) (some k) =some (.wr b (fun cells=>(ZZ ⟨u,s,y,z⟩ l.length (cl f l) m off cells).map fun c=>(cells,c)) (some k)):=by
 show (match (if s=s then some (l.length,cl f l,some k) else none) with|none=>none|some (n,xs,k) =>_) =_
 rw[if_pos rfl];rfl
theorem Z0 {α:Type}(f:α→List C){s:Nat}[hf:Cel f s](u:TypeDesc)(y:Nat)(z:List Value)(l l':List α)(m:Nat)(hm:m=l'.length)(hz:z.length=s)(h: (l.length+l'.length)*y≤140737488355328∧l.length+l'.length≤9223372036854775807):
 ZZ ⟨u,s,y,z⟩ l.length (cl f l) m 0 (cl f l') =some (sl f (.own s) (l++l')):=by
 subst hm
 unfold ZZ
 have hl:=bm (f:=f) l'
 rw[if_pos (by rw[hl,Nat.zero_add];exact Nat.le_refl _),List.drop_zero,List.take_of_length_le (by rw[hl];exact Nat.le_refl _),fu]
 exact uw f u y z l l' hz h
theorem Z1 (n:Nat):List.replicate n (C.val (.int .u32 0)) =cl wC (List.replicate n 0):=by
 induction n with
 |zero=>rfl
 |succ n ih=>rw[List.replicate_succ,ih];rfl
theorem Z2 (n:Nat):List.replicate n (C.val (.int .u8 0)) =cl bC (List.replicate n 0):=by
 induction n with
 |zero=>rfl
 |succ n ih=>rw[List.replicate_succ,ih];rfl
theorem Z3 (n:Nat):List.replicate n (C.val (.int .i64 0)) =cl nC (List.replicate n 0):=by
 induction n with
 |zero=>rfl
 |succ n ih=>rw[List.replicate_succ,ih];rfl
def LX (cs:Option (List C)):Option Plan:=match cs with
 |some cs=>some (.new cs fun id=> .bp id 0)
 |none=>none
theorem Z4 (x:C):Fa x=LX x.cells?:=by unfold Fa LX;cases x.cells?<;>rfl
theorem ID (cs:List C):LX (some cs) =some (.new cs fun id=> .bp id 0):=rfl
theorem SA (x y:C):ze (.val (.bool true)) x y=some (vp x):=rfl
theorem SB (x y:C):ze (.val (.bool false)) x y=some (vp y):=rfl
def IE (P:Program)(t:Option TD)(x y:C):Option Plan:=match t with
 |none=>none
 |some d=>
  match d.u with
  | .slice e=>match td P e with
    |none=>none
    |some de=>match x,jU y with
     | .sv b off n,some (m,ys) =>
       if ys.length=m*de.size∧0< n then some (.wr b (fun cells=>if off+n*de.size≤cells.length then some (splice cells off ((ys.take (min m n*de.size)).map C.noR),.val (.int .i64 (min m n:Nat))) else none) none) else none
     |_,_=>none
  |_=>none
theorem SD (t:TypeId)(x y:C):ip P t x y=IE P (td P t) x y:=rfl
def sM (cells:List C)(o n s:Nat)(ys:List C)(m:Nat):Option (List C×C):=if o+n*s≤cells.length then some (splice cells o ys,.val (nI m)) else none
theorem Z5 (e:TypeId)(b o n:Nat)(l:List UInt8)(u:TypeDesc)(y:Nat)(z:List Value)(he:td P e=some ⟨u,1,y,z⟩)(h:0< n):
 IE P (some ⟨.slice e,a1,b1,z1⟩) (.sv b o n) (.val (str l)) =some (.wr b (fun cells=>sM cells o n 1 (cl bC (l.take n)) (min l.length n)) none):=by
 unfold IE
 simp only[he]
 rw[DA]
 simp only[]
 rw[if_pos ⟨bm (f:=bC) l,h⟩]
 congr 2
 funext cells
 unfold sM
 rw[iI,fu]
 have:l.take (min l.length n) =l.take n:=by rw[List.take_eq_take_iff];omega
 rw[this];rfl
end
end Go.Sx
