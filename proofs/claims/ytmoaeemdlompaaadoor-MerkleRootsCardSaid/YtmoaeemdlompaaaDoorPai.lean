/-
   And what follows.
-/
import Derived.Test.YtmoaeemdlompaaaDoorPah
set_option linter.unusedSimpArgs false
set_option linter.unusedVariables false
namespace Go.Sx
open Go.RowKit
theorem jY {cx:Cx}{apps:List Nat}{dsts:List (Option Nat)}{K:St→Prop}:∀ (l:List Oper)(id:Nat)(st:St)(fs:List FP),ey cx apps dsts l id st fs (fun _ s=>K s)→jX cx apps dsts l id st K
 | [],_,_,_,h=>h
 |o::l,id,st,fs,h=>by
  simp only[ey,jX] at h ⊢
  refine ⟨h.1,?_⟩
  have h2:=h.2
  cases hw:e7 dsts o.guard st.env with
  |none=>rw[hw] at h2;exact h2
  |some b=>
   rw[hw] at h2
   cases b with
   |false=>exact jY l _ _ _ h2
   |true=>
    simp only[CK,iB] at h2 ⊢
    generalize splanA cx apps o st.env=q at h2 ⊢
    cases q with
    |none=>exact h2
    |some p=>
     simp only[] at h2 ⊢
     generalize aJ cx id p st.h=r at h2 ⊢
     cases r with
     |none=>exact h2
     |some r=>exact jY l _ _ _ h2
section
variable {cx:Cx} {n:Nat} {Q:Ex→St→Prop} {e:List (Nat×C)} {h:Hp}
theorem yy (hcx:CxOK cx){id:Nat}{l:List Oper}(apps:List Nat)(dsts:List (Option Nat))(z:Hp)(h1:l.filterMap dg=apps)(h2:l.map (·.dst) =dsts)(h3:ff l=z)
 (H:run cx apps dsts l h.length e (h++z) [] (fun _ s=>Q .normal s)):Tr cx n (.region id l.toArray false) ⟨A e,h⟩ Q:=by
 subst h1 h2 h3
 exact NO hcx (jY _ _ _ _ H)
theorem uP (hcx:CxOK cx)(hm:cx.P.follows .mixedOrders=true){id:Nat}{l:List Oper}(apps:List Nat)(dsts:List (Option Nat))(z:Hp)(h1:l.filterMap dg=apps)(h2:l.map (·.dst) =dsts)(h3:ff l=z)
 (hs:dH l.toArray=true)
 (H:run cx apps dsts l h.length e (h++z) [] (fun fs s=>eZ l.toArray fs.reverse=true∧Q .normal s)):Tr cx n (.region id l.toArray true) ⟨A e,h⟩ Q:=by
 subst h1 h2 h3
 exact HW hcx hm hs H
end
section
variable (cx:Cx) (apps:List Nat) (dsts:List (Option Nat)) (l:List Oper) (id id':Nat) (d:Option Nat) (e:List (Nat×C)) (h:Hp) (fs:List FP) (K:List FP→St→Prop) (ty:TypeId) (pos:String) (aft:Array Edge)
theorem bV (op:Op)(p:Option Plan)(hp:splanA cx apps ⟨d,op,ty,pos,aft,none⟩ (A e) =p)(hm: (if dr ⟨d,op,ty,pos,aft,none⟩ then id+1 else id) =id'):
 run cx apps dsts (⟨d,op,ty,pos,aft,none⟩::l) id e h fs K=AN (dJ cx.N d) (cO cx apps dsts l id id' d e h fs K p):=by
 unfold run AN
 rw[ey]
 simp only[e7]
 rw[hp,hm,wy]
 rfl
def AW (op:Op)(o:Option Bool):Prop:=match o with
 |none=>False
 |some b=>(b=true→run cx apps dsts (⟨d,op,ty,pos,aft,none⟩::l) id e h fs K)∧
  (b=false→AN (dJ cx.N d) (run cx apps dsts l (if dr ⟨d,op,ty,pos,aft,none⟩ then id+1 else id) (eD d (.val undef) e) h ((0,0)::fs) K))
theorem AX (op:Op)(g:Nat×Bool):run cx apps dsts (⟨d,op,ty,pos,aft,some g⟩::l) id e h fs K=AW cx apps dsts l id d e h fs K ty pos aft op (e7 dsts (some g) (A e)):=by
 unfold run AW
 rw[ey]
 simp only[]
 have hsp:splanA cx apps ⟨d,op,ty,pos,aft,some g⟩ (A e) =splanA cx apps ⟨d,op,ty,pos,aft,none⟩ (A e):=by
  rw[splanA.eq_def,splanA.eq_def]
  cases op with
  |move x=>cases x<;>rfl
  |_=>rfl
 have hmk:dr ⟨d,op,ty,pos,aft,some g⟩ =dr ⟨d,op,ty,pos,aft,none⟩:=rfl
 cases hw:e7 dsts (some g) (A e) with
 |none=>simp
 |some b=>
  cases b with
  |true=>
   simp only[Bool.true_eq_false,false_implies,and_true,true_implies]
   rw[run,ey,hsp,hmk]
   simp only[e7]
  |false=>
   simp only[Bool.false_eq_true,false_implies,true_and,true_implies]
   rw[AN,wy,iD]
   rfl
def jZ (op:Op)(id:Nat):Nat:=match op with
 | .alloc _| .box _ _| .makeSlice _ _ _=>id+1
 |_=>id
theorem Ie (op:Op): (if dr ⟨d,op,ty,pos,aft,none⟩ then id+1 else id) =jZ op id:=by cases op<;>rfl
theorem C2 (op:Op)(b:Bool):AW cx apps dsts l id d e h fs K ty pos aft op (some b) =GB b (run cx apps dsts (⟨d,op,ty,pos,aft,none⟩::l) id e h fs K)
 (AN (dJ cx.N d) (run cx apps dsts l (jZ op id) (eD d (.val undef) e) h ((0,0)::fs) K)):=by
 rw[←Ie (d:=d) (ty:=ty) (pos:=pos) (aft:=aft)];rfl
theorem AY (x:Operand)(id:Nat):jZ (.move x) id=id:=rfl
theorem AZ (c a b:Operand)(id:Nat):jZ (.pick c a b) id=id:=rfl
theorem yz (t:TypeId)(p:Array (Nat×Operand))(id:Nat):jZ (.build t p) id=id:=rfl
theorem A0 (t:TypeId)(a:Operand)(id:Nat):jZ (.load t a) id=id:=rfl
theorem yA (o:BinOp)(t:TypeId)(x y:Operand)(s:TypeId)(id:Nat):jZ (.binOp o t x y s) id=id:=rfl
theorem rf (t:TypeId)(x:Operand)(f:Nat)(id:Nat):jZ (.fieldAddr t x f) id=id:=rfl
theorem rh (t:TypeId)(x i:Operand)(id:Nat):jZ (.indexAddr t x i) id=id:=rfl
theorem A1 (c:Call)(id:Nat):jZ (.call c) id=id:=rfl
def jx (cx:Cx)(d:Option Nat):Bool:=d.any cx.gr
def uQ (b:Bool)(p q:Option Plan):Option Plan:=if b=true then p else q
@[congr] theorem Th {b b':Bool} {p q:Option Plan} (h:b=b'):uQ b p q=uQ b' p q:=by rw[h]
def ky (P:Program)(t:TypeId)(c:C)(lo hi mx:Option C):Option Plan:=match c,lo,mx with
 | .gv b n s,none,none=>jk P t b n s hi
 |c,_,_=>dm P t c.asSv lo hi mx
def tC (c a b:C):Option Plan:=match c with
 | .val (.bool true) =>some (vp a)
 | .val (.bool false) =>some (vp b)
 |_=>none
def uR (g:Bool)(t:TypeId)(T:Option TD):Option Plan:=match T with
 |some d=>if d.zero.all (·.oneCell') then some (.new (d.zero.map .val) fun id=>if g=true then .bt id t d.zero.length else .bp id 0) else none
 |none=>none
def A2 (t:Option TD):Option Plan:=match t with
 |some d=>if d.zero.all (·.oneCell') then some (.new (d.zero.map .val) fun id=> .bp id 0) else none
 |none=>none
def yB (x:C):Option Plan:=x.cells?.map fun cs=> .new cs fun id=> .bp id 0
def jl (P:Program)(t:Option TD)(parts:List (Nat×C)):Option Plan:=match t with
 |some d=>if d.zero.all (·.oneCell') =false then none else ((ia P d.u).bind fun pl=>ed pl (d.zero.map .val) parts).map fun cs=>vp (.agg cs)
 |none=>none
def j0 (P:Program)(g:Bool)(t:Option TD)(n:Nat)(parts:List (Nat×C)):Option Plan:=match t with
 |some d=>(match d.u with
  | .slice e=>(match td P e with
    |some de=>if n*de.size≤65536∧n≤65536∧de.zero.length=de.size∧de.zero.all (·.oneCell') =true then
     (ed (fun i=>some (i*de.size,de.size)) (bO de.zero n) parts).map fun cs=>if g=true then .ap none (de.size,e) n fun _=>some cs else vp (.sl .full n cs) else none
    |none=>none)
  |_=>none)
 |none=>none
def C3 (x:C):Option Plan:=match x with
 | .bp b k=>some (vp (.bp b k))
 | .bt b t n=>some (vp (.bt b t n))
 | .kp xs=>some (vp (.kp xs))
 | .fn f cs=>some (vp (.fn f cs))
 |_=>none
def oz (x:C)(i:Nat):Option Plan:=match x with
 | .tup xs=>(xs[i]?).map fun c=>vp c.noR
 |_=>none
def tD (cx:Cx)(g:Nat)(az:List C)(o:Option C):Option Plan:=match o with
 |some c=>some (vp c)
 |none=>match ez az with
  |some b=>if (cx.hp g az []).isSome then some (.call g az) else some (.rd b (rdPu cx g az b))
  |none=>some (.call g az)
def tE (cx:Cx)(f:C)(args:List C):Option Plan:=match f with
 | .fn g caps=>tD cx g (ic args++caps) (cx.pu g (ic args++caps))
 |_=>none
def GE (b:Bool)(c:C)(p:Nat):Option Plan:=match b with
 |true=>some (.val c (some p))
 |false=>some (vp c.noR)
def yC (P:Program)(t:Option TD)(x:C):Option Plan:=match t with
 |some d=>(match d.u with
  | .array n e=>(match td P e,x with
    |some _,.sv b off m=>if n≤m∧n≠0 then some (vp (.bp b off)) else none
    |some _,.gv b m _=>if n≤m∧n≠0 then some (vp (.bp b 0)) else none
    |some de,c=>(match c.sl? with
     |some (m,xs) =>if n≤m∧xs≠[]∧xs.length=m*de.size then some (vp (.kp xs)) else none
     |none=>none)
    |_,_=>none)
  |_=>none)
 |none=>none
def C4 (P:Program)(t:Option TD)(l c:C):Option Plan:=match t,l.int?,c.int? with
 |some d,some (_,n),some (_,m) =>(match d.u with
  | .slice e=>(match td P e with
    |some de=>if 0≤n∧n=m∧de.bytes*n≤140737488355328∧n≤9223372036854775807∧de.zero.length=de.size∧de.zero.all (·.oneCell') =true then some (.new (bO de.zero n.toNat) fun id=> .sv id 0 n.toNat) else none
    |none=>none)
  |_=>none)
 |_,_,_=>none
def oA (P:Program)(g:Bool)(t:Option TD)(l c:C):Option Plan:=match t,l.int?,c.int? with
 |some d,some (_,n),some (_,m) =>(match d.u with
  | .slice e=>(match td P e with
    |some de=>if 0≤n∧n=m∧de.bytes*n≤140737488355328∧n≤9223372036854775807∧de.zero.length=de.size∧de.zero.all (·.oneCell') =true then some (.new (bO de.zero n.toNat) fun id=>if g=true then .gv id n.toNat (de.size,e) else .sv id 0 n.toNat) else none
    |none=>none)
  |_=>none)
 |_,_,_=>none
theorem NY (P:Program)(t:Option TD)(l c:C):oA P false t l c=C4 P t l c:=rfl
theorem If (p:Nat):run cx apps dsts (⟨d,.move (.tmp p),ty,pos,aft,none⟩::l) id e h fs K=AN (dJ cx.N d) (cO cx apps dsts l id id d e h fs K (GE (lL apps d||lL apps (d.map (· +1000000))) (A e p) p)):=
 bV cx apps dsts l id id d e h fs K ty pos aft (.move (.tmp p)) (GE (lL apps d||lL apps (d.map (· +1000000))) (A e p) p) (by
  rw[splanA.eq_def];simp only[]
  cases d with
  |none=>rfl
  |some t=>
   simp only[lL,GE,vp,Plan.pure,Option.map_some,List.contains_eq_mem]
   by_cases hb:t∈apps<;>by_cases hc:t+1000000∈apps<;>simp[hb,hc]) rfl
theorem Ig (v:Value):run cx apps dsts (⟨d,.move (.const v),ty,pos,aft,none⟩::l) id e h fs K=AN (dJ cx.N d) (cO cx apps dsts l id id d e h fs K (some (vp (.val v)))):=
 bV cx apps dsts l id id d e h fs K ty pos aft (.move (.const v)) (some (vp (.val v))) (by first|rfl| (cases d<;>rfl)) rfl
theorem Ih (x:Operand):run cx apps dsts (⟨d,.assign x,ty,pos,aft,none⟩::l) id e h fs K=AN (dJ cx.N d) (cO cx apps dsts l id id d e h fs K (some (.val (rZ cx e x) (dc x)))):=
 bV cx apps dsts l id id d e h fs K ty pos aft (.assign x) (some (.val (rZ cx e x) (dc x))) (by first|rfl| (cases d<;>rfl)) rfl
theorem C5 (c a b:Operand):run cx apps dsts (⟨d,.pick c a b,ty,pos,aft,none⟩::l) id e h fs K=AN (dJ cx.N d) (cO cx apps dsts l id id d e h fs K (tC (on cx e c) (on cx e a) (on cx e b))):=
 bV cx apps dsts l id id d e h fs K ty pos aft (.pick c a b) (tC (on cx e c) (on cx e a) (on cx e b)) (by first|rfl| (cases d<;>rfl)) rfl
theorem A3 (t:TypeId):run cx apps dsts (⟨d,.alloc t,ty,pos,aft,none⟩::l) id e h fs K=AN (dJ cx.N d) (cO cx apps dsts l id (id+1) d e h fs K (uR (jx cx d) t (td cx.P t))):=
 bV cx apps dsts l id (id+1) d e h fs K ty pos aft (.alloc t) (uR (jx cx d) t (td cx.P t)) (by first|rfl| (cases d<;>rfl)) rfl
theorem Ii (t:TypeId)(x:Operand):run cx apps dsts (⟨d,.box t x,ty,pos,aft,none⟩::l) id e h fs K=AN (dJ cx.N d) (cO cx apps dsts l id (id+1) d e h fs K (yB (on cx e x))):=
 bV cx apps dsts l id (id+1) d e h fs K ty pos aft (.box t x) (yB (on cx e x)) (by first|rfl| (cases d<;>rfl)) rfl
theorem run_build (t:TypeId)(ps:List (Nat×Operand)):run cx apps dsts (⟨d,.build t ps.toArray,ty,pos,aft,none⟩::l) id e h fs K=AN (dJ cx.N d) (cO cx apps dsts l id id d e h fs K (jl cx.P (td cx.P t) (r9 cx e ps))):=
 bV cx apps dsts l id id d e h fs K ty pos aft (.build t ps.toArray) (jl cx.P (td cx.P t) (r9 cx e ps)) (by rw[←AI];rfl) rfl
theorem yD (t:TypeId)(m:Nat)(ps:List (Nat×Operand)):run cx apps dsts (⟨d,.buildSlice t m ps.toArray,ty,pos,aft,none⟩::l) id e h fs K=AN (dJ cx.N d) (cO cx apps dsts l id id d e h fs K (j0 cx.P (jx cx d) (td cx.P t) m (r9 cx e ps))):=
 bV cx apps dsts l id id d e h fs K ty pos aft (.buildSlice t m ps.toArray) (j0 cx.P (jx cx d) (td cx.P t) m (r9 cx e ps)) (by rw[←AI];rfl) rfl
theorem C6 (t:TypeId)(x:Operand):run cx apps dsts (⟨d,.load t x,ty,pos,aft,none⟩::l) id e h fs K=AN (dJ cx.N d) (cO cx apps dsts l id id d e h fs K (loadPlan cx.P (lL apps d) t (on cx e x))):=
 bV cx apps dsts l id id d e h fs K ty pos aft (.load t x) (loadPlan cx.P (lL apps d) t (on cx e x)) (by first|rfl| (cases d<;>rfl)) rfl
theorem run_store (t:TypeId)(x y:Operand):run cx apps dsts (⟨d,.store t x y,ty,pos,aft,none⟩::l) id e h fs K=AN (dJ cx.N d) (cO cx apps dsts l id id d e h fs K (cw cx.P t (on cx e x) (rZ cx e y) (dc y))):=
 bV cx apps dsts l id id d e h fs K ty pos aft (.store t x y) (cw cx.P t (on cx e x) (rZ cx e y) (dc y)) (by first|rfl| (cases d<;>rfl)) rfl
theorem C7 (x:Operand):run cx apps dsts (⟨d,.nilCheck x,ty,pos,aft,none⟩::l) id e h fs K=AN (dJ cx.N d) (cO cx apps dsts l id id d e h fs K (C3 (on cx e x))):=
 bV cx apps dsts l id id d e h fs K ty pos aft (.nilCheck x) (C3 (on cx e x)) (by first|rfl| (cases d<;>rfl)) rfl
theorem Ij (o:BinOp)(t t2:TypeId)(x y:Operand):run cx apps dsts (⟨d,.binOp o t x y t2,ty,pos,aft,none⟩::l) id e h fs K=AN (dJ cx.N d) (cO cx apps dsts l id id d e h fs K (aq cx.P o t (on cx e x) (on cx e y))):=
 bV cx apps dsts l id id d e h fs K ty pos aft (.binOp o t x y t2) (aq cx.P o t (on cx e x) (on cx e y)) (by first|rfl| (cases d<;>rfl)) rfl
theorem NZ (o:UnOp)(t:TypeId)(x:Operand):run cx apps dsts (⟨d,.unOp o t x,ty,pos,aft,none⟩::l) id e h fs K=AN (dJ cx.N d) (cO cx apps dsts l id id d e h fs K (eU o (on cx e x))):=
 bV cx apps dsts l id id d e h fs K ty pos aft (.unOp o t x) (eU o (on cx e x)) (by first|rfl| (cases d<;>rfl)) rfl
theorem C8 (s t:TypeId)(x:Operand):run cx apps dsts (⟨d,.convert s t x,ty,pos,aft,none⟩::l) id e h fs K=AN (dJ cx.N d) (cO cx apps dsts l id id d e h fs K (uQ (jx cx d) (lg cx.P s t (on cx e x)) (d7 cx.P s t (on cx e x).asSv))):=
 bV cx apps dsts l id id d e h fs K ty pos aft (.convert s t x) (uQ (jx cx d) (lg cx.P s t (on cx e x)) (d7 cx.P s t (on cx e x).asSv)) (by first|rfl| (cases d<;>rfl)) rfl
theorem Ik (t:TypeId)(x:Operand):run cx apps dsts (⟨d,.sliceToArrayPointer t x,ty,pos,aft,none⟩::l) id e h fs K=AN (dJ cx.N d) (cO cx apps dsts l id id d e h fs K (yC cx.P (td cx.P t) (on cx e x))):=
 bV cx apps dsts l id id d e h fs K ty pos aft (.sliceToArrayPointer t x) (yC cx.P (td cx.P t) (on cx e x)) (by first|rfl| (cases d<;>rfl)) rfl
theorem Il (f:Nat)(cs:List Operand):run cx apps dsts (⟨d,.makeFunc (.func f) #[] cs.toArray,ty,pos,aft,none⟩::l) id e h fs K=AN (dJ cx.N d) (cO cx apps dsts l id id d e h fs K (some (vp (.fn f (ic (r8 cx e cs)))))):=
 bV cx apps dsts l id id d e h fs K ty pos aft (.makeFunc (.func f) #[] cs.toArray) (some (vp (.fn f (ic (r8 cx e cs))))) (by rw[←AH,←sa,List.map_map];rfl) rfl
theorem Im (t:TypeId)(x y:Operand):run cx apps dsts (⟨d,.makeSlice t x y,ty,pos,aft,none⟩::l) id e h fs K=AN (dJ cx.N d) (cO cx apps dsts l id (id+1) d e h fs K (oA cx.P (jx cx d) (td cx.P t) (on cx e x) (on cx e y))):=
 bV cx apps dsts l id (id+1) d e h fs K ty pos aft (.makeSlice t x y) (oA cx.P (jx cx d) (td cx.P t) (on cx e x) (on cx e y)) (by first|rfl| (cases d<;>rfl)) rfl
theorem A4 (t:TypeId)(x:Operand)(lo hi mx:Option Operand):run cx apps dsts (⟨d,.slice t x lo hi mx,ty,pos,aft,none⟩::l) id e h fs K=AN (dJ cx.N d) (cO cx apps dsts l id id d e h fs K (ky cx.P t (on cx e x) (lo.map (on cx e)) (hi.map (on cx e)) (mx.map (on cx e)))):=
 bV cx apps dsts l id id d e h fs K ty pos aft (.slice t x lo hi mx) (ky cx.P t (on cx e x) (lo.map (on cx e)) (hi.map (on cx e)) (mx.map (on cx e))) (by rw[splanA.eq_def];simp only[];rw[splan.eq_def];simp only[];unfold ky;change (match on cx e x,lo,mx with| .gv b n s,none,none=>jk cx.P t b n s (hi.map (on cx e)) |c,_,_=>dm cx.P t c.asSv (lo.map (on cx e)) (hi.map (on cx e)) (mx.map (on cx e))) =_;cases on cx e x<;>cases lo<;>cases mx<;>rfl) rfl
theorem N0 (t:TypeId)(x:Operand)(f:Nat):run cx apps dsts (⟨d,.fieldAddr t x f,ty,pos,aft,none⟩::l) id e h fs K=AN (dJ cx.N d) (cO cx apps dsts l id id d e h fs K (aI cx.P t (on cx e x) f)):=
 bV cx apps dsts l id id d e h fs K ty pos aft (.fieldAddr t x f) (aI cx.P t (on cx e x) f) (by first|rfl| (cases d<;>rfl)) rfl
theorem In (t:TypeId)(x i:Operand):run cx apps dsts (⟨d,.indexAddr t x i,ty,pos,aft,none⟩::l) id e h fs K=AN (dJ cx.N d) (cO cx apps dsts l id id d e h fs K (cY cx.P t (on cx e x).asSv (on cx e i))):=
 bV cx apps dsts l id id d e h fs K ty pos aft (.indexAddr t x i) (cY cx.P t (on cx e x).asSv (on cx e i)) (by first|rfl| (cases d<;>rfl)) rfl
theorem N1 (t:TypeId)(x i:Operand):run cx apps dsts (⟨d,.index t x i,ty,pos,aft,none⟩::l) id e h fs K=AN (dJ cx.N d) (cO cx apps dsts l id id d e h fs K (eB cx.P t (on cx e x) (on cx e i))):=
 bV cx apps dsts l id id d e h fs K ty pos aft (.index t x i) (eB cx.P t (on cx e x) (on cx e i)) (by first|rfl| (cases d<;>rfl)) rfl
theorem C9 (x:Operand)(i:Nat):run cx apps dsts (⟨d,.extract x i,ty,pos,aft,none⟩::l) id e h fs K=AN (dJ cx.N d) (cO cx apps dsts l id id d e h fs K (oz (on cx e x) i)):=
 bV cx apps dsts l id id d e h fs K ty pos aft (.extract x i) (oz (on cx e x) i) (by first|rfl| (cases d<;>rfl)) rfl
theorem Io (t:TypeId)(x:Operand):run cx apps dsts (⟨d,.call ⟨.builtin .len,#[x],#[t]⟩,ty,pos,aft,none⟩::l) id e h fs K=AN (dJ cx.N d) (cO cx apps dsts l id id d e h fs K (ga cx.P t (on cx e x).asSv)):=
 bV cx apps dsts l id id d e h fs K ty pos aft (.call ⟨.builtin .len,#[x],#[t]⟩) (ga cx.P t (on cx e x).asSv) (by first|rfl| (cases d<;>rfl)) rfl
theorem Ip (t t2:TypeId)(x y:Operand):run cx apps dsts (⟨d,.call ⟨.builtin .append,#[x,y],#[t,t2]⟩,ty,pos,aft,none⟩::l) id e h fs K=AN (dJ cx.N d) (cO cx apps dsts l id id d e h fs K (uQ (jx cx d) (fY cx.P t t2 (on cx e x) (on cx e y).asSv) (dE cx.P t t2 (rZ cx e x) (on cx e y).asSv (dc x)))):=
 bV cx apps dsts l id id d e h fs K ty pos aft (.call ⟨.builtin .append,#[x,y],#[t,t2]⟩) (uQ (jx cx d) (fY cx.P t t2 (on cx e x) (on cx e y).asSv) (dE cx.P t t2 (rZ cx e x) (on cx e y).asSv (dc x))) (by first|rfl| (cases d<;>rfl)) rfl
theorem Da (t t2:TypeId)(x y:Operand):run cx apps dsts (⟨d,.call ⟨.builtin .copy,#[x,y],#[t,t2]⟩,ty,pos,aft,none⟩::l) id e h fs K=AN (dJ cx.N d) (cO cx apps dsts l id id d e h fs K (fo cx.P t (on cx e x).asSv (on cx e y).asSv)):=
 bV cx apps dsts l id id d e h fs K ty pos aft (.call ⟨.builtin .copy,#[x,y],#[t,t2]⟩) (fo cx.P t (on cx e x).asSv (on cx e y).asSv) (by first|rfl| (cases d<;>rfl)) rfl
theorem Iq (ts:Array TypeId)(x y:Operand):run cx apps dsts (⟨d,.call ⟨.builtin .min,#[x,y],ts⟩,ty,pos,aft,none⟩::l) id e h fs K=AN (dJ cx.N d) (cO cx apps dsts l id id d e h fs K (dV false (on cx e x) (on cx e y))):=
 bV cx apps dsts l id id d e h fs K ty pos aft (.call ⟨.builtin .min,#[x,y],ts⟩) (dV false (on cx e x) (on cx e y)) (by first|rfl| (cases d<;>rfl)) rfl
theorem Ir (ts:Array TypeId)(x y:Operand):run cx apps dsts (⟨d,.call ⟨.builtin .max,#[x,y],ts⟩,ty,pos,aft,none⟩::l) id e h fs K=AN (dJ cx.N d) (cO cx apps dsts l id id d e h fs K (dV true (on cx e x) (on cx e y))):=
 bV cx apps dsts l id id d e h fs K ty pos aft (.call ⟨.builtin .max,#[x,y],ts⟩) (dV true (on cx e x) (on cx e y)) (by first|rfl| (cases d<;>rfl)) rfl
theorem Db (ts:Array TypeId)(f:Operand)(xs:List Operand):run cx apps dsts (⟨d,.call ⟨.value f,xs.toArray,ts⟩,ty,pos,aft,none⟩::l) id e h fs K=AN (dJ cx.N d) (cO cx apps dsts l id id d e h fs K (tE cx (on cx e f) (r8 cx e xs))):=
 bV cx apps dsts l id id d e h fs K ty pos aft (.call ⟨.value f,xs.toArray,ts⟩) (tE cx (on cx e f) (r8 cx e xs)) (by rw[splanA.eq_def];simp only[];rw[splan.eq_def];simp only[];rw[AH];show gN cx (on cx e f) _=_;unfold gN tE;cases on cx e f<;>first|rfl| (simp only[sa];rfl)) rfl
end
end Go.Sx
namespace Go.Sx
open Go.RowKit
def bf (x:BitVec 32):Value:= .int .u32 x.toNat
def w8 (x:UInt8):Value:= .int .u8 x.toNat
def nI (n:Nat):Value:= .int .i64 n
def nU (n:Nat):Value:= .int .u64 n
def str (l:List UInt8):Value:= .string ⟨l.toArray⟩
theorem N2 (l:List UInt8):Value.string ⟨l.toArray⟩ =str l:=rfl
theorem aQ {l l':List UInt8}:str l=str l'↔l=l':=by
 constructor
 . intro h
   simp only[str,Value.string.injEq,ByteArray.mk.injEq] at h
   simpa using congrArg Array.toList h
 . rintro rfl;rfl
theorem a8 {a b:UInt8}:w8 a=w8 b↔a=b:=by
 simp only[w8,Value.int.injEq,true_and]
 constructor
 . intro h;exact UInt8.toNat_inj.1 (by omega)
 . rintro rfl;rfl
theorem aR {a b:BitVec 32}:bf a=bf b↔a=b:=by
 simp only[bf,Value.int.injEq,true_and]
 constructor
 . intro h;exact BitVec.eq_of_toNat_eq (by omega)
 . rintro rfl;rfl
theorem aT {a b:Nat}:nI a=nI b↔a=b:=by simp only[nI,Value.int.injEq,true_and];omega
theorem ba {a b:Nat}:nU a=nU b↔a=b:=by simp only[nU,Value.int.injEq,true_and];omega
def cl {α:Type}(f:α→List C)(l:List α):List C:=l.flatMap f
def sl {α:Type}(f:α→List C)(r:Rt)(l:List α):C:= .sl r l.length (cl f l)
class Cel {α:Type} (f:α→List C) (s:outParam Nat):Prop where
 len:∀a,(f a).length=s
 clean:∀a,(f a).map C.noR=f a
 pos:0< s
 live:∀a r,bE (some (f a++r)) =some (f a++r)
class Sca {α:Type} (f:α→List C) (g:outParam (α→C)):Prop where
 one:∀a,f a= [g a]
 clean:∀a,(g a).noR=g a
 cells:∀a,(g a).cells?=some [g a]
 live:∀a r,bE (some (g a::r)) =some (g a::r)
def bC (b:UInt8):List C:=[.val (w8 b)]
def wC (b:BitVec 32):List C:=[.val (bf b)]
def sC (b:List UInt8):List C:=[.val (str b)]
def iC (b:Int):List C:=[.val (.int .i64 b)]
def nC (b:Nat):List C:=[.val (nI b)]
def oC (b:Bool):List C:=[.val (.bool b)]
instance:Sca bC (fun b=> .val (w8 b)):=⟨fun _=>rfl,fun _=>rfl,fun _=>rfl,fun _ _=>rfl⟩
instance:Sca wC (fun b=> .val (bf b)):=⟨fun _=>rfl,fun _=>rfl,fun _=>rfl,fun _ _=>rfl⟩
instance:Sca sC (fun b=> .val (str b)):=⟨fun _=>rfl,fun _=>rfl,fun _=>rfl,fun _ _=>rfl⟩
instance:Sca iC (fun b=> .val (.int .i64 b)):=⟨fun _=>rfl,fun _=>rfl,fun _=>rfl,fun _ _=>rfl⟩
instance:Sca nC (fun b=> .val (nI b)):=⟨fun _=>rfl,fun _=>rfl,fun _=>rfl,fun _ _=>rfl⟩
instance:Sca oC (fun b=> .val (.bool b)):=⟨fun _=>rfl,fun _=>rfl,fun _=>rfl,fun _ _=>rfl⟩
instance {α:Type} {f:α→List C} {g:α→C} [h:Sca f g]:Cel f 1:=⟨fun a=>by rw[h.one];rfl,fun a=>by rw[h.one];simp[h.clean],by decide,fun a r=>by rw[h.one];exact h.live a r⟩
theorem uS (l:List UInt8):l.map g4=cl bC l:=by
 unfold cl;induction l with
 |nil=>rfl
 |cons a l ih=>simp only[List.map_cons,ih,List.flatMap_cons];rfl
section
variable {α:Type} {f:α→List C} {s:Nat} [hf:Cel f s]
omit hf in
theorem kz:cl f [] = []:=rfl
omit hf in
theorem dx (a:α)(l:List α):cl f (a::l) =f a++cl f l:=rfl
omit hf in
theorem kA (l l':List α):cl f (l++l') =cl f l++cl f l':=by simp[cl]
theorem bj:∀l:List α,(cl f l).length=l.length*s
 | [] =>by simp[cl]
 |a::l=>by rw[dx,List.length_append,hf.len,bj l,List.length_cons,Nat.add_mul,Nat.one_mul,Nat.add_comm]
include hf in
theorem fT:∀l:List α,(cl f l).map C.noR=cl f l
 | [] =>rfl
 |a::l=>by rw[dx,List.map_append,hf.clean,fT l]
theorem gc:∀ (l:List α)(k:Nat),(cl f l).drop (k*s) =cl f (l.drop k)
 |l,0=>by simp
 | [],k+1=>by simp[cl]
 |a::l,k+1=>by
  have e: (k+1)*s=s+k*s:=by rw[Nat.add_mul,Nat.one_mul,Nat.add_comm]
  have h: ((f a)++cl f l).drop s=cl f l:=by
   have:=List.drop_left (l₁:=f a) (l₂:=cl f l)
   rwa [hf.len] at this
  rw[dx,e,←List.drop_drop,h,List.drop_succ_cons]
  exact gc l k
theorem gQ:∀ (l:List α)(k:Nat),(cl f l).take (k*s) =cl f (l.take k)
 |l,0=>by simp[cl]
 | [],k+1=>by simp[cl]
 |a::l,k+1=>by
  have e: (k+1)*s=s+k*s:=by rw[Nat.add_mul,Nat.one_mul,Nat.add_comm]
  rw[dx,e,List.take_append,hf.len,List.take_of_length_le (by rw[hf.len];omega),List.take_succ_cons,dx,Nat.add_sub_cancel_left,gQ l k]
theorem pM (l:List α)(k:Nat)(a:α)(h:k< l.length):splice (cl f l) (k*s) (f a) =cl f (l.set k a):=by
 unfold splice
 rw[gQ,hf.len,←Nat.succ_mul,gc,List.set_eq_take_append_cons_drop,if_pos h,kA,dx,List.append_assoc]
theorem A5 (l l':List α)(k:Nat):splice (cl f l) (k*s) (cl f l') =cl f (l.take k++l'++l.drop (k+l'.length)):=by
 unfold splice
 rw[gQ,bj,←Nat.add_mul,gc,kA,kA]
theorem GF (l:List α)(k:Nat)(a:α)(h:l[k]? =some a): ((cl f l).drop (k*s)).take s=f a:=by
 rw[gc]
 obtain ⟨hk,rfl⟩:=List.getElem?_eq_some_iff.1 h
 rw[List.drop_eq_getElem_cons hk,dx,List.take_append,hf.len,Nat.sub_self,List.take_zero,List.append_nil,List.take_of_length_le (by rw[hf.len];exact Nat.le_refl _)]
end
section
variable {α:Type} [Inhabited α] {f:α→List C} {g:α→C} [hf:Sca f g]
theorem A6 (l:List α)(k:Nat)(h:k< l.length): (cl f l)[k]? =some (g (l.getD k default)):=by
 have hq:l[k]? =some (l.getD k default):=by simp[List.getD,List.getElem?_eq_getElem h]
 have:=GF (f:=f) l k _ hq
 rw[Nat.mul_one,hf.one] at this
 have h2:=congrArg (fun z=>z[0]?) this
 simpa[List.getElem?_take,List.getElem?_drop] using h2
end
theorem Dc (x:Option (List C))(h:Hp):Hp.at (x::h) 0=bE x:=rfl
theorem Dd (v:Value)(r:List C):bE (some (.val v::r)) =some (.val v::r):=rfl
theorem Is (f:Nat)(xs r:List C):bE (some (.fn f xs::r)) =some (.fn f xs::r):=rfl
theorem De {α:Type}(f:α→List C)(q:Rt)(l:List α)(r:List C):bE (some (sl f q l::r)) =some (sl f q l::r):=rfl
theorem It {α:Type}(f:α→List C){s:Nat}[hf:Cel f s](l:List α):bE (some (cl f l)) =some (cl f l):=by
 cases l with
 |nil=>rfl
 |cons a l=>exact hf.live a _
theorem N3 {α:Type}(f:α→List C){s:Nat}[hf:Cel f s](a:α):bE (some (f a)) =some (f a):=by
 have:=hf.live a []
 simpa using this
theorem oB {α:Type}(f:α→List C){s:Nat}[hf:Cel f s](l:List α)(r:List C)(h:bE (some r) =some r):bE (some (cl f l++r)) =some (cl f l++r):=by
 cases l with
 |nil=>exact h
 |cons a l=>rw[dx,List.append_assoc];exact hf.live a _
theorem Df (x:Option (List C))(h:Hp)(n:Nat):Hp.at (x::h) (n+1) =Hp.at h n:=by simp[Hp.at]
def dA (cells:List C)(o:Nat):Option C:=(cells[o]?).map C.noR
def ig (cells:List C)(o n:Nat):Option C:=if o+n≤cells.length then some (.agg (((cells.drop o).take n).map C.noR)) else none
def ef (cells:List C)(o:Nat)(cs:List C):Option (List C×C):=if o+cs.length≤cells.length then some (splice cells o cs,.val undef) else none
def A7 (cells:List C)(o:Nat)(c:C):Option (List C×C):=if o< cells.length then some (cells.set o c,.val undef) else none
theorem sb (c:C)(l:List C):dA (c::l) 0=some c.noR:=rfl
theorem A8 (c:C)(l:List C)(n:Nat):dA (c::l) (n+1) =dA l n:=by simp[dA]
theorem lj (l:List C)(k n:Nat):dA (l.drop k) n=dA l (k+n):=by simp[dA,List.getElem?_drop]
theorem pN {α:Type}[Inhabited α]{f:α→List C}{g:α→C}[hf:Sca f g](l:List α)(k:Nat)(h:k< l.length):dA (cl f l) k=some (g (l.getD k default)):=by
 simp only[dA,A6 (f:=f) l k h,Option.map_some,hf.clean]
theorem Iu {α:Type}[Inhabited α]{f:α→List C}{g:α→C}[hf:Sca f g](l:List α)(r:List C)(k:Nat)(h:k< l.length):dA (cl f l++r) k=some (g (l.getD k default)):=by
 rw[←pN (f:=f) l k h]
 simp only[dA]
 rw[List.getElem?_append_left (by rw[bj (f:=f)];omega)]
theorem wA {α:Type}{f:α→List C}{s:Nat}[hf:Cel f s](l:List α)(r:List C)(k:Nat)(h:l.length*s≤k):dA (cl f l++r) k=dA r (k - l.length*s):=by
 simp only[dA]
 rw[List.getElem?_append_right (by rw[bj (f:=f)];exact h),bj (f:=f)]
theorem Iv {α:Type}{f:α→List C}{s:Nat}[hf:Cel f s](l:List α)(r:List C)(n:Nat)(h:l.length*s=n):ig (cl f l++r) 0 n=some (.agg (cl f l)):=by
 subst h
 simp only[ig,Nat.zero_add,List.length_append,bj (f:=f),Nat.le_add_right,if_true,List.drop_zero]
 rw[←bj (f:=f) l,List.take_left,fT]
theorem Iw {α:Type}[Inhabited α]{f:α→List C}{s:Nat}[hf:Cel f s](l:List α)(k:Nat)(h:k< l.length):ig (cl f l) (k*s) s=some (.agg (f (l.getD k default))):=by
 have hq:l[k]? =some (l.getD k default):=by simp[List.getD,List.getElem?_eq_getElem h]
 simp only[ig]
 rw[if_pos (by rw[bj (f:=f),←Nat.succ_mul];exact Nat.mul_le_mul_right _ h),GF (f:=f) l k _ hq,hf.clean]
theorem A9 {α:Type}{f:α→List C}{g:α→C}[hf:Sca f g](l:List α)(k:Nat)(a:α)(h:k< l.length):ef (cl f l) k [g a] =some (cl f (l.set k a),.val undef):=by
 have:=pM (f:=f) l k a h
 rw[Nat.mul_one,hf.one] at this
 simp only[ef]
 rw[if_pos (by rw[bj (f:=f)];simp;omega),this]
theorem n5 (x r cs:List C)(o:Nat)(h:o+cs.length≤x.length):splice (x++r) o cs=splice x o cs++r:=by
 unfold splice
 rw[List.take_append_of_le_length (by omega),List.drop_append_of_le_length h]
 simp
theorem n6 (x r cs:List C)(o:Nat)(h:x.length≤o):splice (x++r) o cs=x++splice r (o - x.length) cs:=by
 unfold splice
 rw[List.take_append,List.take_of_length_le h,List.drop_append,List.drop_of_length_le (by omega)]
 simp
 congr 1;omega
theorem wB {α:Type}{f:α→List C}{s:Nat}[hf:Cel f s](l:List α)(r cs:List C)(o:Nat)(h:l.length*s≤o):ef (cl f l++r) o cs= (ef r (o - l.length*s) cs).map fun q=>(cl f l++q.1,q.2):=by
 have hl:=bj (f:=f) l
 simp only[ef,List.length_append,hl]
 rw[n6 _ _ _ _ (by rw[hl];exact h),hl]
 by_cases hh:o+cs.length≤l.length*s+r.length
 . rw[if_pos hh,if_pos (by omega)];rfl
 . rw[if_neg hh,if_neg (by omega)];rfl
theorem wE {α:Type}{f:α→List C}{s:Nat}[hf:Cel f s](l l':List α)(h:l'.length=l.length):ef (cl f l) 0 (cl f l') =some (cl f l',.val undef):=by
 simp only[ef,bj (f:=f),h,Nat.zero_add,Nat.le_refl,if_true,splice,List.take_zero,List.nil_append]
 rw[List.drop_of_length_le (by rw[bj (f:=f)];exact Nat.le_refl _),List.append_nil]
theorem Dg {α:Type}{f:α→List C}{s:Nat}[hf:Cel f s](l l':List α)(r:List C)(h:l'.length=l.length):ef (cl f l++r) 0 (cl f l') =some (cl f l'++r,.val undef):=by
 have hl:=bj (f:=f) l
 have hl':=bj (f:=f) l'
 have:=wE (f:=f) l l' h
 simp only[ef,List.length_append,hl,hl',h,Nat.zero_add,Nat.le_refl,Nat.le_add_right,if_true] at this ⊢
 rw[n5 _ _ _ _ (by rw[hl,hl',h,Nat.zero_add];exact Nat.le_refl _)]
 simp only[Option.some.injEq,Prod.mk.injEq,and_true] at this
 rw[this]
theorem Ix (a c:C):A7 [a] 0 c=some ([c],.val undef):=rfl
end Go.Sx
namespace Go.Sx
open Go.RowKit
theorem iO (n:Int):IntKind.wrap .u8 n=n % 256:=by simp[IntKind.wrap,IntKind.bits,IntKind.signed]
theorem lm (n:Int):IntKind.wrap .u32 n=n % 4294967296:=by simp[IntKind.wrap,IntKind.bits,IntKind.signed]
theorem fZ (n:Int):IntKind.wrap .u64 n=n % 18446744073709551616:=by simp[IntKind.wrap,IntKind.bits,IntKind.signed]
theorem dW (n:Int)(h: -9223372036854775808≤n)(h2:n< 9223372036854775808):IntKind.wrap .i64 n=n:=by
 have e:IntKind.wrap .i64 n=if n % 18446744073709551616≥9223372036854775808 then n % 18446744073709551616 - 18446744073709551616 else n % 18446744073709551616:=by
  simp[IntKind.wrap,IntKind.bits,IntKind.signed]
 rw[e]
 split<;>omega
theorem ln (z:BitVec 32):IntKind.wrap .u32 (z.toNat:Int) =z.toNat:=by rw[lm];have:=z.isLt;omega
theorem fp (z:BitVec 32):BitVec.ofInt 32 (z.toNat:Int) =z:=by simp
theorem Iy (n:Nat)(h:n< 4294967296):Value.int .u32 (n:Int) =bf (BitVec.ofNat 32 n):=by
 simp only[bf,BitVec.toNat_ofNat];rw[Nat.mod_eq_of_lt (by simpa using h)]
theorem Dh (n:Nat)(h:n< 4294967296):Value.int .u32 (no_index (OfNat.ofNat n:Int)) =bf (BitVec.ofNat 32 n):=Iy n h
theorem Iz (n:Nat)(h:n< 256):Value.int .u8 (no_index (OfNat.ofNat n:Int)) =w8 (UInt8.ofNat n):=by
 simp only[w8,UInt8.toNat_ofNat'];rw[Nat.mod_eq_of_lt (by simpa using h)];rfl
theorem IA (n:Nat):Value.int .i64 (no_index (OfNat.ofNat n:Int)) =nI n:=rfl
theorem IB (n:Nat):Value.int .u64 (no_index (OfNat.ofNat n:Int)) =nU n:=rfl
section
variable (P:Program) (t:TypeId)
theorem bI (op:BinOp)(k k':IntKind)(a b:Int):aq P op t (.val (.int k a)) (.val (.int k' b)) = (bW op (.int k a) (.int k' b)).map fun v=>vp (.val v):=by
 unfold aq;cases td P t<;>rfl
theorem kB (op:BinOp)(a b:ByteArray):aq P op t (.val (.string a)) (.val (.string b)) = (bW op (.string a) (.string b)).map fun v=>vp (.val v):=by
 unfold aq;cases td P t<;>rfl
theorem RY (x y:BitVec 32):aq P .add t (.val (bf x)) (.val (bf y)) =some (vp (.val (bf (x+y)))):=by
 simp only[bf,bI,bW,ne_eq,not_true_eq_false,if_false,Option.map_some,lm,BitVec.toNat_add];simp
theorem R0 (x y:BitVec 32):aq P .xor t (.val (bf x)) (.val (bf y)) =some (vp (.val (bf (x ^^^ y)))):=by
 simp only[bf,bI]
 show some (vp (.val (.int .u32 (IntKind.wrap .u32 ((BitVec.ofInt 32 (x.toNat:Int) ^^^ BitVec.ofInt 32 (y.toNat:Int)).toNat:Int))))) =_
 rw[fp,fp,ln]
theorem R1 (x y:BitVec 32):aq P .and t (.val (bf x)) (.val (bf y)) =some (vp (.val (bf (x &&& y)))):=by
 simp only[bf,bI]
 show some (vp (.val (.int .u32 (IntKind.wrap .u32 ((BitVec.ofInt 32 (x.toNat:Int) &&& BitVec.ofInt 32 (y.toNat:Int)).toNat:Int))))) =_
 rw[fp,fp,ln]
theorem VD (x y:BitVec 32):aq P .or t (.val (bf x)) (.val (bf y)) =some (vp (.val (bf (x|||y)))):=by
 simp only[bf,bI]
 show some (vp (.val (.int .u32 (IntKind.wrap .u32 ((BitVec.ofInt 32 (x.toNat:Int) |||BitVec.ofInt 32 (y.toNat:Int)).toNat:Int))))) =_
 rw[fp,fp,ln]
theorem R2 (x:BitVec 32):eU .xor (.val (bf x)) =some (vp (.val (bf (~~~x)))):=by
 show some (vp (.val (.int .u32 (IntKind.wrap .u32 ((BitVec.ofInt 32 4294967295 ^^^ BitVec.ofInt 32 (x.toNat:Int)).toNat:Int))))) =_
 have e:BitVec.ofInt 32 4294967295=BitVec.allOnes 32:=by decide
 rw[fp,e,BitVec.allOnes_xor,ln]
 rfl
theorem GG (x:BitVec 32)(k:IntKind)(n:Nat):aq P .shl t (.val (bf x)) (.val (.int k n)) =some (vp (.val (bf (x<<< n)))):=by
 rw[bf,bI]
 have e:bW .shl (.int .u32 (x.toNat:Int)) (.int k (n:Int)) =some (.int .u32 (IntKind.wrap .u32 ((x.toNat:Int)*2 ^ (min n 32)))):=by
  show (if (n:Int) < 0 then none else _) =_
  rw[if_neg (by omega)]
  rfl
 rw[e,lm,bf,BitVec.toNat_shiftLeft,Nat.shiftLeft_eq]
 show some (vp (.val _)) =_
 congr 4
 have ep:∀m:Nat,(x.toNat:Int)*2 ^ m= ((x.toNat*2 ^ m:Nat):Int):=fun m=>by rw[Int.natCast_mul,Int.natCast_pow];rfl
 by_cases h:n≤32
 . rw[Nat.min_eq_left h,ep];exact (Int.natCast_emod _ 4294967296).symm
 . rw[Nat.min_eq_right (by omega)]
   obtain ⟨m,rfl⟩:∃m,n=32+m:=⟨n - 32,by omega⟩
   rw[Nat.pow_add,←Nat.mul_assoc,Nat.mul_right_comm,Nat.mul_mod_left]
   omega
theorem GH (x:BitVec 32)(k:IntKind)(n:Nat):aq P .shr t (.val (bf x)) (.val (.int k n)) =some (vp (.val (bf (x>>>n)))):=by
 rw[bf,bI]
 have e:bW .shr (.int .u32 (x.toNat:Int)) (.int k (n:Int)) =some (.int .u32 ((x.toNat:Int).fdiv (2 ^ (min n 32)))):=by
  show (if (n:Int) < 0 then none else _) =_
  rw[if_neg (by omega)]
  rfl
 rw[e,bf,BitVec.toNat_ushiftRight,Nat.shiftRight_eq_div_pow]
 show some (vp (.val _)) =_
 congr 4
 have hx:=x.isLt
 by_cases h:n≤32
 . rw[Nat.min_eq_left h,Int.fdiv_eq_ediv_of_nonneg _ (Int.le_of_lt (Int.pow_pos (by decide)))]
   have ep: (2:Int) ^ n= ((2 ^ n:Nat):Int):=by rw[Int.natCast_pow];rfl
   rw[ep,←Int.natCast_ediv]
 . rw[Nat.min_eq_right (by omega),Nat.div_eq_of_lt (Nat.lt_of_lt_of_le hx (Nat.pow_le_pow_right (by omega) (by omega)))]
   rw[Int.fdiv_eq_ediv_of_nonneg _ (by omega)];omega
end
end Go.Sx
namespace Go.Sx
open Go.RowKit
theorem IC (z:UInt8):IntKind.wrap .u8 (z.toNat:Int) =z.toNat:=by rw[iO];have:=z.toNat_lt;omega
theorem uT (z:UInt8):BitVec.ofInt 8 (z.toNat:Int) =z.toBitVec:=by
 apply BitVec.eq_of_toNat_eq;simp
section
variable (P:Program) (t:TypeId)
theorem R3 (x y:UInt8):aq P .xor t (.val (w8 x)) (.val (w8 y)) =some (vp (.val (w8 (x ^^^ y)))):=by
 simp only[w8,bI]
 show some (vp (.val (.int .u8 (IntKind.wrap .u8 ((BitVec.ofInt 8 (x.toNat:Int) ^^^ BitVec.ofInt 8 (y.toNat:Int)).toNat:Int))))) =_
 rw[uT,uT]
 show some (vp (.val (.int .u8 (IntKind.wrap .u8 ((x ^^^ y).toNat:Int))))) =_
 rw[IC]
theorem R4 (x y:UInt8):aq P .sub t (.val (w8 x)) (.val (w8 y)) =some (vp (.val (w8 (x - y)))):=by
 simp only[w8,bI,bW,ne_eq,not_true_eq_false,if_false,Option.map_some,iO,UInt8.toNat_sub]
 have:=x.toNat_lt;have:=y.toNat_lt
 congr 4;omega
theorem R5 (x y:Nat)(h:x+y< 9223372036854775808):aq P .add t (.val (nI x)) (.val (nI y)) =some (vp (.val (nI (x+y)))):=by
 simp only[nI,bI,bW,ne_eq,not_true_eq_false,if_false,Option.map_some]
 rw[dW _ (by omega) (by omega)];simp
theorem R6 (x y:Nat)(h:y≤x∧x< 9223372036854775808):aq P .sub t (.val (nI x)) (.val (nI y)) =some (vp (.val (nI (x - y)))):=by
 simp only[nI,bI,bW,ne_eq,not_true_eq_false,if_false,Option.map_some]
 rw[dW _ (by omega) (by omega)];congr 4;omega
theorem R7 (x y:Nat)(h:x*y< 9223372036854775808):aq P .mul t (.val (nI x)) (.val (nI y)) =some (vp (.val (nI (x*y)))):=by
 have e: (x:Int)*(y:Int) = ((x*y:Nat):Int):=by simp
 simp only[nI,bI,bW,ne_eq,not_true_eq_false,if_false,Option.map_some]
 rw[e,dW _ (by omega) (by omega)]
theorem R8 (x y:Nat)(h:0< y∧x< 9223372036854775808):aq P .quo t (.val (nI x)) (.val (nI y)) =some (vp (.val (nI (x / y)))):=by
 have hy: (y:Int)≠0:=by omega
 have h2:x / y≤x:=Nat.div_le_self ..
 simp only[nI,bI,bW,ne_eq,not_true_eq_false,if_false,Option.map_some,hy]
 have e: ((x:Int).tdiv (y:Int)) = ((x / y:Nat):Int):=rfl
 rw[e]
 generalize x / y=q at h2
 rw[dW _ (by omega) (by omega)]
theorem R9 (x y:Nat)(h:0< y):aq P .rem t (.val (nI x)) (.val (nI y)) =some (vp (.val (nI (x % y)))):=by
 have hy: (y:Int)≠0:=by omega
 simp only[nI,bI,bW,ne_eq,not_true_eq_false,if_false,Option.map_some,hy]
 rfl
theorem Sa (x y:Nat):aq P .eql t (.val (nI x)) (.val (nI y)) =some (vp (.val (.bool (decide (x=y))))):=by
 simp only[nI,bI,bW,ne_eq,not_true_eq_false,if_false,Option.map_some]
 congr 4;rw[Bool.eq_iff_iff];simp;omega
theorem Sb (x y:Nat):aq P .neq t (.val (nI x)) (.val (nI y)) =some (vp (.val (.bool (decide (x≠y))))):=by
 simp only[nI,bI,bW,ne_eq,not_true_eq_false,if_false,Option.map_some]
 congr 4;rw[Bool.eq_iff_iff];simp;omega
theorem Sc (x y:Nat):aq P .lss t (.val (nI x)) (.val (nI y)) =some (vp (.val (.bool (decide (x< y))))):=by
 simp only[nI,bI,bW,ne_eq,not_true_eq_false,if_false,Option.map_some]
 congr 4;rw[Bool.eq_iff_iff];simp
theorem Sd (x y:Nat):aq P .leq t (.val (nI x)) (.val (nI y)) =some (vp (.val (.bool (decide (x≤y))))):=by
 simp only[nI,bI,bW,ne_eq,not_true_eq_false,if_false,Option.map_some]
 congr 4;rw[Bool.eq_iff_iff];simp
theorem Se (x y:Nat):aq P .gtr t (.val (nI x)) (.val (nI y)) =some (vp (.val (.bool (decide (y< x))))):=by
 simp only[nI,bI,bW,ne_eq,not_true_eq_false,if_false,Option.map_some]
 congr 4;rw[Bool.eq_iff_iff];simp
theorem Sf (x y:Nat):aq P .geq t (.val (nI x)) (.val (nI y)) =some (vp (.val (.bool (decide (y≤x))))):=by
 simp only[nI,bI,bW,ne_eq,not_true_eq_false,if_false,Option.map_some]
 congr 4;rw[Bool.eq_iff_iff];simp
theorem Sg (x y:Nat)(h:x+y< 18446744073709551616):aq P .add t (.val (nU x)) (.val (nU y)) =some (vp (.val (nU (x+y)))):=by
 simp only[nU,bI,bW,ne_eq,not_true_eq_false,if_false,Option.map_some,fZ]
 congr 4;omega
theorem Sh (x y:Nat)(h:y≤x∧x< 18446744073709551616):aq P .sub t (.val (nU x)) (.val (nU y)) =some (vp (.val (nU (x - y)))):=by
 simp only[nU,bI,bW,ne_eq,not_true_eq_false,if_false,Option.map_some,fZ]
 congr 4;omega
theorem Si (x y:Nat)(h:x*y< 18446744073709551616):aq P .mul t (.val (nU x)) (.val (nU y)) =some (vp (.val (nU (x*y)))):=by
 have e: (x:Int)*(y:Int) = ((x*y:Nat):Int):=by simp
 simp only[nU,bI,bW,ne_eq,not_true_eq_false,if_false,Option.map_some,fZ]
 rw[e];congr 4;omega
theorem Sj (x y:Nat)(h:0< y):aq P .rem t (.val (nU x)) (.val (nU y)) =some (vp (.val (nU (x % y)))):=by
 have hy: (y:Int)≠0:=by omega
 simp only[nU,bI,bW,ne_eq,not_true_eq_false,if_false,Option.map_some,hy]
 rfl
theorem Sk (x y:Nat)(h:x< 18446744073709551616∧y< 18446744073709551616):aq P .and t (.val (nU x)) (.val (nU y)) =some (vp (.val (nU (x &&& y)))):=by
 simp only[nU,bI]
 show some (vp (.val (.int .u64 (IntKind.wrap .u64 ((BitVec.ofInt 64 (x:Int) &&& BitVec.ofInt 64 (y:Int)).toNat:Int))))) =_
 rw[BitVec.ofInt_natCast,BitVec.ofInt_natCast,BitVec.toNat_and,BitVec.toNat_ofNat,BitVec.toNat_ofNat,Nat.mod_eq_of_lt h.1,Nat.mod_eq_of_lt h.2,fZ]
 have:x &&& y≤x:=Nat.and_le_left
 congr 4;omega
theorem GI (x n:Nat)(k:IntKind)(h:x< 18446744073709551616):aq P .shr t (.val (nU x)) (.val (.int k n)) =some (vp (.val (nU (x>>>n)))):=by
 rw[nU,bI]
 have e:bW .shr (.int .u64 (x:Int)) (.int k (n:Int)) =some (.int .u64 ((x:Int).fdiv (2 ^ (min n 64)))):=by
  show (if (n:Int) < 0 then none else _) =_
  rw[if_neg (by omega)]
  rfl
 rw[e,nU,Nat.shiftRight_eq_div_pow]
 show some (vp (.val _)) =_
 congr 4
 by_cases h:n≤64
 . rw[Nat.min_eq_left h,Int.fdiv_eq_ediv_of_nonneg _ (Int.le_of_lt (Int.pow_pos (by decide)))]
   have ep: (2:Int) ^ n= ((2 ^ n:Nat):Int):=by rw[Int.natCast_pow];rfl
   rw[ep,←Int.natCast_ediv]
 . rename_i hx
   rw[Nat.min_eq_right (by omega),Nat.div_eq_of_lt (Nat.lt_of_lt_of_le hx (by
    have: (2:Nat) ^ 64≤2 ^ n:=Nat.pow_le_pow_right (by omega) (by omega)
    omega))]
   rw[Int.fdiv_eq_ediv_of_nonneg _ (by omega)];omega
theorem Ba (x n:Nat)(h:x< 18446744073709551616):aq P .shr t (.val (nU x)) (.val (nI n)) =some (vp (.val (nU (x>>>n)))):=GI P t x n .i64 h
theorem N4 (x n:Nat)(h:x< 18446744073709551616):aq P .shr t (.val (nU x)) (.val (nU n)) =some (vp (.val (nU (x>>>n)))):=GI P t x n .u64 h
theorem N5 (x:BitVec 32)(n:Nat):aq P .shl t (.val (bf x)) (.val (nI n)) =some (vp (.val (bf (x<<< n)))):=GG P t x .i64 n
theorem N6 (x:BitVec 32)(n:Nat):aq P .shl t (.val (bf x)) (.val (nU n)) =some (vp (.val (bf (x<<< n)))):=GG P t x .u64 n
theorem N7 (x:BitVec 32)(n:Nat):aq P .shr t (.val (bf x)) (.val (nI n)) =some (vp (.val (bf (x>>>n)))):=GH P t x .i64 n
theorem N8 (x:BitVec 32)(n:Nat):aq P .shr t (.val (bf x)) (.val (nU n)) =some (vp (.val (bf (x>>>n)))):=GH P t x .u64 n
theorem iP (l:List UInt8): (⟨l.toArray⟩:ByteArray).size=l.length:=by simp[ByteArray.size]
theorem ii (l:List UInt8): (⟨l.toArray⟩:ByteArray).toList=l:=by
 have key:∀ (n:Nat)(i:Nat)(r:List UInt8),l.length - i=n→i≤l.length→ByteArray.toList.loop ⟨l.toArray⟩ i r=r.reverse++l.drop i:=by
  intro n
  induction n with
  |zero=>
   intro i r h hi
   rw[ByteArray.toList.loop,iP,if_neg (by omega),List.drop_of_length_le (by omega),List.append_nil]
  |succ n ih=>
   intro i r h hi
   rw[ByteArray.toList.loop,iP,if_pos (by omega),ih _ _ (by omega) (by omega)]
   have hlt:i< l.length:=by omega
   rw[List.drop_eq_getElem_cons hlt]
   simp[ByteArray.get!,hlt]
 have:=key l.length 0 [] rfl (Nat.zero_le _)
 simpa[ByteArray.toList] using this
theorem Sl (x y:List UInt8):aq P .eql t (.val (str x)) (.val (str y)) =some (vp (.val (.bool (decide (x=y))))):=by
 simp only[str,kB,bW,ii,Option.map_some]
 congr 4
 rw[Bool.eq_iff_iff];simp
theorem Sm (x y:List UInt8):aq P .neq t (.val (str x)) (.val (str y)) =some (vp (.val (.bool (decide (x≠y))))):=by
 simp only[str,kB,bW,ii,Option.map_some]
 congr 4
 by_cases h:x=y<;>simp[h]
theorem GJ (x y:List UInt8):aq P .lss t (.val (str x)) (.val (str y)) =some (vp (.val (.bool (Op.bytesLess x y)))):=by
 simp only[str,kB,bW,ii,Option.map_some]
end
end Go.Sx
namespace Go.Sx
open Go.RowKit
def gt {α:Type}[Inhabited α](l:List α)(k:Nat):α:=l.getD k default
def kC (P:Program)(s d:Option TD)(c:C):Option Plan:=match s,d with
 |some ds,some dd=>
  match ds.u,dd.u,c with
  |_,.int k,.val (.int _ n) =>some (.pure (.val (.int k (k.wrap n))))
  |_,.string,.val (.string s) =>some (.pure (.val (.string s)))
  | .string,.slice e,.val (.string s) =>match td P e with
    |some de=>(match de.u with
     | .int .u8=>if s.size≤140737488355328 then some (.pure (.sl .no s.size (s.data.toList.map g4))) else none
     |_=>none)
    |none=>none
  | .slice e,.string,c=>match td P e with
    |some de=>(match de.u with
     | .int .u8=>(match c with
       | .sv b off n=>some (.rd b fun cells=>if off+n≤cells.length then (dU ((cells.drop off).take n)).map fun ns=> .val (.string (jv ns)) else none)
       |c=>match c.sl? with
        |some (n,xs) =>if xs.length=n then (dU xs).map fun ns=> .pure (.val (.string (jv ns))) else none
        |none=>none)
     |_=>none)
    |none=>none
  |_,_,_=>none
 |_,_=>none
theorem ID (P:Program)(s d:TypeId)(c:C):d7 P s d c=kC P (td P s) (td P d) c:=rfl
section
variable (P:Program) (u1:TypeDesc) (a1 b1 a2 b2 a3 b3:Nat) (z1 z2 z3:List Value)
theorem ik (k k':IntKind)(n:Int):kC P (some ⟨u1,a1,b1,z1⟩) (some ⟨.int k,a2,b2,z2⟩) (.val (.int k' n)) =some (vp (.val (.int k (k.wrap n)))):=by
 cases u1<;>rfl
theorem Di (x:UInt8):kC P (some ⟨u1,a1,b1,z1⟩) (some ⟨.int .u32,a2,b2,z2⟩) (.val (w8 x)) =some (vp (.val (bf (x.toBitVec.setWidth 32)))):=by
 rw[w8,ik,lm,bf]
 have:=x.toNat_lt
 congr 4;simp;omega
theorem IE (n:Nat)(h:n< 18446744073709551616):kC P (some ⟨u1,a1,b1,z1⟩) (some ⟨.int .u64,a2,b2,z2⟩) (.val (nI n)) =some (vp (.val (nU n))):=by
 rw[nI,ik,nU,fZ];congr 4;omega
theorem IF (n:Nat)(h:n< 9223372036854775808):kC P (some ⟨u1,a1,b1,z1⟩) (some ⟨.int .i64,a2,b2,z2⟩) (.val (nU n)) =some (vp (.val (nI n))):=by
 rw[nU,ik,nI,dW _ (by omega) (by omega)]
theorem Dj (x:BitVec 32):kC P (some ⟨u1,a1,b1,z1⟩) (some ⟨.int .u8,a2,b2,z2⟩) (.val (bf x)) =some (vp (.val (w8 ⟨x.setWidth 8⟩))):=by
 rw[bf,ik,iO,w8]
 have: (UInt8.ofBitVec (x.setWidth 8)).toNat=x.toNat % 256:=by simp[UInt8.toNat]
 rw[this];rfl
theorem Dk (n:Nat):kC P (some ⟨u1,a1,b1,z1⟩) (some ⟨.int .u8,a2,b2,z2⟩) (.val (nU n)) =some (vp (.val (w8 (UInt8.ofNat n)))):=by
 rw[nU,ik,iO,w8,UInt8.toNat_ofNat'];rfl
theorem N9 (n:Nat):kC P (some ⟨u1,a1,b1,z1⟩) (some ⟨.int .u8,a2,b2,z2⟩) (.val (nI n)) =some (vp (.val (w8 (UInt8.ofNat n)))):=by
 rw[nI,ik,iO,w8,UInt8.toNat_ofNat'];rfl
theorem Oa (n:Int):kC P (some ⟨u1,a1,b1,z1⟩) (some ⟨.int .u8,a2,b2,z2⟩) (.val (.int .i64 n)) =some (vp (.val (w8 (UInt8.ofNat (n % 256).toNat)))):=by
 rw[ik,iO,w8,UInt8.toNat_ofNat'];congr 4;omega
def GK (de:Option TD)(l:List UInt8):Option Plan:=match de with
 |some de=>(match de.u with
  | .int .u8=>if l.length≤140737488355328 then some (vp (sl bC .no l)) else none
  |_=>none)
 |none=>none
theorem Sn (e:TypeId)(l:List UInt8):kC P (some ⟨.string,a1,b1,z1⟩) (some ⟨.slice e,a2,b2,z2⟩) (.val (str l)) =GK (td P e) l:=by
 unfold GK
 show (match td P e with|some de=>_|none=>none) =_
 cases td P e with
 |none=>rfl
 |some de=>
  simp only[]
  split<;>simp_all [iP,sl,uS,HY]
theorem Ob (l:List UInt8)(h:l.length≤140737488355328):GK (some ⟨.int .u8,a3,b3,z3⟩) l=some (vp (sl bC .no l)):=by
 unfold GK;simp only[];rw[if_pos h]
theorem Bb (l:List UInt8):dU (cl bC l) =some (l.map fun b=>(b.toNat:Int)):=by
 induction l with
 |nil=>rfl
 |cons a l ih=>
  show dU (.val (.int .u8 _)::cl bC l) =_
  simp only[dU,ih,Option.map_some,List.map_cons]
theorem sc (l:List UInt8): (Value.string (jv (l.map fun b=>(b.toNat:Int)))) =str l:=by
 unfold jv str
 rw[List.map_map]
 have: (fun n:Int=>UInt8.ofNat n.toNat) ∘ (fun b:UInt8=>(b.toNat:Int)) =id:=by
  funext b;simp
 rw[this,List.map_id]
def Oc (de:Option TD)(_r:Rt)(l:List UInt8):Option Plan:=match de with
 |some de=>(match de.u with
  | .int .u8=>some (vp (.val (str l)))
  |_=>none)
 |none=>none
theorem So (e:TypeId)(r:Rt)(l:List UInt8):kC P (some ⟨.slice e,a1,b1,z1⟩) (some ⟨.string,a2,b2,z2⟩) (sl bC r l) =Oc (td P e) r l:=by
 unfold Oc
 show (match td P e with|some de=>_|none=>none) =_
 cases td P e with
 |none=>rfl
 |some de=>
  simp only[]
  split
  . simp only[sl,C.sl?]
    rw[if_pos (by rw[bj (f:=bC)];omega),Bb]
    simp only[Option.map_some,sc];rfl
  . rfl
theorem Od (r:Rt)(l:List UInt8):Oc (some ⟨.int .u8,a3,b3,z3⟩) r l=some (vp (.val (str l))):=rfl
def Oe (de:Option TD)(b off n:Nat):Option Plan:=match de with
 |some de=>(match de.u with
  | .int .u8=>some (.rd b fun cells=>if off+n≤cells.length then (dU ((cells.drop off).take n)).map fun ns=> .val (.string (jv ns)) else none)
  |_=>none)
 |none=>none
def Of (cells:List C)(o n:Nat):Option C:=if o+n≤cells.length then (dU ((cells.drop o).take n)).map fun ns=> .val (.string (jv ns)) else none
theorem Sp (e:TypeId)(b off n:Nat):kC P (some ⟨.slice e,a1,b1,z1⟩) (some ⟨.string,a2,b2,z2⟩) (.sv b off n) =Oe (td P e) b off n:=by
 unfold Oe
 show (match td P e with|some de=>_|none=>none) =_
 cases td P e with
 |none=>rfl
 |some de=>rfl
theorem Og (b off n:Nat):Oe (some ⟨.int .u8,a3,b3,z3⟩) b off n=some (.rd b fun cells=>Of cells off n):=rfl
theorem Oh (l:List UInt8)(o n:Nat)(h:o+n≤l.length):Of (cl bC l) o n=some (.val (str ((l.drop o).take n))):=by
 have e1:=gc (f:=bC) l o
 have e2:=gQ (f:=bC) (l.drop o) n
 rw[Nat.mul_one] at e1 e2
 simp only[Of]
 rw[if_pos (by rw[bj (f:=bC)];omega),e1,e2,Bb,Option.map_some,sc]
def pO (own:Bool)(t:Option TD)(b o:Nat):Option Plan:=match t with
 |none=>none
 |some d=>if own∧d.isAgg=false then some (.xr b o) else some (.rd b fun cells=>ct d cells o)
theorem IG (own:Bool)(t:TypeId)(b o:Nat):loadPlan P own t (.bp b o) =pO own (td P t) b o:=by
 unfold loadPlan pO;cases td P t<;>rfl
theorem IH (k:IntKind)(b o:Nat):pO false (some ⟨.int k,a1,b1,z1⟩) b o=some (.rd b fun cells=>dA cells o):=rfl
theorem Dl (b o:Nat):pO false (some ⟨.bool,a1,b1,z1⟩) b o=some (.rd b fun cells=>dA cells o):=rfl
theorem II (b o:Nat):pO false (some ⟨.string,a1,b1,z1⟩) b o=some (.rd b fun cells=>dA cells o):=rfl
theorem Oi (e:TypeId)(b o:Nat):pO false (some ⟨.slice e,a1,b1,z1⟩) b o=some (.rd b fun cells=>dA cells o):=rfl
theorem IJ (e:TypeId)(b o:Nat):pO true (some ⟨.slice e,a1,b1,z1⟩) b o=some (.xr b o):=rfl
theorem IK (own:Bool)(n:Nat)(e:TypeId)(b o:Nat):pO own (some ⟨.array n e,a1,b1,z1⟩) b o=some (.rd b fun cells=>ig cells o a1):=by cases own<;>rfl
theorem yE (own:Bool)(fs:Array Field)(b o:Nat):pO own (some ⟨.struct fs,a1,b1,z1⟩) b o=some (.rd b fun cells=>ig cells o a1):=by cases own<;>rfl
def sd (t:Option TD)(xs:List C):Option Plan:=match t with
 |none=>none
 |some d=>(ct d xs 0).map vp
theorem IL (own:Bool)(t:TypeId)(xs:List C):loadPlan P own t (.kp xs) =sd (td P t) xs:=by
 unfold loadPlan sd;cases td P t<;>rfl
theorem IM (k:IntKind)(xs:List C):sd (some ⟨.int k,a1,b1,z1⟩) xs= (dA xs 0).map vp:=rfl
theorem IN (xs:List C):sd (some ⟨.string,a1,b1,z1⟩) xs= (dA xs 0).map vp:=rfl
theorem Oj (e:TypeId)(xs:List C):sd (some ⟨.slice e,a1,b1,z1⟩) xs= (dA xs 0).map vp:=rfl
theorem IP (n:Nat)(e:TypeId)(xs:List C):sd (some ⟨.array n e,a1,b1,z1⟩) xs= (ig xs 0 a1).map vp:=rfl
theorem yF (fs:Array Field)(xs:List C):sd (some ⟨.struct fs,a1,b1,z1⟩) xs= (ig xs 0 a1).map vp:=rfl
def uU (t:Option TD)(b o:Nat)(cs:Option (List C)):Option Plan:=match t with
 |none=>none
 |some d=>match cs with
  |some cs=>if cs.length=d.size then some (.wr b (fun cells=>ef cells o cs) none) else none
  |none=>none
theorem Bc (t:TypeId)(b o:Nat)(v:Value)(k:Option Nat):cw P t (.bp b o) (.val v) k=uU (td P t) b o (C.val v).cells?:=by
 unfold cw uU;cases td P t with
 |none=>rfl
 |some d=>simp only[];cases (C.val v).cells?<;>rfl
theorem Bd (t:TypeId)(b o:Nat)(xs:List C)(k:Option Nat):cw P t (.bp b o) (.agg xs) k=uU (td P t) b o (some (xs.map C.noR)):=by
 unfold cw uU;cases td P t<;>rfl
theorem Dm (t:TypeId)(b o f:Nat)(xs:List C)(k:Option Nat):cw P t (.bp b o) (.fn f xs) k=uU (td P t) b o (some [.fn f xs]):=by
 unfold cw uU;cases td P t<;>rfl
def GL (t:Option TD)(b o:Nat)(c:C)(k:Option Nat):Option Plan:=match t with
 |none=>none
 |some d=>if d.size=1 then some (.wr b (fun cells=>A7 cells o c) k) else none
theorem uV (t:TypeId)(b o:Nat)(r:Rt)(n:Nat)(xs:List C)(k:Option Nat):cw P t (.bp b o) (.sl r n xs) k=GL (td P t) b o (.sl r n xs) k:=by
 unfold cw GL;cases td P t<;>rfl
theorem IQ (u:TypeDesc)(y:Nat)(z:List Value)(b o:Nat)(c:C)(k:Option Nat):GL (some ⟨u,1,y,z⟩) b o c k=some (.wr b (fun cells=>A7 cells o c) k):=rfl
theorem Dn (u:TypeDesc)(s y:Nat)(z:List Value)(b o:Nat)(cs:List C)(h:cs.length=s):uU (some ⟨u,s,y,z⟩) b o (some cs) =some (.wr b (fun cells=>ef cells o cs) none):=if_pos h
theorem Be (x:BitVec 32): (C.val (bf x)).cells?=some [.val (bf x)]:=rfl
theorem Do (x:UInt8): (C.val (w8 x)).cells?=some [.val (w8 x)]:=rfl
theorem Dp (x:Nat): (C.val (nI x)).cells?=some [.val (nI x)]:=rfl
theorem Dq (x:Nat): (C.val (nU x)).cells?=some [.val (nU x)]:=rfl
theorem Bf (k:IntKind)(x:Int): (C.val (.int k x)).cells?=some [.val (.int k x)]:=rfl
theorem Bg (x:List UInt8): (C.val (str x)).cells?=some [.val (str x)]:=rfl
theorem yG (x:Bool): (C.val (.bool x)).cells?=some [.val (.bool x)]:=rfl
theorem Bh (xs:List C): (C.agg xs).cells?=some (xs.map C.noR):=rfl
theorem Ok (i n:Nat)(h:i< n):dQ (.val (nI i)) n=some i:=by
 simp only[dQ,nI,C.int?];rw[if_pos (by omega)];simp
theorem uW (i d m:Nat)(h:i≤m):cn (some (.val (nI i))) d m=some i:=by
 simp only[cn,nI,C.int?];rw[if_pos (by omega)];simp
theorem lp (d m:Nat):cn none d m=some d:=rfl
def pP (de:Option TD)(k:Option Nat)(f:Nat→Nat→Option Plan):Option Plan:=match de,k with
 |some de,some k=>f de.size k
 |_,_=>none
theorem Dr (u:TypeDesc)(s y:Nat)(z:List Value)(k:Nat)(f:Nat→Nat→Option Plan):pP (some ⟨u,s,y,z⟩) (some k) f=f s k:=rfl
def rj (P:Program)(t:Option TD)(c i:C):Option Plan:=match t with
 |none=>none
 |some d=>
  match d.u,c with
  | .array n e,.bp b off=>pP (td P e) (dQ i n) fun s k=>some (vp (.bp b (off+k*s)))
  | .array n e,.kp xs=>pP (td P e) (dQ i n) fun s k=>if n*s≤xs.length then some (vp (.kp (xs.drop (k*s)))) else none
  | .slice e,.sv b off n=>pP (td P e) (dQ i n) fun s k=>some (vp (.bp b (off+k*s)))
  | .slice e,.sl _ n xs=>pP (td P e) (dQ i n) fun s k=>if xs.length=n*s∧xs≠[] then some (vp (.kp (xs.drop (k*s)))) else none
  |_,_=>none
theorem Ol (t:TypeId)(c i:C):cY P t c i=rj P (td P t) c i:=by
 unfold cY rj
 cases td P t with
 |none=>rfl
 |some d=>
  simp only[]
  cases d.u<;>cases c<;>first|rfl| (rename_i e _ _ _;cases td P e<;>first|rfl| (cases dQ i _<;>rfl))
theorem Om (n:Nat)(e:TypeId)(b off:Nat)(i:C):rj P (some ⟨.array n e,a1,b1,z1⟩) (.bp b off) i=pP (td P e) (dQ i n) fun s k=>some (vp (.bp b (off+k*s))):=rfl
theorem On {α:Type}(f:α→List C)(e:TypeId)(r:Rt)(l:List α)(i:C):rj P (some ⟨.slice e,a1,b1,z1⟩) (sl f r l) i=pP (td P e) (dQ i l.length) fun s k=>if (cl f l).length=l.length*s∧cl f l≠[] then some (vp (.kp ((cl f l).drop (k*s)))) else none:=rfl
end
end Go.Sx
namespace Go.Sx
open Go.RowKit
section
variable {α:Type} (f:α→List C)
theorem Ds (l:List α): (sl f .no l).noR=sl f .no l:=rfl
theorem yH (l:List α): (sl f .full l).noR=sl f .full l:=rfl
theorem Bi (s:Nat)(l:List α): (sl f (.own s) l).noR=sl f .no l:=rfl
theorem yI (l:List α): (sl f .no l).share=sl f .no l:=rfl
theorem uX (l:List α): (sl f .full l).share=sl f .no l:=rfl
end
theorem Bj (x:BitVec 32): (C.val (bf x)).share= .val (bf x):=rfl
theorem Dt (x:Nat): (C.val (nI x)).share= .val (nI x):=rfl
theorem yJ (x:List UInt8): (C.val (str x)).share= .val (str x):=rfl
section
variable (P:Program) (u1:TypeDesc) (a1 b1 a2 b2 a3 b3:Nat) (z1 z2 z3:List Value)
def Du (t:Option TD)(x:C):Option Plan:=match t with
 |none=>none
 |some d=>
  match d.u,x with
  | .string,.val (.string s) =>some (.pure (.val (.int .i64 s.size)))
  | .array n _,_=>some (.pure (.val (.int .i64 n)))
  | .slice _,.sv _ _ n=>some (.pure (.val (.int .i64 n)))
  | .slice _,x=>x.sl?.map fun r=> .pure (.val (.int .i64 r.1))
  |_,_=>none
theorem Oo (t:TypeId)(x:C):ga P t x=Du (td P t) x:=rfl
theorem IR (l:List UInt8):Du (some ⟨.string,a1,b1,z1⟩) (.val (str l)) =some (vp (.val (nI l.length))):=by
 show some (vp (.val (.int .i64 ((⟨l.toArray⟩:ByteArray).size:Nat)))) =_
 rw[iP];rfl
theorem Oq {α:Type}(f:α→List C)(e:TypeId)(r:Rt)(l:List α):Du (some ⟨.slice e,a1,b1,z1⟩) (sl f r l) =some (vp (.val (nI l.length))):=rfl
def Ot (P:Program)(t:Option TD)(c i:C):Option Plan:=match t with
 |none=>none
 |some d=>
  match d.u,c with
  | .string,.val (.string s) =>match dQ i s.size with
    |some k=>(s.data[k]?).map fun b=> .pure (g4 b)
    |none=>none
  | .array n e,c=>match td P e,dQ i n,c.agg? with
    |some de,some k,some xs=>(ct de xs (k*de.size)).map .pure
    |_,_,_=>none
  |_,_=>none
theorem Ou (t:TypeId)(c i:C):eB P t c i=Ot P (td P t) c i:=rfl
def Ov (de:Option TD)(k:Option Nat)(xs:Option (List C)):Option Plan:=match de,k,xs with
 |some de,some k,some xs=>(ct de xs (k*de.size)).map vp
 |_,_,_=>none
theorem IS (n:Nat)(e:TypeId)(xs:List C)(i:C):Ot P (some ⟨.array n e,a1,b1,z1⟩) (.agg xs) i=Ov (td P e) (dQ i n) (some xs):=rfl
theorem Dv (k:IntKind)(i:Nat)(xs:List C):Ov (some ⟨.int k,a1,b1,z1⟩) (some i) (some xs) = (dA xs (i*a1)).map vp:=rfl
def V8 (P:Program)(t:Option TD)(c:C)(f:Nat):Option Plan:=match t with
 |none=>none
 |some d=>
  match d.u with
  | .struct fields=>match fields[f]?,c.agg? with
    |some fd,some xs=>(match td P fd.type with
     |some de=>(ct de xs fd.offset).map .pure
     |none=>none)
    |_,_=>none
  |_=>none
def Ox (P:Program)(t:Option TD)(c:C)(f:Nat):Option Plan:=match t with
 |none=>none
 |some d=>
  match d.u with
  | .struct fields=>match fields[f]? with
    |some fd=>(match td P fd.type with
     |some de=>if de.size=0 then none else
      (match c with
      | .bp b off=>some (.pure (.bp b (off+fd.offset)))
      | .bt b _ _=>some (.pure (.bp b fd.offset))
      | .kp xs=>if fd.offset≤xs.length then some (.pure (.kp (xs.drop fd.offset))) else none
      |_=>none)
     |none=>none)
    |none=>none
  |_=>none
theorem yK (t:TypeId)(c:C)(f:Nat):aI P t c f=Ox P (td P t) c f:=rfl
def Bl (de:Option TD)(b o:Nat):Option Plan:=match de with
 |some de=>if de.size=0 then none else some (vp (.bp b o))
 |none=>none
theorem yL (fs:Array Field)(b o:Nat)(i:Nat)(fd:Field)(h:fs[i]? =some fd):Ox P (some ⟨.struct fs,a1,b1,z1⟩) (.bp b o) i=Bl (td P fd.type) b (o+fd.offset):=by
 unfold Ox Bl;simp only[h];rfl
def iy (hi lo:Option C)(n:Nat)(F:Nat→Nat→Option Plan):Option Plan:=match cn hi n n with
 |some h=>(match cn lo 0 h with
  |some k=>F h k
  |none=>none)
 |none=>none
def Bm (hi lo:Option Nat)(F:Nat→Nat→Option Plan):Option Plan:=match hi,lo with
 |some h,some k=>F h k
 |_,_=>none
def uY (P:Program)(t:Option TD)(c:C)(lo hi:Option C):Option Plan:=match t with
 |none=>none
 |some d=>
  match d.u,c with
  | .string,.val (.string s) =>iy hi lo s.size fun h k=>some (vp (.val (.string (s.extract k h))))
  | .slice e,.sv b off n=>(match td P e with
    |some de=>iy hi lo n fun h k=>some (vp (.sv b (off+k*de.size) (h - k)))
    |none=>none)
  | .slice e,c=>(match td P e,c.sl? with
    |some de,some (n,xs) =>if xs.length=n*de.size then iy hi lo n fun h k=>some (vp (.sl .no (h - k) ((xs.drop (k*de.size)).take ((h - k)*de.size)))) else none
    |_,_=>none)
  | .array n e,.bp b off=>(match td P e with
    |some de=>if 65536< n then none else iy hi lo n fun h k=>some (vp (.sv b (off+k*de.size) (h - k)))
    |none=>none)
  | .array n e,.kp xs=>(match td P e with
    |some de=>if 65536< n∨xs.length< n*de.size then none else iy hi lo n fun h k=>some (vp (.sl .no (h - k) ((xs.drop (k*de.size)).take ((h - k)*de.size))))
    |none=>none)
  |_,_=>none
theorem Dw (t:TypeId)(c:C)(lo hi:Option C):dm P t c lo hi none=uY P (td P t) c lo hi:=by
 unfold dm uY iy
 cases td P t with
 |none=>rfl
 |some d=>
  obtain ⟨u,s,y,z⟩:=d
  simp only[Option.isSome_none,Bool.false_eq_true,if_false,false_or,Option.isNone_none,true_or,and_true,lp,false_and]
  cases u with
  |string=>cases c with
   |val v=>cases v<;>rfl
   |_=>rfl
  |slice e=>cases c<;>rfl
  |array n e=>cases c<;>rfl
  |_=>rfl
theorem Dx (lo:Option C)(n:Nat)(F:Nat→Nat→Option Plan):iy none lo n F=Bm (some n) (cn lo 0 n) F:=by
 unfold iy Bm;simp only[lp];cases cn lo 0 n<;>rfl
theorem Oy (lo:Option C)(n h:Nat)(F:Nat→Nat→Option Plan)(hh:h≤n):iy (some (.val (nI h))) lo n F=Bm (some h) (cn lo 0 h) F:=by
 unfold iy Bm;rw[uW _ _ _ hh];simp only[];cases cn lo 0 h<;>rfl
theorem Dy (h k:Nat)(F:Nat→Nat→Option Plan):Bm (some h) (some k) F=F h k:=rfl
theorem IT (l:List UInt8)(lo hi:Option C):uY P (some ⟨.string,a1,b1,z1⟩) (.val (str l)) lo hi=iy hi lo l.length fun h k=>some (vp (.val (str ((l.drop k).take (h - k))))):=by
 show iy hi lo (⟨l.toArray⟩:ByteArray).size _=_
 rw[iP]
 congr 1
 funext h k
 show some (vp (.val (.string _))) =_
 congr 4
 apply ByteArray.ext
 simp[ByteArray.data_extract]
def GM (de:Option TD)(F:Nat→Option Plan):Option Plan:=match de with
 |some de=>F de.size
 |none=>none
theorem Dz (u:TypeDesc)(s y:Nat)(z:List Value)(F:Nat→Option Plan):GM (some ⟨u,s,y,z⟩) F=F s:=rfl
theorem Oz (n:Nat)(e:TypeId)(b o:Nat)(lo hi:Option C)(hn:n≤65536):uY P (some ⟨.array n e,a1,b1,z1⟩) (.bp b o) lo hi=GM (td P e) fun s=>iy hi lo n fun h k=>some (vp (.sv b (o+k*s) (h - k))):=by
 show (match td P e with|some de=>if 65536< n then none else _|none=>none) =_
 cases td P e with
 |none=>rfl
 |some de=>simp only[];rw[if_neg (by omega)];rfl
theorem OA {α:Type}(f:α→List C){s0:Nat}[hf:Cel f s0](e:TypeId)(r:Rt)(l:List α)(lo hi:Option C)(u:TypeDesc)(y:Nat)(z:List Value)(h:td P e=some ⟨u,s0,y,z⟩):
 uY P (some ⟨.slice e,a1,b1,z1⟩) (sl f r l) lo hi=iy hi lo l.length fun h k=>some (vp (sl f .no ((l.drop k).take (h - k)))):=by
 show (match td P e,(sl f r l).sl? with|some de,some (n,xs) =>_|_,_=>none) =_
 rw[h]
 simp only[sl,C.sl?]
 rw[if_pos (bj (f:=f) l)]
 simp only[gc,gQ]
 unfold iy
 cases hb:cn hi l.length l.length with
 |none=>rfl
 |some hh=>
  simp only[]
  cases hb2:cn lo 0 hh with
  |none=>rfl
  |some k=>
   have h1:hh≤l.length:=by
    unfold cn at hb
    split at hb
    . simp only[Option.some.injEq] at hb;omega
    . split at hb
      . split at hb
        . simp only[Option.some.injEq] at hb;omega
        . cases hb
      . cases hb
   simp only[List.length_take,List.length_drop]
   rw[Nat.min_eq_left (by omega)]
def Ti (x:C)(de:TD)(xt:Option Nat):Option (Nat×List C×Option Nat):=match x with
 | .val (.slice none 0 0) =>some (0,[],none)
 | .sl .full n xs=>some (n,xs,none)
 | .sl (.own s) n xs=>if s=de.size then some (n,xs,xt) else none
 |_=>none
def mg (de:TD)(n:Nat)(xs:List C)(m:Nat)(ys:List C):Option C:=
 if xs.length=n*de.size∧ys.length=m*de.size∧0< de.size∧de.zero.length=de.size∧(n+m)*de.bytes≤140737488355328∧n+m≤9223372036854775807 then some (.sl (.own de.size) (n+m) (xs++ys)) else none
def OB (P:Program)(t t2:Option TD)(x y:C)(xt:Option Nat):Option Plan:=match t,t2 with
 |none,_=>none
 |_,none=>none
 |some d,some d2=>
  if fS d2.u=false then none else
  match d.u with
  | .slice e=>match td P e with
    |none=>none
    |some de=>match Ti x de xt with
     |none=>none
     |some (n,xs,k) =>
      match y with
      | .sv b off m=>if k.isSome then some (.wr b (fun cells=>(if off+m*de.size≤cells.length then mg de n xs m (((cells.drop off).take (m*de.size)).map C.noR) else none).map fun c=>(cells,c)) k)
        else some (.rd b fun cells=>if off+m*de.size≤cells.length then mg de n xs m (((cells.drop off).take (m*de.size)).map C.noR) else none)
      |y=>match jj y with
       |some (m,ys) =>(mg de n xs m ys).map fun c=> .val c k
       |none=>none
  |_=>none
theorem OC (t t2:TypeId)(x y:C)(xt:Option Nat):dE P t t2 x y xt=OB P (td P t) (td P t2) x y xt:=rfl
def wG (de:Option TD)(x y:C)(xt:Option Nat):Option Plan:=match de with
 |none=>none
 |some de=>match Ti x de xt with
  |none=>none
  |some (n,xs,k) =>
   match y with
   | .sv b off m=>if k.isSome then some (.wr b (fun cells=>(if off+m*de.size≤cells.length then mg de n xs m (((cells.drop off).take (m*de.size)).map C.noR) else none).map fun c=>(cells,c)) k)
         else some (.rd b fun cells=>if off+m*de.size≤cells.length then mg de n xs m (((cells.drop off).take (m*de.size)).map C.noR) else none)
   |y=>match jj y with
    |some (m,ys) =>(mg de n xs m ys).map fun c=> .val c k
    |none=>none
theorem OD (e e2:TypeId)(x y:C)(xt:Option Nat):OB P (some ⟨.slice e,a1,b1,z1⟩) (some ⟨.slice e2,a2,b2,z2⟩) x y xt=wG (td P e) x y xt:=rfl
theorem OE (e:TypeId)(x y:C)(xt:Option Nat):OB P (some ⟨.slice e,a1,b1,z1⟩) (some ⟨.string,a2,b2,z2⟩) x y xt=wG (td P e) x y xt:=rfl
section
variable {α:Type} (f:α→List C) {s:Nat} [hf:Cel f s] (u:TypeDesc) (y:Nat) (z:List Value)
theorem uZ (l l':List α)(hz:z.length=s)(h: (l.length+l'.length)*y≤140737488355328∧l.length+l'.length≤9223372036854775807):
 mg ⟨u,s,y,z⟩ l.length (cl f l) l'.length (cl f l') =some (sl f (.own s) (l++l')):=by
 unfold mg
 rw[if_pos ⟨bj (f:=f) l,bj (f:=f) l',hf.pos,hz,h.1,h.2⟩]
 simp[sl,kA]
theorem IU (l l':List α)(r:Rt)(xt:Option Nat)(hz:z.length=s)(h: (l.length+l'.length)*y≤140737488355328∧l.length+l'.length≤9223372036854775807):
 wG (some ⟨u,s,y,z⟩) (sl f (.own s) l) (sl f r l') xt=some (.val (sl f (.own s) (l++l')) xt):=by
 show (match (if s=s then some (l.length,cl f l,xt) else none) with|none=>none|some (n,xs,k) =>(match some (l'.length,cl f l') with|some (m,ys) =>(mg ⟨u,s,y,z⟩ n xs m ys).map fun c=>Plan.val c k|none=>none)) =_
 rw[if_pos rfl]
 simp only[uZ f u y z l l' hz h,Option.map_some]
theorem u0 (l l':List α)(r:Rt)(xt:Option Nat)(hz:z.length=s)(h: (l.length+l'.length)*y≤140737488355328∧l.length+l'.length≤9223372036854775807):
 wG (some ⟨u,s,y,z⟩) (sl f .full l) (sl f r l') xt=some (.val (sl f (.own s) (l++l')) none):=by
 show (match some (l'.length,cl f l') with|some (m,ys) =>(mg ⟨u,s,y,z⟩ l.length (cl f l) m ys).map fun c=>Plan.val c none|none=>none) =_
 simp only[uZ f u y z l l' hz h,Option.map_some]
theorem IW (l':List α)(r:Rt)(xt:Option Nat)(hz:z.length=s)(h:l'.length*y≤140737488355328∧l'.length≤9223372036854775807):
 wG (some ⟨u,s,y,z⟩) (.val (.slice none 0 0)) (sl f r l') xt=some (.val (sl f (.own s) l') none):=by
 have:=u0 f u y z [] l' r xt hz (by simpa using h)
 exact this
end
theorem wH (l:List UInt8):jj (.val (str l)) =some (l.length,cl bC l):=by
 show some ((⟨l.toArray⟩:ByteArray).size,l.toArray.toList.map g4) =_
 rw[iP,List.toList_toArray,uS]
theorem DA (u:TypeDesc)(y:Nat)(z:List Value)(l l':List UInt8)(xt:Option Nat)(hz:z.length=1)(h: (l.length+l'.length)*y≤140737488355328∧l.length+l'.length≤9223372036854775807):
 wG (some ⟨u,1,y,z⟩) (sl bC (.own 1) l) (.val (str l')) xt=some (.val (sl bC (.own 1) (l++l')) xt):=by
 show (match (if (1:Nat) =1 then some (l.length,cl bC l,xt) else none) with|none=>none|some (n,xs,k) =>(match jj (.val (str l')) with|some (m,ys) =>(mg ⟨u,1,y,z⟩ n xs m ys).map fun c=>Plan.val c k|none=>none)) =_
 rw[if_pos rfl,wH]
 simp only[uZ bC u y z l l' hz h,Option.map_some]
theorem OF (n:Nat):List.replicate n (C.val (.int .u32 0)) =cl wC (List.replicate n 0):=by
 induction n with
 |zero=>rfl
 |succ n ih=>rw[List.replicate_succ,ih];rfl
theorem OG (n:Nat):List.replicate n (C.val (.int .u8 0)) =cl bC (List.replicate n 0):=by
 induction n with
 |zero=>rfl
 |succ n ih=>rw[List.replicate_succ,ih];rfl
def DB (cs:Option (List C)):Option Plan:=match cs with
 |some cs=>some (.new cs fun id=> .bp id 0)
 |none=>none
theorem OH (x:C):yB x=DB x.cells?:=by unfold yB DB;cases x.cells?<;>rfl
theorem Bn (cs:List C):DB (some cs) =some (.new cs fun id=> .bp id 0):=rfl
theorem IX (x y:C):tC (.val (.bool true)) x y=some (vp x):=rfl
theorem IY (x y:C):tC (.val (.bool false)) x y=some (vp y):=rfl
def Bo (P:Program)(t:Option TD)(x y:C):Option Plan:=match t with
 |none=>none
 |some d=>
  match d.u with
  | .slice e=>match td P e with
    |none=>none
    |some de=>match x,jj y with
     | .sv b off n,some (m,ys) =>
       if ys.length=m*de.size∧0< n then some (.wr b (fun cells=>if off+n*de.size≤cells.length then some (splice cells off ((ys.take (min m n*de.size)).map C.noR),.val (.int .i64 (min m n:Nat))) else none) none) else none
     |_,_=>none
  |_=>none
theorem IZ (t:TypeId)(x y:C):fo P t x y=Bo P (td P t) x y:=rfl
def n7 (cells:List C)(o n s:Nat)(ys:List C)(m:Nat):Option (List C×C):=if o+n*s≤cells.length then some (splice cells o ys,.val (nI m)) else none
theorem OI (e:TypeId)(b o n:Nat)(l:List UInt8)(u:TypeDesc)(y:Nat)(z:List Value)(he:td P e=some ⟨u,1,y,z⟩)(h:0< n):
 Bo P (some ⟨.slice e,a1,b1,z1⟩) (.sv b o n) (.val (str l)) =some (.wr b (fun cells=>n7 cells o n 1 (cl bC (l.take n)) (min l.length n)) none):=by
 unfold Bo
 simp only[he]
 rw[wH]
 simp only[]
 rw[if_pos ⟨bj (f:=bC) l,h⟩]
 congr 2
 funext cells
 unfold n7
 rw[gQ,fT]
 have:l.take (min l.length n) =l.take n:=by rw[List.take_eq_take_iff];omega
 rw[this];rfl
end
end Go.Sx
