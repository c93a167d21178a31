/-
   And what follows.
-/
import Derived.ChangeSame
import Derived.ChangeVars
import Derived.ChangeStays
import Derived.ChangeOld
import Derived.ChangeArms
import Derived.OpenShut
import Derived.RowKit
import Derived.JoinedOf
import Derived.Handed
import Derived.LaidLaws
import Derived.LaidMore
import Derived.KernelRfl
import Derived.LaidHandle
import Derived.MakeChecks
import Derived.Stop.Joined
import Derived.Test.YtcpdlhgkdogdjaaDoorPah
set_option linter.unusedSimpArgs false
set_option linter.unusedVariables false
namespace Go.Sx
open Go.RowKit
section
variable {α:Type} (f:α→List C)
theorem HN (l:List α): (sl f .no l).noR=sl f .no l:=rfl
theorem Br (l:List α): (sl f .full l).noR=sl f .full l:=rfl
theorem DO (s:Nat)(l:List α): (sl f (.own s) l).noR=sl f .no l:=rfl
theorem Bs (l:List α): (sl f .no l).share=sl f .no l:=rfl
theorem xj (l:List α): (sl f .full l).share=sl f .no l:=rfl
end
theorem DP (x:BitVec 32): (C.val (bY x)).share= .val (bY x):=rfl
theorem HO (x:UInt8): (C.val (w8 x)).share= .val (w8 x):=rfl
theorem HP (x:Nat): (C.val (nI x)).share= .val (nI x):=rfl
theorem Bu (x:List UInt8): (C.val (str x)).share= .val (str x):=rfl
section
variable (P:Program) (u1:TypeDesc) (a1 b1 a2 b2 a3 b3:Nat) (z1 z2 z3:List Value)
def ux (t:Option TD)(x:C):Option Plan:=match t with
 |none=>none
 |some d=>
  match d.u,x with
  | .string,.val (.string s) =>some (.pure (.val (.int .i64 s.size)))
  | .array n _,_=>some (.pure (.val (.int .i64 n)))
  | .slice _,.sv _ _ n=>some (.pure (.val (.int .i64 n)))
  | .slice _,x=>x.sl?.map fun r=> .pure (.val (.int .i64 r.1))
  |_,_=>none
theorem Ru (t:TypeId)(x:C):jC P t x=ux (td P t) x:=rfl
theorem Nh (l:List UInt8):ux (some ⟨.string,a1,b1,z1⟩) (.val (str l)) =some (vp (.val (nI l.length))):=by
 show some (vp (.val (.int .i64 ((⟨l.toArray⟩:ByteArray).size:Nat)))) =_;rw[iR];rfl
theorem Rv (e:TypeId)(b o n:Nat):ux (some ⟨.slice e,a1,b1,z1⟩) (.sv b o n) =some (vp (.val (nI n))):=rfl
theorem Rw {α:Type}(f:α→List C)(e:TypeId)(r:Rt)(l:List α):ux (some ⟨.slice e,a1,b1,z1⟩) (sl f r l) =some (vp (.val (nI l.length))):=rfl
def HQ (P:Program)(t:Option TD)(c i:C):Option Plan:=match t with
 |none=>none
 |some d=>
  match d.u,c with
  | .string,.val (.string s) =>match dP i s.size with
    |some k=>(s.data[k]?).map fun b=> .pure (iO b)
    |none=>none
  | .array n e,c=>match td P e,dP i n,c.agg? with
    |some de,some k,some xs=>(cA de xs (k*de.size)).map .pure
    |_,_,_=>none
  |_,_=>none
theorem Rx (t:TypeId)(c i:C):gx P t c i=HQ P (td P t) c i:=rfl
def KM (l:List UInt8)(k:Option Nat):Option Plan:=match k with
 |some k=>(l[k]?).map fun b=>vp (iO b)
 |none=>none
theorem Ni (l:List UInt8)(i:C):HQ P (some ⟨.string,a1,b1,z1⟩) (.val (str l)) i=KM l (dP i l.length):=by
 unfold KM;show (match dP i (⟨l.toArray⟩:ByteArray).size with|some k=>_|none=>none) =_;rw[iR]
 cases dP i l.length with
 |none=>rfl
 |some k=>simp only[];rw[List.getElem?_toArray];rfl
theorem HR (l:List UInt8)(k:Nat)(h:k< l.length):KM l (some k) =some (vp (.val (w8 (gt l k)))):=by
 simp[KM,gt,List.getD,List.getElem?_eq_getElem h];rfl
def Ry (de:Option TD)(k:Option Nat)(xs:Option (List C)):Option Plan:=match de,k,xs with
 |some de,some k,some xs=>(cA de xs (k*de.size)).map vp
 |_,_,_=>none
theorem Nj (n:Nat)(e:TypeId)(xs:List C)(i:C):HQ P (some ⟨.array n e,a1,b1,z1⟩) (.agg xs) i=Ry (td P e) (dP i n) (some xs):=rfl
theorem HS (k:IntKind)(i:Nat)(xs:List C):Ry (some ⟨.int k,a1,b1,z1⟩) (some i) (some xs) = (cb xs (i*a1)).map vp:=rfl
def adU (P:Program)(t:Option TD)(c:C)(f:Nat):Option Plan:=match t with
 |none=>none
 |some d=>
  match d.u with
  | .struct fields=>match fields[f]?,c.agg? with
    |some fd,some xs=>(match td P fd.type with
     |some de=>(cA de xs fd.offset).map .pure
     |none=>none)
    |_,_=>none
  |_=>none
def Rz (P:Program)(t:Option TD)(c:C)(f:Nat):Option Plan:=match t with
 |none=>none
 |some d=>
  match d.u with
  | .struct fields=>match fields[f]? with
    |some fd=>(match td P fd.type with
     |some de=>if de.size=0 then none else
      (match c with
      | .bp b off=>some (.pure (.bp b (off+fd.offset)))
      | .bt b _ _=>some (.pure (.bp b fd.offset))
      | .kp xs=>if fd.offset≤xs.length then some (.pure (.kp (xs.drop fd.offset))) else none
      |_=>none)
     |none=>none)
    |none=>none
  |_=>none
theorem Bv (t:TypeId)(c:C)(f:Nat):an P t c f=Rz P (td P t) c f:=rfl
def DQ (de:Option TD)(b o:Nat):Option Plan:=match de with
 |some de=>if de.size=0 then none else some (vp (.bp b o))
 |none=>none
theorem Bw (fs:Array Field)(b o:Nat)(i:Nat)(fd:Field)(h:fs[i]? =some fd):Rz P (some ⟨.struct fs,a1,b1,z1⟩) (.bp b o) i=DQ (td P fd.type) b (o+fd.offset):=by
 unfold Rz DQ;simp only[h];rfl
def lw (hi lo:Option C)(n:Nat)(F:Nat→Nat→Option Plan):Option Plan:=match cp hi n n with
 |some h=>(match cp lo 0 h with
  |some k=>F h k
  |none=>none)
 |none=>none
def DR (hi lo:Option Nat)(F:Nat→Nat→Option Plan):Option Plan:=match hi,lo with
 |some h,some k=>F h k
 |_,_=>none
def xk (P:Program)(t:Option TD)(c:C)(lo hi:Option C):Option Plan:=match t with
 |none=>none
 |some d=>
  match d.u,c with
  | .string,.val (.string s) =>lw hi lo s.size fun h k=>some (vp (.val (.string (s.extract k h))))
  | .slice e,.sv b off n=>(match td P e with
    |some de=>lw hi lo n fun h k=>some (vp (.sv b (off+k*de.size) (h - k)))
    |none=>none)
  | .slice e,c=>(match td P e,c.sl? with
    |some de,some (n,xs) =>if xs.length=n*de.size then lw hi lo n fun h k=>some (vp (.sl .no (h - k) ((xs.drop (k*de.size)).take ((h - k)*de.size)))) else none
    |_,_=>none)
  | .array n e,.bp b off=>(match td P e with
    |some de=>if 65536< n then none else lw hi lo n fun h k=>some (vp (.sv b (off+k*de.size) (h - k)))
    |none=>none)
  | .array n e,.kp xs=>(match td P e with
    |some de=>if 65536< n∨xs.length< n*de.size then none else lw hi lo n fun h k=>some (vp (.sl .no (h - k) ((xs.drop (k*de.size)).take ((h - k)*de.size))))
    |none=>none)
  |_,_=>none
theorem HT (t:TypeId)(c:C)(lo hi:Option C):d6 P t c lo hi none=xk P (td P t) c lo hi:=by
 unfold d6 xk lw
 cases td P t with
 |none=>rfl
 |some d=>
  obtain ⟨u,s,y,z⟩:=d;simp only[Option.isSome_none,Bool.false_eq_true,if_false,false_or,Option.isNone_none,true_or,and_true,o7,false_and]
  cases u with
  |string=>cases c with
   |val v=>cases v<;>rfl
   |_=>rfl
  |slice e=>cases c<;>rfl
  |array n e=>cases c<;>rfl
  |_=>rfl
theorem HU (lo:Option C)(n:Nat)(F:Nat→Nat→Option Plan):lw none lo n F=DR (some n) (cp lo 0 n) F:=by
 unfold lw DR;simp only[o7];cases cp lo 0 n<;>rfl
theorem RA (lo:Option C)(n h:Nat)(F:Nat→Nat→Option Plan)(hh:h≤n):lw (some (.val (nI h))) lo n F=DR (some h) (cp lo 0 h) F:=by
 unfold lw DR;rw[xi _ _ _ hh];simp only[];cases cp lo 0 h<;>rfl
theorem HV (h k:Nat)(F:Nat→Nat→Option Plan):DR (some h) (some k) F=F h k:=rfl
theorem Nk (l:List UInt8)(lo hi:Option C):xk P (some ⟨.string,a1,b1,z1⟩) (.val (str l)) lo hi=lw hi lo l.length fun h k=>some (vp (.val (str ((l.drop k).take (h - k))))):=by
 show lw hi lo (⟨l.toArray⟩:ByteArray).size _=_;rw[iR];congr 1
 funext h k
 show some (vp (.val (.string _))) =_;congr 4
 apply ByteArray.ext;simp[ByteArray.data_extract]
def KN (de:Option TD)(F:Nat→Option Plan):Option Plan:=match de with
 |some de=>F de.size
 |none=>none
theorem HW (u:TypeDesc)(s y:Nat)(z:List Value)(F:Nat→Option Plan):KN (some ⟨u,s,y,z⟩) F=F s:=rfl
theorem RB (n:Nat)(e:TypeId)(b o:Nat)(lo hi:Option C)(hn:n≤65536):xk P (some ⟨.array n e,a1,b1,z1⟩) (.bp b o) lo hi=KN (td P e) fun s=>lw hi lo n fun h k=>some (vp (.sv b (o+k*s) (h - k))):=by
 show (match td P e with|some de=>if 65536< n then none else _|none=>none) =_
 cases td P e with
 |none=>rfl
 |some de=>simp only[];rw[if_neg (by omega)];rfl
theorem RC {α:Type}(f:α→List C){s0:Nat}[hf:Cel f s0](e:TypeId)(r:Rt)(l:List α)(lo hi:Option C)(u:TypeDesc)(y:Nat)(z:List Value)(h:td P e=some ⟨u,s0,y,z⟩):
 xk P (some ⟨.slice e,a1,b1,z1⟩) (sl f r l) lo hi=lw hi lo l.length fun h k=>some (vp (sl f .no ((l.drop k).take (h - k)))):=by
 show (match td P e,(sl f r l).sl? with|some de,some (n,xs) =>_|_,_=>none) =_;rw[h];simp only[sl,C.sl?];rw[if_pos (aD (f:=f) l)];simp only[iP,kg];unfold lw
 cases hb:cp hi l.length l.length with
 |none=>rfl
 |some hh=>
  simp only[]
  cases hb2:cp lo 0 hh with
  |none=>rfl
  |some k=>
   have h1:hh≤l.length:=by
    unfold cp at hb;split at hb
    . simp only[Option.some.injEq] at hb;omega
    . split at hb
      . split at hb
        . simp only[Option.some.injEq] at hb;omega
        . cases hb
      . cases hb
   simp only[List.length_take,List.length_drop];rw[Nat.min_eq_left (by omega)]
def apS (x:C)(de:TD)(xt:Option Nat):Option (Nat×List C×Option Nat):=match x with
 | .val (.slice none 0 0) =>some (0,[],none)
 | .sl .full n xs=>some (n,xs,none)
 | .sl (.own s) n xs=>if s=de.size then some (n,xs,xt) else none
 |_=>none
def pD (de:TD)(n:Nat)(xs:List C)(m:Nat)(ys:List C):Option C:=
 if xs.length=n*de.size∧ys.length=m*de.size∧0< de.size∧de.zero.length=de.size∧(n+m)*de.bytes≤140737488355328∧n+m≤9223372036854775807 then some (.sl (.own de.size) (n+m) (xs++ys)) else none
def RD (P:Program)(t t2:Option TD)(x y:C)(xt:Option Nat):Option Plan:=match t,t2 with
 |none,_=>none
 |_,none=>none
 |some d,some d2=>
  if ic d2.u=false then none else
  match d.u with
  | .slice e=>match td P e with
    |none=>none
    |some de=>match apS x de xt with
     |none=>none
     |some (n,xs,k) =>
      match y with
      | .sv b off m=>if k.isSome then some (.wr b (fun cells=>(if off+m*de.size≤cells.length then pD de n xs m (((cells.drop off).take (m*de.size)).map C.noR) else none).map fun c=>(cells,c)) k)
        else some (.rd b fun cells=>if off+m*de.size≤cells.length then pD de n xs m (((cells.drop off).take (m*de.size)).map C.noR) else none)
      |y=>match je y with
       |some (m,ys) =>(pD de n xs m ys).map fun c=> .val c k
       |none=>none
  |_=>none
theorem RE (t t2:TypeId)(x y:C)(xt:Option Nat):eh P t t2 x y xt=RD P (td P t) (td P t2) x y xt:=rfl
def xl (de:Option TD)(x y:C)(xt:Option Nat):Option Plan:=match de with
 |none=>none
 |some de=>match apS x de xt with
  |none=>none
  |some (n,xs,k) =>
   match y with
   | .sv b off m=>if k.isSome then some (.wr b (fun cells=>(if off+m*de.size≤cells.length then pD de n xs m (((cells.drop off).take (m*de.size)).map C.noR) else none).map fun c=>(cells,c)) k)
         else some (.rd b fun cells=>if off+m*de.size≤cells.length then pD de n xs m (((cells.drop off).take (m*de.size)).map C.noR) else none)
   |y=>match je y with
    |some (m,ys) =>(pD de n xs m ys).map fun c=> .val c k
    |none=>none
theorem RF (e e2:TypeId)(x y:C)(xt:Option Nat):RD P (some ⟨.slice e,a1,b1,z1⟩) (some ⟨.slice e2,a2,b2,z2⟩) x y xt=xl (td P e) x y xt:=rfl
theorem RG (e:TypeId)(x y:C)(xt:Option Nat):RD P (some ⟨.slice e,a1,b1,z1⟩) (some ⟨.string,a2,b2,z2⟩) x y xt=xl (td P e) x y xt:=rfl
section
variable {α:Type} (f:α→List C) {s:Nat} [hf:Cel f s] (u:TypeDesc) (y:Nat) (z:List Value)
theorem s4 (l l':List α)(hz:z.length=s)(h: (l.length+l'.length)*y≤140737488355328∧l.length+l'.length≤9223372036854775807):
 pD ⟨u,s,y,z⟩ l.length (cl f l) l'.length (cl f l') =some (sl f (.own s) (l++l')):=by
 unfold pD;rw[if_pos ⟨aD (f:=f) l,aD (f:=f) l',hf.pos,hz,h.1,h.2⟩];simp[sl,jO]
theorem Nl (l l':List α)(r:Rt)(xt:Option Nat)(hz:z.length=s)(h: (l.length+l'.length)*y≤140737488355328∧l.length+l'.length≤9223372036854775807):
 xl (some ⟨u,s,y,z⟩) (sl f (.own s) l) (sl f r l') xt=some (.val (sl f (.own s) (l++l')) xt):=by
 show (match (if s=s then some (l.length,cl f l,xt) else none) with|none=>none|some (n,xs,k) =>(match some (l'.length,cl f l') with|some (m,ys) =>(pD ⟨u,s,y,z⟩ n xs m ys).map fun c=>Plan.val c k|none=>none)) =_;rw[if_pos rfl];simp only[s4 f u y z l l' hz h,Option.map_some]
theorem xm (l l':List α)(r:Rt)(xt:Option Nat)(hz:z.length=s)(h: (l.length+l'.length)*y≤140737488355328∧l.length+l'.length≤9223372036854775807):
 xl (some ⟨u,s,y,z⟩) (sl f .full l) (sl f r l') xt=some (.val (sl f (.own s) (l++l')) none):=by
 show (match some (l'.length,cl f l') with|some (m,ys) =>(pD ⟨u,s,y,z⟩ l.length (cl f l) m ys).map fun c=>Plan.val c none|none=>none) =_;simp only[s4 f u y z l l' hz h,Option.map_some]
theorem Nm (l':List α)(r:Rt)(xt:Option Nat)(hz:z.length=s)(h:l'.length*y≤140737488355328∧l'.length≤9223372036854775807):
 xl (some ⟨u,s,y,z⟩) (.val (.slice none 0 0)) (sl f r l') xt=some (.val (sl f (.own s) l') none):=by
 have:=xm f u y z [] l' r xt hz (by simpa using h);exact this
end
theorem zD (l:List UInt8):je (.val (str l)) =some (l.length,cl bC l):=by
 show some ((⟨l.toArray⟩:ByteArray).size,l.toArray.toList.map iO) =_;rw[iR,List.toList_toArray,rT]
theorem HX (u:TypeDesc)(y:Nat)(z:List Value)(l l':List UInt8)(xt:Option Nat)(hz:z.length=1)(h: (l.length+l'.length)*y≤140737488355328∧l.length+l'.length≤9223372036854775807):
 xl (some ⟨u,1,y,z⟩) (sl bC (.own 1) l) (.val (str l')) xt=some (.val (sl bC (.own 1) (l++l')) xt):=by
 show (match (if (1:Nat) =1 then some (l.length,cl bC l,xt) else none) with|none=>none|some (n,xs,k) =>(match je (.val (str l')) with|some (m,ys) =>(pD ⟨u,1,y,z⟩ n xs m ys).map fun c=>Plan.val c k|none=>none)) =_;rw[if_pos rfl,zD];simp only[s4 bC u y z l l' hz h,Option.map_some]
def RH (de:TD)(n:Nat)(xs:List C)(m:Nat)(off:Nat)(cells:List C):Option C:=if off+m*de.size≤cells.length then pD de n xs m (((cells.drop off).take (m*de.size)).map C.noR) else none
theorem DS {α:Type}(f:α→List C){s:Nat}[hf:Cel f s](u:TypeDesc)(y:Nat)(z:List Value)(l:List α)(b off m k:Nat):
 xl (some ⟨u,s,y,z⟩) (sl f (.own s) l) (.sv b off m) (some k) =some (.wr b (fun cells=>(RH ⟨u,s,y,z⟩ l.length (cl f l) m off cells).map fun c=>(cells,c)) (some k)):=by
 show (match (if s=s then some (l.length,cl f l,some k) else none) with|none=>none|some (n,xs,k) =>_) =_;rw[if_pos rfl];rfl
theorem RI {α:Type}(f:α→List C){s:Nat}[hf:Cel f s](u:TypeDesc)(y:Nat)(z:List Value)(l l':List α)(m:Nat)(hm:m=l'.length)(hz:z.length=s)(h: (l.length+l'.length)*y≤140737488355328∧l.length+l'.length≤9223372036854775807):
 RH ⟨u,s,y,z⟩ l.length (cl f l) m 0 (cl f l') =some (sl f (.own s) (l++l')):=by
 subst hm;unfold RH;have hl:=aD (f:=f) l';rw[if_pos (by rw[hl,Nat.zero_add];exact Nat.le_refl _),List.drop_zero,List.take_of_length_le (by rw[hl];exact Nat.le_refl _),dL];exact s4 f u y z l l' hz h
theorem RJ (n:Nat):List.replicate n (C.val (.int .u32 0)) =cl wC (List.replicate n 0):=by
 induction n with
 |zero=>rfl
 |succ n ih=>rw[List.replicate_succ,ih];rfl
theorem RK (n:Nat):List.replicate n (C.val (.int .u8 0)) =cl bC (List.replicate n 0):=by
 induction n with
 |zero=>rfl
 |succ n ih=>rw[List.replicate_succ,ih];rfl
theorem RL (n:Nat):List.replicate n (C.val (.int .i64 0)) =cl nC (List.replicate n 0):=by
 induction n with
 |zero=>rfl
 |succ n ih=>rw[List.replicate_succ,ih];rfl
def HY (cs:Option (List C)):Option Plan:=match cs with
 |some cs=>some (.new cs fun id=> .bp id 0)
 |none=>none
theorem RM (x:C):Bl x=HY x.cells?:=by unfold Bl HY;cases x.cells?<;>rfl
theorem DT (cs:List C):HY (some cs) =some (.new cs fun id=> .bp id 0):=rfl
theorem Nn (x y:C):wd (.val (.bool true)) x y=some (vp x):=rfl
theorem No (x y:C):wd (.val (.bool false)) x y=some (vp y):=rfl
def DU (P:Program)(t:Option TD)(x y:C):Option Plan:=match t with
 |none=>none
 |some d=>
  match d.u with
  | .slice e=>match td P e with
    |none=>none
    |some de=>match x,je y with
     | .sv b off n,some (m,ys) =>
       if ys.length=m*de.size∧0< n then some (.wr b (fun cells=>if off+n*de.size≤cells.length then some (splice cells off ((ys.take (min m n*de.size)).map C.noR),.val (.int .i64 (min m n:Nat))) else none) none) else none
     |_,_=>none
  |_=>none
theorem Np (t:TypeId)(x y:C):ii P t x y=DU P (td P t) x y:=rfl
def rp (cells:List C)(o n s:Nat)(ys:List C)(m:Nat):Option (List C×C):=if o+n*s≤cells.length then some (splice cells o ys,.val (nI m)) else none
theorem RN (e:TypeId)(b o n:Nat)(l:List UInt8)(u:TypeDesc)(y:Nat)(z:List Value)(he:td P e=some ⟨u,1,y,z⟩)(h:0< n):
 DU P (some ⟨.slice e,a1,b1,z1⟩) (.sv b o n) (.val (str l)) =some (.wr b (fun cells=>rp cells o n 1 (cl bC (l.take n)) (min l.length n)) none):=by
 unfold DU;simp only[he];rw[zD];simp only[];rw[if_pos ⟨aD (f:=bC) l,h⟩];congr 2
 funext cells
 unfold rp;rw[kg,dL];have:l.take (min l.length n) =l.take n:=by rw[List.take_eq_take_iff];omega
 rw[this];rfl
end
def pk (e:List (Nat×C)):List Nat→List (Nat×C)
 | [] =>[]
 |k::ks=>(k,A e k)::pk e ks
theorem HZ (e:List (Nat×C))(t:Nat):∀ks:List Nat,A (pk e ks) t= .top∨A (pk e ks) t=A e t
 | [] => .inl rfl
 |k::ks=>by
  simp only[pk,A];by_cases h:t=k
  . subst h;right;simp
  . simp only[if_neg h];exact HZ e t ks
theorem DV (e:List (Nat×C)):pk e [] = []:=rfl
theorem zE (e:List (Nat×C))(k:Nat)(ks:List Nat):pk e (k::ks) = (k,A e k)::pk e ks:=rfl
section
variable {cx:Cx} {n:Nat} {Q:Ex→St→Prop} {e:List (Nat×C)} {h:Hp}
theorem Tr.kp (ks:List Nat){c:Code}(H:Tr cx n c ⟨A (pk e ks),h⟩ Q):Tr cx n c ⟨A e,h⟩ Q:=by
 refine Tr.weaken (fun t=>?_) H;rcases HZ e t ks with q|q
 . rw[q];exact CLe.top _
 . rw[q];exact CLe.refl _
end
def condG (c:C)(p q:Prop):Prop:= ∃b,c= .val (.bool b)∧GB b p q
theorem jP (b:Bool)(p q:Prop):condG (.val (.bool b)) p q=GB b p q:=by
 simp[condG]
theorem Tr.condG {cx:Cx}{n:Nat}{Q:Ex→St→Prop}{e:List (Nat×C)}{h:Hp}{c:Operand}{x y:Code}(H:∀KT KF:Prop,(Tr cx n x ⟨A e,h⟩ Q→KT)→(Tr cx n y ⟨A e,h⟩ Q→KF)→Sx.condG (cx.ev (A e) c) KT KF):Tr cx n (.cond c x y) ⟨A e,h⟩ Q:=by
 obtain ⟨b,h1,h2,h3⟩:=H _ _ (fun x=>x) (fun x=>x);exact vX h1 h2 h3
theorem RO {α:Type}[Inhabited α](l:List α)(k:Nat):l.getD k default=gt l k:=rfl
theorem Nq (K:St→Prop)(Q:Ex→St→Prop)(s:St):oS K Q .ret s=Q .ret s:=rfl
theorem H3 (k:Nat)(Q:Ex→St→Prop)(s:St):sR k Q .ret s=Q .ret s:=rfl
theorem Nr (cx:Cx)(rs:List ResultVar)(c:C)(st:St):KE cx rs c .ret st= (jN cx st rs=some c):=rfl
theorem H4 (cx:Cx)(st:St)(r:ResultVar):jN cx st [r] =el cx st r:=rfl
theorem H5 (cx:Cx)(e:List (Nat×C))(h:Hp)(t:Nat):el cx ⟨A e,h⟩ (.tmp t) =some (A e t):=rfl
def DW (t:Option TD)(c:C)(h:Hp):Option C:=match t,c with
 |some d,.bp b off=>(h.at b).bind fun cells=>cA d cells off
 |_,_=>none
theorem DX (cx:Cx)(e:List (Nat×C))(h:Hp)(a:Nat)(t:TypeId):el cx ⟨A e,h⟩ (.cell a t) =DW (td cx.P t) (A e a) h:=rfl
theorem Ns (k:IntKind)(a b:Nat)(z:List Value)(x o:Nat)(h:Hp):DW (some ⟨.int k,a,b,z⟩) (.bp x o) h= (h.at x).bind fun cells=>cb cells o:=rfl
theorem H6 (a b:Nat)(z:List Value)(x o:Nat)(h:Hp):DW (some ⟨.bool,a,b,z⟩) (.bp x o) h= (h.at x).bind fun cells=>cb cells o:=rfl
theorem Nt (n:Nat)(e:TypeId)(a b:Nat)(z:List Value)(x o:Nat)(h:Hp):DW (some ⟨.array n e,a,b,z⟩) (.bp x o) h= (h.at x).bind fun cells=>eA cells o a:=rfl
theorem Bx (fs:Array Field)(a b:Nat)(z:List Value)(x o:Nat)(h:Hp):DW (some ⟨.struct fs,a,b,z⟩) (.bp x o) h= (h.at x).bind fun cells=>eA cells o a:=rfl
theorem aX (env:Nat→C):Le env [] =True:=rfl
theorem aK (env:Nat→C)(k:Nat)(c:C)(l:List (Nat×C)):Le env ((k,c)::l) = (CLe (env k) c∧Le env l):=rfl
theorem aE (c:C):CLe c c=True:=by simp[CLe.refl]
theorem aM (c:C):CLe c .top=True:=by simp[CLe.top]
theorem aF {α:Type}(f:α→List C)(r:Rt)(l:List α):CLe (sl f .full l) (sl f r l) =True:=by simp only[sl,eq_iff_iff,iff_true];exact CLe.full ..
theorem aN {α:Type}(f:α→List C)(r:Rt):CLe (.val (.slice none 0 0)) (sl f r []) =True:=by simp only[sl,eq_iff_iff,iff_true];exact CLe.nil _
theorem aO {α:Type}(f:α→List C)(s:Nat)(l:List α):CLe (sl f (.own s) l) (sl f .no l) =True:=eq_true (CLe.noR (sl f (.own s) l))
theorem Nu (P:Program)(u1:TypeDesc)(a1 b1 a2 b2:Nat)(z1 z2:List Value)(n:Int):lu P (some ⟨u1,a1,b1,z1⟩) (some ⟨.int .u64,a2,b2,z2⟩) (.val (.int .i64 n)) =some (vp (.val (nU (n % 18446744073709551616).toNat))):=by
 rw[im,fP,nU];congr 4;omega
theorem Nv (P:Program)(t:TypeId)(x:Nat)(h:x< 18446744073709551616):aw P .and t (.val (nU x)) (.val (nU 31)) =some (vp (.val (nU (x % 32)))):=by
 rw[Yh P t x 31 (by omega)];have:=Nat.and_two_pow_sub_one_eq_mod x 5;simp only[Nat.reducePow,Nat.reduceSub] at this;rw[this]
theorem Nw (n:Nat)(h:n< 9223372036854775808):gM .neg (.val (nI n)) =some (vp (.val (.int .i64 (-(n:Int))))):=by
 show some (vp (.val (.int .i64 (IntKind.wrap .i64 (0 - (n:Int)))))) =_;rw[eG _ (by omega) (by omega),Int.zero_sub]
theorem RP (b:Bool):gM .not (.val (.bool b)) =some (vp (.val (.bool (!b)))):=rfl
theorem zF (n:Nat):List.replicate n (C.val (bY (BitVec.ofNat 32 0))) =cl wC (List.replicate n 0):=RJ n
theorem DY (n:Nat):List.replicate n (C.val (w8 (UInt8.ofNat 0))) =cl bC (List.replicate n 0):=RK n
theorem xn (n:Nat):List.replicate n (C.val (nI 0)) =cl nC (List.replicate n 0):=RL n
def gb:List C→Bool
 | [] =>false
 | .sv _ _ _::_=>true
 | .bp _ _::_=>true
 | .gv _ _ _::_=>true
 |_::l=>gb l
theorem xp:∀l:List C,gb l=true→noRefs 0 l=false
 | [],h=>by cases h
 |c::l,h=>by
  cases c with
  |sv b o n=>simp[noRefs,ae]
  |bp b o=>simp[noRefs,ae]
  |gv b o s=>simp[noRefs,ae]
  |_=>
   have:=xp l h;simp only[noRefs,this,Bool.and_false]
class Fla {α:Type} (f:α→List C):Prop where
 flat:∀a,flats (f a) =true
instance:Fla bC:=⟨fun _=>rfl⟩
instance:Fla wC:=⟨fun _=>rfl⟩
instance:Fla sC:=⟨fun _=>rfl⟩
instance:Fla iC:=⟨fun _=>rfl⟩
instance:Fla nC:=⟨fun _=>rfl⟩
instance:Fla oC:=⟨fun _=>rfl⟩
theorem vE (xs ys:List C):flats (xs++ys) = (flats xs && flats ys):=by
 induction xs with
 |nil=>simp[flats]
 |cons x xs ih=>simp only[List.cons_append,flats,ih,Bool.and_assoc]
theorem fC (k:Nat)(xs ys:List C):noRefs k (xs++ys) = (noRefs k xs && noRefs k ys):=by
 induction xs with
 |nil=>simp[noRefs]
 |cons x xs ih=>simp only[List.cons_append,noRefs,ih,Bool.and_assoc]
theorem rW {α:Type}(f:α→List C)[h:Fla f]:∀l:List α,flats (cl f l) =true
 | [] =>rfl
 |a::l=>by rw[cg,vE,h.flat,rW f l];rfl
mutual
theorem By (k:Nat):∀c:C,flat c=true→ae k c=true
 | .val _,_=>rfl
 | .agg xs,h=>by simp only[flat] at h;simp only[ae];exact flats_noRefs k xs h
 | .tup xs,h=>by simp only[flat] at h;simp only[ae];exact flats_noRefs k xs h
 | .top,h=>by cases h
 | .sl _ _ _,h=>by cases h
 | .sv _ _ _,h=>by cases h
 | .bp _ _,h=>by cases h
 | .kp _,h=>by cases h
 | .fn _ _,h=>by cases h
theorem flats_noRefs (k:Nat):∀l:List C,flats l=true→noRefs k l=true
 | [],_=>rfl
 |x::xs,h=>by
  simp only[flats,Bool.and_eq_true] at h;simp only[noRefs,By k x h.1,flats_noRefs k xs h.2,Bool.and_self]
end
class Nrf {α:Type} (f:α→List C):Prop where
 nr:∀k a,noRefs k (f a) =true
instance {α:Type} (f:α→List C) [h:Fla f]:Nrf f:=⟨fun k a=>flats_noRefs k _ (h.flat a)⟩
theorem eH {α:Type}(f:α→List C)[h:Nrf f](k:Nat)(a:α):noRefs k (f a) =true:=h.nr k a
theorem bQ {α:Type}(f:α→List C)[h:Nrf f](k:Nat):∀l:List α,noRefs k (cl f l) =true
 | [] =>rfl
 |a::l=>by rw[cg,fC,h.nr,bQ f k l];rfl
theorem bf {α:Type}(f:α→List C)[h:Nrf f](k:Nat)(r:Rt)(l:List α):ae k (sl f r l) =true:=bQ f k l
theorem io (k:Nat)(xs:List C):ae k (.agg xs) =noRefs k xs:=rfl
theorem ip (k:Nat)(xs:List C):ae k (.tup xs) =noRefs k xs:=rfl
theorem js (k:Nat)(xs:List C):ae k (.kp xs) =noRefs k xs:=rfl
theorem d7 (k:Nat)(v:Value):ae k (.val v) =true:=rfl
theorem cV (k:Nat):noRefs k [] =true:=rfl
theorem cH (k:Nat)(c:C)(l:List C):noRefs k (c::l) = (ae k c && noRefs k l):=rfl
theorem H7 (v:Value):flat (.val v) =true:=rfl
theorem H8 (xs:List C):flat (.agg xs) =flats xs:=rfl
theorem Bz (cx:Cx)(g:Nat)(az:List C)(c:C):we cx g az (some c) =some (vp c):=rfl
def mX (cx:Cx)(g:Nat)(az:List C)(b:Option Nat)(o:Option (C×Hp)):Option Plan:=match b with
 |some b=>match o with
  |some (_,[]) =>some (.call g az)
  |some (_,_::_) =>some (.cw b (w9 cx g az b))
  |none=>some (.rd b (rdPu cx g az b))
 |none=>if cx.gr (1000000+g) =true then some (.rd 0 (rdE cx g az 0)) else some (.call g az)
theorem BB (cx:Cx)(g:Nat)(az:List C):we cx g az none=mX cx g az (f9 az) (cx.hp g az []):=by
 unfold we mX;rfl
theorem H9 (cx:Cx)(g:Nat)(az:List C)(b:Nat):mX cx g az (some b) none=some (.rd b (rdPu cx g az b)):=rfl
theorem DZ (b o n:Nat)(l:List C):f9 (.sv b o n::l) =oneB b l:=rfl
theorem D4 (b o:Nat)(l:List C):f9 (.bp b o::l) =oneB b l:=rfl
theorem BC (xs l:List C):f9 (.agg xs::l) =f9 l:=rfl
theorem BD (v:Value)(l:List C):f9 (.val v::l) =f9 l:=rfl
theorem BE {α:Type}(f:α→List C)(r:Rt)(x:List α)(l:List C):f9 (sl f r x::l) =f9 l:=rfl
theorem Ia (b:Nat):oneB b [] =some b:=rfl
theorem Ib (b:Nat)(v:Value)(l:List C):oneB b (.val v::l) =oneB b l:=rfl
theorem Nx (b f:Nat)(xs l:List C):oneB b (.fn f xs::l) =oneB b l:=rfl
theorem Ic {b b':Nat}(h:b'≠b)(o:Nat)(l:List C):oneB b (.bp b' o::l) =none:=by simp[oneB,h]
def RQ (b:Bool)(c:C):Option C:=if b then some c else none
def rdQ (b:Bool)(c:Option C):Option C:=if b then (match c with
 |some c=>RQ (flat c) c
 |none=>none) else none
theorem Ny (cx:Cx)(g:Nat)(az:List C)(b:Nat)(cells:List C):rdPu cx g az b cells=rdQ (noRefs 0 (gB b cells az)) (cx.pu g (gB b cells az)):=rfl
theorem Id (c:C):rdQ true (some c) =RQ (flat c) c:=rfl
theorem Ie (c:C):RQ true c=some c:=rfl
theorem If (b:Nat)(cells:List C):gB b cells [] = []:=rfl
theorem D5 (b:Nat)(cells:List C)(c:C)(l:List C):gB b cells (c::l) =ik b cells c::gB b cells l:=rfl
theorem Nz (b:Nat)(cells:List C)(v:Value):ik b cells (.val v) = .val v:=rfl
theorem NA (b:Nat)(cells:List C)(xs:List C):ik b cells (.agg xs) = .agg xs:=rfl
def uA (cells:List C)(b o n:Nat):C:=if o+n≤cells.length then .sl .no n (((cells.drop o).take n).map C.noR) else .sv b o n
def Ig (cells:List C)(o:Nat):C:= .kp ((cells.drop o).map C.noR)
theorem RR (b:Nat)(cells:List C)(o n:Nat):ik b cells (.sv b o n) =uA cells b o n:=by simp[ik,uA]
theorem RS (b:Nat)(cells:List C)(o:Nat):ik b cells (.bp b o) =Ig cells o:=by simp[ik,Ig]
theorem Ih (c:C):Ig [c] 0= .kp [c.noR]:=rfl
theorem vF {α:Type}(f:α→List C)[hf:Cel f 1](b n:Nat)(l:List α)(r:List C)(h:n=l.length):uA (cl f l++r) b 0 n=sl f .no l:=by
 subst h;unfold uA;have hl:=aD (f:=f) l;simp only[List.length_append,hl,Nat.zero_add,Nat.mul_one,Nat.le_add_right,if_true,List.drop_zero];rw[List.take_append_of_le_length (by rw[hl];omega),List.take_of_length_le (by rw[hl];omega),dL];rfl
theorem NB {α β:Type}(f:α→List C){s:Nat}[hf:Cel f s](g:β→List C)[hg:Cel g 1](b o n:Nat)(l:List α)(l':List β)(r:List C)(h:l.length*s=o)(h2:n=l'.length):uA (cl f l++(cl g l'++r)) b o n=sl g .no l':=by
 have e:=vF g b n l' r h2;unfold uA at e ⊢;have hl:=aD (f:=f) l;have hd: (cl f l++(cl g l'++r)).drop o=cl g l'++r:=by
  rw[List.drop_append,List.drop_of_length_le (by rw[hl];omega),hl,h,Nat.sub_self];rfl
 rw[hd];rw[List.drop_zero] at e;by_cases hh:0+n≤(cl g l'++r).length
 . rw[if_pos hh] at e
   rw[if_pos (by rw[List.length_append,hl];omega),e]
 . rw[if_neg hh] at e;cases e
theorem Ii:∀ (f:Nat)(az:List C),gb az=true→(fun _ _=>none:Nat→List C→Option C) f az=none:=fun _ _ _=>rfl
theorem NC {pu:Nat→List C→Option C}(hno:∀f az,gb az=true→pu f az=none){α:Type}{enc:α→List C}{out:α→C}{f:Nat}(he:∀a,noRefs 0 (enc a) =true):∀g az,gb az=true→Sx.ext pu f (jq enc out) g az=none:=fun g az hr=>by
 by_cases hgf:g=f
 . subst hgf
   rw[qM]
   cases hq:jq enc out az with
   |none=>rfl
   |some c=>
    obtain ⟨a,rfl,_⟩:=oY hq;have:=he a;rw[xp _ hr] at this;cases this
 . rw[oZ hgf];exact hno g az hr
theorem D6 {P:Program}{km:TypeId→Value→Bool}{gl:Nat→C}{pu:Nat→List C→Option C}{N M:Nat}(hcx:CxOK ⟨P,N,gl,pu,fun _ _ _=>none,fun _=>false,km,true⟩)
 {α:Type} {enc:α→List C} {out:α→C} {f:Nat} (he:∀a,noRefs 0 (enc a) =true) (h:∀a,FC P gl f (enc a) [] (out a) []):CxOK ⟨P,M,gl,Sx.ext pu f (jq enc out),fun _ _ _=>none,fun _=>false,km,true⟩:=
 hcx.ext (M:=M) hcx.glo he h
theorem Yo (l:List (BitVec 32))(k:Nat)(a:BitVec 32)(h:k< l.length):cj (cl wC l) k [.val (bY a)] =some (cl wC (l.set k a),.val undef):=DE (f:=wC) l k a h
theorem Yp (l:List (UInt8))(k:Nat)(a:UInt8)(h:k< l.length):cj (cl bC l) k [.val (w8 a)] =some (cl bC (l.set k a),.val undef):=DE (f:=bC) l k a h
def slG (de:Option TD)(s:Nat)(p:Option Plan):Option Plan:=match de with
 |some de=>if de.size=s then p else none
 |none=>none
section
variable (P:Program) (a1 b1:Nat) (z1:List Value)
def D7 (de:Option TD)(s:Nat)(p q:Option Plan):Option Plan:=match de with
 |some de=>if de.size=s then p else q
 |none=>q
theorem Ij (u:TypeDesc)(s y:Nat)(z:List Value)(p q:Option Plan):D7 (some ⟨u,s,y,z⟩) s p q=p:=if_pos rfl
def RT {α:Type}(f:α→List C)(e:TypeId)(r:Rt)(l:List α)(lo hi:Option C):Option Plan:=xk P (some ⟨.slice e,a1,b1,z1⟩) (sl f r l) lo hi
theorem ND {α:Type}(f:α→List C){s0:Nat}[hf:Cel f s0](e:TypeId)(r:Rt)(l:List α)(lo hi:Option C):
 xk P (some ⟨.slice e,a1,b1,z1⟩) (sl f r l) lo hi=D7 (td P e) s0 (lw hi lo l.length fun h k=>some (vp (sl f .no ((l.drop k).take (h - k))))) (RT P a1 b1 z1 f e r l lo hi):=by
 unfold RT
 cases hq:td P e with
 |none=>rfl
 |some de=>
  obtain ⟨u,s,y,z⟩:=de;unfold D7;simp only[];split
  . rename_i hs
    subst hs;exact RC P a1 b1 z1 f e r l lo hi u y z hq
  . rfl
theorem Yq (n:Nat)(e:TypeId)(b o m:Nat)(h:n≤m∧n≠0):Bm P (some ⟨.array n e,a1,b1,z1⟩) (.sv b o m) =KN (td P e) fun _=>some (vp (.bp b o)):=by
 unfold Bm KN;simp only[]
 cases td P e with
 |none=>rfl
 |some de=>simp only[];rw[if_pos h]
def cpo (e:TypeId)(x y:C):Option Plan:=DU P (some ⟨.slice e,a1,b1,z1⟩) x y
theorem NE (e:TypeId)(b o n:Nat)(l:List UInt8)(h:0< n):
 DU P (some ⟨.slice e,a1,b1,z1⟩) (.sv b o n) (.val (str l)) =D7 (td P e) 1 (some (.wr b (fun cells=>rp cells o n 1 (cl bC (l.take n)) (min l.length n)) none)) (cpo P a1 b1 z1 e (.sv b o n) (.val (str l))):=by
 unfold cpo
 cases hq:td P e with
 |none=>rfl
 |some de=>
  obtain ⟨u,s,y,z⟩:=de;unfold D7;simp only[];split
  . rename_i hs
    subst hs;exact RN P a1 b1 z1 e b o n l u y z hq h
  . rfl
end
def xq (de:Option TD)(k:Option Nat)(n:Nat)(xs:List C):Option Plan:=sZ de k fun s k=>if xs.length=n*s∧xs≠[] then some (vp (.kp (xs.drop (k*s)))) else none
theorem NG {α:Type}(f:α→List C)(P:Program)(a1 b1:Nat)(z1:List Value)(e:TypeId)(r:Rt)(l:List α)(i:C):p7 P (some ⟨.slice e,a1,b1,z1⟩) (sl f r l) i=xq (td P e) (dP i l.length) l.length (cl f l):=Rs P a1 b1 z1 f e r l i
theorem Ik {α:Type}(f:α→List C){s:Nat}[hf:Cel f s](u:TypeDesc)(y:Nat)(z:List Value)(k:Nat)(l:List α)(h:k< l.length):xq (some ⟨u,s,y,z⟩) (some k) l.length (cl f l) =some (vp (.kp ((cl f l).drop (k*s)))):=by
 show (if (cl f l).length=l.length*s∧cl f l≠[] then some (vp (.kp ((cl f l).drop (k*s)))) else none) =_;rw[if_pos ⟨aD (f:=f) l,fun e=>by
  have h1:=aD (f:=f) l;rw[e] at h1;have h2:=hf.pos;have h3:l.length*s≠0:=Nat.mul_ne_zero (by omega) (by omega);exact h3 h1.symm⟩]
theorem NH (b o n:Nat)(l:List C):gb (.sv b o n::l) =true:=id rfl
theorem NI (b o:Nat)(l:List C):gb (.bp b o::l) =true:=id rfl
theorem Il (xs l:List C):gb (.agg xs::l) =gb l:=id rfl
theorem Im (v:Value)(l:List C):gb (.val v::l) =gb l:=id rfl
theorem NJ (xs l:List C):gb (.kp xs::l) =gb l:=id rfl
theorem In {α:Type}(f:α→List C)(r:Rt)(x:List α)(l:List C):gb (sl f r x::l) =gb l:=id rfl
theorem zG (x:BitVec 32): (bY x).oneCell'=true:=id rfl
theorem D8 (x:UInt8): (w8 x).oneCell'=true:=id rfl
theorem D9 (x:Nat): (nI x).oneCell'=true:=id rfl
theorem Ea (x:Nat): (nU x).oneCell'=true:=id rfl
theorem zH (x:List UInt8): (str x).oneCell'=true:=id rfl
theorem xu (x:Bool): (Value.bool x).oneCell'=true:=id rfl
theorem vH: (Value.slice none 0 0).oneCell'=true:=id rfl
theorem Io {α:Type}[Inhabited α](a:α)(l:List α):gt (a::l) 0=a:=rfl
theorem rX {α:Type}[Inhabited α](a:α)(l:List α)(n:Nat):gt (a::l) (n+1) =gt l n:=by simp[gt,List.getD]
theorem NK {α:Type}{f:α→List C}[hf:Cel f 1](l:List α)(o n:Nat)(h:o+n≤l.length):eA (cl f l) o n=some (.agg (cl f ((l.drop o).take n))):=by
 have e1:=iP (f:=f) l o;have e2:=kg (f:=f) (l.drop o) n;rw[Nat.mul_one] at e1 e2;unfold eA;rw[if_pos (by rw[aD (f:=f)];omega),e1,e2,dL]
def kj (cells:List C):List (Nat×C)→Option Plan
 | [] =>some (vp (.agg cells))
 | (i,c)::r=>match c.cells? with
   |some cs=>if cs.length=1∧i+1≤cells.length then kj (splice cells i cs) r else none
   |none=>none
theorem zI (y:Nat):∀ (parts:List (Nat×C))(cells:List C),(f8 (fun i=>some (i*1,1)) cells parts).map (fun cs=>vp (.agg cs)) =kj cells parts
 | [],cells=>rfl
 | (i,c)::r,cells=>by
   unfold f8 kj
   cases c.cells? with
   |none=>rfl
   |some cs=>
    simp only[Nat.mul_one];split
    . have:=zI y r (splice cells i cs)
      simpa only[Nat.mul_one] using this
    . rfl
def nX (de:Option TD)(z:List Value)(parts:List (Nat×C))(q:Option Plan):Option Plan:=match de with
 |some d=>if d.size=1∧z.all (·.oneCell') =true then kj (z.map .val) parts else q
 |none=>q
def bpo (P:Program)(n:Nat)(e:TypeId)(s y:Nat)(z:List Value)(parts:List (Nat×C)):Option Plan:=md P (some ⟨.array n e,s,y,z⟩) parts
theorem Eb (P:Program)(n:Nat)(e:TypeId)(s y:Nat)(z:List Value)(parts:List (Nat×C)):md P (some ⟨.array n e,s,y,z⟩) parts=nX (td P e) z parts (bpo P n e s y z parts):=by
 unfold nX bpo
 cases hq:td P e with
 |none=>rfl
 |some d=>
  simp only[];split
  . rename_i h
    unfold md;simp only[h.2,Bool.true_eq_false,if_false,kT,hq,Option.map_some,Option.bind_some,h.1];exact zI 0 parts _
  . rfl
theorem s6 (u:TypeDesc)(y n:Nat)(z:List Value)(v:Value)(parts:List (Nat×C))(q:Option Plan)(h:v.oneCell'=true):nX (some ⟨u,1,y,z⟩) (List.replicate n v) parts q=kj (List.replicate n (.val v)) parts:=by
 unfold nX;simp only[];rw[if_pos ⟨trivial,by simp[h]⟩,List.map_replicate]
theorem Ip (cells:List C):kj cells [] =some (vp (.agg cells)):=rfl
theorem RU (l:List (BitVec 32))(i:Nat)(x:BitVec 32)(r:List (Nat×C))(h:i< l.length):kj (cl wC l) ((i,.val (bY x))::r) =kj (cl wC (l.set i x)) r:=by
 have e:=mf (f:=wC) l i x h;rw[Nat.mul_one] at e;have e2:splice (cl wC l) i [.val (bY x)] =cl wC (l.set i x):=e;show (if [C.val (bY x)].length=1∧i+1≤(cl wC l).length then kj (splice (cl wC l) i [.val (bY x)]) r else none) =_;rw[if_pos ⟨rfl,by rw[aD (f:=wC)];omega⟩,e2]
def cO (n:Nat)(cells:List C):List (Nat×C)→Option Plan
 | [] =>some (vp (.sl .full n cells))
 | (i,c)::r=>match c.cells? with
   |some cs=>if cs.length=1∧i+1≤cells.length then cO n (splice cells i cs) r else none
   |none=>none
theorem xw (n:Nat):∀ (parts:List (Nat×C))(cells:List C),(f8 (fun i=>some (i*1,1)) cells parts).map (fun cs=>vp (.sl .full n cs)) =cO n cells parts
 | [],cells=>rfl
 | (i,c)::r,cells=>by
   unfold f8 cO
   cases c.cells? with
   |none=>rfl
   |some cs=>
    simp only[Nat.mul_one];split
    . have:=xw n r (splice cells i cs)
      simpa only[Nat.mul_one] using this
    . rfl
def fD (de:Option TD)(n:Nat)(parts:List (Nat×C)):Option Plan:=match de with
 |some de=>if n*de.size≤65536∧n≤65536∧de.zero.length=de.size∧de.zero.all (·.oneCell') =true then
  (f8 (fun i=>some (i*de.size,de.size)) (bG de.zero n) parts).map fun cs=>vp (.sl .full n cs) else none
 |none=>none
theorem Iq (P:Program)(e:TypeId)(s y n:Nat)(z:List Value)(parts:List (Nat×C)):kL P false (some ⟨.slice e,s,y,z⟩) n parts=fD (td P e) n parts:=rfl
def KO (e:Nat)(de:Option TD)(n:Nat)(parts:List (Nat×C)):Option Plan:=match de with
 |some de=>if n*de.size≤65536∧n≤65536∧de.zero.length=de.size∧de.zero.all (·.oneCell') =true then
  (f8 (fun i=>some (i*de.size,de.size)) (bG de.zero n) parts).map fun cs=> .ap none (de.size,e) n fun _=>some cs else none
 |none=>none
theorem Ec (P:Program)(e:TypeId)(s y n:Nat)(z:List Value)(parts:List (Nat×C)):kL P true (some ⟨.slice e,s,y,z⟩) n parts=KO e (td P e) n parts:=rfl
theorem rq (v:Value):∀n,bG [v] n=List.replicate n (.val v)
 |0=>rfl
 |n+1=>by rw[List.replicate_succ,←rq v n];rfl
theorem lI (u:TypeDesc)(y n:Nat)(v:Value)(parts:List (Nat×C))(h:v.oneCell'=true)(hn:n≤65536):fD (some ⟨u,1,y,[v]⟩) n parts=cO n (List.replicate n (.val v)) parts:=by
 unfold fD;simp only[Nat.mul_one,List.length_singleton,List.all_cons,List.all_nil,h,Bool.and_self,hn,and_self,if_true];rw[rq];have:=xw n parts (List.replicate n (.val v));simpa only[Nat.mul_one] using this
theorem NL (n:Nat)(l:List UInt8)(i:Nat)(x:UInt8)(r:List (Nat×C))(h:i< l.length):cO n (cl bC l) ((i,.val (w8 x))::r) =cO n (cl bC (l.set i x)) r:=by
 have e:=mf (f:=bC) l i x h;rw[Nat.mul_one] at e;have e2:splice (cl bC l) i [.val (w8 x)] =cl bC (l.set i x):=e;show (if [C.val (w8 x)].length=1∧i+1≤(cl bC l).length then cO n (splice (cl bC l) i [.val (w8 x)]) r else none) =_;rw[if_pos ⟨rfl,by rw[aD (f:=bC)];omega⟩,e2]
theorem NM (n:Nat)(l:List (List UInt8))(i:Nat)(x:List UInt8)(r:List (Nat×C))(h:i< l.length):cO n (cl sC l) ((i,.val (str x))::r) =cO n (cl sC (l.set i x)) r:=by
 have e:=mf (f:=sC) l i x h;rw[Nat.mul_one] at e;have e2:splice (cl sC l) i [.val (str x)] =cl sC (l.set i x):=e;show (if [C.val (str x)].length=1∧i+1≤(cl sC l).length then cO n (splice (cl sC l) i [.val (str x)]) r else none) =_;rw[if_pos ⟨rfl,by rw[aD (f:=sC)];omega⟩,e2]
theorem Ed {α:Type}(f:α→List C)(n:Nat)(l:List α)(h:n=l.length):cO n (cl f l) [] =some (vp (sl f .full l)):=by
 subst h;rfl
theorem zJ (n:Nat):List.replicate n (C.val (str [])) =cl sC (List.replicate n []):=by
 induction n with
 |zero=>rfl
 |succ n ih=>rw[List.replicate_succ,ih];rfl
theorem Ir (cells cs:List C)(h:cs.length=cells.length):cj cells 0 cs=some (cs,.val undef):=by
 unfold cj splice;rw[if_pos (by omega),List.take_zero,List.nil_append,Nat.zero_add,List.drop_of_length_le (by omega),List.append_nil]
theorem Is (cells:List C)(n:Nat)(h:cells.length=n):eA cells 0 n=some (.agg (cells.map C.noR)):=by
 subst h;unfold eA;rw[if_pos (by omega),List.drop_zero,List.take_of_length_le (Nat.le_refl _)]
theorem NN {α:Type}{f:α→List C}{s:Nat}[hf:Cel f s](l:List α)(r:List C)(o n s' m:Nat)(ys:List C)(h:l.length*s≤o):rp (cl f l++r) o n s' ys m= (rp r (o - l.length*s) n s' ys m).map fun q=>(cl f l++q.1,q.2):=by
 have hl:=aD (f:=f) l;unfold rp;simp only[List.length_append,hl];rw[rn _ _ _ _ (by rw[hl];exact h),hl];by_cases hh:o+n*s'≤l.length*s+r.length
 . rw[if_pos hh,if_pos (by omega)];rfl
 . rw[if_neg hh,if_neg (by omega)];rfl
theorem NO {α:Type}{f:α→List C}[hf:Cel f 1](l l':List α)(r:List C)(o n m:Nat)(h:o+n≤l.length)(h2:l'.length≤n):rp (cl f l++r) o n 1 (cl f l') m=some (cl f (l.take o++l'++l.drop (o+l'.length))++r,.val (nI m)):=by
 have:=DA (f:=f) l l' o;rw[Nat.mul_one] at this;have hl:=aD (f:=f) l;have hl':=aD (f:=f) l';unfold rp;rw[if_pos (by rw[List.length_append,hl];omega),rm _ _ _ _ (by rw[hl,hl'];omega),this]
def zc (z:List Value):List C:=z.map .val
theorem RV:zc [] = []:=rfl
theorem NP (v:Value)(l:List Value):zc (v::l) = .val v::zc l:=rfl
theorem RW (a b:List Value):zc (a++b) =zc a++zc b:=by simp[zc]
theorem RX (n:Nat)(v:Value):zc (List.replicate n v) =List.replicate n (.val v):=by simp[zc]
def gN (z:List Value):Bool:=z.all (·.oneCell')
theorem BF:gN [] =true:=rfl
theorem y9 (v:Value)(l:List Value):gN (v::l) = (v.oneCell' && gN l):=rfl
theorem BG (a b:List Value):gN (a++b) = (gN a && gN b):=by simp[gN]
theorem BH (n:Nat)(v:Value)(h:v.oneCell'=true):gN (List.replicate n v) =true:=by simp[gN,h]
def alQ (b:Bool)(cs:List C):Option Plan:=if b then some (.new cs fun id=> .bp id 0) else none
theorem NQ (u:TypeDesc)(s y:Nat)(z:List Value):Du (some ⟨u,s,y,z⟩) =alQ (gN z) (zc z):=rfl
theorem It (cs:List C):alQ true cs=some (.new cs fun id=> .bp id 0):=rfl
theorem Iu (t:TypeId)(T:Option TD):xe false t T=Du T:=by cases T<;>rfl
def rt (P:Program):List Field→Option (List (Nat×Nat))
 | [] =>some []
 |fd::l=>match td P fd.type,rt P l with
  |some d,some r=>some ((fd.offset,d.size)::r)
  |_,_=>none
theorem Ee (P:Program):∀l:List Field,(l.mapM fun f=>(td P f.type).map fun d=>(f.offset,d.size)) =rt P l
 | [] =>rfl
 |fd::l=>by
  rw[List.mapM_cons,Ee P l];simp only[rt,Option.bind_eq_bind,Option.pure_def]
  cases td P fd.type with
  |none=>rfl
  |some d=>cases rt P l<;>rfl
def RY (d:Option TD)(o:Nat)(r:Option (List (Nat×Nat))):Option (List (Nat×Nat)):=match d,r with
 |some d,some r=>some ((o,d.size)::r)
 |_,_=>none
theorem NS (P:Program):rt P [] =some []:=rfl
theorem Iv (P:Program)(nm:String)(t:TypeId)(o:Nat)(em:Bool)(tg pp:String)(bo:Nat)(l:List Field):rt P (⟨nm,t,o,em,tg,pp,bo⟩::l) =RY (td P t) o (rt P l):=by
 simp only[rt,RY]
theorem Iw (u:TypeDesc)(s y:Nat)(z:List Value)(o:Nat)(r:List (Nat×Nat)):RY (some ⟨u,s,y,z⟩) o (some r) =some ((o,s)::r):=rfl
def layS (pl:List (Nat×Nat))(cells:List C):List (Nat×C)→Option Plan
 | [] =>some (vp (.agg cells))
 | (i,c)::rest=>match pl[i]?,c.cells? with
   |some (off,size),some cs=>if cs.length=size∧off+size≤cells.length then layS pl (splice cells off cs) rest else none
   |_,_=>none
theorem zK (pl:List (Nat×Nat)):∀ (parts:List (Nat×C))(cells:List C),(f8 (fun i=>pl[i]?) cells parts).map (fun cs=>vp (.agg cs)) =layS pl cells parts
 | [],cells=>rfl
 | (i,c)::r,cells=>by
   unfold f8 layS
   cases pl[i]? with
   |none=>rfl
   |some p=>
    obtain ⟨off,size⟩:=p
    cases c.cells? with
    |none=>rfl
    |some cs=>
     simp only[];split
     . exact zK pl r _
     . rfl
def Ix (b:Bool)(pl:Option (List (Nat×Nat)))(cells:List C)(parts:List (Nat×C)):Option Plan:=if b then (match pl with
 |some pl=>layS pl cells parts
 |none=>none) else none
theorem xx (P:Program)(fs:List Field)(s y:Nat)(z:List Value)(parts:List (Nat×C)):md P (some ⟨.struct fs.toArray,s,y,z⟩) parts=Ix (gN z) (rt P fs) (zc z) parts:=by
 unfold md Ix gN zc;simp only[kT];by_cases h:z.all (·.oneCell') =true
 . rw[if_neg (by rw[h];decide),if_pos h,Ee]
   cases rt P fs with
   |none=>rfl
   |some pl=>exact zK pl parts _
 . rw[if_pos (by simpa using h),if_neg h]
theorem Ef (pl:List (Nat×Nat))(cells:List C)(parts:List (Nat×C)):Ix true (some pl) cells parts=layS pl cells parts:=rfl
def BI (pl:List (Nat×Nat))(p:Option (Nat×Nat))(cs:Option (List C))(cells:List C)(r:List (Nat×C)):Option Plan:=match p,cs with
 |some (off,size),some cs=>if cs.length=size∧off+size≤cells.length then layS pl (splice cells off cs) r else none
 |_,_=>none
def Iy (pl:List (Nat×Nat))(q:Option (List C×C))(r:List (Nat×C)):Option Plan:=match q with
 |some q=>layS pl q.1 r
 |none=>none
theorem Iz (pl:List (Nat×Nat))(cells:List C):layS pl cells [] =some (vp (.agg cells)):=rfl
theorem Eg (pl:List (Nat×Nat))(cells:List C)(i:Nat)(c:C)(r:List (Nat×C)):layS pl cells ((i,c)::r) =BI pl (pl[i]?) c.cells? cells r:=by
 rw[layS.eq_def];rfl
theorem Eh (pl:List (Nat×Nat))(off size:Nat)(cs cells:List C)(r:List (Nat×C))(h:cs.length=size):BI pl (some (off,size)) (some cs) cells r=Iy pl (cj cells off cs) r:=by
 subst h;unfold BI Iy cj;simp only[true_and];split<;>rfl
theorem Ei (pl:List (Nat×Nat))(cells:List C)(c:C)(r:List (Nat×C)):Iy pl (some (cells,c)) r=layS pl cells r:=rfl
section
variable {α β:Type} {f:α→List C} {s:Nat} [hf:Cel f s] {g:β→List C}
theorem NT (l:List α)(c:C)(r:List C)(k:Nat)(h:l.length*s=k):cb (cl f l++(c::r)) k=some c.noR:=by
 rw[zz (f:=f) l _ k (by omega),h,Nat.sub_self,vx]
theorem IA (l:List α)(l':List β)(r:List C)(k:Nat)(h:l.length*s≤k):cb (cl f l++(cl g l'++r)) k=cb (cl g l'++r) (k - l.length*s):=zz (f:=f) l _ k h
theorem NU (l:List α)(c c':C)(r:List C)(k:Nat)(h:l.length*s=k):cj (cl f l++(c::r)) k [c'] =some (cl f l++(c'::r),.val undef):=by
 rw[zB (f:=f) l _ _ k (by omega),h,Nat.sub_self];unfold cj splice;rw[if_pos (by simp)];rfl
theorem IB (l:List α)(l':List β)(r cs:List C)(o:Nat)(h:l.length*s≤o):cj (cl f l++(cl g l'++r)) o cs= (cj (cl g l'++r) (o - l.length*s) cs).map fun q=>(cl f l++q.1,q.2):=zB (f:=f) l _ cs o h
theorem IC (l:List α)(l':List β)(r:List C)(o n s' m:Nat)(ys:List C)(h:l.length*s≤o):rp (cl f l++(cl g l'++r)) o n s' ys m= (rp (cl g l'++r) (o - l.length*s) n s' ys m).map fun q=>(cl f l++q.1,q.2):=NN (f:=f) l _ o n s' m ys h
end
theorem Yr {α:Type}(a:α):List.replicate 1 a= [a]:=rfl
theorem IE (u:TypeDesc)(y n:Nat)(z:List Value)(parts:List (Nat×C))(q:Option Plan):nX (some ⟨u,1,y,z⟩) (List.replicate n (bY (BitVec.ofNat 32 0))) parts q=kj (cl wC (List.replicate n 0)) parts:=by
 rw[s6 u y n z _ parts q rfl,zF]
theorem Yt (u:TypeDesc)(y n:Nat)(parts:List (Nat×C))(hn:n≤65536):fD (some ⟨u,1,y,[w8 (UInt8.ofNat 0)]⟩) n parts=cO n (cl bC (List.replicate n 0)) parts:=by
 rw[lI u y n _ parts rfl hn,DY]
theorem Yu (u:TypeDesc)(y n:Nat)(parts:List (Nat×C))(hn:n≤65536):fD (some ⟨u,1,y,[nI 0]⟩) n parts=cO n (cl nC (List.replicate n 0)) parts:=by
 rw[lI u y n _ parts rfl hn,xn]
theorem IF (u:TypeDesc)(y n:Nat)(z:List Value)(parts:List (Nat×C))(q:Option Plan):nX (some ⟨u,1,y,z⟩) (List.replicate n (nI 0)) parts q=kj (cl nC (List.replicate n 0)) parts:=by
 rw[s6 u y n z _ parts q rfl,xn]
theorem Yv (u:TypeDesc)(y n:Nat)(parts:List (Nat×C))(hn:n≤65536):fD (some ⟨u,1,y,[str []]⟩) n parts=cO n (cl sC (List.replicate n [])) parts:=by
 rw[lI u y n _ parts rfl hn,zJ]
end Go.Sx
namespace Go.Sx
open Go.RowKit Go.ChangeShapes Go.WideShapes
def GW (W:World):Gh:=⟨fun b o=>W.cell? ⟨b,o,none⟩,fun _=>none,fun _=>none,fun _=>none⟩
theorem Yw (W:World):WorldOK (GW W) [] W:=
 ⟨fun _ _ _ h=>h,fun b cells h=>(by simp[Hp.at] at h),fun b blk h=>(by cases h),fun b b' c c' blk _ _ h=>(by cases h),fun b blk h=>(by cases h),fun g p h=>(by cases h),
   fun b cells off s n xs blk v h=>(by simp[Hp.at] at h),fun b z h=>(by cases h),fun b l h=>(by simp[Hp.mp] at h),fun b b' l l' blk h=>(by simp[Hp.mp] at h)⟩
def zL (P:Program)(t:TypeId){α:Type}(f:α→List C)(ok:α→Prop):Prop:=
 ∀ {H:Type}{enc:TypeId×Value→H}{W:World}{base:Nat}{sp:Nat→Bool}{held:Bool}{fuel:Nat}{cs:List Value}{x:DataW H×List MemPlace},
   DataW.trod enc P W base sp held fuel t cs=some x→∃a,ok a∧RepL (GW W) (f a) cs∧∀u∈cs,u.oneCell'=true
section
variable {P:Program} {t e:TypeId}
theorem zM {c v:Value}{G:Gh}(h:v=c):RepL G [.val c] [v]:=by
 simp only[RepL,Rep];exact ⟨v,[],rfl,h,rfl⟩
theorem zN (ht:P.underlying t=some (.int .i64)):zL P t iC fun n=> -9223372036854775808≤n∧n≤9223372036854775807:=fun h=>by
 obtain ⟨n,rfl,_,hw⟩:=DataW.trod_int ht h;refine ⟨n,?_,zM rfl,by simp[Value.oneCell']⟩;simpa[Lit.wf,IntKind.min,IntKind.max,IntKind.signed,IntKind.bits] using hw
theorem R0 (ht:P.underlying t=some (.int .u8)):zL P t bC fun _=>True:=fun h=>by
 obtain ⟨n,rfl,_,hw⟩:=DataW.trod_int ht h;have hr:0≤n∧n≤255:=by simpa[Lit.wf,IntKind.min,IntKind.max,IntKind.signed,IntKind.bits] using hw
 refine ⟨UInt8.ofNat n.toNat,trivial,zM ?_,by simp[Value.oneCell']⟩;simp only[w8,UInt8.toNat_ofNat'];congr 1
 have:n.toNat % 2 ^ 8=n.toNat:=Nat.mod_eq_of_lt (by omega);rw[this];omega
theorem Ej (b o x y:Nat): ((⟨b,o,none⟩:Addr).add x).add y= ⟨b,o+x+y,none⟩:=by
 simp only[Addr.add];by_cases hx:x=0<;>by_cases hy:y=0<;>simp[hx,hy]
theorem p8 {α:Type}{R:Nat→α→Prop}:∀n,(∀i< n,∃a,R i a)→∃l:List α,l.length=n∧∀i a,l[i]? =some a→R i a
 |0,_=>⟨[],rfl,by simp⟩
 |n+1,h=>by
  obtain ⟨l,h1,h2⟩:=p8 n (fun i hi=>h i (by omega));obtain ⟨a,ha⟩:=h n (by omega);refine ⟨l++[a],by simp[h1],fun i b hb=>?_⟩;rw[List.getElem?_append] at hb;split at hb
  . exact h2 i b hb
  . rename_i hi
    have:i=n:=by
     have:=(List.getElem?_eq_some_iff.1 hb).1;simp at this;omega
    subst this;simp[h1] at hb;subst hb;exact ha
theorem zO {α:Type}{f:α→List C}{s:Nat}[hf:Cel f s](l:List α)(i j:Nat)(hj:j< s): (cl f l)[i*s+j]? = (l[i]?).bind fun a=>(f a)[j]? :=by
 have h1: (cl f l)[i*s+j]? = ((cl f l).drop (i*s))[j]? :=by rw[List.getElem?_drop]
 rw[h1,iP]
 cases hq:l[i]? with
 |none=>
  rw[List.drop_of_length_le (by simpa using hq)];rfl
 |some a=>
  obtain ⟨hi,rfl⟩:=List.getElem?_eq_some_iff.1 hq;rw[List.drop_eq_getElem_cons hi,cg,List.getElem?_append_left (by rw[hf.len];exact hj)];rfl
theorem Ek {α:Type}{f:α→List C}{ok:α→Prop}{s:Nat}[hf:Cel f s](ht:P.underlying t=some (.slice e))(hc:P.cellsOf e=s)(he:zL P e f ok):
 zL P t (fun l:List α=>[sl f .no l]) fun l=>l.length≤9223372036854775807∧∀a∈l,ok a:=fun {H enc W base sp held fuel cs x} h=>by
 rcases DataW.trod_slice ht h with ⟨rfl,_⟩ | ⟨a,len,cap,elems,rest,n,_,rfl,_,hb,hl,hm,hlen,hel,_,_⟩
 . refine ⟨[],⟨by simp,by simp⟩,?_,by simp[Value.oneCell']⟩
   simp only[RepL];refine ⟨_,[],rfl,?_,rfl⟩;simp only[sl,Rep];exact ⟨none,0,rfl,Nat.le_refl _,Nat.zero_le _,by simp,.inl rfl⟩
 . have each:∀i< len,∃b,ok b∧∃cs,W.cells? base (a.add (i*s)) s=some cs∧RepL (GW W) (f b) cs∧∀u∈cs,u.oneCell'=true:=fun i hi=>by
    have h1:=hel i hi;rw[List.getElem?_eq_getElem (by omega),hc,Option.bind_eq_some_iff] at h1;obtain ⟨cs,h2,h3⟩:=h1;obtain ⟨b,h4,h5,h6⟩:=he h3;exact ⟨b,h4,cs,h2,h5,h6⟩
   obtain ⟨l,hll,hlr⟩:=p8 len each;refine ⟨l,⟨by rw[hll];exact Nat.le_trans hl hm,fun b hb=>by
    obtain ⟨i,hi⟩:=List.getElem?_of_mem hb;exact (hlr i b hi).1⟩,?_,by simp[Value.oneCell']⟩
   simp only[RepL];refine ⟨_,[],rfl,?_,rfl⟩;simp only[sl,Rep];refine ⟨some a,cap,by rw[hll],by omega,hm,by simp,?_⟩;by_cases h0:len=0
   . left;have:l= []:=by rw[←List.length_eq_zero_iff];omega
     subst this;rfl
   . right
     have hspot:a= ⟨a.block,a.off,none⟩:=by
      obtain ⟨b,hb⟩:∃b,l[0]? =some b:=⟨_,List.getElem?_eq_getElem (by omega)⟩;obtain ⟨_,cs,h2,_⟩:=hlr 0 b hb;have h3:=(World.cells?_some h2).2.2 0 hf.pos;simp only[Nat.zero_mul] at h3;have h4:W.cell? a≠none:=by
       have: (a.add 0).add 0=a:=by simp[Addr.add]
       rw[this] at h3;rw[h3];have:=(World.cells?_some h2).2.1;intro hq;have:=hf.pos;have hq2:cs.length≤0:=by simpa using hq
       omega
      obtain ⟨blk,off,spot⟩:=a
      cases spot with
      |none=>rfl
      |some q=>simp[World.cell?] at h4;split at h4<;>simp_all
     refine ⟨a.block,a.off,by rw[←hspot],?_⟩;refine RepK.of_get fun k c hk=>?_;have hkl:k< (cl f l).length:=(List.getElem?_eq_some_iff.1 hk).1;rw[aD (f:=f)] at hkl;have hs:=hf.pos;have hdm:k= (k / s)*s+k % s:=by rw[Nat.mul_comm];exact (Nat.div_add_mod k s).symm
     have hml:k % s< s:=Nat.mod_lt _ hs;rw[hdm,zO (f:=f) l _ _ hml] at hk;rw[Option.bind_eq_some_iff] at hk;obtain ⟨b,hb,hbc⟩:=hk;obtain ⟨_,cs,h2,h3,h4⟩:=hlr _ b hb;obtain ⟨u,hu1,hu2⟩:=h3.get _ c hbc;refine ⟨u,?_,h4 u (List.mem_of_getElem? hu1),hu2⟩;have h5:=(World.cells?_some h2).2.2 (k % s) hml;rw[hu1] at h5;rw[hspot] at h5;show W.cell? ⟨a.block,a.off+k,none⟩ =some u;rw[←h5];rw[Ej,Nat.add_assoc,←hdm]
end
section
variable {H:Type} {enc:TypeId×Value→H} {P:Program} {W:World} {base b0:Nat} {sp:Nat→Bool} {held:Bool} {t:TypeId} {v:Value} {d:DataW H} {ps:List MemPlace}
theorem zP {α:Type}{f:α→List C}{g:α→C}{ok:α→Prop}(hg:∀a,f a= [g a])(hr:zL P t f ok)(hu:∀u,P.underlying t=some u→(match u with| .struct _| .array _ _=>False|_=>True))
 (hval:Value.okWide P W .any b0 t v) (hd:DataW.Trod enc P W base sp held t v d ps):∃a,ok a∧Rep (GW W) (g a) v:=by
 obtain ⟨fuel,hd⟩:=hd;obtain ⟨a,h1,h2,_⟩:=hr hd;rw[hg] at h2;simp only[RepL] at h2;obtain ⟨u,vs,h3,h4,rfl⟩:=h2;refine ⟨a,h1,?_⟩
 cases v with
 |agg cs=>
  exfalso
  unfold Value.okWide at hval
  cases hq:P.underlying t with
  |none=>rw[hq] at hval;simp[Cell.okWide,Cell.ok,hq] at hval
  |some u=>
   have:=hu u hq;rw[hq] at hval;cases u<;>simp_all [Cell.okWide,Cell.ok]
 |_=>
  simp only[Value.cells,List.cons.injEq,and_true] at h3;rw[h3];exact h4
end
def qN (P:Program):Bool:=(List.range P.types.size).all fun t=>match P.underlying t with
 |some (.slice e) =>decide (0< P.cellsOf e)
 |_=>true
theorem pE {H:Type}{enc:TypeId×Value→H}{P:Program}{W W':World}{sp:Nat→Bool}(hl:laidOutB P=true)(hm:mapsRowed P=true)(hs:qN P=true):
 ∀ (ts:List TypeId)(vs:List Value)(ds:List (DataW H))(ps:List MemPlace),(∀t∈ts,t< P.types.size)→DataW.TrodAll enc P W 0 (fun _=>true) true ts vs ds ps→
   (∀p∈ps,W.sameAt W' p)→(∀p∈ps,sp p.block=true)→DataW.TrodAll enc P W' 0 sp true ts vs ds ps
 | [],[],[],ps,_,h,_,_=>h
 |t::ts,v::vs,d::ds,ps,hb,h,h1,h2=>by
  obtain ⟨p,q,⟨fuel,h3⟩,h4,rfl⟩:=h;refine ⟨p,q,⟨fuel,?_⟩,pE hl hm hs ts vs ds q (fun t ht=>hb t (List.mem_cons_of_mem _ ht)) h4 (fun p hp=>h1 p (List.mem_append_right _ hp)) (fun p hp=>h2 p (List.mem_append_right _ hp)),rfl⟩;refine DataW.trod_stays (T:=(· < P.types.size)) (kids_rows hl hm) (fun {t e} ht he=>?_) (fun h=>by cases h) (hb t (List.mem_cons_self ..)) h3 (fun p hp=>h1 p (List.mem_append_left _ hp)) (fun p hp=>h2 p (List.mem_append_left _ hp));have:=List.all_eq_true.1 hs t (List.mem_range.2 ht);rw[he] at this;simpa using this
 | [],[],_::_,_,_,h,_,_=>h.elim
 | [],_::_,_,_,_,h,_,_=>h.elim
 |_::_,[],_,_,_,h,_,_=>h.elim
 |_::_,_::_,[],_,_,h,_,_=>h.elim
theorem IG {H:Type}{enc:TypeId×Value→H}{P:Program}{f:Func}{s:ChangeSpec}{fresh handsOn again:Bool}{W W':World}{args:Array Value}{ds gs:List (DataW H)}{before:List MemPlace}{t:TypeId}
 (hl:laidOutB P=true) (hm:mapsRowed P=true) (hsl:qN P=true) (hps:∀t∈f.params.toList,t< P.types.size)
 (hW:DataW.Whole enc P f.params.toList s.vars false W args.toList ds gs before) (hv:s.vars= [])
 (hs:s.fn H ds= { results:=[.lit (.bool true)],args:=ds }) (hr:f.resultTypes= #[t]) (ht:P.underlying t=some .bool)
 (hos:W'.os=W.os) (hout:W'.output=W.output) (hold:∀g< W.heap.size,W'.heap[g]? =W.heap[g]?):
 s.post enc P f false fresh handsOn again W args (.bool true) W':=by
 have hlt:=hW.lt;have hW0:=hW;obtain ⟨p,q,h1,h2,rfl,hz,hn⟩:=hW;rw[hv] at h2;obtain ⟨rfl,rfl⟩:=trodVars_none h2;simp only[List.append_nil] at hW0 hlt hz hn;have same:∀x∈p,W.sameAt W' x:=fun x hx=>by
  have hb:=hold _ (hlt x hx)
  cases x with
  |cell b o=>simp only[World.sameAt,MemPlace.block] at hb ⊢;simp only[World.cell?];rw[hb]
  |map b=>exact hb
 have args':∀sp:Nat→Bool,(∀x∈p,sp x.block=true)→DataW.TrodAll enc P W' 0 sp true f.params.toList args.toList ds p:=fun sp hsp=>
  pE hl hm hsl _ _ _ _ hps h1 same hsp
 have res:∀ (b:Nat)(sp:Nat→Bool)(hd:Bool),DataW.TrodAll enc P W' b sp hd f.resultTypes.toList ((Value.bool true).resultList f.resultTypes.size) [.lit (.bool true)] []:=fun b sp hd=>by
  rw[hr];exact trodAll_mk1 (shut_bool ht true)
 refine ⟨ds,[],p,[],p,[],hW0,?_,?_,?_,?_,fun _=>⟨?_,.lit (.bool true)::ds,[],p,⟨p,[],?_,?_,by simp,fun b off hp=>?_,fun h=>by cases h⟩,fun x hx _=>hx⟩⟩
 . rw[List.append_nil,hs];exact res _ _ _
 . rw[List.append_nil,hs];exact args' _ fun x hx=>by simpa using hlt x hx
 . rw[List.append_nil,hs,hv];rfl
 . refine ⟨hos,hout,fun i hi=>?_⟩
   rw[hold i hi]
   cases W.heap[i]? with
   |none=>rfl
   |some o=>cases o<;>simp
 . exact ok_one hr rfl (okWide_bool_mk ht true)
 . rw[hr]
   exact ⟨[],p,shut_bool ht true,args' (fun _=>true) fun _ _=>rfl,rfl⟩
 . rw[hv];rfl
 . have:=hz b off hp
   simp only[World.frozen?] at this ⊢;rw[hold b (hlt _ hp)];exact this
theorem BJ {K:Checked}{os:Os}(started:os.Started){H:Type}{enc:TypeId×Value→H}{a:Assume}{fi:Nat}{fn:Func}{s:ChangeSpec}{fresh handsOn again:Bool}{laid:List (String×DataW Unit)}{gl:Nat→C}{t:TypeId}
 (own:ownKnob K.prog.godebug=none) (noInit:K.prog.inits.idxOf? fi=none) (hfn:K.prog.funcs[fi]? =some fn)
 (hl:laidOutB K.prog=true) (hm:mapsRowed K.prog=true) (hsl:qN K.prog=true) (hps: (fn.params.toList.all fun t=>decide (t< K.prog.types.size)) =true)
 (hv:s.vars= []) (hs:∀ds:List (DataW H),ds.length=fn.params.size→s.fn H ds= { results:=[.lit (.bool true)],args:=ds }) (hr:fn.resultTypes= #[t]) (ht:K.prog.underlying t=some .bool)
 (witness:∃ (w:World)(tape:Tape)(i:Input),w.os=os∧(w.forCall tape i).Shaped K.prog∧i.vars= []∧Input.okWide K.prog (w.forCall tape i) .any w.heap.size fi i∧
   ((s.pre enc K.prog fn [] false (w.forCall tape i).memory i.args∧laidMetH K.prog laid (w.forCall tape i).memory)∧sizedMet enc K.prog fn (OpenSpec.ofChange s) false (w.forCall tape i).memory i.args)∧a.holds K.prog (lone (Frame.enter K.prog fi i.args .normal) [] (w.forCall tape i)))
 (hgl:∀W,laidMetH K.prog laid W→∀g,Rep (GW W) (gl g) (.pointer (some ⟨g,0,none⟩)))
 (hc:∀ (W:World)(b0:Nat)(args:Array Value)(ds:List (DataW H))(p:List MemPlace),(∀ (j:Nat) t v,fn.params.toList[j]? =some t→args.toList[j]? =some v→Value.okWide K.prog W .any b0 t v)→
   DataW.TrodAll enc K.prog W 0 (fun _=>true) true fn.params.toList args.toList ds p→∃az,RepL (GW W) az args.toList∧FC K.prog gl fi az [] (.val (.bool true)) []):
 ReturnsInHanded a K os fi .any (fun w args=>(s.pre enc K.prog fn [] false w args∧laidMetH K.prog laid w)∧sizedMet enc K.prog fn (OpenSpec.ofChange s) false w args) (s.post enc K.prog fn false fresh handsOn again):=by
 refine returnsInHanded_of_change_and (C:=K) (X:=fun w _=>laidMetH K.prog laid w) (fun _ _ _ hh h=>laidMetH.of_heap hh h) own started noInit hfn witness ?_;intro W base args ds gs before hval hW _ _ hL _;have hW':=hW;obtain ⟨p,q,h1,h2,rfl,hz,hn⟩:=hW';rw[hv] at h2;obtain ⟨rfl,rfl⟩:=trodVars_none h2;obtain ⟨az,has,hfc⟩:=hc W base args ds p (fun j t v hj hv=>hval j t v (by simpa using hj) (by simpa using hv)) h1;refine (hfc.2 (GW W) W args (Yw W) (fun g p h=>by cases h) (hgl W hL) has).mono ?_;rintro e W' ⟨v,G',rfl,hrep,_,_,F⟩;rw[aj] at hrep;subst hrep;have hlen:∀ (ts:List TypeId)(vs:List Value)(ds:List (DataW H))(ps:List MemPlace),DataW.TrodAll enc K.prog W 0 (fun _=>true) true ts vs ds ps→ds.length=ts.length:=by
  intro ts
  induction ts with
  |nil=>intro vs ds ps h;cases vs<;>cases ds<;>simp_all [DataW.TrodAll]
  |cons t ts ih=>
   intro vs ds ps h;cases vs<;>cases ds<;>simp only[DataW.TrodAll] at h
   obtain ⟨p,q,_,h4,_⟩:=h;simp[ih _ _ _ h4]
 have hold:∀g< W.heap.size,W'.heap[g]? =W.heap[g]? :=fun g hg=>(F.old g hg rfl (fun b h=>by cases h)).1;refine ⟨_,rfl,IG hl hm hsl (fun t ht=>?_) hW hv (hs ds (by rw[hlen _ _ _ _ h1];simp)) hr ht F.os F.output hold⟩;have:=List.all_eq_true.1 hps t ht;simpa using this
end Go.Sx
namespace Go.Sx
open Go.RowKit
theorem El (x:Int)(h:0≤x):Value.int .i64 x=nI x.toNat:=by
 unfold nI;congr 1;omega
section
variable (P:Program) (t:TypeId)
theorem KP (x y:Int)(h: -9223372036854775808≤x+y∧x+y< 9223372036854775808):aw P .add t (.val (.int .i64 x)) (.val (.int .i64 y)) =some (vp (.val (.int .i64 (x+y)))):=by
 simp only[bl,bW,ne_eq,not_true_eq_false,if_false,Option.map_some];rw[eG _ (by omega) (by omega)]
theorem R4 (x:Int)(y:Nat)(h: -9223372036854775808≤x+y∧x+y< 9223372036854775808):aw P .add t (.val (.int .i64 x)) (.val (nI y)) =some (vp (.val (.int .i64 (x+y)))):=KP P t x y h
theorem wj (x y:Int)(h: -9223372036854775808≤x - y∧x - y< 9223372036854775808):aw P .sub t (.val (.int .i64 x)) (.val (.int .i64 y)) =some (vp (.val (.int .i64 (x - y)))):=by
 simp only[bl,bW,ne_eq,not_true_eq_false,if_false,Option.map_some];rw[eG _ (by omega) (by omega)]
theorem R5 (x:Int)(y:Nat)(h: -9223372036854775808≤x - y∧x - y< 9223372036854775808):aw P .sub t (.val (.int .i64 x)) (.val (nI y)) =some (vp (.val (.int .i64 (x - y)))):=wj P t x y h
theorem KQ (x y:Int)(h: -9223372036854775808≤x*y∧x*y< 9223372036854775808):aw P .mul t (.val (.int .i64 x)) (.val (.int .i64 y)) =some (vp (.val (.int .i64 (x*y)))):=by
 simp only[bl,bW,ne_eq,not_true_eq_false,if_false,Option.map_some];rw[eG _ (by omega) (by omega)]
theorem R6 (x:Nat)(y:Int)(h: -9223372036854775808≤x*y∧x*y< 9223372036854775808):aw P .mul t (.val (nI x)) (.val (.int .i64 y)) =some (vp (.val (.int .i64 (x*y)))):=KQ P t x y h
theorem KR (x y:Int)(h:y≠0∧ -9223372036854775808≤x.tdiv y∧x.tdiv y< 9223372036854775808):aw P .quo t (.val (.int .i64 x)) (.val (.int .i64 y)) =some (vp (.val (.int .i64 (x.tdiv y)))):=by
 simp only[bl,bW,ne_eq,not_true_eq_false,if_false,Option.map_some,h.1];rw[eG _ (by omega) (by omega)]
theorem R7 (x:Int)(y:Nat)(h:0< y)(hx: -9223372036854775808≤x∧x< 9223372036854775808):aw P .quo t (.val (.int .i64 x)) (.val (nI y)) =some (vp (.val (.int .i64 (x.tdiv y)))):=by
 refine KR P t x y ⟨by omega,?_⟩;have key:∀n:Nat,(n:Int).tdiv (y:Int) = ((n / y:Nat):Int):=fun _=>rfl;rcases Int.le_total 0 x with h0|h0
 . obtain ⟨n,rfl⟩:=Int.eq_ofNat_of_zero_le h0
   rw[key];have:=Nat.div_le_self n y;generalize n / y=q at this ⊢
   omega
 . obtain ⟨n,hn⟩:=Int.eq_ofNat_of_zero_le (a:= -x) (by omega)
   have e:x= -(n:Int):=by omega
   rw[e,Int.neg_tdiv,key];have:=Nat.div_le_self n y;generalize n / y=q at this ⊢
   omega
theorem KS (x y:Int)(h:y≠0):aw P .rem t (.val (.int .i64 x)) (.val (.int .i64 y)) =some (vp (.val (.int .i64 (x.tmod y)))):=by
 simp only[bl,bW,ne_eq,not_true_eq_false,if_false,Option.map_some,h]
theorem R8 (x:Int)(y:Nat)(h:0< y):aw P .rem t (.val (.int .i64 x)) (.val (nI y)) =some (vp (.val (.int .i64 (x.tmod y)))):=KS P t x y (by omega)
theorem KU (x y:Int):aw P .eql t (.val (.int .i64 x)) (.val (.int .i64 y)) =some (vp (.val (.bool (decide (x=y))))):=by
 simp only[bl,bW,ne_eq,not_true_eq_false,if_false,Option.map_some];congr 4
theorem KV (x y:Int):aw P .lss t (.val (.int .i64 x)) (.val (.int .i64 y)) =some (vp (.val (.bool (decide (x< y))))):=by
 simp only[bl,bW,ne_eq,not_true_eq_false,if_false,Option.map_some]
theorem KW (x y:Int):aw P .leq t (.val (.int .i64 x)) (.val (.int .i64 y)) =some (vp (.val (.bool (decide (x≤y))))):=by
 simp only[bl,bW,ne_eq,not_true_eq_false,if_false,Option.map_some]
theorem KX (x y:Int):aw P .geq t (.val (.int .i64 x)) (.val (.int .i64 y)) =some (vp (.val (.bool (decide (y≤x))))):=by
 simp only[bl,bW,ne_eq,not_true_eq_false,if_false,Option.map_some]
theorem R9 (x:Int)(y:Nat):aw P .eql t (.val (.int .i64 x)) (.val (nI y)) =some (vp (.val (.bool (decide (x=y))))):=KU P t x y
theorem Sa (x:Int)(y:Nat):aw P .lss t (.val (.int .i64 x)) (.val (nI y)) =some (vp (.val (.bool (decide (x< y))))):=KV P t x y
theorem Sb (x:Int)(y:Nat):aw P .leq t (.val (.int .i64 x)) (.val (nI y)) =some (vp (.val (.bool (decide (x≤y))))):=KW P t x y
theorem Sc (x:Int)(y:Nat):aw P .geq t (.val (.int .i64 x)) (.val (nI y)) =some (vp (.val (.bool (decide ((y:Int)≤x))))):=KX P t x y
theorem Yx (x y:Nat):aw P .gtr t (.val (nU x)) (.val (nU y)) =some (vp (.val (.bool (decide (y< x))))):=by
 simp only[nU,bl,bW,ne_eq,not_true_eq_false,if_false,Option.map_some];congr 4;rw[Bool.eq_iff_iff];simp
theorem acg (x y:Nat)(h:x< 18446744073709551616∧y< 18446744073709551616):aw P .or t (.val (nU x)) (.val (nU y)) =some (vp (.val (nU (x|||y)))):=by
 simp only[nU,bl];show some (vp (.val (.int .u64 (IntKind.wrap .u64 ((BitVec.ofInt 64 (x:Int) |||BitVec.ofInt 64 (y:Int)).toNat:Int))))) =_;rw[BitVec.ofInt_natCast,BitVec.ofInt_natCast,BitVec.toNat_or,BitVec.toNat_ofNat,BitVec.toNat_ofNat,Nat.mod_eq_of_lt h.1,Nat.mod_eq_of_lt h.2,fP];have:x|||y< 2 ^ 64:=Nat.or_lt_two_pow h.1 h.2;congr 4;omega
theorem Yy (x n:Nat)(k:IntKind)(h:x< 18446744073709551616∧n≤64):aw P .shl t (.val (nU x)) (.val (.int k n)) =some (vp (.val (nU (x*2 ^ n % 18446744073709551616)))):=by
 rw[nU,bl];have e:bW .shl (.int .u64 (x:Int)) (.int k (n:Int)) =some (.int .u64 (IntKind.wrap .u64 ((x:Int)*2 ^ (min n 64)))):=by
  show (if (n:Int) < 0 then none else _) =_;rw[if_neg (by omega)];rfl
 rw[e,fP,nU,Nat.min_eq_left h.2];show some (vp (.val _)) =_;congr 4
theorem Sd (x:Nat)(s:Int)(h:x< 18446744073709551616)(h2:0≤s):aw P .shr t (.val (nU x)) (.val (.int .i64 s)) =some (vp (.val (nU (x>>>s.toNat)))):=by
 rw[El s h2];exact DF P t x s.toNat h
theorem NV (x:Nat)(h:x< 18446744073709551616):gM .xor (.val (nU x)) =some (vp (.val (nU (18446744073709551615 - x)))):=by
 show some (vp (.val (.int .u64 (IntKind.wrap .u64 ((BitVec.ofInt 64 18446744073709551615 ^^^ BitVec.ofInt 64 (x:Int)).toNat:Int))))) =_;have e:BitVec.ofInt 64 18446744073709551615=BitVec.allOnes 64:=by decide
 rw[e,BitVec.ofInt_natCast,BitVec.allOnes_xor,BitVec.toNat_not,BitVec.toNat_ofNat,Nat.mod_eq_of_lt h,fP,nU];simp only[Option.some.injEq,vp,Plan.val.injEq,C.val.injEq,Value.int.injEq,true_and,and_true];have e2:2 ^ 64 - 1 - x=18446744073709551615 - x:=by simp
 rw[e2];omega
theorem NW (x:Int)(h: -9223372036854775808< x∧x≤9223372036854775808):gM .neg (.val (.int .i64 x)) =some (vp (.val (.int .i64 (-x)))):=by
 show some (vp (.val (.int .i64 (IntKind.wrap .i64 (0 - x))))) =_;rw[eG _ (by omega) (by omega),Int.zero_sub]
end
theorem NX (P:Program)(u1:TypeDesc)(a1 b1 a2 b2:Nat)(z1 z2:List Value)(x:Nat)(h:9223372036854775808≤x∧x< 18446744073709551616):lu P (some ⟨u1,a1,b1,z1⟩) (some ⟨.int .i64,a2,b2,z2⟩) (.val (nU x)) =some (vp (.val (.int .i64 ((x:Int) - 18446744073709551616)))):=by
 rw[nU,im];have e:IntKind.wrap .i64 (x:Int) = (x:Int) - 18446744073709551616:=by
  have e:IntKind.wrap .i64 (x:Int) =if (x:Int) % 18446744073709551616≥9223372036854775808 then (x:Int) % 18446744073709551616 - 18446744073709551616 else (x:Int) % 18446744073709551616:=by
   simp[IntKind.wrap,IntKind.bits,IntKind.signed]
  rw[e];split<;>omega
 rw[e]
theorem NY (n:Nat)(x:Int)(h:0≤x∧x< n):dP (.val (.int .i64 x)) n=some x.toNat:=by
 simp only[dP,C.int?];rw[if_pos h]
theorem Se (x y:Nat):fy false (.val (nI x)) (.val (nI y)) =some (vp (.val (nI (min x y)))):=by
 simp only[fy,nI,if_true,Bool.false_eq_true,if_false];by_cases h:y< x
 . rw[if_pos (by omega),Nat.min_eq_right (by omega)];rfl
 . rw[if_neg (by omega),Nat.min_eq_left (by omega)];rfl
theorem Sf (x y:Nat):fy true (.val (nI x)) (.val (nI y)) =some (vp (.val (nI (max x y)))):=by
 simp only[fy,nI,if_true];by_cases h:x< y
 . rw[if_pos (by omega),Nat.max_eq_right (by omega)];rfl
 . rw[if_neg (by omega),Nat.max_eq_left (by omega)];rfl
theorem mg (P:Program)(t:TypeId)(x y:Nat)(h:x< 9223372036854775808∧y≤9223372036854775808):aw P .sub t (.val (nI x)) (.val (nI y)) =some (vp (.val (.int .i64 ((x:Int) - y)))):=wj P t x y (by omega)
theorem iU {v v':Value}(h:v=v'):CLe (.val v) (.val v'):=h▸CLe.refl _
theorem aB {x y:Int}(h:x=y):CLe (.val (.int .i64 x)) (.val (.int .i64 y)):=h▸CLe.refl _
theorem aJ {x:Int}{y:Nat}(h:x=y):CLe (.val (.int .i64 x)) (.val (nI y)):=h▸CLe.refl _
theorem aP {x:Nat}{y:Int}(h: (x:Int) =y):CLe (.val (nI x)) (.val (.int .i64 y)):=h▸CLe.refl _
theorem aV {x y:Nat}(h:x=y):CLe (.val (nI x)) (.val (nI y)):=h▸CLe.refl _
theorem fE {α:Type}{f:α→List C}{r:Rt}{l l':List α}(h:l=l'):CLe (sl f r l) (sl f r l'):=h▸CLe.refl _
theorem lJ {α:Type}{f:α→List C}{r:Rt}{l l':List α}(h:l=l'):CLe (sl f .full l) (sl f r l'):=h▸CLe.full _ _ _
theorem ay {α:Type}{f:α→List C}{r:Rt}{l:List α}(h:l= []):CLe (.val (.slice none 0 0)) (sl f r l):=by subst h;exact CLe.nil _
def nY (k:Nat):Hp→Bool
 | [] =>true
 |none::h=>nY k h
 |some cs::h=>noRefs k cs && nY k h
theorem kM (k:Nat)(cs:List C)(h:Hp):nY k (some cs::h) = (noRefs k cs && nY k h):=rfl
theorem p9 (k:Nat):∀ (h:Hp)(b:Nat)(cells:List C),nY k h=true→h[b]? =some (some cells)→noRefs k cells=true
 | [],b,cells,_,hb=>by simp at hb
 |none::h,0,cells,_,hb=>by simp at hb
 |some cs::h,0,cells,hk,hb=>by
  rw[kM,Bool.and_eq_true] at hk;simp only[List.getElem?_cons_zero,Option.some.injEq] at hb;subst hb;exact hk.1
 |x::h,b+1,cells,hk,hb=>by
  rw[List.getElem?_cons_succ] at hb;refine p9 k h b cells ?_ hb
  cases x with
  |none=>exact hk
  |some cs=>rw[kM,Bool.and_eq_true] at hk;exact hk.2
theorem mh (k f:Nat)(xs:List C):ae k (.fn f xs) =noRefs k xs:=rfl
end Go.Sx
