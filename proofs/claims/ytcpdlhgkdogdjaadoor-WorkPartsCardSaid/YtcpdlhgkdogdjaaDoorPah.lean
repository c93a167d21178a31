/-
   And what follows.
-/
import Derived.ChangeSame
import Derived.ChangeVars
import Derived.ChangeStays
import Derived.ChangeOld
import Derived.ChangeArms
import Derived.OpenShut
import Derived.RowKit
import Derived.JoinedOf
import Derived.Handed
import Derived.LaidLaws
import Derived.LaidMore
import Derived.KernelRfl
import Derived.LaidHandle
import Derived.MakeChecks
import Derived.Stop.Joined
import Derived.Test.YtcpdlhgkdogdjaaDoorPag
set_option linter.unusedSimpArgs false
set_option linter.unusedVariables false
namespace Go.Sx
open Go.RowKit
def xT (x:BitVec 32):Value:= .int .u32 x.toNat
def w8 (x:UInt8):Value:= .int .u8 x.toNat
def nI (n:Nat):Value:= .int .i64 n
def nU (n:Nat):Value:= .int .u64 n
def str (l:List UInt8):Value:= .string ⟨l.toArray⟩
theorem IC (l:List UInt8):Value.string ⟨l.toArray⟩ =str l:=rfl
theorem bO {l l':List UInt8}:str l=str l'↔l=l':=by
 constructor
 . intro h
   simp only[str,Value.string.injEq,ByteArray.mk.injEq] at h
   simpa using congrArg Array.toList h
 . rintro rfl;rfl
theorem ct {a b:UInt8}:w8 a=w8 b↔a=b:=by
 simp only[w8,Value.int.injEq,true_and]
 constructor
 . intro h;exact UInt8.toNat_inj.1 (by omega)
 . rintro rfl;rfl
theorem bX {a b:BitVec 32}:xT a=xT b↔a=b:=by
 simp only[xT,Value.int.injEq,true_and]
 constructor
 . intro h;exact BitVec.eq_of_toNat_eq (by omega)
 . rintro rfl;rfl
theorem cn {a b:Nat}:nI a=nI b↔a=b:=by simp only[nI,Value.int.injEq,true_and];omega
theorem cy {a b:Nat}:nU a=nU b↔a=b:=by simp only[nU,Value.int.injEq,true_and];omega
def cl {α:Type}(f:α→List C)(l:List α):List C:=l.flatMap f
def sl {α:Type}(f:α→List C)(r:Rt)(l:List α):C:= .sl r l.length (cl f l)
class Cel {α:Type} (f:α→List C) (s:outParam Nat):Prop where
 len:∀a,(f a).length=s
 clean:∀a,(f a).map C.noR=f a
 pos:0< s
 live:∀a r,aQ (some (f a++r)) =some (f a++r)
class Sca {α:Type} (f:α→List C) (g:outParam (α→C)):Prop where
 one:∀a,f a= [g a]
 clean:∀a,(g a).noR=g a
 cells:∀a,(g a).cells?=some [g a]
 live:∀a r,aQ (some (g a::r)) =some (g a::r)
def bC (b:UInt8):List C:=[.val (w8 b)]
def wC (b:BitVec 32):List C:=[.val (xT b)]
def sC (b:List UInt8):List C:=[.val (str b)]
def iC (b:Int):List C:=[.val (.int .i64 b)]
def nC (b:Nat):List C:=[.val (nI b)]
def oC (b:Bool):List C:=[.val (.bool b)]
instance:Sca bC (fun b=> .val (w8 b)):=⟨fun _=>rfl,fun _=>rfl,fun _=>rfl,fun _ _=>rfl⟩
instance:Sca wC (fun b=> .val (xT b)):=⟨fun _=>rfl,fun _=>rfl,fun _=>rfl,fun _ _=>rfl⟩
instance:Sca sC (fun b=> .val (str b)):=⟨fun _=>rfl,fun _=>rfl,fun _=>rfl,fun _ _=>rfl⟩
instance:Sca iC (fun b=> .val (.int .i64 b)):=⟨fun _=>rfl,fun _=>rfl,fun _=>rfl,fun _ _=>rfl⟩
instance:Sca nC (fun b=> .val (nI b)):=⟨fun _=>rfl,fun _=>rfl,fun _=>rfl,fun _ _=>rfl⟩
instance:Sca oC (fun b=> .val (.bool b)):=⟨fun _=>rfl,fun _=>rfl,fun _=>rfl,fun _ _=>rfl⟩
instance {α:Type} {f:α→List C} {g:α→C} [h:Sca f g]:Cel f 1:=⟨fun a=>by rw[h.one];rfl,fun a=>by rw[h.one];simp[h.clean],by decide,fun a r=>by rw[h.one];exact h.live a r⟩
theorem A2 (l:List UInt8):l.map gc=cl bC l:=by
 unfold cl;induction l with
 |nil=>rfl
 |cons a l ih=>simp only[List.map_cons,ih,List.flatMap_cons];rfl
section
variable {α:Type} {f:α→List C} {s:Nat} [hf:Cel f s]
omit hf in
theorem xU:cl f [] = []:=rfl
omit hf in
theorem cS (a:α)(l:List α):cl f (a::l) =f a++cl f l:=rfl
omit hf in
theorem iZ (l l':List α):cl f (l++l') =cl f l++cl f l':=by simp[cl]
theorem aw:∀l:List α,(cl f l).length=l.length*s
 | [] =>by simp[cl]
 |a::l=>by rw[cS,List.length_append,hf.len,aw l,List.length_cons,Nat.add_mul,Nat.one_mul,Nat.add_comm]
include hf in
theorem eF:∀l:List α,(cl f l).map C.noR=cl f l
 | [] =>rfl
 |a::l=>by rw[cS,List.map_append,hf.clean,eF l]
theorem fL:∀ (l:List α)(k:Nat),(cl f l).drop (k*s) =cl f (l.drop k)
 |l,0=>by simp
 | [],k+1=>by simp[cl]
 |a::l,k+1=>by
  have e: (k+1)*s=s+k*s:=by rw[Nat.add_mul,Nat.one_mul,Nat.add_comm]
  have h: ((f a)++cl f l).drop s=cl f l:=by
   have:=List.drop_left (l₁:=f a) (l₂:=cl f l)
   rwa [hf.len] at this
  rw[cS,e,←List.drop_drop,h,List.drop_succ_cons]
  exact fL l k
theorem jM:∀ (l:List α)(k:Nat),(cl f l).take (k*s) =cl f (l.take k)
 |l,0=>by simp[cl]
 | [],k+1=>by simp[cl]
 |a::l,k+1=>by
  have e: (k+1)*s=s+k*s:=by rw[Nat.add_mul,Nat.one_mul,Nat.add_comm]
  rw[cS,e,List.take_append,hf.len,List.take_of_length_le (by rw[hf.len];omega),List.take_succ_cons,cS,Nat.add_sub_cancel_left,jM l k]
theorem sb (l:List α)(k:Nat)(a:α)(h:k< l.length):splice (cl f l) (k*s) (f a) =cl f (l.set k a):=by
 unfold splice
 rw[jM,hf.len,←Nat.succ_mul,fL,List.set_eq_take_append_cons_drop,if_pos h,iZ,cS,List.append_assoc]
theorem Ds (l:List α)(k:Nat)(a:α)(h:l[k]? =some a): ((cl f l).drop (k*s)).take s=f a:=by
 rw[fL]
 obtain ⟨hk,rfl⟩:=List.getElem?_eq_some_iff.1 h
 rw[List.drop_eq_getElem_cons hk,cS,List.take_append,hf.len,Nat.sub_self,List.take_zero,List.append_nil,List.take_of_length_le (by rw[hf.len];exact Nat.le_refl _)]
end
section
variable {α:Type} [Inhabited α] {f:α→List C} {g:α→C} [hf:Sca f g]
theorem IE (l:List α)(k:Nat)(h:k< l.length): (cl f l)[k]? =some (g (l.getD k default)):=by
 have hq:l[k]? =some (l.getD k default):=by simp[List.getD,List.getElem?_eq_getElem h]
 have:=Ds (f:=f) l k _ hq
 rw[Nat.mul_one,hf.one] at this
 have h2:=congrArg (fun z=>z[0]?) this
 simpa[List.getElem?_take,List.getElem?_drop] using h2
end
theorem sc (x:Option (List C))(h:Hp):Hp.at (x::h) 0=aQ x:=rfl
theorem xV:aQ (some cO) =none:=rfl
theorem A3 (v:Value)(r:List C):aQ (some (.val v::r)) =some (.val v::r):=rfl
theorem Fk (b o:Nat)(n:Nat×Nat)(r:List C):aQ (some (.gv b o n::r)) =some (.gv b o n::r):=rfl
theorem A4 {α:Type}(f:α→List C)(q:Rt)(l:List α)(r:List C):aQ (some (sl f q l::r)) =some (sl f q l::r):=rfl
theorem gn {α:Type}(f:α→List C){s:Nat}[hf:Cel f s](l:List α):aQ (some (cl f l)) =some (cl f l):=by
 cases l with
 |nil=>rfl
 |cons a l=>exact hf.live a _
theorem IF {α:Type}(f:α→List C){s:Nat}[hf:Cel f s](a:α):aQ (some (f a)) =some (f a):=by
 have:=hf.live a []
 simpa using this
theorem np (x:Option (List C))(h:Hp)(n:Nat):Hp.at (x::h) (n+1) =Hp.at h n:=by simp[Hp.at]
def cK (cells:List C)(o:Nat):Option C:=(cells[o]?).map C.noR
def fv (cells:List C)(o n:Nat):Option C:=if o+n≤cells.length then some (.agg (((cells.drop o).take n).map C.noR)) else none
def dJ (cells:List C)(o:Nat)(cs:List C):Option (List C×C):=if o+cs.length≤cells.length then some (splice cells o cs,.val undef) else none
def qA (cells:List C)(o:Nat)(c:C):Option (List C×C):=if o< cells.length then some (cells.set o c,.val undef) else none
theorem xW (c:C)(l:List C):cK (c::l) 0=some c.noR:=rfl
theorem xX (c:C)(l:List C)(n:Nat):cK (c::l) (n+1) =cK l n:=by simp[cK]
theorem A5 (l:List C)(k n:Nat):cK (l.drop k) n=cK l (k+n):=by simp[cK,List.getElem?_drop]
theorem IG {α:Type}[Inhabited α]{f:α→List C}{g:α→C}[hf:Sca f g](l:List α)(k:Nat)(h:k< l.length):cK (cl f l) k=some (g (l.getD k default)):=by
 simp only[cK,IE (f:=f) l k h,Option.map_some,hf.clean]
theorem IH {α:Type}{f:α→List C}{g:α→C}[hf:Sca f g](l:List α)(k:Nat)(a:α)(h:k< l.length):dJ (cl f l) k [g a] =some (cl f (l.set k a),.val undef):=by
 have:=sb (f:=f) l k a h
 rw[Nat.mul_one,hf.one] at this
 simp only[dJ]
 rw[if_pos (by rw[aw (f:=f)];simp;omega),this]
theorem Fl (a c:C):qA [a] 0 c=some ([c],.val undef):=rfl
end Go.Sx
namespace Go.Sx
open Go.RowKit
theorem ui (n:Int):IntKind.wrap .u8 n=n % 256:=by simp[IntKind.wrap,IntKind.bits,IntKind.signed]
theorem gd (n:Int)(h: -9223372036854775808≤n)(h2:n< 9223372036854775808):IntKind.wrap .i64 n=n:=by
 have e:IntKind.wrap .i64 n=if n % 18446744073709551616≥9223372036854775808 then n % 18446744073709551616 - 18446744073709551616 else n % 18446744073709551616:=by
  simp[IntKind.wrap,IntKind.bits,IntKind.signed]
 rw[e]
 split<;>omega
theorem Fm (n:Nat)(h:n< 256):Value.int .u8 (no_index (OfNat.ofNat n:Int)) =w8 (UInt8.ofNat n):=by
 simp only[w8,UInt8.toNat_ofNat'];rw[Nat.mod_eq_of_lt (by simpa using h)];rfl
theorem Fn (n:Nat):Value.int .i64 (no_index (OfNat.ofNat n:Int)) =nI n:=rfl
section
variable (P:Program) (t:TypeId)
theorem cd (op:BinOp)(k k':IntKind)(a b:Int):aO P op t (.val (.int k a)) (.val (.int k' b)) = (cr op (.int k a) (.int k' b)).map fun v=>vp (.val v):=by
 unfold aO;cases td P t<;>rfl
theorem uj (op:BinOp)(a b:ByteArray):aO P op t (.val (.string a)) (.val (.string b)) = (cr op (.string a) (.string b)).map fun v=>vp (.val v):=by
 unfold aO;cases td P t<;>rfl
end
end Go.Sx
namespace Go.Sx
open Go.RowKit
section
variable (P:Program) (t:TypeId)
theorem Ns (x y:UInt8):aO P .add t (.val (w8 x)) (.val (w8 y)) =some (vp (.val (w8 (x+y)))):=by
 simp only[w8,cd,cr,ne_eq,not_true_eq_false,if_false,Option.map_some,ui,UInt8.toNat_add];simp
theorem Nt (x y:UInt8):aO P .sub t (.val (w8 x)) (.val (w8 y)) =some (vp (.val (w8 (x - y)))):=by
 simp only[w8,cd,cr,ne_eq,not_true_eq_false,if_false,Option.map_some,ui,UInt8.toNat_sub]
 have:=x.toNat_lt;have:=y.toNat_lt
 congr 4;omega
theorem Nu (x y:UInt8):aO P .eql t (.val (w8 x)) (.val (w8 y)) =some (vp (.val (.bool (decide (x=y))))):=by
 simp only[w8,cd,cr,ne_eq,not_true_eq_false,if_false,Option.map_some]
 congr 4;rw[Bool.eq_iff_iff];simp[←UInt8.toNat_inj];omega
theorem Nv (x y:UInt8):aO P .lss t (.val (w8 x)) (.val (w8 y)) =some (vp (.val (.bool (decide (x< y))))):=by
 simp only[w8,cd,cr,ne_eq,not_true_eq_false,if_false,Option.map_some]
 congr 4;rw[Bool.eq_iff_iff];simp[UInt8.lt_iff_toNat_lt]
theorem Nw (x y:UInt8):aO P .leq t (.val (w8 x)) (.val (w8 y)) =some (vp (.val (.bool (decide (x≤y))))):=by
 simp only[w8,cd,cr,ne_eq,not_true_eq_false,if_false,Option.map_some]
 congr 4;rw[Bool.eq_iff_iff];simp[UInt8.le_iff_toNat_le]
theorem Nx (x y:UInt8):aO P .gtr t (.val (w8 x)) (.val (w8 y)) =some (vp (.val (.bool (decide (y< x))))):=by
 simp only[w8,cd,cr,ne_eq,not_true_eq_false,if_false,Option.map_some]
 congr 4;rw[Bool.eq_iff_iff];simp[UInt8.lt_iff_toNat_lt]
theorem Ny (x y:UInt8):aO P .geq t (.val (w8 x)) (.val (w8 y)) =some (vp (.val (.bool (decide (y≤x))))):=by
 simp only[w8,cd,cr,ne_eq,not_true_eq_false,if_false,Option.map_some]
 congr 4;rw[Bool.eq_iff_iff];simp[UInt8.le_iff_toNat_le]
theorem Nz (x y:Nat)(h:x+y< 9223372036854775808):aO P .add t (.val (nI x)) (.val (nI y)) =some (vp (.val (nI (x+y)))):=by
 simp only[nI,cd,cr,ne_eq,not_true_eq_false,if_false,Option.map_some]
 rw[gd _ (by omega) (by omega)];simp
theorem NA (x y:Nat)(h:y≤x∧x< 9223372036854775808):aO P .sub t (.val (nI x)) (.val (nI y)) =some (vp (.val (nI (x - y)))):=by
 simp only[nI,cd,cr,ne_eq,not_true_eq_false,if_false,Option.map_some]
 rw[gd _ (by omega) (by omega)];congr 4;omega
theorem NB (x y:Nat)(h:x*y< 9223372036854775808):aO P .mul t (.val (nI x)) (.val (nI y)) =some (vp (.val (nI (x*y)))):=by
 have e: (x:Int)*(y:Int) = ((x*y:Nat):Int):=by simp
 simp only[nI,cd,cr,ne_eq,not_true_eq_false,if_false,Option.map_some]
 rw[e,gd _ (by omega) (by omega)]
theorem NC (x y:Nat)(h:0< y∧x< 9223372036854775808):aO P .quo t (.val (nI x)) (.val (nI y)) =some (vp (.val (nI (x / y)))):=by
 have hy: (y:Int)≠0:=by omega
 have h2:x / y≤x:=Nat.div_le_self ..
 simp only[nI,cd,cr,ne_eq,not_true_eq_false,if_false,Option.map_some,hy]
 have e: ((x:Int).tdiv (y:Int)) = ((x / y:Nat):Int):=rfl
 rw[e]
 generalize x / y=q at h2
 rw[gd _ (by omega) (by omega)]
theorem ND (x y:Nat)(h:0< y):aO P .rem t (.val (nI x)) (.val (nI y)) =some (vp (.val (nI (x % y)))):=by
 have hy: (y:Int)≠0:=by omega
 simp only[nI,cd,cr,ne_eq,not_true_eq_false,if_false,Option.map_some,hy]
 rfl
theorem NE (x y:Nat):aO P .eql t (.val (nI x)) (.val (nI y)) =some (vp (.val (.bool (decide (x=y))))):=by
 simp only[nI,cd,cr,ne_eq,not_true_eq_false,if_false,Option.map_some]
 congr 4;rw[Bool.eq_iff_iff];simp;omega
theorem NF (x y:Nat):aO P .neq t (.val (nI x)) (.val (nI y)) =some (vp (.val (.bool (decide (x≠y))))):=by
 simp only[nI,cd,cr,ne_eq,not_true_eq_false,if_false,Option.map_some]
 congr 4;rw[Bool.eq_iff_iff];simp;omega
theorem NG (x y:Nat):aO P .lss t (.val (nI x)) (.val (nI y)) =some (vp (.val (.bool (decide (x< y))))):=by
 simp only[nI,cd,cr,ne_eq,not_true_eq_false,if_false,Option.map_some]
 congr 4;rw[Bool.eq_iff_iff];simp
theorem NH (x y:Nat):aO P .gtr t (.val (nI x)) (.val (nI y)) =some (vp (.val (.bool (decide (y< x))))):=by
 simp only[nI,cd,cr,ne_eq,not_true_eq_false,if_false,Option.map_some]
 congr 4;rw[Bool.eq_iff_iff];simp
theorem NI (x y:Nat):aO P .geq t (.val (nI x)) (.val (nI y)) =some (vp (.val (.bool (decide (y≤x))))):=by
 simp only[nI,cd,cr,ne_eq,not_true_eq_false,if_false,Option.map_some]
 congr 4;rw[Bool.eq_iff_iff];simp
theorem iG (l:List UInt8): (⟨l.toArray⟩:ByteArray).size=l.length:=by simp[ByteArray.size]
theorem xY (l:List UInt8): (⟨l.toArray⟩:ByteArray).toList=l:=by
 have key:∀ (n:Nat)(i:Nat)(r:List UInt8),l.length - i=n→i≤l.length→ByteArray.toList.loop ⟨l.toArray⟩ i r=r.reverse++l.drop i:=by
  intro n
  induction n with
  |zero=>
   intro i r h hi
   rw[ByteArray.toList.loop,iG,if_neg (by omega),List.drop_of_length_le (by omega),List.append_nil]
  |succ n ih=>
   intro i r h hi
   rw[ByteArray.toList.loop,iG,if_pos (by omega),ih _ _ (by omega) (by omega)]
   have hlt:i< l.length:=by omega
   rw[List.drop_eq_getElem_cons hlt]
   simp[ByteArray.get!,hlt]
 have:=key l.length 0 [] rfl (Nat.zero_le _)
 simpa[ByteArray.toList] using this
theorem NJ (x y:List UInt8):aO P .eql t (.val (str x)) (.val (str y)) =some (vp (.val (.bool (decide (x=y))))):=by
 simp only[str,uj,cr,xY,Option.map_some]
 congr 4
 rw[Bool.eq_iff_iff];simp
theorem NK (x y:List UInt8)(h:x.length+y.length< 9223372036854775808):aO P .add t (.val (str x)) (.val (str y)) =some (vp (.val (str (x++y)))):=by
 simp only[str,uj,cr,iG]
 rw[if_pos (by omega)]
 simp only[Option.map_some]
 congr 4
end
end Go.Sx
namespace Go.Sx
open Go.RowKit
def gt {α:Type}[Inhabited α](l:List α)(k:Nat):α:=l.getD k default
def O0 (P:Program)(s d:Option TD)(c:C):Option Plan:=match s,d with
 |some ds,some dd=>
  match ds.u,dd.u,c with
  |_,.int k,.val (.int _ n) =>some (.pure (.val (.int k (k.wrap n))))
  |_,.string,.val (.string s) =>some (.pure (.val (.string s)))
  | .string,.slice e,.val (.string s) =>match td P e with
    |some de=>(match de.u with
     | .int .u8=>if s.size≤140737488355328 then some (.pure (.sl .no s.size (s.data.toList.map gc))) else none
     |_=>none)
    |none=>none
  | .slice e,.string,c=>match td P e with
    |some de=>(match de.u with
     | .int .u8=>(match c with
       | .sv b off n=>some (.rd b fun cells=>if off+n≤cells.length then (ew ((cells.drop off).take n)).map fun ns=> .val (.string (jk ns)) else none)
       |c=>match c.sl? with
        |some (n,xs) =>if xs.length=n then (ew xs).map fun ns=> .pure (.val (.string (jk ns))) else none
        |none=>none)
     |_=>none)
    |none=>none
  |_,_,_=>none
 |_,_=>none
theorem Fo (P:Program)(s d:TypeId)(c:C):eM P s d c=O0 P (td P s) (td P d) c:=rfl
section
variable (P:Program) (u1:TypeDesc) (a1 b1 a2 b2 a3 b3:Nat) (z1 z2 z3:List Value)
theorem II (l:List UInt8):ew (cl bC l) =some (l.map fun b=>(b.toNat:Int)):=by
 induction l with
 |nil=>rfl
 |cons a l ih=>
  show ew (.val (.int .u8 _)::cl bC l) =_
  simp only[ew,ih,Option.map_some,List.map_cons]
theorem xZ (l:List UInt8): (Value.string (jk (l.map fun b=>(b.toNat:Int)))) =str l:=by
 unfold jk str
 rw[List.map_map]
 have: (fun n:Int=>UInt8.ofNat n.toNat) ∘ (fun b:UInt8=>(b.toNat:Int)) =id:=by
  funext b;simp
 rw[this,List.map_id]
def IJ (de:Option TD)(b off n:Nat):Option Plan:=match de with
 |some de=>(match de.u with
  | .int .u8=>some (.rd b fun cells=>if off+n≤cells.length then (ew ((cells.drop off).take n)).map fun ns=> .val (.string (jk ns)) else none)
  |_=>none)
 |none=>none
def IK (cells:List C)(o n:Nat):Option C:=if o+n≤cells.length then (ew ((cells.drop o).take n)).map fun ns=> .val (.string (jk ns)) else none
theorem NL (e:TypeId)(b off n:Nat):O0 P (some ⟨.slice e,a1,b1,z1⟩) (some ⟨.string,a2,b2,z2⟩) (.sv b off n) =IJ (td P e) b off n:=by
 unfold IJ
 show (match td P e with|some de=>_|none=>none) =_
 cases td P e with
 |none=>rfl
 |some de=>rfl
theorem IL (b off n:Nat):IJ (some ⟨.int .u8,a3,b3,z3⟩) b off n=some (.rd b fun cells=>IK cells off n):=rfl
theorem IM (l:List UInt8)(o n:Nat)(h:o+n≤l.length):IK (cl bC l) o n=some (.val (str ((l.drop o).take n))):=by
 have e1:=fL (f:=bC) l o
 have e2:=jM (f:=bC) (l.drop o) n
 rw[Nat.mul_one] at e1 e2
 simp only[IK]
 rw[if_pos (by rw[aw (f:=bC)];omega),e1,e2,II,Option.map_some,xZ]
def qB (own:Bool)(t:Option TD)(b o:Nat):Option Plan:=match t with
 |none=>none
 |some d=>if own∧d.isAgg=false then some (.xr b o) else some (.rd b fun cells=>cJ d cells o)
theorem Fp (own:Bool)(t:TypeId)(b o:Nat):loadPlan P own t (.bp b o) =qB own (td P t) b o:=by
 unfold loadPlan qB;cases td P t<;>rfl
theorem Fq (k:IntKind)(b o:Nat):qB false (some ⟨.int k,a1,b1,z1⟩) b o=some (.rd b fun cells=>cK cells o):=rfl
theorem Fr (b o:Nat):qB false (some ⟨.string,a1,b1,z1⟩) b o=some (.rd b fun cells=>cK cells o):=rfl
theorem IP (e:TypeId)(b o:Nat):qB false (some ⟨.slice e,a1,b1,z1⟩) b o=some (.rd b fun cells=>cK cells o):=rfl
theorem Ft (e:TypeId)(b o:Nat):qB true (some ⟨.slice e,a1,b1,z1⟩) b o=some (.xr b o):=rfl
theorem Fu (own:Bool)(n:Nat)(e:TypeId)(b o:Nat):qB own (some ⟨.array n e,a1,b1,z1⟩) b o=some (.rd b fun cells=>fv cells o a1):=by cases own<;>rfl
theorem vx (own:Bool)(fs:Array Field)(b o:Nat):qB own (some ⟨.struct fs,a1,b1,z1⟩) b o=some (.rd b fun cells=>fv cells o a1):=by cases own<;>rfl
def sd (t:Option TD)(xs:List C):Option Plan:=match t with
 |none=>none
 |some d=>(cJ d xs 0).map vp
theorem Fv (own:Bool)(t:TypeId)(xs:List C):loadPlan P own t (.kp xs) =sd (td P t) xs:=by
 unfold loadPlan sd;cases td P t<;>rfl
theorem Fw (k:IntKind)(xs:List C):sd (some ⟨.int k,a1,b1,z1⟩) xs= (cK xs 0).map vp:=rfl
theorem Fx (xs:List C):sd (some ⟨.string,a1,b1,z1⟩) xs= (cK xs 0).map vp:=rfl
theorem IQ (e:TypeId)(xs:List C):sd (some ⟨.slice e,a1,b1,z1⟩) xs= (cK xs 0).map vp:=rfl
theorem vy (fs:Array Field)(xs:List C):sd (some ⟨.struct fs,a1,b1,z1⟩) xs= (fv xs 0 a1).map vp:=rfl
def jm (t:Option TD)(b o:Nat)(cs:Option (List C)):Option Plan:=match t with
 |none=>none
 |some d=>match cs with
  |some cs=>if cs.length=d.size then some (.wr b (fun cells=>dJ cells o cs) none) else none
  |none=>none
theorem x4 (t:TypeId)(b o:Nat)(v:Value)(k:Option Nat):ce P t (.bp b o) (.val v) k=jm (td P t) b o (C.val v).cells?:=by
 unfold ce jm;cases td P t with
 |none=>rfl
 |some d=>simp only[];cases (C.val v).cells?<;>rfl
theorem x5 (t:TypeId)(b o:Nat)(xs:List C)(k:Option Nat):ce P t (.bp b o) (.agg xs) k=jm (td P t) b o (some (xs.map C.noR)):=by
 unfold ce jm;cases td P t<;>rfl
def Dt (t:Option TD)(b o:Nat)(c:C)(k:Option Nat):Option Plan:=match t with
 |none=>none
 |some d=>if d.size=1 then some (.wr b (fun cells=>qA cells o c) k) else none
theorem se (t:TypeId)(b o:Nat)(r:Rt)(n:Nat)(xs:List C)(k:Option Nat):ce P t (.bp b o) (.sl r n xs) k=Dt (td P t) b o (.sl r n xs) k:=by
 unfold ce Dt;cases td P t<;>rfl
theorem Fy (u:TypeDesc)(y:Nat)(z:List Value)(b o:Nat)(c:C)(k:Option Nat):Dt (some ⟨u,1,y,z⟩) b o c k=some (.wr b (fun cells=>qA cells o c) k):=rfl
theorem A6 (u:TypeDesc)(s y:Nat)(z:List Value)(b o:Nat)(cs:List C)(h:cs.length=s):jm (some ⟨u,s,y,z⟩) b o (some cs) =some (.wr b (fun cells=>dJ cells o cs) none):=if_pos h
theorem A7 (x:UInt8): (C.val (w8 x)).cells?=some [.val (w8 x)]:=rfl
theorem A8 (x:Nat): (C.val (nI x)).cells?=some [.val (nI x)]:=rfl
theorem x6 (k:IntKind)(x:Int): (C.val (.int k x)).cells?=some [.val (.int k x)]:=rfl
theorem x7 (x:List UInt8): (C.val (str x)).cells?=some [.val (str x)]:=rfl
theorem vz (x:Bool): (C.val (.bool x)).cells?=some [.val (.bool x)]:=rfl
theorem x8: (C.val (.slice none 0 0)).cells?=some [.val (.slice none 0 0)]:=rfl
theorem x9 (xs:List C): (C.agg xs).cells?=some (xs.map C.noR):=rfl
theorem IR (i n:Nat)(h:i< n):d8 (.val (nI i)) n=some i:=by
 simp only[d8,nI,C.int?];rw[if_pos (by omega)];simp
theorem A9 (i d m:Nat)(h:i≤m):cm (some (.val (nI i))) d m=some i:=by
 simp only[cm,nI,C.int?];rw[if_pos (by omega)];simp
theorem ko (d m:Nat):cm none d m=some d:=rfl
def oq (de:Option TD)(k:Option Nat)(f:Nat→Nat→Option Plan):Option Plan:=match de,k with
 |some de,some k=>f de.size k
 |_,_=>none
theorem Ba (u:TypeDesc)(s y:Nat)(z:List Value)(k:Nat)(f:Nat→Nat→Option Plan):oq (some ⟨u,s,y,z⟩) (some k) f=f s k:=rfl
def nq (P:Program)(t:Option TD)(c i:C):Option Plan:=match t with
 |none=>none
 |some d=>
  match d.u,c with
  | .array n e,.bp b off=>oq (td P e) (d8 i n) fun s k=>some (vp (.bp b (off+k*s)))
  | .array n e,.kp xs=>oq (td P e) (d8 i n) fun s k=>if n*s≤xs.length then some (vp (.kp (xs.drop (k*s)))) else none
  | .slice e,.sv b off n=>oq (td P e) (d8 i n) fun s k=>some (vp (.bp b (off+k*s)))
  | .slice e,.sl _ n xs=>oq (td P e) (d8 i n) fun s k=>if xs.length=n*s∧xs≠[] then some (vp (.kp (xs.drop (k*s)))) else none
  |_,_=>none
theorem IS (t:TypeId)(c i:C):dv P t c i=nq P (td P t) c i:=by
 unfold dv nq
 cases td P t with
 |none=>rfl
 |some d=>
  simp only[]
  cases d.u<;>cases c<;>first|rfl| (rename_i e _ _ _;cases td P e<;>first|rfl| (cases d8 i _<;>rfl))
theorem IT (n:Nat)(e:TypeId)(b off:Nat)(i:C):nq P (some ⟨.array n e,a1,b1,z1⟩) (.bp b off) i=oq (td P e) (d8 i n) fun s k=>some (vp (.bp b (off+k*s))):=rfl
theorem IU (e:TypeId)(b off n:Nat)(i:C):nq P (some ⟨.slice e,a1,b1,z1⟩) (.sv b off n) i=oq (td P e) (d8 i n) fun s k=>some (vp (.bp b (off+k*s))):=rfl
theorem IV {α:Type}(f:α→List C)(e:TypeId)(r:Rt)(l:List α)(i:C):nq P (some ⟨.slice e,a1,b1,z1⟩) (sl f r l) i=oq (td P e) (d8 i l.length) fun s k=>if (cl f l).length=l.length*s∧cl f l≠[] then some (vp (.kp ((cl f l).drop (k*s)))) else none:=rfl
end
end Go.Sx
namespace Go.Sx
open Go.RowKit
section
variable {α:Type} (f:α→List C)
theorem Bb (l:List α): (sl f .no l).noR=sl f .no l:=rfl
theorem vA (l:List α): (sl f .full l).noR=sl f .full l:=rfl
theorem ya (s:Nat)(l:List α): (sl f (.own s) l).noR=sl f .no l:=rfl
theorem vB (l:List α): (sl f .no l).share=sl f .no l:=rfl
theorem sf (l:List α): (sl f .full l).share=sl f .no l:=rfl
end
theorem Bc (x:UInt8): (C.val (w8 x)).share= .val (w8 x):=rfl
theorem Bd (x:Nat): (C.val (nI x)).share= .val (nI x):=rfl
theorem vD (x:List UInt8): (C.val (str x)).share= .val (str x):=rfl
section
variable (P:Program) (u1:TypeDesc) (a1 b1 a2 b2 a3 b3:Nat) (z1 z2 z3:List Value)
def vE (t:Option TD)(x:C):Option Plan:=match t with
 |none=>none
 |some d=>
  match d.u,x with
  | .string,.val (.string s) =>some (.pure (.val (.int .i64 s.size)))
  | .array n _,_=>some (.pure (.val (.int .i64 n)))
  | .slice _,.sv _ _ n=>some (.pure (.val (.int .i64 n)))
  | .slice _,x=>x.sl?.map fun r=> .pure (.val (.int .i64 r.1))
  |_,_=>none
theorem IW (t:TypeId)(x:C):gm P t x=vE (td P t) x:=rfl
theorem Fz (l:List UInt8):vE (some ⟨.string,a1,b1,z1⟩) (.val (str l)) =some (vp (.val (nI l.length))):=by
 show some (vp (.val (.int .i64 ((⟨l.toArray⟩:ByteArray).size:Nat)))) =_
 rw[iG];rfl
theorem IX (e:TypeId)(b o n:Nat):vE (some ⟨.slice e,a1,b1,z1⟩) (.sv b o n) =some (vp (.val (nI n))):=rfl
theorem IY {α:Type}(f:α→List C)(e:TypeId)(r:Rt)(l:List α):vE (some ⟨.slice e,a1,b1,z1⟩) (sl f r l) =some (vp (.val (nI l.length))):=rfl
def IZ (P:Program)(t:Option TD)(c i:C):Option Plan:=match t with
 |none=>none
 |some d=>
  match d.u,c with
  | .string,.val (.string s) =>match d8 i s.size with
    |some k=>(s.data[k]?).map fun b=> .pure (gc b)
    |none=>none
  | .array n e,c=>match td P e,d8 i n,c.agg? with
    |some de,some k,some xs=>(cJ de xs (k*de.size)).map .pure
    |_,_,_=>none
  |_,_=>none
theorem I0 (t:TypeId)(c i:C):e8 P t c i=IZ P (td P t) c i:=rfl
def Du (l:List UInt8)(k:Option Nat):Option Plan:=match k with
 |some k=>(l[k]?).map fun b=>vp (gc b)
 |none=>none
theorem FB (l:List UInt8)(i:C):IZ P (some ⟨.string,a1,b1,z1⟩) (.val (str l)) i=Du l (d8 i l.length):=by
 unfold Du
 show (match d8 i (⟨l.toArray⟩:ByteArray).size with|some k=>_|none=>none) =_
 rw[iG]
 cases d8 i l.length with
 |none=>rfl
 |some k=>simp only[];rw[List.getElem?_toArray];rfl
theorem Be (l:List UInt8)(k:Nat)(h:k< l.length):Du l (some k) =some (vp (.val (w8 (gt l k)))):=by
 simp[Du,gt,List.getD,List.getElem?_eq_getElem h];rfl
def RL (P:Program)(t:Option TD)(c:C)(f:Nat):Option Plan:=match t with
 |none=>none
 |some d=>
  match d.u with
  | .struct fields=>match fields[f]?,c.agg? with
    |some fd,some xs=>(match td P fd.type with
     |some de=>(cJ de xs fd.offset).map .pure
     |none=>none)
    |_,_=>none
  |_=>none
def kQ (hi lo:Option C)(n:Nat)(F:Nat→Nat→Option Plan):Option Plan:=match cm hi n n with
 |some h=>(match cm lo 0 h with
  |some k=>F h k
  |none=>none)
 |none=>none
def I2 (hi lo:Option Nat)(F:Nat→Nat→Option Plan):Option Plan:=match hi,lo with
 |some h,some k=>F h k
 |_,_=>none
def uk (P:Program)(t:Option TD)(c:C)(lo hi:Option C):Option Plan:=match t with
 |none=>none
 |some d=>
  match d.u,c with
  | .string,.val (.string s) =>kQ hi lo s.size fun h k=>some (vp (.val (.string (s.extract k h))))
  | .slice e,.sv b off n=>(match td P e with
    |some de=>kQ hi lo n fun h k=>some (vp (.sv b (off+k*de.size) (h - k)))
    |none=>none)
  | .slice e,c=>(match td P e,c.sl? with
    |some de,some (n,xs) =>if xs.length=n*de.size then kQ hi lo n fun h k=>some (vp (.sl .no (h - k) ((xs.drop (k*de.size)).take ((h - k)*de.size)))) else none
    |_,_=>none)
  | .array n e,.bp b off=>(match td P e with
    |some de=>if 65536< n then none else kQ hi lo n fun h k=>some (vp (.sv b (off+k*de.size) (h - k)))
    |none=>none)
  | .array n e,.kp xs=>(match td P e with
    |some de=>if 65536< n∨xs.length< n*de.size then none else kQ hi lo n fun h k=>some (vp (.sl .no (h - k) ((xs.drop (k*de.size)).take ((h - k)*de.size))))
    |none=>none)
  |_,_=>none
theorem Bf (t:TypeId)(c:C)(lo hi:Option C):dZ P t c lo hi none=uk P (td P t) c lo hi:=by
 unfold dZ uk kQ
 cases td P t with
 |none=>rfl
 |some d=>
  obtain ⟨u,s,y,z⟩:=d
  simp only[Option.isSome_none,Bool.false_eq_true,if_false,false_or,Option.isNone_none,true_or,and_true,ko,false_and]
  cases u with
  |string=>cases c with
   |val v=>cases v<;>rfl
   |_=>rfl
  |slice e=>cases c<;>rfl
  |array n e=>cases c<;>rfl
  |_=>rfl
theorem Bg (lo:Option C)(n:Nat)(F:Nat→Nat→Option Plan):kQ none lo n F=I2 (some n) (cm lo 0 n) F:=by
 unfold kQ I2;simp only[ko];cases cm lo 0 n<;>rfl
theorem Bh (h k:Nat)(F:Nat→Nat→Option Plan):I2 (some h) (some k) F=F h k:=rfl
def O3 (de:Option TD)(F:Nat→Option Plan):Option Plan:=match de with
 |some de=>F de.size
 |none=>none
theorem Bi (u:TypeDesc)(s y:Nat)(z:List Value)(F:Nat→Option Plan):O3 (some ⟨u,s,y,z⟩) F=F s:=rfl
theorem I3 (e:TypeId)(b o n:Nat)(lo hi:Option C):uk P (some ⟨.slice e,a1,b1,z1⟩) (.sv b o n) lo hi=O3 (td P e) fun s=>kQ hi lo n fun h k=>some (vp (.sv b (o+k*s) (h - k))):=rfl
theorem I4 {α:Type}(f:α→List C){s0:Nat}[hf:Cel f s0](e:TypeId)(r:Rt)(l:List α)(lo hi:Option C)(u:TypeDesc)(y:Nat)(z:List Value)(h:td P e=some ⟨u,s0,y,z⟩):
 uk P (some ⟨.slice e,a1,b1,z1⟩) (sl f r l) lo hi=kQ hi lo l.length fun h k=>some (vp (sl f .no ((l.drop k).take (h - k)))):=by
 show (match td P e,(sl f r l).sl? with|some de,some (n,xs) =>_|_,_=>none) =_
 rw[h]
 simp only[sl,C.sl?]
 rw[if_pos (aw (f:=f) l)]
 simp only[fL,jM]
 unfold kQ
 cases hb:cm hi l.length l.length with
 |none=>rfl
 |some hh=>
  simp only[]
  cases hb2:cm lo 0 hh with
  |none=>rfl
  |some k=>
   have h1:hh≤l.length:=by
    unfold cm at hb
    split at hb
    . simp only[Option.some.injEq] at hb;omega
    . split at hb
      . split at hb
        . simp only[Option.some.injEq] at hb;omega
        . cases hb
      . cases hb
   simp only[List.length_take,List.length_drop]
   rw[Nat.min_eq_left (by omega)]
def O4 (x:C)(de:TD)(xt:Option Nat):Option (Nat×List C×Option Nat):=match x with
 | .val (.slice none 0 0) =>some (0,[],none)
 | .sl .full n xs=>some (n,xs,none)
 | .sl (.own s) n xs=>if s=de.size then some (n,xs,xt) else none
 |_=>none
def ld (de:TD)(n:Nat)(xs:List C)(m:Nat)(ys:List C):Option C:=
 if xs.length=n*de.size∧ys.length=m*de.size∧0< de.size∧de.zero.length=de.size∧(n+m)*de.bytes≤140737488355328∧n+m≤9223372036854775807 then some (.sl (.own de.size) (n+m) (xs++ys)) else none
def O5 (P:Program)(t t2:Option TD)(x y:C)(xt:Option Nat):Option Plan:=match t,t2 with
 |none,_=>none
 |_,none=>none
 |some d,some d2=>
  if fC d2.u=false then none else
  match d.u with
  | .slice e=>match td P e with
    |none=>none
    |some de=>match O4 x de xt with
     |none=>none
     |some (n,xs,k) =>
      match y with
      | .sv b off m=>if k.isSome then some (.wr b (fun cells=>(if off+m*de.size≤cells.length then ld de n xs m (((cells.drop off).take (m*de.size)).map C.noR) else none).map fun c=>(cells,c)) k)
        else some (.rd b fun cells=>if off+m*de.size≤cells.length then ld de n xs m (((cells.drop off).take (m*de.size)).map C.noR) else none)
      |y=>match io y with
       |some (m,ys) =>(ld de n xs m ys).map fun c=> .val c k
       |none=>none
  |_=>none
theorem I5 (t t2:TypeId)(x y:C)(xt:Option Nat):dX P t t2 x y xt=O5 P (td P t) (td P t2) x y xt:=rfl
def Dv (de:Option TD)(x y:C)(xt:Option Nat):Option Plan:=match de with
 |none=>none
 |some de=>match O4 x de xt with
  |none=>none
  |some (n,xs,k) =>
   match y with
   | .sv b off m=>if k.isSome then some (.wr b (fun cells=>(if off+m*de.size≤cells.length then ld de n xs m (((cells.drop off).take (m*de.size)).map C.noR) else none).map fun c=>(cells,c)) k)
         else some (.rd b fun cells=>if off+m*de.size≤cells.length then ld de n xs m (((cells.drop off).take (m*de.size)).map C.noR) else none)
   |y=>match io y with
    |some (m,ys) =>(ld de n xs m ys).map fun c=> .val c k
    |none=>none
theorem I6 (e e2:TypeId)(x y:C)(xt:Option Nat):O5 P (some ⟨.slice e,a1,b1,z1⟩) (some ⟨.slice e2,a2,b2,z2⟩) x y xt=Dv (td P e) x y xt:=rfl
section
variable {α:Type} (f:α→List C) {s:Nat} [hf:Cel f s] (u:TypeDesc) (y:Nat) (z:List Value)
theorem sg (l l':List α)(hz:z.length=s)(h: (l.length+l'.length)*y≤140737488355328∧l.length+l'.length≤9223372036854775807):
 ld ⟨u,s,y,z⟩ l.length (cl f l) l'.length (cl f l') =some (sl f (.own s) (l++l')):=by
 unfold ld
 rw[if_pos ⟨aw (f:=f) l,aw (f:=f) l',hf.pos,hz,h.1,h.2⟩]
 simp[sl,iZ]
theorem FD (l l':List α)(r:Rt)(xt:Option Nat)(hz:z.length=s)(h: (l.length+l'.length)*y≤140737488355328∧l.length+l'.length≤9223372036854775807):
 Dv (some ⟨u,s,y,z⟩) (sl f (.own s) l) (sl f r l') xt=some (.val (sl f (.own s) (l++l')) xt):=by
 show (match (if s=s then some (l.length,cl f l,xt) else none) with|none=>none|some (n,xs,k) =>(match some (l'.length,cl f l') with|some (m,ys) =>(ld ⟨u,s,y,z⟩ n xs m ys).map fun c=>Plan.val c k|none=>none)) =_
 rw[if_pos rfl]
 simp only[sg f u y z l l' hz h,Option.map_some]
theorem Bj (l l':List α)(r:Rt)(xt:Option Nat)(hz:z.length=s)(h: (l.length+l'.length)*y≤140737488355328∧l.length+l'.length≤9223372036854775807):
 Dv (some ⟨u,s,y,z⟩) (sl f .full l) (sl f r l') xt=some (.val (sl f (.own s) (l++l')) none):=by
 show (match some (l'.length,cl f l') with|some (m,ys) =>(ld ⟨u,s,y,z⟩ l.length (cl f l) m ys).map fun c=>Plan.val c none|none=>none) =_
 simp only[sg f u y z l l' hz h,Option.map_some]
end
def I7 (de:TD)(n:Nat)(xs:List C)(m:Nat)(off:Nat)(cells:List C):Option C:=if off+m*de.size≤cells.length then ld de n xs m (((cells.drop off).take (m*de.size)).map C.noR) else none
theorem yb {α:Type}(f:α→List C){s:Nat}[hf:Cel f s](u:TypeDesc)(y:Nat)(z:List Value)(l:List α)(b off m k:Nat):
 Dv (some ⟨u,s,y,z⟩) (sl f (.own s) l) (.sv b off m) (some k) =some (.wr b (fun cells=>(I7 ⟨u,s,y,z⟩ l.length (cl f l) m off cells).map fun c=>(cells,c)) (some k)):=by
 show (match (if s=s then some (l.length,cl f l,some k) else none) with|none=>none|some (n,xs,k) =>_) =_
 rw[if_pos rfl];rfl
theorem I8 {α:Type}(f:α→List C){s:Nat}[hf:Cel f s](u:TypeDesc)(y:Nat)(z:List Value)(l l':List α)(m:Nat)(hm:m=l'.length)(hz:z.length=s)(h: (l.length+l'.length)*y≤140737488355328∧l.length+l'.length≤9223372036854775807):
 I7 ⟨u,s,y,z⟩ l.length (cl f l) m 0 (cl f l') =some (sl f (.own s) (l++l')):=by
 subst hm
 unfold I7
 have hl:=aw (f:=f) l'
 rw[if_pos (by rw[hl,Nat.zero_add];exact Nat.le_refl _),List.drop_zero,List.take_of_length_le (by rw[hl];exact Nat.le_refl _),eF]
 exact sg f u y z l l' hz h
theorem I9 (n:Nat):List.replicate n (C.val (.int .i64 0)) =cl nC (List.replicate n 0):=by
 induction n with
 |zero=>rfl
 |succ n ih=>rw[List.replicate_succ,ih];rfl
def Bl (cs:Option (List C)):Option Plan:=match cs with
 |some cs=>some (.new cs fun id=> .bp id 0)
 |none=>none
theorem Ja (x:C):vu x=Bl x.cells?:=by unfold vu Bl;cases x.cells?<;>rfl
theorem yd (cs:List C):Bl (some cs) =some (.new cs fun id=> .bp id 0):=rfl
theorem FE (x y:C):q8 (.val (.bool true)) x y=some (vp x):=rfl
theorem FF (x y:C):q8 (.val (.bool false)) x y=some (vp y):=rfl
end
end Go.Sx
namespace Go.Sx
open Go.RowKit
def pk (e:List (Nat×C)):List Nat→List (Nat×C)
 | [] =>[]
 |k::ks=>(k,A e k)::pk e ks
theorem Bm (e:List (Nat×C))(t:Nat):∀ks:List Nat,A (pk e ks) t= .top∨A (pk e ks) t=A e t
 | [] => .inl rfl
 |k::ks=>by
  simp only[pk,A]
  by_cases h:t=k
  . subst h;right;simp
  . simp only[if_neg h];exact Bm e t ks
theorem ye (e:List (Nat×C)):pk e [] = []:=rfl
theorem ul (e:List (Nat×C))(k:Nat)(ks:List Nat):pk e (k::ks) = (k,A e k)::pk e ks:=rfl
section
variable {cx:Cx} {n:Nat} {Q:Ex→St→Prop} {e:List (Nat×C)} {h:Hp}
theorem Tr.kp (ks:List Nat){c:Code}(H:Tr cx n c ⟨A (pk e ks),h⟩ Q):Tr cx n c ⟨A e,h⟩ Q:=by
 refine Tr.weaken (fun t=>?_) H
 rcases Bm e t ks with q|q
 . rw[q];exact CLe.top _
 . rw[q];exact CLe.refl _
end
def condG (c:C)(p q:Prop):Prop:= ∃b,c= .val (.bool b)∧GB b p q
theorem gD (b:Bool)(p q:Prop):condG (.val (.bool b)) p q=GB b p q:=by
 simp[condG]
theorem Tr.condG {cx:Cx}{n:Nat}{Q:Ex→St→Prop}{e:List (Nat×C)}{h:Hp}{c:Operand}{x y:Code}(H:∀KT KF:Prop,(Tr cx n x ⟨A e,h⟩ Q→KT)→(Tr cx n y ⟨A e,h⟩ Q→KF)→Sx.condG (cx.ev (A e) c) KT KF):Tr cx n (.cond c x y) ⟨A e,h⟩ Q:=by
 obtain ⟨b,h1,h2,h3⟩:=H _ _ (fun x=>x) (fun x=>x)
 exact qT h1 h2 h3
theorem Jb {α:Type}[Inhabited α](l:List α)(k:Nat):l.getD k default=gt l k:=rfl
theorem FG (K:St→Prop)(Q:Ex→St→Prop)(s:St):l7 K Q .ret s=Q .ret s:=rfl
theorem Bn (k:Nat)(Q:Ex→St→Prop)(s:St):oc k Q .ret s=Q .ret s:=rfl
theorem FH (cx:Cx)(rs:List ResultVar)(c:C)(st:St):Dq cx rs c .ret st= (ip cx st rs=some c):=rfl
theorem Bo (cx:Cx)(st:St)(r:ResultVar):ip cx st [r] =eW cx st r:=rfl
theorem Bp (cx:Cx)(e:List (Nat×C))(h:Hp)(t:Nat):eW cx ⟨A e,h⟩ (.tmp t) =some (A e t):=rfl
def yf (t:Option TD)(c:C)(h:Hp):Option C:=match t,c with
 |some d,.bp b off=>(h.at b).bind fun cells=>cJ d cells off
 |_,_=>none
theorem yg (cx:Cx)(e:List (Nat×C))(h:Hp)(a:Nat)(t:TypeId):eW cx ⟨A e,h⟩ (.cell a t) =yf (td cx.P t) (A e a) h:=rfl
theorem FI (k:IntKind)(a b:Nat)(z:List Value)(x o:Nat)(h:Hp):yf (some ⟨.int k,a,b,z⟩) (.bp x o) h= (h.at x).bind fun cells=>cK cells o:=rfl
theorem Bq (a b:Nat)(z:List Value)(x o:Nat)(h:Hp):yf (some ⟨.bool,a,b,z⟩) (.bp x o) h= (h.at x).bind fun cells=>cK cells o:=rfl
theorem FJ (n:Nat)(e:TypeId)(a b:Nat)(z:List Value)(x o:Nat)(h:Hp):yf (some ⟨.array n e,a,b,z⟩) (.bp x o) h= (h.at x).bind fun cells=>fv cells o a:=rfl
theorem vF (fs:Array Field)(a b:Nat)(z:List Value)(x o:Nat)(h:Hp):yf (some ⟨.struct fs,a,b,z⟩) (.bp x o) h= (h.at x).bind fun cells=>fv cells o a:=rfl
theorem dz (env:Nat→C):Le env [] =True:=rfl
theorem cU (env:Nat→C)(k:Nat)(c:C)(l:List (Nat×C)):Le env ((k,c)::l) = (CLe (env k) c∧Le env l):=rfl
theorem cC (c:C):CLe c c=True:=by simp[CLe.refl]
theorem db (c:C):CLe c .top=True:=by simp[CLe.top]
theorem cE {α:Type}(f:α→List C)(r:Rt)(l:List α):CLe (sl f .full l) (sl f r l) =True:=by simp only[sl,eq_iff_iff,iff_true];exact CLe.full ..
theorem dc {α:Type}(f:α→List C)(r:Rt):CLe (.val (.slice none 0 0)) (sl f r []) =True:=by simp only[sl,eq_iff_iff,iff_true];exact CLe.nil _
theorem dg {α:Type}(f:α→List C)(s:Nat)(l:List α):CLe (sl f (.own s) l) (sl f .no l) =True:=eq_true (CLe.noR (sl f (.own s) l))
theorem Jc (b:Bool):gB .not (.val (.bool b)) =some (vp (.val (.bool (!b)))):=rfl
theorem sh (n:Nat):List.replicate n (C.val (nI 0)) =cl nC (List.replicate n 0):=I9 n
end Go.Sx
namespace Go.Sx
open Go.RowKit
end Go.Sx
namespace Go.Sx
open Go.RowKit
def dh:List C→Bool
 | [] =>false
 | .sv _ _ _::_=>true
 | .bp _ _::_=>true
 | .gv _ _ _::_=>true
 |_::l=>dh l
theorem si:∀l:List C,dh l=true→noRefs 0 l=false
 | [],h=>by cases h
 |c::l,h=>by
  cases c with
  |sv b o n=>simp[noRefs,ag]
  |bp b o=>simp[noRefs,ag]
  |gv b o s=>simp[noRefs,ag]
  |_=>
   have:=si l h
   simp only[noRefs,this,Bool.and_false]
class Fla {α:Type} (f:α→List C):Prop where
 flat:∀a,flats (f a) =true
instance:Fla bC:=⟨fun _=>rfl⟩
instance:Fla wC:=⟨fun _=>rfl⟩
instance:Fla sC:=⟨fun _=>rfl⟩
instance:Fla iC:=⟨fun _=>rfl⟩
instance:Fla nC:=⟨fun _=>rfl⟩
instance:Fla oC:=⟨fun _=>rfl⟩
theorem qC (xs ys:List C):flats (xs++ys) = (flats xs && flats ys):=by
 induction xs with
 |nil=>simp[flats]
 |cons x xs ih=>simp only[List.cons_append,flats,ih,Bool.and_assoc]
theorem aX (k:Nat)(xs ys:List C):noRefs k (xs++ys) = (noRefs k xs && noRefs k ys):=by
 induction xs with
 |nil=>simp[noRefs]
 |cons x xs ih=>simp only[List.cons_append,noRefs,ih,Bool.and_assoc]
theorem nt {α:Type}(f:α→List C)[h:Fla f]:∀l:List α,flats (cl f l) =true
 | [] =>rfl
 |a::l=>by rw[cS,qC,h.flat,nt f l];rfl
mutual
theorem vH (k:Nat):∀c:C,flat c=true→ag k c=true
 | .val _,_=>rfl
 | .agg xs,h=>by simp only[flat] at h;simp only[ag];exact flats_noRefs k xs h
 | .tup xs,h=>by simp only[flat] at h;simp only[ag];exact flats_noRefs k xs h
 | .top,h=>by cases h
 | .sl _ _ _,h=>by cases h
 | .sv _ _ _,h=>by cases h
 | .bp _ _,h=>by cases h
 | .kp _,h=>by cases h
 | .fn _ _,h=>by cases h
theorem flats_noRefs (k:Nat):∀l:List C,flats l=true→noRefs k l=true
 | [],_=>rfl
 |x::xs,h=>by
  simp only[flats,Bool.and_eq_true] at h
  simp only[noRefs,vH k x h.1,flats_noRefs k xs h.2,Bool.and_self]
end
class Nrf {α:Type} (f:α→List C):Prop where
 nr:∀k a,noRefs k (f a) =true
instance {α:Type} (f:α→List C) [h:Fla f]:Nrf f:=⟨fun k a=>flats_noRefs k _ (h.flat a)⟩
theorem a9 {α:Type}(f:α→List C)[h:Nrf f](k:Nat)(a:α):noRefs k (f a) =true:=h.nr k a
theorem aF {α:Type}(f:α→List C)[h:Nrf f](k:Nat):∀l:List α,noRefs k (cl f l) =true
 | [] =>rfl
 |a::l=>by rw[cS,aX,h.nr,aF f k l];rfl
theorem aI {α:Type}(f:α→List C)[h:Nrf f](k:Nat)(r:Rt)(l:List α):ag k (sl f r l) =true:=aF f k l
theorem bj (k:Nat)(xs:List C):ag k (.agg xs) =noRefs k xs:=rfl
theorem bl (k:Nat)(xs:List C):ag k (.tup xs) =noRefs k xs:=rfl
theorem bE (k:Nat)(xs:List C):ag k (.kp xs) =noRefs k xs:=rfl
theorem aV (k:Nat)(v:Value):ag k (.val v) =true:=rfl
theorem aJ (k:Nat):noRefs k [] =true:=rfl
theorem aE (k:Nat)(c:C)(l:List C):noRefs k (c::l) = (ag k c && noRefs k l):=rfl
theorem Br (v:Value):flat (.val v) =true:=rfl
theorem vI (cx:Cx)(g:Nat)(az:List C)(c:C):q9 cx g az (some c) =some (vp c):=rfl
def re (cx:Cx)(g:Nat)(az:List C)(b:Option Nat)(o:Option (C×Hp)):Option Plan:=match b with
 |some b=>if o.isSome then some (.call g az) else some (.rd b (rdPu cx g az b))
 |none=>if cx.gr (1000000+g) =true then some (.rd 0 (rdE cx g az 0)) else some (.call g az)
theorem vJ (cx:Cx)(g:Nat)(az:List C):q9 cx g az none=re cx g az (fY az) (cx.hp g az []):=by
 unfold q9 re;rfl
theorem Bs (cx:Cx)(g:Nat)(az:List C)(b:Nat):re cx g az (some b) none=some (.rd b (rdPu cx g az b)):=rfl
theorem yh (b o:Nat)(l:List C):fY (.bp b o::l) =kn b l:=rfl
theorem vK (xs l:List C):fY (.agg xs::l) =fY l:=rfl
theorem vL (v:Value)(l:List C):fY (.val v::l) =fY l:=rfl
theorem Bt (b:Nat):kn b [] =some b:=rfl
def Jd (b:Bool)(c:C):Option C:=if b then some c else none
def O6 (b:Bool)(c:Option C):Option C:=if b then (match c with
 |some c=>Jd (flat c) c
 |none=>none) else none
theorem FK (cx:Cx)(g:Nat)(az:List C)(b:Nat)(cells:List C):rdPu cx g az b cells=O6 (noRefs 0 (fe b cells az)) (cx.pu g (fe b cells az)):=rfl
theorem Bu (c:C):O6 true (some c) =Jd (flat c) c:=rfl
theorem Bv (c:C):Jd true c=some c:=rfl
theorem Bw (b:Nat)(cells:List C):fe b cells [] = []:=rfl
theorem yi (b:Nat)(cells:List C)(c:C)(l:List C):fe b cells (c::l) =gC b cells c::fe b cells l:=rfl
theorem FL (b:Nat)(cells:List C)(v:Value):gC b cells (.val v) = .val v:=rfl
def Bx (cells:List C)(o:Nat):C:= .kp ((cells.drop o).map C.noR)
theorem Je (b:Nat)(cells:List C)(o:Nat):gC b cells (.bp b o) =Bx cells o:=by simp[gC,Bx]
theorem By (c:C):Bx [c] 0= .kp [c.noR]:=rfl
theorem Bz:∀ (f:Nat)(az:List C),dh az=true→(fun _ _=>none:Nat→List C→Option C) f az=none:=fun _ _ _=>rfl
theorem dT {pu:Nat→List C→Option C}(hno:∀f az,dh az=true→pu f az=none){α:Type}{enc:α→List C}{out:α→C}{f:Nat}(he:∀a,noRefs 0 (enc a) =true):∀g az,dh az=true→Sx.ext pu f (bZ enc out) g az=none:=fun g az hr=>by
 by_cases hgf:g=f
 . subst hgf
   rw[bN]
   cases hq:bZ enc out az with
   |none=>rfl
   |some c=>
    obtain ⟨a,rfl,_⟩:=oo hq
    have:=he a
    rw[si _ hr] at this;cases this
 . rw[ay hgf];exact hno g az hr
theorem bq {P:Program}{km:TypeId→Value→Bool}{gl:Nat→C}{pu:Nat→List C→Option C}{N M:Nat}(hcx:CxOK ⟨P,N,gl,pu,fun _ _ _=>none,fun _=>false,km,true⟩)
 {α:Type} {enc:α→List C} {out:α→C} {f:Nat} (he:∀a,noRefs 0 (enc a) =true) (h:∀a,FC P gl f (enc a) [] (out a) []):CxOK ⟨P,M,gl,Sx.ext pu f (bZ enc out),fun _ _ _=>none,fun _=>false,km,true⟩:=
 hcx.ext (M:=M) hcx.glo he h
theorem NM (l:List (UInt8))(k:Nat)(a:UInt8)(h:k< l.length):dJ (cl bC l) k [.val (w8 a)] =some (cl bC (l.set k a),.val undef):=IH (f:=bC) l k a h
def RM (de:Option TD)(s:Nat)(p:Option Plan):Option Plan:=match de with
 |some de=>if de.size=s then p else none
 |none=>none
section
variable (P:Program) (a1 b1:Nat) (z1:List Value)
def Jf (de:Option TD)(s:Nat)(p q:Option Plan):Option Plan:=match de with
 |some de=>if de.size=s then p else q
 |none=>q
theorem BB (u:TypeDesc)(s y:Nat)(z:List Value)(p q:Option Plan):Jf (some ⟨u,s,y,z⟩) s p q=p:=if_pos rfl
def Jg {α:Type}(f:α→List C)(e:TypeId)(r:Rt)(l:List α)(lo hi:Option C):Option Plan:=uk P (some ⟨.slice e,a1,b1,z1⟩) (sl f r l) lo hi
theorem FM {α:Type}(f:α→List C){s0:Nat}[hf:Cel f s0](e:TypeId)(r:Rt)(l:List α)(lo hi:Option C):
 uk P (some ⟨.slice e,a1,b1,z1⟩) (sl f r l) lo hi=Jf (td P e) s0 (kQ hi lo l.length fun h k=>some (vp (sl f .no ((l.drop k).take (h - k))))) (Jg P a1 b1 z1 f e r l lo hi):=by
 unfold Jg
 cases hq:td P e with
 |none=>rfl
 |some de=>
  obtain ⟨u,s,y,z⟩:=de
  unfold Jf
  simp only[]
  split
  . rename_i hs
    subst hs
    exact I4 P a1 b1 z1 f e r l lo hi u y z hq
  . rfl
end
def yj (de:Option TD)(k:Option Nat)(n:Nat)(xs:List C):Option Plan:=oq de k fun s k=>if xs.length=n*s∧xs≠[] then some (vp (.kp (xs.drop (k*s)))) else none
theorem FO {α:Type}(f:α→List C)(P:Program)(a1 b1:Nat)(z1:List Value)(e:TypeId)(r:Rt)(l:List α)(i:C):nq P (some ⟨.slice e,a1,b1,z1⟩) (sl f r l) i=yj (td P e) (d8 i l.length) l.length (cl f l):=IV P a1 b1 z1 f e r l i
theorem BC {α:Type}(f:α→List C){s:Nat}[hf:Cel f s](u:TypeDesc)(y:Nat)(z:List Value)(k:Nat)(l:List α)(h:k< l.length):yj (some ⟨u,s,y,z⟩) (some k) l.length (cl f l) =some (vp (.kp ((cl f l).drop (k*s)))):=by
 show (if (cl f l).length=l.length*s∧cl f l≠[] then some (vp (.kp ((cl f l).drop (k*s)))) else none) =_
 rw[if_pos ⟨aw (f:=f) l,fun e=>by
  have h1:=aw (f:=f) l
  rw[e] at h1
  have h2:=hf.pos
  have h3:l.length*s≠0:=Nat.mul_ne_zero (by omega) (by omega)
  exact h3 h1.symm⟩]
theorem FQ (b o n:Nat)(l:List C):dh (.sv b o n::l) =true:=id rfl
theorem FR (b o:Nat)(l:List C):dh (.bp b o::l) =true:=id rfl
theorem BD (xs l:List C):dh (.agg xs::l) =dh l:=id rfl
theorem BE (v:Value)(l:List C):dh (.val v::l) =dh l:=id rfl
theorem FSq (xs l:List C):dh (.kp xs::l) =dh l:=id rfl
theorem BF {α:Type}(f:α→List C)(r:Rt)(x:List α)(l:List C):dh (sl f r x::l) =dh l:=id rfl
theorem yk (x:Nat): (nI x).oneCell'=true:=id rfl
theorem um (x:List UInt8): (str x).oneCell'=true:=id rfl
theorem sj (x:Bool): (Value.bool x).oneCell'=true:=id rfl
theorem qD: (Value.slice none 0 0).oneCell'=true:=id rfl
end Go.Sx
namespace Go.Sx
open Go.RowKit
theorem kr {α:Type}[Inhabited α](a:α)(l:List α):gt (a::l) 0=a:=rfl
theorem i3 {α:Type}[Inhabited α](a:α)(l:List α)(n:Nat):gt (a::l) (n+1) =gt l n:=by simp[gt,List.getD]
def lf (cells:List C):List (Nat×C)→Option Plan
 | [] =>some (vp (.agg cells))
 | (i,c)::r=>match c.cells? with
   |some cs=>if cs.length=1∧i+1≤cells.length then lf (splice cells i cs) r else none
   |none=>none
theorem un (y:Nat):∀ (parts:List (Nat×C))(cells:List C),(eV (fun i=>some (i*1,1)) cells parts).map (fun cs=>vp (.agg cs)) =lf cells parts
 | [],cells=>rfl
 | (i,c)::r,cells=>by
   unfold eV lf
   cases c.cells? with
   |none=>rfl
   |some cs=>
    simp only[Nat.mul_one]
    split
    . have:=un y r (splice cells i cs)
      simpa only[Nat.mul_one] using this
    . rfl
def lg (de:Option TD)(z:List Value)(parts:List (Nat×C))(q:Option Plan):Option Plan:=match de with
 |some d=>if d.size=1∧z.all (·.oneCell') =true then lf (z.map .val) parts else q
 |none=>q
def O7 (P:Program)(n:Nat)(e:TypeId)(s y:Nat)(z:List Value)(parts:List (Nat×C)):Option Plan:=iY P (some ⟨.array n e,s,y,z⟩) parts
theorem yl (P:Program)(n:Nat)(e:TypeId)(s y:Nat)(z:List Value)(parts:List (Nat×C)):iY P (some ⟨.array n e,s,y,z⟩) parts=lg (td P e) z parts (O7 P n e s y z parts):=by
 unfold lg O7
 cases hq:td P e with
 |none=>rfl
 |some d=>
  simp only[]
  split
  . rename_i h
    unfold iY
    simp only[h.2,Bool.true_eq_false,if_false,g9,hq,Option.map_some,Option.bind_some,h.1]
    exact un 0 parts _
  . rfl
theorem vM (u:TypeDesc)(y n:Nat)(z:List Value)(v:Value)(parts:List (Nat×C))(q:Option Plan)(h:v.oneCell'=true):lg (some ⟨u,1,y,z⟩) (List.replicate n v) parts q=lf (List.replicate n (.val v)) parts:=by
 unfold lg
 simp only[]
 rw[if_pos ⟨trivial,by simp[h]⟩,List.map_replicate]
def fO (n:Nat)(cells:List C):List (Nat×C)→Option Plan
 | [] =>some (vp (.sl .full n cells))
 | (i,c)::r=>match c.cells? with
   |some cs=>if cs.length=1∧i+1≤cells.length then fO n (splice cells i cs) r else none
   |none=>none
theorem sk (n:Nat):∀ (parts:List (Nat×C))(cells:List C),(eV (fun i=>some (i*1,1)) cells parts).map (fun cs=>vp (.sl .full n cs)) =fO n cells parts
 | [],cells=>rfl
 | (i,c)::r,cells=>by
   unfold eV fO
   cases c.cells? with
   |none=>rfl
   |some cs=>
    simp only[Nat.mul_one]
    split
    . have:=sk n r (splice cells i cs)
      simpa only[Nat.mul_one] using this
    . rfl
def fE (de:Option TD)(n:Nat)(parts:List (Nat×C)):Option Plan:=match de with
 |some de=>if n*de.size≤65536∧n≤65536∧de.zero.length=de.size∧de.zero.all (·.oneCell') =true then
  (eV (fun i=>some (i*de.size,de.size)) (bI de.zero n) parts).map fun cs=>vp (.sl .full n cs) else none
 |none=>none
theorem BG (P:Program)(e:TypeId)(s y n:Nat)(z:List Value)(parts:List (Nat×C)):gZ P false (some ⟨.slice e,s,y,z⟩) n parts=fE (td P e) n parts:=rfl
def Dw (e:Nat)(de:Option TD)(n:Nat)(parts:List (Nat×C)):Option Plan:=match de with
 |some de=>if n*de.size≤65536∧n≤65536∧de.zero.length=de.size∧de.zero.all (·.oneCell') =true then
  (eV (fun i=>some (i*de.size,de.size)) (bI de.zero n) parts).map fun cs=> .ap none (de.size,e) n fun _=>some cs else none
 |none=>none
theorem ym (P:Program)(e:TypeId)(s y n:Nat)(z:List Value)(parts:List (Nat×C)):gZ P true (some ⟨.slice e,s,y,z⟩) n parts=Dw e (td P e) n parts:=rfl
theorem mR (v:Value):∀n,bI [v] n=List.replicate n (.val v)
 |0=>rfl
 |n+1=>by rw[List.replicate_succ,←mR v n];rfl
theorem pv (u:TypeDesc)(y n:Nat)(v:Value)(parts:List (Nat×C))(h:v.oneCell'=true)(hn:n≤65536):fE (some ⟨u,1,y,[v]⟩) n parts=fO n (List.replicate n (.val v)) parts:=by
 unfold fE
 simp only[Nat.mul_one,List.length_singleton,List.all_cons,List.all_nil,h,Bool.and_self,hn,and_self,if_true]
 rw[mR]
 have:=sk n parts (List.replicate n (.val v))
 simpa only[Nat.mul_one] using this
theorem FT (n:Nat)(l:List (List UInt8))(i:Nat)(x:List UInt8)(r:List (Nat×C))(h:i< l.length):fO n (cl sC l) ((i,.val (str x))::r) =fO n (cl sC (l.set i x)) r:=by
 have e:=sb (f:=sC) l i x h
 rw[Nat.mul_one] at e
 have e2:splice (cl sC l) i [.val (str x)] =cl sC (l.set i x):=e
 show (if [C.val (str x)].length=1∧i+1≤(cl sC l).length then fO n (splice (cl sC l) i [.val (str x)]) r else none) =_
 rw[if_pos ⟨rfl,by rw[aw (f:=sC)];omega⟩,e2]
theorem yn {α:Type}(f:α→List C)(n:Nat)(l:List α)(h:n=l.length):fO n (cl f l) [] =some (vp (sl f .full l)):=by
 subst h;rfl
theorem uo (n:Nat):List.replicate n (C.val (str [])) =cl sC (List.replicate n []):=by
 induction n with
 |zero=>rfl
 |succ n ih=>rw[List.replicate_succ,ih];rfl
theorem BH (cells cs:List C)(h:cs.length=cells.length):dJ cells 0 cs=some (cs,.val undef):=by
 unfold dJ splice
 rw[if_pos (by omega),List.take_zero,List.nil_append,Nat.zero_add,List.drop_of_length_le (by omega),List.append_nil]
theorem BI (cells:List C)(n:Nat)(h:cells.length=n):fv cells 0 n=some (.agg (cells.map C.noR)):=by
 subst h
 unfold fv
 rw[if_pos (by omega),List.drop_zero,List.take_of_length_le (Nat.le_refl _)]
def zc (z:List Value):List C:=z.map .val
theorem Jh:zc [] = []:=rfl
theorem FU (v:Value)(l:List Value):zc (v::l) = .val v::zc l:=rfl
theorem Ji (n:Nat)(v:Value):zc (List.replicate n v) =List.replicate n (.val v):=by simp[zc]
def h8 (z:List Value):Bool:=z.all (·.oneCell')
theorem vN:h8 [] =true:=rfl
theorem tV (v:Value)(l:List Value):h8 (v::l) = (v.oneCell' && h8 l):=rfl
theorem vO (n:Nat)(v:Value)(h:v.oneCell'=true):h8 (List.replicate n v) =true:=by simp[h8,h]
def O8 (b:Bool)(cs:List C):Option Plan:=if b then some (.new cs fun id=> .bp id 0) else none
theorem FV (u:TypeDesc)(s y:Nat)(z:List Value):xQ (some ⟨u,s,y,z⟩) =O8 (h8 z) (zc z):=rfl
theorem BJ (cs:List C):O8 true cs=some (.new cs fun id=> .bp id 0):=rfl
theorem BK (t:TypeId)(T:Option TD):sa false t T=xQ T:=by cases T<;>rfl
def mS (P:Program):List Field→Option (List (Nat×Nat))
 | [] =>some []
 |fd::l=>match td P fd.type,mS P l with
  |some d,some r=>some ((fd.offset,d.size)::r)
  |_,_=>none
theorem yp (P:Program):∀l:List Field,(l.mapM fun f=>(td P f.type).map fun d=>(f.offset,d.size)) =mS P l
 | [] =>rfl
 |fd::l=>by
  rw[List.mapM_cons,yp P l]
  simp only[mS,Option.bind_eq_bind,Option.pure_def]
  cases td P fd.type with
  |none=>rfl
  |some d=>cases mS P l<;>rfl
def Jj (d:Option TD)(o:Nat)(r:Option (List (Nat×Nat))):Option (List (Nat×Nat)):=match d,r with
 |some d,some r=>some ((o,d.size)::r)
 |_,_=>none
theorem FW (P:Program):mS P [] =some []:=rfl
theorem BL (P:Program)(nm:String)(t:TypeId)(o:Nat)(em:Bool)(tg pp:String)(bo:Nat)(l:List Field):mS P (⟨nm,t,o,em,tg,pp,bo⟩::l) =Jj (td P t) o (mS P l):=by
 simp only[mS,Jj]
theorem BM (u:TypeDesc)(s y:Nat)(z:List Value)(o:Nat)(r:List (Nat×Nat)):Jj (some ⟨u,s,y,z⟩) o (some r) =some ((o,s)::r):=rfl
def layS (pl:List (Nat×Nat))(cells:List C):List (Nat×C)→Option Plan
 | [] =>some (vp (.agg cells))
 | (i,c)::rest=>match pl[i]?,c.cells? with
   |some (off,size),some cs=>if cs.length=size∧off+size≤cells.length then layS pl (splice cells off cs) rest else none
   |_,_=>none
theorem up (pl:List (Nat×Nat)):∀ (parts:List (Nat×C))(cells:List C),(eV (fun i=>pl[i]?) cells parts).map (fun cs=>vp (.agg cs)) =layS pl cells parts
 | [],cells=>rfl
 | (i,c)::r,cells=>by
   unfold eV layS
   cases pl[i]? with
   |none=>rfl
   |some p=>
    obtain ⟨off,size⟩:=p
    cases c.cells? with
    |none=>rfl
    |some cs=>
     simp only[]
     split
     . exact up pl r _
     . rfl
def BN (b:Bool)(pl:Option (List (Nat×Nat)))(cells:List C)(parts:List (Nat×C)):Option Plan:=if b then (match pl with
 |some pl=>layS pl cells parts
 |none=>none) else none
theorem sm (P:Program)(fs:List Field)(s y:Nat)(z:List Value)(parts:List (Nat×C)):iY P (some ⟨.struct fs.toArray,s,y,z⟩) parts=BN (h8 z) (mS P fs) (zc z) parts:=by
 unfold iY BN h8 zc
 simp only[g9]
 by_cases h:z.all (·.oneCell') =true
 . rw[if_neg (by rw[h];decide),if_pos h,yp]
   cases mS P fs with
   |none=>rfl
   |some pl=>exact up pl parts _
 . rw[if_pos (by simpa using h),if_neg h]
theorem yq (pl:List (Nat×Nat))(cells:List C)(parts:List (Nat×C)):BN true (some pl) cells parts=layS pl cells parts:=rfl
def vP (pl:List (Nat×Nat))(p:Option (Nat×Nat))(cs:Option (List C))(cells:List C)(r:List (Nat×C)):Option Plan:=match p,cs with
 |some (off,size),some cs=>if cs.length=size∧off+size≤cells.length then layS pl (splice cells off cs) r else none
 |_,_=>none
def BO (pl:List (Nat×Nat))(q:Option (List C×C))(r:List (Nat×C)):Option Plan:=match q with
 |some q=>layS pl q.1 r
 |none=>none
theorem BP (pl:List (Nat×Nat))(cells:List C):layS pl cells [] =some (vp (.agg cells)):=rfl
theorem yr (pl:List (Nat×Nat))(cells:List C)(i:Nat)(c:C)(r:List (Nat×C)):layS pl cells ((i,c)::r) =vP pl (pl[i]?) c.cells? cells r:=by
 rw[layS.eq_def];rfl
theorem yu (pl:List (Nat×Nat))(off size:Nat)(cs cells:List C)(r:List (Nat×C))(h:cs.length=size):vP pl (some (off,size)) (some cs) cells r=BO pl (dJ cells off cs) r:=by
 subst h
 unfold vP BO dJ
 simp only[true_and]
 split<;>rfl
theorem yx (pl:List (Nat×Nat))(cells:List C)(c:C)(r:List (Nat×C)):BO pl (some (cells,c)) r=layS pl cells r:=rfl
theorem NN (u:TypeDesc)(y n:Nat)(parts:List (Nat×C))(hn:n≤65536):fE (some ⟨u,1,y,[nI 0]⟩) n parts=fO n (cl nC (List.replicate n 0)) parts:=by
 rw[pv u y n _ parts rfl hn,sh]
theorem BQ (u:TypeDesc)(y n:Nat)(z:List Value)(parts:List (Nat×C))(q:Option Plan):lg (some ⟨u,1,y,z⟩) (List.replicate n (nI 0)) parts q=lf (cl nC (List.replicate n 0)) parts:=by
 rw[vM u y n z _ parts q rfl,sh]
theorem NO (u:TypeDesc)(y n:Nat)(parts:List (Nat×C))(hn:n≤65536):fE (some ⟨u,1,y,[str []]⟩) n parts=fO n (cl sC (List.replicate n [])) parts:=by
 rw[pv u y n _ parts rfl hn,uo]
end Go.Sx
namespace Go.Sx
open Go.RowKit Go.ChangeShapes Go.WideShapes
def GW (W:World):Gh:=⟨fun b o=>W.cell? ⟨b,o,none⟩,fun _=>none,fun _=>none,fun _=>none⟩
theorem NP (W:World):WorldOK (GW W) [] W:=
 ⟨fun _ _ _ h=>h,fun b cells h=>(by simp[Hp.at] at h),fun b blk h=>(by cases h),fun b b' c c' blk _ _ h=>(by cases h),fun b blk h=>(by cases h),fun g p h=>(by cases h),
   fun b cells off s n xs blk v h=>(by simp[Hp.at] at h),fun b z h=>(by cases h),fun b l h=>(by simp[Hp.mp] at h),fun b b' l l' blk h=>(by simp[Hp.mp] at h)⟩
def yy (P:Program)(t:TypeId){α:Type}(f:α→List C)(ok:α→Prop):Prop:=
 ∀ {H:Type}{enc:TypeId×Value→H}{W:World}{base:Nat}{sp:Nat→Bool}{held:Bool}{fuel:Nat}{cs:List Value}{x:DataW H×List MemPlace},
   DataW.trod enc P W base sp held fuel t cs=some x→∃a,ok a∧RepL (GW W) (f a) cs∧∀u∈cs,u.oneCell'=true
section
variable {P:Program} {t e:TypeId}
theorem FY {c v:Value}{G:Gh}(h:v=c):RepL G [.val c] [v]:=by
 simp only[RepL,Rep];exact ⟨v,[],rfl,h,rfl⟩
theorem uq (ht:P.underlying t=some (.int .i64)):yy P t iC fun n=> -9223372036854775808≤n∧n≤9223372036854775807:=fun h=>by
 obtain ⟨n,rfl,_,hw⟩:=DataW.trod_int ht h
 refine ⟨n,?_,FY rfl,by simp[Value.oneCell']⟩
 simpa[Lit.wf,IntKind.min,IntKind.max,IntKind.signed,IntKind.bits] using hw
theorem yz (b o x y:Nat): ((⟨b,o,none⟩:Addr).add x).add y= ⟨b,o+x+y,none⟩:=by
 simp only[Addr.add]
 by_cases hx:x=0<;>by_cases hy:y=0<;>simp[hx,hy]
theorem lh {α:Type}{R:Nat→α→Prop}:∀n,(∀i< n,∃a,R i a)→∃l:List α,l.length=n∧∀i a,l[i]? =some a→R i a
 |0,_=>⟨[],rfl,by simp⟩
 |n+1,h=>by
  obtain ⟨l,h1,h2⟩:=lh n (fun i hi=>h i (by omega))
  obtain ⟨a,ha⟩:=h n (by omega)
  refine ⟨l++[a],by simp[h1],fun i b hb=>?_⟩
  rw[List.getElem?_append] at hb
  split at hb
  . exact h2 i b hb
  . rename_i hi
    have:i=n:=by
     have:=(List.getElem?_eq_some_iff.1 hb).1
     simp at this;omega
    subst this
    simp[h1] at hb;subst hb;exact ha
theorem ur {α:Type}{f:α→List C}{s:Nat}[hf:Cel f s](l:List α)(i j:Nat)(hj:j< s): (cl f l)[i*s+j]? = (l[i]?).bind fun a=>(f a)[j]? :=by
 have h1: (cl f l)[i*s+j]? = ((cl f l).drop (i*s))[j]? :=by rw[List.getElem?_drop]
 rw[h1,fL]
 cases hq:l[i]? with
 |none=>
  rw[List.drop_of_length_le (by simpa using hq)];rfl
 |some a=>
  obtain ⟨hi,rfl⟩:=List.getElem?_eq_some_iff.1 hq
  rw[List.drop_eq_getElem_cons hi,cS,List.getElem?_append_left (by rw[hf.len];exact hj)];rfl
theorem yA {α:Type}{f:α→List C}{ok:α→Prop}{s:Nat}[hf:Cel f s](ht:P.underlying t=some (.slice e))(hc:P.cellsOf e=s)(he:yy P e f ok):
 yy P t (fun l:List α=>[sl f .no l]) fun l=>l.length≤9223372036854775807∧∀a∈l,ok a:=fun {H enc W base sp held fuel cs x} h=>by
 rcases DataW.trod_slice ht h with ⟨rfl,_⟩ | ⟨a,len,cap,elems,rest,n,_,rfl,_,hb,hl,hm,hlen,hel,_,_⟩
 . refine ⟨[],⟨by simp,by simp⟩,?_,by simp[Value.oneCell']⟩
   simp only[RepL]
   refine ⟨_,[],rfl,?_,rfl⟩
   simp only[sl,Rep]
   exact ⟨none,0,rfl,Nat.le_refl _,Nat.zero_le _,by simp,.inl rfl⟩
 . have each:∀i< len,∃b,ok b∧∃cs,W.cells? base (a.add (i*s)) s=some cs∧RepL (GW W) (f b) cs∧∀u∈cs,u.oneCell'=true:=fun i hi=>by
    have h1:=hel i hi
    rw[List.getElem?_eq_getElem (by omega),hc,Option.bind_eq_some_iff] at h1
    obtain ⟨cs,h2,h3⟩:=h1
    obtain ⟨b,h4,h5,h6⟩:=he h3
    exact ⟨b,h4,cs,h2,h5,h6⟩
   obtain ⟨l,hll,hlr⟩:=lh len each
   refine ⟨l,⟨by rw[hll];exact Nat.le_trans hl hm,fun b hb=>by
    obtain ⟨i,hi⟩:=List.getElem?_of_mem hb
    exact (hlr i b hi).1⟩,?_,by simp[Value.oneCell']⟩
   simp only[RepL]
   refine ⟨_,[],rfl,?_,rfl⟩
   simp only[sl,Rep]
   refine ⟨some a,cap,by rw[hll],by omega,hm,by simp,?_⟩
   by_cases h0:len=0
   . left;have:l= []:=by rw[←List.length_eq_zero_iff];omega
     subst this;rfl
   . right
     have hspot:a= ⟨a.block,a.off,none⟩:=by
      obtain ⟨b,hb⟩:∃b,l[0]? =some b:=⟨_,List.getElem?_eq_getElem (by omega)⟩
      obtain ⟨_,cs,h2,_⟩:=hlr 0 b hb
      have h3:=(World.cells?_some h2).2.2 0 hf.pos
      simp only[Nat.zero_mul] at h3
      have h4:W.cell? a≠none:=by
       have: (a.add 0).add 0=a:=by simp[Addr.add]
       rw[this] at h3
       rw[h3]
       have:=(World.cells?_some h2).2.1
       intro hq
       have:=hf.pos
       have hq2:cs.length≤0:=by simpa using hq
       omega
      obtain ⟨blk,off,spot⟩:=a
      cases spot with
      |none=>rfl
      |some q=>simp[World.cell?] at h4;split at h4<;>simp_all
     refine ⟨a.block,a.off,by rw[←hspot],?_⟩
     refine RepK.of_get fun k c hk=>?_
     have hkl:k< (cl f l).length:=(List.getElem?_eq_some_iff.1 hk).1
     rw[aw (f:=f)] at hkl
     have hs:=hf.pos
     have hdm:k= (k / s)*s+k % s:=by rw[Nat.mul_comm];exact (Nat.div_add_mod k s).symm
     have hml:k % s< s:=Nat.mod_lt _ hs
     rw[hdm,ur (f:=f) l _ _ hml] at hk
     rw[Option.bind_eq_some_iff] at hk
     obtain ⟨b,hb,hbc⟩:=hk
     obtain ⟨_,cs,h2,h3,h4⟩:=hlr _ b hb
     obtain ⟨u,hu1,hu2⟩:=h3.get _ c hbc
     refine ⟨u,?_,h4 u (List.mem_of_getElem? hu1),hu2⟩
     have h5:=(World.cells?_some h2).2.2 (k % s) hml
     rw[hu1] at h5
     rw[hspot] at h5
     show W.cell? ⟨a.block,a.off+k,none⟩ =some u
     rw[←h5]
     rw[yz,Nat.add_assoc,←hdm]
end
section
variable {H:Type} {enc:TypeId×Value→H} {P:Program} {W:World} {base b0:Nat} {sp:Nat→Bool} {held:Bool} {t:TypeId} {v:Value} {d:DataW H} {ps:List MemPlace}
theorem ut {α:Type}{f:α→List C}{g:α→C}{ok:α→Prop}(hg:∀a,f a= [g a])(hr:yy P t f ok)(hu:∀u,P.underlying t=some u→(match u with| .struct _| .array _ _=>False|_=>True))
 (hval:Value.okWide P W .any b0 t v) (hd:DataW.Trod enc P W base sp held t v d ps):∃a,ok a∧Rep (GW W) (g a) v:=by
 obtain ⟨fuel,hd⟩:=hd
 obtain ⟨a,h1,h2,_⟩:=hr hd
 rw[hg] at h2
 simp only[RepL] at h2
 obtain ⟨u,vs,h3,h4,rfl⟩:=h2
 refine ⟨a,h1,?_⟩
 cases v with
 |agg cs=>
  exfalso
  unfold Value.okWide at hval
  cases hq:P.underlying t with
  |none=>rw[hq] at hval;simp[Cell.okWide,Cell.ok,hq] at hval
  |some u=>
   have:=hu u hq
   rw[hq] at hval
   cases u<;>simp_all [Cell.okWide,Cell.ok]
 |_=>
  simp only[Value.cells,List.cons.injEq,and_true] at h3
  rw[h3];exact h4
end
def mc (P:Program):Bool:=(List.range P.types.size).all fun t=>match P.underlying t with
 |some (.slice e) =>decide (0< P.cellsOf e)
 |_=>true
theorem kR {H:Type}{enc:TypeId×Value→H}{P:Program}{W W':World}{sp:Nat→Bool}(hl:laidOutB P=true)(hm:mapsRowed P=true)(hs:mc P=true):
 ∀ (ts:List TypeId)(vs:List Value)(ds:List (DataW H))(ps:List MemPlace),(∀t∈ts,t< P.types.size)→DataW.TrodAll enc P W 0 (fun _=>true) true ts vs ds ps→
   (∀p∈ps,W.sameAt W' p)→(∀p∈ps,sp p.block=true)→DataW.TrodAll enc P W' 0 sp true ts vs ds ps
 | [],[],[],ps,_,h,_,_=>h
 |t::ts,v::vs,d::ds,ps,hb,h,h1,h2=>by
  obtain ⟨p,q,⟨fuel,h3⟩,h4,rfl⟩:=h
  refine ⟨p,q,⟨fuel,?_⟩,kR hl hm hs ts vs ds q (fun t ht=>hb t (List.mem_cons_of_mem _ ht)) h4 (fun p hp=>h1 p (List.mem_append_right _ hp)) (fun p hp=>h2 p (List.mem_append_right _ hp)),rfl⟩
  refine DataW.trod_stays (T:=(· < P.types.size)) (kids_rows hl hm) (fun {t e} ht he=>?_) (fun h=>by cases h) (hb t (List.mem_cons_self ..)) h3 (fun p hp=>h1 p (List.mem_append_left _ hp)) (fun p hp=>h2 p (List.mem_append_left _ hp))
  have:=List.all_eq_true.1 hs t (List.mem_range.2 ht)
  rw[he] at this
  simpa using this
 | [],[],_::_,_,_,h,_,_=>h.elim
 | [],_::_,_,_,_,h,_,_=>h.elim
 |_::_,[],_,_,_,h,_,_=>h.elim
 |_::_,_::_,[],_,_,h,_,_=>h.elim
theorem BR {H:Type}{enc:TypeId×Value→H}{P:Program}{f:Func}{s:ChangeSpec}{fresh handsOn again:Bool}{W W':World}{args:Array Value}{ds gs:List (DataW H)}{before:List MemPlace}{t:TypeId}
 (hl:laidOutB P=true) (hm:mapsRowed P=true) (hsl:mc P=true) (hps:∀t∈f.params.toList,t< P.types.size)
 (hW:DataW.Whole enc P f.params.toList s.vars false W args.toList ds gs before) (hv:s.vars= [])
 (hs:s.fn H ds= { results:=[.lit (.bool true)],args:=ds }) (hr:f.resultTypes= #[t]) (ht:P.underlying t=some .bool)
 (hos:W'.os=W.os) (hout:W'.output=W.output) (hold:∀g< W.heap.size,W'.heap[g]? =W.heap[g]?):
 s.post enc P f false fresh handsOn again W args (.bool true) W':=by
 have hlt:=hW.lt
 have hW0:=hW
 obtain ⟨p,q,h1,h2,rfl,hz,hn⟩:=hW
 rw[hv] at h2
 obtain ⟨rfl,rfl⟩:=trodVars_none h2
 simp only[List.append_nil] at hW0 hlt hz hn
 have same:∀x∈p,W.sameAt W' x:=fun x hx=>by
  have hb:=hold _ (hlt x hx)
  cases x with
  |cell b o=>simp only[World.sameAt,MemPlace.block] at hb ⊢;simp only[World.cell?];rw[hb]
  |map b=>exact hb
 have args':∀sp:Nat→Bool,(∀x∈p,sp x.block=true)→DataW.TrodAll enc P W' 0 sp true f.params.toList args.toList ds p:=fun sp hsp=>
  kR hl hm hsl _ _ _ _ hps h1 same hsp
 have res:∀ (b:Nat)(sp:Nat→Bool)(hd:Bool),DataW.TrodAll enc P W' b sp hd f.resultTypes.toList ((Value.bool true).resultList f.resultTypes.size) [.lit (.bool true)] []:=fun b sp hd=>by
  rw[hr];exact trodAll_mk1 (shut_bool ht true)
 refine ⟨ds,[],p,[],p,[],hW0,?_,?_,?_,?_,fun _=>⟨?_,.lit (.bool true)::ds,[],p,⟨p,[],?_,?_,by simp,fun b off hp=>?_,fun h=>by cases h⟩,fun x hx _=>hx⟩⟩
 . rw[List.append_nil,hs];exact res _ _ _
 . rw[List.append_nil,hs];exact args' _ fun x hx=>by simpa using hlt x hx
 . rw[List.append_nil,hs,hv];rfl
 . refine ⟨hos,hout,fun i hi=>?_⟩
   rw[hold i hi]
   cases W.heap[i]? with
   |none=>rfl
   |some o=>cases o<;>simp
 . exact ok_one hr rfl (okWide_bool_mk ht true)
 . rw[hr]
   exact ⟨[],p,shut_bool ht true,args' (fun _=>true) fun _ _=>rfl,rfl⟩
 . rw[hv];rfl
 . have:=hz b off hp
   simp only[World.frozen?] at this ⊢
   rw[hold b (hlt _ hp)];exact this
theorem vQ {K:Checked}{os:Os}(started:os.Started){H:Type}{enc:TypeId×Value→H}{a:Assume}{fi:Nat}{fn:Func}{s:ChangeSpec}{fresh handsOn again:Bool}{laid:List (String×DataW Unit)}{gl:Nat→C}{t:TypeId}
 (own:ownKnob K.prog.godebug=none) (noInit:K.prog.inits.idxOf? fi=none) (hfn:K.prog.funcs[fi]? =some fn)
 (hl:laidOutB K.prog=true) (hm:mapsRowed K.prog=true) (hsl:mc K.prog=true) (hps: (fn.params.toList.all fun t=>decide (t< K.prog.types.size)) =true)
 (hv:s.vars= []) (hs:∀ds:List (DataW H),ds.length=fn.params.size→s.fn H ds= { results:=[.lit (.bool true)],args:=ds }) (hr:fn.resultTypes= #[t]) (ht:K.prog.underlying t=some .bool)
 (witness:∃ (w:World)(tape:Tape)(i:Input),w.os=os∧(w.forCall tape i).Shaped K.prog∧i.vars= []∧Input.okWide K.prog (w.forCall tape i) .any w.heap.size fi i∧
   ((s.pre enc K.prog fn [] false (w.forCall tape i).memory i.args∧laidMetH K.prog laid (w.forCall tape i).memory)∧sizedMet enc K.prog fn (OpenSpec.ofChange s) false (w.forCall tape i).memory i.args)∧a.holds K.prog (lone (Frame.enter K.prog fi i.args .normal) [] (w.forCall tape i)))
 (hgl:∀W,laidMetH K.prog laid W→∀g,Rep (GW W) (gl g) (.pointer (some ⟨g,0,none⟩)))
 (hc:∀ (W:World)(b0:Nat)(args:Array Value)(ds:List (DataW H))(p:List MemPlace),(∀ (j:Nat) t v,fn.params.toList[j]? =some t→args.toList[j]? =some v→Value.okWide K.prog W .any b0 t v)→
   DataW.TrodAll enc K.prog W 0 (fun _=>true) true fn.params.toList args.toList ds p→∃az,RepL (GW W) az args.toList∧FC K.prog gl fi az [] (.val (.bool true)) []):
 ReturnsInHanded a K os fi .any (fun w args=>(s.pre enc K.prog fn [] false w args∧laidMetH K.prog laid w)∧sizedMet enc K.prog fn (OpenSpec.ofChange s) false w args) (s.post enc K.prog fn false fresh handsOn again):=by
 refine returnsInHanded_of_change_and (C:=K) (X:=fun w _=>laidMetH K.prog laid w) (fun _ _ _ hh h=>laidMetH.of_heap hh h) own started noInit hfn witness ?_
 intro W base args ds gs before hval hW _ _ hL _
 have hW':=hW
 obtain ⟨p,q,h1,h2,rfl,hz,hn⟩:=hW'
 rw[hv] at h2
 obtain ⟨rfl,rfl⟩:=trodVars_none h2
 obtain ⟨az,has,hfc⟩:=hc W base args ds p (fun j t v hj hv=>hval j t v (by simpa using hj) (by simpa using hv)) h1
 refine (hfc.2 (GW W) W args (NP W) (fun g p h=>by cases h) (hgl W hL) has).mono ?_
 rintro e W' ⟨v,G',rfl,hrep,_,_,F⟩
 rw[am] at hrep
 subst hrep
 have hlen:∀ (ts:List TypeId)(vs:List Value)(ds:List (DataW H))(ps:List MemPlace),DataW.TrodAll enc K.prog W 0 (fun _=>true) true ts vs ds ps→ds.length=ts.length:=by
  intro ts
  induction ts with
  |nil=>intro vs ds ps h;cases vs<;>cases ds<;>simp_all [DataW.TrodAll]
  |cons t ts ih=>
   intro vs ds ps h
   cases vs<;>cases ds<;>simp only[DataW.TrodAll] at h
   obtain ⟨p,q,_,h4,_⟩:=h
   simp[ih _ _ _ h4]
 have hold:∀g< W.heap.size,W'.heap[g]? =W.heap[g]? :=fun g hg=>(F.old g hg rfl (fun b h=>by cases h)).1
 refine ⟨_,rfl,BR hl hm hsl (fun t ht=>?_) hW hv (hs ds (by rw[hlen _ _ _ _ h1];simp)) hr ht F.os F.output hold⟩
 have:=List.all_eq_true.1 hps t ht
 simpa using this
end Go.Sx
