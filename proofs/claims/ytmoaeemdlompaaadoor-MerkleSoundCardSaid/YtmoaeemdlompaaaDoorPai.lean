/-
   And what follows.
-/
import Derived.Test.YtmoaeemdlompaaaDoorPah
set_option linter.unusedSimpArgs false
set_option linter.unusedVariables false
namespace Go.Sx
open Go.RowKit
def cA (x:BitVec 32) :Value:= .int .u32 x.toNat
def w8 (x:UInt8) :Value:= .int .u8 x.toNat
def nI (n:Nat) :Value:= .int .i64 n
def nU (n:Nat) :Value:= .int .u64 n
def str (l:List UInt8) :Value:= .string ⟨l.toArray⟩
theorem SM (l:List UInt8) :Value.string ⟨l.toArray⟩ =str l:=rfl
theorem bZ {l l':List UInt8} :str l=str l'↔l=l':=by
 constructor
 · intro h
   simp only[str,Value.string.injEq,ByteArray.mk.injEq] at h
   simpa using congrArg Array.toList h
 · rintro rfl;rfl
theorem cm {a b:UInt8} :w8 a=w8 b↔a=b:=by
 simp only[w8,Value.int.injEq,true_and]
 constructor
 · intro h;exact UInt8.toNat_inj.1 (by omega)
 · rintro rfl;rfl
theorem b7 {a b:BitVec 32} :cA a=cA b↔a=b:=by
 simp only[cA,Value.int.injEq,true_and]
 constructor
 · intro h;exact BitVec.eq_of_toNat_eq (by omega)
 · rintro rfl;rfl
theorem b9 {a b:Nat} :nI a=nI b↔a=b:=by simp only[nI,Value.int.injEq,true_and];omega
theorem cn {a b:Nat} :nU a=nU b↔a=b:=by simp only[nU,Value.int.injEq,true_and];omega
def cl {α:Type} (f:α→List C) (l:List α) :List C:=l.flatMap f
def sl {α:Type} (f:α→List C) (r:Rt) (l:List α) :C:= .sl r l.length (cl f l)
class Cel {α:Type} (f:α→List C) (s:outParam Nat) :Prop where
 len: ∀a,(f a).length=s
 clean: ∀a,(f a).map C.noR=f a
 pos:0< s
 live: ∀a r,cH (some (f a++r)) =some (f a++r)
class Sca {α:Type} (f:α→List C) (g:outParam (α→C)) :Prop where
 one: ∀a,f a= [g a]
 clean: ∀a,(g a).noR=g a
 cells: ∀a,(g a).cells?=some [g a]
 live: ∀a r,cH (some (g a::r)) =some (g a::r)
def bC (b:UInt8) :List C:= [.val (w8 b)]
def wC (b:BitVec 32) :List C:= [.val (cA b)]
def sC (b:List UInt8) :List C:= [.val (str b)]
def iC (b:Int) :List C:= [.val (.int .i64 b)]
def nC (b:Nat) :List C:= [.val (nI b)]
def oC (b:Bool) :List C:= [.val (.bool b)]
instance:Sca bC (fun b=> .val (w8 b)) := ⟨fun _=>rfl,fun _=>rfl,fun _=>rfl,fun _ _=>rfl⟩
instance:Sca wC (fun b=> .val (cA b)) := ⟨fun _=>rfl,fun _=>rfl,fun _=>rfl,fun _ _=>rfl⟩
instance:Sca sC (fun b=> .val (str b)) := ⟨fun _=>rfl,fun _=>rfl,fun _=>rfl,fun _ _=>rfl⟩
instance:Sca iC (fun b=> .val (.int .i64 b)) := ⟨fun _=>rfl,fun _=>rfl,fun _=>rfl,fun _ _=>rfl⟩
instance:Sca nC (fun b=> .val (nI b)) := ⟨fun _=>rfl,fun _=>rfl,fun _=>rfl,fun _ _=>rfl⟩
instance:Sca oC (fun b=> .val (.bool b)) := ⟨fun _=>rfl,fun _=>rfl,fun _=>rfl,fun _ _=>rfl⟩
instance {α:Type} {f:α→List C} {g:α→C} [h:Sca f g] :Cel f 1:= ⟨fun a=>by rw[h.one];rfl,fun a=>by rw[h.one];simp[h.clean],by decide,fun a r=>by rw[h.one];exact h.live a r⟩
theorem xP (l:List UInt8) :l.map jZ=cl bC l:=by
 unfold cl;induction l with
 |nil=>rfl
 |cons a l ih=>simp only[List.map_cons,ih,List.flatMap_cons];rfl
section
variable {α:Type} {f:α→List C} {s:Nat} [hf:Cel f s]
omit hf in
theorem lL:cl f [] = [] :=rfl
omit hf in
theorem ee (a:α) (l:List α) :cl f (a::l) =f a++cl f l:=rfl
omit hf in
theorem iV (l l':List α) :cl f (l++l') =cl f l++cl f l':=by simp[cl]
theorem co: ∀l:List α,(cl f l).length=l.length*s
 | [] =>by simp[cl]
 |a::l=>by rw[ee,List.length_append,hf.len,co l,List.length_cons,Nat.add_mul,Nat.one_mul,Nat.add_comm]
include hf in
theorem fG: ∀l:List α,(cl f l).map C.noR=cl f l
 | [] =>rfl
 |a::l=>by rw[ee,List.map_append,hf.clean,fG l]
theorem gx: ∀ (l:List α) (k:Nat),(cl f l).drop (k*s) =cl f (l.drop k)
 |l,0=>by simp
 | [],k+1=>by simp[cl]
 |a::l,k+1=>by
  have e: (k+1)*s=s+k*s:=by rw[Nat.add_mul,Nat.one_mul,Nat.add_comm]
  have h: ((f a)++cl f l).drop s=cl f l:=by
   have:=List.drop_left (l₁:=f a) (l₂:=cl f l)
   rwa [hf.len] at this
  rw[ee,e,←List.drop_drop,h,List.drop_succ_cons]
  exact gx l k
theorem jd: ∀ (l:List α) (k:Nat),(cl f l).take (k*s) =cl f (l.take k)
 |l,0=>by simp[cl]
 | [],k+1=>by simp[cl]
 |a::l,k+1=>by
  have e: (k+1)*s=s+k*s:=by rw[Nat.add_mul,Nat.one_mul,Nat.add_comm]
  rw[ee,e,List.take_append,hf.len,List.take_of_length_le (by rw[hf.len];omega),List.take_succ_cons,ee,Nat.add_sub_cancel_left,jd l k]
theorem lM (l:List α) (k:Nat) (a:α) (h:k< l.length) :splice (cl f l) (k*s) (f a) =cl f (l.set k a) :=by
 unfold splice
 rw[jd,hf.len,←Nat.succ_mul,gx,List.set_eq_take_append_cons_drop,if_pos h,iV,ee,List.append_assoc]
theorem Ep (l l':List α) (k:Nat) :splice (cl f l) (k*s) (cl f l') =cl f (l.take k++l'++l.drop (k+l'.length)) :=by
 unfold splice
 rw[jd,co,←Nat.add_mul,gx,iV,iV]
theorem Kw (l:List α) (k:Nat) (a:α) (h:l[k]? =some a) : ((cl f l).drop (k*s)).take s=f a:=by
 rw[gx]
 obtain ⟨hk,rfl⟩ :=List.getElem?_eq_some_iff.1 h
 rw[List.drop_eq_getElem_cons hk,ee,List.take_append,hf.len,Nat.sub_self,List.take_zero,List.append_nil,List.take_of_length_le (by rw[hf.len];exact Nat.le_refl _)]
end
section
variable {α:Type} [Inhabited α] {f:α→List C} {g:α→C} [hf:Sca f g]
theorem Eq (l:List α) (k:Nat) (h:k< l.length) : (cl f l)[k]? =some (g (l.getD k default)) :=by
 have hq:l[k]? =some (l.getD k default) :=by simp[List.getD,List.getElem?_eq_getElem h]
 have:=Kw (f:=f) l k _ hq
 rw[Nat.mul_one,hf.one] at this
 have h2:=congrArg (fun z=>z[0]?) this
 simpa[List.getElem?_take,List.getElem?_drop] using h2
end
theorem GK (x:Option (List C)) (h:Hp) :Hp.at (x::h) 0=cH x:=rfl
theorem Er:cH (some eK) =none:=rfl
theorem GL (v:Value) (r:List C) :cH (some (.val v::r)) =some (.val v::r) :=rfl
theorem MH (f:Nat) (xs r:List C) :cH (some (.fn f xs::r)) =some (.fn f xs::r) :=rfl
theorem GM {α:Type} (f:α→List C) (q:Rt) (l:List α) (r:List C) :cH (some (sl f q l::r)) =some (sl f q l::r) :=rfl
theorem MI {α:Type} (f:α→List C) {s:Nat} [hf:Cel f s] (l:List α) :cH (some (cl f l)) =some (cl f l) :=by
 cases l with
 |nil=>rfl
 |cons a l=>exact hf.live a _
theorem SN {α:Type} (f:α→List C) {s:Nat} [hf:Cel f s] (a:α) :cH (some (f a)) =some (f a) :=by
 have:=hf.live a []
 simpa using this
theorem qZ {α:Type} (f:α→List C) {s:Nat} [hf:Cel f s] (l:List α) (r:List C) (h:cH (some r) =some r) :cH (some (cl f l++r)) =some (cl f l++r) :=by
 cases l with
 |nil=>exact h
 |cons a l=>rw[ee,List.append_assoc];exact hf.live a _
theorem GN (x:Option (List C)) (h:Hp) (n:Nat) :Hp.at (x::h) (n+1) =Hp.at h n:=by simp[Hp.at]
def eJ (cells:List C) (o:Nat) :Option C:= (cells[o]?).map C.noR
def kh (cells:List C) (o n:Nat) :Option C:=if o+n≤cells.length then some (.agg (((cells.drop o).take n).map C.noR)) else none
def fm (cells:List C) (o:Nat) (cs:List C) :Option (List C×C) :=if o+cs.length≤cells.length then some (splice cells o cs,.val undef) else none
def Es (cells:List C) (o:Nat) (c:C) :Option (List C×C) :=if o< cells.length then some (cells.set o c,.val undef) else none
theorem uu (c:C) (l:List C) :eJ (c::l) 0=some c.noR:=rfl
theorem Et (c:C) (l:List C) (n:Nat) :eJ (c::l) (n+1) =eJ l n:=by simp[eJ]
theorem nu (l:List C) (k n:Nat) :eJ (l.drop k) n=eJ l (k+n) :=by simp[eJ,List.getElem?_drop]
theorem sy {α:Type} [Inhabited α] {f:α→List C} {g:α→C} [hf:Sca f g] (l:List α) (k:Nat) (h:k< l.length) :eJ (cl f l) k=some (g (l.getD k default)) :=by
 simp only[eJ,Eq (f:=f) l k h,Option.map_some,hf.clean]
theorem MJ {α:Type} [Inhabited α] {f:α→List C} {g:α→C} [hf:Sca f g] (l:List α) (r:List C) (k:Nat) (h:k< l.length) :eJ (cl f l++r) k=some (g (l.getD k default)) :=by
 rw[←sy (f:=f) l k h]
 simp only[eJ]
 rw[List.getElem?_append_left (by rw[co (f:=f)];omega)]
theorem zo {α:Type} {f:α→List C} {s:Nat} [hf:Cel f s] (l:List α) (r:List C) (k:Nat) (h:l.length*s≤k) :eJ (cl f l++r) k=eJ r (k - l.length*s) :=by
 simp only[eJ]
 rw[List.getElem?_append_right (by rw[co (f:=f)];exact h),co (f:=f)]
theorem MK {α:Type} {f:α→List C} {s:Nat} [hf:Cel f s] (l:List α) (r:List C) (n:Nat) (h:l.length*s=n) :kh (cl f l++r) 0 n=some (.agg (cl f l)) :=by
 subst h
 simp only[kh,Nat.zero_add,List.length_append,co (f:=f),Nat.le_add_right,if_true,List.drop_zero]
 rw[←co (f:=f) l,List.take_left,fG]
theorem ML {α:Type} [Inhabited α] {f:α→List C} {s:Nat} [hf:Cel f s] (l:List α) (k:Nat) (h:k< l.length) :kh (cl f l) (k*s) s=some (.agg (f (l.getD k default))) :=by
 have hq:l[k]? =some (l.getD k default) :=by simp[List.getD,List.getElem?_eq_getElem h]
 simp only[kh]
 rw[if_pos (by rw[co (f:=f),←Nat.succ_mul];exact Nat.mul_le_mul_right _ h),Kw (f:=f) l k _ hq,hf.clean]
theorem Eu {α:Type} {f:α→List C} {g:α→C} [hf:Sca f g] (l:List α) (k:Nat) (a:α) (h:k< l.length) :fm (cl f l) k [g a] =some (cl f (l.set k a),.val undef) :=by
 have:=lM (f:=f) l k a h
 rw[Nat.mul_one,hf.one] at this
 simp only[fm]
 rw[if_pos (by rw[co (f:=f)];simp;omega),this]
theorem qB (x r cs:List C) (o:Nat) (h:o+cs.length≤x.length) :splice (x++r) o cs=splice x o cs++r:=by
 unfold splice
 rw[List.take_append_of_le_length (by omega),List.drop_append_of_le_length h]
 simp
theorem qC (x r cs:List C) (o:Nat) (h:x.length≤o) :splice (x++r) o cs=x++splice r (o - x.length) cs:=by
 unfold splice
 rw[List.take_append,List.take_of_length_le h,List.drop_append,List.drop_of_length_le (by omega)]
 simp
 congr 1;omega
theorem zp {α:Type} {f:α→List C} {s:Nat} [hf:Cel f s] (l:List α) (r cs:List C) (o:Nat) (h:l.length*s≤o) :fm (cl f l++r) o cs= (fm r (o - l.length*s) cs).map fun q=> (cl f l++q.1,q.2) :=by
 have hl:=co (f:=f) l
 simp only[fm,List.length_append,hl]
 rw[qC _ _ _ _ (by rw[hl];exact h),hl]
 by_cases hh:o+cs.length≤l.length*s+r.length
 · rw[if_pos hh,if_pos (by omega)];rfl
 · rw[if_neg hh,if_neg (by omega)];rfl
theorem zq {α:Type} {f:α→List C} {s:Nat} [hf:Cel f s] (l l':List α) (h:l'.length=l.length) :fm (cl f l) 0 (cl f l') =some (cl f l',.val undef) :=by
 simp only[fm,co (f:=f),h,Nat.zero_add,Nat.le_refl,if_true,splice,List.take_zero,List.nil_append]
 rw[List.drop_of_length_le (by rw[co (f:=f)];exact Nat.le_refl _),List.append_nil]
theorem GO {α:Type} {f:α→List C} {s:Nat} [hf:Cel f s] (l l':List α) (r:List C) (h:l'.length=l.length) :fm (cl f l++r) 0 (cl f l') =some (cl f l'++r,.val undef) :=by
 have hl:=co (f:=f) l
 have hl':=co (f:=f) l'
 have:=zq (f:=f) l l' h
 simp only[fm,List.length_append,hl,hl',h,Nat.zero_add,Nat.le_refl,Nat.le_add_right,if_true] at this ⊢
 rw[qB _ _ _ _ (by rw[hl,hl',h,Nat.zero_add];exact Nat.le_refl _)]
 simp only[Option.some.injEq,Prod.mk.injEq,and_true] at this
 rw[this]
theorem MM (a c:C) :Es [a] 0 c=some ([c],.val undef) :=rfl
end Go.Sx
namespace Go.Sx
open Go.RowKit
theorem kT (n:Int) :IntKind.wrap .u8 n=n % 256:=by simp[IntKind.wrap,IntKind.bits,IntKind.signed]
theorem nv (n:Int) :IntKind.wrap .u32 n=n % 4294967296:=by simp[IntKind.wrap,IntKind.bits,IntKind.signed]
theorem i2 (n:Int) :IntKind.wrap .u64 n=n % 18446744073709551616:=by simp[IntKind.wrap,IntKind.bits,IntKind.signed]
theorem ff (n:Int) (h: -9223372036854775808≤n) (h2:n< 9223372036854775808) :IntKind.wrap .i64 n=n:=by
 have e:IntKind.wrap .i64 n=if n % 18446744073709551616≥9223372036854775808 then n % 18446744073709551616 - 18446744073709551616 else n % 18446744073709551616:=by
  simp[IntKind.wrap,IntKind.bits,IntKind.signed]
 rw[e]
 split<;>omega
theorem nw (z:BitVec 32) :IntKind.wrap .u32 (z.toNat:Int) =z.toNat:=by rw[nv];have:=z.isLt;omega
theorem iq (z:BitVec 32) :BitVec.ofInt 32 (z.toNat:Int) =z:=by simp
theorem MN (n:Nat) (h:n< 4294967296) :Value.int .u32 (n:Int) =cA (BitVec.ofNat 32 n) :=by
 simp only[cA,BitVec.toNat_ofNat];rw[Nat.mod_eq_of_lt (by simpa using h)]
theorem GP (n:Nat) (h:n< 4294967296) :Value.int .u32 (no_index (OfNat.ofNat n:Int)) =cA (BitVec.ofNat 32 n) :=MN n h
theorem MO (n:Nat) (h:n< 256) :Value.int .u8 (no_index (OfNat.ofNat n:Int)) =w8 (UInt8.ofNat n) :=by
 simp only[w8,UInt8.toNat_ofNat'];rw[Nat.mod_eq_of_lt (by simpa using h)];rfl
theorem MP (n:Nat) :Value.int .i64 (no_index (OfNat.ofNat n:Int)) =nI n:=rfl
theorem MQ (n:Nat) :Value.int .u64 (no_index (OfNat.ofNat n:Int)) =nU n:=rfl
section
variable (P:Program) (t:TypeId)
theorem cC (op:BinOp) (k k':IntKind) (a b:Int) :aV P op t (.val (.int k a)) (.val (.int k' b)) = (cX op (.int k a) (.int k' b)).map fun v=>vp (.val v) :=by
 unfold aV;cases td P t<;>rfl
theorem kU (op:BinOp) (a b:ByteArray) :aV P op t (.val (.string a)) (.val (.string b)) = (cX op (.string a) (.string b)).map fun v=>vp (.val v) :=by
 unfold aV;cases td P t<;>rfl
def GQ (op:BinOp) (d:Option TD) (a b:Bool) (p:Option Plan) :Option Plan:=match d with
 |some d=> (match d.u with
  | .bool=> (match op with
    | .eql=>some (vp (.val (.bool (a==b))))
    | .neq=>some (vp (.val (.bool (!(a==b)))))
    |_=>none)
  |_=>none)
 |none=>p
theorem GR (op:BinOp) (a b:Bool) :aV P op t (.val (.bool a)) (.val (.bool b)) =GQ op (td P t) a b (gq P op t (.val (.bool a)) (.val (.bool b))) :=by
 unfold aV GQ
 cases td P t with
 |none=>rfl
 |some d=>
  simp only[]
  cases d.u<;>first|rfl| (cases op<;>rfl)
theorem GS (s y:Nat) (z:List Value) (a b:Bool) (p:Option Plan) :GQ .eql (some ⟨.bool,s,y,z⟩) a b p=some (vp (.val (.bool (a==b)))) :=rfl
theorem W8 (x y:BitVec 32) :aV P .add t (.val (cA x)) (.val (cA y)) =some (vp (.val (cA (x+y)))) :=by
 simp only[cA,cC,cX,ne_eq,not_true_eq_false,if_false,Option.map_some,nv,BitVec.toNat_add];simp
theorem W9 (x y:BitVec 32) :aV P .xor t (.val (cA x)) (.val (cA y)) =some (vp (.val (cA (x ^^^ y)))) :=by
 simp only[cA,cC]
 show some (vp (.val (.int .u32 (IntKind.wrap .u32 ((BitVec.ofInt 32 (x.toNat:Int) ^^^ BitVec.ofInt 32 (y.toNat:Int)).toNat:Int))))) =_
 rw[iq,iq,nw]
theorem Xa (x y:BitVec 32) :aV P .and t (.val (cA x)) (.val (cA y)) =some (vp (.val (cA (x &&& y)))) :=by
 simp only[cA,cC]
 show some (vp (.val (.int .u32 (IntKind.wrap .u32 ((BitVec.ofInt 32 (x.toNat:Int) &&& BitVec.ofInt 32 (y.toNat:Int)).toNat:Int))))) =_
 rw[iq,iq,nw]
theorem aaV (x y:BitVec 32) :aV P .or t (.val (cA x)) (.val (cA y)) =some (vp (.val (cA (x|||y)))) :=by
 simp only[cA,cC]
 show some (vp (.val (.int .u32 (IntKind.wrap .u32 ((BitVec.ofInt 32 (x.toNat:Int) |||BitVec.ofInt 32 (y.toNat:Int)).toNat:Int))))) =_
 rw[iq,iq,nw]
theorem Xb (x:BitVec 32) :gS .xor (.val (cA x)) =some (vp (.val (cA (~~~x)))) :=by
 show some (vp (.val (.int .u32 (IntKind.wrap .u32 ((BitVec.ofInt 32 4294967295 ^^^ BitVec.ofInt 32 (x.toNat:Int)).toNat:Int))))) =_
 have e:BitVec.ofInt 32 4294967295=BitVec.allOnes 32:=by decide
 rw[iq,e,BitVec.allOnes_xor,nw]
 rfl
theorem Kx (x:BitVec 32) (k:IntKind) (n:Nat) :aV P .shl t (.val (cA x)) (.val (.int k n)) =some (vp (.val (cA (x<<< n)))) :=by
 rw[cA,cC]
 have e:cX .shl (.int .u32 (x.toNat:Int)) (.int k (n:Int)) =some (.int .u32 (IntKind.wrap .u32 ((x.toNat:Int)*2 ^ (min n 32)))) :=by
  show (if (n:Int) < 0 then none else _) =_
  rw[if_neg (by omega)]
  rfl
 rw[e,nv,cA,BitVec.toNat_shiftLeft,Nat.shiftLeft_eq]
 show some (vp (.val _)) =_
 congr 4
 have ep: ∀m:Nat,(x.toNat:Int)*2 ^ m= ((x.toNat*2 ^ m:Nat) :Int) :=fun m=>by rw[Int.natCast_mul,Int.natCast_pow];rfl
 by_cases h:n≤32
 · rw[Nat.min_eq_left h,ep];exact (Int.natCast_emod _ 4294967296).symm
 · rw[Nat.min_eq_right (by omega)]
   obtain ⟨m,rfl⟩ : ∃m,n=32+m:= ⟨n - 32,by omega⟩
   rw[Nat.pow_add,←Nat.mul_assoc,Nat.mul_right_comm,Nat.mul_mod_left]
   omega
theorem Ky (x:BitVec 32) (k:IntKind) (n:Nat) :aV P .shr t (.val (cA x)) (.val (.int k n)) =some (vp (.val (cA (x>>>n)))) :=by
 rw[cA,cC]
 have e:cX .shr (.int .u32 (x.toNat:Int)) (.int k (n:Int)) =some (.int .u32 ((x.toNat:Int).fdiv (2 ^ (min n 32)))) :=by
  show (if (n:Int) < 0 then none else _) =_
  rw[if_neg (by omega)]
  rfl
 rw[e,cA,BitVec.toNat_ushiftRight,Nat.shiftRight_eq_div_pow]
 show some (vp (.val _)) =_
 congr 4
 have hx:=x.isLt
 by_cases h:n≤32
 · rw[Nat.min_eq_left h,Int.fdiv_eq_ediv_of_nonneg _ (Int.le_of_lt (Int.pow_pos (by decide)))]
   have ep: (2:Int) ^ n= ((2 ^ n:Nat) :Int) :=by rw[Int.natCast_pow];rfl
   rw[ep,←Int.natCast_ediv]
 · rw[Nat.min_eq_right (by omega),Nat.div_eq_of_lt (Nat.lt_of_lt_of_le hx (Nat.pow_le_pow_right (by omega) (by omega)))]
   rw[Int.fdiv_eq_ediv_of_nonneg _ (by omega)];omega
end
end Go.Sx
namespace Go.Sx
open Go.RowKit
theorem MR (z:UInt8) :IntKind.wrap .u8 (z.toNat:Int) =z.toNat:=by rw[kT];have:=z.toNat_lt;omega
theorem xQ (z:UInt8) :BitVec.ofInt 8 (z.toNat:Int) =z.toBitVec:=by
 apply BitVec.eq_of_toNat_eq;simp
section
variable (P:Program) (t:TypeId)
theorem Xc (x y:UInt8) :aV P .xor t (.val (w8 x)) (.val (w8 y)) =some (vp (.val (w8 (x ^^^ y)))) :=by
 simp only[w8,cC]
 show some (vp (.val (.int .u8 (IntKind.wrap .u8 ((BitVec.ofInt 8 (x.toNat:Int) ^^^ BitVec.ofInt 8 (y.toNat:Int)).toNat:Int))))) =_
 rw[xQ,xQ]
 show some (vp (.val (.int .u8 (IntKind.wrap .u8 ((x ^^^ y).toNat:Int))))) =_
 rw[MR]
theorem Xd (x y:UInt8) :aV P .sub t (.val (w8 x)) (.val (w8 y)) =some (vp (.val (w8 (x - y)))) :=by
 simp only[w8,cC,cX,ne_eq,not_true_eq_false,if_false,Option.map_some,kT,UInt8.toNat_sub]
 have:=x.toNat_lt;have:=y.toNat_lt
 congr 4;omega
theorem Xe (x y:Nat) (h:x+y< 9223372036854775808) :aV P .add t (.val (nI x)) (.val (nI y)) =some (vp (.val (nI (x+y)))) :=by
 simp only[nI,cC,cX,ne_eq,not_true_eq_false,if_false,Option.map_some]
 rw[ff _ (by omega) (by omega)];simp
theorem Xf (x y:Nat) (h:y≤x∧x< 9223372036854775808) :aV P .sub t (.val (nI x)) (.val (nI y)) =some (vp (.val (nI (x - y)))) :=by
 simp only[nI,cC,cX,ne_eq,not_true_eq_false,if_false,Option.map_some]
 rw[ff _ (by omega) (by omega)];congr 4;omega
theorem Xg (x y:Nat) (h:x*y< 9223372036854775808) :aV P .mul t (.val (nI x)) (.val (nI y)) =some (vp (.val (nI (x*y)))) :=by
 have e: (x:Int)*(y:Int) = ((x*y:Nat) :Int) :=by simp
 simp only[nI,cC,cX,ne_eq,not_true_eq_false,if_false,Option.map_some]
 rw[e,ff _ (by omega) (by omega)]
theorem Xh (x y:Nat) (h:0< y∧x< 9223372036854775808) :aV P .quo t (.val (nI x)) (.val (nI y)) =some (vp (.val (nI (x / y)))) :=by
 have hy: (y:Int)≠0:=by omega
 have h2:x / y≤x:=Nat.div_le_self ..
 simp only[nI,cC,cX,ne_eq,not_true_eq_false,if_false,Option.map_some,hy]
 have e: ((x:Int).tdiv (y:Int)) = ((x / y:Nat) :Int) :=rfl
 rw[e]
 generalize x / y=q at h2
 rw[ff _ (by omega) (by omega)]
theorem Xi (x y:Nat) (h:0< y) :aV P .rem t (.val (nI x)) (.val (nI y)) =some (vp (.val (nI (x % y)))) :=by
 have hy: (y:Int)≠0:=by omega
 simp only[nI,cC,cX,ne_eq,not_true_eq_false,if_false,Option.map_some,hy]
 rfl
theorem Xj (x y:Nat) :aV P .eql t (.val (nI x)) (.val (nI y)) =some (vp (.val (.bool (decide (x=y))))) :=by
 simp only[nI,cC,cX,ne_eq,not_true_eq_false,if_false,Option.map_some]
 congr 4;rw[Bool.eq_iff_iff];simp;omega
theorem Xk (x y:Nat) :aV P .neq t (.val (nI x)) (.val (nI y)) =some (vp (.val (.bool (decide (x≠y))))) :=by
 simp only[nI,cC,cX,ne_eq,not_true_eq_false,if_false,Option.map_some]
 congr 4;rw[Bool.eq_iff_iff];simp;omega
theorem Xl (x y:Nat) :aV P .lss t (.val (nI x)) (.val (nI y)) =some (vp (.val (.bool (decide (x< y))))) :=by
 simp only[nI,cC,cX,ne_eq,not_true_eq_false,if_false,Option.map_some]
 congr 4;rw[Bool.eq_iff_iff];simp
theorem Xm (x y:Nat) :aV P .leq t (.val (nI x)) (.val (nI y)) =some (vp (.val (.bool (decide (x≤y))))) :=by
 simp only[nI,cC,cX,ne_eq,not_true_eq_false,if_false,Option.map_some]
 congr 4;rw[Bool.eq_iff_iff];simp
theorem Xn (x y:Nat) :aV P .gtr t (.val (nI x)) (.val (nI y)) =some (vp (.val (.bool (decide (y< x))))) :=by
 simp only[nI,cC,cX,ne_eq,not_true_eq_false,if_false,Option.map_some]
 congr 4;rw[Bool.eq_iff_iff];simp
theorem Xo (x y:Nat) :aV P .geq t (.val (nI x)) (.val (nI y)) =some (vp (.val (.bool (decide (y≤x))))) :=by
 simp only[nI,cC,cX,ne_eq,not_true_eq_false,if_false,Option.map_some]
 congr 4;rw[Bool.eq_iff_iff];simp
theorem Xp (x y:Nat) (h:x+y< 18446744073709551616) :aV P .add t (.val (nU x)) (.val (nU y)) =some (vp (.val (nU (x+y)))) :=by
 simp only[nU,cC,cX,ne_eq,not_true_eq_false,if_false,Option.map_some,i2]
 congr 4;omega
theorem Xq (x y:Nat) (h:y≤x∧x< 18446744073709551616) :aV P .sub t (.val (nU x)) (.val (nU y)) =some (vp (.val (nU (x - y)))) :=by
 simp only[nU,cC,cX,ne_eq,not_true_eq_false,if_false,Option.map_some,i2]
 congr 4;omega
theorem Xr (x y:Nat) (h:x*y< 18446744073709551616) :aV P .mul t (.val (nU x)) (.val (nU y)) =some (vp (.val (nU (x*y)))) :=by
 have e: (x:Int)*(y:Int) = ((x*y:Nat) :Int) :=by simp
 simp only[nU,cC,cX,ne_eq,not_true_eq_false,if_false,Option.map_some,i2]
 rw[e];congr 4;omega
theorem Xs (x y:Nat) (h:0< y) :aV P .rem t (.val (nU x)) (.val (nU y)) =some (vp (.val (nU (x % y)))) :=by
 have hy: (y:Int)≠0:=by omega
 simp only[nU,cC,cX,ne_eq,not_true_eq_false,if_false,Option.map_some,hy]
 rfl
theorem Xt (x y:Nat) (h:x< 18446744073709551616∧y< 18446744073709551616) :aV P .and t (.val (nU x)) (.val (nU y)) =some (vp (.val (nU (x &&& y)))) :=by
 simp only[nU,cC]
 show some (vp (.val (.int .u64 (IntKind.wrap .u64 ((BitVec.ofInt 64 (x:Int) &&& BitVec.ofInt 64 (y:Int)).toNat:Int))))) =_
 rw[BitVec.ofInt_natCast,BitVec.ofInt_natCast,BitVec.toNat_and,BitVec.toNat_ofNat,BitVec.toNat_ofNat,Nat.mod_eq_of_lt h.1,Nat.mod_eq_of_lt h.2,i2]
 have:x &&& y≤x:=Nat.and_le_left
 congr 4;omega
theorem Kz (x n:Nat) (k:IntKind) (h:x< 18446744073709551616) :aV P .shr t (.val (nU x)) (.val (.int k n)) =some (vp (.val (nU (x>>>n)))) :=by
 rw[nU,cC]
 have e:cX .shr (.int .u64 (x:Int)) (.int k (n:Int)) =some (.int .u64 ((x:Int).fdiv (2 ^ (min n 64)))) :=by
  show (if (n:Int) < 0 then none else _) =_
  rw[if_neg (by omega)]
  rfl
 rw[e,nU,Nat.shiftRight_eq_div_pow]
 show some (vp (.val _)) =_
 congr 4
 by_cases h:n≤64
 · rw[Nat.min_eq_left h,Int.fdiv_eq_ediv_of_nonneg _ (Int.le_of_lt (Int.pow_pos (by decide)))]
   have ep: (2:Int) ^ n= ((2 ^ n:Nat) :Int) :=by rw[Int.natCast_pow];rfl
   rw[ep,←Int.natCast_ediv]
 · rename_i hx
   rw[Nat.min_eq_right (by omega),Nat.div_eq_of_lt (Nat.lt_of_lt_of_le hx (by
    have: (2:Nat) ^ 64≤2 ^ n:=Nat.pow_le_pow_right (by omega) (by omega)
    omega))]
   rw[Int.fdiv_eq_ediv_of_nonneg _ (by omega)];omega
theorem Ew (x n:Nat) (h:x< 18446744073709551616) :aV P .shr t (.val (nU x)) (.val (nI n)) =some (vp (.val (nU (x>>>n)))) :=Kz P t x n .i64 h
theorem SO (x n:Nat) (h:x< 18446744073709551616) :aV P .shr t (.val (nU x)) (.val (nU n)) =some (vp (.val (nU (x>>>n)))) :=Kz P t x n .u64 h
theorem SP (x:BitVec 32) (n:Nat) :aV P .shl t (.val (cA x)) (.val (nI n)) =some (vp (.val (cA (x<<< n)))) :=Kx P t x .i64 n
theorem SQ (x:BitVec 32) (n:Nat) :aV P .shl t (.val (cA x)) (.val (nU n)) =some (vp (.val (cA (x<<< n)))) :=Kx P t x .u64 n
theorem SS (x:BitVec 32) (n:Nat) :aV P .shr t (.val (cA x)) (.val (nI n)) =some (vp (.val (cA (x>>>n)))) :=Ky P t x .i64 n
theorem ST (x:BitVec 32) (n:Nat) :aV P .shr t (.val (cA x)) (.val (nU n)) =some (vp (.val (cA (x>>>n)))) :=Ky P t x .u64 n
theorem jM (l:List UInt8) : (⟨l.toArray⟩ :ByteArray).size=l.length:=by simp[ByteArray.size]
theorem kj (l:List UInt8) : (⟨l.toArray⟩ :ByteArray).toList=l:=by
 have key: ∀ (n:Nat) (i:Nat) (r:List UInt8),l.length - i=n→i≤l.length→ByteArray.toList.loop ⟨l.toArray⟩ i r=r.reverse++l.drop i:=by
  intro n
  induction n with
  |zero=>
   intro i r h hi
   rw[ByteArray.toList.loop,jM,if_neg (by omega),List.drop_of_length_le (by omega),List.append_nil]
  |succ n ih=>
   intro i r h hi
   rw[ByteArray.toList.loop,jM,if_pos (by omega),ih _ _ (by omega) (by omega)]
   have hlt:i< l.length:=by omega
   rw[List.drop_eq_getElem_cons hlt]
   simp[ByteArray.get!,hlt]
 have:=key l.length 0 [] rfl (Nat.zero_le _)
 simpa[ByteArray.toList] using this
theorem Xu (x y:List UInt8) :aV P .eql t (.val (str x)) (.val (str y)) =some (vp (.val (.bool (decide (x=y))))) :=by
 simp only[str,kU,cX,kj,Option.map_some]
 congr 4
 rw[Bool.eq_iff_iff];simp
theorem Xv (x y:List UInt8) :aV P .neq t (.val (str x)) (.val (str y)) =some (vp (.val (.bool (decide (x≠y))))) :=by
 simp only[str,kU,cX,kj,Option.map_some]
 congr 4
 by_cases h:x=y<;>simp[h]
theorem Xw (x y:List UInt8) (h:x.length+y.length< 9223372036854775808) :aV P .add t (.val (str x)) (.val (str y)) =some (vp (.val (str (x++y)))) :=by
 simp only[str,kU,cX,jM]
 rw[if_pos (by omega)]
 simp only[Option.map_some]
 congr 4
theorem KA (x y:List UInt8) :aV P .lss t (.val (str x)) (.val (str y)) =some (vp (.val (.bool (Op.bytesLess x y)))) :=by
 simp only[str,kU,cX,kj,Option.map_some]
end
end Go.Sx
namespace Go.Sx
open Go.RowKit
def gt {α:Type} [Inhabited α] (l:List α) (k:Nat) :α:=l.getD k default
def mN (P:Program) (s d:Option TD) (c:C) :Option Plan:=match s,d with
 |some ds,some dd=>
  match ds.u,dd.u,c with
  |_,.int k,.val (.int _ n) =>some (.pure (.val (.int k (k.wrap n))))
  |_,.string,.val (.string s) =>some (.pure (.val (.string s)))
  | .string,.slice e,.val (.string s) =>match td P e with
    |some de=> (match de.u with
     | .int .u8=>if s.size≤140737488355328 then some (.pure (.sl .no s.size (s.data.toList.map jZ))) else none
     |_=>none)
    |none=>none
  | .slice e,.string,c=>match td P e with
    |some de=> (match de.u with
     | .int .u8=> (match c with
       | .sv b off n=>some (.rd b fun cells=>if off+n≤cells.length then (fF ((cells.drop off).take n)).map fun ns=> .val (.string (lX ns)) else none)
       |c=>match c.sl? with
        |some (n,xs) =>if xs.length=n then (fF xs).map fun ns=> .pure (.val (.string (lX ns))) else none
        |none=>none)
     |_=>none)
    |none=>none
  |_,_,_=>none
 |_,_=>none
theorem MS (P:Program) (s d:TypeId) (c:C) :fY P s d c=mN P (td P s) (td P d) c:=rfl
section
variable (P:Program) (u1:TypeDesc) (a1 b1 a2 b2 a3 b3:Nat) (z1 z2 z3:List Value)
theorem kn (k k':IntKind) (n:Int) :mN P (some ⟨u1,a1,b1,z1⟩) (some ⟨.int k,a2,b2,z2⟩) (.val (.int k' n)) =some (vp (.val (.int k (k.wrap n)))) :=by
 cases u1<;>rfl
theorem GT (x:UInt8) :mN P (some ⟨u1,a1,b1,z1⟩) (some ⟨.int .u32,a2,b2,z2⟩) (.val (w8 x)) =some (vp (.val (cA (x.toBitVec.setWidth 32)))) :=by
 rw[w8,kn,nv,cA]
 have:=x.toNat_lt
 congr 4;simp;omega
theorem MT (n:Nat) (h:n< 18446744073709551616) :mN P (some ⟨u1,a1,b1,z1⟩) (some ⟨.int .u64,a2,b2,z2⟩) (.val (nI n)) =some (vp (.val (nU n))) :=by
 rw[nI,kn,nU,i2];congr 4;omega
theorem MU (n:Nat) (h:n< 9223372036854775808) :mN P (some ⟨u1,a1,b1,z1⟩) (some ⟨.int .i64,a2,b2,z2⟩) (.val (nU n)) =some (vp (.val (nI n))) :=by
 rw[nU,kn,nI,ff _ (by omega) (by omega)]
theorem GU (x:BitVec 32) :mN P (some ⟨u1,a1,b1,z1⟩) (some ⟨.int .u8,a2,b2,z2⟩) (.val (cA x)) =some (vp (.val (w8 ⟨x.setWidth 8⟩))) :=by
 rw[cA,kn,kT,w8]
 have: (UInt8.ofBitVec (x.setWidth 8)).toNat=x.toNat % 256:=by simp[UInt8.toNat]
 rw[this];rfl
theorem GV (n:Nat) :mN P (some ⟨u1,a1,b1,z1⟩) (some ⟨.int .u8,a2,b2,z2⟩) (.val (nU n)) =some (vp (.val (w8 (UInt8.ofNat n)))) :=by
 rw[nU,kn,kT,w8,UInt8.toNat_ofNat'];rfl
theorem SU (n:Nat) :mN P (some ⟨u1,a1,b1,z1⟩) (some ⟨.int .u8,a2,b2,z2⟩) (.val (nI n)) =some (vp (.val (w8 (UInt8.ofNat n)))) :=by
 rw[nI,kn,kT,w8,UInt8.toNat_ofNat'];rfl
theorem SV (n:Int) :mN P (some ⟨u1,a1,b1,z1⟩) (some ⟨.int .u8,a2,b2,z2⟩) (.val (.int .i64 n)) =some (vp (.val (w8 (UInt8.ofNat (n % 256).toNat)))) :=by
 rw[kn,kT,w8,UInt8.toNat_ofNat'];congr 4;omega
def KB (de:Option TD) (l:List UInt8) :Option Plan:=match de with
 |some de=> (match de.u with
  | .int .u8=>if l.length≤140737488355328 then some (vp (sl bC .no l)) else none
  |_=>none)
 |none=>none
theorem Xx (e:TypeId) (l:List UInt8) :mN P (some ⟨.string,a1,b1,z1⟩) (some ⟨.slice e,a2,b2,z2⟩) (.val (str l)) =KB (td P e) l:=by
 unfold KB
 show (match td P e with|some de=>_|none=>none) =_
 cases td P e with
 |none=>rfl
 |some de=>
  simp only[]
  split<;>simp_all [jM,sl,xP,Mi]
theorem SW (l:List UInt8) (h:l.length≤140737488355328) :KB (some ⟨.int .u8,a3,b3,z3⟩) l=some (vp (sl bC .no l)) :=by
 unfold KB;simp only[];rw[if_pos h]
theorem Ey (l:List UInt8) :fF (cl bC l) =some (l.map fun b=> (b.toNat:Int)) :=by
 induction l with
 |nil=>rfl
 |cons a l ih=>
  show fF (.val (.int .u8 _) ::cl bC l) =_
  simp only[fF,ih,Option.map_some,List.map_cons]
theorem uv (l:List UInt8) : (Value.string (lX (l.map fun b=> (b.toNat:Int)))) =str l:=by
 unfold lX str
 rw[List.map_map]
 have: (fun n:Int=>UInt8.ofNat n.toNat) ∘ (fun b:UInt8=> (b.toNat:Int)) =id:=by
  funext b;simp
 rw[this,List.map_id]
def SX (de:Option TD) (_r:Rt) (l:List UInt8) :Option Plan:=match de with
 |some de=> (match de.u with
  | .int .u8=>some (vp (.val (str l)))
  |_=>none)
 |none=>none
theorem Xy (e:TypeId) (r:Rt) (l:List UInt8) :mN P (some ⟨.slice e,a1,b1,z1⟩) (some ⟨.string,a2,b2,z2⟩) (sl bC r l) =SX (td P e) r l:=by
 unfold SX
 show (match td P e with|some de=>_|none=>none) =_
 cases td P e with
 |none=>rfl
 |some de=>
  simp only[]
  split
  · simp only[sl,C.sl?]
    rw[if_pos (by rw[co (f:=bC)];omega),Ey]
    simp only[Option.map_some,uv];rfl
  · rfl
theorem SY (r:Rt) (l:List UInt8) :SX (some ⟨.int .u8,a3,b3,z3⟩) r l=some (vp (.val (str l))) :=rfl
def SZ (de:Option TD) (b off n:Nat) :Option Plan:=match de with
 |some de=> (match de.u with
  | .int .u8=>some (.rd b fun cells=>if off+n≤cells.length then (fF ((cells.drop off).take n)).map fun ns=> .val (.string (lX ns)) else none)
  |_=>none)
 |none=>none
def S7 (cells:List C) (o n:Nat) :Option C:=if o+n≤cells.length then (fF ((cells.drop o).take n)).map fun ns=> .val (.string (lX ns)) else none
theorem Xz (e:TypeId) (b off n:Nat) :mN P (some ⟨.slice e,a1,b1,z1⟩) (some ⟨.string,a2,b2,z2⟩) (.sv b off n) =SZ (td P e) b off n:=by
 unfold SZ
 show (match td P e with|some de=>_|none=>none) =_
 cases td P e with
 |none=>rfl
 |some de=>rfl
theorem S9 (b off n:Nat) :SZ (some ⟨.int .u8,a3,b3,z3⟩) b off n=some (.rd b fun cells=>S7 cells off n) :=rfl
theorem Ta (l:List UInt8) (o n:Nat) (h:o+n≤l.length) :S7 (cl bC l) o n=some (.val (str ((l.drop o).take n))) :=by
 have e1:=gx (f:=bC) l o
 have e2:=jd (f:=bC) (l.drop o) n
 rw[Nat.mul_one] at e1 e2
 simp only[S7]
 rw[if_pos (by rw[co (f:=bC)];omega),e1,e2,Ey,Option.map_some,uv]
def sz (own:Bool) (t:Option TD) (b o:Nat) :Option Plan:=match t with
 |none=>none
 |some d=>if own∧d.isAgg=false then some (.xr b o) else some (.rd b fun cells=>dH d cells o)
theorem MV (own:Bool) (t:TypeId) (b o:Nat) :loadPlan P own t (.bp b o) =sz own (td P t) b o:=by
 unfold loadPlan sz;cases td P t<;>rfl
theorem MW (k:IntKind) (b o:Nat) :sz false (some ⟨.int k,a1,b1,z1⟩) b o=some (.rd b fun cells=>eJ cells o) :=rfl
theorem GX (b o:Nat) :sz false (some ⟨.bool,a1,b1,z1⟩) b o=some (.rd b fun cells=>eJ cells o) :=rfl
theorem MX (b o:Nat) :sz false (some ⟨.string,a1,b1,z1⟩) b o=some (.rd b fun cells=>eJ cells o) :=rfl
theorem Tb (e:TypeId) (b o:Nat) :sz false (some ⟨.slice e,a1,b1,z1⟩) b o=some (.rd b fun cells=>eJ cells o) :=rfl
theorem MY (e:TypeId) (b o:Nat) :sz true (some ⟨.slice e,a1,b1,z1⟩) b o=some (.xr b o) :=rfl
theorem MZ (own:Bool) (n:Nat) (e:TypeId) (b o:Nat) :sz own (some ⟨.array n e,a1,b1,z1⟩) b o=some (.rd b fun cells=>kh cells o a1) :=by cases own<;>rfl
theorem Bs (own:Bool) (fs:Array Field) (b o:Nat) :sz own (some ⟨.struct fs,a1,b1,z1⟩) b o=some (.rd b fun cells=>kh cells o a1) :=by cases own<;>rfl
def uw (t:Option TD) (xs:List C) :Option Plan:=match t with
 |none=>none
 |some d=> (dH d xs 0).map vp
theorem Na (own:Bool) (t:TypeId) (xs:List C) :loadPlan P own t (.kp xs) =uw (td P t) xs:=by
 unfold loadPlan uw;cases td P t<;>rfl
theorem Nb (k:IntKind) (xs:List C) :uw (some ⟨.int k,a1,b1,z1⟩) xs= (eJ xs 0).map vp:=rfl
theorem Nc (xs:List C) :uw (some ⟨.string,a1,b1,z1⟩) xs= (eJ xs 0).map vp:=rfl
theorem Tc (e:TypeId) (xs:List C) :uw (some ⟨.slice e,a1,b1,z1⟩) xs= (eJ xs 0).map vp:=rfl
theorem Nd (n:Nat) (e:TypeId) (xs:List C) :uw (some ⟨.array n e,a1,b1,z1⟩) xs= (kh xs 0 a1).map vp:=rfl
theorem Bt (fs:Array Field) (xs:List C) :uw (some ⟨.struct fs,a1,b1,z1⟩) xs= (kh xs 0 a1).map vp:=rfl
def sA (t:Option TD) (b o:Nat) (cs:Option (List C)) :Option Plan:=match t with
 |none=>none
 |some d=>match cs with
  |some cs=>if cs.length=d.size then some (.wr b (fun cells=>fm cells o cs) none) else none
  |none=>none
theorem Ez (t:TypeId) (b o:Nat) (v:Value) (k:Option Nat) :dv P t (.bp b o) (.val v) k=sA (td P t) b o (C.val v).cells?:=by
 unfold dv sA;cases td P t with
 |none=>rfl
 |some d=>simp only[];cases (C.val v).cells?<;>rfl
theorem EA (t:TypeId) (b o:Nat) (xs:List C) (k:Option Nat) :dv P t (.bp b o) (.agg xs) k=sA (td P t) b o (some (xs.map C.noR)) :=by
 unfold dv sA;cases td P t<;>rfl
theorem GY (t:TypeId) (b o f:Nat) (xs:List C) (k:Option Nat) :dv P t (.bp b o) (.fn f xs) k=sA (td P t) b o (some [.fn f xs]) :=by
 unfold dv sA;cases td P t<;>rfl
def KC (t:Option TD) (b o:Nat) (c:C) (k:Option Nat) :Option Plan:=match t with
 |none=>none
 |some d=>if d.size=1 then some (.wr b (fun cells=>Es cells o c) k) else none
theorem xR (t:TypeId) (b o:Nat) (r:Rt) (n:Nat) (xs:List C) (k:Option Nat) :dv P t (.bp b o) (.sl r n xs) k=KC (td P t) b o (.sl r n xs) k:=by
 unfold dv KC;cases td P t<;>rfl
theorem Nf (u:TypeDesc) (y:Nat) (z:List Value) (b o:Nat) (c:C) (k:Option Nat) :KC (some ⟨u,1,y,z⟩) b o c k=some (.wr b (fun cells=>Es cells o c) k) :=rfl
theorem GZ (u:TypeDesc) (s y:Nat) (z:List Value) (b o:Nat) (cs:List C) (h:cs.length=s) :sA (some ⟨u,s,y,z⟩) b o (some cs) =some (.wr b (fun cells=>fm cells o cs) none) :=if_pos h
theorem EB (x:BitVec 32) : (C.val (cA x)).cells?=some [.val (cA x)] :=rfl
theorem G0 (x:UInt8) : (C.val (w8 x)).cells?=some [.val (w8 x)] :=rfl
theorem G4 (x:Nat) : (C.val (nI x)).cells?=some [.val (nI x)] :=rfl
theorem G5 (x:Nat) : (C.val (nU x)).cells?=some [.val (nU x)] :=rfl
theorem EC (k:IntKind) (x:Int) : (C.val (.int k x)).cells?=some [.val (.int k x)] :=rfl
theorem ED (x:List UInt8) : (C.val (str x)).cells?=some [.val (str x)] :=rfl
theorem Bu (x:Bool) : (C.val (.bool x)).cells?=some [.val (.bool x)] :=rfl
theorem EE (xs:List C) : (C.agg xs).cells?=some (xs.map C.noR) :=rfl
theorem Td (i n:Nat) (h:i< n) :fe (.val (nI i)) n=some i:=by
 simp only[fe,nI,C.int?];rw[if_pos (by omega)];simp
theorem xS (i d m:Nat) (h:i≤m) :dn (some (.val (nI i))) d m=some i:=by
 simp only[dn,nI,C.int?];rw[if_pos (by omega)];simp
theorem ny (d m:Nat) :dn none d m=some d:=rfl
def qD (de:Option TD) (k:Option Nat) (f:Nat→Nat→Option Plan) :Option Plan:=match de,k with
 |some de,some k=>f de.size k
 |_,_=>none
theorem G6 (u:TypeDesc) (s y:Nat) (z:List Value) (k:Nat) (f:Nat→Nat→Option Plan) :qD (some ⟨u,s,y,z⟩) (some k) f=f s k:=rfl
def rc (P:Program) (t:Option TD) (c i:C) :Option Plan:=match t with
 |none=>none
 |some d=>
  match d.u,c with
  | .array n e,.bp b off=>qD (td P e) (fe i n) fun s k=>some (vp (.bp b (off+k*s)))
  | .array n e,.kp xs=>qD (td P e) (fe i n) fun s k=>if n*s≤xs.length then some (vp (.kp (xs.drop (k*s)))) else none
  | .slice e,.sv b off n=>qD (td P e) (fe i n) fun s k=>some (vp (.bp b (off+k*s)))
  | .slice e,.sl _ n xs=>qD (td P e) (fe i n) fun s k=>if xs.length=n*s∧xs≠[] then some (vp (.kp (xs.drop (k*s)))) else none
  |_,_=>none
theorem Te (t:TypeId) (c i:C) :eh P t c i=rc P (td P t) c i:=by
 unfold eh rc
 cases td P t with
 |none=>rfl
 |some d=>
  simp only[]
  cases d.u<;>cases c<;>first|rfl| (rename_i e _ _ _;cases td P e<;>first|rfl| (cases fe i _<;>rfl))
theorem Tf (n:Nat) (e:TypeId) (b off:Nat) (i:C) :rc P (some ⟨.array n e,a1,b1,z1⟩) (.bp b off) i=qD (td P e) (fe i n) fun s k=>some (vp (.bp b (off+k*s))) :=rfl
theorem Tg (e:TypeId) (b off n:Nat) (i:C) :rc P (some ⟨.slice e,a1,b1,z1⟩) (.sv b off n) i=qD (td P e) (fe i n) fun s k=>some (vp (.bp b (off+k*s))) :=rfl
theorem Th {α:Type} (f:α→List C) (e:TypeId) (r:Rt) (l:List α) (i:C) :rc P (some ⟨.slice e,a1,b1,z1⟩) (sl f r l) i=qD (td P e) (fe i l.length) fun s k=>if (cl f l).length=l.length*s∧cl f l≠[] then some (vp (.kp ((cl f l).drop (k*s)))) else none:=rfl
end
end Go.Sx
namespace Go.Sx
open Go.RowKit
section
variable {α:Type} (f:α→List C)
theorem G7 (l:List α) : (sl f .no l).noR=sl f .no l:=rfl
theorem Bv (l:List α) : (sl f .full l).noR=sl f .full l:=rfl
theorem EF (s:Nat) (l:List α) : (sl f (.own s) l).noR=sl f .no l:=rfl
theorem Bw (l:List α) : (sl f .no l).share=sl f .no l:=rfl
theorem xT (l:List α) : (sl f .full l).share=sl f .no l:=rfl
end
theorem EG (x:BitVec 32) : (C.val (cA x)).share= .val (cA x) :=rfl
theorem G8 (x:Nat) : (C.val (nI x)).share= .val (nI x) :=rfl
theorem Bx (x:List UInt8) : (C.val (str x)).share= .val (str x) :=rfl
section
variable (P:Program) (u1:TypeDesc) (a1 b1 a2 b2 a3 b3:Nat) (z1 z2 z3:List Value)
def By (t:Option TD) (x:C) :Option Plan:=match t with
 |none=>none
 |some d=>
  match d.u,x with
  | .string,.val (.string s) =>some (.pure (.val (.int .i64 s.size)))
  | .array n _,_=>some (.pure (.val (.int .i64 n)))
  | .slice _,.sv _ _ n=>some (.pure (.val (.int .i64 n)))
  | .slice _,x=>x.sl?.map fun r=> .pure (.val (.int .i64 r.1))
  |_,_=>none
theorem Ti (t:TypeId) (x:C) :jb P t x=By (td P t) x:=rfl
theorem Ng (l:List UInt8) :By (some ⟨.string,a1,b1,z1⟩) (.val (str l)) =some (vp (.val (nI l.length))) :=by
 show some (vp (.val (.int .i64 ((⟨l.toArray⟩ :ByteArray).size:Nat)))) =_
 rw[jM];rfl
theorem Tj (e:TypeId) (b o n:Nat) :By (some ⟨.slice e,a1,b1,z1⟩) (.sv b o n) =some (vp (.val (nI n))) :=rfl
theorem Tk {α:Type} (f:α→List C) (e:TypeId) (r:Rt) (l:List α) :By (some ⟨.slice e,a1,b1,z1⟩) (sl f r l) =some (vp (.val (nI l.length))) :=rfl
def Tl (P:Program) (t:Option TD) (c i:C) :Option Plan:=match t with
 |none=>none
 |some d=>
  match d.u,c with
  | .string,.val (.string s) =>match fe i s.size with
    |some k=> (s.data[k]?).map fun b=> .pure (jZ b)
    |none=>none
  | .array n e,c=>match td P e,fe i n,c.agg? with
    |some de,some k,some xs=> (dH de xs (k*de.size)).map .pure
    |_,_,_=>none
  |_,_=>none
theorem Tm (t:TypeId) (c i:C) :gz P t c i=Tl P (td P t) c i:=rfl
def Tn (de:Option TD) (k:Option Nat) (xs:Option (List C)) :Option Plan:=match de,k,xs with
 |some de,some k,some xs=> (dH de xs (k*de.size)).map vp
 |_,_,_=>none
theorem Nh (n:Nat) (e:TypeId) (xs:List C) (i:C) :Tl P (some ⟨.array n e,a1,b1,z1⟩) (.agg xs) i=Tn (td P e) (fe i n) (some xs) :=rfl
theorem G9 (k:IntKind) (i:Nat) (xs:List C) :Tn (some ⟨.int k,a1,b1,z1⟩) (some i) (some xs) = (eJ xs (i*a1)).map vp:=rfl
def abp (P:Program) (t:Option TD) (c:C) (f:Nat) :Option Plan:=match t with
 |none=>none
 |some d=>
  match d.u with
  | .struct fields=>match fields[f]?,c.agg? with
    |some fd,some xs=> (match td P fd.type with
     |some de=> (dH de xs fd.offset).map .pure
     |none=>none)
    |_,_=>none
  |_=>none
def To (P:Program) (t:Option TD) (c:C) (f:Nat) :Option Plan:=match t with
 |none=>none
 |some d=>
  match d.u with
  | .struct fields=>match fields[f]? with
    |some fd=> (match td P fd.type with
     |some de=>if de.size=0 then none else
      (match c with
      | .bp b off=>some (.pure (.bp b (off+fd.offset)))
      | .bt b _ _=>some (.pure (.bp b fd.offset))
      | .kp xs=>if fd.offset≤xs.length then some (.pure (.kp (xs.drop fd.offset))) else none
      |_=>none)
     |none=>none)
    |none=>none
  |_=>none
theorem Bz (t:TypeId) (c:C) (f:Nat) :bK P t c f=To P (td P t) c f:=rfl
def EH (de:Option TD) (b o:Nat) :Option Plan:=match de with
 |some de=>if de.size=0 then none else some (vp (.bp b o))
 |none=>none
theorem BB (fs:Array Field) (b o:Nat) (i:Nat) (fd:Field) (h:fs[i]? =some fd) :To P (some ⟨.struct fs,a1,b1,z1⟩) (.bp b o) i=EH (td P fd.type) b (o+fd.offset) :=by
 unfold To EH;simp only[h];rfl
def ko (hi lo:Option C) (n:Nat) (F:Nat→Nat→Option Plan) :Option Plan:=match dn hi n n with
 |some h=> (match dn lo 0 h with
  |some k=>F h k
  |none=>none)
 |none=>none
def EI (hi lo:Option Nat) (F:Nat→Nat→Option Plan) :Option Plan:=match hi,lo with
 |some h,some k=>F h k
 |_,_=>none
def ux (P:Program) (t:Option TD) (c:C) (lo hi:Option C) :Option Plan:=match t with
 |none=>none
 |some d=>
  match d.u,c with
  | .string,.val (.string s) =>ko hi lo s.size fun h k=>some (vp (.val (.string (s.extract k h))))
  | .slice e,.sv b off n=> (match td P e with
    |some de=>ko hi lo n fun h k=>some (vp (.sv b (off+k*de.size) (h - k)))
    |none=>none)
  | .slice e,c=> (match td P e,c.sl? with
    |some de,some (n,xs) =>if xs.length=n*de.size then ko hi lo n fun h k=>some (vp (.sl .no (h - k) ((xs.drop (k*de.size)).take ((h - k)*de.size)))) else none
    |_,_=>none)
  | .array n e,.bp b off=> (match td P e with
    |some de=>if 65536< n then none else ko hi lo n fun h k=>some (vp (.sv b (off+k*de.size) (h - k)))
    |none=>none)
  | .array n e,.kp xs=> (match td P e with
    |some de=>if 65536< n∨xs.length< n*de.size then none else ko hi lo n fun h k=>some (vp (.sl .no (h - k) ((xs.drop (k*de.size)).take ((h - k)*de.size))))
    |none=>none)
  |_,_=>none
theorem Ha (t:TypeId) (c:C) (lo hi:Option C) :ez P t c lo hi none=ux P (td P t) c lo hi:=by
 unfold ez ux ko
 cases td P t with
 |none=>rfl
 |some d=>
  obtain ⟨u,s,y,z⟩ :=d
  simp only[Option.isSome_none,Bool.false_eq_true,if_false,false_or,Option.isNone_none,true_or,and_true,ny,false_and]
  cases u with
  |string=>cases c with
   |val v=>cases v<;>rfl
   |_=>rfl
  |slice e=>cases c<;>rfl
  |array n e=>cases c<;>rfl
  |_=>rfl
theorem Hb (lo:Option C) (n:Nat) (F:Nat→Nat→Option Plan) :ko none lo n F=EI (some n) (dn lo 0 n) F:=by
 unfold ko EI;simp only[ny];cases dn lo 0 n<;>rfl
theorem Tp (lo:Option C) (n h:Nat) (F:Nat→Nat→Option Plan) (hh:h≤n) :ko (some (.val (nI h))) lo n F=EI (some h) (dn lo 0 h) F:=by
 unfold ko EI;rw[xS _ _ _ hh];simp only[];cases dn lo 0 h<;>rfl
theorem Hc (h k:Nat) (F:Nat→Nat→Option Plan) :EI (some h) (some k) F=F h k:=rfl
theorem Ni (l:List UInt8) (lo hi:Option C) :ux P (some ⟨.string,a1,b1,z1⟩) (.val (str l)) lo hi=ko hi lo l.length fun h k=>some (vp (.val (str ((l.drop k).take (h - k))))) :=by
 show ko hi lo (⟨l.toArray⟩ :ByteArray).size _=_
 rw[jM]
 congr 1
 funext h k
 show some (vp (.val (.string _))) =_
 congr 4
 apply ByteArray.ext
 simp[ByteArray.data_extract]
def EJ (de:Option TD) (F:Nat→Option Plan) :Option Plan:=match de with
 |some de=>F de.size
 |none=>none
theorem Hd (u:TypeDesc) (s y:Nat) (z:List Value) (F:Nat→Option Plan) :EJ (some ⟨u,s,y,z⟩) F=F s:=rfl
theorem Tq (e:TypeId) (b o n:Nat) (lo hi:Option C) :ux P (some ⟨.slice e,a1,b1,z1⟩) (.sv b o n) lo hi=EJ (td P e) fun s=>ko hi lo n fun h k=>some (vp (.sv b (o+k*s) (h - k))) :=rfl
theorem Ts (n:Nat) (e:TypeId) (b o:Nat) (lo hi:Option C) (hn:n≤65536) :ux P (some ⟨.array n e,a1,b1,z1⟩) (.bp b o) lo hi=EJ (td P e) fun s=>ko hi lo n fun h k=>some (vp (.sv b (o+k*s) (h - k))) :=by
 show (match td P e with|some de=>if 65536< n then none else _|none=>none) =_
 cases td P e with
 |none=>rfl
 |some de=>simp only[];rw[if_neg (by omega)];rfl
theorem Tt {α:Type} (f:α→List C) {s0:Nat} [hf:Cel f s0] (e:TypeId) (r:Rt) (l:List α) (lo hi:Option C) (u:TypeDesc) (y:Nat) (z:List Value) (h:td P e=some ⟨u,s0,y,z⟩) :
 ux P (some ⟨.slice e,a1,b1,z1⟩) (sl f r l) lo hi=ko hi lo l.length fun h k=>some (vp (sl f .no ((l.drop k).take (h - k)))) :=by
 show (match td P e,(sl f r l).sl? with|some de,some (n,xs) =>_|_,_=>none) =_
 rw[h]
 simp only[sl,C.sl?]
 rw[if_pos (co (f:=f) l)]
 simp only[gx,jd]
 unfold ko
 cases hb:dn hi l.length l.length with
 |none=>rfl
 |some hh=>
  simp only[]
  cases hb2:dn lo 0 hh with
  |none=>rfl
  |some k=>
   have h1:hh≤l.length:=by
    unfold dn at hb
    split at hb
    · simp only[Option.some.injEq] at hb;omega
    · split at hb
      · split at hb
        · simp only[Option.some.injEq] at hb;omega
        · cases hb
      · cases hb
   simp only[List.length_take,List.length_drop]
   rw[Nat.min_eq_left (by omega)]
def Yn (x:C) (de:TD) (xt:Option Nat) :Option (Nat×List C×Option Nat) :=match x with
 | .val (.slice none 0 0) =>some (0,[],none)
 | .sl .full n xs=>some (n,xs,none)
 | .sl (.own s) n xs=>if s=de.size then some (n,xs,xt) else none
 |_=>none
def ox (de:TD) (n:Nat) (xs:List C) (m:Nat) (ys:List C) :Option C:=
 if xs.length=n*de.size∧ys.length=m*de.size∧0< de.size∧de.zero.length=de.size∧(n+m)*de.bytes≤140737488355328∧n+m≤9223372036854775807 then some (.sl (.own de.size) (n+m) (xs++ys)) else none
def Tu (P:Program) (t t2:Option TD) (x y:C) (xt:Option Nat) :Option Plan:=match t,t2 with
 |none,_=>none
 |_,none=>none
 |some d,some d2=>
  if im d2.u=false then none else
  match d.u with
  | .slice e=>match td P e with
    |none=>none
    |some de=>match Yn x de xt with
     |none=>none
     |some (n,xs,k) =>
      match y with
      | .sv b off m=>if k.isSome then some (.wr b (fun cells=> (if off+m*de.size≤cells.length then ox de n xs m (((cells.drop off).take (m*de.size)).map C.noR) else none).map fun c=> (cells,c)) k)
        else some (.rd b fun cells=>if off+m*de.size≤cells.length then ox de n xs m (((cells.drop off).take (m*de.size)).map C.noR) else none)
      |y=>match js y with
       |some (m,ys) => (ox de n xs m ys).map fun c=> .val c k
       |none=>none
  |_=>none
theorem Tv (t t2:TypeId) (x y:C) (xt:Option Nat) :eT P t t2 x y xt=Tu P (td P t) (td P t2) x y xt:=rfl
def zr (de:Option TD) (x y:C) (xt:Option Nat) :Option Plan:=match de with
 |none=>none
 |some de=>match Yn x de xt with
  |none=>none
  |some (n,xs,k) =>
   match y with
   | .sv b off m=>if k.isSome then some (.wr b (fun cells=> (if off+m*de.size≤cells.length then ox de n xs m (((cells.drop off).take (m*de.size)).map C.noR) else none).map fun c=> (cells,c)) k)
         else some (.rd b fun cells=>if off+m*de.size≤cells.length then ox de n xs m (((cells.drop off).take (m*de.size)).map C.noR) else none)
   |y=>match js y with
    |some (m,ys) => (ox de n xs m ys).map fun c=> .val c k
    |none=>none
theorem Tw (e e2:TypeId) (x y:C) (xt:Option Nat) :Tu P (some ⟨.slice e,a1,b1,z1⟩) (some ⟨.slice e2,a2,b2,z2⟩) x y xt=zr (td P e) x y xt:=rfl
theorem Tx (e:TypeId) (x y:C) (xt:Option Nat) :Tu P (some ⟨.slice e,a1,b1,z1⟩) (some ⟨.string,a2,b2,z2⟩) x y xt=zr (td P e) x y xt:=rfl
section
variable {α:Type} (f:α→List C) {s:Nat} [hf:Cel f s] (u:TypeDesc) (y:Nat) (z:List Value)
theorem xU (l l':List α) (hz:z.length=s) (h: (l.length+l'.length)*y≤140737488355328∧l.length+l'.length≤9223372036854775807) :
 ox ⟨u,s,y,z⟩ l.length (cl f l) l'.length (cl f l') =some (sl f (.own s) (l++l')) :=by
 unfold ox
 rw[if_pos ⟨co (f:=f) l,co (f:=f) l',hf.pos,hz,h.1,h.2⟩]
 simp[sl,iV]
theorem Nj (l l':List α) (r:Rt) (xt:Option Nat) (hz:z.length=s) (h: (l.length+l'.length)*y≤140737488355328∧l.length+l'.length≤9223372036854775807) :
 zr (some ⟨u,s,y,z⟩) (sl f (.own s) l) (sl f r l') xt=some (.val (sl f (.own s) (l++l')) xt) :=by
 show (match (if s=s then some (l.length,cl f l,xt) else none) with|none=>none|some (n,xs,k) => (match some (l'.length,cl f l') with|some (m,ys) => (ox ⟨u,s,y,z⟩ n xs m ys).map fun c=>Plan.val c k|none=>none)) =_
 rw[if_pos rfl]
 simp only[xU f u y z l l' hz h,Option.map_some]
theorem xV (l l':List α) (r:Rt) (xt:Option Nat) (hz:z.length=s) (h: (l.length+l'.length)*y≤140737488355328∧l.length+l'.length≤9223372036854775807) :
 zr (some ⟨u,s,y,z⟩) (sl f .full l) (sl f r l') xt=some (.val (sl f (.own s) (l++l')) none) :=by
 show (match some (l'.length,cl f l') with|some (m,ys) => (ox ⟨u,s,y,z⟩ l.length (cl f l) m ys).map fun c=>Plan.val c none|none=>none) =_
 simp only[xU f u y z l l' hz h,Option.map_some]
theorem Nk (l':List α) (r:Rt) (xt:Option Nat) (hz:z.length=s) (h:l'.length*y≤140737488355328∧l'.length≤9223372036854775807) :
 zr (some ⟨u,s,y,z⟩) (.val (.slice none 0 0)) (sl f r l') xt=some (.val (sl f (.own s) l') none) :=by
 have:=xV f u y z [] l' r xt hz (by simpa using h)
 exact this
end
theorem zt (l:List UInt8) :js (.val (str l)) =some (l.length,cl bC l) :=by
 show some ((⟨l.toArray⟩ :ByteArray).size,l.toArray.toList.map jZ) =_
 rw[jM,List.toList_toArray,xP]
theorem He (u:TypeDesc) (y:Nat) (z:List Value) (l l':List UInt8) (xt:Option Nat) (hz:z.length=1) (h: (l.length+l'.length)*y≤140737488355328∧l.length+l'.length≤9223372036854775807) :
 zr (some ⟨u,1,y,z⟩) (sl bC (.own 1) l) (.val (str l')) xt=some (.val (sl bC (.own 1) (l++l')) xt) :=by
 show (match (if (1:Nat) =1 then some (l.length,cl bC l,xt) else none) with|none=>none|some (n,xs,k) => (match js (.val (str l')) with|some (m,ys) => (ox ⟨u,1,y,z⟩ n xs m ys).map fun c=>Plan.val c k|none=>none)) =_
 rw[if_pos rfl,zt]
 simp only[xU bC u y z l l' hz h,Option.map_some]
theorem Ty (n:Nat) :List.replicate n (C.val (.int .u32 0)) =cl wC (List.replicate n 0) :=by
 induction n with
 |zero=>rfl
 |succ n ih=>rw[List.replicate_succ,ih];rfl
theorem Tz (n:Nat) :List.replicate n (C.val (.int .u8 0)) =cl bC (List.replicate n 0) :=by
 induction n with
 |zero=>rfl
 |succ n ih=>rw[List.replicate_succ,ih];rfl
theorem TA (n:Nat) :List.replicate n (C.val (.int .i64 0)) =cl nC (List.replicate n 0) :=by
 induction n with
 |zero=>rfl
 |succ n ih=>rw[List.replicate_succ,ih];rfl
def Hf (cs:Option (List C)) :Option Plan:=match cs with
 |some cs=>some (.new cs fun id=> .bp id 0)
 |none=>none
theorem TC (x:C) :Bp x=Hf x.cells?:=by unfold Bp Hf;cases x.cells?<;>rfl
theorem EK (cs:List C) :Hf (some cs) =some (.new cs fun id=> .bp id 0) :=rfl
theorem Nl (x y:C) :we (.val (.bool true)) x y=some (vp x) :=rfl
theorem Nm (x y:C) :we (.val (.bool false)) x y=some (vp y) :=rfl
def EL (P:Program) (t:Option TD) (x y:C) :Option Plan:=match t with
 |none=>none
 |some d=>
  match d.u with
  | .slice e=>match td P e with
    |none=>none
    |some de=>match x,js y with
     | .sv b off n,some (m,ys) =>
       if ys.length=m*de.size∧0< n then some (.wr b (fun cells=>if off+n*de.size≤cells.length then some (splice cells off ((ys.take (min m n*de.size)).map C.noR),.val (.int .i64 (min m n:Nat))) else none) none) else none
     |_,_=>none
  |_=>none
theorem Nn (t:TypeId) (x y:C) :ip P t x y=EL P (td P t) x y:=rfl
def qE (cells:List C) (o n s:Nat) (ys:List C) (m:Nat) :Option (List C×C) :=if o+n*s≤cells.length then some (splice cells o ys,.val (nI m)) else none
theorem TE (e:TypeId) (b o n:Nat) (l:List UInt8) (u:TypeDesc) (y:Nat) (z:List Value) (he:td P e=some ⟨u,1,y,z⟩) (h:0< n) :
 EL P (some ⟨.slice e,a1,b1,z1⟩) (.sv b o n) (.val (str l)) =some (.wr b (fun cells=>qE cells o n 1 (cl bC (l.take n)) (min l.length n)) none) :=by
 unfold EL
 simp only[he]
 rw[zt]
 simp only[]
 rw[if_pos ⟨co (f:=bC) l,h⟩]
 congr 2
 funext cells
 unfold qE
 rw[jd,fG]
 have:l.take (min l.length n) =l.take n:=by rw[List.take_eq_take_iff];omega
 rw[this];rfl
end
end Go.Sx
namespace Go.Sx
open Go.RowKit
def pk (e:List (Nat×C)) :List Nat→List (Nat×C)
 | [] => []
 |k::ks=> (k,A e k) ::pk e ks
theorem TF (e:List (Nat×C)) (t:Nat) : ∀ks:List Nat,A (pk e ks) t= .top∨A (pk e ks) t=A e t
 | [] => .inl rfl
 |k::ks=>by
  simp only[pk,A]
  by_cases h:t=k
  · subst h;right;simp
  · simp only[if_neg h];exact TF e t ks
theorem TG (e:List (Nat×C)) :pk e [] = [] :=rfl
theorem No (e:List (Nat×C)) (k:Nat) (ks:List Nat) :pk e (k::ks) = (k,A e k) ::pk e ks:=rfl
section
variable {cx:Cx} {n:Nat} {Q:Ex→St→Prop} {e:List (Nat×C)} {h:Hp}
theorem Tr.kp (ks:List Nat) {c:Code} (H:Tr cx n c ⟨A (pk e ks),h⟩ Q) :Tr cx n c ⟨A e,h⟩ Q:=by
 refine lW (fun t=> ?_) H
 rcases TF e t ks with q|q
 · rw[q];exact CLe.top _
 · rw[q];exact CLe.refl _
end
def condG (c:C) (p q:Prop) :Prop:= ∃b,c= .val (.bool b)∧GB b p q
theorem kJ (b:Bool) (p q:Prop) :condG (.val (.bool b)) p q=GB b p q:=by
 simp[condG]
theorem Tr.condG {cx:Cx} {n:Nat} {Q:Ex→St→Prop} {e:List (Nat×C)} {h:Hp} {c:Operand} {x y:Code} (H: ∀KT KF:Prop,(Tr cx n x ⟨A e,h⟩ Q→KT)→(Tr cx n y ⟨A e,h⟩ Q→KF)→Sx.condG (cx.ev (A e) c) KT KF) :Tr cx n (.cond c x y) ⟨A e,h⟩ Q:=by
 obtain ⟨b,h1,h2,h3⟩ :=H _ _ (fun x=>x) (fun x=>x)
 exact uT h1 h2 h3
theorem EM {α:Type} [Inhabited α] (l:List α) (k:Nat) :l.getD k default=gt l k:=rfl
theorem zu (K:St→Prop) (Q:Ex→St→Prop) (s:St) :nj K Q .normal s=K s:=rfl
theorem Np (K:St→Prop) (Q:Ex→St→Prop) (s:St) :nj K Q .ret s=Q .ret s:=rfl
theorem Hg (k:Nat) (Q:Ex→St→Prop) (s:St) :ov k Q .normal s=Q .normal s:=rfl
theorem Hh (k:Nat) (Q:Ex→St→Prop) (s:St) :ov k Q .ret s=Q .ret s:=rfl
theorem Nq (cx:Cx) (rs:List ResultVar) (c:C) (st:St) :Ku cx rs c .ret st= (jL cx st rs=some c) :=rfl
theorem Hi (cx:Cx) (st:St) (r:ResultVar) :jL cx st [r] =eW cx st r:=rfl
theorem Hj (cx:Cx) (e:List (Nat×C)) (h:Hp) (t:Nat) :eW cx ⟨A e,h⟩ (.tmp t) =some (A e t) :=rfl
def TH (t:Option TD) (c:C) (h:Hp) :Option C:=match t,c with
 |some d,.bp b off=> (h.at b).bind fun cells=>dH d cells off
 |_,_=>none
theorem EN (cx:Cx) (e:List (Nat×C)) (h:Hp) (a:Nat) (t:TypeId) :eW cx ⟨A e,h⟩ (.cell a t) =TH (td cx.P t) (A e a) h:=rfl
theorem Nr (n:Nat) (e:TypeId) (a b:Nat) (z:List Value) (x o:Nat) (h:Hp) :TH (some ⟨.array n e,a,b,z⟩) (.bp x o) h= (h.at x).bind fun cells=>kh cells o a:=rfl
theorem BC (fs:Array Field) (a b:Nat) (z:List Value) (x o:Nat) (h:Hp) :TH (some ⟨.struct fs,a,b,z⟩) (.bp x o) h= (h.at x).bind fun cells=>kh cells o a:=rfl
theorem bD (env:Nat→C) :Le env [] =True:=rfl
theorem aO (env:Nat→C) (k:Nat) (c:C) (l:List (Nat×C)) :Le env ((k,c) ::l) = (CLe (env k) c∧Le env l) :=rfl
theorem aD (c:C) :CLe c c=True:=by simp[CLe.refl]
theorem aP (c:C) :CLe c .top=True:=by simp[CLe.top]
theorem aE {α:Type} (f:α→List C) (r:Rt) (l:List α) :CLe (sl f .full l) (sl f r l) =True:=by simp only[sl,eq_iff_iff,iff_true];exact CLe.full ..
theorem aQ {α:Type} (f:α→List C) (r:Rt) :CLe (.val (.slice none 0 0)) (sl f r []) =True:=by simp only[sl,eq_iff_iff,iff_true];exact CLe.nil _
theorem aR {α:Type} (f:α→List C) (s:Nat) (l:List α) :CLe (sl f (.own s) l) (sl f .no l) =True:=eq_true (CLe.noR (sl f (.own s) l))
theorem Ns (P:Program) (u1:TypeDesc) (a1 b1 a2 b2:Nat) (z1 z2:List Value) (n:Int) :mN P (some ⟨u1,a1,b1,z1⟩) (some ⟨.int .u64,a2,b2,z2⟩) (.val (.int .i64 n)) =some (vp (.val (nU (n % 18446744073709551616).toNat))) :=by
 rw[kn,i2,nU];congr 4;omega
theorem Nt (P:Program) (t:TypeId) (x:Nat) (h:x< 18446744073709551616) :aV P .and t (.val (nU x)) (.val (nU 31)) =some (vp (.val (nU (x % 32)))) :=by
 rw[Xt P t x 31 (by omega)]
 have:=Nat.and_two_pow_sub_one_eq_mod x 5
 simp only[Nat.reducePow,Nat.reduceSub] at this
 rw[this]
theorem Nu (n:Nat) (h:n< 9223372036854775808) :gS .neg (.val (nI n)) =some (vp (.val (.int .i64 (-(n:Int))))) :=by
 show some (vp (.val (.int .i64 (IntKind.wrap .i64 (0 - (n:Int)))))) =_
 rw[ff _ (by omega) (by omega),Int.zero_sub]
theorem TI (b:Bool) :gS .not (.val (.bool b)) =some (vp (.val (.bool (!b)))) :=rfl
theorem zv (n:Nat) :List.replicate n (C.val (cA (BitVec.ofNat 32 0))) =cl wC (List.replicate n 0) :=Ty n
theorem xW (n:Nat) :List.replicate n (C.val (w8 (UInt8.ofNat 0))) =cl bC (List.replicate n 0) :=Tz n
theorem EO (n:Nat) :List.replicate n (C.val (nI 0)) =cl nC (List.replicate n 0) :=TA n
end Go.Sx
namespace Go.Sx
open Go.RowKit
end Go.Sx
namespace Go.Sx
open Go.RowKit
def eu:List C→Bool
 | [] =>false
 | .sv _ _ _::_=>true
 | .bp _ _::_=>true
 | .gv _ _ _::_=>true
 |_::l=>eu l
theorem xX: ∀l:List C,eu l=true→noRefs 0 l=false
 | [],h=>by cases h
 |c::l,h=>by
  cases c with
  |sv b o n=>simp[noRefs,aF]
  |bp b o=>simp[noRefs,aF]
  |gv b o s=>simp[noRefs,aF]
  |_=>
   have:=xX l h
   simp only[noRefs,this,Bool.and_false]
class Fla {α:Type} (f:α→List C) :Prop where
 flat: ∀a,flats (f a) =true
instance:Fla bC:= ⟨fun _=>rfl⟩
instance:Fla wC:= ⟨fun _=>rfl⟩
instance:Fla sC:= ⟨fun _=>rfl⟩
instance:Fla iC:= ⟨fun _=>rfl⟩
instance:Fla nC:= ⟨fun _=>rfl⟩
instance:Fla oC:= ⟨fun _=>rfl⟩
theorem uy (xs ys:List C) :flats (xs++ys) = (flats xs && flats ys) :=by
 induction xs with
 |nil=>simp[flats]
 |cons x xs ih=>simp only[List.cons_append,flats,ih,Bool.and_assoc]
theorem aM (k:Nat) (xs ys:List C) :noRefs k (xs++ys) = (noRefs k xs && noRefs k ys) :=by
 induction xs with
 |nil=>simp[noRefs]
 |cons x xs ih=>simp only[List.cons_append,noRefs,ih,Bool.and_assoc]
theorem gH {α:Type} (f:α→List C) [h:Fla f] : ∀l:List α,flats (cl f l) =true
 | [] =>rfl
 |a::l=>by rw[ee,uy,h.flat,gH f l];rfl
mutual
theorem BD (k:Nat) : ∀c:C,flat c=true→aF k c=true
 | .val _,_=>rfl
 | .agg xs,h=>by simp only[flat] at h;simp only[aF];exact flats_noRefs k xs h
 | .tup xs,h=>by simp only[flat] at h;simp only[aF];exact flats_noRefs k xs h
 | .top,h=>by cases h
 | .sl _ _ _,h=>by cases h
 | .sv _ _ _,h=>by cases h
 | .bp _ _,h=>by cases h
 | .kp _,h=>by cases h
 | .fn _ _,h=>by cases h
theorem flats_noRefs (k:Nat) : ∀l:List C,flats l=true→noRefs k l=true
 | [],_=>rfl
 |x::xs,h=>by
  simp only[flats,Bool.and_eq_true] at h
  simp only[noRefs,BD k x h.1,flats_noRefs k xs h.2,Bool.and_self]
end
theorem aT {α:Type} (f:α→List C) [h:Fla f] (k:Nat) (l:List α) :noRefs k (cl f l) =true:=flats_noRefs k _ (gH f l)
theorem aS {α:Type} (f:α→List C) [h:Fla f] (k:Nat) (r:Rt) (l:List α) :aF k (sl f r l) =true:=aT f k l
theorem bn (k:Nat) (xs:List C) :aF k (.agg xs) =noRefs k xs:=rfl
theorem bq (k:Nat) (xs:List C) :aF k (.tup xs) =noRefs k xs:=rfl
theorem bz (k:Nat) (xs:List C) :aF k (.kp xs) =noRefs k xs:=rfl
theorem aL (k:Nat) (v:Value) :aF k (.val v) =true:=rfl
theorem aC (k:Nat) :noRefs k [] =true:=rfl
theorem ax (k:Nat) (c:C) (l:List C) :noRefs k (c::l) = (aF k c && noRefs k l) :=rfl
theorem Hk (xs:List C) :flat (.agg xs) =flats xs:=rfl
theorem BE (cx:Cx) (g:Nat) (az:List C) (c:C) :wg cx g az (some c) =some (vp c) :=rfl
def sB (cx:Cx) (g:Nat) (az:List C) (b:Option Nat) (o:Option (C×Hp)) :Option Plan:=match b with
 |some b=>if o.isSome then some (.call g az) else some (.rd b (rdPu cx g az b))
 |none=>some (.call g az)
theorem BF (cx:Cx) (g:Nat) (az:List C) :wg cx g az none=sB cx g az (gT az) (cx.hp g az []) :=by
 unfold wg sB;rfl
theorem Hl (cx:Cx) (g:Nat) (az:List C) (b:Nat) :sB cx g az (some b) none=some (.rd b (rdPu cx g az b)) :=rfl
theorem EP (b o n:Nat) (l:List C) :gT (.sv b o n::l) =gu b l:=rfl
theorem EQ (b o:Nat) (l:List C) :gT (.bp b o::l) =gu b l:=rfl
theorem BG (xs l:List C) :gT (.agg xs::l) =gT l:=rfl
theorem BH (v:Value) (l:List C) :gT (.val v::l) =gT l:=rfl
theorem ER (xs l:List C) :gT (.kp xs::l) =gT l:=rfl
theorem Hm (b:Nat) :gu b [] =some b:=rfl
theorem Hn (b:Nat) (v:Value) (l:List C) :gu b (.val v::l) =gu b l:=rfl
theorem Nv (b:Nat) (xs l:List C) :gu b (.kp xs::l) =gu b l:=rfl
theorem Ho {α:Type} (b:Nat) (f:α→List C) (r:Rt) (x:List α) (l:List C) :gu b (sl f r x::l) =gu b l:=rfl
theorem Hq {b b':Nat} (h:b'≠b) (o:Nat) (l:List C) :gu b (.bp b' o::l) =none:=by simp[gu,h]
def TJ (b:Bool) (c:C) :Option C:=if b then some c else none
def Yo (b:Bool) (c:Option C) :Option C:=if b then (match c with
 |some c=>TJ (flat c) c
 |none=>none) else none
theorem Nw (cx:Cx) (g:Nat) (az:List C) (b:Nat) (cells:List C) :rdPu cx g az b cells=Yo (noRefs 0 (gF b cells az)) (cx.pu g (gF b cells az)) :=rfl
theorem Hr (c:C) :Yo true (some c) =TJ (flat c) c:=rfl
theorem Hs (c:C) :TJ true c=some c:=rfl
theorem Ht (b:Nat) (cells:List C) :gF b cells [] = [] :=rfl
theorem ES (b:Nat) (cells:List C) (c:C) (l:List C) :gF b cells (c::l) =jt b cells c::gF b cells l:=rfl
theorem Nx (b:Nat) (cells:List C) (xs:List C) :jt b cells (.agg xs) = .agg xs:=rfl
def tQ (cells:List C) (b o n:Nat) :C:=if o+n≤cells.length then .sl .no n (((cells.drop o).take n).map C.noR) else .sv b o n
theorem TK (b:Nat) (cells:List C) (o n:Nat) :jt b cells (.sv b o n) =tQ cells b o n:=by simp[jt,tQ]
theorem uz {α:Type} (f:α→List C) [hf:Cel f 1] (b n:Nat) (l:List α) (r:List C) (h:n=l.length) :tQ (cl f l++r) b 0 n=sl f .no l:=by
 subst h
 unfold tQ
 have hl:=co (f:=f) l
 simp only[List.length_append,hl,Nat.zero_add,Nat.mul_one,Nat.le_add_right,if_true,List.drop_zero]
 rw[List.take_append_of_le_length (by rw[hl];omega),List.take_of_length_le (by rw[hl];omega),fG]
 rfl
theorem Ny {α β:Type} (f:α→List C) {s:Nat} [hf:Cel f s] (g:β→List C) [hg:Cel g 1] (b o n:Nat) (l:List α) (l':List β) (r:List C) (h:l.length*s=o) (h2:n=l'.length) :tQ (cl f l++(cl g l'++r)) b o n=sl g .no l':=by
 have e:=uz g b n l' r h2
 unfold tQ at e ⊢
 have hl:=co (f:=f) l
 have hd: (cl f l++(cl g l'++r)).drop o=cl g l'++r:=by
  rw[List.drop_append,List.drop_of_length_le (by rw[hl];omega),hl,h,Nat.sub_self];rfl
 rw[hd]
 rw[List.drop_zero] at e
 by_cases hh:0+n≤(cl g l'++r).length
 · rw[if_pos hh] at e
   rw[if_pos (by rw[List.length_append,hl];omega),e]
 · rw[if_neg hh] at e;cases e
theorem Hu: ∀ (f:Nat) (az:List C),eu az=true→(fun _ _=>none:Nat→List C→Option C) f az=none:=fun _ _ _=>rfl
theorem fv {pu:Nat→List C→Option C} (hno: ∀f az,eu az=true→pu f az=none) {α:Type} {enc:α→List C} {out:α→C} {f:Nat} (he: ∀a,noRefs 0 (enc a) =true) : ∀g az,eu az=true→Sx.ext pu f (cd enc out) g az=none:=fun g az hr=>by
 by_cases hgf:g=f
 · subst hgf
   rw[bL]
   cases hq:cd enc out az with
   |none=>rfl
   |some c=>
    obtain ⟨a,rfl,_⟩ :=nt hq
    have:=he a
    rw[xX _ hr] at this;cases this
 · rw[aW hgf];exact hno g az hr
theorem bv {P:Program} {km:TypeId→Value→Bool} {gl:Nat→C} {pu:Nat→List C→Option C} {N M:Nat} (hcx:CxOK ⟨P,N,gl,pu,fun _ _ _=>none,fun _=>false,km⟩)
 {α:Type} {enc:α→List C} {out:α→C} {f:Nat} (he: ∀a,noRefs 0 (enc a) =true) (h: ∀a,FC P gl f (enc a) [] (out a) []) :CxOK ⟨P,M,gl,Sx.ext pu f (cd enc out),fun _ _ _=>none,fun _=>false,km⟩ :=
 hcx.ext (M:=M) hcx.glo he h
theorem XC (l:List (BitVec 32)) (k:Nat) (a:BitVec 32) (h:k< l.length) :fm (cl wC l) k [.val (cA a)] =some (cl wC (l.set k a),.val undef) :=Eu (f:=wC) l k a h
theorem XD (l:List (UInt8)) (k:Nat) (a:UInt8) (h:k< l.length) :fm (cl bC l) k [.val (w8 a)] =some (cl bC (l.set k a),.val undef) :=Eu (f:=bC) l k a h
def slG (de:Option TD) (s:Nat) (p:Option Plan) :Option Plan:=match de with
 |some de=>if de.size=s then p else none
 |none=>none
section
variable (P:Program) (a1 b1:Nat) (z1:List Value)
def ET (de:Option TD) (s:Nat) (p q:Option Plan) :Option Plan:=match de with
 |some de=>if de.size=s then p else q
 |none=>q
theorem Hv (u:TypeDesc) (s y:Nat) (z:List Value) (p q:Option Plan) :ET (some ⟨u,s,y,z⟩) s p q=p:=if_pos rfl
def TL {α:Type} (f:α→List C) (e:TypeId) (r:Rt) (l:List α) (lo hi:Option C) :Option Plan:=ux P (some ⟨.slice e,a1,b1,z1⟩) (sl f r l) lo hi
theorem Nz {α:Type} (f:α→List C) {s0:Nat} [hf:Cel f s0] (e:TypeId) (r:Rt) (l:List α) (lo hi:Option C) :
 ux P (some ⟨.slice e,a1,b1,z1⟩) (sl f r l) lo hi=ET (td P e) s0 (ko hi lo l.length fun h k=>some (vp (sl f .no ((l.drop k).take (h - k))))) (TL P a1 b1 z1 f e r l lo hi) :=by
 unfold TL
 cases hq:td P e with
 |none=>rfl
 |some de=>
  obtain ⟨u,s,y,z⟩ :=de
  unfold ET
  simp only[]
  split
  · rename_i hs
    subst hs
    exact Tt P a1 b1 z1 f e r l lo hi u y z hq
  · rfl
theorem XE (n:Nat) (e:TypeId) (b o m:Nat) (h:n≤m∧n≠0) :Bq P (some ⟨.array n e,a1,b1,z1⟩) (.sv b o m) =EJ (td P e) fun _=>some (vp (.bp b o)) :=by
 unfold Bq EJ
 simp only[]
 cases td P e with
 |none=>rfl
 |some de=>simp only[];rw[if_pos h]
def Yp (e:TypeId) (x y:C) :Option Plan:=EL P (some ⟨.slice e,a1,b1,z1⟩) x y
theorem NA (e:TypeId) (b o n:Nat) (l:List UInt8) (h:0< n) :
 EL P (some ⟨.slice e,a1,b1,z1⟩) (.sv b o n) (.val (str l)) =ET (td P e) 1 (some (.wr b (fun cells=>qE cells o n 1 (cl bC (l.take n)) (min l.length n)) none)) (Yp P a1 b1 z1 e (.sv b o n) (.val (str l))) :=by
 unfold Yp
 cases hq:td P e with
 |none=>rfl
 |some de=>
  obtain ⟨u,s,y,z⟩ :=de
  unfold ET
  simp only[]
  split
  · rename_i hs
    subst hs
    exact TE P a1 b1 z1 e b o n l u y z hq h
  · rfl
end
def KD (de:Option TD) (k:Option Nat) (n:Nat) (xs:List C) :Option Plan:=qD de k fun s k=>if xs.length=n*s∧xs≠[] then some (vp (.kp (xs.drop (k*s)))) else none
theorem NB {α:Type} (f:α→List C) (P:Program) (a1 b1:Nat) (z1:List Value) (e:TypeId) (r:Rt) (l:List α) (i:C) :rc P (some ⟨.slice e,a1,b1,z1⟩) (sl f r l) i=KD (td P e) (fe i l.length) l.length (cl f l) :=Th P a1 b1 z1 f e r l i
theorem nz {α:Type} (f:α→List C) {s:Nat} [hf:Cel f s] (u:TypeDesc) (y:Nat) (z:List Value) (k:Nat) (l:List α) (h:k< l.length) :KD (some ⟨u,s,y,z⟩) (some k) l.length (cl f l) =some (vp (.kp ((cl f l).drop (k*s)))) :=by
 show (if (cl f l).length=l.length*s∧cl f l≠[] then some (vp (.kp ((cl f l).drop (k*s)))) else none) =_
 rw[if_pos ⟨co (f:=f) l,fun e=>by
  have h1:=co (f:=f) l
  rw[e] at h1
  have h2:=hf.pos
  have h3:l.length*s≠0:=Nat.mul_ne_zero (by omega) (by omega)
  exact h3 h1.symm⟩]
def Yq (de:Option TD) (k:Option Nat) (n:Nat) (xs:List C) :Option Plan:=qD de k fun s k=>if n*s≤xs.length then some (vp (.kp (xs.drop (k*s)))) else none
theorem NC (P:Program) (a1 b1:Nat) (z1:List Value) (n:Nat) (e:TypeId) (xs:List C) (i:C) :rc P (some ⟨.array n e,a1,b1,z1⟩) (.kp xs) i=Yq (td P e) (fe i n) n xs:=rfl
theorem Hw (u:TypeDesc) (s y:Nat) (z:List Value) (k n:Nat) (xs:List C) (h:n*s≤xs.length) :Yq (some ⟨u,s,y,z⟩) (some k) n xs=some (vp (.kp (xs.drop (k*s)))) :=if_pos h
theorem ND (b o n:Nat) (l:List C) :eu (.sv b o n::l) =true:=id rfl
theorem NE (b o:Nat) (l:List C) :eu (.bp b o::l) =true:=id rfl
theorem Hx (xs l:List C) :eu (.agg xs::l) =eu l:=id rfl
theorem Hy (v:Value) (l:List C) :eu (.val v::l) =eu l:=id rfl
theorem NF (xs l:List C) :eu (.kp xs::l) =eu l:=id rfl
theorem Hz {α:Type} (f:α→List C) (r:Rt) (x:List α) (l:List C) :eu (sl f r x::l) =eu l:=id rfl
theorem zw (x:BitVec 32) : (cA x).oneCell'=true:=id rfl
theorem EU (x:UInt8) : (w8 x).oneCell'=true:=id rfl
theorem EV (x:Nat) : (nI x).oneCell'=true:=id rfl
theorem EW (x:Nat) : (nU x).oneCell'=true:=id rfl
theorem zx (x:List UInt8) : (str x).oneCell'=true:=id rfl
theorem xY (x:Bool) : (Value.bool x).oneCell'=true:=id rfl
theorem uA: (Value.slice none 0 0).oneCell'=true:=id rfl
end Go.Sx
