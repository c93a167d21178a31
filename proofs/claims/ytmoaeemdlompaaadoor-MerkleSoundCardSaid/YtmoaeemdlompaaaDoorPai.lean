/-
   And what follows.
-/
import Derived.Test.YtmoaeemdlompaaaDoorPah
set_option linter.unusedSimpArgs false
set_option linter.unusedVariables false
namespace Go.Sx
open Go.RowKit
def cB (x:BitVec 32) :Value:= .int .u32 x.toNat
def w8 (x:UInt8) :Value:= .int .u8 x.toNat
def nI (n:Nat) :Value:= .int .i64 n
def nU (n:Nat) :Value:= .int .u64 n
def str (l:List UInt8) :Value:= .string ⟨l.toArray⟩
theorem SO (l:List UInt8) :Value.string ⟨l.toArray⟩ =str l:=rfl
theorem b7 {l l':List UInt8} :str l=str l'↔l=l':=by
 constructor
 · intro h
   simp only[str,Value.string.injEq,ByteArray.mk.injEq] at h
   simpa using congrArg Array.toList h
 · rintro rfl;rfl
theorem cn {a b:UInt8} :w8 a=w8 b↔a=b:=by
 simp only[w8,Value.int.injEq,true_and]
 constructor
 · intro h;exact UInt8.toNat_inj.1 (by omega)
 · rintro rfl;rfl
theorem b8 {a b:BitVec 32} :cB a=cB b↔a=b:=by
 simp only[cB,Value.int.injEq,true_and]
 constructor
 · intro h;exact BitVec.eq_of_toNat_eq (by omega)
 · rintro rfl;rfl
theorem ca {a b:Nat} :nI a=nI b↔a=b:=by simp only[nI,Value.int.injEq,true_and];omega
theorem co {a b:Nat} :nU a=nU b↔a=b:=by simp only[nU,Value.int.injEq,true_and];omega
def cl {α:Type} (f:α→List C) (l:List α) :List C:=l.flatMap f
def sl {α:Type} (f:α→List C) (r:Rt) (l:List α) :C:= .sl r l.length (cl f l)
class Cel {α:Type} (f:α→List C) (s:outParam Nat) :Prop where
 len: ∀a,(f a).length=s
 clean: ∀a,(f a).map C.noR=f a
 pos:0< s
 live: ∀a r,cI (some (f a++r)) =some (f a++r)
class Sca {α:Type} (f:α→List C) (g:outParam (α→C)) :Prop where
 one: ∀a,f a= [g a]
 clean: ∀a,(g a).noR=g a
 cells: ∀a,(g a).cells?=some [g a]
 live: ∀a r,cI (some (g a::r)) =some (g a::r)
def bC (b:UInt8) :List C:= [.val (w8 b)]
def wC (b:BitVec 32) :List C:= [.val (cB b)]
def sC (b:List UInt8) :List C:= [.val (str b)]
def iC (b:Int) :List C:= [.val (.int .i64 b)]
def nC (b:Nat) :List C:= [.val (nI b)]
def oC (b:Bool) :List C:= [.val (.bool b)]
instance:Sca bC (fun b=> .val (w8 b)) := ⟨fun _=>rfl,fun _=>rfl,fun _=>rfl,fun _ _=>rfl⟩
instance:Sca wC (fun b=> .val (cB b)) := ⟨fun _=>rfl,fun _=>rfl,fun _=>rfl,fun _ _=>rfl⟩
instance:Sca sC (fun b=> .val (str b)) := ⟨fun _=>rfl,fun _=>rfl,fun _=>rfl,fun _ _=>rfl⟩
instance:Sca iC (fun b=> .val (.int .i64 b)) := ⟨fun _=>rfl,fun _=>rfl,fun _=>rfl,fun _ _=>rfl⟩
instance:Sca nC (fun b=> .val (nI b)) := ⟨fun _=>rfl,fun _=>rfl,fun _=>rfl,fun _ _=>rfl⟩
instance:Sca oC (fun b=> .val (.bool b)) := ⟨fun _=>rfl,fun _=>rfl,fun _=>rfl,fun _ _=>rfl⟩
instance {α:Type} {f:α→List C} {g:α→C} [h:Sca f g] :Cel f 1:= ⟨fun a=>by rw[h.one];rfl,fun a=>by rw[h.one];simp[h.clean],by decide,fun a r=>by rw[h.one];exact h.live a r⟩
theorem xR (l:List UInt8) :l.map j0=cl bC l:=by
 unfold cl;induction l with
 |nil=>rfl
 |cons a l ih=>simp only[List.map_cons,ih,List.flatMap_cons];rfl
section
variable {α:Type} {f:α→List C} {s:Nat} [hf:Cel f s]
omit hf in
theorem lM:cl f [] = [] :=rfl
omit hf in
theorem ef (a:α) (l:List α) :cl f (a::l) =f a++cl f l:=rfl
omit hf in
theorem iW (l l':List α) :cl f (l++l') =cl f l++cl f l':=by simp[cl]
theorem cp: ∀l:List α,(cl f l).length=l.length*s
 | [] =>by simp[cl]
 |a::l=>by rw[ef,List.length_append,hf.len,cp l,List.length_cons,Nat.add_mul,Nat.one_mul,Nat.add_comm]
include hf in
theorem fI: ∀l:List α,(cl f l).map C.noR=cl f l
 | [] =>rfl
 |a::l=>by rw[ef,List.map_append,hf.clean,fI l]
theorem gy: ∀ (l:List α) (k:Nat),(cl f l).drop (k*s) =cl f (l.drop k)
 |l,0=>by simp
 | [],k+1=>by simp[cl]
 |a::l,k+1=>by
  have e: (k+1)*s=s+k*s:=by rw[Nat.add_mul,Nat.one_mul,Nat.add_comm]
  have h: ((f a)++cl f l).drop s=cl f l:=by
   have:=List.drop_left (l₁:=f a) (l₂:=cl f l)
   rwa [hf.len] at this
  rw[ef,e,←List.drop_drop,h,List.drop_succ_cons]
  exact gy l k
theorem je: ∀ (l:List α) (k:Nat),(cl f l).take (k*s) =cl f (l.take k)
 |l,0=>by simp[cl]
 | [],k+1=>by simp[cl]
 |a::l,k+1=>by
  have e: (k+1)*s=s+k*s:=by rw[Nat.add_mul,Nat.one_mul,Nat.add_comm]
  rw[ef,e,List.take_append,hf.len,List.take_of_length_le (by rw[hf.len];omega),List.take_succ_cons,ef,Nat.add_sub_cancel_left,je l k]
theorem lN (l:List α) (k:Nat) (a:α) (h:k< l.length) :splice (cl f l) (k*s) (f a) =cl f (l.set k a) :=by
 unfold splice
 rw[je,hf.len,←Nat.succ_mul,gy,List.set_eq_take_append_cons_drop,if_pos h,iW,ef,List.append_assoc]
theorem Er (l l':List α) (k:Nat) :splice (cl f l) (k*s) (cl f l') =cl f (l.take k++l'++l.drop (k+l'.length)) :=by
 unfold splice
 rw[je,cp,←Nat.add_mul,gy,iW,iW]
theorem Ky (l:List α) (k:Nat) (a:α) (h:l[k]? =some a) : ((cl f l).drop (k*s)).take s=f a:=by
 rw[gy]
 obtain ⟨hk,rfl⟩ :=List.getElem?_eq_some_iff.1 h
 rw[List.drop_eq_getElem_cons hk,ef,List.take_append,hf.len,Nat.sub_self,List.take_zero,List.append_nil,List.take_of_length_le (by rw[hf.len];exact Nat.le_refl _)]
end
section
variable {α:Type} [Inhabited α] {f:α→List C} {g:α→C} [hf:Sca f g]
theorem Es (l:List α) (k:Nat) (h:k< l.length) : (cl f l)[k]? =some (g (l.getD k default)) :=by
 have hq:l[k]? =some (l.getD k default) :=by simp[List.getD,List.getElem?_eq_getElem h]
 have:=Ky (f:=f) l k _ hq
 rw[Nat.mul_one,hf.one] at this
 have h2:=congrArg (fun z=>z[0]?) this
 simpa[List.getElem?_take,List.getElem?_drop] using h2
end
theorem GM (x:Option (List C)) (h:Hp) :Hp.at (x::h) 0=cI x:=rfl
theorem Et:cI (some eL) =none:=rfl
theorem GN (v:Value) (r:List C) :cI (some (.val v::r)) =some (.val v::r) :=rfl
theorem MJ (f:Nat) (xs r:List C) :cI (some (.fn f xs::r)) =some (.fn f xs::r) :=rfl
theorem GO {α:Type} (f:α→List C) (q:Rt) (l:List α) (r:List C) :cI (some (sl f q l::r)) =some (sl f q l::r) :=rfl
theorem MK {α:Type} (f:α→List C) {s:Nat} [hf:Cel f s] (l:List α) :cI (some (cl f l)) =some (cl f l) :=by
 cases l with
 |nil=>rfl
 |cons a l=>exact hf.live a _
theorem SP {α:Type} (f:α→List C) {s:Nat} [hf:Cel f s] (a:α) :cI (some (f a)) =some (f a) :=by
 have:=hf.live a []
 simpa using this
theorem rc {α:Type} (f:α→List C) {s:Nat} [hf:Cel f s] (l:List α) (r:List C) (h:cI (some r) =some r) :cI (some (cl f l++r)) =some (cl f l++r) :=by
 cases l with
 |nil=>exact h
 |cons a l=>rw[ef,List.append_assoc];exact hf.live a _
theorem GP (x:Option (List C)) (h:Hp) (n:Nat) :Hp.at (x::h) (n+1) =Hp.at h n:=by simp[Hp.at]
def eK (cells:List C) (o:Nat) :Option C:= (cells[o]?).map C.noR
def kj (cells:List C) (o n:Nat) :Option C:=if o+n≤cells.length then some (.agg (((cells.drop o).take n).map C.noR)) else none
def fo (cells:List C) (o:Nat) (cs:List C) :Option (List C×C) :=if o+cs.length≤cells.length then some (splice cells o cs,.val undef) else none
def Eu (cells:List C) (o:Nat) (c:C) :Option (List C×C) :=if o< cells.length then some (cells.set o c,.val undef) else none
theorem uw (c:C) (l:List C) :eK (c::l) 0=some c.noR:=rfl
theorem Ew (c:C) (l:List C) (n:Nat) :eK (c::l) (n+1) =eK l n:=by simp[eK]
theorem nv (l:List C) (k n:Nat) :eK (l.drop k) n=eK l (k+n) :=by simp[eK,List.getElem?_drop]
theorem sz {α:Type} [Inhabited α] {f:α→List C} {g:α→C} [hf:Sca f g] (l:List α) (k:Nat) (h:k< l.length) :eK (cl f l) k=some (g (l.getD k default)) :=by
 simp only[eK,Es (f:=f) l k h,Option.map_some,hf.clean]
theorem ML {α:Type} [Inhabited α] {f:α→List C} {g:α→C} [hf:Sca f g] (l:List α) (r:List C) (k:Nat) (h:k< l.length) :eK (cl f l++r) k=some (g (l.getD k default)) :=by
 rw[←sz (f:=f) l k h]
 simp only[eK]
 rw[List.getElem?_append_left (by rw[cp (f:=f)];omega)]
theorem zq {α:Type} {f:α→List C} {s:Nat} [hf:Cel f s] (l:List α) (r:List C) (k:Nat) (h:l.length*s≤k) :eK (cl f l++r) k=eK r (k - l.length*s) :=by
 simp only[eK]
 rw[List.getElem?_append_right (by rw[cp (f:=f)];exact h),cp (f:=f)]
theorem MM {α:Type} {f:α→List C} {s:Nat} [hf:Cel f s] (l:List α) (r:List C) (n:Nat) (h:l.length*s=n) :kj (cl f l++r) 0 n=some (.agg (cl f l)) :=by
 subst h
 simp only[kj,Nat.zero_add,List.length_append,cp (f:=f),Nat.le_add_right,if_true,List.drop_zero]
 rw[←cp (f:=f) l,List.take_left,fI]
theorem MN {α:Type} [Inhabited α] {f:α→List C} {s:Nat} [hf:Cel f s] (l:List α) (k:Nat) (h:k< l.length) :kj (cl f l) (k*s) s=some (.agg (f (l.getD k default))) :=by
 have hq:l[k]? =some (l.getD k default) :=by simp[List.getD,List.getElem?_eq_getElem h]
 simp only[kj]
 rw[if_pos (by rw[cp (f:=f),←Nat.succ_mul];exact Nat.mul_le_mul_right _ h),Ky (f:=f) l k _ hq,hf.clean]
theorem Ey {α:Type} {f:α→List C} {g:α→C} [hf:Sca f g] (l:List α) (k:Nat) (a:α) (h:k< l.length) :fo (cl f l) k [g a] =some (cl f (l.set k a),.val undef) :=by
 have:=lN (f:=f) l k a h
 rw[Nat.mul_one,hf.one] at this
 simp only[fo]
 rw[if_pos (by rw[cp (f:=f)];simp;omega),this]
theorem qC (x r cs:List C) (o:Nat) (h:o+cs.length≤x.length) :splice (x++r) o cs=splice x o cs++r:=by
 unfold splice
 rw[List.take_append_of_le_length (by omega),List.drop_append_of_le_length h]
 simp
theorem qD (x r cs:List C) (o:Nat) (h:x.length≤o) :splice (x++r) o cs=x++splice r (o - x.length) cs:=by
 unfold splice
 rw[List.take_append,List.take_of_length_le h,List.drop_append,List.drop_of_length_le (by omega)]
 simp
 congr 1;omega
theorem zr {α:Type} {f:α→List C} {s:Nat} [hf:Cel f s] (l:List α) (r cs:List C) (o:Nat) (h:l.length*s≤o) :fo (cl f l++r) o cs= (fo r (o - l.length*s) cs).map fun q=> (cl f l++q.1,q.2) :=by
 have hl:=cp (f:=f) l
 simp only[fo,List.length_append,hl]
 rw[qD _ _ _ _ (by rw[hl];exact h),hl]
 by_cases hh:o+cs.length≤l.length*s+r.length
 · rw[if_pos hh,if_pos (by omega)];rfl
 · rw[if_neg hh,if_neg (by omega)];rfl
theorem zt {α:Type} {f:α→List C} {s:Nat} [hf:Cel f s] (l l':List α) (h:l'.length=l.length) :fo (cl f l) 0 (cl f l') =some (cl f l',.val undef) :=by
 simp only[fo,cp (f:=f),h,Nat.zero_add,Nat.le_refl,if_true,splice,List.take_zero,List.nil_append]
 rw[List.drop_of_length_le (by rw[cp (f:=f)];exact Nat.le_refl _),List.append_nil]
theorem GQ {α:Type} {f:α→List C} {s:Nat} [hf:Cel f s] (l l':List α) (r:List C) (h:l'.length=l.length) :fo (cl f l++r) 0 (cl f l') =some (cl f l'++r,.val undef) :=by
 have hl:=cp (f:=f) l
 have hl':=cp (f:=f) l'
 have:=zt (f:=f) l l' h
 simp only[fo,List.length_append,hl,hl',h,Nat.zero_add,Nat.le_refl,Nat.le_add_right,if_true] at this ⊢
 rw[qC _ _ _ _ (by rw[hl,hl',h,Nat.zero_add];exact Nat.le_refl _)]
 simp only[Option.some.injEq,Prod.mk.injEq,and_true] at this
 rw[this]
theorem MO (a c:C) :Eu [a] 0 c=some ([c],.val undef) :=rfl
end Go.Sx
namespace Go.Sx
open Go.RowKit
theorem kU (n:Int) :IntKind.wrap .u8 n=n % 256:=by simp[IntKind.wrap,IntKind.bits,IntKind.signed]
theorem nw (n:Int) :IntKind.wrap .u32 n=n % 4294967296:=by simp[IntKind.wrap,IntKind.bits,IntKind.signed]
theorem i3 (n:Int) :IntKind.wrap .u64 n=n % 18446744073709551616:=by simp[IntKind.wrap,IntKind.bits,IntKind.signed]
theorem fg (n:Int) (h: -9223372036854775808≤n) (h2:n< 9223372036854775808) :IntKind.wrap .i64 n=n:=by
 have e:IntKind.wrap .i64 n=if n % 18446744073709551616≥9223372036854775808 then n % 18446744073709551616 - 18446744073709551616 else n % 18446744073709551616:=by
  simp[IntKind.wrap,IntKind.bits,IntKind.signed]
 rw[e]
 split<;>omega
theorem ny (z:BitVec 32) :IntKind.wrap .u32 (z.toNat:Int) =z.toNat:=by rw[nw];have:=z.isLt;omega
theorem ir (z:BitVec 32) :BitVec.ofInt 32 (z.toNat:Int) =z:=by simp
theorem MP (n:Nat) (h:n< 4294967296) :Value.int .u32 (n:Int) =cB (BitVec.ofNat 32 n) :=by
 simp only[cB,BitVec.toNat_ofNat];rw[Nat.mod_eq_of_lt (by simpa using h)]
theorem GR (n:Nat) (h:n< 4294967296) :Value.int .u32 (no_index (OfNat.ofNat n:Int)) =cB (BitVec.ofNat 32 n) :=MP n h
theorem MQ (n:Nat) (h:n< 256) :Value.int .u8 (no_index (OfNat.ofNat n:Int)) =w8 (UInt8.ofNat n) :=by
 simp only[w8,UInt8.toNat_ofNat'];rw[Nat.mod_eq_of_lt (by simpa using h)];rfl
theorem MR (n:Nat) :Value.int .i64 (no_index (OfNat.ofNat n:Int)) =nI n:=rfl
theorem MS (n:Nat) :Value.int .u64 (no_index (OfNat.ofNat n:Int)) =nU n:=rfl
section
variable (P:Program) (t:TypeId)
theorem cE (op:BinOp) (k k':IntKind) (a b:Int) :aW P op t (.val (.int k a)) (.val (.int k' b)) = (cY op (.int k a) (.int k' b)).map fun v=>vp (.val v) :=by
 unfold aW;cases td P t<;>rfl
theorem kV (op:BinOp) (a b:ByteArray) :aW P op t (.val (.string a)) (.val (.string b)) = (cY op (.string a) (.string b)).map fun v=>vp (.val v) :=by
 unfold aW;cases td P t<;>rfl
def GS (op:BinOp) (d:Option TD) (a b:Bool) (p:Option Plan) :Option Plan:=match d with
 |some d=> (match d.u with
  | .bool=> (match op with
    | .eql=>some (vp (.val (.bool (a==b))))
    | .neq=>some (vp (.val (.bool (!(a==b)))))
    |_=>none)
  |_=>none)
 |none=>p
theorem GT (op:BinOp) (a b:Bool) :aW P op t (.val (.bool a)) (.val (.bool b)) =GS op (td P t) a b (gu P op t (.val (.bool a)) (.val (.bool b))) :=by
 unfold aW GS
 cases td P t with
 |none=>rfl
 |some d=>
  simp only[]
  cases d.u<;>first|rfl| (cases op<;>rfl)
theorem GU (s y:Nat) (z:List Value) (a b:Bool) (p:Option Plan) :GS .eql (some ⟨.bool,s,y,z⟩) a b p=some (vp (.val (.bool (a==b)))) :=rfl
theorem Xa (x y:BitVec 32) :aW P .add t (.val (cB x)) (.val (cB y)) =some (vp (.val (cB (x+y)))) :=by
 simp only[cB,cE,cY,ne_eq,not_true_eq_false,if_false,Option.map_some,nw,BitVec.toNat_add];simp
theorem Xb (x y:BitVec 32) :aW P .xor t (.val (cB x)) (.val (cB y)) =some (vp (.val (cB (x ^^^ y)))) :=by
 simp only[cB,cE]
 show some (vp (.val (.int .u32 (IntKind.wrap .u32 ((BitVec.ofInt 32 (x.toNat:Int) ^^^ BitVec.ofInt 32 (y.toNat:Int)).toNat:Int))))) =_
 rw[ir,ir,ny]
theorem Xc (x y:BitVec 32) :aW P .and t (.val (cB x)) (.val (cB y)) =some (vp (.val (cB (x &&& y)))) :=by
 simp only[cB,cE]
 show some (vp (.val (.int .u32 (IntKind.wrap .u32 ((BitVec.ofInt 32 (x.toNat:Int) &&& BitVec.ofInt 32 (y.toNat:Int)).toNat:Int))))) =_
 rw[ir,ir,ny]
theorem aaX (x y:BitVec 32) :aW P .or t (.val (cB x)) (.val (cB y)) =some (vp (.val (cB (x|||y)))) :=by
 simp only[cB,cE]
 show some (vp (.val (.int .u32 (IntKind.wrap .u32 ((BitVec.ofInt 32 (x.toNat:Int) |||BitVec.ofInt 32 (y.toNat:Int)).toNat:Int))))) =_
 rw[ir,ir,ny]
theorem Xd (x:BitVec 32) :gT .xor (.val (cB x)) =some (vp (.val (cB (~~~x)))) :=by
 show some (vp (.val (.int .u32 (IntKind.wrap .u32 ((BitVec.ofInt 32 4294967295 ^^^ BitVec.ofInt 32 (x.toNat:Int)).toNat:Int))))) =_
 have e:BitVec.ofInt 32 4294967295=BitVec.allOnes 32:=by decide
 rw[ir,e,BitVec.allOnes_xor,ny]
 rfl
theorem Kz (x:BitVec 32) (k:IntKind) (n:Nat) :aW P .shl t (.val (cB x)) (.val (.int k n)) =some (vp (.val (cB (x<<< n)))) :=by
 rw[cB,cE]
 have e:cY .shl (.int .u32 (x.toNat:Int)) (.int k (n:Int)) =some (.int .u32 (IntKind.wrap .u32 ((x.toNat:Int)*2 ^ (min n 32)))) :=by
  show (if (n:Int) < 0 then none else _) =_
  rw[if_neg (by omega)]
  rfl
 rw[e,nw,cB,BitVec.toNat_shiftLeft,Nat.shiftLeft_eq]
 show some (vp (.val _)) =_
 congr 4
 have ep: ∀m:Nat,(x.toNat:Int)*2 ^ m= ((x.toNat*2 ^ m:Nat) :Int) :=fun m=>by rw[Int.natCast_mul,Int.natCast_pow];rfl
 by_cases h:n≤32
 · rw[Nat.min_eq_left h,ep];exact (Int.natCast_emod _ 4294967296).symm
 · rw[Nat.min_eq_right (by omega)]
   obtain ⟨m,rfl⟩ : ∃m,n=32+m:= ⟨n - 32,by omega⟩
   rw[Nat.pow_add,←Nat.mul_assoc,Nat.mul_right_comm,Nat.mul_mod_left]
   omega
theorem KA (x:BitVec 32) (k:IntKind) (n:Nat) :aW P .shr t (.val (cB x)) (.val (.int k n)) =some (vp (.val (cB (x>>>n)))) :=by
 rw[cB,cE]
 have e:cY .shr (.int .u32 (x.toNat:Int)) (.int k (n:Int)) =some (.int .u32 ((x.toNat:Int).fdiv (2 ^ (min n 32)))) :=by
  show (if (n:Int) < 0 then none else _) =_
  rw[if_neg (by omega)]
  rfl
 rw[e,cB,BitVec.toNat_ushiftRight,Nat.shiftRight_eq_div_pow]
 show some (vp (.val _)) =_
 congr 4
 have hx:=x.isLt
 by_cases h:n≤32
 · rw[Nat.min_eq_left h,Int.fdiv_eq_ediv_of_nonneg _ (Int.le_of_lt (Int.pow_pos (by decide)))]
   have ep: (2:Int) ^ n= ((2 ^ n:Nat) :Int) :=by rw[Int.natCast_pow];rfl
   rw[ep,←Int.natCast_ediv]
 · rw[Nat.min_eq_right (by omega),Nat.div_eq_of_lt (Nat.lt_of_lt_of_le hx (Nat.pow_le_pow_right (by omega) (by omega)))]
   rw[Int.fdiv_eq_ediv_of_nonneg _ (by omega)];omega
end
end Go.Sx
namespace Go.Sx
open Go.RowKit
theorem MT (z:UInt8) :IntKind.wrap .u8 (z.toNat:Int) =z.toNat:=by rw[kU];have:=z.toNat_lt;omega
theorem xS (z:UInt8) :BitVec.ofInt 8 (z.toNat:Int) =z.toBitVec:=by
 apply BitVec.eq_of_toNat_eq;simp
section
variable (P:Program) (t:TypeId)
theorem Xe (x y:UInt8) :aW P .xor t (.val (w8 x)) (.val (w8 y)) =some (vp (.val (w8 (x ^^^ y)))) :=by
 simp only[w8,cE]
 show some (vp (.val (.int .u8 (IntKind.wrap .u8 ((BitVec.ofInt 8 (x.toNat:Int) ^^^ BitVec.ofInt 8 (y.toNat:Int)).toNat:Int))))) =_
 rw[xS,xS]
 show some (vp (.val (.int .u8 (IntKind.wrap .u8 ((x ^^^ y).toNat:Int))))) =_
 rw[MT]
theorem Xf (x y:UInt8) :aW P .sub t (.val (w8 x)) (.val (w8 y)) =some (vp (.val (w8 (x - y)))) :=by
 simp only[w8,cE,cY,ne_eq,not_true_eq_false,if_false,Option.map_some,kU,UInt8.toNat_sub]
 have:=x.toNat_lt;have:=y.toNat_lt
 congr 4;omega
theorem Xg (x y:Nat) (h:x+y< 9223372036854775808) :aW P .add t (.val (nI x)) (.val (nI y)) =some (vp (.val (nI (x+y)))) :=by
 simp only[nI,cE,cY,ne_eq,not_true_eq_false,if_false,Option.map_some]
 rw[fg _ (by omega) (by omega)];simp
theorem Xh (x y:Nat) (h:y≤x∧x< 9223372036854775808) :aW P .sub t (.val (nI x)) (.val (nI y)) =some (vp (.val (nI (x - y)))) :=by
 simp only[nI,cE,cY,ne_eq,not_true_eq_false,if_false,Option.map_some]
 rw[fg _ (by omega) (by omega)];congr 4;omega
theorem Xi (x y:Nat) (h:x*y< 9223372036854775808) :aW P .mul t (.val (nI x)) (.val (nI y)) =some (vp (.val (nI (x*y)))) :=by
 have e: (x:Int)*(y:Int) = ((x*y:Nat) :Int) :=by simp
 simp only[nI,cE,cY,ne_eq,not_true_eq_false,if_false,Option.map_some]
 rw[e,fg _ (by omega) (by omega)]
theorem Xj (x y:Nat) (h:0< y∧x< 9223372036854775808) :aW P .quo t (.val (nI x)) (.val (nI y)) =some (vp (.val (nI (x / y)))) :=by
 have hy: (y:Int)≠0:=by omega
 have h2:x / y≤x:=Nat.div_le_self ..
 simp only[nI,cE,cY,ne_eq,not_true_eq_false,if_false,Option.map_some,hy]
 have e: ((x:Int).tdiv (y:Int)) = ((x / y:Nat) :Int) :=rfl
 rw[e]
 generalize x / y=q at h2
 rw[fg _ (by omega) (by omega)]
theorem Xk (x y:Nat) (h:0< y) :aW P .rem t (.val (nI x)) (.val (nI y)) =some (vp (.val (nI (x % y)))) :=by
 have hy: (y:Int)≠0:=by omega
 simp only[nI,cE,cY,ne_eq,not_true_eq_false,if_false,Option.map_some,hy]
 rfl
theorem Xl (x y:Nat) :aW P .eql t (.val (nI x)) (.val (nI y)) =some (vp (.val (.bool (decide (x=y))))) :=by
 simp only[nI,cE,cY,ne_eq,not_true_eq_false,if_false,Option.map_some]
 congr 4;rw[Bool.eq_iff_iff];simp;omega
theorem Xm (x y:Nat) :aW P .neq t (.val (nI x)) (.val (nI y)) =some (vp (.val (.bool (decide (x≠y))))) :=by
 simp only[nI,cE,cY,ne_eq,not_true_eq_false,if_false,Option.map_some]
 congr 4;rw[Bool.eq_iff_iff];simp;omega
theorem Xn (x y:Nat) :aW P .lss t (.val (nI x)) (.val (nI y)) =some (vp (.val (.bool (decide (x< y))))) :=by
 simp only[nI,cE,cY,ne_eq,not_true_eq_false,if_false,Option.map_some]
 congr 4;rw[Bool.eq_iff_iff];simp
theorem Xo (x y:Nat) :aW P .leq t (.val (nI x)) (.val (nI y)) =some (vp (.val (.bool (decide (x≤y))))) :=by
 simp only[nI,cE,cY,ne_eq,not_true_eq_false,if_false,Option.map_some]
 congr 4;rw[Bool.eq_iff_iff];simp
theorem Xp (x y:Nat) :aW P .gtr t (.val (nI x)) (.val (nI y)) =some (vp (.val (.bool (decide (y< x))))) :=by
 simp only[nI,cE,cY,ne_eq,not_true_eq_false,if_false,Option.map_some]
 congr 4;rw[Bool.eq_iff_iff];simp
theorem Xq (x y:Nat) :aW P .geq t (.val (nI x)) (.val (nI y)) =some (vp (.val (.bool (decide (y≤x))))) :=by
 simp only[nI,cE,cY,ne_eq,not_true_eq_false,if_false,Option.map_some]
 congr 4;rw[Bool.eq_iff_iff];simp
theorem Xr (x y:Nat) (h:x+y< 18446744073709551616) :aW P .add t (.val (nU x)) (.val (nU y)) =some (vp (.val (nU (x+y)))) :=by
 simp only[nU,cE,cY,ne_eq,not_true_eq_false,if_false,Option.map_some,i3]
 congr 4;omega
theorem Xs (x y:Nat) (h:y≤x∧x< 18446744073709551616) :aW P .sub t (.val (nU x)) (.val (nU y)) =some (vp (.val (nU (x - y)))) :=by
 simp only[nU,cE,cY,ne_eq,not_true_eq_false,if_false,Option.map_some,i3]
 congr 4;omega
theorem Xt (x y:Nat) (h:x*y< 18446744073709551616) :aW P .mul t (.val (nU x)) (.val (nU y)) =some (vp (.val (nU (x*y)))) :=by
 have e: (x:Int)*(y:Int) = ((x*y:Nat) :Int) :=by simp
 simp only[nU,cE,cY,ne_eq,not_true_eq_false,if_false,Option.map_some,i3]
 rw[e];congr 4;omega
theorem Xu (x y:Nat) (h:0< y) :aW P .rem t (.val (nU x)) (.val (nU y)) =some (vp (.val (nU (x % y)))) :=by
 have hy: (y:Int)≠0:=by omega
 simp only[nU,cE,cY,ne_eq,not_true_eq_false,if_false,Option.map_some,hy]
 rfl
theorem Xv (x y:Nat) (h:x< 18446744073709551616∧y< 18446744073709551616) :aW P .and t (.val (nU x)) (.val (nU y)) =some (vp (.val (nU (x &&& y)))) :=by
 simp only[nU,cE]
 show some (vp (.val (.int .u64 (IntKind.wrap .u64 ((BitVec.ofInt 64 (x:Int) &&& BitVec.ofInt 64 (y:Int)).toNat:Int))))) =_
 rw[BitVec.ofInt_natCast,BitVec.ofInt_natCast,BitVec.toNat_and,BitVec.toNat_ofNat,BitVec.toNat_ofNat,Nat.mod_eq_of_lt h.1,Nat.mod_eq_of_lt h.2,i3]
 have:x &&& y≤x:=Nat.and_le_left
 congr 4;omega
theorem KB (x n:Nat) (k:IntKind) (h:x< 18446744073709551616) :aW P .shr t (.val (nU x)) (.val (.int k n)) =some (vp (.val (nU (x>>>n)))) :=by
 rw[nU,cE]
 have e:cY .shr (.int .u64 (x:Int)) (.int k (n:Int)) =some (.int .u64 ((x:Int).fdiv (2 ^ (min n 64)))) :=by
  show (if (n:Int) < 0 then none else _) =_
  rw[if_neg (by omega)]
  rfl
 rw[e,nU,Nat.shiftRight_eq_div_pow]
 show some (vp (.val _)) =_
 congr 4
 by_cases h:n≤64
 · rw[Nat.min_eq_left h,Int.fdiv_eq_ediv_of_nonneg _ (Int.le_of_lt (Int.pow_pos (by decide)))]
   have ep: (2:Int) ^ n= ((2 ^ n:Nat) :Int) :=by rw[Int.natCast_pow];rfl
   rw[ep,←Int.natCast_ediv]
 · rename_i hx
   rw[Nat.min_eq_right (by omega),Nat.div_eq_of_lt (Nat.lt_of_lt_of_le hx (by
    have: (2:Nat) ^ 64≤2 ^ n:=Nat.pow_le_pow_right (by omega) (by omega)
    omega))]
   rw[Int.fdiv_eq_ediv_of_nonneg _ (by omega)];omega
theorem Ez (x n:Nat) (h:x< 18446744073709551616) :aW P .shr t (.val (nU x)) (.val (nI n)) =some (vp (.val (nU (x>>>n)))) :=KB P t x n .i64 h
theorem SQ (x n:Nat) (h:x< 18446744073709551616) :aW P .shr t (.val (nU x)) (.val (nU n)) =some (vp (.val (nU (x>>>n)))) :=KB P t x n .u64 h
theorem SS (x:BitVec 32) (n:Nat) :aW P .shl t (.val (cB x)) (.val (nI n)) =some (vp (.val (cB (x<<< n)))) :=Kz P t x .i64 n
theorem ST (x:BitVec 32) (n:Nat) :aW P .shl t (.val (cB x)) (.val (nU n)) =some (vp (.val (cB (x<<< n)))) :=Kz P t x .u64 n
theorem SU (x:BitVec 32) (n:Nat) :aW P .shr t (.val (cB x)) (.val (nI n)) =some (vp (.val (cB (x>>>n)))) :=KA P t x .i64 n
theorem SV (x:BitVec 32) (n:Nat) :aW P .shr t (.val (cB x)) (.val (nU n)) =some (vp (.val (cB (x>>>n)))) :=KA P t x .u64 n
theorem jN (l:List UInt8) : (⟨l.toArray⟩ :ByteArray).size=l.length:=by simp[ByteArray.size]
theorem kn (l:List UInt8) : (⟨l.toArray⟩ :ByteArray).toList=l:=by
 have key: ∀ (n:Nat) (i:Nat) (r:List UInt8),l.length - i=n→i≤l.length→ByteArray.toList.loop ⟨l.toArray⟩ i r=r.reverse++l.drop i:=by
  intro n
  induction n with
  |zero=>
   intro i r h hi
   rw[ByteArray.toList.loop,jN,if_neg (by omega),List.drop_of_length_le (by omega),List.append_nil]
  |succ n ih=>
   intro i r h hi
   rw[ByteArray.toList.loop,jN,if_pos (by omega),ih _ _ (by omega) (by omega)]
   have hlt:i< l.length:=by omega
   rw[List.drop_eq_getElem_cons hlt]
   simp[ByteArray.get!,hlt]
 have:=key l.length 0 [] rfl (Nat.zero_le _)
 simpa[ByteArray.toList] using this
theorem Xw (x y:List UInt8) :aW P .eql t (.val (str x)) (.val (str y)) =some (vp (.val (.bool (decide (x=y))))) :=by
 simp only[str,kV,cY,kn,Option.map_some]
 congr 4
 rw[Bool.eq_iff_iff];simp
theorem Xx (x y:List UInt8) :aW P .neq t (.val (str x)) (.val (str y)) =some (vp (.val (.bool (decide (x≠y))))) :=by
 simp only[str,kV,cY,kn,Option.map_some]
 congr 4
 by_cases h:x=y<;>simp[h]
theorem Xy (x y:List UInt8) (h:x.length+y.length< 9223372036854775808) :aW P .add t (.val (str x)) (.val (str y)) =some (vp (.val (str (x++y)))) :=by
 simp only[str,kV,cY,jN]
 rw[if_pos (by omega)]
 simp only[Option.map_some]
 congr 4
theorem KC (x y:List UInt8) :aW P .lss t (.val (str x)) (.val (str y)) =some (vp (.val (.bool (Op.bytesLess x y)))) :=by
 simp only[str,kV,cY,kn,Option.map_some]
end
end Go.Sx
namespace Go.Sx
open Go.RowKit
def gt {α:Type} [Inhabited α] (l:List α) (k:Nat) :α:=l.getD k default
def mO (P:Program) (s d:Option TD) (c:C) :Option Plan:=match s,d with
 |some ds,some dd=>
  match ds.u,dd.u,c with
  |_,.int k,.val (.int _ n) =>some (.pure (.val (.int k (k.wrap n))))
  |_,.string,.val (.string s) =>some (.pure (.val (.string s)))
  | .string,.slice e,.val (.string s) =>match td P e with
    |some de=> (match de.u with
     | .int .u8=>if s.size≤140737488355328 then some (.pure (.sl .no s.size (s.data.toList.map j0))) else none
     |_=>none)
    |none=>none
  | .slice e,.string,c=>match td P e with
    |some de=> (match de.u with
     | .int .u8=> (match c with
       | .sv b off n=>some (.rd b fun cells=>if off+n≤cells.length then (fG ((cells.drop off).take n)).map fun ns=> .val (.string (lY ns)) else none)
       |c=>match c.sl? with
        |some (n,xs) =>if xs.length=n then (fG xs).map fun ns=> .pure (.val (.string (lY ns))) else none
        |none=>none)
     |_=>none)
    |none=>none
  |_,_,_=>none
 |_,_=>none
theorem MU (P:Program) (s d:TypeId) (c:C) :fZ P s d c=mO P (td P s) (td P d) c:=rfl
section
variable (P:Program) (u1:TypeDesc) (a1 b1 a2 b2 a3 b3:Nat) (z1 z2 z3:List Value)
theorem ko (k k':IntKind) (n:Int) :mO P (some ⟨u1,a1,b1,z1⟩) (some ⟨.int k,a2,b2,z2⟩) (.val (.int k' n)) =some (vp (.val (.int k (k.wrap n)))) :=by
 cases u1<;>rfl
theorem GV (x:UInt8) :mO P (some ⟨u1,a1,b1,z1⟩) (some ⟨.int .u32,a2,b2,z2⟩) (.val (w8 x)) =some (vp (.val (cB (x.toBitVec.setWidth 32)))) :=by
 rw[w8,ko,nw,cB]
 have:=x.toNat_lt
 congr 4;simp;omega
theorem MV (n:Nat) (h:n< 18446744073709551616) :mO P (some ⟨u1,a1,b1,z1⟩) (some ⟨.int .u64,a2,b2,z2⟩) (.val (nI n)) =some (vp (.val (nU n))) :=by
 rw[nI,ko,nU,i3];congr 4;omega
theorem MW (n:Nat) (h:n< 9223372036854775808) :mO P (some ⟨u1,a1,b1,z1⟩) (some ⟨.int .i64,a2,b2,z2⟩) (.val (nU n)) =some (vp (.val (nI n))) :=by
 rw[nU,ko,nI,fg _ (by omega) (by omega)]
theorem GX (x:BitVec 32) :mO P (some ⟨u1,a1,b1,z1⟩) (some ⟨.int .u8,a2,b2,z2⟩) (.val (cB x)) =some (vp (.val (w8 ⟨x.setWidth 8⟩))) :=by
 rw[cB,ko,kU,w8]
 have: (UInt8.ofBitVec (x.setWidth 8)).toNat=x.toNat % 256:=by simp[UInt8.toNat]
 rw[this];rfl
theorem GY (n:Nat) :mO P (some ⟨u1,a1,b1,z1⟩) (some ⟨.int .u8,a2,b2,z2⟩) (.val (nU n)) =some (vp (.val (w8 (UInt8.ofNat n)))) :=by
 rw[nU,ko,kU,w8,UInt8.toNat_ofNat'];rfl
theorem SW (n:Nat) :mO P (some ⟨u1,a1,b1,z1⟩) (some ⟨.int .u8,a2,b2,z2⟩) (.val (nI n)) =some (vp (.val (w8 (UInt8.ofNat n)))) :=by
 rw[nI,ko,kU,w8,UInt8.toNat_ofNat'];rfl
theorem SX (n:Int) :mO P (some ⟨u1,a1,b1,z1⟩) (some ⟨.int .u8,a2,b2,z2⟩) (.val (.int .i64 n)) =some (vp (.val (w8 (UInt8.ofNat (n % 256).toNat)))) :=by
 rw[ko,kU,w8,UInt8.toNat_ofNat'];congr 4;omega
def KD (de:Option TD) (l:List UInt8) :Option Plan:=match de with
 |some de=> (match de.u with
  | .int .u8=>if l.length≤140737488355328 then some (vp (sl bC .no l)) else none
  |_=>none)
 |none=>none
theorem Xz (e:TypeId) (l:List UInt8) :mO P (some ⟨.string,a1,b1,z1⟩) (some ⟨.slice e,a2,b2,z2⟩) (.val (str l)) =KD (td P e) l:=by
 unfold KD
 show (match td P e with|some de=>_|none=>none) =_
 cases td P e with
 |none=>rfl
 |some de=>
  simp only[]
  split<;>simp_all [jN,sl,xR,Mk]
theorem SY (l:List UInt8) (h:l.length≤140737488355328) :KD (some ⟨.int .u8,a3,b3,z3⟩) l=some (vp (sl bC .no l)) :=by
 unfold KD;simp only[];rw[if_pos h]
theorem EA (l:List UInt8) :fG (cl bC l) =some (l.map fun b=> (b.toNat:Int)) :=by
 induction l with
 |nil=>rfl
 |cons a l ih=>
  show fG (.val (.int .u8 _) ::cl bC l) =_
  simp only[fG,ih,Option.map_some,List.map_cons]
theorem ux (l:List UInt8) : (Value.string (lY (l.map fun b=> (b.toNat:Int)))) =str l:=by
 unfold lY str
 rw[List.map_map]
 have: (fun n:Int=>UInt8.ofNat n.toNat) ∘ (fun b:UInt8=> (b.toNat:Int)) =id:=by
  funext b;simp
 rw[this,List.map_id]
def SZ (de:Option TD) (_r:Rt) (l:List UInt8) :Option Plan:=match de with
 |some de=> (match de.u with
  | .int .u8=>some (vp (.val (str l)))
  |_=>none)
 |none=>none
theorem XC (e:TypeId) (r:Rt) (l:List UInt8) :mO P (some ⟨.slice e,a1,b1,z1⟩) (some ⟨.string,a2,b2,z2⟩) (sl bC r l) =SZ (td P e) r l:=by
 unfold SZ
 show (match td P e with|some de=>_|none=>none) =_
 cases td P e with
 |none=>rfl
 |some de=>
  simp only[]
  split
  · simp only[sl,C.sl?]
    rw[if_pos (by rw[cp (f:=bC)];omega),EA]
    simp only[Option.map_some,ux];rfl
  · rfl
theorem S7 (r:Rt) (l:List UInt8) :SZ (some ⟨.int .u8,a3,b3,z3⟩) r l=some (vp (.val (str l))) :=rfl
def S9 (de:Option TD) (b off n:Nat) :Option Plan:=match de with
 |some de=> (match de.u with
  | .int .u8=>some (.rd b fun cells=>if off+n≤cells.length then (fG ((cells.drop off).take n)).map fun ns=> .val (.string (lY ns)) else none)
  |_=>none)
 |none=>none
def Ta (cells:List C) (o n:Nat) :Option C:=if o+n≤cells.length then (fG ((cells.drop o).take n)).map fun ns=> .val (.string (lY ns)) else none
theorem XD (e:TypeId) (b off n:Nat) :mO P (some ⟨.slice e,a1,b1,z1⟩) (some ⟨.string,a2,b2,z2⟩) (.sv b off n) =S9 (td P e) b off n:=by
 unfold S9
 show (match td P e with|some de=>_|none=>none) =_
 cases td P e with
 |none=>rfl
 |some de=>rfl
theorem Tb (b off n:Nat) :S9 (some ⟨.int .u8,a3,b3,z3⟩) b off n=some (.rd b fun cells=>Ta cells off n) :=rfl
theorem Tc (l:List UInt8) (o n:Nat) (h:o+n≤l.length) :Ta (cl bC l) o n=some (.val (str ((l.drop o).take n))) :=by
 have e1:=gy (f:=bC) l o
 have e2:=je (f:=bC) (l.drop o) n
 rw[Nat.mul_one] at e1 e2
 simp only[Ta]
 rw[if_pos (by rw[cp (f:=bC)];omega),e1,e2,EA,Option.map_some,ux]
def sA (own:Bool) (t:Option TD) (b o:Nat) :Option Plan:=match t with
 |none=>none
 |some d=>if own∧d.isAgg=false then some (.xr b o) else some (.rd b fun cells=>dI d cells o)
theorem MX (own:Bool) (t:TypeId) (b o:Nat) :loadPlan P own t (.bp b o) =sA own (td P t) b o:=by
 unfold loadPlan sA;cases td P t<;>rfl
theorem MY (k:IntKind) (b o:Nat) :sA false (some ⟨.int k,a1,b1,z1⟩) b o=some (.rd b fun cells=>eK cells o) :=rfl
theorem GZ (b o:Nat) :sA false (some ⟨.bool,a1,b1,z1⟩) b o=some (.rd b fun cells=>eK cells o) :=rfl
theorem MZ (b o:Nat) :sA false (some ⟨.string,a1,b1,z1⟩) b o=some (.rd b fun cells=>eK cells o) :=rfl
theorem Td (e:TypeId) (b o:Nat) :sA false (some ⟨.slice e,a1,b1,z1⟩) b o=some (.rd b fun cells=>eK cells o) :=rfl
theorem Na (e:TypeId) (b o:Nat) :sA true (some ⟨.slice e,a1,b1,z1⟩) b o=some (.xr b o) :=rfl
theorem Nb (own:Bool) (n:Nat) (e:TypeId) (b o:Nat) :sA own (some ⟨.array n e,a1,b1,z1⟩) b o=some (.rd b fun cells=>kj cells o a1) :=by cases own<;>rfl
theorem Bu (own:Bool) (fs:Array Field) (b o:Nat) :sA own (some ⟨.struct fs,a1,b1,z1⟩) b o=some (.rd b fun cells=>kj cells o a1) :=by cases own<;>rfl
def uy (t:Option TD) (xs:List C) :Option Plan:=match t with
 |none=>none
 |some d=> (dI d xs 0).map vp
theorem Nc (own:Bool) (t:TypeId) (xs:List C) :loadPlan P own t (.kp xs) =uy (td P t) xs:=by
 unfold loadPlan uy;cases td P t<;>rfl
theorem Nd (k:IntKind) (xs:List C) :uy (some ⟨.int k,a1,b1,z1⟩) xs= (eK xs 0).map vp:=rfl
theorem Nf (xs:List C) :uy (some ⟨.string,a1,b1,z1⟩) xs= (eK xs 0).map vp:=rfl
theorem Te (e:TypeId) (xs:List C) :uy (some ⟨.slice e,a1,b1,z1⟩) xs= (eK xs 0).map vp:=rfl
theorem Ng (n:Nat) (e:TypeId) (xs:List C) :uy (some ⟨.array n e,a1,b1,z1⟩) xs= (kj xs 0 a1).map vp:=rfl
theorem Bv (fs:Array Field) (xs:List C) :uy (some ⟨.struct fs,a1,b1,z1⟩) xs= (kj xs 0 a1).map vp:=rfl
def sB (t:Option TD) (b o:Nat) (cs:Option (List C)) :Option Plan:=match t with
 |none=>none
 |some d=>match cs with
  |some cs=>if cs.length=d.size then some (.wr b (fun cells=>fo cells o cs) none) else none
  |none=>none
theorem EB (t:TypeId) (b o:Nat) (v:Value) (k:Option Nat) :dw P t (.bp b o) (.val v) k=sB (td P t) b o (C.val v).cells?:=by
 unfold dw sB;cases td P t with
 |none=>rfl
 |some d=>simp only[];cases (C.val v).cells?<;>rfl
theorem EC (t:TypeId) (b o:Nat) (xs:List C) (k:Option Nat) :dw P t (.bp b o) (.agg xs) k=sB (td P t) b o (some (xs.map C.noR)) :=by
 unfold dw sB;cases td P t<;>rfl
theorem G0 (t:TypeId) (b o f:Nat) (xs:List C) (k:Option Nat) :dw P t (.bp b o) (.fn f xs) k=sB (td P t) b o (some [.fn f xs]) :=by
 unfold dw sB;cases td P t<;>rfl
def KE (t:Option TD) (b o:Nat) (c:C) (k:Option Nat) :Option Plan:=match t with
 |none=>none
 |some d=>if d.size=1 then some (.wr b (fun cells=>Eu cells o c) k) else none
theorem xT (t:TypeId) (b o:Nat) (r:Rt) (n:Nat) (xs:List C) (k:Option Nat) :dw P t (.bp b o) (.sl r n xs) k=KE (td P t) b o (.sl r n xs) k:=by
 unfold dw KE;cases td P t<;>rfl
theorem Nh (u:TypeDesc) (y:Nat) (z:List Value) (b o:Nat) (c:C) (k:Option Nat) :KE (some ⟨u,1,y,z⟩) b o c k=some (.wr b (fun cells=>Eu cells o c) k) :=rfl
theorem G4 (u:TypeDesc) (s y:Nat) (z:List Value) (b o:Nat) (cs:List C) (h:cs.length=s) :sB (some ⟨u,s,y,z⟩) b o (some cs) =some (.wr b (fun cells=>fo cells o cs) none) :=if_pos h
theorem ED (x:BitVec 32) : (C.val (cB x)).cells?=some [.val (cB x)] :=rfl
theorem G5 (x:UInt8) : (C.val (w8 x)).cells?=some [.val (w8 x)] :=rfl
theorem G6 (x:Nat) : (C.val (nI x)).cells?=some [.val (nI x)] :=rfl
theorem G7 (x:Nat) : (C.val (nU x)).cells?=some [.val (nU x)] :=rfl
theorem EE (k:IntKind) (x:Int) : (C.val (.int k x)).cells?=some [.val (.int k x)] :=rfl
theorem EF (x:List UInt8) : (C.val (str x)).cells?=some [.val (str x)] :=rfl
theorem Bw (x:Bool) : (C.val (.bool x)).cells?=some [.val (.bool x)] :=rfl
theorem EG (xs:List C) : (C.agg xs).cells?=some (xs.map C.noR) :=rfl
theorem Tf (i n:Nat) (h:i< n) :ff (.val (nI i)) n=some i:=by
 simp only[ff,nI,C.int?];rw[if_pos (by omega)];simp
theorem xU (i d m:Nat) (h:i≤m) :dq (some (.val (nI i))) d m=some i:=by
 simp only[dq,nI,C.int?];rw[if_pos (by omega)];simp
theorem nz (d m:Nat) :dq none d m=some d:=rfl
def qE (de:Option TD) (k:Option Nat) (f:Nat→Nat→Option Plan) :Option Plan:=match de,k with
 |some de,some k=>f de.size k
 |_,_=>none
theorem G8 (u:TypeDesc) (s y:Nat) (z:List Value) (k:Nat) (f:Nat→Nat→Option Plan) :qE (some ⟨u,s,y,z⟩) (some k) f=f s k:=rfl
def re (P:Program) (t:Option TD) (c i:C) :Option Plan:=match t with
 |none=>none
 |some d=>
  match d.u,c with
  | .array n e,.bp b off=>qE (td P e) (ff i n) fun s k=>some (vp (.bp b (off+k*s)))
  | .array n e,.kp xs=>qE (td P e) (ff i n) fun s k=>if n*s≤xs.length then some (vp (.kp (xs.drop (k*s)))) else none
  | .slice e,.sv b off n=>qE (td P e) (ff i n) fun s k=>some (vp (.bp b (off+k*s)))
  | .slice e,.sl _ n xs=>qE (td P e) (ff i n) fun s k=>if xs.length=n*s∧xs≠[] then some (vp (.kp (xs.drop (k*s)))) else none
  |_,_=>none
theorem Tg (t:TypeId) (c i:C) :eo P t c i=re P (td P t) c i:=by
 unfold eo re
 cases td P t with
 |none=>rfl
 |some d=>
  simp only[]
  cases d.u<;>cases c<;>first|rfl| (rename_i e _ _ _;cases td P e<;>first|rfl| (cases ff i _<;>rfl))
theorem Th (n:Nat) (e:TypeId) (b off:Nat) (i:C) :re P (some ⟨.array n e,a1,b1,z1⟩) (.bp b off) i=qE (td P e) (ff i n) fun s k=>some (vp (.bp b (off+k*s))) :=rfl
theorem Ti (e:TypeId) (b off n:Nat) (i:C) :re P (some ⟨.slice e,a1,b1,z1⟩) (.sv b off n) i=qE (td P e) (ff i n) fun s k=>some (vp (.bp b (off+k*s))) :=rfl
theorem Tj {α:Type} (f:α→List C) (e:TypeId) (r:Rt) (l:List α) (i:C) :re P (some ⟨.slice e,a1,b1,z1⟩) (sl f r l) i=qE (td P e) (ff i l.length) fun s k=>if (cl f l).length=l.length*s∧cl f l≠[] then some (vp (.kp ((cl f l).drop (k*s)))) else none:=rfl
end
end Go.Sx
namespace Go.Sx
open Go.RowKit
section
variable {α:Type} (f:α→List C)
theorem G9 (l:List α) : (sl f .no l).noR=sl f .no l:=rfl
theorem Bx (l:List α) : (sl f .full l).noR=sl f .full l:=rfl
theorem EH (s:Nat) (l:List α) : (sl f (.own s) l).noR=sl f .no l:=rfl
theorem By (l:List α) : (sl f .no l).share=sl f .no l:=rfl
theorem xV (l:List α) : (sl f .full l).share=sl f .no l:=rfl
end
theorem EI (x:BitVec 32) : (C.val (cB x)).share= .val (cB x) :=rfl
theorem Ha (x:Nat) : (C.val (nI x)).share= .val (nI x) :=rfl
theorem Bz (x:List UInt8) : (C.val (str x)).share= .val (str x) :=rfl
section
variable (P:Program) (u1:TypeDesc) (a1 b1 a2 b2 a3 b3:Nat) (z1 z2 z3:List Value)
def BB (t:Option TD) (x:C) :Option Plan:=match t with
 |none=>none
 |some d=>
  match d.u,x with
  | .string,.val (.string s) =>some (.pure (.val (.int .i64 s.size)))
  | .array n _,_=>some (.pure (.val (.int .i64 n)))
  | .slice _,.sv _ _ n=>some (.pure (.val (.int .i64 n)))
  | .slice _,x=>x.sl?.map fun r=> .pure (.val (.int .i64 r.1))
  |_,_=>none
theorem Tk (t:TypeId) (x:C) :jc P t x=BB (td P t) x:=rfl
theorem Ni (l:List UInt8) :BB (some ⟨.string,a1,b1,z1⟩) (.val (str l)) =some (vp (.val (nI l.length))) :=by
 show some (vp (.val (.int .i64 ((⟨l.toArray⟩ :ByteArray).size:Nat)))) =_
 rw[jN];rfl
theorem Tl (e:TypeId) (b o n:Nat) :BB (some ⟨.slice e,a1,b1,z1⟩) (.sv b o n) =some (vp (.val (nI n))) :=rfl
theorem Tm {α:Type} (f:α→List C) (e:TypeId) (r:Rt) (l:List α) :BB (some ⟨.slice e,a1,b1,z1⟩) (sl f r l) =some (vp (.val (nI l.length))) :=rfl
def Tn (P:Program) (t:Option TD) (c i:C) :Option Plan:=match t with
 |none=>none
 |some d=>
  match d.u,c with
  | .string,.val (.string s) =>match ff i s.size with
    |some k=> (s.data[k]?).map fun b=> .pure (j0 b)
    |none=>none
  | .array n e,c=>match td P e,ff i n,c.agg? with
    |some de,some k,some xs=> (dI de xs (k*de.size)).map .pure
    |_,_,_=>none
  |_,_=>none
theorem To (t:TypeId) (c i:C) :gA P t c i=Tn P (td P t) c i:=rfl
def Tp (de:Option TD) (k:Option Nat) (xs:Option (List C)) :Option Plan:=match de,k,xs with
 |some de,some k,some xs=> (dI de xs (k*de.size)).map vp
 |_,_,_=>none
theorem Nj (n:Nat) (e:TypeId) (xs:List C) (i:C) :Tn P (some ⟨.array n e,a1,b1,z1⟩) (.agg xs) i=Tp (td P e) (ff i n) (some xs) :=rfl
theorem Hb (k:IntKind) (i:Nat) (xs:List C) :Tp (some ⟨.int k,a1,b1,z1⟩) (some i) (some xs) = (eK xs (i*a1)).map vp:=rfl
def abr (P:Program) (t:Option TD) (c:C) (f:Nat) :Option Plan:=match t with
 |none=>none
 |some d=>
  match d.u with
  | .struct fields=>match fields[f]?,c.agg? with
    |some fd,some xs=> (match td P fd.type with
     |some de=> (dI de xs fd.offset).map .pure
     |none=>none)
    |_,_=>none
  |_=>none
def Tq (P:Program) (t:Option TD) (c:C) (f:Nat) :Option Plan:=match t with
 |none=>none
 |some d=>
  match d.u with
  | .struct fields=>match fields[f]? with
    |some fd=> (match td P fd.type with
     |some de=>if de.size=0 then none else
      (match c with
      | .bp b off=>some (.pure (.bp b (off+fd.offset)))
      | .bt b _ _=>some (.pure (.bp b fd.offset))
      | .kp xs=>if fd.offset≤xs.length then some (.pure (.kp (xs.drop fd.offset))) else none
      |_=>none)
     |none=>none)
    |none=>none
  |_=>none
theorem BC (t:TypeId) (c:C) (f:Nat) :bL P t c f=Tq P (td P t) c f:=rfl
def EJ (de:Option TD) (b o:Nat) :Option Plan:=match de with
 |some de=>if de.size=0 then none else some (vp (.bp b o))
 |none=>none
theorem BD (fs:Array Field) (b o:Nat) (i:Nat) (fd:Field) (h:fs[i]? =some fd) :Tq P (some ⟨.struct fs,a1,b1,z1⟩) (.bp b o) i=EJ (td P fd.type) b (o+fd.offset) :=by
 unfold Tq EJ;simp only[h];rfl
def kr (hi lo:Option C) (n:Nat) (F:Nat→Nat→Option Plan) :Option Plan:=match dq hi n n with
 |some h=> (match dq lo 0 h with
  |some k=>F h k
  |none=>none)
 |none=>none
def EK (hi lo:Option Nat) (F:Nat→Nat→Option Plan) :Option Plan:=match hi,lo with
 |some h,some k=>F h k
 |_,_=>none
def uz (P:Program) (t:Option TD) (c:C) (lo hi:Option C) :Option Plan:=match t with
 |none=>none
 |some d=>
  match d.u,c with
  | .string,.val (.string s) =>kr hi lo s.size fun h k=>some (vp (.val (.string (s.extract k h))))
  | .slice e,.sv b off n=> (match td P e with
    |some de=>kr hi lo n fun h k=>some (vp (.sv b (off+k*de.size) (h - k)))
    |none=>none)
  | .slice e,c=> (match td P e,c.sl? with
    |some de,some (n,xs) =>if xs.length=n*de.size then kr hi lo n fun h k=>some (vp (.sl .no (h - k) ((xs.drop (k*de.size)).take ((h - k)*de.size)))) else none
    |_,_=>none)
  | .array n e,.bp b off=> (match td P e with
    |some de=>if 65536< n then none else kr hi lo n fun h k=>some (vp (.sv b (off+k*de.size) (h - k)))
    |none=>none)
  | .array n e,.kp xs=> (match td P e with
    |some de=>if 65536< n∨xs.length< n*de.size then none else kr hi lo n fun h k=>some (vp (.sl .no (h - k) ((xs.drop (k*de.size)).take ((h - k)*de.size))))
    |none=>none)
  |_,_=>none
theorem Hc (t:TypeId) (c:C) (lo hi:Option C) :eA P t c lo hi none=uz P (td P t) c lo hi:=by
 unfold eA uz kr
 cases td P t with
 |none=>rfl
 |some d=>
  obtain ⟨u,s,y,z⟩ :=d
  simp only[Option.isSome_none,Bool.false_eq_true,if_false,false_or,Option.isNone_none,true_or,and_true,nz,false_and]
  cases u with
  |string=>cases c with
   |val v=>cases v<;>rfl
   |_=>rfl
  |slice e=>cases c<;>rfl
  |array n e=>cases c<;>rfl
  |_=>rfl
theorem Hd (lo:Option C) (n:Nat) (F:Nat→Nat→Option Plan) :kr none lo n F=EK (some n) (dq lo 0 n) F:=by
 unfold kr EK;simp only[nz];cases dq lo 0 n<;>rfl
theorem Ts (lo:Option C) (n h:Nat) (F:Nat→Nat→Option Plan) (hh:h≤n) :kr (some (.val (nI h))) lo n F=EK (some h) (dq lo 0 h) F:=by
 unfold kr EK;rw[xU _ _ _ hh];simp only[];cases dq lo 0 h<;>rfl
theorem He (h k:Nat) (F:Nat→Nat→Option Plan) :EK (some h) (some k) F=F h k:=rfl
theorem Nk (l:List UInt8) (lo hi:Option C) :uz P (some ⟨.string,a1,b1,z1⟩) (.val (str l)) lo hi=kr hi lo l.length fun h k=>some (vp (.val (str ((l.drop k).take (h - k))))) :=by
 show kr hi lo (⟨l.toArray⟩ :ByteArray).size _=_
 rw[jN]
 congr 1
 funext h k
 show some (vp (.val (.string _))) =_
 congr 4
 apply ByteArray.ext
 simp[ByteArray.data_extract]
def EL (de:Option TD) (F:Nat→Option Plan) :Option Plan:=match de with
 |some de=>F de.size
 |none=>none
theorem Hf (u:TypeDesc) (s y:Nat) (z:List Value) (F:Nat→Option Plan) :EL (some ⟨u,s,y,z⟩) F=F s:=rfl
theorem Tt (e:TypeId) (b o n:Nat) (lo hi:Option C) :uz P (some ⟨.slice e,a1,b1,z1⟩) (.sv b o n) lo hi=EL (td P e) fun s=>kr hi lo n fun h k=>some (vp (.sv b (o+k*s) (h - k))) :=rfl
theorem Tu (n:Nat) (e:TypeId) (b o:Nat) (lo hi:Option C) (hn:n≤65536) :uz P (some ⟨.array n e,a1,b1,z1⟩) (.bp b o) lo hi=EL (td P e) fun s=>kr hi lo n fun h k=>some (vp (.sv b (o+k*s) (h - k))) :=by
 show (match td P e with|some de=>if 65536< n then none else _|none=>none) =_
 cases td P e with
 |none=>rfl
 |some de=>simp only[];rw[if_neg (by omega)];rfl
theorem Tv {α:Type} (f:α→List C) {s0:Nat} [hf:Cel f s0] (e:TypeId) (r:Rt) (l:List α) (lo hi:Option C) (u:TypeDesc) (y:Nat) (z:List Value) (h:td P e=some ⟨u,s0,y,z⟩) :
 uz P (some ⟨.slice e,a1,b1,z1⟩) (sl f r l) lo hi=kr hi lo l.length fun h k=>some (vp (sl f .no ((l.drop k).take (h - k)))) :=by
 show (match td P e,(sl f r l).sl? with|some de,some (n,xs) =>_|_,_=>none) =_
 rw[h]
 simp only[sl,C.sl?]
 rw[if_pos (cp (f:=f) l)]
 simp only[gy,je]
 unfold kr
 cases hb:dq hi l.length l.length with
 |none=>rfl
 |some hh=>
  simp only[]
  cases hb2:dq lo 0 hh with
  |none=>rfl
  |some k=>
   have h1:hh≤l.length:=by
    unfold dq at hb
    split at hb
    · simp only[Option.some.injEq] at hb;omega
    · split at hb
      · split at hb
        · simp only[Option.some.injEq] at hb;omega
        · cases hb
      · cases hb
   simp only[List.length_take,List.length_drop]
   rw[Nat.min_eq_left (by omega)]
def Yp (x:C) (de:TD) (xt:Option Nat) :Option (Nat×List C×Option Nat) :=match x with
 | .val (.slice none 0 0) =>some (0,[],none)
 | .sl .full n xs=>some (n,xs,none)
 | .sl (.own s) n xs=>if s=de.size then some (n,xs,xt) else none
 |_=>none
def oy (de:TD) (n:Nat) (xs:List C) (m:Nat) (ys:List C) :Option C:=
 if xs.length=n*de.size∧ys.length=m*de.size∧0< de.size∧de.zero.length=de.size∧(n+m)*de.bytes≤140737488355328∧n+m≤9223372036854775807 then some (.sl (.own de.size) (n+m) (xs++ys)) else none
def Tw (P:Program) (t t2:Option TD) (x y:C) (xt:Option Nat) :Option Plan:=match t,t2 with
 |none,_=>none
 |_,none=>none
 |some d,some d2=>
  if io d2.u=false then none else
  match d.u with
  | .slice e=>match td P e with
    |none=>none
    |some de=>match Yp x de xt with
     |none=>none
     |some (n,xs,k) =>
      match y with
      | .sv b off m=>if k.isSome then some (.wr b (fun cells=> (if off+m*de.size≤cells.length then oy de n xs m (((cells.drop off).take (m*de.size)).map C.noR) else none).map fun c=> (cells,c)) k)
        else some (.rd b fun cells=>if off+m*de.size≤cells.length then oy de n xs m (((cells.drop off).take (m*de.size)).map C.noR) else none)
      |y=>match jt y with
       |some (m,ys) => (oy de n xs m ys).map fun c=> .val c k
       |none=>none
  |_=>none
theorem Tx (t t2:TypeId) (x y:C) (xt:Option Nat) :eU P t t2 x y xt=Tw P (td P t) (td P t2) x y xt:=rfl
def zu (de:Option TD) (x y:C) (xt:Option Nat) :Option Plan:=match de with
 |none=>none
 |some de=>match Yp x de xt with
  |none=>none
  |some (n,xs,k) =>
   match y with
   | .sv b off m=>if k.isSome then some (.wr b (fun cells=> (if off+m*de.size≤cells.length then oy de n xs m (((cells.drop off).take (m*de.size)).map C.noR) else none).map fun c=> (cells,c)) k)
         else some (.rd b fun cells=>if off+m*de.size≤cells.length then oy de n xs m (((cells.drop off).take (m*de.size)).map C.noR) else none)
   |y=>match jt y with
    |some (m,ys) => (oy de n xs m ys).map fun c=> .val c k
    |none=>none
theorem Ty (e e2:TypeId) (x y:C) (xt:Option Nat) :Tw P (some ⟨.slice e,a1,b1,z1⟩) (some ⟨.slice e2,a2,b2,z2⟩) x y xt=zu (td P e) x y xt:=rfl
theorem Tz (e:TypeId) (x y:C) (xt:Option Nat) :Tw P (some ⟨.slice e,a1,b1,z1⟩) (some ⟨.string,a2,b2,z2⟩) x y xt=zu (td P e) x y xt:=rfl
section
variable {α:Type} (f:α→List C) {s:Nat} [hf:Cel f s] (u:TypeDesc) (y:Nat) (z:List Value)
theorem xW (l l':List α) (hz:z.length=s) (h: (l.length+l'.length)*y≤140737488355328∧l.length+l'.length≤9223372036854775807) :
 oy ⟨u,s,y,z⟩ l.length (cl f l) l'.length (cl f l') =some (sl f (.own s) (l++l')) :=by
 unfold oy
 rw[if_pos ⟨cp (f:=f) l,cp (f:=f) l',hf.pos,hz,h.1,h.2⟩]
 simp[sl,iW]
theorem Nl (l l':List α) (r:Rt) (xt:Option Nat) (hz:z.length=s) (h: (l.length+l'.length)*y≤140737488355328∧l.length+l'.length≤9223372036854775807) :
 zu (some ⟨u,s,y,z⟩) (sl f (.own s) l) (sl f r l') xt=some (.val (sl f (.own s) (l++l')) xt) :=by
 show (match (if s=s then some (l.length,cl f l,xt) else none) with|none=>none|some (n,xs,k) => (match some (l'.length,cl f l') with|some (m,ys) => (oy ⟨u,s,y,z⟩ n xs m ys).map fun c=>Plan.val c k|none=>none)) =_
 rw[if_pos rfl]
 simp only[xW f u y z l l' hz h,Option.map_some]
theorem xX (l l':List α) (r:Rt) (xt:Option Nat) (hz:z.length=s) (h: (l.length+l'.length)*y≤140737488355328∧l.length+l'.length≤9223372036854775807) :
 zu (some ⟨u,s,y,z⟩) (sl f .full l) (sl f r l') xt=some (.val (sl f (.own s) (l++l')) none) :=by
 show (match some (l'.length,cl f l') with|some (m,ys) => (oy ⟨u,s,y,z⟩ l.length (cl f l) m ys).map fun c=>Plan.val c none|none=>none) =_
 simp only[xW f u y z l l' hz h,Option.map_some]
theorem Nm (l':List α) (r:Rt) (xt:Option Nat) (hz:z.length=s) (h:l'.length*y≤140737488355328∧l'.length≤9223372036854775807) :
 zu (some ⟨u,s,y,z⟩) (.val (.slice none 0 0)) (sl f r l') xt=some (.val (sl f (.own s) l') none) :=by
 have:=xX f u y z [] l' r xt hz (by simpa using h)
 exact this
end
theorem zv (l:List UInt8) :jt (.val (str l)) =some (l.length,cl bC l) :=by
 show some ((⟨l.toArray⟩ :ByteArray).size,l.toArray.toList.map j0) =_
 rw[jN,List.toList_toArray,xR]
theorem Hg (u:TypeDesc) (y:Nat) (z:List Value) (l l':List UInt8) (xt:Option Nat) (hz:z.length=1) (h: (l.length+l'.length)*y≤140737488355328∧l.length+l'.length≤9223372036854775807) :
 zu (some ⟨u,1,y,z⟩) (sl bC (.own 1) l) (.val (str l')) xt=some (.val (sl bC (.own 1) (l++l')) xt) :=by
 show (match (if (1:Nat) =1 then some (l.length,cl bC l,xt) else none) with|none=>none|some (n,xs,k) => (match jt (.val (str l')) with|some (m,ys) => (oy ⟨u,1,y,z⟩ n xs m ys).map fun c=>Plan.val c k|none=>none)) =_
 rw[if_pos rfl,zv]
 simp only[xW bC u y z l l' hz h,Option.map_some]
theorem TA (n:Nat) :List.replicate n (C.val (.int .u32 0)) =cl wC (List.replicate n 0) :=by
 induction n with
 |zero=>rfl
 |succ n ih=>rw[List.replicate_succ,ih];rfl
theorem TC (n:Nat) :List.replicate n (C.val (.int .u8 0)) =cl bC (List.replicate n 0) :=by
 induction n with
 |zero=>rfl
 |succ n ih=>rw[List.replicate_succ,ih];rfl
theorem TE (n:Nat) :List.replicate n (C.val (.int .i64 0)) =cl nC (List.replicate n 0) :=by
 induction n with
 |zero=>rfl
 |succ n ih=>rw[List.replicate_succ,ih];rfl
def Hh (cs:Option (List C)) :Option Plan:=match cs with
 |some cs=>some (.new cs fun id=> .bp id 0)
 |none=>none
theorem TF (x:C) :Br x=Hh x.cells?:=by unfold Br Hh;cases x.cells?<;>rfl
theorem EM (cs:List C) :Hh (some cs) =some (.new cs fun id=> .bp id 0) :=rfl
theorem Nn (x y:C) :wh (.val (.bool true)) x y=some (vp x) :=rfl
theorem No (x y:C) :wh (.val (.bool false)) x y=some (vp y) :=rfl
def EN (P:Program) (t:Option TD) (x y:C) :Option Plan:=match t with
 |none=>none
 |some d=>
  match d.u with
  | .slice e=>match td P e with
    |none=>none
    |some de=>match x,jt y with
     | .sv b off n,some (m,ys) =>
       if ys.length=m*de.size∧0< n then some (.wr b (fun cells=>if off+n*de.size≤cells.length then some (splice cells off ((ys.take (min m n*de.size)).map C.noR),.val (.int .i64 (min m n:Nat))) else none) none) else none
     |_,_=>none
  |_=>none
theorem Np (t:TypeId) (x y:C) :iq P t x y=EN P (td P t) x y:=rfl
def qF (cells:List C) (o n s:Nat) (ys:List C) (m:Nat) :Option (List C×C) :=if o+n*s≤cells.length then some (splice cells o ys,.val (nI m)) else none
theorem TG (e:TypeId) (b o n:Nat) (l:List UInt8) (u:TypeDesc) (y:Nat) (z:List Value) (he:td P e=some ⟨u,1,y,z⟩) (h:0< n) :
 EN P (some ⟨.slice e,a1,b1,z1⟩) (.sv b o n) (.val (str l)) =some (.wr b (fun cells=>qF cells o n 1 (cl bC (l.take n)) (min l.length n)) none) :=by
 unfold EN
 simp only[he]
 rw[zv]
 simp only[]
 rw[if_pos ⟨cp (f:=bC) l,h⟩]
 congr 2
 funext cells
 unfold qF
 rw[je,fI]
 have:l.take (min l.length n) =l.take n:=by rw[List.take_eq_take_iff];omega
 rw[this];rfl
end
end Go.Sx
namespace Go.Sx
open Go.RowKit
def pk (e:List (Nat×C)) :List Nat→List (Nat×C)
 | [] => []
 |k::ks=> (k,A e k) ::pk e ks
theorem TH (e:List (Nat×C)) (t:Nat) : ∀ks:List Nat,A (pk e ks) t= .top∨A (pk e ks) t=A e t
 | [] => .inl rfl
 |k::ks=>by
  simp only[pk,A]
  by_cases h:t=k
  · subst h;right;simp
  · simp only[if_neg h];exact TH e t ks
theorem TI (e:List (Nat×C)) :pk e [] = [] :=rfl
theorem Nq (e:List (Nat×C)) (k:Nat) (ks:List Nat) :pk e (k::ks) = (k,A e k) ::pk e ks:=rfl
section
variable {cx:Cx} {n:Nat} {Q:Ex→St→Prop} {e:List (Nat×C)} {h:Hp}
theorem Tr.kp (ks:List Nat) {c:Code} (H:Tr cx n c ⟨A (pk e ks),h⟩ Q) :Tr cx n c ⟨A e,h⟩ Q:=by
 refine lX (fun t=> ?_) H
 rcases TH e t ks with q|q
 · rw[q];exact CLe.top _
 · rw[q];exact CLe.refl _
end
def condG (c:C) (p q:Prop) :Prop:= ∃b,c= .val (.bool b)∧GB b p q
theorem kK (b:Bool) (p q:Prop) :condG (.val (.bool b)) p q=GB b p q:=by
 simp[condG]
theorem Tr.condG {cx:Cx} {n:Nat} {Q:Ex→St→Prop} {e:List (Nat×C)} {h:Hp} {c:Operand} {x y:Code} (H: ∀KT KF:Prop,(Tr cx n x ⟨A e,h⟩ Q→KT)→(Tr cx n y ⟨A e,h⟩ Q→KF)→Sx.condG (cx.ev (A e) c) KT KF) :Tr cx n (.cond c x y) ⟨A e,h⟩ Q:=by
 obtain ⟨b,h1,h2,h3⟩ :=H _ _ (fun x=>x) (fun x=>x)
 exact uV h1 h2 h3
theorem EO {α:Type} [Inhabited α] (l:List α) (k:Nat) :l.getD k default=gt l k:=rfl
theorem zw (K:St→Prop) (Q:Ex→St→Prop) (s:St) :nl K Q .normal s=K s:=rfl
theorem Nr (K:St→Prop) (Q:Ex→St→Prop) (s:St) :nl K Q .ret s=Q .ret s:=rfl
theorem Hi (k:Nat) (Q:Ex→St→Prop) (s:St) :ow k Q .normal s=Q .normal s:=rfl
theorem Hj (k:Nat) (Q:Ex→St→Prop) (s:St) :ow k Q .ret s=Q .ret s:=rfl
theorem Ns (cx:Cx) (rs:List ResultVar) (c:C) (st:St) :Kw cx rs c .ret st= (jM cx st rs=some c) :=rfl
theorem Hk (cx:Cx) (st:St) (r:ResultVar) :jM cx st [r] =eX cx st r:=rfl
theorem Hl (cx:Cx) (e:List (Nat×C)) (h:Hp) (t:Nat) :eX cx ⟨A e,h⟩ (.tmp t) =some (A e t) :=rfl
def TJ (t:Option TD) (c:C) (h:Hp) :Option C:=match t,c with
 |some d,.bp b off=> (h.at b).bind fun cells=>dI d cells off
 |_,_=>none
theorem EP (cx:Cx) (e:List (Nat×C)) (h:Hp) (a:Nat) (t:TypeId) :eX cx ⟨A e,h⟩ (.cell a t) =TJ (td cx.P t) (A e a) h:=rfl
theorem Nt (n:Nat) (e:TypeId) (a b:Nat) (z:List Value) (x o:Nat) (h:Hp) :TJ (some ⟨.array n e,a,b,z⟩) (.bp x o) h= (h.at x).bind fun cells=>kj cells o a:=rfl
theorem BE (fs:Array Field) (a b:Nat) (z:List Value) (x o:Nat) (h:Hp) :TJ (some ⟨.struct fs,a,b,z⟩) (.bp x o) h= (h.at x).bind fun cells=>kj cells o a:=rfl
theorem bE (env:Nat→C) :Le env [] =True:=rfl
theorem aP (env:Nat→C) (k:Nat) (c:C) (l:List (Nat×C)) :Le env ((k,c) ::l) = (CLe (env k) c∧Le env l) :=rfl
theorem aE (c:C) :CLe c c=True:=by simp[CLe.refl]
theorem aQ (c:C) :CLe c .top=True:=by simp[CLe.top]
theorem aF {α:Type} (f:α→List C) (r:Rt) (l:List α) :CLe (sl f .full l) (sl f r l) =True:=by simp only[sl,eq_iff_iff,iff_true];exact CLe.full ..
theorem aR {α:Type} (f:α→List C) (r:Rt) :CLe (.val (.slice none 0 0)) (sl f r []) =True:=by simp only[sl,eq_iff_iff,iff_true];exact CLe.nil _
theorem aS {α:Type} (f:α→List C) (s:Nat) (l:List α) :CLe (sl f (.own s) l) (sl f .no l) =True:=eq_true (CLe.noR (sl f (.own s) l))
theorem Nu (P:Program) (u1:TypeDesc) (a1 b1 a2 b2:Nat) (z1 z2:List Value) (n:Int) :mO P (some ⟨u1,a1,b1,z1⟩) (some ⟨.int .u64,a2,b2,z2⟩) (.val (.int .i64 n)) =some (vp (.val (nU (n % 18446744073709551616).toNat))) :=by
 rw[ko,i3,nU];congr 4;omega
theorem Nv (P:Program) (t:TypeId) (x:Nat) (h:x< 18446744073709551616) :aW P .and t (.val (nU x)) (.val (nU 31)) =some (vp (.val (nU (x % 32)))) :=by
 rw[Xv P t x 31 (by omega)]
 have:=Nat.and_two_pow_sub_one_eq_mod x 5
 simp only[Nat.reducePow,Nat.reduceSub] at this
 rw[this]
theorem Nw (n:Nat) (h:n< 9223372036854775808) :gT .neg (.val (nI n)) =some (vp (.val (.int .i64 (-(n:Int))))) :=by
 show some (vp (.val (.int .i64 (IntKind.wrap .i64 (0 - (n:Int)))))) =_
 rw[fg _ (by omega) (by omega),Int.zero_sub]
theorem TK (b:Bool) :gT .not (.val (.bool b)) =some (vp (.val (.bool (!b)))) :=rfl
theorem zx (n:Nat) :List.replicate n (C.val (cB (BitVec.ofNat 32 0))) =cl wC (List.replicate n 0) :=TA n
theorem xY (n:Nat) :List.replicate n (C.val (w8 (UInt8.ofNat 0))) =cl bC (List.replicate n 0) :=TC n
theorem EQ (n:Nat) :List.replicate n (C.val (nI 0)) =cl nC (List.replicate n 0) :=TE n
end Go.Sx
namespace Go.Sx
open Go.RowKit
end Go.Sx
namespace Go.Sx
open Go.RowKit
def ew:List C→Bool
 | [] =>false
 | .sv _ _ _::_=>true
 | .bp _ _::_=>true
 | .gv _ _ _::_=>true
 |_::l=>ew l
theorem xZ: ∀l:List C,ew l=true→noRefs 0 l=false
 | [],h=>by cases h
 |c::l,h=>by
  cases c with
  |sv b o n=>simp[noRefs,aG]
  |bp b o=>simp[noRefs,aG]
  |gv b o s=>simp[noRefs,aG]
  |_=>
   have:=xZ l h
   simp only[noRefs,this,Bool.and_false]
class Fla {α:Type} (f:α→List C) :Prop where
 flat: ∀a,flats (f a) =true
instance:Fla bC:= ⟨fun _=>rfl⟩
instance:Fla wC:= ⟨fun _=>rfl⟩
instance:Fla sC:= ⟨fun _=>rfl⟩
instance:Fla iC:= ⟨fun _=>rfl⟩
instance:Fla nC:= ⟨fun _=>rfl⟩
instance:Fla oC:= ⟨fun _=>rfl⟩
theorem uA (xs ys:List C) :flats (xs++ys) = (flats xs && flats ys) :=by
 induction xs with
 |nil=>simp[flats]
 |cons x xs ih=>simp only[List.cons_append,flats,ih,Bool.and_assoc]
theorem aN (k:Nat) (xs ys:List C) :noRefs k (xs++ys) = (noRefs k xs && noRefs k ys) :=by
 induction xs with
 |nil=>simp[noRefs]
 |cons x xs ih=>simp only[List.cons_append,noRefs,ih,Bool.and_assoc]
theorem gI {α:Type} (f:α→List C) [h:Fla f] : ∀l:List α,flats (cl f l) =true
 | [] =>rfl
 |a::l=>by rw[ef,uA,h.flat,gI f l];rfl
mutual
theorem BF (k:Nat) : ∀c:C,flat c=true→aG k c=true
 | .val _,_=>rfl
 | .agg xs,h=>by simp only[flat] at h;simp only[aG];exact flats_noRefs k xs h
 | .tup xs,h=>by simp only[flat] at h;simp only[aG];exact flats_noRefs k xs h
 | .top,h=>by cases h
 | .sl _ _ _,h=>by cases h
 | .sv _ _ _,h=>by cases h
 | .bp _ _,h=>by cases h
 | .kp _,h=>by cases h
 | .fn _ _,h=>by cases h
theorem flats_noRefs (k:Nat) : ∀l:List C,flats l=true→noRefs k l=true
 | [],_=>rfl
 |x::xs,h=>by
  simp only[flats,Bool.and_eq_true] at h
  simp only[noRefs,BF k x h.1,flats_noRefs k xs h.2,Bool.and_self]
end
theorem aU {α:Type} (f:α→List C) [h:Fla f] (k:Nat) (l:List α) :noRefs k (cl f l) =true:=flats_noRefs k _ (gI f l)
theorem aT {α:Type} (f:α→List C) [h:Fla f] (k:Nat) (r:Rt) (l:List α) :aG k (sl f r l) =true:=aU f k l
theorem bq (k:Nat) (xs:List C) :aG k (.agg xs) =noRefs k xs:=rfl
theorem br (k:Nat) (xs:List C) :aG k (.tup xs) =noRefs k xs:=rfl
theorem bA (k:Nat) (xs:List C) :aG k (.kp xs) =noRefs k xs:=rfl
theorem aM (k:Nat) (v:Value) :aG k (.val v) =true:=rfl
theorem aD (k:Nat) :noRefs k [] =true:=rfl
theorem ay (k:Nat) (c:C) (l:List C) :noRefs k (c::l) = (aG k c && noRefs k l) :=rfl
theorem Hm (xs:List C) :flat (.agg xs) =flats xs:=rfl
theorem BG (cx:Cx) (g:Nat) (az:List C) (c:C) :wj cx g az (some c) =some (vp c) :=rfl
def sD (cx:Cx) (g:Nat) (az:List C) (b:Option Nat) (o:Option (C×Hp)) :Option Plan:=match b with
 |some b=>if o.isSome then some (.call g az) else some (.rd b (rdPu cx g az b))
 |none=>some (.call g az)
theorem BH (cx:Cx) (g:Nat) (az:List C) :wj cx g az none=sD cx g az (gU az) (cx.hp g az []) :=by
 unfold wj sD;rfl
theorem Hn (cx:Cx) (g:Nat) (az:List C) (b:Nat) :sD cx g az (some b) none=some (.rd b (rdPu cx g az b)) :=rfl
theorem ER (b o n:Nat) (l:List C) :gU (.sv b o n::l) =gx b l:=rfl
theorem ES (b o:Nat) (l:List C) :gU (.bp b o::l) =gx b l:=rfl
theorem BI (xs l:List C) :gU (.agg xs::l) =gU l:=rfl
theorem BJ (v:Value) (l:List C) :gU (.val v::l) =gU l:=rfl
theorem ET (xs l:List C) :gU (.kp xs::l) =gU l:=rfl
theorem Ho (b:Nat) :gx b [] =some b:=rfl
theorem Hq (b:Nat) (v:Value) (l:List C) :gx b (.val v::l) =gx b l:=rfl
theorem Nx (b:Nat) (xs l:List C) :gx b (.kp xs::l) =gx b l:=rfl
theorem Hr {α:Type} (b:Nat) (f:α→List C) (r:Rt) (x:List α) (l:List C) :gx b (sl f r x::l) =gx b l:=rfl
theorem Hs {b b':Nat} (h:b'≠b) (o:Nat) (l:List C) :gx b (.bp b' o::l) =none:=by simp[gx,h]
def TL (b:Bool) (c:C) :Option C:=if b then some c else none
def Yq (b:Bool) (c:Option C) :Option C:=if b then (match c with
 |some c=>TL (flat c) c
 |none=>none) else none
theorem Ny (cx:Cx) (g:Nat) (az:List C) (b:Nat) (cells:List C) :rdPu cx g az b cells=Yq (noRefs 0 (gG b cells az)) (cx.pu g (gG b cells az)) :=rfl
theorem Ht (c:C) :Yq true (some c) =TL (flat c) c:=rfl
theorem Hu (c:C) :TL true c=some c:=rfl
theorem Hv (b:Nat) (cells:List C) :gG b cells [] = [] :=rfl
theorem EU (b:Nat) (cells:List C) (c:C) (l:List C) :gG b cells (c::l) =ju b cells c::gG b cells l:=rfl
theorem Nz (b:Nat) (cells:List C) (xs:List C) :ju b cells (.agg xs) = .agg xs:=rfl
def tS (cells:List C) (b o n:Nat) :C:=if o+n≤cells.length then .sl .no n (((cells.drop o).take n).map C.noR) else .sv b o n
theorem TM (b:Nat) (cells:List C) (o n:Nat) :ju b cells (.sv b o n) =tS cells b o n:=by simp[ju,tS]
theorem uB {α:Type} (f:α→List C) [hf:Cel f 1] (b n:Nat) (l:List α) (r:List C) (h:n=l.length) :tS (cl f l++r) b 0 n=sl f .no l:=by
 subst h
 unfold tS
 have hl:=cp (f:=f) l
 simp only[List.length_append,hl,Nat.zero_add,Nat.mul_one,Nat.le_add_right,if_true,List.drop_zero]
 rw[List.take_append_of_le_length (by rw[hl];omega),List.take_of_length_le (by rw[hl];omega),fI]
 rfl
theorem NA {α β:Type} (f:α→List C) {s:Nat} [hf:Cel f s] (g:β→List C) [hg:Cel g 1] (b o n:Nat) (l:List α) (l':List β) (r:List C) (h:l.length*s=o) (h2:n=l'.length) :tS (cl f l++(cl g l'++r)) b o n=sl g .no l':=by
 have e:=uB g b n l' r h2
 unfold tS at e ⊢
 have hl:=cp (f:=f) l
 have hd: (cl f l++(cl g l'++r)).drop o=cl g l'++r:=by
  rw[List.drop_append,List.drop_of_length_le (by rw[hl];omega),hl,h,Nat.sub_self];rfl
 rw[hd]
 rw[List.drop_zero] at e
 by_cases hh:0+n≤(cl g l'++r).length
 · rw[if_pos hh] at e
   rw[if_pos (by rw[List.length_append,hl];omega),e]
 · rw[if_neg hh] at e;cases e
theorem Hw: ∀ (f:Nat) (az:List C),ew az=true→(fun _ _=>none:Nat→List C→Option C) f az=none:=fun _ _ _=>rfl
theorem fw {pu:Nat→List C→Option C} (hno: ∀f az,ew az=true→pu f az=none) {α:Type} {enc:α→List C} {out:α→C} {f:Nat} (he: ∀a,noRefs 0 (enc a) =true) : ∀g az,ew az=true→Sx.ext pu f (ce enc out) g az=none:=fun g az hr=>by
 by_cases hgf:g=f
 · subst hgf
   rw[bM]
   cases hq:ce enc out az with
   |none=>rfl
   |some c=>
    obtain ⟨a,rfl,_⟩ :=nu hq
    have:=he a
    rw[xZ _ hr] at this;cases this
 · rw[aX hgf];exact hno g az hr
theorem bz {P:Program} {km:TypeId→Value→Bool} {gl:Nat→C} {pu:Nat→List C→Option C} {N M:Nat} (hcx:CxOK ⟨P,N,gl,pu,fun _ _ _=>none,fun _=>false,km⟩)
 {α:Type} {enc:α→List C} {out:α→C} {f:Nat} (he: ∀a,noRefs 0 (enc a) =true) (h: ∀a,FC P gl f (enc a) [] (out a) []) :CxOK ⟨P,M,gl,Sx.ext pu f (ce enc out),fun _ _ _=>none,fun _=>false,km⟩ :=
 hcx.ext (M:=M) hcx.glo he h
theorem XE (l:List (BitVec 32)) (k:Nat) (a:BitVec 32) (h:k< l.length) :fo (cl wC l) k [.val (cB a)] =some (cl wC (l.set k a),.val undef) :=Ey (f:=wC) l k a h
theorem XF (l:List (UInt8)) (k:Nat) (a:UInt8) (h:k< l.length) :fo (cl bC l) k [.val (w8 a)] =some (cl bC (l.set k a),.val undef) :=Ey (f:=bC) l k a h
def slG (de:Option TD) (s:Nat) (p:Option Plan) :Option Plan:=match de with
 |some de=>if de.size=s then p else none
 |none=>none
section
variable (P:Program) (a1 b1:Nat) (z1:List Value)
def EV (de:Option TD) (s:Nat) (p q:Option Plan) :Option Plan:=match de with
 |some de=>if de.size=s then p else q
 |none=>q
theorem Hx (u:TypeDesc) (s y:Nat) (z:List Value) (p q:Option Plan) :EV (some ⟨u,s,y,z⟩) s p q=p:=if_pos rfl
def TN {α:Type} (f:α→List C) (e:TypeId) (r:Rt) (l:List α) (lo hi:Option C) :Option Plan:=uz P (some ⟨.slice e,a1,b1,z1⟩) (sl f r l) lo hi
theorem NB {α:Type} (f:α→List C) {s0:Nat} [hf:Cel f s0] (e:TypeId) (r:Rt) (l:List α) (lo hi:Option C) :
 uz P (some ⟨.slice e,a1,b1,z1⟩) (sl f r l) lo hi=EV (td P e) s0 (kr hi lo l.length fun h k=>some (vp (sl f .no ((l.drop k).take (h - k))))) (TN P a1 b1 z1 f e r l lo hi) :=by
 unfold TN
 cases hq:td P e with
 |none=>rfl
 |some de=>
  obtain ⟨u,s,y,z⟩ :=de
  unfold EV
  simp only[]
  split
  · rename_i hs
    subst hs
    exact Tv P a1 b1 z1 f e r l lo hi u y z hq
  · rfl
theorem XG (n:Nat) (e:TypeId) (b o m:Nat) (h:n≤m∧n≠0) :Bs P (some ⟨.array n e,a1,b1,z1⟩) (.sv b o m) =EL (td P e) fun _=>some (vp (.bp b o)) :=by
 unfold Bs EL
 simp only[]
 cases td P e with
 |none=>rfl
 |some de=>simp only[];rw[if_pos h]
def Yr (e:TypeId) (x y:C) :Option Plan:=EN P (some ⟨.slice e,a1,b1,z1⟩) x y
theorem NC (e:TypeId) (b o n:Nat) (l:List UInt8) (h:0< n) :
 EN P (some ⟨.slice e,a1,b1,z1⟩) (.sv b o n) (.val (str l)) =EV (td P e) 1 (some (.wr b (fun cells=>qF cells o n 1 (cl bC (l.take n)) (min l.length n)) none)) (Yr P a1 b1 z1 e (.sv b o n) (.val (str l))) :=by
 unfold Yr
 cases hq:td P e with
 |none=>rfl
 |some de=>
  obtain ⟨u,s,y,z⟩ :=de
  unfold EV
  simp only[]
  split
  · rename_i hs
    subst hs
    exact TG P a1 b1 z1 e b o n l u y z hq h
  · rfl
end
def KG (de:Option TD) (k:Option Nat) (n:Nat) (xs:List C) :Option Plan:=qE de k fun s k=>if xs.length=n*s∧xs≠[] then some (vp (.kp (xs.drop (k*s)))) else none
theorem ND {α:Type} (f:α→List C) (P:Program) (a1 b1:Nat) (z1:List Value) (e:TypeId) (r:Rt) (l:List α) (i:C) :re P (some ⟨.slice e,a1,b1,z1⟩) (sl f r l) i=KG (td P e) (ff i l.length) l.length (cl f l) :=Tj P a1 b1 z1 f e r l i
theorem nA {α:Type} (f:α→List C) {s:Nat} [hf:Cel f s] (u:TypeDesc) (y:Nat) (z:List Value) (k:Nat) (l:List α) (h:k< l.length) :KG (some ⟨u,s,y,z⟩) (some k) l.length (cl f l) =some (vp (.kp ((cl f l).drop (k*s)))) :=by
 show (if (cl f l).length=l.length*s∧cl f l≠[] then some (vp (.kp ((cl f l).drop (k*s)))) else none) =_
 rw[if_pos ⟨cp (f:=f) l,fun e=>by
  have h1:=cp (f:=f) l
  rw[e] at h1
  have h2:=hf.pos
  have h3:l.length*s≠0:=Nat.mul_ne_zero (by omega) (by omega)
  exact h3 h1.symm⟩]
def Ys (de:Option TD) (k:Option Nat) (n:Nat) (xs:List C) :Option Plan:=qE de k fun s k=>if n*s≤xs.length then some (vp (.kp (xs.drop (k*s)))) else none
theorem NE (P:Program) (a1 b1:Nat) (z1:List Value) (n:Nat) (e:TypeId) (xs:List C) (i:C) :re P (some ⟨.array n e,a1,b1,z1⟩) (.kp xs) i=Ys (td P e) (ff i n) n xs:=rfl
theorem Hy (u:TypeDesc) (s y:Nat) (z:List Value) (k n:Nat) (xs:List C) (h:n*s≤xs.length) :Ys (some ⟨u,s,y,z⟩) (some k) n xs=some (vp (.kp (xs.drop (k*s)))) :=if_pos h
theorem NF (b o n:Nat) (l:List C) :ew (.sv b o n::l) =true:=id rfl
theorem NG (b o:Nat) (l:List C) :ew (.bp b o::l) =true:=id rfl
theorem Hz (xs l:List C) :ew (.agg xs::l) =ew l:=id rfl
theorem HA (v:Value) (l:List C) :ew (.val v::l) =ew l:=id rfl
theorem NH (xs l:List C) :ew (.kp xs::l) =ew l:=id rfl
theorem HB {α:Type} (f:α→List C) (r:Rt) (x:List α) (l:List C) :ew (sl f r x::l) =ew l:=id rfl
theorem zy (x:BitVec 32) : (cB x).oneCell'=true:=id rfl
theorem EW (x:UInt8) : (w8 x).oneCell'=true:=id rfl
theorem EX (x:Nat) : (nI x).oneCell'=true:=id rfl
theorem EY (x:Nat) : (nU x).oneCell'=true:=id rfl
theorem zA (x:List UInt8) : (str x).oneCell'=true:=id rfl
theorem x3 (x:Bool) : (Value.bool x).oneCell'=true:=id rfl
theorem uC: (Value.slice none 0 0).oneCell'=true:=id rfl
end Go.Sx
