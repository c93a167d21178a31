/-
   And what follows.
-/
import Derived.ChangeSame
import Derived.ChangeVars
import Derived.ChangeStays
import Derived.ChangeOld
import Derived.ChangeArms
import Derived.OpenShut
import Derived.RowKit
import Derived.JoinedOf
import Derived.Handed
import Derived.LaidLaws
import Derived.LaidMore
import Derived.KernelRfl
import Derived.LaidHandle
import Derived.MakeChecks
import Derived.Stop.Joined
import Derived.Lib.SlBytesConst
import Derived.Test.YtmoaeemdlompaaaDoorPai
set_option linter.unusedSimpArgs false
set_option linter.unusedVariables false
namespace Go.Sx
open Go.RowKit
def pk (e:List (Nat×C)):List Nat→List (Nat×C)
 | [] =>[]
 |k::ks=>(k,A e k)::pk e ks
theorem LY (e:List (Nat×C))(t:Nat):∀ks:List Nat,A (pk e ks) t= .top∨A (pk e ks) t=A e t
 | [] => .inl rfl
 |k::ks=>by
  simp only[pk,A]
  by_cases h:t=k
  . subst h;right;simp
  . simp only[if_neg h];exact LY e t ks
theorem BM (e:List (Nat×C)):pk e [] = []:=rfl
theorem vZ (e:List (Nat×C))(k:Nat)(ks:List Nat):pk e (k::ks) = (k,A e k)::pk e ks:=rfl
section
variable {cx:Cx} {n:Nat} {Q:Ex→St→Prop} {e:List (Nat×C)} {h:Hp}
theorem Tr.kp (ks:List Nat){c:Code}(H:Tr cx n c ⟨A (pk e ks),h⟩ Q):Tr cx n c ⟨A e,h⟩ Q:=by
 refine Tr.weaken (fun t=>?_) H
 rcases LY e t ks with q|q
 . rw[q];exact CLe.top _
 . rw[q];exact CLe.refl _
end
def condG (c:C)(p q:Prop):Prop:= ∃b,c= .val (.bool b)∧GB b p q
theorem lB (b:Bool)(p q:Prop):condG (.val (.bool b)) p q=GB b p q:=by
 simp[condG]
theorem Tr.condG {cx:Cx}{n:Nat}{Q:Ex→St→Prop}{e:List (Nat×C)}{h:Hp}{c:Operand}{x y:Code}(H:∀KT KF:Prop,(Tr cx n x ⟨A e,h⟩ Q→KT)→(Tr cx n y ⟨A e,h⟩ Q→KF)→Sx.condG (cx.ev (A e) c) KT KF):Tr cx n (.cond c x y) ⟨A e,h⟩ Q:=by
 obtain ⟨b,h1,h2,h3⟩:=H _ _ (fun x=>x) (fun x=>x)
 exact xx h1 h2 h3
theorem BN {α:Type}[Inhabited α](l:List α)(k:Nat):l.getD k default=gt l k:=rfl
theorem DB (K:St→Prop)(Q:Ex→St→Prop)(s:St):mX K Q .normal s=K s:=rfl
theorem SF (K:St→Prop)(Q:Ex→St→Prop)(s:St):mX K Q .ret s=Q .ret s:=rfl
theorem L0 (k:Nat)(Q:Ex→St→Prop)(s:St):pN k Q .normal s=Q .normal s:=rfl
theorem L3 (k:Nat)(Q:Ex→St→Prop)(s:St):pN k Q .ret s=Q .ret s:=rfl
theorem SG (cx:Cx)(rs:List ResultVar)(c:C)(st:St):PV cx rs c .ret st= (i2 cx st rs=some c):=rfl
theorem L4 (cx:Cx)(st:St)(r:ResultVar):i2 cx st [r] =eA cx st r:=rfl
theorem L5 (cx:Cx)(e:List (Nat×C))(h:Hp)(t:Nat):eA cx ⟨A e,h⟩ (.tmp t) =some (A e t):=rfl
def Z6 (t:Option TD)(c:C)(h:Hp):Option C:=match t,c with
 |some d,.bp b off=>(h.at b).bind fun cells=>cU d cells off
 |_,_=>none
theorem IF (cx:Cx)(e:List (Nat×C))(h:Hp)(a:Nat)(t:TypeId):eA cx ⟨A e,h⟩ (.cell a t) =Z6 (td cx.P t) (A e a) h:=rfl
theorem SI (n:Nat)(e:TypeId)(a b:Nat)(z:List Value)(x o:Nat)(h:Hp):Z6 (some ⟨.array n e,a,b,z⟩) (.bp x o) h= (h.at x).bind fun cells=>kU cells o a:=rfl
theorem Fl (fs:Array Field)(a b:Nat)(z:List Value)(x o:Nat)(h:Hp):Z6 (some ⟨.struct fs,a,b,z⟩) (.bp x o) h= (h.at x).bind fun cells=>kU cells o a:=rfl
theorem aZ (env:Nat→C):Le env [] =True:=rfl
theorem aK (env:Nat→C)(k:Nat)(c:C)(l:List (Nat×C)):Le env ((k,c)::l) = (CLe (env k) c∧Le env l):=rfl
theorem aC (c:C):CLe c c=True:=by simp[CLe.refl]
theorem aP (c:C):CLe c .top=True:=by simp[CLe.top]
theorem aD {α:Type}(f:α→List C)(r:Rt)(l:List α):CLe (sl f .full l) (sl f r l) =True:=by simp only[sl,eq_iff_iff,iff_true];exact CLe.full ..
theorem aL {α:Type}(f:α→List C)(r:Rt):CLe (.val (.slice none 0 0)) (sl f r []) =True:=by simp only[sl,eq_iff_iff,iff_true];exact CLe.nil _
theorem aQ {α:Type}(f:α→List C)(s:Nat)(l:List α):CLe (sl f (.own s) l) (sl f .no l) =True:=eq_true (CLe.noR (sl f (.own s) l))
theorem SJ (P:Program)(u1:TypeDesc)(a1 b1 a2 b2:Nat)(z1 z2:List Value)(n:Int):lu P (some ⟨u1,a1,b1,z1⟩) (some ⟨.int .u64,a2,b2,z2⟩) (.val (.int .i64 n)) =some (vp (.val (nU (n % 18446744073709551616).toNat))):=by
 rw[iu,fN,nU];congr 4;omega
theorem SK (P:Program)(t:TypeId)(x:Nat)(h:x< 18446744073709551616):aw P .and t (.val (nU x)) (.val (nU 31)) =some (vp (.val (nU (x % 32)))):=by
 rw[aeS P t x 31 (by omega)]
 have:=Nat.and_two_pow_sub_one_eq_mod x 5
 simp only[Nat.reducePow,Nat.reduceSub] at this
 rw[this]
theorem SL (n:Nat)(h:n< 9223372036854775808):gQ .neg (.val (nI n)) =some (vp (.val (.int .i64 (-(n:Int))))):=by
 show some (vp (.val (.int .i64 (IntKind.wrap .i64 (0 - (n:Int)))))) =_
 rw[eg _ (by omega) (by omega),Int.zero_sub]
theorem Z7 (b:Bool):gQ .not (.val (.bool b)) =some (vp (.val (.bool (!b)))):=rfl
theorem DC (n:Nat):List.replicate n (C.val (bE (BitVec.ofNat 32 0))) =cl wC (List.replicate n 0):=Z1 n
theorem BO (n:Nat):List.replicate n (C.val (w8 (UInt8.ofNat 0))) =cl bC (List.replicate n 0):=Z2 n
theorem IG (n:Nat):List.replicate n (C.val (nI 0)) =cl nC (List.replicate n 0):=Z3 n
end Go.Sx
namespace Go.Sx
open Go.RowKit
end Go.Sx
namespace Go.Sx
open Go.RowKit
def dK:List C→Bool
 | [] =>false
 | .sv _ _ _::_=>true
 | .bp _ _::_=>true
 | .gv _ _ _::_=>true
 |_::l=>dK l
theorem BP:∀l:List C,dK l=true→noRefs 0 l=false
 | [],h=>by cases h
 |c::l,h=>by
  cases c with
  |sv b o n=>simp[noRefs,ah]
  |bp b o=>simp[noRefs,ah]
  |gv b o s=>simp[noRefs,ah]
  |_=>
   have:=BP l h
   simp only[noRefs,this,Bool.and_false]
class Fla {α:Type} (f:α→List C):Prop where
 flat:∀a,flats (f a) =true
instance:Fla bC:=⟨fun _=>rfl⟩
instance:Fla wC:=⟨fun _=>rfl⟩
instance:Fla sC:=⟨fun _=>rfl⟩
instance:Fla iC:=⟨fun _=>rfl⟩
instance:Fla nC:=⟨fun _=>rfl⟩
instance:Fla oC:=⟨fun _=>rfl⟩
theorem w4 (xs ys:List C):flats (xs++ys) = (flats xs && flats ys):=by
 induction xs with
 |nil=>simp[flats]
 |cons x xs ih=>simp only[List.cons_append,flats,ih,Bool.and_assoc]
theorem lE (k:Nat)(xs ys:List C):noRefs k (xs++ys) = (noRefs k xs && noRefs k ys):=by
 induction xs with
 |nil=>simp[noRefs]
 |cons x xs ih=>simp only[List.cons_append,noRefs,ih,Bool.and_assoc]
theorem gH {α:Type}(f:α→List C)[h:Fla f]:∀l:List α,flats (cl f l) =true
 | [] =>rfl
 |a::l=>by rw[dO,w4,h.flat,gH f l];rfl
mutual
theorem Fm (k:Nat):∀c:C,flat c=true→ah k c=true
 | .val _,_=>rfl
 | .agg xs,h=>by simp only[flat] at h;simp only[ah];exact flats_noRefs k xs h
 | .tup xs,h=>by simp only[flat] at h;simp only[ah];exact flats_noRefs k xs h
 | .top,h=>by cases h
 | .sl _ _ _,h=>by cases h
 | .sv _ _ _,h=>by cases h
 | .bp _ _,h=>by cases h
 | .kp _,h=>by cases h
 | .fn _ _,h=>by cases h
theorem flats_noRefs (k:Nat):∀l:List C,flats l=true→noRefs k l=true
 | [],_=>rfl
 |x::xs,h=>by
  simp only[flats,Bool.and_eq_true] at h
  simp only[noRefs,Fm k x h.1,flats_noRefs k xs h.2,Bool.and_self]
end
theorem jB {α:Type}(f:α→List C)[h:Fla f](k:Nat)(l:List α):noRefs k (cl f l) =true:=flats_noRefs k _ (gH f l)
theorem dU {α:Type}(f:α→List C)[h:Fla f](k:Nat)(r:Rt)(l:List α):ah k (sl f r l) =true:=jB f k l
theorem mZ (k:Nat)(xs:List C):ah k (.agg xs) =noRefs k xs:=rfl
theorem m0 (k:Nat)(xs:List C):ah k (.tup xs) =noRefs k xs:=rfl
theorem fv (k:Nat)(xs:List C):ah k (.kp xs) =noRefs k xs:=rfl
theorem d7 (k:Nat)(v:Value):ah k (.val v) =true:=rfl
theorem c7 (k:Nat):noRefs k [] =true:=rfl
theorem cV (k:Nat)(c:C)(l:List C):noRefs k (c::l) = (ah k c && noRefs k l):=rfl
theorem L6 (xs:List C):flat (.agg xs) =flats xs:=rfl
theorem Fn (cx:Cx)(g:Nat)(az:List C)(c:C):zf cx g az (some c) =some (vp c):=rfl
def ux (cx:Cx)(g:Nat)(az:List C)(b:Option Nat)(o:Option (C×Hp)):Option Plan:=match b with
 |some b=>if o.isSome then some (.call g az) else some (.rd b (rdPu cx g az b))
 |none=>some (.call g az)
theorem Fo (cx:Cx)(g:Nat)(az:List C):zf cx g az none=ux cx g az (fq az) (cx.hp g az []):=by
 unfold zf ux;rfl
theorem L7 (cx:Cx)(g:Nat)(az:List C)(b:Nat):ux cx g az (some b) none=some (.rd b (rdPu cx g az b)):=rfl
theorem IH (b o n:Nat)(l:List C):fq (.sv b o n::l) =gh b l:=rfl
theorem II (b o:Nat)(l:List C):fq (.bp b o::l) =gh b l:=rfl
theorem Fp (xs l:List C):fq (.agg xs::l) =fq l:=rfl
theorem Fq (v:Value)(l:List C):fq (.val v::l) =fq l:=rfl
theorem IJ (xs l:List C):fq (.kp xs::l) =fq l:=rfl
theorem Fr {α:Type}(f:α→List C)(r:Rt)(x:List α)(l:List C):fq (sl f r x::l) =fq l:=rfl
theorem L8 (b:Nat):gh b [] =some b:=rfl
theorem L9 (b:Nat)(v:Value)(l:List C):gh b (.val v::l) =gh b l:=rfl
theorem SM (b:Nat)(xs l:List C):gh b (.kp xs::l) =gh b l:=rfl
theorem Ma {α:Type}(b:Nat)(f:α→List C)(r:Rt)(x:List α)(l:List C):gh b (sl f r x::l) =gh b l:=rfl
theorem Mb {b b':Nat}(h:b'≠b)(o:Nat)(l:List C):gh b (.bp b' o::l) =none:=by simp[gh,h]
def Z9 (b:Bool)(c:C):Option C:=if b then some c else none
def rdQ (b:Bool)(c:Option C):Option C:=if b then (match c with
 |some c=>Z9 (flat c) c
 |none=>none) else none
theorem SN (cx:Cx)(g:Nat)(az:List C)(b:Nat)(cells:List C):rdPu cx g az b cells=rdQ (noRefs 0 (gF b cells az)) (cx.pu g (gF b cells az)):=rfl
theorem Mc (c:C):rdQ true (some c) =Z9 (flat c) c:=rfl
theorem Md (c:C):Z9 true c=some c:=rfl
theorem Me (b:Nat)(cells:List C):gF b cells [] = []:=rfl
theorem IK (b:Nat)(cells:List C)(c:C)(l:List C):gF b cells (c::l) =jV b cells c::gF b cells l:=rfl
theorem SO (b:Nat)(cells:List C)(xs:List C):jV b cells (.agg xs) = .agg xs:=rfl
def v8 (cells:List C)(b o n:Nat):C:=if o+n≤cells.length then .sl .no n (((cells.drop o).take n).map C.noR) else .sv b o n
theorem aaa (b:Nat)(cells:List C)(o n:Nat):jV b cells (.sv b o n) =v8 cells b o n:=by simp[jV,v8]
theorem w5 {α:Type}(f:α→List C)[hf:Cel f 1](b n:Nat)(l:List α)(r:List C)(h:n=l.length):v8 (cl f l++r) b 0 n=sl f .no l:=by
 subst h
 unfold v8
 have hl:=bm (f:=f) l
 simp only[List.length_append,hl,Nat.zero_add,Nat.mul_one,Nat.le_add_right,if_true,List.drop_zero]
 rw[List.take_append_of_le_length (by rw[hl];omega),List.take_of_length_le (by rw[hl];omega),fu]
 rfl
theorem SP {α β:Type}(f:α→List C){s:Nat}[hf:Cel f s](g:β→List C)[hg:Cel g 1](b o n:Nat)(l:List α)(l':List β)(r:List C)(h:l.length*s=o)(h2:n=l'.length):v8 (cl f l++(cl g l'++r)) b o n=sl g .no l':=by
 have e:=w5 g b n l' r h2
 unfold v8 at e ⊢
 have hl:=bm (f:=f) l
 have hd: (cl f l++(cl g l'++r)).drop o=cl g l'++r:=by
  rw[List.drop_append,List.drop_of_length_le (by rw[hl];omega),hl,h,Nat.sub_self];rfl
 rw[hd]
 rw[List.drop_zero] at e
 by_cases hh:0+n≤(cl g l'++r).length
 . rw[if_pos hh] at e
   rw[if_pos (by rw[List.length_append,hl];omega),e]
 . rw[if_neg hh] at e;cases e
theorem Mf:∀ (f:Nat)(az:List C),dK az=true→(fun _ _=>none:Nat→List C→Option C) f az=none:=fun _ _ _=>rfl
theorem fj {pu:Nat→List C→Option C}(hno:∀f az,dK az=true→pu f az=none){α:Type}{enc:α→List C}{out:α→C}{f:Nat}(he:∀a,noRefs 0 (enc a) =true):∀g az,dK az=true→Sx.ext pu f (aO enc out) g az=none:=fun g az hr=>by
 by_cases hgf:g=f
 . subst hgf
   rw[ar]
   cases hq:aO enc out az with
   |none=>rfl
   |some c=>
    obtain ⟨a,rfl,_⟩:=oH hq
    have:=he a
    rw[BP _ hr] at this;cases this
 . rw[ae hgf];exact hno g az hr
theorem am {P:Program}{km:TypeId→Value→Bool}{gl:Nat→C}{pu:Nat→List C→Option C}{N M:Nat}(hcx:CxOK ⟨P,N,gl,pu,fun _ _ _=>none,fun _=>false,km,true⟩)
 {α:Type} {enc:α→List C} {out:α→C} {f:Nat} (he:∀a,noRefs 0 (enc a) =true) (h:∀a,FC P gl f (enc a) [] (out a) []):CxOK ⟨P,M,gl,Sx.ext pu f (aO enc out),fun _ _ _=>none,fun _=>false,km,true⟩:=
 hcx.ext (M:=M) hcx.glo he h
theorem aeZ (l:List (BitVec 32))(k:Nat)(a:BitVec 32)(h:k< l.length):eL (cl wC l) k [.val (bE a)] =some (cl wC (l.set k a),.val undef):=Io (f:=wC) l k a h
theorem ae0 (l:List (UInt8))(k:Nat)(a:UInt8)(h:k< l.length):eL (cl bC l) k [.val (w8 a)] =some (cl bC (l.set k a),.val undef):=Io (f:=bC) l k a h
def slG (de:Option TD)(s:Nat)(p:Option Plan):Option Plan:=match de with
 |some de=>if de.size=s then p else none
 |none=>none
section
variable (P:Program) (a1 b1:Nat) (z1:List Value)
def IL (de:Option TD)(s:Nat)(p q:Option Plan):Option Plan:=match de with
 |some de=>if de.size=s then p else q
 |none=>q
theorem Mg (u:TypeDesc)(s y:Nat)(z:List Value)(p q:Option Plan):IL (some ⟨u,s,y,z⟩) s p q=p:=if_pos rfl
def aab {α:Type}(f:α→List C)(e:TypeId)(r:Rt)(l:List α)(lo hi:Option C):Option Plan:=wZ P (some ⟨.slice e,a1,b1,z1⟩) (sl f r l) lo hi
theorem SQ {α:Type}(f:α→List C){s0:Nat}[hf:Cel f s0](e:TypeId)(r:Rt)(l:List α)(lo hi:Option C):
 wZ P (some ⟨.slice e,a1,b1,z1⟩) (sl f r l) lo hi=IL (td P e) s0 (kW hi lo l.length fun h k=>some (vp (sl f .no ((l.drop k).take (h - k))))) (aab P a1 b1 z1 f e r l lo hi):=by
 unfold aab
 cases hq:td P e with
 |none=>rfl
 |some de=>
  obtain ⟨u,s,y,z⟩:=de
  unfold IL
  simp only[]
  split
  . rename_i hs
    subst hs
    exact ZU P a1 b1 z1 f e r l lo hi u y z hq
  . rfl
theorem ae1 (n:Nat)(e:TypeId)(b o m:Nat)(h:n≤m∧n≠0):vY P (some ⟨.array n e,a1,b1,z1⟩) (.sv b o m) =IB (td P e) fun _=>some (vp (.bp b o)):=by
 unfold vY IB
 simp only[]
 cases td P e with
 |none=>rfl
 |some de=>simp only[];rw[if_pos h]
def cpo (e:TypeId)(x y:C):Option Plan:=IE P (some ⟨.slice e,a1,b1,z1⟩) x y
theorem SS (e:TypeId)(b o n:Nat)(l:List UInt8)(h:0< n):
 IE P (some ⟨.slice e,a1,b1,z1⟩) (.sv b o n) (.val (str l)) =IL (td P e) 1 (some (.wr b (fun cells=>sM cells o n 1 (cl bC (l.take n)) (min l.length n)) none)) (cpo P a1 b1 z1 e (.sv b o n) (.val (str l))):=by
 unfold cpo
 cases hq:td P e with
 |none=>rfl
 |some de=>
  obtain ⟨u,s,y,z⟩:=de
  unfold IL
  simp only[]
  split
  . rename_i hs
    subst hs
    exact Z5 P a1 b1 z1 e b o n l u y z hq h
  . rfl
end
def w6 (de:Option TD)(k:Option Nat)(n:Nat)(xs:List C):Option Plan:=sL de k fun s k=>if xs.length=n*s∧xs≠[] then some (vp (.kp (xs.drop (k*s)))) else none
theorem ST {α:Type}(f:α→List C)(P:Program)(a1 b1:Nat)(z1:List Value)(e:TypeId)(r:Rt)(l:List α)(i:C):ti P (some ⟨.slice e,a1,b1,z1⟩) (sl f r l) i=w6 (td P e) (eG i l.length) l.length (cl f l):=ZJ P a1 b1 z1 f e r l i
theorem oM {α:Type}(f:α→List C){s:Nat}[hf:Cel f s](u:TypeDesc)(y:Nat)(z:List Value)(k:Nat)(l:List α)(h:k< l.length):w6 (some ⟨u,s,y,z⟩) (some k) l.length (cl f l) =some (vp (.kp ((cl f l).drop (k*s)))):=by
 show (if (cl f l).length=l.length*s∧cl f l≠[] then some (vp (.kp ((cl f l).drop (k*s)))) else none) =_
 rw[if_pos ⟨bm (f:=f) l,fun e=>by
  have h1:=bm (f:=f) l
  rw[e] at h1
  have h2:=hf.pos
  have h3:l.length*s≠0:=Nat.mul_ne_zero (by omega) (by omega)
  exact h3 h1.symm⟩]
def ixK (de:Option TD)(k:Option Nat)(n:Nat)(xs:List C):Option Plan:=sL de k fun s k=>if n*s≤xs.length then some (vp (.kp (xs.drop (k*s)))) else none
theorem SU (P:Program)(a1 b1:Nat)(z1:List Value)(n:Nat)(e:TypeId)(xs:List C)(i:C):ti P (some ⟨.array n e,a1,b1,z1⟩) (.kp xs) i=ixK (td P e) (eG i n) n xs:=rfl
theorem Mh (u:TypeDesc)(s y:Nat)(z:List Value)(k n:Nat)(xs:List C)(h:n*s≤xs.length):ixK (some ⟨u,s,y,z⟩) (some k) n xs=some (vp (.kp (xs.drop (k*s)))):=if_pos h
theorem SV (b o n:Nat)(l:List C):dK (.sv b o n::l) =true:=id rfl
theorem SW (b o:Nat)(l:List C):dK (.bp b o::l) =true:=id rfl
theorem Mi (xs l:List C):dK (.agg xs::l) =dK l:=id rfl
theorem Mj (v:Value)(l:List C):dK (.val v::l) =dK l:=id rfl
theorem SX (xs l:List C):dK (.kp xs::l) =dK l:=id rfl
theorem Mk {α:Type}(f:α→List C)(r:Rt)(x:List α)(l:List C):dK (sl f r x::l) =dK l:=id rfl
theorem DD (x:BitVec 32): (bE x).oneCell'=true:=id rfl
theorem IM (x:UInt8): (w8 x).oneCell'=true:=id rfl
theorem IP (x:Nat): (nI x).oneCell'=true:=id rfl
theorem IQ (x:Nat): (nU x).oneCell'=true:=id rfl
theorem DE (x:List UInt8): (str x).oneCell'=true:=id rfl
theorem BQ (x:Bool): (Value.bool x).oneCell'=true:=id rfl
theorem w7: (Value.slice none 0 0).oneCell'=true:=id rfl
end Go.Sx
namespace Go.Sx
open Go.RowKit
theorem Ml {α:Type}[Inhabited α](a:α)(l:List α):gt (a::l) 0=a:=rfl
theorem tj {α:Type}[Inhabited α](a:α)(l:List α)(n:Nat):gt (a::l) (n+1) =gt l n:=by simp[gt,List.getD]
theorem SY {α:Type}{f:α→List C}[hf:Cel f 1](l:List α)(o n:Nat)(h:o+n≤l.length):kU (cl f l) o n=some (.agg (cl f ((l.drop o).take n))):=by
 have e1:=gi (f:=f) l o
 have e2:=iI (f:=f) (l.drop o) n
 rw[Nat.mul_one] at e1 e2
 unfold kU
 rw[if_pos (by rw[bm (f:=f)];omega),e1,e2,fu]
def jW (cells:List C):List (Nat×C)→Option Plan
 | [] =>some (vp (.agg cells))
 | (i,c)::r=>match c.cells? with
   |some cs=>if cs.length=1∧i+1≤cells.length then jW (splice cells i cs) r else none
   |none=>none
theorem DF (y:Nat):∀ (parts:List (Nat×C))(cells:List C),(fW (fun i=>some (i*1,1)) cells parts).map (fun cs=>vp (.agg cs)) =jW cells parts
 | [],cells=>rfl
 | (i,c)::r,cells=>by
   unfold fW jW
   cases c.cells? with
   |none=>rfl
   |some cs=>
    simp only[Nat.mul_one]
    split
    . have:=DF y r (splice cells i cs)
      simpa only[Nat.mul_one] using this
    . rfl
def nW (de:Option TD)(z:List Value)(parts:List (Nat×C))(q:Option Plan):Option Plan:=match de with
 |some d=>if d.size=1∧z.all (·.oneCell') =true then jW (z.map .val) parts else q
 |none=>q
def bpo (P:Program)(n:Nat)(e:TypeId)(s y:Nat)(z:List Value)(parts:List (Nat×C)):Option Plan:=mB P (some ⟨.array n e,s,y,z⟩) parts
theorem IR (P:Program)(n:Nat)(e:TypeId)(s y:Nat)(z:List Value)(parts:List (Nat×C)):mB P (some ⟨.array n e,s,y,z⟩) parts=nW (td P e) z parts (bpo P n e s y z parts):=by
 unfold nW bpo
 cases hq:td P e with
 |none=>rfl
 |some d=>
  simp only[]
  split
  . rename_i h
    unfold mB
    simp only[h.2,Bool.true_eq_false,if_false,kP,hq,Option.map_some,Option.bind_some,h.1]
    exact DF 0 parts _
  . rfl
theorem uy (u:TypeDesc)(y n:Nat)(z:List Value)(v:Value)(parts:List (Nat×C))(q:Option Plan)(h:v.oneCell'=true):nW (some ⟨u,1,y,z⟩) (List.replicate n v) parts q=jW (List.replicate n (.val v)) parts:=by
 unfold nW
 simp only[]
 rw[if_pos ⟨trivial,by simp[h]⟩,List.map_replicate]
theorem Mm (cells:List C):jW cells [] =some (vp (.agg cells)):=rfl
theorem aac (l:List (BitVec 32))(i:Nat)(x:BitVec 32)(r:List (Nat×C))(h:i< l.length):jW (cl wC l) ((i,.val (bE x))::r) =jW (cl wC (l.set i x)) r:=by
 have e:=mC (f:=wC) l i x h
 rw[Nat.mul_one] at e
 have e2:splice (cl wC l) i [.val (bE x)] =cl wC (l.set i x):=e
 show (if [C.val (bE x)].length=1∧i+1≤(cl wC l).length then jW (splice (cl wC l) i [.val (bE x)]) r else none) =_
 rw[if_pos ⟨rfl,by rw[bm (f:=wC)];omega⟩,e2]
theorem aad (l:List UInt8)(i:Nat)(x:UInt8)(r:List (Nat×C))(h:i< l.length):jW (cl bC l) ((i,.val (w8 x))::r) =jW (cl bC (l.set i x)) r:=by
 have e:=mC (f:=bC) l i x h
 rw[Nat.mul_one] at e
 have e2:splice (cl bC l) i [.val (w8 x)] =cl bC (l.set i x):=e
 show (if [C.val (w8 x)].length=1∧i+1≤(cl bC l).length then jW (splice (cl bC l) i [.val (w8 x)]) r else none) =_
 rw[if_pos ⟨rfl,by rw[bm (f:=bC)];omega⟩,e2]
def dV (n:Nat)(cells:List C):List (Nat×C)→Option Plan
 | [] =>some (vp (.sl .full n cells))
 | (i,c)::r=>match c.cells? with
   |some cs=>if cs.length=1∧i+1≤cells.length then dV n (splice cells i cs) r else none
   |none=>none
theorem BR (n:Nat):∀ (parts:List (Nat×C))(cells:List C),(fW (fun i=>some (i*1,1)) cells parts).map (fun cs=>vp (.sl .full n cs)) =dV n cells parts
 | [],cells=>rfl
 | (i,c)::r,cells=>by
   unfold fW dV
   cases c.cells? with
   |none=>rfl
   |some cs=>
    simp only[Nat.mul_one]
    split
    . have:=BR n r (splice cells i cs)
      simpa only[Nat.mul_one] using this
    . rfl
def j6 (de:Option TD)(n:Nat)(parts:List (Nat×C)):Option Plan:=match de with
 |some de=>if n*de.size≤65536∧n≤65536∧de.zero.length=de.size∧de.zero.all (·.oneCell') =true then
  (fW (fun i=>some (i*de.size,de.size)) (cw de.zero n) parts).map fun cs=>vp (.sl .full n cs) else none
 |none=>none
theorem Mn (P:Program)(e:TypeId)(s y n:Nat)(z:List Value)(parts:List (Nat×C)):nj P false (some ⟨.slice e,s,y,z⟩) n parts=j6 (td P e) n parts:=rfl
theorem sN (v:Value):∀n,cw [v] n=List.replicate n (.val v)
 |0=>rfl
 |n+1=>by rw[List.replicate_succ,←sN v n];rfl
theorem sa (u:TypeDesc)(y n:Nat)(v:Value)(parts:List (Nat×C))(h:v.oneCell'=true)(hn:n≤65536):j6 (some ⟨u,1,y,[v]⟩) n parts=dV n (List.replicate n (.val v)) parts:=by
 unfold j6
 simp only[Nat.mul_one,List.length_singleton,List.all_cons,List.all_nil,h,Bool.and_self,hn,and_self,if_true]
 rw[sN]
 have:=BR n parts (List.replicate n (.val v))
 simpa only[Nat.mul_one] using this
theorem SZ (n:Nat)(l:List UInt8)(i:Nat)(x:UInt8)(r:List (Nat×C))(h:i< l.length):dV n (cl bC l) ((i,.val (w8 x))::r) =dV n (cl bC (l.set i x)) r:=by
 have e:=mC (f:=bC) l i x h
 rw[Nat.mul_one] at e
 have e2:splice (cl bC l) i [.val (w8 x)] =cl bC (l.set i x):=e
 show (if [C.val (w8 x)].length=1∧i+1≤(cl bC l).length then dV n (splice (cl bC l) i [.val (w8 x)]) r else none) =_
 rw[if_pos ⟨rfl,by rw[bm (f:=bC)];omega⟩,e2]
theorem S7 (n:Nat)(l:List (List UInt8))(i:Nat)(x:List UInt8)(r:List (Nat×C))(h:i< l.length):dV n (cl sC l) ((i,.val (str x))::r) =dV n (cl sC (l.set i x)) r:=by
 have e:=mC (f:=sC) l i x h
 rw[Nat.mul_one] at e
 have e2:splice (cl sC l) i [.val (str x)] =cl sC (l.set i x):=e
 show (if [C.val (str x)].length=1∧i+1≤(cl sC l).length then dV n (splice (cl sC l) i [.val (str x)]) r else none) =_
 rw[if_pos ⟨rfl,by rw[bm (f:=sC)];omega⟩,e2]
theorem IS {α:Type}(f:α→List C)(n:Nat)(l:List α)(h:n=l.length):dV n (cl f l) [] =some (vp (sl f .full l)):=by
 subst h;rfl
theorem DG (n:Nat):List.replicate n (C.val (str [])) =cl sC (List.replicate n []):=by
 induction n with
 |zero=>rfl
 |succ n ih=>rw[List.replicate_succ,ih];rfl
theorem Mo (cells cs:List C)(h:cs.length=cells.length):eL cells 0 cs=some (cs,.val undef):=by
 unfold eL splice
 rw[if_pos (by omega),List.take_zero,List.nil_append,Nat.zero_add,List.drop_of_length_le (by omega),List.append_nil]
theorem Mp (cells:List C)(n:Nat)(h:cells.length=n):kU cells 0 n=some (.agg (cells.map C.noR)):=by
 subst h
 unfold kU
 rw[if_pos (by omega),List.drop_zero,List.take_of_length_le (Nat.le_refl _)]
theorem S9 {α:Type}{f:α→List C}{s:Nat}[hf:Cel f s](l:List α)(r:List C)(o n s' m:Nat)(ys:List C)(h:l.length*s≤o):sM (cl f l++r) o n s' ys m= (sM r (o - l.length*s) n s' ys m).map fun q=>(cl f l++q.1,q.2):=by
 have hl:=bm (f:=f) l
 unfold sM
 simp only[List.length_append,hl]
 rw[sK _ _ _ _ (by rw[hl];exact h),hl]
 by_cases hh:o+n*s'≤l.length*s+r.length
 . rw[if_pos hh,if_pos (by omega)];rfl
 . rw[if_neg hh,if_neg (by omega)];rfl
theorem Ta {α:Type}{f:α→List C}[hf:Cel f 1](l l':List α)(r:List C)(o n m:Nat)(h:o+n≤l.length)(h2:l'.length≤n):sM (cl f l++r) o n 1 (cl f l') m=some (cl f (l.take o++l'++l.drop (o+l'.length))++r,.val (nI m)):=by
 have:=Ik (f:=f) l l' o
 rw[Nat.mul_one] at this
 have hl:=bm (f:=f) l
 have hl':=bm (f:=f) l'
 unfold sM
 rw[if_pos (by rw[List.length_append,hl];omega),sJ _ _ _ _ (by rw[hl,hl'];omega),this]
def zc (z:List Value):List C:=z.map .val
theorem aae:zc [] = []:=rfl
theorem Tb (v:Value)(l:List Value):zc (v::l) = .val v::zc l:=rfl
theorem aaf (a b:List Value):zc (a++b) =zc a++zc b:=by simp[zc]
theorem aag (n:Nat)(v:Value):zc (List.replicate n v) =List.replicate n (.val v):=by simp[zc]
def gR (z:List Value):Bool:=z.all (·.oneCell')
theorem Ft:gR [] =true:=rfl
theorem CJ (v:Value)(l:List Value):gR (v::l) = (v.oneCell' && gR l):=rfl
theorem Fu (a b:List Value):gR (a++b) = (gR a && gR b):=by simp[gR]
theorem Fv (n:Nat)(v:Value)(h:v.oneCell'=true):gR (List.replicate n v) =true:=by simp[gR,h]
def alQ (b:Bool)(cs:List C):Option Plan:=if b then some (.new cs fun id=> .bp id 0) else none
theorem Tc (u:TypeDesc)(s y:Nat)(z:List Value):Ih (some ⟨u,s,y,z⟩) =alQ (gR z) (zc z):=rfl
theorem Mq (cs:List C):alQ true cs=some (.new cs fun id=> .bp id 0):=rfl
theorem Mr (t:TypeId)(T:Option TD):BF false t T=Ih T:=by cases T<;>rfl
def sO (P:Program):List Field→Option (List (Nat×Nat))
 | [] =>some []
 |fd::l=>match td P fd.type,sO P l with
  |some d,some r=>some ((fd.offset,d.size)::r)
  |_,_=>none
theorem IT (P:Program):∀l:List Field,(l.mapM fun f=>(td P f.type).map fun d=>(f.offset,d.size)) =sO P l
 | [] =>rfl
 |fd::l=>by
  rw[List.mapM_cons,IT P l]
  simp only[sO,Option.bind_eq_bind,Option.pure_def]
  cases td P fd.type with
  |none=>rfl
  |some d=>cases sO P l<;>rfl
def plQ (d:Option TD)(o:Nat)(r:Option (List (Nat×Nat))):Option (List (Nat×Nat)):=match d,r with
 |some d,some r=>some ((o,d.size)::r)
 |_,_=>none
theorem Td (P:Program):sO P [] =some []:=rfl
theorem Ms (P:Program)(nm:String)(t:TypeId)(o:Nat)(em:Bool)(tg pp:String)(bo:Nat)(l:List Field):sO P (⟨nm,t,o,em,tg,pp,bo⟩::l) =plQ (td P t) o (sO P l):=by
 simp only[sO,plQ]
theorem Mt (u:TypeDesc)(s y:Nat)(z:List Value)(o:Nat)(r:List (Nat×Nat)):plQ (some ⟨u,s,y,z⟩) o (some r) =some ((o,s)::r):=rfl
def layS (pl:List (Nat×Nat))(cells:List C):List (Nat×C)→Option Plan
 | [] =>some (vp (.agg cells))
 | (i,c)::rest=>match pl[i]?,c.cells? with
   |some (off,size),some cs=>if cs.length=size∧off+size≤cells.length then layS pl (splice cells off cs) rest else none
   |_,_=>none
theorem DH (pl:List (Nat×Nat)):∀ (parts:List (Nat×C))(cells:List C),(fW (fun i=>pl[i]?) cells parts).map (fun cs=>vp (.agg cs)) =layS pl cells parts
 | [],cells=>rfl
 | (i,c)::r,cells=>by
   unfold fW layS
   cases pl[i]? with
   |none=>rfl
   |some p=>
    obtain ⟨off,size⟩:=p
    cases c.cells? with
    |none=>rfl
    |some cs=>
     simp only[]
     split
     . exact DH pl r _
     . rfl
def Mu (b:Bool)(pl:Option (List (Nat×Nat)))(cells:List C)(parts:List (Nat×C)):Option Plan:=if b then (match pl with
 |some pl=>layS pl cells parts
 |none=>none) else none
theorem BS (P:Program)(fs:List Field)(s y:Nat)(z:List Value)(parts:List (Nat×C)):mB P (some ⟨.struct fs.toArray,s,y,z⟩) parts=Mu (gR z) (sO P fs) (zc z) parts:=by
 unfold mB Mu gR zc
 simp only[kP]
 by_cases h:z.all (·.oneCell') =true
 . rw[if_neg (by rw[h];decide),if_pos h,IT]
   cases sO P fs with
   |none=>rfl
   |some pl=>exact DH pl parts _
 . rw[if_pos (by simpa using h),if_neg h]
theorem IU (pl:List (Nat×Nat))(cells:List C)(parts:List (Nat×C)):Mu true (some pl) cells parts=layS pl cells parts:=rfl
def Mv (pl:List (Nat×Nat))(p:Option (Nat×Nat))(cs:Option (List C))(cells:List C)(r:List (Nat×C)):Option Plan:=match p,cs with
 |some (off,size),some cs=>if cs.length=size∧off+size≤cells.length then layS pl (splice cells off cs) r else none
 |_,_=>none
def Mw (pl:List (Nat×Nat))(q:Option (List C×C))(r:List (Nat×C)):Option Plan:=match q with
 |some q=>layS pl q.1 r
 |none=>none
theorem Mx (pl:List (Nat×Nat))(cells:List C):layS pl cells [] =some (vp (.agg cells)):=rfl
theorem IW (pl:List (Nat×Nat))(cells:List C)(i:Nat)(c:C)(r:List (Nat×C)):layS pl cells ((i,c)::r) =Mv pl (pl[i]?) c.cells? cells r:=by
 rw[layS.eq_def];rfl
theorem IX (pl:List (Nat×Nat))(off size:Nat)(cs cells:List C)(r:List (Nat×C))(h:cs.length=size):Mv pl (some (off,size)) (some cs) cells r=Mw pl (eL cells off cs) r:=by
 subst h
 unfold Mv Mw eL
 simp only[true_and]
 split<;>rfl
theorem IY (pl:List (Nat×Nat))(cells:List C)(c:C)(r:List (Nat×C)):Mw pl (some (cells,c)) r=layS pl cells r:=rfl
section
variable {α β:Type} {f:α→List C} {s:Nat} [hf:Cel f s] {g:β→List C}
theorem Te (l:List α)(c:C)(r:List C)(k:Nat)(h:l.length*s=k):dH (cl f l++(c::r)) k=some c.noR:=by
 rw[Dx (f:=f) l _ k (by omega),h,Nat.sub_self,wW]
theorem My (l:List α)(l':List β)(r:List C)(k:Nat)(h:l.length*s≤k):dH (cl f l++(cl g l'++r)) k=dH (cl g l'++r) (k - l.length*s):=Dx (f:=f) l _ k h
theorem Tf (l:List α)(c c':C)(r:List C)(k:Nat)(h:l.length*s=k):eL (cl f l++(c::r)) k [c'] =some (cl f l++(c'::r),.val undef):=by
 rw[Dy (f:=f) l _ _ k (by omega),h,Nat.sub_self]
 unfold eL splice
 rw[if_pos (by simp)]
 rfl
theorem Mz (l:List α)(l':List β)(r cs:List C)(o:Nat)(h:l.length*s≤o):eL (cl f l++(cl g l'++r)) o cs= (eL (cl g l'++r) (o - l.length*s) cs).map fun q=>(cl f l++q.1,q.2):=Dy (f:=f) l _ cs o h
theorem MA (l:List α)(l':List β)(r:List C)(o n s' m:Nat)(ys:List C)(h:l.length*s≤o):sM (cl f l++(cl g l'++r)) o n s' ys m= (sM (cl g l'++r) (o - l.length*s) n s' ys m).map fun q=>(cl f l++q.1,q.2):=S9 (f:=f) l _ o n s' m ys h
end
theorem ae2 {α:Type}(a:α):List.replicate 1 a= [a]:=rfl
theorem MB (u:TypeDesc)(y n:Nat)(z:List Value)(parts:List (Nat×C))(q:Option Plan):nW (some ⟨u,1,y,z⟩) (List.replicate n (bE (BitVec.ofNat 32 0))) parts q=jW (cl wC (List.replicate n 0)) parts:=by
 rw[uy u y n z _ parts q rfl,DC]
theorem ae3 (u:TypeDesc)(y n:Nat)(parts:List (Nat×C))(hn:n≤65536):j6 (some ⟨u,1,y,[w8 (UInt8.ofNat 0)]⟩) n parts=dV n (cl bC (List.replicate n 0)) parts:=by
 rw[sa u y n _ parts rfl hn,BO]
theorem MC (u:TypeDesc)(y n:Nat)(z:List Value)(parts:List (Nat×C))(q:Option Plan):nW (some ⟨u,1,y,z⟩) (List.replicate n (w8 (UInt8.ofNat 0))) parts q=jW (cl bC (List.replicate n 0)) parts:=by
 rw[uy u y n z _ parts q rfl,BO]
theorem ae4 (u:TypeDesc)(y n:Nat)(parts:List (Nat×C))(hn:n≤65536):j6 (some ⟨u,1,y,[nI 0]⟩) n parts=dV n (cl nC (List.replicate n 0)) parts:=by
 rw[sa u y n _ parts rfl hn,IG]
theorem ae5 (u:TypeDesc)(y n:Nat)(parts:List (Nat×C))(hn:n≤65536):j6 (some ⟨u,1,y,[str []]⟩) n parts=dV n (cl sC (List.replicate n [])) parts:=by
 rw[sa u y n _ parts rfl hn,DG]
end Go.Sx
namespace Go.Sx
open Go.RowKit Go.ChangeShapes Go.WideShapes
def GW (W:World):Gh:=⟨fun b o=>W.cell? ⟨b,o,none⟩,fun _=>none,fun _=>none,fun _=>none⟩
theorem ae6 (W:World):WorldOK (GW W) [] W:=
 ⟨fun _ _ _ h=>h,fun b cells h=>(by simp[Hp.at] at h),fun b blk h=>(by cases h),fun b b' c c' blk _ _ h=>(by cases h),fun b blk h=>(by cases h),fun g p h=>(by cases h),
   fun b cells off s n xs blk v h=>(by simp[Hp.at] at h),fun b z h=>(by cases h),fun b l h=>(by simp[Hp.mp] at h),fun b b' l l' blk h=>(by simp[Hp.mp] at h)⟩
def DI (P:Program)(t:TypeId){α:Type}(f:α→List C)(ok:α→Prop):Prop:=
 ∀ {H:Type}{enc:TypeId×Value→H}{W:World}{base:Nat}{sp:Nat→Bool}{held:Bool}{fuel:Nat}{cs:List Value}{x:DataW H×List MemPlace},
   DataW.trod enc P W base sp held fuel t cs=some x→∃a,ok a∧RepL (GW W) (f a) cs∧∀u∈cs,u.oneCell'=true
section
variable {P:Program} {t e:TypeId}
theorem DJ {c v:Value}{G:Gh}(h:v=c):RepL G [.val c] [v]:=by
 simp only[RepL,Rep];exact ⟨v,[],rfl,h,rfl⟩
theorem DK (ht:P.underlying t=some (.int .i64)):DI P t iC fun n=> -9223372036854775808≤n∧n≤9223372036854775807:=fun h=>by
 obtain ⟨n,rfl,_,hw⟩:=DataW.trod_int ht h
 refine ⟨n,?_,DJ rfl,by simp[Value.oneCell']⟩
 simpa[Lit.wf,IntKind.min,IntKind.max,IntKind.signed,IntKind.bits] using hw
theorem aai (ht:P.underlying t=some (.int .u8)):DI P t bC fun _=>True:=fun h=>by
 obtain ⟨n,rfl,_,hw⟩:=DataW.trod_int ht h
 have hr:0≤n∧n≤255:=by simpa[Lit.wf,IntKind.min,IntKind.max,IntKind.signed,IntKind.bits] using hw
 refine ⟨UInt8.ofNat n.toNat,trivial,DJ ?_,by simp[Value.oneCell']⟩
 simp only[w8,UInt8.toNat_ofNat']
 congr 1
 have:n.toNat % 2 ^ 8=n.toNat:=Nat.mod_eq_of_lt (by omega)
 rw[this];omega
theorem IZ (b o x y:Nat): ((⟨b,o,none⟩:Addr).add x).add y= ⟨b,o+x+y,none⟩:=by
 simp only[Addr.add]
 by_cases hx:x=0<;>by_cases hy:y=0<;>simp[hx,hy]
theorem pR {α:Type}{R:Nat→α→Prop}:∀n,(∀i< n,∃a,R i a)→∃l:List α,l.length=n∧∀i a,l[i]? =some a→R i a
 |0,_=>⟨[],rfl,by simp⟩
 |n+1,h=>by
  obtain ⟨l,h1,h2⟩:=pR n (fun i hi=>h i (by omega))
  obtain ⟨a,ha⟩:=h n (by omega)
  refine ⟨l++[a],by simp[h1],fun i b hb=>?_⟩
  rw[List.getElem?_append] at hb
  split at hb
  . exact h2 i b hb
  . rename_i hi
    have:i=n:=by
     have:=(List.getElem?_eq_some_iff.1 hb).1
     simp at this;omega
    subst this
    simp[h1] at hb;subst hb;exact ha
theorem lQ {α:Type}{f:α→List C}{s:Nat}[hf:Cel f s](l:List α)(i j:Nat)(hj:j< s): (cl f l)[i*s+j]? = (l[i]?).bind fun a=>(f a)[j]? :=by
 have h1: (cl f l)[i*s+j]? = ((cl f l).drop (i*s))[j]? :=by rw[List.getElem?_drop]
 rw[h1,gi]
 cases hq:l[i]? with
 |none=>
  rw[List.drop_of_length_le (by simpa using hq)];rfl
 |some a=>
  obtain ⟨hi,rfl⟩:=List.getElem?_eq_some_iff.1 hq
  rw[List.drop_eq_getElem_cons hi,dO,List.getElem?_append_left (by rw[hf.len];exact hj)];rfl
theorem I0 {α:Type}{f:α→List C}{ok:α→Prop}{s:Nat}[hf:Cel f s](ht:P.underlying t=some (.slice e))(hc:P.cellsOf e=s)(he:DI P e f ok):
 DI P t (fun l:List α=>[sl f .no l]) fun l=>l.length≤9223372036854775807∧∀a∈l,ok a:=fun {H enc W base sp held fuel cs x} h=>by
 rcases DataW.trod_slice ht h with ⟨rfl,_⟩ | ⟨a,len,cap,elems,rest,n,_,rfl,_,hb,hl,hm,hlen,hel,_,_⟩
 . refine ⟨[],⟨by simp,by simp⟩,?_,by simp[Value.oneCell']⟩
   simp only[RepL]
   refine ⟨_,[],rfl,?_,rfl⟩
   simp only[sl,Rep]
   exact ⟨none,0,rfl,Nat.le_refl _,Nat.zero_le _,by simp,.inl rfl⟩
 . have each:∀i< len,∃b,ok b∧∃cs,W.cells? base (a.add (i*s)) s=some cs∧RepL (GW W) (f b) cs∧∀u∈cs,u.oneCell'=true:=fun i hi=>by
    have h1:=hel i hi
    rw[List.getElem?_eq_getElem (by omega),hc,Option.bind_eq_some_iff] at h1
    obtain ⟨cs,h2,h3⟩:=h1
    obtain ⟨b,h4,h5,h6⟩:=he h3
    exact ⟨b,h4,cs,h2,h5,h6⟩
   obtain ⟨l,hll,hlr⟩:=pR len each
   refine ⟨l,⟨by rw[hll];exact Nat.le_trans hl hm,fun b hb=>by
    obtain ⟨i,hi⟩:=List.getElem?_of_mem hb
    exact (hlr i b hi).1⟩,?_,by simp[Value.oneCell']⟩
   simp only[RepL]
   refine ⟨_,[],rfl,?_,rfl⟩
   simp only[sl,Rep]
   refine ⟨some a,cap,by rw[hll],by omega,hm,by simp,?_⟩
   by_cases h0:len=0
   . left;have:l= []:=by rw[←List.length_eq_zero_iff];omega
     subst this;rfl
   . right
     have hspot:a= ⟨a.block,a.off,none⟩:=by
      obtain ⟨b,hb⟩:∃b,l[0]? =some b:=⟨_,List.getElem?_eq_getElem (by omega)⟩
      obtain ⟨_,cs,h2,_⟩:=hlr 0 b hb
      have h3:=(World.cells?_some h2).2.2 0 hf.pos
      simp only[Nat.zero_mul] at h3
      have h4:W.cell? a≠none:=by
       have: (a.add 0).add 0=a:=by simp[Addr.add]
       rw[this] at h3
       rw[h3]
       have:=(World.cells?_some h2).2.1
       intro hq
       have:=hf.pos
       have hq2:cs.length≤0:=by simpa using hq
       omega
      obtain ⟨blk,off,spot⟩:=a
      cases spot with
      |none=>rfl
      |some q=>simp[World.cell?] at h4;split at h4<;>simp_all
     refine ⟨a.block,a.off,by rw[←hspot],?_⟩
     refine RepK.of_get fun k c hk=>?_
     have hkl:k< (cl f l).length:=(List.getElem?_eq_some_iff.1 hk).1
     rw[bm (f:=f)] at hkl
     have hs:=hf.pos
     have hdm:k= (k / s)*s+k % s:=by rw[Nat.mul_comm];exact (Nat.div_add_mod k s).symm
     have hml:k % s< s:=Nat.mod_lt _ hs
     rw[hdm,lQ (f:=f) l _ _ hml] at hk
     rw[Option.bind_eq_some_iff] at hk
     obtain ⟨b,hb,hbc⟩:=hk
     obtain ⟨_,cs,h2,h3,h4⟩:=hlr _ b hb
     obtain ⟨u,hu1,hu2⟩:=h3.get _ c hbc
     refine ⟨u,?_,h4 u (List.mem_of_getElem? hu1),hu2⟩
     have h5:=(World.cells?_some h2).2.2 (k % s) hml
     rw[hu1] at h5
     rw[hspot] at h5
     show W.cell? ⟨a.block,a.off+k,none⟩ =some u
     rw[←h5]
     rw[IZ,Nat.add_assoc,←hdm]
end
section
variable {H:Type} {enc:TypeId×Value→H} {P:Program} {W:World} {base b0:Nat} {sp:Nat→Bool} {held:Bool} {t:TypeId} {v:Value} {d:DataW H} {ps:List MemPlace}
theorem DL {α:Type}{f:α→List C}{g:α→C}{ok:α→Prop}(hg:∀a,f a= [g a])(hr:DI P t f ok)(hu:∀u,P.underlying t=some u→(match u with| .struct _| .array _ _=>False|_=>True))
 (hval:Value.okWide P W .any b0 t v) (hd:DataW.Trod enc P W base sp held t v d ps):∃a,ok a∧Rep (GW W) (g a) v:=by
 obtain ⟨fuel,hd⟩:=hd
 obtain ⟨a,h1,h2,_⟩:=hr hd
 rw[hg] at h2
 simp only[RepL] at h2
 obtain ⟨u,vs,h3,h4,rfl⟩:=h2
 refine ⟨a,h1,?_⟩
 cases v with
 |agg cs=>
  exfalso
  unfold Value.okWide at hval
  cases hq:P.underlying t with
  |none=>rw[hq] at hval;simp[Cell.okWide,Cell.ok,hq] at hval
  |some u=>
   have:=hu u hq
   rw[hq] at hval
   cases u<;>simp_all [Cell.okWide,Cell.ok]
 |_=>
  simp only[Value.cells,List.cons.injEq,and_true] at h3
  rw[h3];exact h4
end
def sb (P:Program):Bool:=(List.range P.types.size).all fun t=>match P.underlying t with
 |some (.slice e) =>decide (0< P.cellsOf e)
 |_=>true
theorem pj {H:Type}{enc:TypeId×Value→H}{P:Program}{W W':World}{sp:Nat→Bool}(hl:laidOutB P=true)(hm:mapsRowed P=true)(hs:sb P=true):
 ∀ (ts:List TypeId)(vs:List Value)(ds:List (DataW H))(ps:List MemPlace),(∀t∈ts,t< P.types.size)→DataW.TrodAll enc P W 0 (fun _=>true) true ts vs ds ps→
   (∀p∈ps,W.sameAt W' p)→(∀p∈ps,sp p.block=true)→DataW.TrodAll enc P W' 0 sp true ts vs ds ps
 | [],[],[],ps,_,h,_,_=>h
 |t::ts,v::vs,d::ds,ps,hb,h,h1,h2=>by
  obtain ⟨p,q,⟨fuel,h3⟩,h4,rfl⟩:=h
  refine ⟨p,q,⟨fuel,?_⟩,pj hl hm hs ts vs ds q (fun t ht=>hb t (List.mem_cons_of_mem _ ht)) h4 (fun p hp=>h1 p (List.mem_append_right _ hp)) (fun p hp=>h2 p (List.mem_append_right _ hp)),rfl⟩
  refine DataW.trod_stays (T:=(· < P.types.size)) (kids_rows hl hm) (fun {t e} ht he=>?_) (fun h=>by cases h) (hb t (List.mem_cons_self ..)) h3 (fun p hp=>h1 p (List.mem_append_left _ hp)) (fun p hp=>h2 p (List.mem_append_left _ hp))
  have:=List.all_eq_true.1 hs t (List.mem_range.2 ht)
  rw[he] at this
  simpa using this
 | [],[],_::_,_,_,h,_,_=>h.elim
 | [],_::_,_,_,_,h,_,_=>h.elim
 |_::_,[],_,_,_,h,_,_=>h.elim
 |_::_,_::_,[],_,_,h,_,_=>h.elim
theorem MD {H:Type}{enc:TypeId×Value→H}{P:Program}{f:Func}{s:ChangeSpec}{fresh handsOn again:Bool}{W W':World}{args:Array Value}{ds gs:List (DataW H)}{before:List MemPlace}{t:TypeId}
 (hl:laidOutB P=true) (hm:mapsRowed P=true) (hsl:sb P=true) (hps:∀t∈f.params.toList,t< P.types.size)
 (hW:DataW.Whole enc P f.params.toList s.vars false W args.toList ds gs before) (hv:s.vars= [])
 (hs:s.fn H ds= { results:=[.lit (.bool true)],args:=ds }) (hr:f.resultTypes= #[t]) (ht:P.underlying t=some .bool)
 (hos:W'.os=W.os) (hout:W'.output=W.output) (hold:∀g< W.heap.size,W'.heap[g]? =W.heap[g]?):
 s.post enc P f false fresh handsOn again W args (.bool true) W':=by
 have hlt:=hW.lt
 have hW0:=hW
 obtain ⟨p,q,h1,h2,rfl,hz,hn⟩:=hW
 rw[hv] at h2
 obtain ⟨rfl,rfl⟩:=trodVars_none h2
 simp only[List.append_nil] at hW0 hlt hz hn
 have same:∀x∈p,W.sameAt W' x:=fun x hx=>by
  have hb:=hold _ (hlt x hx)
  cases x with
  |cell b o=>simp only[World.sameAt,MemPlace.block] at hb ⊢;simp only[World.cell?];rw[hb]
  |map b=>exact hb
 have args':∀sp:Nat→Bool,(∀x∈p,sp x.block=true)→DataW.TrodAll enc P W' 0 sp true f.params.toList args.toList ds p:=fun sp hsp=>
  pj hl hm hsl _ _ _ _ hps h1 same hsp
 have res:∀ (b:Nat)(sp:Nat→Bool)(hd:Bool),DataW.TrodAll enc P W' b sp hd f.resultTypes.toList ((Value.bool true).resultList f.resultTypes.size) [.lit (.bool true)] []:=fun b sp hd=>by
  rw[hr];exact trodAll_mk1 (shut_bool ht true)
 refine ⟨ds,[],p,[],p,[],hW0,?_,?_,?_,?_,fun _=>⟨?_,.lit (.bool true)::ds,[],p,⟨p,[],?_,?_,by simp,fun b off hp=>?_,fun h=>by cases h⟩,fun x hx _=>hx⟩⟩
 . rw[List.append_nil,hs];exact res _ _ _
 . rw[List.append_nil,hs];exact args' _ fun x hx=>by simpa using hlt x hx
 . rw[List.append_nil,hs,hv];rfl
 . refine ⟨hos,hout,fun i hi=>?_⟩
   rw[hold i hi]
   cases W.heap[i]? with
   |none=>rfl
   |some o=>cases o<;>simp
 . exact ok_one hr rfl (okWide_bool_mk ht true)
 . rw[hr]
   exact ⟨[],p,shut_bool ht true,args' (fun _=>true) fun _ _=>rfl,rfl⟩
 . rw[hv];rfl
 . have:=hz b off hp
   simp only[World.frozen?] at this ⊢
   rw[hold b (hlt _ hp)];exact this
theorem Fw {K:Checked}{os:Os}(started:os.Started){H:Type}{enc:TypeId×Value→H}{a:Assume}{fi:Nat}{fn:Func}{s:ChangeSpec}{fresh handsOn again:Bool}{laid:List (String×DataW Unit)}{gl:Nat→C}{t:TypeId}
 (own:ownKnob K.prog.godebug=none) (noInit:K.prog.inits.idxOf? fi=none) (hfn:K.prog.funcs[fi]? =some fn)
 (hl:laidOutB K.prog=true) (hm:mapsRowed K.prog=true) (hsl:sb K.prog=true) (hps: (fn.params.toList.all fun t=>decide (t< K.prog.types.size)) =true)
 (hv:s.vars= []) (hs:∀ds:List (DataW H),ds.length=fn.params.size→s.fn H ds= { results:=[.lit (.bool true)],args:=ds }) (hr:fn.resultTypes= #[t]) (ht:K.prog.underlying t=some .bool)
 (witness:∃ (w:World)(tape:Tape)(i:Input),w.os=os∧(w.forCall tape i).Shaped K.prog∧i.vars= []∧Input.okWide K.prog (w.forCall tape i) .any w.heap.size fi i∧
   ((s.pre enc K.prog fn [] false (w.forCall tape i).memory i.args∧laidMetH K.prog laid (w.forCall tape i).memory)∧sizedMet enc K.prog fn (OpenSpec.ofChange s) false (w.forCall tape i).memory i.args)∧a.holds K.prog (lone (Frame.enter K.prog fi i.args .normal) [] (w.forCall tape i)))
 (hgl:∀W,laidMetH K.prog laid W→∀g,Rep (GW W) (gl g) (.pointer (some ⟨g,0,none⟩)))
 (hc:∀ (W:World)(b0:Nat)(args:Array Value)(ds:List (DataW H))(p:List MemPlace),(∀ (j:Nat) t v,fn.params.toList[j]? =some t→args.toList[j]? =some v→Value.okWide K.prog W .any b0 t v)→
   DataW.TrodAll enc K.prog W 0 (fun _=>true) true fn.params.toList args.toList ds p→∃az,RepL (GW W) az args.toList∧FC K.prog gl fi az [] (.val (.bool true)) []):
 ReturnsInHanded a K os fi .any (fun w args=>(s.pre enc K.prog fn [] false w args∧laidMetH K.prog laid w)∧sizedMet enc K.prog fn (OpenSpec.ofChange s) false w args) (s.post enc K.prog fn false fresh handsOn again):=by
 refine returnsInHanded_of_change_and (C:=K) (X:=fun w _=>laidMetH K.prog laid w) (fun _ _ _ hh h=>laidMetH.of_heap hh h) own started noInit hfn witness ?_
 intro W base args ds gs before hval hW _ _ hL _
 have hW':=hW
 obtain ⟨p,q,h1,h2,rfl,hz,hn⟩:=hW'
 rw[hv] at h2
 obtain ⟨rfl,rfl⟩:=trodVars_none h2
 obtain ⟨az,has,hfc⟩:=hc W base args ds p (fun j t v hj hv=>hval j t v (by simpa using hj) (by simpa using hv)) h1
 refine (hfc.2 (GW W) W args (ae6 W) (fun g p h=>by cases h) (hgl W hL) has).mono ?_
 rintro e W' ⟨v,G',rfl,hrep,_,_,F⟩
 rw[au] at hrep
 subst hrep
 have hlen:∀ (ts:List TypeId)(vs:List Value)(ds:List (DataW H))(ps:List MemPlace),DataW.TrodAll enc K.prog W 0 (fun _=>true) true ts vs ds ps→ds.length=ts.length:=by
  intro ts
  induction ts with
  |nil=>intro vs ds ps h;cases vs<;>cases ds<;>simp_all [DataW.TrodAll]
  |cons t ts ih=>
   intro vs ds ps h
   cases vs<;>cases ds<;>simp only[DataW.TrodAll] at h
   obtain ⟨p,q,_,h4,_⟩:=h
   simp[ih _ _ _ h4]
 have hold:∀g< W.heap.size,W'.heap[g]? =W.heap[g]? :=fun g hg=>(F.old g hg rfl (fun b h=>by cases h)).1
 refine ⟨_,rfl,MD hl hm hsl (fun t ht=>?_) hW hv (hs ds (by rw[hlen _ _ _ _ h1];simp)) hr ht F.os F.output hold⟩
 have:=List.all_eq_true.1 hps t ht
 simpa using this
end Go.Sx
namespace Go.Sx
open Go.RowKit
theorem ME (n:Nat):Value.int .i64 (n:Int) =nI n:=id rfl
theorem I2 (x:Int)(h:0≤x):Value.int .i64 x=nI x.toNat:=by
 unfold nI;congr 1;omega
section
variable (P:Program) (t:TypeId)
theorem P5 (x y:Int)(h: -9223372036854775808≤x+y∧x+y< 9223372036854775808):aw P .add t (.val (.int .i64 x)) (.val (.int .i64 y)) =some (vp (.val (.int .i64 (x+y)))):=by
 simp only[bu,bX,ne_eq,not_true_eq_false,if_false,Option.map_some]
 rw[eg _ (by omega) (by omega)]
theorem aaj (x:Int)(y:Nat)(h: -9223372036854775808≤x+y∧x+y< 9223372036854775808):aw P .add t (.val (.int .i64 x)) (.val (nI y)) =some (vp (.val (.int .i64 (x+y)))):=P5 P t x y h
theorem Fx (x y:Int)(h: -9223372036854775808≤x - y∧x - y< 9223372036854775808):aw P .sub t (.val (.int .i64 x)) (.val (.int .i64 y)) =some (vp (.val (.int .i64 (x - y)))):=by
 simp only[bu,bX,ne_eq,not_true_eq_false,if_false,Option.map_some]
 rw[eg _ (by omega) (by omega)]
theorem aak (x:Int)(y:Nat)(h: -9223372036854775808≤x - y∧x - y< 9223372036854775808):aw P .sub t (.val (.int .i64 x)) (.val (nI y)) =some (vp (.val (.int .i64 (x - y)))):=Fx P t x y h
theorem P6 (x y:Int)(h: -9223372036854775808≤x*y∧x*y< 9223372036854775808):aw P .mul t (.val (.int .i64 x)) (.val (.int .i64 y)) =some (vp (.val (.int .i64 (x*y)))):=by
 simp only[bu,bX,ne_eq,not_true_eq_false,if_false,Option.map_some]
 rw[eg _ (by omega) (by omega)]
theorem aal (x:Nat)(y:Int)(h: -9223372036854775808≤x*y∧x*y< 9223372036854775808):aw P .mul t (.val (nI x)) (.val (.int .i64 y)) =some (vp (.val (.int .i64 (x*y)))):=P6 P t x y h
theorem P7 (x y:Int)(h:y≠0∧ -9223372036854775808≤x.tdiv y∧x.tdiv y< 9223372036854775808):aw P .quo t (.val (.int .i64 x)) (.val (.int .i64 y)) =some (vp (.val (.int .i64 (x.tdiv y)))):=by
 simp only[bu,bX,ne_eq,not_true_eq_false,if_false,Option.map_some,h.1]
 rw[eg _ (by omega) (by omega)]
theorem aam (x:Int)(y:Nat)(h:0< y)(hx: -9223372036854775808≤x∧x< 9223372036854775808):aw P .quo t (.val (.int .i64 x)) (.val (nI y)) =some (vp (.val (.int .i64 (x.tdiv y)))):=by
 refine P7 P t x y ⟨by omega,?_⟩
 have key:∀n:Nat,(n:Int).tdiv (y:Int) = ((n / y:Nat):Int):=fun _=>rfl
 rcases Int.le_total 0 x with h0|h0
 . obtain ⟨n,rfl⟩:=Int.eq_ofNat_of_zero_le h0
   rw[key]
   have:=Nat.div_le_self n y
   generalize n / y=q at this ⊢
   omega
 . obtain ⟨n,hn⟩:=Int.eq_ofNat_of_zero_le (a:= -x) (by omega)
   have e:x= -(n:Int):=by omega
   rw[e,Int.neg_tdiv,key]
   have:=Nat.div_le_self n y
   generalize n / y=q at this ⊢
   omega
theorem P8 (x y:Int)(h:y≠0):aw P .rem t (.val (.int .i64 x)) (.val (.int .i64 y)) =some (vp (.val (.int .i64 (x.tmod y)))):=by
 simp only[bu,bX,ne_eq,not_true_eq_false,if_false,Option.map_some,h]
theorem aan (x:Int)(y:Nat)(h:0< y):aw P .rem t (.val (.int .i64 x)) (.val (nI y)) =some (vp (.val (.int .i64 (x.tmod y)))):=P8 P t x y (by omega)
theorem P9 (x y:Int):aw P .eql t (.val (.int .i64 x)) (.val (.int .i64 y)) =some (vp (.val (.bool (decide (x=y))))):=by
 simp only[bu,bX,ne_eq,not_true_eq_false,if_false,Option.map_some]
 congr 4
theorem Qa (x y:Int):aw P .lss t (.val (.int .i64 x)) (.val (.int .i64 y)) =some (vp (.val (.bool (decide (x< y))))):=by
 simp only[bu,bX,ne_eq,not_true_eq_false,if_false,Option.map_some]
theorem Qb (x y:Int):aw P .gtr t (.val (.int .i64 x)) (.val (.int .i64 y)) =some (vp (.val (.bool (decide (y< x))))):=by
 simp only[bu,bX,ne_eq,not_true_eq_false,if_false,Option.map_some]
theorem Qc (x y:Int):aw P .geq t (.val (.int .i64 x)) (.val (.int .i64 y)) =some (vp (.val (.bool (decide (y≤x))))):=by
 simp only[bu,bX,ne_eq,not_true_eq_false,if_false,Option.map_some]
theorem aao (x:Int)(y:Nat):aw P .eql t (.val (.int .i64 x)) (.val (nI y)) =some (vp (.val (.bool (decide (x=y))))):=P9 P t x y
theorem aap (x:Int)(y:Nat):aw P .lss t (.val (.int .i64 x)) (.val (nI y)) =some (vp (.val (.bool (decide (x< y))))):=Qa P t x y
theorem aaq (x:Int)(y:Nat):aw P .gtr t (.val (.int .i64 x)) (.val (nI y)) =some (vp (.val (.bool (decide ((y:Int) < x))))):=Qb P t x y
theorem aar (x:Int)(y:Nat):aw P .geq t (.val (.int .i64 x)) (.val (nI y)) =some (vp (.val (.bool (decide ((y:Int)≤x))))):=Qc P t x y
theorem ae7 (x y:Nat):aw P .gtr t (.val (nU x)) (.val (nU y)) =some (vp (.val (.bool (decide (y< x))))):=by
 simp only[nU,bu,bX,ne_eq,not_true_eq_false,if_false,Option.map_some]
 congr 4;rw[Bool.eq_iff_iff];simp
theorem ai9 (x y:Nat)(h:x< 18446744073709551616∧y< 18446744073709551616):aw P .or t (.val (nU x)) (.val (nU y)) =some (vp (.val (nU (x|||y)))):=by
 simp only[nU,bu]
 show some (vp (.val (.int .u64 (IntKind.wrap .u64 ((BitVec.ofInt 64 (x:Int) |||BitVec.ofInt 64 (y:Int)).toNat:Int))))) =_
 rw[BitVec.ofInt_natCast,BitVec.ofInt_natCast,BitVec.toNat_or,BitVec.toNat_ofNat,BitVec.toNat_ofNat,Nat.mod_eq_of_lt h.1,Nat.mod_eq_of_lt h.2,fN]
 have:x|||y< 2 ^ 64:=Nat.or_lt_two_pow h.1 h.2
 congr 4;omega
theorem ae8 (x n:Nat)(k:IntKind)(h:x< 18446744073709551616∧n≤64):aw P .shl t (.val (nU x)) (.val (.int k n)) =some (vp (.val (nU (x*2 ^ n % 18446744073709551616)))):=by
 rw[nU,bu]
 have e:bX .shl (.int .u64 (x:Int)) (.int k (n:Int)) =some (.int .u64 (IntKind.wrap .u64 ((x:Int)*2 ^ (min n 64)))):=by
  show (if (n:Int) < 0 then none else _) =_
  rw[if_neg (by omega)]
  rfl
 rw[e,fN,nU,Nat.min_eq_left h.2]
 show some (vp (.val _)) =_
 congr 4
theorem aas (x:Nat)(s:Int)(h:x< 18446744073709551616)(h2:0≤s):aw P .shr t (.val (nU x)) (.val (.int .i64 s)) =some (vp (.val (nU (x>>>s.toNat)))):=by
 rw[I2 s h2];exact Ip P t x s.toNat h
theorem Tg (x:Nat)(h:x< 18446744073709551616):gQ .xor (.val (nU x)) =some (vp (.val (nU (18446744073709551615 - x)))):=by
 show some (vp (.val (.int .u64 (IntKind.wrap .u64 ((BitVec.ofInt 64 18446744073709551615 ^^^ BitVec.ofInt 64 (x:Int)).toNat:Int))))) =_
 have e:BitVec.ofInt 64 18446744073709551615=BitVec.allOnes 64:=by decide
 rw[e,BitVec.ofInt_natCast,BitVec.allOnes_xor,BitVec.toNat_not,BitVec.toNat_ofNat,Nat.mod_eq_of_lt h,fN,nU]
 simp only[Option.some.injEq,vp,Plan.val.injEq,C.val.injEq,Value.int.injEq,true_and,and_true]
 have e2:2 ^ 64 - 1 - x=18446744073709551615 - x:=by simp
 rw[e2];omega
theorem Th (x:Int)(h: -9223372036854775808< x∧x≤9223372036854775808):gQ .neg (.val (.int .i64 x)) =some (vp (.val (.int .i64 (-x)))):=by
 show some (vp (.val (.int .i64 (IntKind.wrap .i64 (0 - x))))) =_
 rw[eg _ (by omega) (by omega),Int.zero_sub]
end
theorem Ti (P:Program)(u1:TypeDesc)(a1 b1 a2 b2:Nat)(z1 z2:List Value)(x:Nat)(h:9223372036854775808≤x∧x< 18446744073709551616):lu P (some ⟨u1,a1,b1,z1⟩) (some ⟨.int .i64,a2,b2,z2⟩) (.val (nU x)) =some (vp (.val (.int .i64 ((x:Int) - 18446744073709551616)))):=by
 rw[nU,iu]
 have e:IntKind.wrap .i64 (x:Int) = (x:Int) - 18446744073709551616:=by
  have e:IntKind.wrap .i64 (x:Int) =if (x:Int) % 18446744073709551616≥9223372036854775808 then (x:Int) % 18446744073709551616 - 18446744073709551616 else (x:Int) % 18446744073709551616:=by
   simp[IntKind.wrap,IntKind.bits,IntKind.signed]
  rw[e];split<;>omega
 rw[e]
theorem Tj (n:Nat)(x:Int)(h:0≤x∧x< n):eG (.val (.int .i64 x)) n=some x.toNat:=by
 simp only[eG,C.int?];rw[if_pos h]
theorem aat (x y:Nat):ez false (.val (nI x)) (.val (nI y)) =some (vp (.val (nI (min x y)))):=by
 simp only[ez,nI,if_true,Bool.false_eq_true,if_false]
 by_cases h:y< x
 . rw[if_pos (by omega),Nat.min_eq_right (by omega)];rfl
 . rw[if_neg (by omega),Nat.min_eq_left (by omega)];rfl
theorem aau (x y:Nat):ez true (.val (nI x)) (.val (nI y)) =some (vp (.val (nI (max x y)))):=by
 simp only[ez,nI,if_true]
 by_cases h:x< y
 . rw[if_pos (by omega),Nat.max_eq_right (by omega)];rfl
 . rw[if_neg (by omega),Nat.max_eq_left (by omega)];rfl
theorem DM (x y:Int):ez true (.val (.int .i64 x)) (.val (.int .i64 y)) =some (vp (.val (.int .i64 (max x y)))):=by
 simp only[ez,if_true]
 by_cases h:x< y
 . rw[if_pos h,Int.max_eq_right (by omega)];rfl
 . rw[if_neg h,Int.max_eq_left (by omega)];rfl
theorem MF (x:Int)(y:Nat):ez true (.val (.int .i64 x)) (.val (nI y)) =some (vp (.val (.int .i64 (max x y)))):=DM x y
theorem iw (P:Program)(t:TypeId)(x y:Nat)(h:x< 9223372036854775808∧y≤9223372036854775808):aw P .sub t (.val (nI x)) (.val (nI y)) =some (vp (.val (.int .i64 ((x:Int) - y)))):=Fx P t x y (by omega)
theorem iL {v v':Value}(h:v=v'):CLe (.val v) (.val v'):=h▸CLe.refl _
theorem ay {x y:Int}(h:x=y):CLe (.val (.int .i64 x)) (.val (.int .i64 y)):=h▸CLe.refl _
theorem aS {x:Int}{y:Nat}(h:x=y):CLe (.val (.int .i64 x)) (.val (nI y)):=h▸CLe.refl _
theorem aW {x:Nat}{y:Int}(h: (x:Int) =y):CLe (.val (nI x)) (.val (.int .i64 y)):=h▸CLe.refl _
theorem a7 {x y:Nat}(h:x=y):CLe (.val (nI x)) (.val (nI y)):=h▸CLe.refl _
theorem cg {α:Type}{f:α→List C}{r:Rt}{l l':List α}(h:l=l'):CLe (sl f r l) (sl f r l'):=h▸CLe.refl _
theorem kn {α:Type}{f:α→List C}{r:Rt}{l l':List α}(h:l=l'):CLe (sl f .full l) (sl f r l'):=h▸CLe.full _ _ _
theorem an {α:Type}{f:α→List C}{r:Rt}{l:List α}(h:l= []):CLe (.val (.slice none 0 0)) (sl f r l):=by subst h;exact CLe.nil _
end Go.Sx
namespace Go.Sx
open Go.RowKit
mutual
theorem uz (k:Nat):∀c:C,ah 0 c=true→ah k c=true
 | .top,_=>rfl
 | .val _,_=>rfl
 | .sl _ _ xs,h=>by simp only[ah] at h ⊢;exact noRefs_zero k xs h
 | .sv b _ _,h=>by simp[ah] at h
 | .bp b _,h=>by simp[ah] at h
 | .kp xs,h=>by simp only[ah] at h ⊢;exact noRefs_zero k xs h
 | .agg xs,h=>by simp only[ah] at h ⊢;exact noRefs_zero k xs h
 | .tup xs,h=>by simp only[ah] at h ⊢;exact noRefs_zero k xs h
 | .fn _ xs,h=>by simp only[ah] at h ⊢;exact noRefs_zero k xs h
theorem noRefs_zero (k:Nat):∀l:List C,noRefs 0 l=true→noRefs k l=true
 | [],_=>rfl
 |c::l,h=>by
  simp only[noRefs,Bool.and_eq_true] at h ⊢
  exact ⟨uz k c h.1,noRefs_zero k l h.2⟩
end
def nX (k:Nat):List (Nat×C)→Bool
 | [] =>true
 |x::e=>ah k x.2 && nX k e
theorem oN (k:Nat):nX k [] =true:=rfl
theorem kF (k t:Nat)(c:C)(e:List (Nat×C)):nX k ((t,c)::e) = (ah k c && nX k e):=rfl
theorem w9 (k:Nat):∀e:List (Nat×C),nX k e=true→∀t,ah k (A e t) =true
 | [],_,t=>rfl
 | (u,c)::e,h,t=>by
   rw[kF,Bool.and_eq_true] at h
   rw[aY]
   split
   . exact h.1
   . exact w9 k e h.2 t
def jX (k:Nat):Hp→Bool
 | [] =>true
 |none::h=>jX k h
 |some cs::h=>noRefs k cs && jX k h
theorem oO (k:Nat):jX k [] =true:=rfl
theorem nl (k:Nat)(h:Hp):jX k (none::h) =jX k h:=rfl
theorem jc (k:Nat)(cs:List C)(h:Hp):jX k (some cs::h) = (noRefs k cs && jX k h):=rfl
theorem xa (k:Nat):∀ (h:Hp)(b:Nat)(cells:List C),jX k h=true→h[b]? =some (some cells)→noRefs k cells=true
 | [],b,cells,_,hb=>by simp at hb
 |none::h,0,cells,_,hb=>by simp at hb
 |some cs::h,0,cells,hk,hb=>by
  rw[jc,Bool.and_eq_true] at hk
  simp only[List.getElem?_cons_zero,Option.some.injEq] at hb
  subst hb;exact hk.1
 |x::h,b+1,cells,hk,hb=>by
  rw[List.getElem?_cons_succ] at hb
  refine xa k h b cells ?_ hb
  cases x with
  |none=>exact hk
  |some cs=>rw[jc,Bool.and_eq_true] at hk;exact hk.2
theorem wa {cx:Cx}{n:Nat}{Q:Ex→St→Prop}{e:List (Nat×C)}{h:Hp}{c:Code}(hcx:CxOK cx)(k:Nat)(hk:n≤k)(he:nX k e=true)(hb:jX k (h.take k) =true)
 (H:Tr cx n c ⟨A e,h.take k⟩ Q):Tr cx n c ⟨A e,h⟩ Q:=
 Tr.cut k hk (w9 k e he) (fun g=>uz k _ (hcx.glo g)) (fun b cells hbk hc=>xa k _ b cells hb (by rw[List.getElem?_take,if_pos hbk];exact hc)) H
theorem BT (k f:Nat)(xs:List C):ah k (.fn f xs) =noRefs k xs:=rfl
end Go.Sx
namespace Go.Sx
open Go.RowKit
theorem xb (d:TD)(h:d.isAgg=false)(cells:List C)(o:Nat):cU d cells o=dH cells o:=by
 unfold cU dH;rw[h];rfl
section
variable (P:Program)
theorem I3 {α:Type}[Inhabited α][DecidableEq α]{f:α→List C}{g:α→C}[hf:Sca f g](F:C→C→Option Bool)(de:TD)(hd:de.isAgg=false)(hs:de.size=1)(hF:∀a b,F (g a) (g b) =some (decide (a=b)))
 (x y:List α) (n:Nat) (hx:x.length=n) (hy:y.length=n):∀m i,i+m=n→pP F de (cl f x) (cl f y) (List.range' i m) =some (decide (x.drop i=y.drop i))
 |0,i,h=>by
  rw[List.drop_of_length_le (by omega),List.drop_of_length_le (by omega)];simp[pP]
 |m+1,i,h=>by
  have hxi:i< x.length:=by omega
  have hyi:i< y.length:=by omega
  rw[List.range'_succ]
  unfold pP
  rw[xb _ hd,xb _ hd,hs,Nat.mul_one,pQ (f:=f) x i hxi,pQ (f:=f) y i hyi]
  simp only[]
  rw[hF]
  have e1:x.drop i=x.getD i default::x.drop (i+1):=by rw[List.drop_eq_getElem_cons hxi];simp[List.getD,List.getElem?_eq_getElem hxi]
  have e2:y.drop i=y.getD i default::y.drop (i+1):=by rw[List.drop_eq_getElem_cons hyi];simp[List.getD,List.getElem?_eq_getElem hyi]
  rw[e1,e2]
  by_cases hab:x.getD i default=y.getD i default
  . rw[decide_eq_true hab]
    simp only[]
    rw[I3 F de hd hs hF x y n hx hy m (i+1) (by omega),hab]
    simp
  . rw[decide_eq_false hab]
    simp only[]
    rw[decide_eq_false]
    intro hc
    exact hab (List.cons.inj hc).1
def pm (op:BinOp)(b:Bool):Option Plan:=match op with
 | .eql=>some (vp (.val (.bool b)))
 | .neq=>some (vp (.val (.bool (!b))))
 |_=>none
theorem Tk (b:Bool):pm .eql b=some (vp (.val (.bool b))):=rfl
theorem Tl (b:Bool):pm .neq b=some (vp (.val (.bool (!b)))):=rfl
theorem CK {t:TypeId}{x y:List C}{b:Bool}(op:BinOp)(hg:P.eqGuardType P.depth t=false)(h:jA P 9 t (.agg x) (.agg y) =some b):aw P op t (.agg x) (.agg y) =pm op b:=by
 show gP P op t (.agg x) (.agg y) =_
 unfold gP
 rw[if_pos ⟨.inl ⟨rfl,rfl⟩,hg⟩]
 unfold pm
 cases op<;>simp[h,vp,Plan.pure]
theorem Tm {t:TypeId}{k:IntKind}{s y:Nat}{z:List Value}(d:Nat)(h:td P t=some ⟨.int k,s,y,z⟩)(a b:Int):jA P (d+1) t (.val (.int k a)) (.val (.int k b)) =some (decide (a=b)):=by
 unfold jA;rw[h];simp only[if_true];congr 1
theorem aav {t:TypeId}{s y:Nat}{z:List Value}(d:Nat)(h:td P t=some ⟨.int .u8,s,y,z⟩)(a b:UInt8):jA P (d+1) t (.val (w8 a)) (.val (w8 b)) =some (decide (a=b)):=by
 have:=Tm P d h a.toNat b.toNat
 rw[w8,w8,this];congr 1;rw[decide_eq_decide]
 exact ⟨fun h=>UInt8.toNat_inj.1 (by omega),fun h=>by rw[h]⟩
theorem MG {t e:TypeId}{n s y y2:Nat}{z z2:List Value}(d:Nat)(h:td P t=some ⟨.array n e,s,y,z⟩)(he:td P e=some ⟨.int .u8,1,y2,z2⟩)(a b:List UInt8)(ha:a.length=n)(hb:b.length=n):
 jA P (d+2) t (.agg (cl bC a)) (.agg (cl bC b)) =some (decide (a=b)):=by
 unfold jA;rw[h];simp only[];rw[he]
 simp only[C.agg?]
 have:=I3 (f:=bC) (jA P (d+1) e) ⟨.int .u8,1,y2,z2⟩ rfl rfl (fun a b=>aav P d he a b) a b n ha hb n 0 (by omega)
 simpa using this
theorem Tn {t e:TypeId}{n s y y2:Nat}{z z2:List Value}(h:td P t=some ⟨.array n e,s,y,z⟩)(he:td P e=some ⟨.int .u8,1,y2,z2⟩)(hg:P.eqGuardType P.depth t=false)(op:BinOp)(a b:List UInt8)(ha:a.length=n)(hb:b.length=n):
 aw P op t (.agg (cl bC a)) (.agg (cl bC b)) =pm op (decide (a=b)):=CK P op hg (MG P 7 h he a b ha hb)
end
@[congr] theorem afW {cx:Cx} {apps:List Nat} {dsts:List (Option Nat)} {l:List Oper} {id:Nat} {d:Option Nat} {e:List (Nat×C)} {h:Hp} {fs:List FP} {K:List FP→St→Prop} {ty:TypeId} {pos:String} {aft:Array Edge} {op:Op} {p p':Option Bool} (hp:p=p'):
   Ib cx apps dsts l id d e h fs K ty pos aft op p=Ib cx apps dsts l id d e h fs K ty pos aft op p':=by rw[hp]
def BU (c:C)(w:Bool):Option Bool:=match c with
 | .val (.bool b) =>some (b==w)
 | .val (.tuple _) =>some false
 |_=>none
def aaw (d:Option (Option Nat))(w:Bool)(e:List (Nat×C)):Option Bool:=match d.bind id with
 |none=>some false
 |some t=>BU (A e t).noR w
theorem MH (dsts:List (Option Nat))(j:Nat)(w:Bool)(e:List (Nat×C)):gW dsts (some (j,w)) (A e) =aaw (dsts[j]?) w e:=rfl
theorem I4 (t:Nat)(w:Bool)(e:List (Nat×C)):aaw (some (some t)) w e=BU (A e t).noR w:=rfl
theorem aax (b:Bool):BU (.val (.bool b)) true=some b:=by cases b<;>rfl
theorem aay (b:Bool):BU (.val (.bool b)) false=some (!b):=by cases b<;>rfl
theorem aaz (w:Bool):BU (.val undef) w=some false:=rfl
end Go.Sx
namespace Go.Sx
open Go.RowKit
section
variable {cx:Cx} {G:Gh} {w:World} {st:St} {a:Act}
structure Lit (cx:Cx) (ops ops':Array Oper) (k:Nat):Prop where
 dst:ops'.toList.map (·.dst) =ops.toList.map (·.dst)
 app:ops'.toList.filterMap cG=ops.toList.filterMap cG
 dG:∀i,dG ops' i=dG ops i
 same:∀i,i≠k+1→ops'[i]? =ops[i]?
 two:∃p q t n ps ty1 pos1 aft1 ty2 pos2 aft2 e s y z y2 z2,ops[k]? =some ⟨some p,.buildSlice t n ps,ty1,pos1,aft1,none⟩∧ops[k+1]? =some ⟨some q,.convert t t (.tmp p),ty2,pos2,aft2,none⟩∧
  ops'[k+1]? =some ⟨some q,.move (.tmp p),ty2,pos2,aft2,none⟩∧td cx.P t=some ⟨.slice e,s,y,z⟩∧td cx.P e=some ⟨.int .u8,1,y2,z2⟩∧cx.gr p=false
end
end Go.Sx
namespace Go.Sx
open Go.RowKit
class Inj {α:Type} (f:α→List C):Prop where
 inj:∀a b,f a=f b→a=b
instance:Inj bC:=⟨fun a b h=>by simpa[bC,aU] using h⟩
instance:Inj wC:=⟨fun a b h=>by simpa[wC,aF] using h⟩
instance:Inj sC:=⟨fun a b h=>by simpa[sC,ax] using h⟩
instance:Inj nC:=⟨fun a b h=>by simpa[nC,aI] using h⟩
instance:Inj iC:=⟨fun a b h=>by simpa[iC] using h⟩
instance:Inj oC:=⟨fun a b h=>by simpa[oC] using h⟩
theorem aM {α:Type}{f:α→List C}{s:Nat}[hf:Cel f s][hi:Inj f]:∀ {l l':List α},cl f l=cl f l'↔l=l':=by
 intro l l'
 constructor
 . induction l generalizing l' with
   |nil=>
    intro h
    cases l' with
    |nil=>rfl
    |cons a l'=>
     have:=congrArg List.length h
     rw[nV,dO,List.length_append,hf.len] at this
     have:=hf.pos
     simp at*
     omega
   |cons a l ih=>
    intro h
    cases l' with
    |nil=>
     have:=congrArg List.length h
     rw[nV,dO,List.length_append,hf.len] at this
     have:=hf.pos
     simp at*
     omega
    |cons b l'=>
     rw[dO,dO] at h
     obtain ⟨h1,h2⟩:=List.append_inj h (by rw[hf.len,hf.len])
     rw[hi.inj _ _ h1,ih h2]
 . rintro rfl;rfl
theorem aH {α:Type}{f:α→List C}{s:Nat}[hf:Cel f s][hi:Inj f]{r:Rt}{l l':List α}:sl f r l=sl f r l'↔l=l':=by
 constructor
 . intro h
   simp only[sl,C.sl.injEq,true_and] at h
   exact aM.1 h.2
 . rintro rfl;rfl
theorem DN {α:Type}{f:α→List C}{s:Nat}[hf:Cel f s][hi:Inj f]{l l':List α}{r r':List C}(hl:l.length=l'.length):cl f l++r=cl f l'++r'↔l=l'∧r=r':=by
 constructor
 . intro h
   obtain ⟨h1,h2⟩:=List.append_inj h (by rw[bm (f:=f),bm (f:=f),hl])
   exact ⟨aM.1 h1,h2⟩
 . rintro ⟨rfl,rfl⟩;rfl
end Go.Sx
namespace Go.Sx
open Go.RowKit
attribute [go_sem ↓] aY RK KX
attribute [go_sem] Mr Fn Fo L7 IH II Fp Fq IJ L8 L9 SM Ma Mb Fr SN Mc Md Me IK SO aaa w5 SP d7 mZ m0 fv dU jB cV c7 lE L6 gH w4 Bool.and_self Bool.and_true Za KP HX RE RF HY KQ E7 not_true_eq_false not_false_eq_true RG KR Zb Zc Zd RH RI Ze RJ LL Ff Ix RN RR RS RT Li Ii RU run_build Fb Lj run_store Lk RV Zk Ll RW RX Ij Zl RY Zm Lm R0 R1 Ln R2 R3 Lo RO RP Ic Id Ie E8 If E9 vW vX Ig H8 KY La Zf Zg Zh RM Lb Lc H9 Ia Ld Lf Lg RL KM KN Lu Sb Sc Sd Zn PW RC KO Bool.or_false Bool.false_or Bool.true_or Bool.or_true beq_self_eq_true wS wT List.map_nil List.map_cons Option.map_none Option.map_some Option.bind_some Option.bind_none DB aet aeu aev ai8 aew Zq Zr Zs Zt aex aey aez aeA aeB aeC aeD aeE aeF aeG aeH aeI aeJ aeK aeL aeM aeN aeO aeP aeQ aeR SK Ip SL Z7 Zp aeT aeU aeV P2 ME ne_eq MH I4 aax aay aaz Tk Tl eq_self decide_true decide_false Bool.not_true Bool.not_false P5 aaj Fx aak P6 aal P7 aam P8 aan P9 Qa Qb Qc aao aap aaq aar ae7 ai9 aas Tg Th Ti Tj aat aau DM MF Sf Lv Lw Lx Sg Si Ly Lz Zu Zv SJ aeW Zw aeX Zy aeY ZB Sj Sk LA Sl ZD Sm Sn Fc So Sp Sq ZE Sr Fd Ir Is LD BI Ss LF It LG LH LJ Iu Iv Fe Iw fu Z4 ID Tc Mq Ft CJ Fu Fv aae Tb aaf aag DD IM IP IQ DE BQ w7 BS IU Td Ms Mt Mx IW IX IY ae2 DC BO IG ZF mD oL ZG LK ZH SU Mh ZI ST oM ZO Sv LN ZK Su ZL ZM Nat.mul_one Nat.zero_add Nat.add_zero LO LS ZR LU Sw LV ZS ZT SQ Mg ae1 SS ZW ZX ZY Sy BL Sz LW SD SA SB Lh tf zg kS List.append_nil Iy LM Fh HZ KS KU KV H3 KW Fg BJ ZC Mo Mp MA Ta List.map_append Ml tj SY IR MB MC Mm aac aad Mn ae3 ae4 ae5 SZ S7 IS DG Nat.sub_zero Nat.zero_mul List.drop_zero List.drop_succ_cons List.take_succ_cons List.take_zero Lp Ls wW In oI pQ R6 Te My R7 aeZ ae0 Tf Mz Dz Lt R9 List.set_cons_zero List.set_cons_succ List.getElem?_cons_zero List.getElem?_cons_succ List.length_nil List.length_cons List.nil_append List.cons_append Nat.add_sub_cancel_left List.length_set List.length_replicate BN
end Go.Sx
namespace Go.Sx
open Go.RowKit Go.ChangeShapes
theorem I5 {H:Type}{enc:TypeId×Value→H}{P:Program}{W:World}{base:Nat}{sp:Nat→Bool}{held:Bool}{fuel:Nat}{t e:TypeId}{n:Nat}{k:IntKind}{cs:List Value}{p:List MemPlace}{ns:List Int}
 (ht:P.underlying t=some (.array n e)) (he:P.underlying e=some (.int k)) (hc:P.cellsOf e=1) (hn:P.cellsOf t=n)
 (h:DataW.trod enc P W base sp held fuel t cs=some (.agg (ns.map fun m=> .lit (.int k m)),p)):cs=ns.map (.int k ·):=by
 obtain ⟨xs,m,_,hx,hlen,hxl,hel⟩:=DataW.trod_array ht h
 simp only[Prod.mk.injEq,DataW.agg.injEq] at hx
 have hnl:ns.length=n:=by
  have:=congrArg List.length hx.1
  simp only[List.length_map] at this;omega
 have each:∀i< n,∃z,cs[i]? =some (.int k z)∧ns[i]? =some z:=fun i hi=>by
  have h1:=hel i hi
  rw[List.getElem?_eq_getElem (by omega),hc,Nat.mul_one] at h1
  obtain ⟨z,h2,h3,_⟩:=DataW.trod_int he h1
  refine ⟨z,?_,?_⟩
  . have h4:=congrArg (fun l=>l[0]?) h2
    simpa[List.getElem?_take,List.getElem?_drop] using h4
  . have h5:=congrArg (fun l=>l[i]?) hx.1
    simp only[List.getElem?_map] at h5
    rw[List.getElem?_eq_getElem (l:=xs) (by omega),h3] at h5
    simp only[Option.map_some] at h5
    cases hq:ns[i]? with
    |none=>rw[hq] at h5;cases h5
    |some z'=>rw[hq] at h5;simp only[Option.map_some,Option.some.injEq,DataW.lit.injEq,Lit.int.injEq,true_and] at h5;rw[h5]
 apply List.ext_getElem?
 intro i
 by_cases hi:i< n
 . obtain ⟨z,h1,h2⟩:=each i hi
   rw[h1,List.getElem?_map,h2];rfl
 . rw[List.getElem?_eq_none (by omega),List.getElem?_eq_none (by simp;omega)]
theorem uA {P:Program}{W:World}{n:String}{g t e m fuel:Nat}{enc:TypeId×Value→Unit}{sp:Nat→Bool}{held:Bool}{cs:Array Value}{p:List MemPlace}{ws:List (BitVec 32)}
 (hg:P.globalNamed n=some g) (hv:W.var? P n=some cs) (ht:P.underlying t=some (.array m e)) (he:P.underlying e=some (.int .u32)) (hc:P.cellsOf e=1) (hn:P.cellsOf t=m)
 (h:DataW.trod enc P W 0 sp held fuel t cs.toList=some (.agg ((ws.map fun w=>(w.toNat:Int)).map fun m=> .lit (.int .u32 m)),p)):Rep (GW W) (.kp (cl wC ws)) (.pointer (some ⟨g,0,none⟩)):=by
 have hcs:=I5 ht he hc hn h
 simp only[Rep]
 refine ⟨g,0,rfl,RepK.of_get fun i x hx=>?_⟩
 have hi:i< ws.length:=by
  have:=(List.getElem?_eq_some_iff.1 hx).1
  rw[bm (f:=wC)] at this;omega
 rw[Il (f:=wC) ws i hi] at hx
 simp only[Option.some.injEq] at hx
 subst hx
 refine ⟨bE (ws.getD i default),?_,rfl,au.2 rfl⟩
 show W.cell? ⟨g,0+i,none⟩ =_
 rw[World.var?_cell hg hv,Nat.zero_add,←Array.getElem?_toList,hcs]
 simp[List.getElem?_map,List.getD,List.getElem?_eq_getElem hi,bE]
theorem iM {H:Type}{enc:TypeId×Value→H}{P:Program}{W:World}{b:Nat}{sp:Nat→Bool}{hd:Bool}{t:TypeId}{ts:List TypeId}{vs:List Value}{ds:List (DataW H)}{ps:List MemPlace}
 (h:DataW.TrodAll enc P W b sp hd (t::ts) vs ds ps):∃v vs' d ds' p q,vs=v::vs'∧ds=d::ds'∧DataW.Trod enc P W b sp hd t v d p∧DataW.TrodAll enc P W b sp hd ts vs' ds' q:=by
 cases vs<;>cases ds<;>simp only[DataW.TrodAll] at h
 obtain ⟨p,q,h1,h2,_⟩:=h
 exact ⟨_,_,_,_,p,q,rfl,rfl,h1,h2⟩
theorem I6 {H:Type}{enc:TypeId×Value→H}{P:Program}{W:World}{b:Nat}{sp:Nat→Bool}{hd:Bool}{vs:List Value}{ds:List (DataW H)}{ps:List MemPlace}
 (h:DataW.TrodAll enc P W b sp hd [] vs ds ps):vs= []:=by
 cases vs<;>cases ds<;>simp only[DataW.TrodAll] at h<;>rfl
def AR (P:Program)(t:TypeId){α:Type}(g:α→C)(ok:α→Prop):Prop:=
 ∀ {H:Type}{enc:TypeId×Value→H}{W:World}{base b0:Nat}{sp:Nat→Bool}{held:Bool}{v:Value}{d:DataW H}{ps:List MemPlace},
   Value.okWide P W .any b0 t v→DataW.Trod enc P W base sp held t v d ps→∃a,ok a∧Rep (GW W) (g a) v
section
variable {P:Program} {t e:TypeId}
theorem aaA {s y:Nat}{z:List Value}(h:td P t=some ⟨.int .i64,s,y,z⟩):AR P t (fun n:Int=> .val (.int .i64 n)) fun n=> -9223372036854775808≤n∧n≤9223372036854775807:=
 fun h1 h2=>DL (f:=iC) (fun _=>rfl) (DK (bj h).1) (fun u hu=>by rw[(bj h).1] at hu;cases hu;trivial) h1 h2
theorem BW {α:Type}{f:α→List C}{ok:α→Prop}{s0 s y:Nat}[hf:Cel f s0]{z:List Value}(h:td P t=some ⟨.slice e,s,y,z⟩)(hc:P.cellsOf e=s0)(he:DI P e f ok):AR P t (fun l:List α=>sl f .no l) fun l=>l.length≤9223372036854775807∧∀a∈l,ok a:=
 fun h1 h2=>DL (f:=fun l=>[sl f .no l]) (fun _=>rfl) (I0 (bj h).1 hc he) (fun u hu=>by rw[(bj h).1] at hu;cases hu;trivial) h1 h2
end
end Go.Sx
namespace Go.Sx
attribute [go_sem] DD IM IP IQ DE BQ w7 SV SW Mi Mj SX Mk bm DB SF L0 L3 SG L4 L5 IF SI Fl aZ aK aC aP aD aL aQ kR lB BT true_and and_true
end Go.Sx
namespace Go.Sx
open Go.RowKit
abbrev ba:= {l:List UInt8 // l.length=16}
instance:Inhabited ba:=⟨⟨List.replicate 16 0,by simp⟩⟩
def dC (d:ba):List C:=cl bC d.1
instance:Cel dC 16:=⟨fun a=>by unfold dC;rw[bm (f:=bC),a.2],fun a=>by unfold dC;exact fu a.1,by decide,fun a r=>by
 unfold dC
 obtain ⟨l,hl⟩:=a
 cases l with
 |nil=>simp at hl
 |cons b l=>rfl⟩
instance:Fla dC:=⟨fun a=>by unfold dC;exact gH bC a.1⟩
instance:Inj dC:=⟨fun a b h=>Subtype.ext (aM.1 h)⟩
theorem Qd (d:ba):dC d=cl bC d.1:=rfl
theorem xd {α:Type}[Inhabited α]{f:α→List C}{s:Nat}[hf:Cel f s](l:List α)(k:Nat)(h:k< l.length):kU ((cl f l).drop (k*s)) 0 s=some (.agg (f (gt l k))):=by
 rw[←BN,←R8 (f:=f) l k h]
 unfold kU
 simp only[List.length_drop,List.drop_drop,Nat.add_zero,Nat.zero_add]
 have h1:=bm (f:=f) l
 have h2:k*s+s≤l.length*s:=by rw[←Nat.succ_mul];exact Nat.mul_le_mul_right _ h
 rw[if_pos (by omega),if_pos (by omega)]
theorem To (l:List ba)(k i:Nat)(h:k< l.length∧i< 16):dH (cl dC l) (k*16+i) =some (.val (w8 (gt (gt l k).1 i))):=by
 unfold dH
 rw[lQ (f:=dC) l k i h.2,List.getElem?_eq_getElem h.1]
 simp only[Option.bind_some]
 have e:gt l k=l[k]:=by simp[gt,List.getD,List.getElem?_eq_getElem h.1]
 rw[e,Qd]
 have:=pQ (f:=bC) l[k].1 i (by rw[l[k].2];exact h.2)
 unfold dH at this
 rw[this,BN]
theorem Tp (u:TypeDesc)(y:Nat)(z:List Value)(l:List UInt8)(h:l.length=16)(hz:z.length=16)(h1:z.all (·.oneCell') =true):j6 (some ⟨u,16,y,z⟩) 1 [(0,.agg (cl bC l))] =some (vp (sl dC .full [⟨l,h⟩])):=by
 unfold j6
 simp only[hz,h1]
 rw[if_pos ⟨by decide,by decide,trivial,trivial⟩]
 have hl:=bm (f:=bC) l
 have hr: (cw z 1).length=16:=by simp[cw,hz]
 have hc:C.cells? (.agg (cl bC l)) =some (cl bC l):=by
  show some ((cl bC l).map C.noR) =_
  rw[fu]
 unfold fW
 simp only[hc]
 rw[if_pos ⟨by omega,by omega⟩]
 unfold fW
 simp only[Option.map_some,splice,Nat.zero_mul,List.take_zero,List.nil_append,Nat.zero_add]
 rw[List.drop_of_length_le (by omega),List.append_nil]
 congr 2
 simp[sl,dO,nV,dC]
def MI (a b:Option C):Option C:=match a,b with
 |some a,some b=>some (.tup [a.noR,b.noR])
 |_,_=>none
def MJ (a b c:Option C):Option C:=match a,b,c with
 |some a,some b,some c=>some (.tup [a.noR,b.noR,c.noR])
 |_,_,_=>none
theorem aaB (cx:Cx)(st:St)(r1 r2:ResultVar):i2 cx st [r1,r2] =MI (eA cx st r1) (eA cx st r2):=by
 unfold i2 MI
 simp only[List.mapM_cons,List.mapM_nil,Option.bind_eq_bind,Option.pure_def]
 cases eA cx st r1<;>cases eA cx st r2<;>rfl
theorem aaC (cx:Cx)(st:St)(r1 r2 r3:ResultVar):i2 cx st [r1,r2,r3] =MJ (eA cx st r1) (eA cx st r2) (eA cx st r3):=by
 unfold i2 MJ
 simp only[List.mapM_cons,List.mapM_nil,Option.bind_eq_bind,Option.pure_def]
 cases eA cx st r1<;>cases eA cx st r2<;>cases eA cx st r3<;>rfl
theorem I7 (a b:C):MI (some a) (some b) =some (.tup [a.noR,b.noR]):=rfl
theorem I8 (a b c:C):MJ (some a) (some b) (some c) =some (.tup [a.noR,b.noR,c.noR]):=rfl
attribute [go_sem] aaB aaC I7 I8
theorem Tq (p:Prop)[Decidable p]: (!decide p) =decide (¬p):=by simp
theorem aaD (P:Program)(t:TypeId)(x n:Nat)(h:x< 18446744073709551616∧n≤64):aw P .shl t (.val (nU x)) (.val (nU n)) =some (vp (.val (nU (x*2 ^ n % 18446744073709551616)))):=ae8 P t x n .u64 h
attribute [go_sem] Tq aaD Qd xd To Tp IC Z0
end Go.Sx
