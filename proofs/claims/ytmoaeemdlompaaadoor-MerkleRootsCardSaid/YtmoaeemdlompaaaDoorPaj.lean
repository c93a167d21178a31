/-
   And what follows.
-/
import Derived.ChangeSame
import Derived.ChangeVars
import Derived.ChangeStays
import Derived.ChangeOld
import Derived.ChangeArms
import Derived.OpenShut
import Derived.RowKit
import Derived.JoinedOf
import Derived.Handed
import Derived.LaidLaws
import Derived.LaidMore
import Derived.KernelRfl
import Derived.LaidHandle
import Derived.MakeChecks
import Derived.Stop.Joined
import Derived.Lib.SlBytesConst
import Derived.Test.YtmoaeemdlompaaaDoorPai
set_option linter.unusedSimpArgs false
set_option linter.unusedVariables false
namespace Go.Sx
open Go.RowKit
def pk (e:List (Nat×C)):List Nat→List (Nat×C)
 | [] =>[]
 |k::ks=>(k,A e k)::pk e ks
theorem OJ (e:List (Nat×C))(t:Nat):∀ks:List Nat,A (pk e ks) t= .top∨A (pk e ks) t=A e t
 | [] => .inl rfl
 |k::ks=>by
  simp only[pk,A]
  by_cases h:t=k
  . subst h;right;simp
  . simp only[if_neg h];exact OJ e t ks
theorem OK (e:List (Nat×C)):pk e [] = []:=rfl
theorem I0 (e:List (Nat×C))(k:Nat)(ks:List Nat):pk e (k::ks) = (k,A e k)::pk e ks:=rfl
section
variable {cx:Cx} {n:Nat} {Q:Ex→St→Prop} {e:List (Nat×C)} {h:Hp}
theorem Tr.kp (ks:List Nat){c:Code}(H:Tr cx n c ⟨A (pk e ks),h⟩ Q):Tr cx n c ⟨A e,h⟩ Q:=by
 refine ju (fun t=>?_) H
 rcases OJ e t ks with q|q
 . rw[q];exact CLe.top _
 . rw[q];exact CLe.refl _
end
def condG (c:C)(p q:Prop):Prop:= ∃b,c= .val (.bool b)∧GB b p q
theorem iE (b:Bool)(p q:Prop):condG (.val (.bool b)) p q=GB b p q:=by
 simp[condG]
theorem Tr.condG {cx:Cx}{n:Nat}{Q:Ex→St→Prop}{e:List (Nat×C)}{h:Hp}{c:Operand}{x y:Code}(H:∀KT KF:Prop,(Tr cx n x ⟨A e,h⟩ Q→KT)→(Tr cx n y ⟨A e,h⟩ Q→KF)→Sx.condG (cx.ev (A e) c) KT KF):Tr cx n (.cond c x y) ⟨A e,h⟩ Q:=by
 obtain ⟨b,h1,h2,h3⟩:=H _ _ (fun x=>x) (fun x=>x)
 exact sE h1 h2 h3
theorem Bp {α:Type}[Inhabited α](l:List α)(k:Nat):l.getD k default=gt l k:=rfl
theorem wJ (K:St→Prop)(Q:Ex→St→Prop)(s:St):lb K Q .normal s=K s:=rfl
theorem I1 (K:St→Prop)(Q:Ex→St→Prop)(s:St):lb K Q .ret s=Q .ret s:=rfl
theorem DC (k:Nat)(Q:Ex→St→Prop)(s:St):md k Q .normal s=Q .normal s:=rfl
theorem DD (k:Nat)(Q:Ex→St→Prop)(s:St):md k Q .ret s=Q .ret s:=rfl
theorem I2 (cx:Cx)(rs:List ResultVar)(c:C)(st:St):GD cx rs c .ret st= (gP cx st rs=some c):=rfl
theorem DE (cx:Cx)(st:St)(r:ResultVar):gP cx st [r] =dI cx st r:=rfl
theorem DF (cx:Cx)(e:List (Nat×C))(h:Hp)(t:Nat):dI cx ⟨A e,h⟩ (.tmp t) =some (A e t):=rfl
def OL (t:Option TD)(c:C)(h:Hp):Option C:=match t,c with
 |some d,.bp b off=>(h.at b).bind fun cells=>ct d cells off
 |_,_=>none
theorem Bq (cx:Cx)(e:List (Nat×C))(h:Hp)(a:Nat)(t:TypeId):dI cx ⟨A e,h⟩ (.cell a t) =OL (td cx.P t) (A e a) h:=rfl
theorem I3 (n:Nat)(e:TypeId)(a b:Nat)(z:List Value)(x o:Nat)(h:Hp):OL (some ⟨.array n e,a,b,z⟩) (.bp x o) h= (h.at x).bind fun cells=>ig cells o a:=rfl
theorem yM (fs:Array Field)(a b:Nat)(z:List Value)(x o:Nat)(h:Hp):OL (some ⟨.struct fs,a,b,z⟩) (.bp x o) h= (h.at x).bind fun cells=>ig cells o a:=rfl
theorem bJ (env:Nat→C):Le env [] =True:=rfl
theorem bc (env:Nat→C)(k:Nat)(c:C)(l:List (Nat×C)):Le env ((k,c)::l) = (CLe (env k) c∧Le env l):=rfl
theorem aY (c:C):CLe c c=True:=by simp[CLe.refl]
theorem bu (c:C):CLe c .top=True:=by simp[CLe.top]
theorem aZ {α:Type}(f:α→List C)(r:Rt)(l:List α):CLe (sl f .full l) (sl f r l) =True:=by simp only[sl,eq_iff_iff,iff_true];exact CLe.full ..
theorem bv {α:Type}(f:α→List C)(r:Rt):CLe (.val (.slice none 0 0)) (sl f r []) =True:=by simp only[sl,eq_iff_iff,iff_true];exact CLe.nil _
theorem bz {α:Type}(f:α→List C)(s:Nat)(l:List α):CLe (sl f (.own s) l) (sl f .no l) =True:=eq_true (CLe.noR (sl f (.own s) l))
theorem I4 (P:Program)(u1:TypeDesc)(a1 b1 a2 b2:Nat)(z1 z2:List Value)(n:Int):kC P (some ⟨u1,a1,b1,z1⟩) (some ⟨.int .u64,a2,b2,z2⟩) (.val (.int .i64 n)) =some (vp (.val (nU (n % 18446744073709551616).toNat))):=by
 rw[ik,fZ,nU];congr 4;omega
theorem I5 (P:Program)(t:TypeId)(x:Nat)(h:x< 18446744073709551616):aq P .and t (.val (nU x)) (.val (nU 31)) =some (vp (.val (nU (x % 32)))):=by
 rw[Sk P t x 31 (by omega)]
 have:=Nat.and_two_pow_sub_one_eq_mod x 5
 simp only[Nat.reducePow,Nat.reduceSub] at this
 rw[this]
theorem I6 (n:Nat)(h:n< 9223372036854775808):eU .neg (.val (nI n)) =some (vp (.val (.int .i64 (-(n:Int))))):=by
 show some (vp (.val (.int .i64 (IntKind.wrap .i64 (0 - (n:Int)))))) =_
 rw[dW _ (by omega) (by omega),Int.zero_sub]
theorem OM (b:Bool):eU .not (.val (.bool b)) =some (vp (.val (.bool (!b)))):=rfl
theorem wK (n:Nat):List.replicate n (C.val (bf (BitVec.ofNat 32 0))) =cl wC (List.replicate n 0):=OF n
theorem u2 (n:Nat):List.replicate n (C.val (w8 (UInt8.ofNat 0))) =cl bC (List.replicate n 0):=OG n
end Go.Sx
namespace Go.Sx
open Go.RowKit
end Go.Sx
namespace Go.Sx
open Go.RowKit
def cM:List C→Bool
 | [] =>false
 | .sv _ _ _::_=>true
 | .bp _ _::_=>true
 | .gv _ _ _::_=>true
 |_::l=>cM l
theorem u3:∀l:List C,cM l=true→noRefs 0 l=false
 | [],h=>by cases h
 |c::l,h=>by
  cases c with
  |sv b o n=>simp[noRefs,ah]
  |bp b o=>simp[noRefs,ah]
  |gv b o s=>simp[noRefs,ah]
  |_=>
   have:=u3 l h
   simp only[noRefs,this,Bool.and_false]
class Fla {α:Type} (f:α→List C):Prop where
 flat:∀a,flats (f a) =true
instance:Fla bC:=⟨fun _=>rfl⟩
instance:Fla wC:=⟨fun _=>rfl⟩
instance:Fla sC:=⟨fun _=>rfl⟩
instance:Fla iC:=⟨fun _=>rfl⟩
instance:Fla nC:=⟨fun _=>rfl⟩
instance:Fla oC:=⟨fun _=>rfl⟩
theorem se (xs ys:List C):flats (xs++ys) = (flats xs && flats ys):=by
 induction xs with
 |nil=>simp[flats]
 |cons x xs ih=>simp only[List.cons_append,flats,ih,Bool.and_assoc]
theorem an (k:Nat)(xs ys:List C):noRefs k (xs++ys) = (noRefs k xs && noRefs k ys):=by
 induction xs with
 |nil=>simp[noRefs]
 |cons x xs ih=>simp only[List.cons_append,noRefs,ih,Bool.and_assoc]
theorem eM {α:Type}(f:α→List C)[h:Fla f]:∀l:List α,flats (cl f l) =true
 | [] =>rfl
 |a::l=>by rw[dx,se,h.flat,eM f l];rfl
mutual
theorem yN (k:Nat):∀c:C,flat c=true→ah k c=true
 | .val _,_=>rfl
 | .agg xs,h=>by simp only[flat] at h;simp only[ah];exact flats_noRefs k xs h
 | .tup xs,h=>by simp only[flat] at h;simp only[ah];exact flats_noRefs k xs h
 | .top,h=>by cases h
 | .sl _ _ _,h=>by cases h
 | .sv _ _ _,h=>by cases h
 | .bp _ _,h=>by cases h
 | .kp _,h=>by cases h
 | .fn _ _,h=>by cases h
theorem flats_noRefs (k:Nat):∀l:List C,flats l=true→noRefs k l=true
 | [],_=>rfl
 |x::xs,h=>by
  simp only[flats,Bool.and_eq_true] at h
  simp only[noRefs,yN k x h.1,flats_noRefs k xs h.2,Bool.and_self]
end
theorem au {α:Type}(f:α→List C)[h:Fla f](k:Nat)(l:List α):noRefs k (cl f l) =true:=flats_noRefs k _ (eM f l)
theorem ar {α:Type}(f:α→List C)[h:Fla f](k:Nat)(r:Rt)(l:List α):ah k (sl f r l) =true:=au f k l
theorem aw (k:Nat)(xs:List C):ah k (.agg xs) =noRefs k xs:=rfl
theorem ax (k:Nat)(xs:List C):ah k (.tup xs) =noRefs k xs:=rfl
theorem ay (k:Nat)(xs:List C):ah k (.kp xs) =noRefs k xs:=rfl
theorem am (k:Nat)(v:Value):ah k (.val v) =true:=rfl
theorem ag (k:Nat):noRefs k [] =true:=rfl
theorem af (k:Nat)(c:C)(l:List C):noRefs k (c::l) = (ah k c && noRefs k l):=rfl
theorem DG (v:Value):flat (.val v) =true:=rfl
theorem DH (xs:List C):flat (.agg xs) =flats xs:=rfl
theorem yO (cx:Cx)(g:Nat)(az:List C)(c:C):tD cx g az (some c) =some (vp c):=rfl
def pQ (cx:Cx)(g:Nat)(az:List C)(b:Option Nat)(o:Option (C×Hp)):Option Plan:=match b with
 |some b=>if o.isSome then some (.call g az) else some (.rd b (rdPu cx g az b))
 |none=>some (.call g az)
theorem yP (cx:Cx)(g:Nat)(az:List C):tD cx g az none=pQ cx g az (ez az) (cx.hp g az []):=by
 unfold tD pQ;rfl
theorem DI (cx:Cx)(g:Nat)(az:List C)(b:Nat):pQ cx g az (some b) none=some (.rd b (rdPu cx g az b)):=rfl
theorem Br (b o n:Nat)(l:List C):ez (.sv b o n::l) =d8 b l:=rfl
theorem Bs (b o:Nat)(l:List C):ez (.bp b o::l) =d8 b l:=rfl
theorem yQ (xs l:List C):ez (.agg xs::l) =ez l:=rfl
theorem yR (v:Value)(l:List C):ez (.val v::l) =ez l:=rfl
theorem Bt (xs l:List C):ez (.kp xs::l) =ez l:=rfl
theorem DJ (b:Nat):d8 b [] =some b:=rfl
theorem DK (b:Nat)(v:Value)(l:List C):d8 b (.val v::l) =d8 b l:=rfl
theorem I7 (b:Nat)(xs l:List C):d8 b (.kp xs::l) =d8 b l:=rfl
theorem DL {α:Type}(b:Nat)(f:α→List C)(r:Rt)(x:List α)(l:List C):d8 b (sl f r x::l) =d8 b l:=rfl
theorem DM {b b':Nat}(h:b'≠b)(o:Nat)(l:List C):d8 b (.bp b' o::l) =none:=by simp[d8,h]
def ON (b:Bool)(c:C):Option C:=if b then some c else none
def Tj (b:Bool)(c:Option C):Option C:=if b then (match c with
 |some c=>ON (flat c) c
 |none=>none) else none
theorem I8 (cx:Cx)(g:Nat)(az:List C)(b:Nat)(cells:List C):rdPu cx g az b cells=Tj (noRefs 0 (eK b cells az)) (cx.pu g (eK b cells az)):=rfl
theorem DN (c:C):Tj true (some c) =ON (flat c) c:=rfl
theorem DO (c:C):ON true c=some c:=rfl
theorem DP (b:Nat)(cells:List C):eK b cells [] = []:=rfl
theorem Bu (b:Nat)(cells:List C)(c:C)(l:List C):eK b cells (c::l) =fM b cells c::eK b cells l:=rfl
theorem I9 (b:Nat)(cells:List C)(xs:List C):fM b cells (.agg xs) = .agg xs:=rfl
def rn (cells:List C)(b o n:Nat):C:=if o+n≤cells.length then .sl .no n (((cells.drop o).take n).map C.noR) else .sv b o n
theorem OO (b:Nat)(cells:List C)(o n:Nat):fM b cells (.sv b o n) =rn cells b o n:=by simp[fM,rn]
theorem sf {α:Type}(f:α→List C)[hf:Cel f 1](b n:Nat)(l:List α)(r:List C)(h:n=l.length):rn (cl f l++r) b 0 n=sl f .no l:=by
 subst h
 unfold rn
 have hl:=bj (f:=f) l
 simp only[List.length_append,hl,Nat.zero_add,Nat.mul_one,Nat.le_add_right,if_true,List.drop_zero]
 rw[List.take_append_of_le_length (by rw[hl];omega),List.take_of_length_le (by rw[hl];omega),fT]
 rfl
theorem Ja {α β:Type}(f:α→List C){s:Nat}[hf:Cel f s](g:β→List C)[hg:Cel g 1](b o n:Nat)(l:List α)(l':List β)(r:List C)(h:l.length*s=o)(h2:n=l'.length):rn (cl f l++(cl g l'++r)) b o n=sl g .no l':=by
 have e:=sf g b n l' r h2
 unfold rn at e ⊢
 have hl:=bj (f:=f) l
 have hd: (cl f l++(cl g l'++r)).drop o=cl g l'++r:=by
  rw[List.drop_append,List.drop_of_length_le (by rw[hl];omega),hl,h,Nat.sub_self];rfl
 rw[hd]
 rw[List.drop_zero] at e
 by_cases hh:0+n≤(cl g l'++r).length
 . rw[if_pos hh] at e
   rw[if_pos (by rw[List.length_append,hl];omega),e]
 . rw[if_neg hh] at e;cases e
theorem DQ:∀ (f:Nat)(az:List C),cM az=true→(fun _ _=>none:Nat→List C→Option C) f az=none:=fun _ _ _=>rfl
theorem dz {pu:Nat→List C→Option C}(hno:∀f az,cM az=true→pu f az=none){α:Type}{enc:α→List C}{out:α→C}{f:Nat}(he:∀a,noRefs 0 (enc a) =true):∀g az,cM az=true→Sx.ext pu f (aV enc out) g az=none:=fun g az hr=>by
 by_cases hgf:g=f
 . subst hgf
   rw[aK]
   cases hq:aV enc out az with
   |none=>rfl
   |some c=>
    obtain ⟨a,rfl,_⟩:=lh hq
    have:=he a
    rw[u3 _ hr] at this;cases this
 . rw[aE hgf];exact hno g az hr
theorem aB {P:Program}{km:TypeId→Value→Bool}{gl:Nat→C}{pu:Nat→List C→Option C}{N M:Nat}(hcx:CxOK ⟨P,N,gl,pu,fun _ _ _=>none,fun _=>false,km,true⟩)
 {α:Type} {enc:α→List C} {out:α→C} {f:Nat} (he:∀a,noRefs 0 (enc a) =true) (h:∀a,FC P gl f (enc a) [] (out a) []):CxOK ⟨P,M,gl,Sx.ext pu f (aV enc out),fun _ _ _=>none,fun _=>false,km,true⟩:=
 hcx.ext (M:=M) hcx.glo he h
theorem Sq (l:List (BitVec 32))(k:Nat)(a:BitVec 32)(h:k< l.length):ef (cl wC l) k [.val (bf a)] =some (cl wC (l.set k a),.val undef):=A9 (f:=wC) l k a h
theorem Sr (l:List (UInt8))(k:Nat)(a:UInt8)(h:k< l.length):ef (cl bC l) k [.val (w8 a)] =some (cl bC (l.set k a),.val undef):=A9 (f:=bC) l k a h
def Wa (de:Option TD)(s:Nat)(p:Option Plan):Option Plan:=match de with
 |some de=>if de.size=s then p else none
 |none=>none
section
variable (P:Program) (a1 b1:Nat) (z1:List Value)
def Bv (de:Option TD)(s:Nat)(p q:Option Plan):Option Plan:=match de with
 |some de=>if de.size=s then p else q
 |none=>q
theorem DR (u:TypeDesc)(s y:Nat)(z:List Value)(p q:Option Plan):Bv (some ⟨u,s,y,z⟩) s p q=p:=if_pos rfl
def OP {α:Type}(f:α→List C)(e:TypeId)(r:Rt)(l:List α)(lo hi:Option C):Option Plan:=uY P (some ⟨.slice e,a1,b1,z1⟩) (sl f r l) lo hi
theorem Jb {α:Type}(f:α→List C){s0:Nat}[hf:Cel f s0](e:TypeId)(r:Rt)(l:List α)(lo hi:Option C):
 uY P (some ⟨.slice e,a1,b1,z1⟩) (sl f r l) lo hi=Bv (td P e) s0 (iy hi lo l.length fun h k=>some (vp (sl f .no ((l.drop k).take (h - k))))) (OP P a1 b1 z1 f e r l lo hi):=by
 unfold OP
 cases hq:td P e with
 |none=>rfl
 |some de=>
  obtain ⟨u,s,y,z⟩:=de
  unfold Bv
  simp only[]
  split
  . rename_i hs
    subst hs
    exact OA P a1 b1 z1 f e r l lo hi u y z hq
  . rfl
theorem Ss (n:Nat)(e:TypeId)(b o m:Nat)(h:n≤m∧n≠0):yC P (some ⟨.array n e,a1,b1,z1⟩) (.sv b o m) =GM (td P e) fun _=>some (vp (.bp b o)):=by
 unfold yC GM
 simp only[]
 cases td P e with
 |none=>rfl
 |some de=>simp only[];rw[if_pos h]
def Tk (e:TypeId)(x y:C):Option Plan:=Bo P (some ⟨.slice e,a1,b1,z1⟩) x y
theorem Jc (e:TypeId)(b o n:Nat)(l:List UInt8)(h:0< n):
 Bo P (some ⟨.slice e,a1,b1,z1⟩) (.sv b o n) (.val (str l)) =Bv (td P e) 1 (some (.wr b (fun cells=>n7 cells o n 1 (cl bC (l.take n)) (min l.length n)) none)) (Tk P a1 b1 z1 e (.sv b o n) (.val (str l))):=by
 unfold Tk
 cases hq:td P e with
 |none=>rfl
 |some de=>
  obtain ⟨u,s,y,z⟩:=de
  unfold Bv
  simp only[]
  split
  . rename_i hs
    subst hs
    exact OI P a1 b1 z1 e b o n l u y z hq h
  . rfl
end
def GN (de:Option TD)(k:Option Nat)(n:Nat)(xs:List C):Option Plan:=pP de k fun s k=>if xs.length=n*s∧xs≠[] then some (vp (.kp (xs.drop (k*s)))) else none
theorem Jd {α:Type}(f:α→List C)(P:Program)(a1 b1:Nat)(z1:List Value)(e:TypeId)(r:Rt)(l:List α)(i:C):rj P (some ⟨.slice e,a1,b1,z1⟩) (sl f r l) i=GN (td P e) (dQ i l.length) l.length (cl f l):=On P a1 b1 z1 f e r l i
theorem oD {α:Type}(f:α→List C){s:Nat}[hf:Cel f s](u:TypeDesc)(y:Nat)(z:List Value)(k:Nat)(l:List α)(h:k< l.length):GN (some ⟨u,s,y,z⟩) (some k) l.length (cl f l) =some (vp (.kp ((cl f l).drop (k*s)))):=by
 show (if (cl f l).length=l.length*s∧cl f l≠[] then some (vp (.kp ((cl f l).drop (k*s)))) else none) =_
 rw[if_pos ⟨bj (f:=f) l,fun e=>by
  have h1:=bj (f:=f) l
  rw[e] at h1
  have h2:=hf.pos
  have h3:l.length*s≠0:=Nat.mul_ne_zero (by omega) (by omega)
  exact h3 h1.symm⟩]
def Tl (de:Option TD)(k:Option Nat)(n:Nat)(xs:List C):Option Plan:=pP de k fun s k=>if n*s≤xs.length then some (vp (.kp (xs.drop (k*s)))) else none
theorem Je (P:Program)(a1 b1:Nat)(z1:List Value)(n:Nat)(e:TypeId)(xs:List C)(i:C):rj P (some ⟨.array n e,a1,b1,z1⟩) (.kp xs) i=Tl (td P e) (dQ i n) n xs:=rfl
theorem DS (u:TypeDesc)(s y:Nat)(z:List Value)(k n:Nat)(xs:List C)(h:n*s≤xs.length):Tl (some ⟨u,s,y,z⟩) (some k) n xs=some (vp (.kp (xs.drop (k*s)))):=if_pos h
theorem Jf (b o n:Nat)(l:List C):cM (.sv b o n::l) =true:=id rfl
theorem Jg (b o:Nat)(l:List C):cM (.bp b o::l) =true:=id rfl
theorem DT (xs l:List C):cM (.agg xs::l) =cM l:=id rfl
theorem DU (v:Value)(l:List C):cM (.val v::l) =cM l:=id rfl
theorem Jh (xs l:List C):cM (.kp xs::l) =cM l:=id rfl
theorem DV {α:Type}(f:α→List C)(r:Rt)(x:List α)(l:List C):cM (sl f r x::l) =cM l:=id rfl
theorem wL (x:BitVec 32): (bf x).oneCell'=true:=id rfl
theorem Bw (x:UInt8): (w8 x).oneCell'=true:=id rfl
theorem Bx (x:Nat): (nI x).oneCell'=true:=id rfl
theorem By (x:Nat): (nU x).oneCell'=true:=id rfl
theorem wM (x:List UInt8): (str x).oneCell'=true:=id rfl
theorem u4 (x:Bool): (Value.bool x).oneCell'=true:=id rfl
theorem sg: (Value.slice none 0 0).oneCell'=true:=id rfl
end Go.Sx
namespace Go.Sx
open Go.RowKit
theorem DW {α:Type}[Inhabited α](a:α)(l:List α):gt (a::l) 0=a:=rfl
theorem u5 {α:Type}[Inhabited α](a:α)(l:List α)(n:Nat):gt (a::l) (n+1) =gt l n:=by simp[gt,List.getD]
theorem Ji {α:Type}{f:α→List C}[hf:Cel f 1](l:List α)(o n:Nat)(h:o+n≤l.length):ig (cl f l) o n=some (.agg (cl f ((l.drop o).take n))):=by
 have e1:=gc (f:=f) l o
 have e2:=gQ (f:=f) (l.drop o) n
 rw[Nat.mul_one] at e1 e2
 unfold ig
 rw[if_pos (by rw[bj (f:=f)];omega),e1,e2,fT]
def jm (cells:List C):List (Nat×C)→Option Plan
 | [] =>some (vp (.agg cells))
 | (i,c)::r=>match c.cells? with
   |some cs=>if cs.length=1∧i+1≤cells.length then jm (splice cells i cs) r else none
   |none=>none
theorem wN (y:Nat):∀ (parts:List (Nat×C))(cells:List C),(ed (fun i=>some (i*1,1)) cells parts).map (fun cs=>vp (.agg cs)) =jm cells parts
 | [],cells=>rfl
 | (i,c)::r,cells=>by
   unfold ed jm
   cases c.cells? with
   |none=>rfl
   |some cs=>
    simp only[Nat.mul_one]
    split
    . have:=wN y r (splice cells i cs)
      simpa only[Nat.mul_one] using this
    . rfl
def kD (de:Option TD)(z:List Value)(parts:List (Nat×C))(q:Option Plan):Option Plan:=match de with
 |some d=>if d.size=1∧z.all (·.oneCell') =true then jm (z.map .val) parts else q
 |none=>q
def Tm (P:Program)(n:Nat)(e:TypeId)(s y:Nat)(z:List Value)(parts:List (Nat×C)):Option Plan:=jl P (some ⟨.array n e,s,y,z⟩) parts
theorem Bz (P:Program)(n:Nat)(e:TypeId)(s y:Nat)(z:List Value)(parts:List (Nat×C)):jl P (some ⟨.array n e,s,y,z⟩) parts=kD (td P e) z parts (Tm P n e s y z parts):=by
 unfold kD Tm
 cases hq:td P e with
 |none=>rfl
 |some d=>
  simp only[]
  split
  . rename_i h
    unfold jl
    simp only[h.2,Bool.true_eq_false,if_false,ia,hq,Option.map_some,Option.bind_some,h.1]
    exact wN 0 parts _
  . rfl
theorem pR (u:TypeDesc)(y n:Nat)(z:List Value)(v:Value)(parts:List (Nat×C))(q:Option Plan)(h:v.oneCell'=true):kD (some ⟨u,1,y,z⟩) (List.replicate n v) parts q=jm (List.replicate n (.val v)) parts:=by
 unfold kD
 simp only[]
 rw[if_pos ⟨trivial,by simp[h]⟩,List.map_replicate]
theorem DX (cells:List C):jm cells [] =some (vp (.agg cells)):=rfl
theorem OQ (l:List (BitVec 32))(i:Nat)(x:BitVec 32)(r:List (Nat×C))(h:i< l.length):jm (cl wC l) ((i,.val (bf x))::r) =jm (cl wC (l.set i x)) r:=by
 have e:=pM (f:=wC) l i x h
 rw[Nat.mul_one] at e
 have e2:splice (cl wC l) i [.val (bf x)] =cl wC (l.set i x):=e
 show (if [C.val (bf x)].length=1∧i+1≤(cl wC l).length then jm (splice (cl wC l) i [.val (bf x)]) r else none) =_
 rw[if_pos ⟨rfl,by rw[bj (f:=wC)];omega⟩,e2]
def eh (n:Nat)(cells:List C):List (Nat×C)→Option Plan
 | [] =>some (vp (.sl .full n cells))
 | (i,c)::r=>match c.cells? with
   |some cs=>if cs.length=1∧i+1≤cells.length then eh n (splice cells i cs) r else none
   |none=>none
theorem u6 (n:Nat):∀ (parts:List (Nat×C))(cells:List C),(ed (fun i=>some (i*1,1)) cells parts).map (fun cs=>vp (.sl .full n cs)) =eh n cells parts
 | [],cells=>rfl
 | (i,c)::r,cells=>by
   unfold ed eh
   cases c.cells? with
   |none=>rfl
   |some cs=>
    simp only[Nat.mul_one]
    split
    . have:=u6 n r (splice cells i cs)
      simpa only[Nat.mul_one] using this
    . rfl
def jy (de:Option TD)(n:Nat)(parts:List (Nat×C)):Option Plan:=match de with
 |some de=>if n*de.size≤65536∧n≤65536∧de.zero.length=de.size∧de.zero.all (·.oneCell') =true then
  (ed (fun i=>some (i*de.size,de.size)) (bO de.zero n) parts).map fun cs=>vp (.sl .full n cs) else none
 |none=>none
theorem DY (P:Program)(e:TypeId)(s y n:Nat)(z:List Value)(parts:List (Nat×C)):j0 P false (some ⟨.slice e,s,y,z⟩) n parts=jy (td P e) n parts:=rfl
theorem n8 (v:Value):∀n,bO [v] n=List.replicate n (.val v)
 |0=>rfl
 |n+1=>by rw[List.replicate_succ,←n8 v n];rfl
theorem rp (u:TypeDesc)(y n:Nat)(v:Value)(parts:List (Nat×C))(h:v.oneCell'=true)(hn:n≤65536):jy (some ⟨u,1,y,[v]⟩) n parts=eh n (List.replicate n (.val v)) parts:=by
 unfold jy
 simp only[Nat.mul_one,List.length_singleton,List.all_cons,List.all_nil,h,Bool.and_self,hn,and_self,if_true]
 rw[n8]
 have:=u6 n parts (List.replicate n (.val v))
 simpa only[Nat.mul_one] using this
theorem Jj (n:Nat)(l:List UInt8)(i:Nat)(x:UInt8)(r:List (Nat×C))(h:i< l.length):eh n (cl bC l) ((i,.val (w8 x))::r) =eh n (cl bC (l.set i x)) r:=by
 have e:=pM (f:=bC) l i x h
 rw[Nat.mul_one] at e
 have e2:splice (cl bC l) i [.val (w8 x)] =cl bC (l.set i x):=e
 show (if [C.val (w8 x)].length=1∧i+1≤(cl bC l).length then eh n (splice (cl bC l) i [.val (w8 x)]) r else none) =_
 rw[if_pos ⟨rfl,by rw[bj (f:=bC)];omega⟩,e2]
theorem Jk (n:Nat)(l:List (List UInt8))(i:Nat)(x:List UInt8)(r:List (Nat×C))(h:i< l.length):eh n (cl sC l) ((i,.val (str x))::r) =eh n (cl sC (l.set i x)) r:=by
 have e:=pM (f:=sC) l i x h
 rw[Nat.mul_one] at e
 have e2:splice (cl sC l) i [.val (str x)] =cl sC (l.set i x):=e
 show (if [C.val (str x)].length=1∧i+1≤(cl sC l).length then eh n (splice (cl sC l) i [.val (str x)]) r else none) =_
 rw[if_pos ⟨rfl,by rw[bj (f:=sC)];omega⟩,e2]
theorem BB {α:Type}(f:α→List C)(n:Nat)(l:List α)(h:n=l.length):eh n (cl f l) [] =some (vp (sl f .full l)):=by
 subst h;rfl
theorem wO (n:Nat):List.replicate n (C.val (str [])) =cl sC (List.replicate n []):=by
 induction n with
 |zero=>rfl
 |succ n ih=>rw[List.replicate_succ,ih];rfl
theorem DZ (cells cs:List C)(h:cs.length=cells.length):ef cells 0 cs=some (cs,.val undef):=by
 unfold ef splice
 rw[if_pos (by omega),List.take_zero,List.nil_append,Nat.zero_add,List.drop_of_length_le (by omega),List.append_nil]
theorem D0 (cells:List C)(n:Nat)(h:cells.length=n):ig cells 0 n=some (.agg (cells.map C.noR)):=by
 subst h
 unfold ig
 rw[if_pos (by omega),List.drop_zero,List.take_of_length_le (Nat.le_refl _)]
theorem Jl {α:Type}{f:α→List C}{s:Nat}[hf:Cel f s](l:List α)(r:List C)(o n s' m:Nat)(ys:List C)(h:l.length*s≤o):n7 (cl f l++r) o n s' ys m= (n7 r (o - l.length*s) n s' ys m).map fun q=>(cl f l++q.1,q.2):=by
 have hl:=bj (f:=f) l
 unfold n7
 simp only[List.length_append,hl]
 rw[n6 _ _ _ _ (by rw[hl];exact h),hl]
 by_cases hh:o+n*s'≤l.length*s+r.length
 . rw[if_pos hh,if_pos (by omega)];rfl
 . rw[if_neg hh,if_neg (by omega)];rfl
theorem Jm {α:Type}{f:α→List C}[hf:Cel f 1](l l':List α)(r:List C)(o n m:Nat)(h:o+n≤l.length)(h2:l'.length≤n):n7 (cl f l++r) o n 1 (cl f l') m=some (cl f (l.take o++l'++l.drop (o+l'.length))++r,.val (nI m)):=by
 have:=A5 (f:=f) l l' o
 rw[Nat.mul_one] at this
 have hl:=bj (f:=f) l
 have hl':=bj (f:=f) l'
 unfold n7
 rw[if_pos (by rw[List.length_append,hl];omega),n5 _ _ _ _ (by rw[hl,hl'];omega),this]
def zc (z:List Value):List C:=z.map .val
theorem OR:zc [] = []:=rfl
theorem Jn (v:Value)(l:List Value):zc (v::l) = .val v::zc l:=rfl
theorem OS (a b:List Value):zc (a++b) =zc a++zc b:=by simp[zc]
theorem OT (n:Nat)(v:Value):zc (List.replicate n v) =List.replicate n (.val v):=by simp[zc]
def eV (z:List Value):Bool:=z.all (·.oneCell')
theorem yS:eV [] =true:=rfl
theorem vN (v:Value)(l:List Value):eV (v::l) = (v.oneCell' && eV l):=rfl
theorem yT (a b:List Value):eV (a++b) = (eV a && eV b):=by simp[eV]
theorem yU (n:Nat)(v:Value)(h:v.oneCell'=true):eV (List.replicate n v) =true:=by simp[eV,h]
def Tn (b:Bool)(cs:List C):Option Plan:=if b then some (.new cs fun id=> .bp id 0) else none
theorem Jo (u:TypeDesc)(s y:Nat)(z:List Value):A2 (some ⟨u,s,y,z⟩) =Tn (eV z) (zc z):=rfl
theorem Ea (cs:List C):Tn true cs=some (.new cs fun id=> .bp id 0):=rfl
theorem Eb (t:TypeId)(T:Option TD):uR false t T=A2 T:=by cases T<;>rfl
def n9 (P:Program):List Field→Option (List (Nat×Nat))
 | [] =>some []
 |fd::l=>match td P fd.type,n9 P l with
  |some d,some r=>some ((fd.offset,d.size)::r)
  |_,_=>none
theorem BC (P:Program):∀l:List Field,(l.mapM fun f=>(td P f.type).map fun d=>(f.offset,d.size)) =n9 P l
 | [] =>rfl
 |fd::l=>by
  rw[List.mapM_cons,BC P l]
  simp only[n9,Option.bind_eq_bind,Option.pure_def]
  cases td P fd.type with
  |none=>rfl
  |some d=>cases n9 P l<;>rfl
def OU (d:Option TD)(o:Nat)(r:Option (List (Nat×Nat))):Option (List (Nat×Nat)):=match d,r with
 |some d,some r=>some ((o,d.size)::r)
 |_,_=>none
theorem Jp (P:Program):n9 P [] =some []:=rfl
theorem Ec (P:Program)(nm:String)(t:TypeId)(o:Nat)(em:Bool)(tg pp:String)(bo:Nat)(l:List Field):n9 P (⟨nm,t,o,em,tg,pp,bo⟩::l) =OU (td P t) o (n9 P l):=by
 simp only[n9,OU]
theorem Ed (u:TypeDesc)(s y:Nat)(z:List Value)(o:Nat)(r:List (Nat×Nat)):OU (some ⟨u,s,y,z⟩) o (some r) =some ((o,s)::r):=rfl
def layS (pl:List (Nat×Nat))(cells:List C):List (Nat×C)→Option Plan
 | [] =>some (vp (.agg cells))
 | (i,c)::rest=>match pl[i]?,c.cells? with
   |some (off,size),some cs=>if cs.length=size∧off+size≤cells.length then layS pl (splice cells off cs) rest else none
   |_,_=>none
theorem wP (pl:List (Nat×Nat)):∀ (parts:List (Nat×C))(cells:List C),(ed (fun i=>pl[i]?) cells parts).map (fun cs=>vp (.agg cs)) =layS pl cells parts
 | [],cells=>rfl
 | (i,c)::r,cells=>by
   unfold ed layS
   cases pl[i]? with
   |none=>rfl
   |some p=>
    obtain ⟨off,size⟩:=p
    cases c.cells? with
    |none=>rfl
    |some cs=>
     simp only[]
     split
     . exact wP pl r _
     . rfl
def Ee (b:Bool)(pl:Option (List (Nat×Nat)))(cells:List C)(parts:List (Nat×C)):Option Plan:=if b then (match pl with
 |some pl=>layS pl cells parts
 |none=>none) else none
theorem u7 (P:Program)(fs:List Field)(s y:Nat)(z:List Value)(parts:List (Nat×C)):jl P (some ⟨.struct fs.toArray,s,y,z⟩) parts=Ee (eV z) (n9 P fs) (zc z) parts:=by
 unfold jl Ee eV zc
 simp only[ia]
 by_cases h:z.all (·.oneCell') =true
 . rw[if_neg (by rw[h];decide),if_pos h,BC]
   cases n9 P fs with
   |none=>rfl
   |some pl=>exact wP pl parts _
 . rw[if_pos (by simpa using h),if_neg h]
theorem BD (pl:List (Nat×Nat))(cells:List C)(parts:List (Nat×C)):Ee true (some pl) cells parts=layS pl cells parts:=rfl
def Ef (pl:List (Nat×Nat))(p:Option (Nat×Nat))(cs:Option (List C))(cells:List C)(r:List (Nat×C)):Option Plan:=match p,cs with
 |some (off,size),some cs=>if cs.length=size∧off+size≤cells.length then layS pl (splice cells off cs) r else none
 |_,_=>none
def Eg (pl:List (Nat×Nat))(q:Option (List C×C))(r:List (Nat×C)):Option Plan:=match q with
 |some q=>layS pl q.1 r
 |none=>none
theorem Eh (pl:List (Nat×Nat))(cells:List C):layS pl cells [] =some (vp (.agg cells)):=rfl
theorem BE (pl:List (Nat×Nat))(cells:List C)(i:Nat)(c:C)(r:List (Nat×C)):layS pl cells ((i,c)::r) =Ef pl (pl[i]?) c.cells? cells r:=by
 rw[layS.eq_def];rfl
theorem BF (pl:List (Nat×Nat))(off size:Nat)(cs cells:List C)(r:List (Nat×C))(h:cs.length=size):Ef pl (some (off,size)) (some cs) cells r=Eg pl (ef cells off cs) r:=by
 subst h
 unfold Ef Eg ef
 simp only[true_and]
 split<;>rfl
theorem BG (pl:List (Nat×Nat))(cells:List C)(c:C)(r:List (Nat×C)):Eg pl (some (cells,c)) r=layS pl cells r:=rfl
section
variable {α β:Type} {f:α→List C} {s:Nat} [hf:Cel f s] {g:β→List C}
theorem Jq (l:List α)(c:C)(r:List C)(k:Nat)(h:l.length*s=k):dA (cl f l++(c::r)) k=some c.noR:=by
 rw[wA (f:=f) l _ k (by omega),h,Nat.sub_self,sb]
theorem Ei (l:List α)(l':List β)(r:List C)(k:Nat)(h:l.length*s≤k):dA (cl f l++(cl g l'++r)) k=dA (cl g l'++r) (k - l.length*s):=wA (f:=f) l _ k h
theorem Jr (l:List α)(c c':C)(r:List C)(k:Nat)(h:l.length*s=k):ef (cl f l++(c::r)) k [c'] =some (cl f l++(c'::r),.val undef):=by
 rw[wB (f:=f) l _ _ k (by omega),h,Nat.sub_self]
 unfold ef splice
 rw[if_pos (by simp)]
 rfl
theorem Ej (l:List α)(l':List β)(r cs:List C)(o:Nat)(h:l.length*s≤o):ef (cl f l++(cl g l'++r)) o cs= (ef (cl g l'++r) (o - l.length*s) cs).map fun q=>(cl f l++q.1,q.2):=wB (f:=f) l _ cs o h
theorem Ek (l:List α)(l':List β)(r:List C)(o n s' m:Nat)(ys:List C)(h:l.length*s≤o):n7 (cl f l++(cl g l'++r)) o n s' ys m= (n7 (cl g l'++r) (o - l.length*s) n s' ys m).map fun q=>(cl f l++q.1,q.2):=Jl (f:=f) l _ o n s' m ys h
end
theorem Su {α:Type}(a:α):List.replicate 1 a= [a]:=rfl
theorem El (u:TypeDesc)(y n:Nat)(z:List Value)(parts:List (Nat×C))(q:Option Plan):kD (some ⟨u,1,y,z⟩) (List.replicate n (bf (BitVec.ofNat 32 0))) parts q=jm (cl wC (List.replicate n 0)) parts:=by
 rw[pR u y n z _ parts q rfl,wK]
theorem Sv (u:TypeDesc)(y n:Nat)(parts:List (Nat×C))(hn:n≤65536):jy (some ⟨u,1,y,[w8 (UInt8.ofNat 0)]⟩) n parts=eh n (cl bC (List.replicate n 0)) parts:=by
 rw[rp u y n _ parts rfl hn,u2]
theorem Em (u:TypeDesc)(y n:Nat)(z:List Value)(parts:List (Nat×C))(q:Option Plan):kD (some ⟨u,1,y,z⟩) (List.replicate n (w8 (UInt8.ofNat 0))) parts q=jm (cl bC (List.replicate n 0)) parts:=by
 rw[pR u y n z _ parts q rfl,u2]
theorem Sw (u:TypeDesc)(y n:Nat)(parts:List (Nat×C))(hn:n≤65536):jy (some ⟨u,1,y,[str []]⟩) n parts=eh n (cl sC (List.replicate n [])) parts:=by
 rw[rp u y n _ parts rfl hn,wO]
end Go.Sx
namespace Go.Sx
open Go.RowKit Go.ChangeShapes Go.WideShapes
def GW (W:World):Gh:=⟨fun b o=>W.cell? ⟨b,o,none⟩,fun _=>none,fun _=>none,fun _=>none⟩
theorem Sy (W:World):WorldOK (GW W) [] W:=
 ⟨fun _ _ _ h=>h,fun b cells h=>(by simp[Hp.at] at h),fun b blk h=>(by cases h),fun b b' c c' blk _ _ h=>(by cases h),fun b blk h=>(by cases h),fun g p h=>(by cases h),
   fun b cells off s n xs blk v h=>(by simp[Hp.at] at h),fun b z h=>(by cases h),fun b l h=>(by simp[Hp.mp] at h),fun b b' l l' blk h=>(by simp[Hp.mp] at h)⟩
def pS (P:Program)(t:TypeId){α:Type}(f:α→List C)(ok:α→Prop):Prop:=
 ∀ {H:Type}{enc:TypeId×Value→H}{W:World}{base:Nat}{sp:Nat→Bool}{held:Bool}{fuel:Nat}{cs:List Value}{x:DataW H×List MemPlace},
   DataW.trod enc P W base sp held fuel t cs=some x→∃a,ok a∧RepL (GW W) (f a) cs∧∀u∈cs,u.oneCell'=true
section
variable {P:Program} {t e:TypeId}
theorem wQ {c v:Value}{G:Gh}(h:v=c):RepL G [.val c] [v]:=by
 simp only[RepL,Rep];exact ⟨v,[],rfl,h,rfl⟩
theorem wR (ht:P.underlying t=some (.int .i64)):pS P t iC fun n=> -9223372036854775808≤n∧n≤9223372036854775807:=fun h=>by
 obtain ⟨n,rfl,_,hw⟩:=DataW.trod_int ht h
 refine ⟨n,?_,wQ rfl,by simp[Value.oneCell']⟩
 simpa[Lit.wf,IntKind.min,IntKind.max,IntKind.signed,IntKind.bits] using hw
theorem OV (s:ByteArray):Value.string s=str s.data.toList:=by cases s;rfl
theorem Js (ht:P.underlying t=some .string):pS P t sC fun l=>l.length≤9223372036854775807:=fun h=>by
 obtain ⟨s,rfl,_,hs⟩:=DataW.trod_string ht h
 refine ⟨s.data.toList,?_,wQ (OV s),by simp[Value.oneCell']⟩
 have:s.data.toList.length=s.size:=by cases s;rfl
 exact Nat.le_trans (Nat.le_of_eq this) hs
theorem BH (b o x y:Nat): ((⟨b,o,none⟩:Addr).add x).add y= ⟨b,o+x+y,none⟩:=by
 simp only[Addr.add]
 by_cases hx:x=0<;>by_cases hy:y=0<;>simp[hx,hy]
theorem jn {α:Type}{R:Nat→α→Prop}:∀n,(∀i< n,∃a,R i a)→∃l:List α,l.length=n∧∀i a,l[i]? =some a→R i a
 |0,_=>⟨[],rfl,by simp⟩
 |n+1,h=>by
  obtain ⟨l,h1,h2⟩:=jn n (fun i hi=>h i (by omega))
  obtain ⟨a,ha⟩:=h n (by omega)
  refine ⟨l++[a],by simp[h1],fun i b hb=>?_⟩
  rw[List.getElem?_append] at hb
  split at hb
  . exact h2 i b hb
  . rename_i hi
    have:i=n:=by
     have:=(List.getElem?_eq_some_iff.1 hb).1
     simp at this;omega
    subst this
    simp[h1] at hb;subst hb;exact ha
theorem nv {α:Type}{f:α→List C}{s:Nat}[hf:Cel f s](l:List α)(i j:Nat)(hj:j< s): (cl f l)[i*s+j]? = (l[i]?).bind fun a=>(f a)[j]? :=by
 have h1: (cl f l)[i*s+j]? = ((cl f l).drop (i*s))[j]? :=by rw[List.getElem?_drop]
 rw[h1,gc]
 cases hq:l[i]? with
 |none=>
  rw[List.drop_of_length_le (by simpa using hq)];rfl
 |some a=>
  obtain ⟨hi,rfl⟩:=List.getElem?_eq_some_iff.1 hq
  rw[List.drop_eq_getElem_cons hi,dx,List.getElem?_append_left (by rw[hf.len];exact hj)];rfl
theorem BI {α:Type}{f:α→List C}{ok:α→Prop}{s:Nat}[hf:Cel f s](ht:P.underlying t=some (.slice e))(hc:P.cellsOf e=s)(he:pS P e f ok):
 pS P t (fun l:List α=>[sl f .no l]) fun l=>l.length≤9223372036854775807∧∀a∈l,ok a:=fun {H enc W base sp held fuel cs x} h=>by
 rcases DataW.trod_slice ht h with ⟨rfl,_⟩ | ⟨a,len,cap,elems,rest,n,_,rfl,_,hb,hl,hm,hlen,hel,_,_⟩
 . refine ⟨[],⟨by simp,by simp⟩,?_,by simp[Value.oneCell']⟩
   simp only[RepL]
   refine ⟨_,[],rfl,?_,rfl⟩
   simp only[sl,Rep]
   exact ⟨none,0,rfl,Nat.le_refl _,Nat.zero_le _,by simp,.inl rfl⟩
 . have each:∀i< len,∃b,ok b∧∃cs,W.cells? base (a.add (i*s)) s=some cs∧RepL (GW W) (f b) cs∧∀u∈cs,u.oneCell'=true:=fun i hi=>by
    have h1:=hel i hi
    rw[List.getElem?_eq_getElem (by omega),hc,Option.bind_eq_some_iff] at h1
    obtain ⟨cs,h2,h3⟩:=h1
    obtain ⟨b,h4,h5,h6⟩:=he h3
    exact ⟨b,h4,cs,h2,h5,h6⟩
   obtain ⟨l,hll,hlr⟩:=jn len each
   refine ⟨l,⟨by rw[hll];exact Nat.le_trans hl hm,fun b hb=>by
    obtain ⟨i,hi⟩:=List.getElem?_of_mem hb
    exact (hlr i b hi).1⟩,?_,by simp[Value.oneCell']⟩
   simp only[RepL]
   refine ⟨_,[],rfl,?_,rfl⟩
   simp only[sl,Rep]
   refine ⟨some a,cap,by rw[hll],by omega,hm,by simp,?_⟩
   by_cases h0:len=0
   . left;have:l= []:=by rw[←List.length_eq_zero_iff];omega
     subst this;rfl
   . right
     have hspot:a= ⟨a.block,a.off,none⟩:=by
      obtain ⟨b,hb⟩:∃b,l[0]? =some b:=⟨_,List.getElem?_eq_getElem (by omega)⟩
      obtain ⟨_,cs,h2,_⟩:=hlr 0 b hb
      have h3:=(World.cells?_some h2).2.2 0 hf.pos
      simp only[Nat.zero_mul] at h3
      have h4:W.cell? a≠none:=by
       have: (a.add 0).add 0=a:=by simp[Addr.add]
       rw[this] at h3
       rw[h3]
       have:=(World.cells?_some h2).2.1
       intro hq
       have:=hf.pos
       have hq2:cs.length≤0:=by simpa using hq
       omega
      obtain ⟨blk,off,spot⟩:=a
      cases spot with
      |none=>rfl
      |some q=>simp[World.cell?] at h4;split at h4<;>simp_all
     refine ⟨a.block,a.off,by rw[←hspot],?_⟩
     refine RepK.of_get fun k c hk=>?_
     have hkl:k< (cl f l).length:=(List.getElem?_eq_some_iff.1 hk).1
     rw[bj (f:=f)] at hkl
     have hs:=hf.pos
     have hdm:k= (k / s)*s+k % s:=by rw[Nat.mul_comm];exact (Nat.div_add_mod k s).symm
     have hml:k % s< s:=Nat.mod_lt _ hs
     rw[hdm,nv (f:=f) l _ _ hml] at hk
     rw[Option.bind_eq_some_iff] at hk
     obtain ⟨b,hb,hbc⟩:=hk
     obtain ⟨_,cs,h2,h3,h4⟩:=hlr _ b hb
     obtain ⟨u,hu1,hu2⟩:=h3.get _ c hbc
     refine ⟨u,?_,h4 u (List.mem_of_getElem? hu1),hu2⟩
     have h5:=(World.cells?_some h2).2.2 (k % s) hml
     rw[hu1] at h5
     rw[hspot] at h5
     show W.cell? ⟨a.block,a.off+k,none⟩ =some u
     rw[←h5]
     rw[BH,Nat.add_assoc,←hdm]
theorem BJ {α:Type}{f:α→List C}{ok:α→Prop}{s n:Nat}[hf:Cel f s](ht:P.underlying t=some (.array n e))(hc:P.cellsOf e=s)(hn:P.cellsOf t=n*s)(he:pS P e f ok):
 pS P t (fun l:List α=>cl f l) fun l=>l.length=n∧∀a∈l,ok a:=fun {H enc W base sp held fuel cs x} h=>by
 obtain ⟨xs,m,_,_,hlen,hxl,hel⟩:=DataW.trod_array ht h
 have each:∀i< n,∃b,ok b∧RepL (GW W) (f b) ((cs.drop (i*s)).take s)∧∀u∈ (cs.drop (i*s)).take s,u.oneCell'=true:=fun i hi=>by
  have h1:=hel i hi
  rw[List.getElem?_eq_getElem (by omega),hc] at h1
  exact he h1
 obtain ⟨l,hll,hlr⟩:=jn n each
 have hcs:cs.length=n*s:=by omega
 refine ⟨l,⟨hll,fun b hb=>by
  obtain ⟨i,hi⟩:=List.getElem?_of_mem hb
  exact (hlr i b hi).1⟩,?_,?_⟩
 . refine RepL.of_get (by rw[bj (f:=f),hll,hcs]) fun k c v hk hv=>?_
   have hs:=hf.pos
   have hdm:k= (k / s)*s+k % s:=by rw[Nat.mul_comm];exact (Nat.div_add_mod k s).symm
   have hml:k % s< s:=Nat.mod_lt _ hs
   rw[hdm,nv (f:=f) l _ _ hml,Option.bind_eq_some_iff] at hk
   obtain ⟨b,hb,hbc⟩:=hk
   obtain ⟨_,h3,_⟩:=hlr _ b hb
   obtain ⟨u,hu1,hu2⟩:=h3.get _ c hbc
   rw[List.getElem?_take_of_lt hml,List.getElem?_drop,←hdm,hv] at hu1
   cases hu1
   exact hu2
 . intro u hu
   obtain ⟨k,hk⟩:=List.getElem?_of_mem hu
   have hkl:k< n*s:=by have:=(List.getElem?_eq_some_iff.1 hk).1;omega
   have hs:=hf.pos
   have hdm:k= (k / s)*s+k % s:=by rw[Nat.mul_comm];exact (Nat.div_add_mod k s).symm
   have hml:k % s< s:=Nat.mod_lt _ hs
   have hd:k / s< n:=Nat.div_lt_of_lt_mul (by rw[Nat.mul_comm];exact hkl)
   obtain ⟨b,hb⟩:∃b,l[k / s]? =some b:=⟨_,List.getElem?_eq_getElem (by omega)⟩
   refine (hlr _ b hb).2.2 u (List.mem_of_getElem? (i:=k % s) ?_)
   rw[List.getElem?_take_of_lt hml,List.getElem?_drop,←hdm,hk]
end
section
variable {H:Type} {enc:TypeId×Value→H} {P:Program} {W:World} {base b0:Nat} {sp:Nat→Bool} {held:Bool} {t:TypeId} {v:Value} {d:DataW H} {ps:List MemPlace}
theorem wS {α:Type}{f:α→List C}{g:α→C}{ok:α→Prop}(hg:∀a,f a= [g a])(hr:pS P t f ok)(hu:∀u,P.underlying t=some u→(match u with| .struct _| .array _ _=>False|_=>True))
 (hval:Value.okWide P W .any b0 t v) (hd:DataW.Trod enc P W base sp held t v d ps):∃a,ok a∧Rep (GW W) (g a) v:=by
 obtain ⟨fuel,hd⟩:=hd
 obtain ⟨a,h1,h2,_⟩:=hr hd
 rw[hg] at h2
 simp only[RepL] at h2
 obtain ⟨u,vs,h3,h4,rfl⟩:=h2
 refine ⟨a,h1,?_⟩
 cases v with
 |agg cs=>
  exfalso
  unfold Value.okWide at hval
  cases hq:P.underlying t with
  |none=>rw[hq] at hval;simp[Cell.okWide,Cell.ok,hq] at hval
  |some u=>
   have:=hu u hq
   rw[hq] at hval
   cases u<;>simp_all [Cell.okWide,Cell.ok]
 |_=>
  simp only[Value.cells,List.cons.injEq,and_true] at h3
  rw[h3];exact h4
end
def nw (P:Program):Bool:=(List.range P.types.size).all fun t=>match P.underlying t with
 |some (.slice e) =>decide (0< P.cellsOf e)
 |_=>true
theorem lM {H:Type}{enc:TypeId×Value→H}{P:Program}{W W':World}{sp:Nat→Bool}(hl:laidOutB P=true)(hm:mapsRowed P=true)(hs:nw P=true):
 ∀ (ts:List TypeId)(vs:List Value)(ds:List (DataW H))(ps:List MemPlace),(∀t∈ts,t< P.types.size)→DataW.TrodAll enc P W 0 (fun _=>true) true ts vs ds ps→
   (∀p∈ps,W.sameAt W' p)→(∀p∈ps,sp p.block=true)→DataW.TrodAll enc P W' 0 sp true ts vs ds ps
 | [],[],[],ps,_,h,_,_=>h
 |t::ts,v::vs,d::ds,ps,hb,h,h1,h2=>by
  obtain ⟨p,q,⟨fuel,h3⟩,h4,rfl⟩:=h
  refine ⟨p,q,⟨fuel,?_⟩,lM hl hm hs ts vs ds q (fun t ht=>hb t (List.mem_cons_of_mem _ ht)) h4 (fun p hp=>h1 p (List.mem_append_right _ hp)) (fun p hp=>h2 p (List.mem_append_right _ hp)),rfl⟩
  refine DataW.trod_stays (T:=(· < P.types.size)) (kids_rows hl hm) (fun {t e} ht he=>?_) (fun h=>by cases h) (hb t (List.mem_cons_self ..)) h3 (fun p hp=>h1 p (List.mem_append_left _ hp)) (fun p hp=>h2 p (List.mem_append_left _ hp))
  have:=List.all_eq_true.1 hs t (List.mem_range.2 ht)
  rw[he] at this
  simpa using this
 | [],[],_::_,_,_,h,_,_=>h.elim
 | [],_::_,_,_,_,h,_,_=>h.elim
 |_::_,[],_,_,_,h,_,_=>h.elim
 |_::_,_::_,[],_,_,h,_,_=>h.elim
theorem En {H:Type}{enc:TypeId×Value→H}{P:Program}{f:Func}{s:ChangeSpec}{fresh handsOn again:Bool}{W W':World}{args:Array Value}{ds gs:List (DataW H)}{before:List MemPlace}{t:TypeId}
 (hl:laidOutB P=true) (hm:mapsRowed P=true) (hsl:nw P=true) (hps:∀t∈f.params.toList,t< P.types.size)
 (hW:DataW.Whole enc P f.params.toList s.vars false W args.toList ds gs before) (hv:s.vars= [])
 (hs:s.fn H ds= { results:=[.lit (.bool true)],args:=ds }) (hr:f.resultTypes= #[t]) (ht:P.underlying t=some .bool)
 (hos:W'.os=W.os) (hout:W'.output=W.output) (hold:∀g< W.heap.size,W'.heap[g]? =W.heap[g]?):
 s.post enc P f false fresh handsOn again W args (.bool true) W':=by
 have hlt:=hW.lt
 have hW0:=hW
 obtain ⟨p,q,h1,h2,rfl,hz,hn⟩:=hW
 rw[hv] at h2
 obtain ⟨rfl,rfl⟩:=trodVars_none h2
 simp only[List.append_nil] at hW0 hlt hz hn
 have same:∀x∈p,W.sameAt W' x:=fun x hx=>by
  have hb:=hold _ (hlt x hx)
  cases x with
  |cell b o=>simp only[World.sameAt,MemPlace.block] at hb ⊢;simp only[World.cell?];rw[hb]
  |map b=>exact hb
 have args':∀sp:Nat→Bool,(∀x∈p,sp x.block=true)→DataW.TrodAll enc P W' 0 sp true f.params.toList args.toList ds p:=fun sp hsp=>
  lM hl hm hsl _ _ _ _ hps h1 same hsp
 have res:∀ (b:Nat)(sp:Nat→Bool)(hd:Bool),DataW.TrodAll enc P W' b sp hd f.resultTypes.toList ((Value.bool true).resultList f.resultTypes.size) [.lit (.bool true)] []:=fun b sp hd=>by
  rw[hr];exact trodAll_mk1 (shut_bool ht true)
 refine ⟨ds,[],p,[],p,[],hW0,?_,?_,?_,?_,fun _=>⟨?_,.lit (.bool true)::ds,[],p,⟨p,[],?_,?_,by simp,fun b off hp=>?_,fun h=>by cases h⟩,fun x hx _=>hx⟩⟩
 . rw[List.append_nil,hs];exact res _ _ _
 . rw[List.append_nil,hs];exact args' _ fun x hx=>by simpa using hlt x hx
 . rw[List.append_nil,hs,hv];rfl
 . refine ⟨hos,hout,fun i hi=>?_⟩
   rw[hold i hi]
   cases W.heap[i]? with
   |none=>rfl
   |some o=>cases o<;>simp
 . exact ok_one hr rfl (okWide_bool_mk ht true)
 . rw[hr]
   exact ⟨[],p,shut_bool ht true,args' (fun _=>true) fun _ _=>rfl,rfl⟩
 . rw[hv];rfl
 . have:=hz b off hp
   simp only[World.frozen?] at this ⊢
   rw[hold b (hlt _ hp)];exact this
theorem yV {K:Checked}{os:Os}(started:os.Started){H:Type}{enc:TypeId×Value→H}{a:Assume}{fi:Nat}{fn:Func}{s:ChangeSpec}{fresh handsOn again:Bool}{laid:List (String×DataW Unit)}{gl:Nat→C}{t:TypeId}
 (own:ownKnob K.prog.godebug=none) (noInit:K.prog.inits.idxOf? fi=none) (hfn:K.prog.funcs[fi]? =some fn)
 (hl:laidOutB K.prog=true) (hm:mapsRowed K.prog=true) (hsl:nw K.prog=true) (hps: (fn.params.toList.all fun t=>decide (t< K.prog.types.size)) =true)
 (hv:s.vars= []) (hs:∀ds:List (DataW H),ds.length=fn.params.size→s.fn H ds= { results:=[.lit (.bool true)],args:=ds }) (hr:fn.resultTypes= #[t]) (ht:K.prog.underlying t=some .bool)
 (witness:∃ (w:World)(tape:Tape)(i:Input),w.os=os∧(w.forCall tape i).Shaped K.prog∧i.vars= []∧Input.okWide K.prog (w.forCall tape i) .any w.heap.size fi i∧
   ((s.pre enc K.prog fn [] false (w.forCall tape i).memory i.args∧laidMetH K.prog laid (w.forCall tape i).memory)∧sizedMet enc K.prog fn (OpenSpec.ofChange s) false (w.forCall tape i).memory i.args)∧a.holds K.prog (lone (Frame.enter K.prog fi i.args .normal) [] (w.forCall tape i)))
 (hgl:∀W,laidMetH K.prog laid W→∀g,Rep (GW W) (gl g) (.pointer (some ⟨g,0,none⟩)))
 (hc:∀ (W:World)(b0:Nat)(args:Array Value)(ds:List (DataW H))(p:List MemPlace),(∀ (j:Nat) t v,fn.params.toList[j]? =some t→args.toList[j]? =some v→Value.okWide K.prog W .any b0 t v)→
   DataW.TrodAll enc K.prog W 0 (fun _=>true) true fn.params.toList args.toList ds p→∃az,RepL (GW W) az args.toList∧FC K.prog gl fi az [] (.val (.bool true)) []):
 ReturnsInHanded a K os fi .any (fun w args=>(s.pre enc K.prog fn [] false w args∧laidMetH K.prog laid w)∧sizedMet enc K.prog fn (OpenSpec.ofChange s) false w args) (s.post enc K.prog fn false fresh handsOn again):=by
 refine returnsInHanded_of_change_and (C:=K) (X:=fun w _=>laidMetH K.prog laid w) (fun _ _ _ hh h=>laidMetH.of_heap hh h) own started noInit hfn witness ?_
 intro W base args ds gs before hval hW _ _ hL _
 have hW':=hW
 obtain ⟨p,q,h1,h2,rfl,hz,hn⟩:=hW'
 rw[hv] at h2
 obtain ⟨rfl,rfl⟩:=trodVars_none h2
 obtain ⟨az,has,hfc⟩:=hc W base args ds p (fun j t v hj hv=>hval j t v (by simpa using hj) (by simpa using hv)) h1
 refine (hfc.2 (GW W) W args (Sy W) (fun g p h=>by cases h) (hgl W hL) has).mono ?_
 rintro e W' ⟨v,G',rfl,hrep,_,_,F⟩
 rw[aj] at hrep
 subst hrep
 have hlen:∀ (ts:List TypeId)(vs:List Value)(ds:List (DataW H))(ps:List MemPlace),DataW.TrodAll enc K.prog W 0 (fun _=>true) true ts vs ds ps→ds.length=ts.length:=by
  intro ts
  induction ts with
  |nil=>intro vs ds ps h;cases vs<;>cases ds<;>simp_all [DataW.TrodAll]
  |cons t ts ih=>
   intro vs ds ps h
   cases vs<;>cases ds<;>simp only[DataW.TrodAll] at h
   obtain ⟨p,q,_,h4,_⟩:=h
   simp[ih _ _ _ h4]
 have hold:∀g< W.heap.size,W'.heap[g]? =W.heap[g]? :=fun g hg=>(F.old g hg rfl (fun b h=>by cases h)).1
 refine ⟨_,rfl,En hl hm hsl (fun t ht=>?_) hW hv (hs ds (by rw[hlen _ _ _ _ h1];simp)) hr ht F.os F.output hold⟩
 have:=List.all_eq_true.1 hps t ht
 simpa using this
end Go.Sx
namespace Go.Sx
open Go.RowKit
theorem Eo (n:Nat):Value.int .i64 (n:Int) =nI n:=id rfl
theorem BK (x:Int)(h:0≤x):Value.int .i64 x=nI x.toNat:=by
 unfold nI;congr 1;omega
section
variable (P:Program) (t:TypeId)
theorem GO (x y:Int)(h: -9223372036854775808≤x+y∧x+y< 9223372036854775808):aq P .add t (.val (.int .i64 x)) (.val (.int .i64 y)) =some (vp (.val (.int .i64 (x+y)))):=by
 simp only[bI,bW,ne_eq,not_true_eq_false,if_false,Option.map_some]
 rw[dW _ (by omega) (by omega)]
theorem OW (x:Int)(y:Nat)(h: -9223372036854775808≤x+y∧x+y< 9223372036854775808):aq P .add t (.val (.int .i64 x)) (.val (nI y)) =some (vp (.val (.int .i64 (x+y)))):=GO P t x y h
theorem yW (x y:Int)(h: -9223372036854775808≤x - y∧x - y< 9223372036854775808):aq P .sub t (.val (.int .i64 x)) (.val (.int .i64 y)) =some (vp (.val (.int .i64 (x - y)))):=by
 simp only[bI,bW,ne_eq,not_true_eq_false,if_false,Option.map_some]
 rw[dW _ (by omega) (by omega)]
theorem OX (x:Int)(y:Nat)(h: -9223372036854775808≤x - y∧x - y< 9223372036854775808):aq P .sub t (.val (.int .i64 x)) (.val (nI y)) =some (vp (.val (.int .i64 (x - y)))):=yW P t x y h
theorem GP (x y:Int)(h: -9223372036854775808≤x*y∧x*y< 9223372036854775808):aq P .mul t (.val (.int .i64 x)) (.val (.int .i64 y)) =some (vp (.val (.int .i64 (x*y)))):=by
 simp only[bI,bW,ne_eq,not_true_eq_false,if_false,Option.map_some]
 rw[dW _ (by omega) (by omega)]
theorem OY (x:Nat)(y:Int)(h: -9223372036854775808≤x*y∧x*y< 9223372036854775808):aq P .mul t (.val (nI x)) (.val (.int .i64 y)) =some (vp (.val (.int .i64 (x*y)))):=GP P t x y h
theorem GQ (x y:Int)(h:y≠0):aq P .rem t (.val (.int .i64 x)) (.val (.int .i64 y)) =some (vp (.val (.int .i64 (x.tmod y)))):=by
 simp only[bI,bW,ne_eq,not_true_eq_false,if_false,Option.map_some,h]
theorem OZ (x:Int)(y:Nat)(h:0< y):aq P .rem t (.val (.int .i64 x)) (.val (nI y)) =some (vp (.val (.int .i64 (x.tmod y)))):=GQ P t x y (by omega)
theorem GR (x y:Int):aq P .eql t (.val (.int .i64 x)) (.val (.int .i64 y)) =some (vp (.val (.bool (decide (x=y))))):=by
 simp only[bI,bW,ne_eq,not_true_eq_false,if_false,Option.map_some]
 congr 4
theorem GS (x y:Int):aq P .lss t (.val (.int .i64 x)) (.val (.int .i64 y)) =some (vp (.val (.bool (decide (x< y))))):=by
 simp only[bI,bW,ne_eq,not_true_eq_false,if_false,Option.map_some]
theorem GT (x y:Int):aq P .gtr t (.val (.int .i64 x)) (.val (.int .i64 y)) =some (vp (.val (.bool (decide (y< x))))):=by
 simp only[bI,bW,ne_eq,not_true_eq_false,if_false,Option.map_some]
theorem GU (x y:Int):aq P .geq t (.val (.int .i64 x)) (.val (.int .i64 y)) =some (vp (.val (.bool (decide (y≤x))))):=by
 simp only[bI,bW,ne_eq,not_true_eq_false,if_false,Option.map_some]
theorem O0 (x:Int)(y:Nat):aq P .eql t (.val (.int .i64 x)) (.val (nI y)) =some (vp (.val (.bool (decide (x=y))))):=GR P t x y
theorem O2 (x:Int)(y:Nat):aq P .lss t (.val (.int .i64 x)) (.val (nI y)) =some (vp (.val (.bool (decide (x< y))))):=GS P t x y
theorem O3 (x:Int)(y:Nat):aq P .gtr t (.val (.int .i64 x)) (.val (nI y)) =some (vp (.val (.bool (decide ((y:Int) < x))))):=GT P t x y
theorem O4 (x:Int)(y:Nat):aq P .geq t (.val (.int .i64 x)) (.val (nI y)) =some (vp (.val (.bool (decide ((y:Int)≤x))))):=GU P t x y
theorem Sz (x y:Nat):aq P .gtr t (.val (nU x)) (.val (nU y)) =some (vp (.val (.bool (decide (y< x))))):=by
 simp only[nU,bI,bW,ne_eq,not_true_eq_false,if_false,Option.map_some]
 congr 4;rw[Bool.eq_iff_iff];simp
theorem O5 (x:Nat)(s:Int)(h:x< 18446744073709551616)(h2:0≤s):aq P .shr t (.val (nU x)) (.val (.int .i64 s)) =some (vp (.val (nU (x>>>s.toNat)))):=by
 rw[BK s h2];exact Ba P t x s.toNat h
theorem Jt (x:Nat)(h:x< 18446744073709551616):eU .xor (.val (nU x)) =some (vp (.val (nU (18446744073709551615 - x)))):=by
 show some (vp (.val (.int .u64 (IntKind.wrap .u64 ((BitVec.ofInt 64 18446744073709551615 ^^^ BitVec.ofInt 64 (x:Int)).toNat:Int))))) =_
 have e:BitVec.ofInt 64 18446744073709551615=BitVec.allOnes 64:=by decide
 rw[e,BitVec.ofInt_natCast,BitVec.allOnes_xor,BitVec.toNat_not,BitVec.toNat_ofNat,Nat.mod_eq_of_lt h,fZ,nU]
 simp only[Option.some.injEq,vp,Plan.val.injEq,C.val.injEq,Value.int.injEq,true_and,and_true]
 have e2:2 ^ 64 - 1 - x=18446744073709551615 - x:=by simp
 rw[e2];omega
theorem Ju (x:Int)(h: -9223372036854775808< x∧x≤9223372036854775808):eU .neg (.val (.int .i64 x)) =some (vp (.val (.int .i64 (-x)))):=by
 show some (vp (.val (.int .i64 (IntKind.wrap .i64 (0 - x))))) =_
 rw[dW _ (by omega) (by omega),Int.zero_sub]
end
theorem Jv (n:Nat)(x:Int)(h:0≤x∧x< n):dQ (.val (.int .i64 x)) n=some x.toNat:=by
 simp only[dQ,C.int?];rw[if_pos h]
theorem O6 (x y:Nat):dV false (.val (nI x)) (.val (nI y)) =some (vp (.val (nI (min x y)))):=by
 simp only[dV,nI,if_true,Bool.false_eq_true,if_false]
 by_cases h:y< x
 . rw[if_pos (by omega),Nat.min_eq_right (by omega)];rfl
 . rw[if_neg (by omega),Nat.min_eq_left (by omega)];rfl
theorem wT (x y:Int):dV true (.val (.int .i64 x)) (.val (.int .i64 y)) =some (vp (.val (.int .i64 (max x y)))):=by
 simp only[dV,if_true]
 by_cases h:x< y
 . rw[if_pos h,Int.max_eq_right (by omega)];rfl
 . rw[if_neg h,Int.max_eq_left (by omega)];rfl
theorem Ep (x:Int)(y:Nat):dV true (.val (.int .i64 x)) (.val (nI y)) =some (vp (.val (.int .i64 (max x y)))):=wT x y
theorem gx (P:Program)(t:TypeId)(x y:Nat)(h:x< 9223372036854775808∧y≤9223372036854775808):aq P .sub t (.val (nI x)) (.val (nI y)) =some (vp (.val (.int .i64 ((x:Int) - y)))):=yW P t x y (by omega)
theorem aO {x y:Int}(h:x=y):CLe (.val (.int .i64 x)) (.val (.int .i64 y)):=h▸CLe.refl _
theorem bd {x:Int}{y:Nat}(h:x=y):CLe (.val (.int .i64 x)) (.val (nI y)):=h▸CLe.refl _
theorem bA {x:Nat}{y:Int}(h: (x:Int) =y):CLe (.val (nI x)) (.val (.int .i64 y)):=h▸CLe.refl _
theorem bN {x y:Nat}(h:x=y):CLe (.val (nI x)) (.val (nI y)):=h▸CLe.refl _
theorem du {α:Type}{f:α→List C}{r:Rt}{l l':List α}(h:l=l'):CLe (sl f r l) (sl f r l'):=h▸CLe.refl _
theorem gR {α:Type}{f:α→List C}{r:Rt}{l l':List α}(h:l=l'):CLe (sl f .full l) (sl f r l'):=h▸CLe.full _ _ _
theorem aW {α:Type}{f:α→List C}{r:Rt}{l:List α}(h:l= []):CLe (.val (.slice none 0 0)) (sl f r l):=by subst h;exact CLe.nil _
end Go.Sx
namespace Go.Sx
open Go.RowKit
mutual
theorem pT (k:Nat):∀c:C,ah 0 c=true→ah k c=true
 | .top,_=>rfl
 | .val _,_=>rfl
 | .sl _ _ xs,h=>by simp only[ah] at h ⊢;exact noRefs_zero k xs h
 | .sv b _ _,h=>by simp[ah] at h
 | .bp b _,h=>by simp[ah] at h
 | .kp xs,h=>by simp only[ah] at h ⊢;exact noRefs_zero k xs h
 | .agg xs,h=>by simp only[ah] at h ⊢;exact noRefs_zero k xs h
 | .tup xs,h=>by simp only[ah] at h ⊢;exact noRefs_zero k xs h
 | .fn _ xs,h=>by simp only[ah] at h ⊢;exact noRefs_zero k xs h
theorem noRefs_zero (k:Nat):∀l:List C,noRefs 0 l=true→noRefs k l=true
 | [],_=>rfl
 |c::l,h=>by
  simp only[noRefs,Bool.and_eq_true] at h ⊢
  exact ⟨pT k c h.1,noRefs_zero k l h.2⟩
end
def kE (k:Nat):List (Nat×C)→Bool
 | [] =>true
 |x::e=>ah k x.2 && kE k e
theorem yX (k:Nat):kE k [] =true:=rfl
theorem oa (k t:Nat)(c:C)(e:List (Nat×C)):kE k ((t,c)::e) = (ah k c && kE k e):=rfl
theorem si (k:Nat):∀e:List (Nat×C),kE k e=true→∀t,ah k (A e t) =true
 | [],_,t=>rfl
 | (u,c)::e,h,t=>by
   rw[oa,Bool.and_eq_true] at h
   rw[bG]
   split
   . exact h.1
   . exact si k e h.2 t
def gy (k:Nat):Hp→Bool
 | [] =>true
 |none::h=>gy k h
 |some cs::h=>noRefs k cs && gy k h
theorem yY (k:Nat):gy k [] =true:=rfl
theorem vO (k:Nat)(h:Hp):gy k (none::h) =gy k h:=rfl
theorem j1 (k:Nat)(cs:List C)(h:Hp):gy k (some cs::h) = (noRefs k cs && gy k h):=rfl
theorem sj (k:Nat):∀ (h:Hp)(b:Nat)(cells:List C),gy k h=true→h[b]? =some (some cells)→noRefs k cells=true
 | [],b,cells,_,hb=>by simp at hb
 |none::h,0,cells,_,hb=>by simp at hb
 |some cs::h,0,cells,hk,hb=>by
  rw[j1,Bool.and_eq_true] at hk
  simp only[List.getElem?_cons_zero,Option.some.injEq] at hb
  subst hb;exact hk.1
 |x::h,b+1,cells,hk,hb=>by
  rw[List.getElem?_cons_succ] at hb
  refine sj k h b cells ?_ hb
  cases x with
  |none=>exact hk
  |some cs=>rw[j1,Bool.and_eq_true] at hk;exact hk.2
theorem Jw {cx:Cx}{n:Nat}{Q:Ex→St→Prop}{e:List (Nat×C)}{h:Hp}{c:Code}(hcx:CxOK cx)(k:Nat)(hk:n≤k)(he:kE k e=true)(hb:gy k (h.take k) =true)
 (H:Tr cx n c ⟨A e,h.take k⟩ Q):Tr cx n c ⟨A e,h⟩ Q:=
 Tr.cut k hk (si k e he) (fun g=>pT k _ (hcx.glo g)) (fun b cells hbk hc=>sj k _ b cells hb (by rw[List.getElem?_take,if_pos hbk];exact hc)) H
theorem aF (k f:Nat)(xs:List C):ah k (.fn f xs) =noRefs k xs:=rfl
end Go.Sx
namespace Go.Sx
open Go.RowKit
theorem sk (d:TD)(h:d.isAgg=false)(cells:List C)(o:Nat):ct d cells o=dA cells o:=by
 unfold ct dA;rw[h];rfl
section
variable (P:Program)
theorem BL {α:Type}[Inhabited α][DecidableEq α]{f:α→List C}{g:α→C}[hf:Sca f g](F:C→C→Option Bool)(de:TD)(hd:de.isAgg=false)(hs:de.size=1)(hF:∀a b,F (g a) (g b) =some (decide (a=b)))
 (x y:List α) (n:Nat) (hx:x.length=n) (hy:y.length=n):∀m i,i+m=n→mf F de (cl f x) (cl f y) (List.range' i m) =some (decide (x.drop i=y.drop i))
 |0,i,h=>by
  rw[List.drop_of_length_le (by omega),List.drop_of_length_le (by omega)];simp[mf]
 |m+1,i,h=>by
  have hxi:i< x.length:=by omega
  have hyi:i< y.length:=by omega
  rw[List.range'_succ]
  unfold mf
  rw[sk _ hd,sk _ hd,hs,Nat.mul_one,pN (f:=f) x i hxi,pN (f:=f) y i hyi]
  simp only[]
  rw[hF]
  have e1:x.drop i=x.getD i default::x.drop (i+1):=by rw[List.drop_eq_getElem_cons hxi];simp[List.getD,List.getElem?_eq_getElem hxi]
  have e2:y.drop i=y.getD i default::y.drop (i+1):=by rw[List.drop_eq_getElem_cons hyi];simp[List.getD,List.getElem?_eq_getElem hyi]
  rw[e1,e2]
  by_cases hab:x.getD i default=y.getD i default
  . rw[decide_eq_true hab]
    simp only[]
    rw[BL F de hd hs hF x y n hx hy m (i+1) (by omega),hab]
    simp
  . rw[decide_eq_false hab]
    simp only[]
    rw[decide_eq_false]
    intro hc
    exact hab (List.cons.inj hc).1
def lN (op:BinOp)(b:Bool):Option Plan:=match op with
 | .eql=>some (vp (.val (.bool b)))
 | .neq=>some (vp (.val (.bool (!b))))
 |_=>none
theorem Jx (b:Bool):lN .eql b=some (vp (.val (.bool b))):=rfl
theorem Jy (b:Bool):lN .neq b=some (vp (.val (.bool (!b)))):=rfl
theorem vP {t:TypeId}{x y:List C}{b:Bool}(op:BinOp)(hg:P.eqGuardType P.depth t=false)(h:gb P 9 t (.agg x) (.agg y) =some b):aq P op t (.agg x) (.agg y) =lN op b:=by
 show eT P op t (.agg x) (.agg y) =_
 unfold eT
 rw[if_pos ⟨.inl ⟨rfl,rfl⟩,hg⟩]
 unfold lN
 cases op<;>simp[h,vp,Plan.pure]
theorem Jz {t:TypeId}{k:IntKind}{s y:Nat}{z:List Value}(d:Nat)(h:td P t=some ⟨.int k,s,y,z⟩)(a b:Int):gb P (d+1) t (.val (.int k a)) (.val (.int k b)) =some (decide (a=b)):=by
 unfold gb;rw[h];simp only[if_true];congr 1
theorem O7 {t:TypeId}{s y:Nat}{z:List Value}(d:Nat)(h:td P t=some ⟨.int .u8,s,y,z⟩)(a b:UInt8):gb P (d+1) t (.val (w8 a)) (.val (w8 b)) =some (decide (a=b)):=by
 have:=Jz P d h a.toNat b.toNat
 rw[w8,w8,this];congr 1;rw[decide_eq_decide]
 exact ⟨fun h=>UInt8.toNat_inj.1 (by omega),fun h=>by rw[h]⟩
theorem Eq {t e:TypeId}{n s y y2:Nat}{z z2:List Value}(d:Nat)(h:td P t=some ⟨.array n e,s,y,z⟩)(he:td P e=some ⟨.int .u8,1,y2,z2⟩)(a b:List UInt8)(ha:a.length=n)(hb:b.length=n):
 gb P (d+2) t (.agg (cl bC a)) (.agg (cl bC b)) =some (decide (a=b)):=by
 unfold gb;rw[h];simp only[];rw[he]
 simp only[C.agg?]
 have:=BL (f:=bC) (gb P (d+1) e) ⟨.int .u8,1,y2,z2⟩ rfl rfl (fun a b=>O7 P d he a b) a b n ha hb n 0 (by omega)
 simpa using this
theorem JA {t e:TypeId}{n s y y2:Nat}{z z2:List Value}(h:td P t=some ⟨.array n e,s,y,z⟩)(he:td P e=some ⟨.int .u8,1,y2,z2⟩)(hg:P.eqGuardType P.depth t=false)(op:BinOp)(a b:List UInt8)(ha:a.length=n)(hb:b.length=n):
 aq P op t (.agg (cl bC a)) (.agg (cl bC b)) =lN op (decide (a=b)):=vP P op hg (Eq P 7 h he a b ha hb)
end
@[congr] theorem To {cx:Cx} {apps:List Nat} {dsts:List (Option Nat)} {l:List Oper} {id:Nat} {d:Option Nat} {e:List (Nat×C)} {h:Hp} {fs:List FP} {K:List FP→St→Prop} {ty:TypeId} {pos:String} {aft:Array Edge} {op:Op} {p p':Option Bool} (hp:p=p'):
   AW cx apps dsts l id d e h fs K ty pos aft op p=AW cx apps dsts l id d e h fs K ty pos aft op p':=by rw[hp]
def u9 (c:C)(w:Bool):Option Bool:=match c with
 | .val (.bool b) =>some (b==w)
 | .val (.tuple _) =>some false
 |_=>none
def O8 (d:Option (Option Nat))(w:Bool)(e:List (Nat×C)):Option Bool:=match d.bind id with
 |none=>some false
 |some t=>u9 (A e t).noR w
theorem Er (dsts:List (Option Nat))(j:Nat)(w:Bool)(e:List (Nat×C)):e7 dsts (some (j,w)) (A e) =O8 (dsts[j]?) w e:=rfl
theorem BM (t:Nat)(w:Bool)(e:List (Nat×C)):O8 (some (some t)) w e=u9 (A e t).noR w:=rfl
theorem O9 (b:Bool):u9 (.val (.bool b)) true=some b:=by cases b<;>rfl
theorem Pa (b:Bool):u9 (.val (.bool b)) false=some (!b):=by cases b<;>rfl
theorem Pb (w:Bool):u9 (.val undef) w=some false:=rfl
end Go.Sx
namespace Go.Sx
open Go.RowKit
section
variable {cx:Cx} {G:Gh} {w:World} {st:St} {a:Act}
structure Lit (cx:Cx) (ops ops':Array Oper) (k:Nat):Prop where
 dst:ops'.toList.map (·.dst) =ops.toList.map (·.dst)
 app:ops'.toList.filterMap dg=ops.toList.filterMap dg
 dh:∀i,dh ops' i=dh ops i
 same:∀i,i≠k+1→ops'[i]? =ops[i]?
 two:∃p q t n ps ty1 pos1 aft1 ty2 pos2 aft2 e s y z y2 z2,ops[k]? =some ⟨some p,.buildSlice t n ps,ty1,pos1,aft1,none⟩∧ops[k+1]? =some ⟨some q,.convert t t (.tmp p),ty2,pos2,aft2,none⟩∧
  ops'[k+1]? =some ⟨some q,.move (.tmp p),ty2,pos2,aft2,none⟩∧td cx.P t=some ⟨.slice e,s,y,z⟩∧td cx.P e=some ⟨.int .u8,1,y2,z2⟩∧cx.gr p=false
end
end Go.Sx
namespace Go.Sx
open Go.RowKit
class Inj {α:Type} (f:α→List C):Prop where
 inj:∀a b,f a=f b→a=b
instance:Inj bC:=⟨fun a b h=>by simpa[bC,a8] using h⟩
instance:Inj wC:=⟨fun a b h=>by simpa[wC,aR] using h⟩
instance:Inj sC:=⟨fun a b h=>by simpa[sC,aQ] using h⟩
instance:Inj nC:=⟨fun a b h=>by simpa[nC,aT] using h⟩
instance:Inj iC:=⟨fun a b h=>by simpa[iC] using h⟩
instance:Inj oC:=⟨fun a b h=>by simpa[oC] using h⟩
theorem a0 {α:Type}{f:α→List C}{s:Nat}[hf:Cel f s][hi:Inj f]:∀ {l l':List α},cl f l=cl f l'↔l=l':=by
 intro l l'
 constructor
 . induction l generalizing l' with
   |nil=>
    intro h
    cases l' with
    |nil=>rfl
    |cons a l'=>
     have:=congrArg List.length h
     rw[kz,dx,List.length_append,hf.len] at this
     have:=hf.pos
     simp at*
     omega
   |cons a l ih=>
    intro h
    cases l' with
    |nil=>
     have:=congrArg List.length h
     rw[kz,dx,List.length_append,hf.len] at this
     have:=hf.pos
     simp at*
     omega
    |cons b l'=>
     rw[dx,dx] at h
     obtain ⟨h1,h2⟩:=List.append_inj h (by rw[hf.len,hf.len])
     rw[hi.inj _ _ h1,ih h2]
 . rintro rfl;rfl
theorem aU {α:Type}{f:α→List C}{s:Nat}[hf:Cel f s][hi:Inj f]{r:Rt}{l l':List α}:sl f r l=sl f r l'↔l=l':=by
 constructor
 . intro h
   simp only[sl,C.sl.injEq,true_and] at h
   exact a0.1 h.2
 . rintro rfl;rfl
theorem wU {α:Type}{f:α→List C}{s:Nat}[hf:Cel f s][hi:Inj f]{l l':List α}{r r':List C}(hl:l.length=l'.length):cl f l++r=cl f l'++r'↔l=l'∧r=r':=by
 constructor
 . intro h
   obtain ⟨h1,h2⟩:=List.append_inj h (by rw[bj (f:=f),bj (f:=f),hl])
   exact ⟨a0.1 h1,h2⟩
 . rintro ⟨rfl,rfl⟩;rfl
end Go.Sx
namespace Go.Sx
open Go.RowKit
attribute [go_sem ↓] bG H8 CV
attribute [go_sem] NY Eb yO yP DI Br Bs yQ yR Bt DJ DK I7 DL DM I8 DN DO DP Bu I9 OO sf Ja am aw ax ay ar au af ag an DG DH eM se Bool.and_self Bool.and_true NP CP AJ HZ H3 AK CQ yx not_true_eq_false not_false_eq_true H4 CR NQ NS NT H5 H6 NU H7 Ds yH Bi Ib If Ig Ih C5 A3 Ii run_build yD C6 run_store C7 Ij NZ C8 Ik Il Im A4 N0 In N1 C9 Io Ip Da Iq Ir Db Ic Id AX AY AZ yz A0 yA rf rh A1 AT CW CX NV NW NX Ia CY CZ AU AV C0 C1 C2 H9 CM CN Dh Iz IA IB N2 GE HX CO Bool.or_false Bool.false_or Bool.true_or Bool.or_true beq_self_eq_true r8 r9 List.map_nil List.map_cons Option.map_none Option.map_some Option.bind_some Option.bind_none wJ RY R0 R1 VD R2 N5 N6 N7 N8 R3 R4 R5 R6 R7 R8 R9 Sa Sb Sc Sd Se Sf Sg Sh Si Sj I5 Ba I6 OM N4 Sl Sm GJ Eo ne_eq Er BM O9 Pa Pb Jx Jy eq_self decide_true decide_false Bool.not_true Bool.not_false GO OW yW OX GP OY GQ OZ GR GS GT GU O0 O2 O3 O4 Sz O5 Jt Ju Jv O6 wT Ep ID Di IE IF Dj Dk N9 Oa I4 Sn Ob So Od Sp Og IG IH Dl II Oi IJ IK yE IL IM IN Oj IP yF Bc Bd Dm uV IQ Dn Be Do Dp Dq Bf Bg yG Bh fT OH Bn Jo Ea yS vN yT yU OR Jn OS OT wL Bw Bx By wM u4 sg u7 BD Jp Ec Ed Eh BE BF BG Su wK u2 Ok uW lp Ol Dr Om Je DS Jd oD Ou IS Dv Oo IR Oq Nat.mul_one Nat.zero_add Nat.add_zero Dw Dx Oy Dy IT Dz Oz Jb DR Ss Jc OC OD OE IU u0 IW DA IZ IX IY C3 oz tE ic List.append_nil Bj Dt yJ AL CS CT AM CU yI uX Oh DZ D0 Ek Jm List.map_append DW u5 Ji Bz El Em DX OQ DY Sv Sw Jj Jk BB wO Nat.sub_zero Nat.zero_mul List.drop_zero List.drop_succ_cons List.take_succ_cons List.take_zero Dc Df sb A8 lj pN Iu Jq Ei Iv Sq Sr Jr Ej wE Dg Ix List.set_cons_zero List.set_cons_succ List.getElem?_cons_zero List.getElem?_cons_succ List.length_nil List.length_cons List.nil_append List.cons_append Nat.add_sub_cancel_left List.length_set List.length_replicate Bp
end Go.Sx
namespace Go.Sx
open Go.RowKit Go.ChangeShapes
theorem BN {H:Type}{enc:TypeId×Value→H}{P:Program}{W:World}{base:Nat}{sp:Nat→Bool}{held:Bool}{fuel:Nat}{t e:TypeId}{n:Nat}{k:IntKind}{cs:List Value}{p:List MemPlace}{ns:List Int}
 (ht:P.underlying t=some (.array n e)) (he:P.underlying e=some (.int k)) (hc:P.cellsOf e=1) (hn:P.cellsOf t=n)
 (h:DataW.trod enc P W base sp held fuel t cs=some (.agg (ns.map fun m=> .lit (.int k m)),p)):cs=ns.map (.int k ·):=by
 obtain ⟨xs,m,_,hx,hlen,hxl,hel⟩:=DataW.trod_array ht h
 simp only[Prod.mk.injEq,DataW.agg.injEq] at hx
 have hnl:ns.length=n:=by
  have:=congrArg List.length hx.1
  simp only[List.length_map] at this;omega
 have each:∀i< n,∃z,cs[i]? =some (.int k z)∧ns[i]? =some z:=fun i hi=>by
  have h1:=hel i hi
  rw[List.getElem?_eq_getElem (by omega),hc,Nat.mul_one] at h1
  obtain ⟨z,h2,h3,_⟩:=DataW.trod_int he h1
  refine ⟨z,?_,?_⟩
  . have h4:=congrArg (fun l=>l[0]?) h2
    simpa[List.getElem?_take,List.getElem?_drop] using h4
  . have h5:=congrArg (fun l=>l[i]?) hx.1
    simp only[List.getElem?_map] at h5
    rw[List.getElem?_eq_getElem (l:=xs) (by omega),h3] at h5
    simp only[Option.map_some] at h5
    cases hq:ns[i]? with
    |none=>rw[hq] at h5;cases h5
    |some z'=>rw[hq] at h5;simp only[Option.map_some,Option.some.injEq,DataW.lit.injEq,Lit.int.injEq,true_and] at h5;rw[h5]
 apply List.ext_getElem?
 intro i
 by_cases hi:i< n
 . obtain ⟨z,h1,h2⟩:=each i hi
   rw[h1,List.getElem?_map,h2];rfl
 . rw[List.getElem?_eq_none (by omega),List.getElem?_eq_none (by simp;omega)]
theorem pU {P:Program}{W:World}{n:String}{g t e m fuel:Nat}{enc:TypeId×Value→Unit}{sp:Nat→Bool}{held:Bool}{cs:Array Value}{p:List MemPlace}{ws:List (BitVec 32)}
 (hg:P.globalNamed n=some g) (hv:W.var? P n=some cs) (ht:P.underlying t=some (.array m e)) (he:P.underlying e=some (.int .u32)) (hc:P.cellsOf e=1) (hn:P.cellsOf t=m)
 (h:DataW.trod enc P W 0 sp held fuel t cs.toList=some (.agg ((ws.map fun w=>(w.toNat:Int)).map fun m=> .lit (.int .u32 m)),p)):Rep (GW W) (.kp (cl wC ws)) (.pointer (some ⟨g,0,none⟩)):=by
 have hcs:=BN ht he hc hn h
 simp only[Rep]
 refine ⟨g,0,rfl,RepK.of_get fun i x hx=>?_⟩
 have hi:i< ws.length:=by
  have:=(List.getElem?_eq_some_iff.1 hx).1
  rw[bj (f:=wC)] at this;omega
 rw[A6 (f:=wC) ws i hi] at hx
 simp only[Option.some.injEq] at hx
 subst hx
 refine ⟨bf (ws.getD i default),?_,rfl,aj.2 rfl⟩
 show W.cell? ⟨g,0+i,none⟩ =_
 rw[World.var?_cell hg hv,Nat.zero_add,←Array.getElem?_toList,hcs]
 simp[List.getElem?_map,List.getD,List.getElem?_eq_getElem hi,bf]
theorem lq {H:Type}{enc:TypeId×Value→H}{P:Program}{W:World}{b:Nat}{sp:Nat→Bool}{hd:Bool}{t:TypeId}{ts:List TypeId}{vs:List Value}{ds:List (DataW H)}{ps:List MemPlace}
 (h:DataW.TrodAll enc P W b sp hd (t::ts) vs ds ps):∃v vs' d ds' p q,vs=v::vs'∧ds=d::ds'∧DataW.Trod enc P W b sp hd t v d p∧DataW.TrodAll enc P W b sp hd ts vs' ds' q:=by
 cases vs<;>cases ds<;>simp only[DataW.TrodAll] at h
 obtain ⟨p,q,h1,h2,_⟩:=h
 exact ⟨_,_,_,_,p,q,rfl,rfl,h1,h2⟩
theorem BO {H:Type}{enc:TypeId×Value→H}{P:Program}{W:World}{b:Nat}{sp:Nat→Bool}{hd:Bool}{vs:List Value}{ds:List (DataW H)}{ps:List MemPlace}
 (h:DataW.TrodAll enc P W b sp hd [] vs ds ps):vs= []:=by
 cases vs<;>cases ds<;>simp only[DataW.TrodAll] at h<;>rfl
def AR (P:Program)(t:TypeId){α:Type}(g:α→C)(ok:α→Prop):Prop:=
 ∀ {H:Type}{enc:TypeId×Value→H}{W:World}{base b0:Nat}{sp:Nat→Bool}{held:Bool}{v:Value}{d:DataW H}{ps:List MemPlace},
   Value.okWide P W .any b0 t v→DataW.Trod enc P W base sp held t v d ps→∃a,ok a∧Rep (GW W) (g a) v
section
variable {P:Program} {t e:TypeId}
theorem Pc {s y:Nat}{z:List Value}(h:td P t=some ⟨.int .i64,s,y,z⟩):AR P t (fun n:Int=> .val (.int .i64 n)) fun n=> -9223372036854775808≤n∧n≤9223372036854775807:=
 fun h1 h2=>wS (f:=iC) (fun _=>rfl) (wR (aL h).1) (fun u hu=>by rw[(aL h).1] at hu;cases hu;trivial) h1 h2
theorem vd {α:Type}{f:α→List C}{ok:α→Prop}{s0 s y:Nat}[hf:Cel f s0]{z:List Value}(h:td P t=some ⟨.slice e,s,y,z⟩)(hc:P.cellsOf e=s0)(he:pS P e f ok):AR P t (fun l:List α=>sl f .no l) fun l=>l.length≤9223372036854775807∧∀a∈l,ok a:=
 fun h1 h2=>wS (f:=fun l=>[sl f .no l]) (fun _=>rfl) (BI (aL h).1 hc he) (fun u hu=>by rw[(aL h).1] at hu;cases hu;trivial) h1 h2
end
end Go.Sx
namespace Go.Sx
attribute [go_sem] wL Bw Bx By wM u4 sg Jf Jg DT DU Jh DV bj wJ I1 DC DD I2 DE DF Bq I3 yM bJ bc aY bu aZ bv bz pL iE aF true_and and_true
end Go.Sx
namespace Go.Sx
open Go.RowKit
abbrev bL:= {l:List UInt8 // l.length=16}
instance:Inhabited bL:=⟨⟨List.replicate 16 0,by simp⟩⟩
def dC (d:bL):List C:=cl bC d.1
instance:Cel dC 16:=⟨fun a=>by unfold dC;rw[bj (f:=bC),a.2],fun a=>by unfold dC;exact fT a.1,by decide,fun a r=>by
 unfold dC
 obtain ⟨l,hl⟩:=a
 cases l with
 |nil=>simp at hl
 |cons b l=>rfl⟩
instance:Fla dC:=⟨fun a=>by unfold dC;exact eM bC a.1⟩
instance:Inj dC:=⟨fun a b h=>Subtype.ext (a0.1 h)⟩
theorem SA (d:bL):dC d=cl bC d.1:=rfl
theorem sn {α:Type}[Inhabited α]{f:α→List C}{s:Nat}[hf:Cel f s](l:List α)(k:Nat)(h:k< l.length):ig ((cl f l).drop (k*s)) 0 s=some (.agg (f (gt l k))):=by
 rw[←Bp,←Iw (f:=f) l k h]
 unfold ig
 simp only[List.length_drop,List.drop_drop,Nat.add_zero,Nat.zero_add]
 have h1:=bj (f:=f) l
 have h2:k*s+s≤l.length*s:=by rw[←Nat.succ_mul];exact Nat.mul_le_mul_right _ h
 rw[if_pos (by omega),if_pos (by omega)]
theorem JB (u:TypeDesc)(y:Nat)(z:List Value)(l:List UInt8)(h:l.length=16)(hz:z.length=16)(h1:z.all (·.oneCell') =true):jy (some ⟨u,16,y,z⟩) 1 [(0,.agg (cl bC l))] =some (vp (sl dC .full [⟨l,h⟩])):=by
 unfold jy
 simp only[hz,h1]
 rw[if_pos ⟨by decide,by decide,trivial,trivial⟩]
 have hl:=bj (f:=bC) l
 have hr: (bO z 1).length=16:=by simp[bO,hz]
 have hc:C.cells? (.agg (cl bC l)) =some (cl bC l):=by
  show some ((cl bC l).map C.noR) =_
  rw[fT]
 unfold ed
 simp only[hc]
 rw[if_pos ⟨by omega,by omega⟩]
 unfold ed
 simp only[Option.map_some,splice,Nat.zero_mul,List.take_zero,List.nil_append,Nat.zero_add]
 rw[List.drop_of_length_le (by omega),List.append_nil]
 congr 2
 simp[sl,dx,kz,dC]
def Es (a b:Option C):Option C:=match a,b with
 |some a,some b=>some (.tup [a.noR,b.noR])
 |_,_=>none
def Et (a b c:Option C):Option C:=match a,b,c with
 |some a,some b,some c=>some (.tup [a.noR,b.noR,c.noR])
 |_,_,_=>none
theorem Pd (cx:Cx)(st:St)(r1 r2:ResultVar):gP cx st [r1,r2] =Es (dI cx st r1) (dI cx st r2):=by
 unfold gP Es
 simp only[List.mapM_cons,List.mapM_nil,Option.bind_eq_bind,Option.pure_def]
 cases dI cx st r1<;>cases dI cx st r2<;>rfl
theorem Pe (cx:Cx)(st:St)(r1 r2 r3:ResultVar):gP cx st [r1,r2,r3] =Et (dI cx st r1) (dI cx st r2) (dI cx st r3):=by
 unfold gP Et
 simp only[List.mapM_cons,List.mapM_nil,Option.bind_eq_bind,Option.pure_def]
 cases dI cx st r1<;>cases dI cx st r2<;>cases dI cx st r3<;>rfl
theorem BP (a b:C):Es (some a) (some b) =some (.tup [a.noR,b.noR]):=rfl
theorem BQ (a b c:C):Et (some a) (some b) (some c) =some (.tup [a.noR,b.noR,c.noR]):=rfl
attribute [go_sem] Pd Pe BP BQ
attribute [go_sem] SA sn JB
end Go.Sx
namespace Go.Sx
open Go.RowKit
attribute [go_sem] List.map_cons List.map_nil List.set_cons_zero
end Go.Sx
namespace Go.Sx
open Go.RowKit
theorem Eu (cx:Cx)(g:Nat)(az:List C)(b:Nat)(r:C×Hp):pQ cx g az (some b) (some r) =some (.call g az):=rfl
theorem y0 (cx:Cx)(g:Nat)(az:List C)(o:Option (C×Hp)):pQ cx g az none o=some (.call g az):=rfl
theorem Ew {α:Type}(f:α→List C)(r:Rt)(l:List α): (sl f r l).cells?=some [(sl f r l).noR]:=rfl
attribute [go_sem] Ew Eu y0
end Go.Sx
namespace Go.Sx
open Go.RowKit
def lC {α:Type}(f:α→List C)(l:List α):List C:=[sl f .no l]
instance {α:Type} (f:α→List C):Sca (lC f) (sl f .no):=⟨fun _=>rfl,fun _=>rfl,fun _=>rfl,fun _ _=>rfl⟩
def mi {α:Type}(f:α→List C)(k n:Nat)(acc:List (List α))(parts:List (Nat×C)):Option Plan:=
 eh n (cl (lC f) acc++List.replicate (n - k) (.val (.slice none 0 0))) parts
theorem BR {α:Type}(f:α→List C)(k n:Nat)(acc:List (List α))(c:C)(l:List α)(parts:List (Nat×C))(hc:c.cells?=some [sl f .no l])(h:acc.length=k∧k< n):mi f k n acc ((k,c)::parts) =mi f (k+1) n (acc++[l]) parts:=by
 obtain ⟨h,h2⟩:=h
 have hl: (cl (lC f) acc).length=k:=by rw[bj (f:=lC f),h,Nat.mul_one]
 have e:n - k= (n - (k+1))+1:=by omega
 show (match c.cells? with
  |some cs=>if cs.length=1∧k+1≤(cl (lC f) acc++List.replicate (n - k) (C.val (.slice none 0 0))).length then eh n (splice (cl (lC f) acc++List.replicate (n - k) (C.val (.slice none 0 0))) k cs) parts else none
  |none=>none) =_
 rw[hc]
 simp only[]
 rw[if_pos ⟨rfl,by rw[List.length_append,hl,List.length_replicate];omega⟩]
 unfold mi
 congr 1
 rw[kA,e,List.replicate_succ]
 unfold splice
 rw[List.take_append_of_le_length (by omega),List.take_of_length_le (by omega),List.append_assoc,List.append_assoc,List.length_singleton]
 congr 1
 rw[List.drop_append,List.drop_of_length_le (by omega),hl,show k+1 - k=1 by omega]
 rfl
theorem JC {α:Type}(f:α→List C)(k n:Nat)(acc:List (List α))(l:List α)(parts:List (Nat×C))(h:acc.length=k∧k< n):mi f k n acc ((k,sl f .no l)::parts) =mi f (k+1) n (acc++[l]) parts:=
 BR f k n acc _ l parts rfl h
theorem Pf {α:Type}(f:α→List C)(u:TypeDesc)(y n:Nat)(l:List α)(parts:List (Nat×C))(hn:n≤65536):jy (some ⟨u,1,y,[.slice none 0 0]⟩) n ((0,sl f .no l)::parts) =mi f 0 n [] ((0,sl f .no l)::parts):=by
 rw[rp _ _ _ _ _ rfl hn];rfl
attribute [go_sem] JC Pf List.nil_append List.cons_append
end Go.Sx
