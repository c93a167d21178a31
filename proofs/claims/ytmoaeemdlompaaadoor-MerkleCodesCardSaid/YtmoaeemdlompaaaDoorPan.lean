/-
   And what follows.
-/
import Derived.Test.YtmoaeemdlompaaaDoorPam
import Derived.Test.YtmoaeemdlompaaaDoorPak
import Derived.Test.YtmoaeemdlompaaaDoorPal
set_option linter.unusedSimpArgs false
set_option linter.unusedVariables false
namespace Go.Sx
theorem xp (b:List UInt8):ag b= (0,0,2)∨ag b= (0,0,3)∨((ag b).2.2=0∧1≤(ag b).2.1∧(ag b).2.1≤9∧(ag b).2.1≤b.length∧ -9223372036854775808≤(ag b).1∧(ag b).1≤9223372036854775807):=by
 rcases b with _| ⟨x,r⟩
 . exact .inr (.inl rfl)
 . obtain ⟨k,hk⟩:∃k,iA x=k:=⟨_,rfl⟩
   by_cases h1:8< k
   . exact .inl (uU hk h1)
   by_cases h2: (x::r).length≤k
   . exact .inr (.inl (qb hk h1 h2))
   by_cases h3:0< k∧gt (x::r) 1 ^^^ ao x=0
   . exact .inl (oc hk h1 h2 h3.1 h3.2)
   by_cases h4:9223372036854775808≤bH (ao x) (r.take k)
   . exact .inl (uV hk h1 h2 h3 h4)
   . right;right
     by_cases h5:x< 128
     . rw[qc hk h1 h2 h3 h4 h5];exact ⟨rfl,Nat.le_add_left 1 k,by show k+1≤9;omega,by show k+1≤(x::r).length;omega,by show _≤(-1 - (bH (ao x) (r.take k):Int));omega,by show (-1 - (bH (ao x) (r.take k):Int))≤_;omega⟩
     . rw[qd hk h1 h2 h3 h4 h5];exact ⟨rfl,Nat.le_add_left 1 k,by show k+1≤9;omega,by show k+1≤(x::r).length;omega,by show _≤((bH (ao x) (r.take k):Int));omega,by show ((bH (ao x) (r.take k):Int))≤_;omega⟩
theorem TW {b:List UInt8}(h: (ag b).2.2=0):1≤(ag b).2.1∧(ag b).2.1≤9∧(ag b).2.1≤b.length∧ -9223372036854775808≤(ag b).1∧(ag b).1≤9223372036854775807:=by
 rcases xp b with e|e|e
 . rw[e] at h;cases h
 . rw[e] at h;cases h
 . exact e.2
theorem dQ (b:List UInt8): (ag b).2.1≤b.length∧(ag b).2.1≤9∧(ag b).2.2≤3∧ -9223372036854775808≤(ag b).1∧(ag b).1≤9223372036854775807:=by
 rcases xp b with e|e|e
 . rw[e];exact ⟨Nat.zero_le _,by decide,by decide,by decide,by decide⟩
 . rw[e];exact ⟨Nat.zero_le _,by decide,by decide,by decide,by decide⟩
 . exact ⟨e.2.2.2.1,e.2.2.1,by omega,e.2.2.2.2⟩
def bB (b:List UInt8)(s:Nat):Nat:=if (ag b).2.2≠0 then (ag b).2.2 else if (ag b).1< 0 then 2 else if (b.length - (ag b).2.1) / s< (ag b).1.toNat then 3 else 0
def cn (b:List UInt8):Nat:=(ag b).1.toNat
def ca (b:List UInt8):Nat:=(ag b).2.1
theorem zl {b:List UInt8}{s:Nat}(h: (ag b).2.2≠0):bB b s= (ag b).2.2:=by unfold bB;rw[if_pos h]
theorem FR {b:List UInt8}{s:Nat}(h:¬ (ag b).2.2≠0)(h2: (ag b).1< 0):bB b s=2:=by unfold bB;rw[if_neg h,if_pos h2]
theorem Qm {b:List UInt8}{s:Nat}(h:¬ (ag b).2.2≠0)(h2:¬ (ag b).1< 0)(h3: (b.length - (ag b).2.1) / s< (ag b).1.toNat):bB b s=3:=by unfold bB;rw[if_neg h,if_neg h2,if_pos h3]
theorem Qn {b:List UInt8}{s:Nat}(h:¬ (ag b).2.2≠0)(h2:¬ (ag b).1< 0)(h3:¬ (b.length - (ag b).2.1) / s< (ag b).1.toNat):bB b s=0:=by unfold bB;rw[if_neg h,if_neg h2,if_neg h3]
theorem jo (b:List UInt8)(s:Nat):bB b s≤3:=by
 have:=dQ b
 unfold bB
 split
 . omega
 . split
   . decide
   . split<;>decide
theorem gp {b:List UInt8}{s:Nat}(hs:0< s)(h:bB b s=0): (ag b).2.2=0∧(ag b).1= (cn b:Int)∧1≤ca b∧ca b≤9∧ca b≤b.length∧cn b*s≤b.length - ca b∧cn b≤b.length:=by
 unfold bB at h
 split at h
 . rename_i h1;exact absurd h h1
 . rename_i h1
   have h1':=Classical.not_not.1 h1
   have h5:=TW h1'
   split at h
   . cases h
   . rename_i h2
     split at h
     . cases h
     . rename_i h3
       have h4:cn b*s≤b.length - ca b:=(Nat.le_div_iff_mul_le hs).1 (Nat.le_of_not_lt h3)
       have h6:cn b*1≤cn b*s:=Nat.mul_le_mul_left _ hs
       refine ⟨h1',?_,h5.1,h5.2.1,h5.2.2.1,h4,by omega⟩
       unfold cn;omega
def bn (b:List UInt8):List UInt8×Nat×Nat:=if bB b 1=0 then ((b.drop (ca b)).take (cn b),ca b+cn b,0) else ([],0,bB b 1)
theorem mL {b:List UInt8}(h:bB b 1=0):bn b= ((b.drop (ca b)).take (cn b),ca b+cn b,0):=by unfold bn;rw[if_pos h]
theorem qe {b:List UInt8}(h:¬bB b 1=0):bn b= ([],0,bB b 1):=by unfold bn;rw[if_neg h]
theorem wq (b:List UInt8): (bn b).2.1≤b.length∧(bn b).1.length≤b.length∧(bn b).2.2≤3∧((bn b).2.2=0→1≤(bn b).2.1∧(bn b).1.length+1≤(bn b).2.1):=by
 have h3:=jo b 1
 by_cases h:bB b 1=0
 . have h1:=gp (by decide) h
   rw[mL h]
   refine ⟨by show ca b+cn b≤_;omega,by show (List.take (cn b) (b.drop (ca b))).length≤_;rw[List.length_take,List.length_drop];omega,Nat.zero_le _,fun _=>⟨by show 1≤ca b+cn b;omega,?_⟩⟩
   show (List.take (cn b) (b.drop (ca b))).length+1≤ca b+cn b
   rw[List.length_take];omega
 . rw[qe h];exact ⟨Nat.zero_le _,Nat.zero_le _,h3,fun h'=>absurd h' h⟩
def dI {α:Type}(g:List UInt8→α×Nat×Nat)(b:List UInt8):Nat→Nat→List α→List α×Nat×Nat
 |0,a,l=>(l,a,0)
 |n+1,a,l=>if (g (b.drop a)).2.2≠0 then ([],0,(g (b.drop a)).2.2) else dI g b n (a+(g (b.drop a)).2.1) (l++[(g (b.drop a)).1])
theorem su {α:Type}(g:List UInt8→α×Nat×Nat)(b:List UInt8)(a:Nat)(l:List α):dI g b 0 a l= (l,a,0):=rfl
theorem zm {α:Type}{g:List UInt8→α×Nat×Nat}{b:List UInt8}{n a:Nat}{l:List α}(hn:0< n)(h: (g (b.drop a)).2.2≠0):dI g b n a l= ([],0,(g (b.drop a)).2.2):=by
 obtain ⟨m,rfl⟩:∃m,n=m+1:=⟨n - 1,by omega⟩
 unfold dI;rw[if_pos h]
theorem uW {α:Type}{g:List UInt8→α×Nat×Nat}{b:List UInt8}{n i a:Nat}{l:List α}(hn:i< n)(h: (g (b.drop a)).2.2=0):dI g b (n - i) a l=dI g b (n - (i+1)) (a+(g (b.drop a)).2.1) (l++[(g (b.drop a)).1]):=by
 obtain ⟨m,hm⟩:∃m,n - i=m+1:=⟨n - i - 1,by omega⟩
 rw[hm,show n - (i+1) =m by omega]
 conv=>lhs;unfold dI
 rw[if_neg (not_not_intro h)]
def aX {α:Type}(g:List UInt8→α×Nat×Nat)(s:Nat)(b:List UInt8):List α×Nat×Nat:=if bB b s=0 then dI g b (cn b) (ca b) [] else ([],0,bB b s)
theorem gq {α:Type}{g:List UInt8→α×Nat×Nat}{s:Nat}{b:List UInt8}(h:bB b s=0):aX g s b=dI g b (cn b) (ca b) []:=by unfold aX;rw[if_pos h]
theorem j5 {α:Type}{g:List UInt8→α×Nat×Nat}{s:Nat}{b:List UInt8}(h:¬bB b s=0):aX g s b= ([],0,bB b s):=by unfold aX;rw[if_neg h]
def uX (l:List UInt8):ba:=if h:l.length=16 then ⟨l,h⟩ else ⟨List.replicate 16 0,by simp⟩
def b8 (b:List UInt8):ba×Nat×Nat:=(uX (b.take 16),16,0)
end Go.Sx
namespace Go.Sx
theorem qf {b:List UInt8}{s:Nat}(hs:0< s)(h:¬ (ag b).2.2≠0)(h2:¬ (ag b).1< 0)(h3:b.length< (ag b).1.toNat∨b.length - (ag b).2.1< (ag b).1.toNat*s):bB b s=3:=by
 refine Qm h h2 ((Nat.div_lt_iff_lt_mul hs).2 ?_)
 rcases h3 with h3|h3
 . have: (ag b).1.toNat*1≤(ag b).1.toNat*s:=Nat.mul_le_mul_left _ hs
   omega
 . exact h3
theorem uY {b:List UInt8}{s:Nat}(hs:0< s)(h:¬ (ag b).2.2≠0)(h2:¬ (ag b).1< 0)(h3:¬b.length - (ag b).2.1< (ag b).1.toNat*s):bB b s=0:=by
 refine Qn h h2 fun h4=>h3 ((Nat.div_lt_iff_lt_mul hs).1 h4)
theorem FSq {n:Int}(h:¬n< 0):Value.int .i64 n=nI n.toNat:=by
 show _=Value.int .i64 (n.toNat:Int)
 rw[Int.toNat_of_nonneg (by omega)]
end Go.Sx
namespace Go.Sx
theorem uZ (l:List UInt8)(h:l.length=16):uX l= ⟨l,h⟩:=by unfold uX;rw[dif_pos h]
theorem sw (b:List UInt8)(p:Nat)(h:p+16≤b.length): ((b.drop p).take 16).length=16:=by rw[List.length_take,List.length_drop];omega
theorem Qo {b:List UInt8}{n i:Nat}{l:List ba}(p:Nat)(hn:i< n):dI b8 b (n - i) (p+16*i) l=dI b8 b (n - (i+1)) (p+16*(i+1)) (l++[uX ((b.drop (p+16*i)).take 16)]):=by
 rw[uW hn rfl];rfl
theorem Nu (l:List UInt8)(j:Nat)(x:UInt8)(h:l.length=j)(hj:j< 16): (l++List.replicate (16 - j) (0:UInt8)).set j x= (l++[x])++List.replicate (16 - (j+1)) 0:=by
 rw[jv l 0 x 16 j h hj,List.append_assoc,show 16 - (j+1) =16 - 1 - j by omega]
 rfl
theorem FT (b:List UInt8)(p j:Nat)(hj:j< 16)(h:p+16≤b.length): (b.drop p).take j++[gt b (p+j)] = (b.drop p).take (j+1):=by
 rw[cM _ _ (by rw[List.length_drop];omega)]
 congr 2
 unfold gt
 rw[List.getD_eq_getElem?_getD,List.getD_eq_getElem?_getD,List.getElem?_drop]
end Go.Sx
namespace Go.Sx
open Go.RowKit
section
variable (a1 b1:Nat) (z1:List Value)
theorem aaN (x y:Array TypeId)(v:Bool)(xs:List C):wY (some ⟨.func x y v,a1,b1,z1⟩) xs= (dH xs 0).map vp:=rfl
end
theorem Ng (o:Option (List C))(h:Hp):Hp.mp (o::h) 0=fV o:=rfl
theorem Nh (o:Option (List C))(h:Hp)(n:Nat):Hp.mp (o::h) (n+1) =Hp.mp h n:=rfl
attribute [go_sem] aaN Ng Nh
end Go.Sx
namespace Go.Sx
open Go.RowKit
end Go.Sx
namespace Go.Sx
open Go.RowKit
def Ni (t n:Nat):Option Nat→C
 |some j=> .bt j t n
 |none=> .top
theorem jm (ρ:List Nat)(b t n:Nat):bA ρ (.bt b t n) =Ni t n (dP ρ 0 b):=by simp only[bA];cases dP ρ 0 b<;>rfl
theorem fa (t n j:Nat):Ni t n (some j) = .bt j t n:=rfl
theorem fb (t n:Nat):Ni t n none= .top:=rfl
def Nj:Option Nat→C
 |some j=> .mp j
 |none=> .top
theorem jn (ρ:List Nat)(b:Nat):bA ρ (.mp b) =Nj (dP ρ 0 b):=by simp only[bA];cases dP ρ 0 b<;>rfl
theorem fe (j:Nat):Nj (some j) = .mp j:=rfl
theorem ff:Nj none= .top:=rfl
section
variable (cx:Cx) (apps:List Nat) (dsts:List (Option Nat)) (l:List Oper) (id':Nat) (d:Option Nat) (e:List (Nat×C)) (h:Hp) (fs:List FP) (K:List FP→St→Prop)
def FI (b off:Nat)(cells:List C)(o:Option C):Prop:=match o with
 |none=>False
 |some x=>run cx apps dsts l id' (fD d x e) (h.set b (some (cells.set off x.noR))) ((3,b)::fs) K
theorem Jp (b off:Nat)(cells:List C):H5 cx apps dsts l id' d e h fs K b off (some cells) =FI cx apps dsts l id' d e h fs K b off cells (cells[off]?):=rfl
theorem Jq (b off:Nat)(cells:List C)(x:C):FI cx apps dsts l id' d e h fs K b off cells (some x) =run cx apps dsts l id' (fD d x e) (h.set b (some (cells.set off x.noR))) ((3,b)::fs) K:=rfl
end
@[congr] theorem afj {cx:Cx} {apps:List Nat} {dsts:List (Option Nat)} {l:List Oper} {id':Nat} {d:Option Nat} {e:List (Nat×C)} {h:Hp} {fs:List FP} {K:List FP→St→Prop} {b off:Nat} {cells:List C} {p p':Option C} (hp:p=p'):
   FI cx apps dsts l id' d e h fs K b off cells p=FI cx apps dsts l id' d e h fs K b off cells p':=by rw[hp]
attribute [go_sem] Jp Jq
end Go.Sx
namespace Go.Sx
open Go.RowKit
mutual
def ce (r:Nat→Nat):C→C
 | .sv b o n=> .sv (r b) o n
 | .gv b n s=> .gv (r b) n s
 | .bp b o=> .bp (r b) o
 | .mp b=> .mp (r b)
 | .bt b t n=> .bt (r b) t n
 | .sl q n xs=> .sl q n (bkCs r xs)
 | .kp xs=> .kp (bkCs r xs)
 | .agg xs=> .agg (bkCs r xs)
 | .tup xs=> .tup (bkCs r xs)
 | .fn f xs=> .fn f (bkCs r xs)
 | .top=> .top
 | .val v=> .val v
def bkCs (r:Nat→Nat):List C→List C
 | [] =>[]
 |x::xs=>ce r x::bkCs r xs
end
theorem oW (r:Nat→Nat):∀xs:List C,bkCs r xs=xs.map (ce r)
 | [] =>rfl
 |x::xs=>by simp[bkCs,oW r xs]
structure BkG (r:Nat→Nat) (A B:Gh):Prop where
 K:∀b o u,A.K b o=some u→B.K b o=some u
 μ:∀i k,A.μ i=some k→B.μ (r i) =some k
 σ:∀i z,A.σ i=some z→B.σ (r i) =some z
mutual
theorem n6 {r:Nat→Nat}{A B:Gh}(h:BkG r A B):∀ (c:C)(v:Value),Rep A c v→Rep B (ce r c) v
 | .top,_,_=>by simp[ce,Rep]
 | .val u,v,q=>by simpa[ce,Rep] using q
 | .sl q n xs,v,x=>by
   simp only[ce,Rep] at x ⊢
   obtain ⟨a,cap,h1,h2,h3,h4,h5⟩:=x
   refine ⟨a,cap,h1,h2,h3,h4,?_⟩
   rcases h5 with h5| ⟨blk,off,ha,hk⟩
   . left;rw[h5];rfl
   . exact .inr ⟨blk,off,ha,bkC_repK h xs blk off hk⟩
 | .sv b off n,v,x=>by
   simp only[ce,Rep] at x ⊢
   obtain ⟨a,cap,h1,h2,h3,h4⟩:=x
   exact ⟨a,cap,h1,h2,h3,fun hz=>by obtain ⟨blk,q1,q2⟩:=h4 hz;exact ⟨blk,h.μ _ _ q1,q2⟩⟩
 | .gv b m s,v,x=>by
   simp only[ce,Rep] at x ⊢
   obtain ⟨a,cap,h1,h2,h3,h4⟩:=x
   refine ⟨a,cap,h1,h2,h3,?_⟩
   rcases h4 with h4| ⟨blk,q1,q2,q3⟩
   . exact .inl h4
   . exact .inr ⟨blk,h.μ _ _ q1,q2,h.σ _ _ q3⟩
 | .bp b off,v,x=>by
   simp only[ce,Rep] at x ⊢
   obtain ⟨blk,h1,h2⟩:=x
   exact ⟨blk,h.μ _ _ h1,h2⟩
 | .mp b,v,x=>by
   simp only[ce,Rep] at x ⊢
   obtain ⟨blk,h1,h2⟩:=x
   exact ⟨blk,h.μ _ _ h1,h2⟩
 | .bt b t n,v,x=>by
   simp only[ce,Rep] at x ⊢
   obtain ⟨blk,h1,h2,h3⟩:=x
   exact ⟨blk,h.μ _ _ h1,h2,h.σ _ _ h3⟩
 | .kp xs,v,x=>by
   simp only[ce,Rep] at x ⊢
   obtain ⟨blk,off,h1,h2⟩:=x
   exact ⟨blk,off,h1,bkC_repK h xs blk off h2⟩
 | .agg xs,v,x=>by
   simp only[ce,Rep] at x ⊢
   obtain ⟨vs,h1,h2,h3⟩:=x
   exact ⟨vs,h1,bkC_repL h xs _ h2,h3⟩
 | .tup xs,v,x=>by
   simp only[ce,Rep] at x ⊢
   obtain ⟨vs,h1,h2⟩:=x
   exact ⟨vs,h1,bkC_repL h xs _ h2⟩
 | .fn f xs,v,x=>by
   simp only[ce,Rep] at x ⊢
   obtain ⟨vs,h1,h2⟩:=x
   exact ⟨vs,h1,bkC_repL h xs _ h2⟩
theorem bkC_repL {r:Nat→Nat}{A B:Gh}(h:BkG r A B):∀ (xs:List C)(vs:List Value),RepL A xs vs→RepL B (bkCs r xs) vs
 | [],vs,q=>by simpa[bkCs,RepL] using q
 |x::xs,vs,q=>by
  simp only[bkCs,RepL] at q ⊢
  obtain ⟨v,vs',h1,h2,h3⟩:=q
  exact ⟨v,vs',h1,n6 h x v h2,bkC_repL h xs vs' h3⟩
theorem bkC_repK {r:Nat→Nat}{A B:Gh}(h:BkG r A B):∀ (xs:List C)(blk off:Nat),RepK A blk off xs→RepK B blk off (bkCs r xs)
 | [],_,_,_=>by simp[bkCs,RepK]
 |x::xs,blk,off,q=>by
  simp only[bkCs,RepK] at q ⊢
  obtain ⟨⟨u,h1,h2,h3⟩,h4⟩:=q
  exact ⟨⟨u,h.K _ _ _ h1,h2,n6 h x u h3⟩,bkC_repK h xs blk (off+1) h4⟩
end
theorem B4 {r:Nat→Nat}{A B:Gh}(h:BkG r A B):∀ (l:List C)(es:List MapEntry),MRep A l es→MRep B (bkCs r l) es
 | [],_,q=>by simpa[MRep,bkCs] using q
 | [_],_,q=>by simp[MRep] at q
 |k::v::l,es,q=>by
  simp only[MRep,bkCs] at q ⊢
  obtain ⟨e,es',h1,h2,h3,h4⟩:=q
  exact ⟨e,es',h1,n6 h k _ h2,n6 h v _ h3,B4 h l es' h4⟩
theorem DV {r:Nat→Nat}{c:C}{s m:Nat}{xs:List C}(h:ce r c= .sl (.own s) m xs):∃ys,c= .sl (.own s) m ys:=by
 cases c<;>simp only[ce] at h<;>cases h
 exact ⟨_,rfl⟩
theorem Js {r:Nat→Nat}{c:C}{u:Value}(h:ce r c= .val u):c= .val u:=by
 cases c<;>simp only[ce] at h<;>cases h
 rfl
theorem Jt {r:Nat→Nat}{c:C}{xs:List C}(h:ce r c= .tup xs):∃ys,c= .tup ys∧xs=bkCs r ys:=by
 cases c<;>simp only[ce] at h<;>cases h
 exact ⟨_,rfl,rfl⟩
theorem TI {r:Nat→Nat}{o:Option (List C)}{cells:List C}(h:bK (o.map (bkCs r)) =some cells):∃c0,bK o=some c0∧cells=bkCs r c0:=by
 have h1:=el h
 cases o with
 |none=>cases h1
 |some c0=>
  simp only[Option.map_some,Option.some.injEq] at h1
  refine ⟨c0,?_,h1.symm⟩
  subst h1
  cases c0 with
  |nil=>rfl
  |cons x l=>
   cases x with
   |tup xs=>simp only[Option.map_some,bkCs,ce] at h;cases h
   |_=>rfl
theorem aaO {r:Nat→Nat}{o:Option (List C)}{l:List C}(h:fV (o.map (bkCs r)) =some l):∃l0,fV o=some l0∧l=bkCs r l0:=by
 cases o with
 |none=>cases h
 |some c0=>exact wc (Fs:=bkCs r) (oW r) (fun _ _=>Js) (fun _ _=>Jt) h
def ig (ρ:List Nat)(L:Nat)(i:Nat):Nat:=match ρ[i]? with
 |some b=>b
 |none=>L+(i - ρ.length)
def fX (ρ:List Nat)(L:Nat)(b:Nat):Option Nat:=if b< L then dP ρ 0 b else some (ρ.length+(b - L))
def pn (ρ:List Nat)(H h':Hp):Hp:=
 ((List.range H.length).map fun b=>match dP ρ 0 b with
   |some i=>((h'[i]?).getD none).map (bkCs (ig ρ H.length))
   |none=>(H[b]?).getD none)++(h'.drop ρ.length).map (Option.map (bkCs (ig ρ H.length)))
section
variable {ρ:List Nat} {H h':Hp}
theorem zj (hn:ρ.Nodup)(hl:∀b∈ρ,b< H.length)(i:Nat):fX ρ H.length (ig ρ H.length i) =some i:=by
 unfold fX ig
 cases hi:ρ[i]? with
 |some b=>
  simp only[]
  rw[if_pos (hl b (List.mem_of_getElem? hi)),kY hn hi,Nat.zero_add]
 |none=>
  simp only[]
  have:ρ.length≤i:=List.getElem?_eq_none_iff.1 hi
  rw[if_neg (by omega)]
  congr 1;omega
theorem si {b i:Nat}(h:fX ρ H.length b=some i):ig ρ H.length i=b:=by
 unfold fX at h
 unfold ig
 split at h
 . have:=(fO h).2
   rw[Nat.sub_zero] at this
   rw[this]
 . cases h
   rw[List.getElem?_eq_none (by omega)]
   simp only[]
   omega
theorem sj (b:Nat): (pn ρ H h')[b]? =match fX ρ H.length b with
 |some i=>if b< H.length then some (((h'[i]?).getD none).map (bkCs (ig ρ H.length))) else (h'[i]?).map (Option.map (bkCs (ig ρ H.length)))
 |none=>H[b]? :=by
 unfold pn fX
 by_cases hb:b< H.length
 . rw[List.getElem?_append_left (by simpa using hb),List.getElem?_map,List.getElem?_range hb,if_pos hb]
   simp only[Option.map_some]
   cases hl:dP ρ 0 b with
   |some i=>simp only[hb,if_true]
   |none=>simp only[];rw[List.getElem?_eq_getElem hb];rfl
 . rw[List.getElem?_append_right (by simp;omega),if_neg hb]
   simp only[List.length_map,List.length_range,List.getElem?_map,List.getElem?_drop,hb,if_false]
theorem uI {b:Nat}{cells:List C}(h: (pn ρ H h').at b=some cells): (∃i c0,fX ρ H.length b=some i∧h'.at i=some c0∧cells=bkCs (ig ρ H.length) c0)∨(fX ρ H.length b=none∧H.at b=some cells):=by
 unfold Hp.at at h
 rw[sj] at h
 cases hs:fX ρ H.length b with
 |none=>rw[hs] at h;exact .inr ⟨rfl,h⟩
 |some i=>
  rw[hs] at h
  left
  have:∃o,h'[i]? =some o∧bK (o.map (bkCs (ig ρ H.length))) =some cells:=by
   simp only[] at h
   split at h
   . cases hq:h'[i]? with
     |none=>rw[hq] at h;cases h
     |some o=>rw[hq] at h;exact ⟨o,rfl,h⟩
   . cases hq:h'[i]? with
     |none=>rw[hq] at h;cases h
     |some o=>rw[hq] at h;exact ⟨o,rfl,h⟩
  obtain ⟨o,h1,h2⟩:=this
  obtain ⟨c0,h3,h4⟩:=TI h2
  exact ⟨i,c0,rfl,by unfold Hp.at;rw[h1];exact h3,h4⟩
theorem B5 {b:Nat}{l:List C}(h: (pn ρ H h').mp b=some l): (∃i l0,fX ρ H.length b=some i∧h'.mp i=some l0∧l=bkCs (ig ρ H.length) l0)∨(fX ρ H.length b=none∧H.mp b=some l):=by
 unfold Hp.mp at h
 rw[sj] at h
 cases hs:fX ρ H.length b with
 |none=>rw[hs] at h;exact .inr ⟨rfl,h⟩
 |some i=>
  rw[hs] at h
  left
  have:∃o,h'[i]? =some o∧fV (o.map (bkCs (ig ρ H.length))) =some l:=by
   simp only[] at h
   split at h
   . cases hq:h'[i]? with
     |none=>rw[hq] at h;cases h
     |some o=>rw[hq] at h;exact ⟨o,rfl,h⟩
   . cases hq:h'[i]? with
     |none=>rw[hq] at h;cases h
     |some o=>rw[hq] at h;exact ⟨o,rfl,h⟩
  obtain ⟨o,h1,h2⟩:=this
  obtain ⟨c0,h3,h4⟩:=aaO h2
  exact ⟨i,c0,rfl,by unfold Hp.mp;rw[h1];exact h3,h4⟩
theorem Nk {b i:Nat}{c0:List C}(hs:fX ρ H.length b=some i)(h:h'[i]? =some (some c0)): (pn ρ H h')[b]? =some (some (bkCs (ig ρ H.length) c0)):=by
 rw[sj,hs]
 simp only[h]
 split<;>rfl
end
open Classical in
noncomputable def fJ (ρ:List Nat)(L z:Nat)(G G2:Gh):Gh where
 K:=G2.K
 μ:=fun b=>match fX ρ L b with
  |some i=>G2.μ i
  |none=>G.μ b
 T:=fun g=>match G2.T g with
  |some p=>some (if p.1=1 then (1,ig ρ L p.2.1,p.2.2) else p)
  |none=>if g< z∧(c8 ρ G).T g=none then G.T g else none
 σ:=fun b=>match fX ρ L b with
  |some i=>G2.σ i
  |none=>G.σ b
theorem xj {P:Program}{gl:Nat→C}{f:Nat}{args:List C}{c:C}{H h':Hp}(ρ:List Nat)(hn:ρ.Nodup)(hlive:∀b∈ρ,(H.at b).isSome=true∨(H.mp b).isSome=true)
 (hD:∀b,b< H.length→b∉ρ→(H.at b).isSome=true∨(H.mp b).isSome=true∨H[b]? =some none)
 (hf:FC P gl f (mvCs ρ args) (jD ρ H) c h') (hg:∀g,ah 0 (gl g) =true):
 FC P gl f args H (ce (ig ρ H.length) c) (pn ρ H h'):=by
 obtain ⟨he,hf⟩:=hf
 refine ⟨he,fun G w vs W hTg hgl hr=>?_⟩
 have hl:∀b∈ρ,b< H.length:=fun b hb=>by
  rcases hlive b hb with h|h
  . obtain ⟨x,hx⟩:=Option.isSome_iff_exists.1 h;exact eh hx
  . obtain ⟨x,hx⟩:=Option.isSome_iff_exists.1 h;exact Bo hx
 have W1:WorldOK (c8 ρ G) (jD ρ H) w:=W.mv hn
 have hT1:∀g,G.T g=none→(c8 ρ G).T g=none:=fun g h=>by simp only[c8,h]
 have hT1b:∀g b o,G.T g=some (1,b,o)→b∉ρ→(c8 ρ G).T g=none:=fun g b o h hb=>by
  simp only[c8,h,if_true]
  cases hq:dP ρ 0 b with
  |none=>rfl
  |some j=>have:=(fO hq).2;exact (hb (List.mem_of_getElem? this)).elim
 refine Calls.mono (hf (c8 ρ G) w vs W1 (fun g p x=>by
  simp only[c8] at x
  cases hq:G.T g with
  |none=>rw[hq] at x;cases x
  |some q=>
   rw[hq] at x
   have:=hTg g q hq
   simp only[this,if_true] at x
   cases hz:dP ρ 0 q.2.1 with
   |none=>rw[hz] at x;cases x
   |some j=>rw[hz] at x;cases x;rfl) (fun g=>xf (hg g) (hgl g)) (mvC_repL _ _ hr)) ?_
 rintro e w' ⟨v,G2,rfl,rv,ro,W2,F⟩
 have hμ1:∀i blk,(c8 ρ G).μ i=some blk→∃b,ρ[i]? =some b∧G.μ b=some blk:=fun i blk x=>by
  simp only[c8] at x
  cases hq:ρ[i]? with
  |none=>rw[hq] at x;cases x
  |some q=>rw[hq] at x;exact ⟨q,rfl,x⟩
 have hout:∀b blk,fX ρ H.length b=none→G.μ b=some blk→((H.at b).isSome=true∨(H.mp b).isSome=true)∧∀i,(c8 ρ G).μ i≠some blk:=fun b blk hs hm=>by
  obtain ⟨⟨c1,hc1⟩,_⟩:=W.dom b blk hm
  have hbl:=(List.getElem?_eq_some_iff.1 hc1).1
  have hbρ:b∉ρ:=fun hb=>by
   obtain ⟨i,hi⟩:=List.getElem?_of_mem hb
   have:=zj (H:=H) hn hl i
   unfold ig at this
   rw[hi] at this
   rw[hs] at this;cases this
  have hlv: (H.at b).isSome=true∨(H.mp b).isSome=true:=by
   rcases hD b hbl hbρ with h|h|h
   . exact .inl h
   . exact .inr h
   . rw[hc1] at h;cases h
  refine ⟨hlv,fun i hi=>?_⟩
  obtain ⟨q,hq,hqm⟩:=hμ1 i blk hi
  have hqρ:=List.mem_of_getElem? hq
  have hne:b≠q:=fun e=>hbρ (e▸hqρ)
  rcases hlv with h1|h1<;>rcases hlive q hqρ with h2|h2<;>obtain ⟨x1,y1⟩:=Option.isSome_iff_exists.1 h1<;>obtain ⟨x2,y2⟩:=Option.isSome_iff_exists.1 h2
  . exact hne (W.inj b q _ _ blk y1 y2 hm hqm)
  . obtain ⟨k,es,clk,q1,q2,_⟩:=W.mpo q x2 y2
    rw[hqm] at q1;cases q1
    obtain ⟨cs,e,⟨fr,r2,_⟩,_⟩:=W.bx y1 hm
    rw[q2] at r2;cases r2
  . obtain ⟨k,es,clk,q1,q2,_⟩:=W.mpo b x1 y1
    rw[hm] at q1;cases q1
    obtain ⟨cs,e,⟨fr,r2,_⟩,_⟩:=W.bx y2 hqm
    rw[q2] at r2;cases r2
  . exact hne (W.mpi b q _ _ blk y1 y2 hm hqm)
 have hobl:∀b blk,fX ρ H.length b=none→G.μ b=some blk→w'.heap[blk]? =w.heap[blk]? ∧G2.T blk=none∧(∀i,G2.μ i≠some blk)∧∀o,G2.K blk o=G.K blk o:=fun b blk hs hm=>
  F.old blk (W.dom b blk hm).2 (hT1 _ (W.sep b blk hm).2) (hout b blk hs hm).2
 have hμlt:∀b blk,G.μ b=some blk→blk< w.heap.size:=fun b blk x=>(W.dom b blk x).2
 have hrow:∀g b o,G.T g=some (1,b,o)→b∉ρ→w'.heap[g]? =w.heap[g]? ∧G2.T g=none∧(∀i,G2.μ i≠some g)∧∀o,G2.K g o=G.K g o:=fun g b o hg hb=>
  F.old g (W.tlt g _ hg) (hT1b g b o hg hb) (fun i hi=>by
   obtain ⟨q,_,hq⟩:=hμ1 i g hi
   have:=(W.sep q g hq).2;rw[hg] at this;cases this)
 have gk:BkG (ig ρ H.length) G2 (fJ ρ H.length w.heap.size G G2):=⟨fun _ _ _ x=>x,fun i k x=>by simp only[fJ,zj hn hl];exact x,fun i z x=>by simp only[fJ,zj hn hl];exact x⟩
 have le3:G.Le (fJ ρ H.length w.heap.size G G2):=by
  refine ⟨fun b o u x=>F.le.K b o u x,fun b k x=>?_,fun b z x=>?_⟩
  . simp only[fJ]
    cases hs:fX ρ H.length b with
    |none=>exact x
    |some i=>
     simp only[]
     have hb:=si hs
     refine F.le.μ i k ?_
     obtain ⟨⟨c1,hc1⟩,_⟩:=W.dom b k x
     have hbl:=(List.getElem?_eq_some_iff.1 hc1).1
     simp only[fX,hbl,if_true] at hs
     have:=(fO hs).2
     rw[Nat.sub_zero] at this
     simp only[c8,this];exact x
  . simp only[fJ]
    cases hs:fX ρ H.length b with
    |none=>exact x
    |some i=>
     simp only[]
     refine F.le.σ i z ?_
     obtain ⟨blk,_,_,_,q1,_⟩:=W.siz b z x
     obtain ⟨⟨c1,hc1⟩,_⟩:=W.dom b blk q1
     have hbl:=(List.getElem?_eq_some_iff.1 hc1).1
     simp only[fX,hbl,if_true] at hs
     have:=(fO hs).2
     rw[Nat.sub_zero] at this
     simp only[c8,this];exact x
 have hSρ:∀b,fX ρ H.length b=none→b∉ρ:=fun b hs hb=>by
  obtain ⟨i,hi⟩:=List.getElem?_of_mem hb
  have:=zj (H:=H) hn hl i
  unfold ig at this
  rw[hi] at this
  rw[hs] at this;cases this
 have ownI:∀ (p p':bJ)(u:Value)(s n:Nat),OwnRow G2 w' p u s n→p'= (if p.1=1 then (1,ig ρ H.length p.2.1,p.2.2) else p)→OwnRow (fJ ρ H.length w.heap.size G G2) w' p' u s n:=fun p p' u s n O hp=>by
  rcases O with O| ⟨g,cap,cur,e,a1,a2,a3,a4,a5,a6⟩
  . exact .inl O
  . refine .inr ⟨g,cap,cur,e,a1,by simp only[fJ,a2];rw[hp],a3,a4,a5,fun b hb=>?_⟩
    simp only[fJ] at hb
    cases hs:fX ρ H.length b with
    |some i=>rw[hs] at hb;exact a6 i hb
    |none=>
     rw[hs] at hb
     have:=(hobl b g hs hb).2.1
     rw[a2] at this;cases this
 refine ⟨v,fJ ρ H.length w.heap.size G G2,rfl,n6 gk c v rv,fun s n xs e=>?_,⟨fun blk off u x=>W2.known blk off u x,fun b cells hb=>?_,fun b blk hm=>?_,fun b b' c1 c2 blk hb hb' hm hm'=>?_,fun b blk hm=>?_,fun g p hp=>?_,fun b cells off s n xs blk u hb hc hm hv=>?_,fun b z hz=>?_,fun b l hb=>?_,fun b b' l l' blk hb hb' hm hm'=>?_⟩,F.os,F.tape,F.output,F.size,le3,fun g hg' ht hm=>?_⟩
 . obtain ⟨ys,hy⟩:=DV e
   exact ownI _ _ v s n (ro s n ys hy) rfl
 . rcases uI hb with ⟨i,c0,hs,h1,rfl⟩ | ⟨hs,h1⟩
   . rcases W2.box i c0 h1 with ⟨hE,hE2⟩ | ⟨blk,cs,e,q1,q2,q3,q4,q5⟩
     . exact .inl ⟨by rw[hE];rfl,by simp only[fJ,hs];exact hE2⟩
     . have hlen: (bkCs (ig ρ H.length) c0).length=c0.length:=by rw[oW];simp
       exact .inr ⟨blk,cs,e,by simp only[fJ,hs];exact q1,q2,by rw[hlen];exact q3,by rw[hlen];exact bkC_repL gk _ _ q4,q5⟩
   . rcases W.box b cells h1 with ⟨hE,hE2⟩ | ⟨blk,cs,e,q1,q2,q3,q4,q5⟩
     . exact .inl ⟨hE,by simp only[fJ,hs];exact hE2⟩
     . exact .inr ⟨blk,cs,e,by simp only[fJ,hs];exact q1,by rw[(hobl b blk hs q1).1];exact q2,q3,q4.mono le3,q5⟩
 . simp only[fJ] at hm
   cases hs:fX ρ H.length b with
   |some i=>
    rw[hs] at hm
    obtain ⟨⟨c1,hc1⟩,hlt⟩:=W2.dom i blk hm
    exact ⟨⟨_,Nk hs hc1⟩,hlt⟩
   |none=>
    rw[hs] at hm
    obtain ⟨⟨c1,hc1⟩,hlt⟩:=W.dom b blk hm
    exact ⟨⟨c1,by rw[sj,hs];exact hc1⟩,Nat.lt_of_lt_of_le hlt F.size⟩
 . simp only[fJ] at hm hm'
   rcases uI hb with ⟨i,c0,hs,h1,_⟩ | ⟨hs,h1⟩ <;>rcases uI hb' with ⟨i',c0',hs',h1',_⟩ | ⟨hs',h1'⟩
   . rw[hs] at hm
     rw[hs'] at hm'
     have:=W2.inj i i' _ _ blk h1 h1' hm hm'
     subst this
     rw[←si hs,←si hs']
   . rw[hs] at hm
     rw[hs'] at hm'
     exact ((hobl b' blk hs' hm').2.2.1 i hm).elim
   . rw[hs] at hm
     rw[hs'] at hm'
     exact ((hobl b blk hs hm).2.2.1 i' hm').elim
   . rw[hs] at hm
     rw[hs'] at hm'
     exact W.inj b b' _ _ blk h1 h1' hm hm'
 . simp only[fJ] at hm
   cases hs:fX ρ H.length b with
   |some i=>
    rw[hs] at hm
    obtain ⟨s1,s2⟩:=W2.sep i blk hm
    refine ⟨s1,?_⟩
    simp only[fJ,s2]
    split
    . rename_i hc
      cases hq:G.T blk with
      |none=>rfl
      |some p=>
       have hp1:=hTg blk p hq
       obtain ⟨p1,pb,po⟩:=p
       simp only at hp1
       subst hp1
       have hpb:pb∉ρ:=fun hb=>by
        obtain ⟨j,hj⟩:=List.getElem?_of_mem hb
        have h1:=hc.2
        simp only[c8,hq,if_true,kY (k:=0) hn hj] at h1
        cases h1
       exact ((hrow blk pb po hq hpb).2.2.1 i hm).elim
    . rfl
   |none=>
    rw[hs] at hm
    obtain ⟨s1,s2⟩:=W.sep b blk hm
    obtain ⟨o1,o2,o3,o4⟩:=hobl b blk hs hm
    refine ⟨fun o=>(o4 o).trans (s1 o),?_⟩
    simp only[fJ,o2,s2]
    split<;>rfl
 . simp only[fJ] at hp
   cases hq:G2.T g with
   |some p2=>exact W2.tlt g p2 hq
   |none=>
    rw[hq] at hp
    simp only[] at hp
    split at hp
    . exact Nat.lt_of_lt_of_le (W.tlt g p hp) F.size
    . cases hp
 . simp only[fJ] at hm
   rcases uI hb with ⟨i,c0,hs,h1,rfl⟩ | ⟨hs,h1⟩
   . rw[hs] at hm
     rw[oW,List.getElem?_map] at hc
     cases hq:c0[off]? with
     |none=>rw[hq] at hc;cases hc
     |some y=>
      rw[hq] at hc
      simp only[Option.map_some,Option.some.injEq] at hc
      obtain ⟨ys,rfl⟩:=DV hc
      refine ownI _ _ u s n (W2.own i c0 off s n ys blk u h1 hq hm hv) ?_
      rw[if_pos rfl,si hs]
   . rw[hs] at hm
     have hcell:w'.cell? ⟨blk,off,none⟩ =w.cell? ⟨blk,off,none⟩:=by
      unfold World.cell?;rw[(hobl b blk hs hm).1]
     rcases W.own b cells off s n xs blk u h1 hc hm (by rw[←hcell];exact hv) with O| ⟨g,cap,cur,e,a1,a2,a3,a4,a5,a6⟩
     . exact .inl O
     . have hbρ:=hSρ b hs
       obtain ⟨o1,o2,o3,o4⟩:=hrow g b off a2 hbρ
       refine .inr ⟨g,cap,cur,e,a1,?_,o1.trans a3,a4,fun o ho=>(o4 o).trans (a5 o ho),fun b' hb'=>?_⟩
       . simp only[fJ,o2]
         rw[if_pos ⟨W.tlt g _ a2,hT1b g b off a2 hbρ⟩];exact a2
       . simp only[fJ] at hb'
         cases hs':fX ρ H.length b' with
         |some i=>rw[hs'] at hb';exact o3 i hb'
         |none=>rw[hs'] at hb';exact a6 b' hb'
 . simp only[fJ] at hz ⊢
   cases hs:fX ρ H.length b with
   |some i=>
    rw[hs] at hz
    exact W2.siz i z hz
   |none=>
    rw[hs] at hz
    obtain ⟨blk,cs,e,fr,q1,q2,q3⟩:=W.siz b z hz
    exact ⟨blk,cs,e,fr,q1,(hobl b blk hs q1).1.trans q2,q3⟩
 . rcases B5 hb with ⟨i,l0,hs,h1,rfl⟩ | ⟨hs,h1⟩
   . obtain ⟨blk,es,clk,q1,q2,q3⟩:=W2.mpo i l0 h1
     exact ⟨blk,es,clk,by simp only[fJ,hs];exact q1,q2,B4 gk _ _ q3⟩
   . obtain ⟨blk,es,clk,q1,q2,q3⟩:=W.mpo b l h1
     exact ⟨blk,es,clk,by simp only[fJ,hs];exact q1,(hobl b blk hs q1).1.trans q2,q3.mono le3⟩
 . simp only[fJ] at hm hm'
   rcases B5 hb with ⟨i,c0,hs,h1,_⟩ | ⟨hs,h1⟩ <;>rcases B5 hb' with ⟨i',c0',hs',h1',_⟩ | ⟨hs',h1'⟩
   . rw[hs] at hm
     rw[hs'] at hm'
     have:=W2.mpi i i' _ _ blk h1 h1' hm hm'
     subst this
     rw[←si hs,←si hs']
   . rw[hs] at hm
     rw[hs'] at hm'
     exact ((hobl b' blk hs' hm').2.2.1 i hm).elim
   . rw[hs] at hm
     rw[hs'] at hm'
     exact ((hobl b blk hs hm).2.2.1 i' hm').elim
   . rw[hs] at hm
     rw[hs'] at hm'
     exact W.mpi b b' _ _ blk h1 h1' hm hm'
 . obtain ⟨o1,o2,o3,o4⟩:=F.old g hg' (hT1 g ht) (fun i hi=>by obtain ⟨q,_,hq⟩:=hμ1 i g hi;exact hm q hq)
   refine ⟨o1,?_,fun b hb=>?_,o4⟩
   . simp only[fJ,o2,ht];split<;>rfl
   . simp only[fJ] at hb
     cases hs:fX ρ H.length b with
     |some i=>rw[hs] at hb;exact o3 i hb
     |none=>rw[hs] at hb;exact hm b hb
end Go.Sx
namespace Go.Sx
open Go.RowKit
theorem j0 (n:Nat):∀ (k s b:Nat),dP (List.range' n k) s b=if n≤b∧b< n+k then some (s+(b - n)) else none
 |0,s,b=>by
  rw[if_neg (by omega)];rfl
 |k+1,s,b=>by
  rw[List.range'_succ]
  simp only[dP]
  by_cases h:b=n
  . rw[if_pos h,if_pos (by omega)];congr 1;omega
  . rw[if_neg h,j0 (n+1) k (s+1) b]
    by_cases h2:n≤b∧b< n+(k+1)
    . rw[if_pos (by omega),if_pos h2];congr 1;omega
    . rw[if_neg (by omega),if_neg h2]
section
variable {n k:Nat}
theorem mG {b:Nat}(h:b< k):dP (List.range' n k) 0 (n+b) =some b:=by
 rw[j0,if_pos (by omega)];congr 1;omega
mutual
theorem afk:∀c:C,ah k c=true→bA (List.range' n k) (ce (n+ ·) c) =c
 | .top,_=>by simp only[ce,bA]
 | .val v,_=>by simp only[ce,bA]
 | .sv b o m,h=>by simp only[ah,decide_eq_true_eq] at h;simp only[ce,bA,mG h]
 | .gv b m s,h=>by simp only[ah,decide_eq_true_eq] at h;simp only[ce,bA,mG h]
 | .bp b o,h=>by simp only[ah,decide_eq_true_eq] at h;simp only[ce,bA,mG h]
 | .mp b,h=>by simp only[ah,decide_eq_true_eq] at h;simp only[ce,bA,mG h]
 | .bt b t m,h=>by simp only[ah,decide_eq_true_eq] at h;simp only[ce,bA,mG h]
 | .sl r m xs,h=>by simp only[ah] at h;simp only[ce,bA,mv_bks xs h]
 | .kp xs,h=>by simp only[ah] at h;simp only[ce,bA,mv_bks xs h]
 | .agg xs,h=>by simp only[ah] at h;simp only[ce,bA,mv_bks xs h]
 | .tup xs,h=>by simp only[ah] at h;simp only[ce,bA,mv_bks xs h]
 | .fn f xs,h=>by simp only[ah] at h;simp only[ce,bA,mv_bks xs h]
theorem mv_bks:∀l:List C,noRefs k l=true→mvCs (List.range' n k) (bkCs (n+ ·) l) =l
 | [],_=>by simp only[bkCs,mvCs]
 |x::l,h=>by
  simp only[noRefs,Bool.and_eq_true] at h
  simp only[bkCs,mvCs,afk x h.1,mv_bks l h.2]
end
end
def dz (n:Nat)(h:Hp):Hp:=h.map (Option.map (bkCs (n+ ·)))
def lF (o:Option (List C)):Bool:=(bK o).isSome|| (fV o).isSome||o.isNone
theorem sk (n:Nat):dz n [] = []:=rfl
theorem mH (n:Nat)(o:Option (List C))(h:Hp):dz n (o::h) =o.map (bkCs (n+ ·))::dz n h:=rfl
theorem DW {r:Nat→Nat}{o:Option (List C)}(h: (bK o).isSome=true): (bK (o.map (bkCs r))).isSome=true:=by
 cases o with
 |none=>exact h
 |some cells=>
  cases cells with
  |nil=>rfl
  |cons c l=>cases c<;>first|rfl| (simp only[bK] at h;cases h)
theorem Qg {r:Nat→Nat}{o:Option (List C)}(h: (fV o).isSome=true): (fV (o.map (bkCs r))).isSome=true:=by
 obtain ⟨l,hl⟩:=Option.isSome_iff_exists.1 h
 unfold fV at hl
 split at hl
 . cases hl;rfl
 . cases hl
theorem FC.pre {P:Program}{gl:Nat→C}{f:Nat}{args:List C}{c:C}{X h':Hp}(hf:FC P gl f args X c h')(pre:Hp)(hpre:∀o∈pre,lF o=true)(hX:∀o∈X,((bK o).isSome|| (fV o).isSome) =true)
 (hn:noRefs X.length args=true) (hnX:∀o∈X,∀cells,o=some cells→noRefs X.length cells=true) (hk:X.length≤h'.length) (hg:∀g,ah 0 (gl g) =true):
 FC P gl f (bkCs (pre.length+ ·) args) (pre++dz pre.length X) (ce (pre.length+ ·) c) (pre++dz pre.length h'):=by
 have hρl: (List.range' pre.length X.length).length=X.length:=by simp
 have hHl: (pre++dz pre.length X).length=pre.length+X.length:=by simp[dz]
 have hget:∀i,(pre++dz pre.length X)[pre.length+i]? = (X[i]?).map (Option.map (bkCs (pre.length+ ·))):=fun i=>by
  rw[List.getElem?_append_right (by omega)]
  unfold dz
  rw[List.getElem?_map,show pre.length+i - pre.length=i by omega]
 have hmv:jD (List.range' pre.length X.length) (pre++dz pre.length X) =X:=by
  unfold jD
  apply List.ext_getElem?
  intro i
  rw[List.getElem?_map]
  by_cases hi:i< X.length
  . rw[List.getElem?_range' hi,Option.map_some,Nat.one_mul,hget]
    rw[List.getElem?_eq_getElem hi]
    simp only[Option.map_some,Option.getD_some]
    congr 1
    cases hx:X[i] with
    |none=>rfl
    |some cells=>
     simp only[Option.map_some]
     congr 1
     exact mv_bks cells (hnX _ (List.getElem_mem hi) cells hx)
  . rw[List.getElem?_eq_none (by rw[hρl];omega),List.getElem?_eq_none (by omega)];rfl
 have hR:ig (List.range' pre.length X.length) (pre++dz pre.length X).length= (pre.length+ ·):=by
  funext i
  unfold ig
  by_cases hi:i< X.length
  . rw[List.getElem?_range' hi];simp
  . rw[List.getElem?_eq_none (by rw[hρl];omega)]
    simp only[hρl,hHl]
    omega
 have:=xj (P:=P) (gl:=gl) (f:=f) (args:=bkCs (pre.length+ ·) args) (c:=c) (H:=pre++dz pre.length X) (h':=h') (List.range' pre.length X.length) List.nodup_range' (fun b hb=>by
  obtain ⟨h1,h2⟩:=List.mem_range'_1.1 hb
  obtain ⟨i,rfl⟩:∃i,b=pre.length+i:=⟨b - pre.length,by omega⟩
  have hi:i< X.length:=by omega
  have h3:=hX _ (List.getElem_mem hi)
  simp only[Bool.or_eq_true] at h3
  unfold Hp.at Hp.mp
  rw[hget,List.getElem?_eq_getElem hi]
  exact h3.imp (fun h=>DW h) (fun h=>Qg h))
  (fun b hb hnb=>by
    rw[hHl] at hb
    have hlt:b< pre.length:=by
     rcases Nat.lt_or_ge b pre.length with h|h
     . exact h
     . exact (hnb (List.mem_range'_1.2 ⟨h,by omega⟩)).elim
    have h3:=hpre _ (List.getElem_mem hlt)
    unfold Hp.at Hp.mp
    rw[List.getElem?_append_left hlt,List.getElem?_eq_getElem hlt]
    simp only[lF,Bool.or_eq_true] at h3
    rcases h3 with (h|h) |h
    . exact .inl h
    . exact .inr (.inl h)
    . exact .inr (.inr (by congr 1;exact Option.isNone_iff_eq_none.1 h)))
  (by rw[hmv,mv_bks args hn];exact hf) hg
 rw[hR] at this
 have hH:pn (List.range' pre.length X.length) (pre++dz pre.length X) h'=pre++dz pre.length h':=by
  have hS:pn (List.range' pre.length X.length) (pre++dz pre.length X) h'= ((List.range (pre.length+X.length)).map fun b=>match dP (List.range' pre.length X.length) 0 b with
   |some i=>((h'[i]?).getD none).map (bkCs (pre.length+ ·))
   |none=>((pre++dz pre.length X)[b]?).getD none)++(h'.drop X.length).map (Option.map (bkCs (pre.length+ ·))):=by
   unfold pn;rw[hR,hHl,hρl] <;>rfl
  rw[hS,List.range_add,List.map_append,List.append_assoc]
  congr 1
  . apply List.ext_getElem?
    intro i
    rw[List.getElem?_map]
    by_cases hi:i< pre.length
    . rw[List.getElem?_range hi,Option.map_some,j0,if_neg (by omega)]
      simp only[]
      rw[List.getElem?_append_left hi,List.getElem?_eq_getElem hi];rfl
    . rw[List.getElem?_eq_none (by simp;omega),List.getElem?_eq_none (by omega)];rfl
  . unfold dz
    rw[List.map_map]
    conv=>rhs;rw[←List.take_append_drop X.length h',List.map_append]
    congr 1
    apply List.ext_getElem?
    intro i
    rw[List.getElem?_map,List.getElem?_map,List.getElem?_take]
    by_cases hi:i< X.length
    . rw[List.getElem?_range hi,if_pos hi,List.getElem?_eq_getElem (by omega)]
      simp only[Option.map_some,Function.comp,mG hi]
      rw[List.getElem?_eq_getElem (by omega)];rfl
    . rw[List.getElem?_eq_none (by simp;omega),if_neg hi];rfl
 rw[hH] at this
 exact this
theorem FC.never {P:Program}{gl:Nat→C}{f:Nat}{args:List C}{c:C}{h':Hp}(he:iE P f)(b t n:Nat)(l:List C)(ha:args= .bt b t n::l):FC P gl f args [] c h':=by
 refine ⟨he,fun G w vs W _ _ hr=>?_⟩
 subst ha
 simp only[RepL,Rep] at hr
 obtain ⟨v,vs',_,⟨blk,h1,_⟩,_⟩:=hr
 obtain ⟨⟨c,hc⟩,_⟩:=W.dom b blk h1
 cases hc
end Go.Sx
namespace Go.Sx
open Go.RowKit
def Ju (s y:Nat)(z:List Value)(n o m:Nat)(c:Option (List C)):Option (List C):=c.bind fun cells=>
 if o+m*s≤cells.length∧decide ((((cells.drop o).take (m*s)).map C.noR).length=m*s∧0< s∧z.length=s∧(n+m)*y≤140737488355328∧n+m≤9223372036854775807∧z.all (·.oneCell') =true) =true then some (((cells.drop o).take (m*s)).map C.noR) else none
theorem Nl (e:Nat)(u:TypeDesc)(s y:Nat)(z:List Value)(b' n b o m:Nat):xg e (some ⟨u,s,y,z⟩) (.gv b' n (s,e)) (.sv b o m) =some (.ap (some (b',n)) (s,e) m fun h=>Ju s y z n o m (h.at b)):=by
 unfold xg
 simp only[if_true]
 rfl
attribute [go_sem] Nl
end Go.Sx
namespace Go.Sx
open Go.RowKit
def kw (n k s:Nat)(i:Nat):Nat:=if i< k then n+i else n+s+i
theorem aaP {P:Program}{gl:Nat→C}{f:Nat}{args:List C}{c:C}{X h':Hp}(hf:FC P gl f args X c h')(pre suf:Hp)(hpre:∀o∈pre,lF o=true)(hsuf:∀o∈suf,lF o=true)(hX:∀o∈X,((bK o).isSome|| (fV o).isSome) =true)
 (hn:noRefs X.length args=true) (hnX:∀o∈X,∀cells,o=some cells→noRefs X.length cells=true) (hk:X.length≤h'.length) (hg:∀g,ah 0 (gl g) =true):
 FC P gl f (bkCs (pre.length+ ·) args) (pre++(dz pre.length X++suf)) (ce (kw pre.length X.length suf.length) c)
  (pre++((h'.take X.length).map (Option.map (bkCs (kw pre.length X.length suf.length)))++(suf++(h'.drop X.length).map (Option.map (bkCs (kw pre.length X.length suf.length)))))):=by
 have hρl: (List.range' pre.length X.length).length=X.length:=by simp
 have hHl: (pre++(dz pre.length X++suf)).length=pre.length+(X.length+suf.length):=by simp[dz]
 have hget:∀i,i< X.length→(pre++(dz pre.length X++suf))[pre.length+i]? = (X[i]?).map (Option.map (bkCs (pre.length+ ·))):=fun i hi=>by
  rw[List.getElem?_append_right (by omega),show pre.length+i - pre.length=i by omega,List.getElem?_append_left (by simp[dz];omega)]
  unfold dz
  rw[List.getElem?_map]
 have hmv:jD (List.range' pre.length X.length) (pre++(dz pre.length X++suf)) =X:=by
  unfold jD
  apply List.ext_getElem?
  intro i
  rw[List.getElem?_map]
  by_cases hi:i< X.length
  . rw[List.getElem?_range' hi,Option.map_some,Nat.one_mul,hget i hi]
    rw[List.getElem?_eq_getElem hi]
    simp only[Option.map_some,Option.getD_some]
    congr 1
    cases hx:X[i] with
    |none=>rfl
    |some cells=>
     simp only[Option.map_some]
     congr 1
     exact mv_bks cells (hnX _ (List.getElem_mem hi) cells hx)
  . rw[List.getElem?_eq_none (by rw[hρl];omega),List.getElem?_eq_none (by omega)];rfl
 have hR:ig (List.range' pre.length X.length) (pre++(dz pre.length X++suf)).length=kw pre.length X.length suf.length:=by
  funext i
  unfold ig kw
  by_cases hi:i< X.length
  . rw[List.getElem?_range' hi,if_pos hi];simp
  . rw[List.getElem?_eq_none (by rw[hρl];omega),if_neg hi]
    simp only[hρl,hHl]
    omega
 have:=xj (P:=P) (gl:=gl) (f:=f) (args:=bkCs (pre.length+ ·) args) (c:=c) (H:=pre++(dz pre.length X++suf)) (h':=h') (List.range' pre.length X.length) List.nodup_range' (fun b hb=>by
  obtain ⟨h1,h2⟩:=List.mem_range'_1.1 hb
  obtain ⟨i,rfl⟩:∃i,b=pre.length+i:=⟨b - pre.length,by omega⟩
  have hi:i< X.length:=by omega
  have h3:=hX _ (List.getElem_mem hi)
  simp only[Bool.or_eq_true] at h3
  unfold Hp.at Hp.mp
  rw[hget i hi,List.getElem?_eq_getElem hi]
  exact h3.imp (fun h=>DW h) (fun h=>Qg h))
  (fun b hb hnb=>by
    rw[hHl] at hb
    have key:∃o,(pre++(dz pre.length X++suf))[b]? =some o∧lF o=true:=by
     rcases Nat.lt_or_ge b pre.length with h|h
     . exact ⟨_,by rw[List.getElem?_append_left h,List.getElem?_eq_getElem h],hpre _ (List.getElem_mem h)⟩
     . have h2:pre.length+X.length≤b:=by
        rcases Nat.lt_or_ge b (pre.length+X.length) with h2|h2
        . exact (hnb (List.mem_range'_1.2 ⟨h,h2⟩)).elim
        . exact h2
       have h3:b - pre.length - X.length< suf.length:=by omega
       refine ⟨suf[b - pre.length - X.length],?_,hsuf _ (List.getElem_mem h3)⟩
       rw[List.getElem?_append_right h,List.getElem?_append_right (by simp[dz];omega)]
       rw[show (dz pre.length X).length=X.length by simp[dz],List.getElem?_eq_getElem h3]
    obtain ⟨o,ho,h3⟩:=key
    unfold Hp.at Hp.mp
    rw[ho]
    simp only[lF,Bool.or_eq_true] at h3
    rcases h3 with (h|h) |h
    . exact .inl h
    . exact .inr (.inl h)
    . exact .inr (.inr (by congr 1;exact Option.isNone_iff_eq_none.1 h)))
  (by rw[hmv,mv_bks args hn];exact hf) hg
 rw[hR] at this
 have hH:pn (List.range' pre.length X.length) (pre++(dz pre.length X++suf)) h'=pre++((h'.take X.length).map (Option.map (bkCs (kw pre.length X.length suf.length)))++(suf++(h'.drop X.length).map (Option.map (bkCs (kw pre.length X.length suf.length))))):=by
  have hS:pn (List.range' pre.length X.length) (pre++(dz pre.length X++suf)) h'= ((List.range (pre.length+(X.length+suf.length))).map fun b=>match dP (List.range' pre.length X.length) 0 b with
   |some i=>((h'[i]?).getD none).map (bkCs (kw pre.length X.length suf.length))
   |none=>((pre++(dz pre.length X++suf))[b]?).getD none)++(h'.drop X.length).map (Option.map (bkCs (kw pre.length X.length suf.length))):=by
   unfold pn;rw[hR,hHl,hρl] <;>rfl
  rw[hS,List.range_add,List.range_add,List.map_append,List.map_append,List.map_append,List.append_assoc,List.append_assoc]
  congr 1
  . apply List.ext_getElem?
    intro i
    rw[List.getElem?_map]
    by_cases hi:i< pre.length
    . rw[List.getElem?_range hi,Option.map_some,j0,if_neg (by omega)]
      simp only[]
      rw[List.getElem?_append_left hi,List.getElem?_eq_getElem hi];rfl
    . rw[List.getElem?_eq_none (by simp;omega),List.getElem?_eq_none (by omega)];rfl
  . congr 1
    . apply List.ext_getElem?
      intro i
      rw[List.map_map,List.getElem?_map,List.getElem?_map,List.getElem?_take]
      by_cases hi:i< X.length
      . rw[List.getElem?_range hi,if_pos hi,List.getElem?_eq_getElem (by omega)]
        simp only[Option.map_some,Function.comp,mG hi]
        rw[List.getElem?_eq_getElem (by omega)];rfl
      . rw[List.getElem?_eq_none (by simp;omega),if_neg hi];rfl
    . congr 1
      apply List.ext_getElem?
      intro i
      rw[List.map_map,List.map_map,List.getElem?_map]
      by_cases hi:i< suf.length
      . rw[List.getElem?_range hi]
        simp only[Option.map_some,Function.comp]
        rw[j0,if_neg (by omega)]
        simp only[]
        rw[List.getElem?_append_right (by omega),List.getElem?_append_right (by simp[dz] <;>omega)]
        rw[show pre.length+(X.length+i) - pre.length - (dz pre.length X).length=i by simp[dz] <;>omega,List.getElem?_eq_getElem hi];rfl
      . rw[List.getElem?_eq_none (by simp;omega),List.getElem?_eq_none (by omega)];rfl
 rw[hH] at this
 exact this
end Go.Sx
namespace Go.Sx
open Go.RowKit
def FL (cx:Cx)(rs:List ResultVar)(c:C)(k:Nat)(h':Hp):Ex→St→Prop
 | .exit _,_=>False
 |_,st=>i2 cx st rs=some c∧st.h.take k=h'
theorem TJ (cx:Cx)(rs:List ResultVar)(c:C)(k:Nat)(h':Hp)(st:St):FL cx rs c k h' .ret st= (i2 cx st rs=some c∧st.h.take k=h'):=rfl
theorem TK (cx:Cx)(rs:List ResultVar)(c:C)(k:Nat)(h':Hp)(st:St):FL cx rs c k h' .normal st= (i2 cx st rs=some c∧st.h.take k=h'):=rfl
def m6 (k:Nat):Hp→Bool
 | [] =>true
 |none::l=>m6 k l
 |some cells::l=>noRefs k cells && m6 k l
theorem wh (k:Nat):∀ (h:Hp),m6 k h=true→∀ (b:Nat)(cells:List C),h[b]? =some (some cells)→noRefs k cells=true
 | [],_,b,cells,hb=>by simp at hb
 |o::l,h,0,cells,hb=>by
  simp at hb;subst hb
  simp only[m6,Bool.and_eq_true] at h;exact h.1
 |o::l,h,b+1,cells,hb=>by
  refine wh k l ?_ b cells (by simpa using hb)
  cases o with
  |none=>exact h
  |some c=>simp only[m6,Bool.and_eq_true] at h;exact h.2
theorem sn (k:Nat):m6 k [] =true:=rfl
theorem oX (k:Nat)(cells:List C)(l:Hp):m6 k (some cells::l) = (noRefs k cells && m6 k l):=rfl
theorem TL {k:Nat}{h:Hp}(hh:m6 k h=true):∀o∈h,∀cells,o=some cells→noRefs k cells=true:=fun o ho cells e=>by
 subst e
 obtain ⟨b,hb⟩:=List.getElem?_of_mem ho
 exact wh k h hh b cells hb
theorem mI {cx:Cx} {f:Nat} {fn:Func} {code:Code} {args:List C} {h h':Hp} {c:C} {rs:List ResultVar} (hN:cx.N=fn.ntmps) (hf:cx.P.funcs[f]? =some fn) (hn: (fn.name== "runtime.NumGoroutine") =false) (hb:fn.body=some code)
 (hrs:fn.results=rs.toArray) (hlen:args.length≤fn.ntmps) (hc:ah h.length c=true) (hh:m6 h.length h'=true) (hT:Tr cx h.length code ⟨A (bq 0 args),h⟩ (FL cx rs c h.length h')):FC cx.P cx.gl f args h c h':=by
 refine FC.of hN hf hn hb hlen ?_
 refine Tr.weaken (fun t=>CLe.init args t) (hT.mono fun x st q=>?_)
 have key:i2 cx st rs=some c∧st.h.take h.length=h'→results cx fn st=some c∧((st.h.take h.length=h'∧ah h.length c=true∧∀ (b:Nat) cells,b< h.length→st.h[b]? =some (some cells)→noRefs h.length cells=true)∨st.h=h'):=fun q=>by
  refine ⟨?_,.inl ⟨q.2,hc,fun b cells hb hx=>wh _ _ hh b cells ?_⟩⟩
  . rw[←q.1]
    unfold results
    rw[hrs]
    rcases rs with _| ⟨r,_| ⟨r2,rs⟩⟩ <;>rfl
  . rw[←q.2,List.getElem?_take,if_pos hb];exact hx
 cases x with
 |exit k=>exact q
 |normal=>exact key q
 |ret=>exact key q
attribute [go_sem] TJ TK sn oX
end Go.Sx
namespace Go.Sx
open Go.RowKit
section
variable {cx:Cx} {n:Nat} {st:St} {Q:Ex→St→Prop} {G:Gh} {w:World} {h:Hp} {b:Nat} {cells:List C}
mutual
theorem kx (H:WorldOK G h w)(hb:h.at b=some cells){ys:List C}(hys:∀blk,G.μ b=some blk→RepK (cZ G w b cells.length) blk 0 ys):∀ (c:C)(v:Value),Rep G c v→Rep (cZ G w b cells.length) (bz (cR h b) b ys c) v
 | .top,_,_=>by simp[bz,Rep]
 | .val u,v,r=>by simpa[bz,Rep] using r
 | .sl r n xs,v,x=>by
   simp only[bz,Rep] at x ⊢
   obtain ⟨a,cap,h1,h2,h3,h4,h5⟩:=x
   refine ⟨a,cap,h1,h2,h3,h4,?_⟩
   rcases h5 with h5| ⟨blk,off,ha,hk⟩
   . left;rw[h5];rfl
   . exact .inr ⟨blk,off,ha,fzC_repKY H hb hys xs blk off hk⟩
 | .sv b' off n,v,x=>by
   simp only[bz]
   split
   . rename_i e
     subst e
     split
     . rename_i hle
       simp only[Rep] at x ⊢
       obtain ⟨a,cap,h1,h2,h3,h4⟩:=x
       refine ⟨a,cap,h1,h2,h3,by simp,?_⟩
       by_cases hn:n=0
       . left;subst hn;simp
       . right
         obtain ⟨blk,q1,q2⟩:=h4 hn
         refine ⟨blk,off,q2,?_⟩
         have:=(hys _ q1).drop off
         rw[Nat.zero_add] at this
         exact this.take n
     . simp[Rep]
   . split
     . rename_i hok
       simp only[Rep] at x ⊢
       obtain ⟨a,cap,h1,h2,h3,h4⟩:=x
       exact ⟨a,cap,h1,h2,h3,fun hz=>by obtain ⟨blk,q1,q2⟩:=h4 hz;exact ⟨blk,eF H hb hok q1,q2⟩⟩
     . simp[Rep]
 | .gv b' m s,v,x=>by
   simp only[bz]
   split
   . rename_i e
     subst e
     split
     . rename_i hle
       simp only[Rep] at x ⊢
       obtain ⟨a,cap,h1,h2,h3,h4⟩:=x
       refine ⟨a,cap,h1,h2,h3,by simp,?_⟩
       rcases h4 with ⟨rfl,_⟩ | ⟨blk,q1,q2,q3⟩
       . left;simp
       . right
         exact ⟨blk,0,q2,(hys _ q1).take _⟩
     . simp[Rep]
   . split
     . rename_i hok
       simp only[Rep] at x ⊢
       obtain ⟨a,cap,h1,h2,h3,h4⟩:=x
       refine ⟨a,cap,h1,h2,h3,?_⟩
       rcases h4 with h4| ⟨blk,q1,q2,q3⟩
       . exact .inl h4
       . exact .inr ⟨blk,eF H hb hok q1,q2,oT H hb hok q3⟩
     . simp[Rep]
 | .mp b',v,x=>by
   simp only[bz]
   split
   . simp[Rep]
   . split
     . rename_i hok
       simp only[Rep] at x ⊢
       obtain ⟨blk,h1,h2⟩:=x
       exact ⟨blk,eF H hb hok h1,h2⟩
     . simp[Rep]
 | .bt b' t n,v,x=>by
   simp only[bz]
   split
   . simp[Rep]
   . split
     . rename_i hok
       simp only[Rep] at x ⊢
       obtain ⟨blk,h1,h2,h3⟩:=x
       exact ⟨blk,eF H hb hok h1,h2,oT H hb hok h3⟩
     . simp[Rep]
 | .bp b' off,v,x=>by
   simp only[bz]
   split
   . rename_i e
     subst e
     simp only[Rep] at x ⊢
     obtain ⟨blk,h1,h2⟩:=x
     refine ⟨blk,off,h2,?_⟩
     have:=(hys _ h1).drop off
     rwa [Nat.zero_add] at this
   . split
     . rename_i hok
       simp only[Rep] at x ⊢
       obtain ⟨blk,h1,h2⟩:=x
       exact ⟨blk,eF H hb hok h1,h2⟩
     . simp[Rep]
 | .kp xs,v,x=>by
   simp only[bz,Rep] at x ⊢
   obtain ⟨blk,off,h1,h2⟩:=x
   exact ⟨blk,off,h1,fzC_repKY H hb hys xs blk off h2⟩
 | .agg xs,v,x=>by
   simp only[bz,Rep] at x ⊢
   obtain ⟨vs,h1,h2,h3⟩:=x
   exact ⟨vs,h1,fzC_repLY H hb hys xs _ h2,h3⟩
 | .tup xs,v,x=>by
   simp only[bz,Rep] at x ⊢
   obtain ⟨vs,h1,h2⟩:=x
   exact ⟨vs,h1,fzC_repLY H hb hys xs _ h2⟩
 | .fn f xs,v,x=>by
   simp only[bz,Rep] at x ⊢
   obtain ⟨vs,h1,h2⟩:=x
   exact ⟨vs,h1,fzC_repLY H hb hys xs _ h2⟩
theorem fzC_repLY (H:WorldOK G h w)(hb:h.at b=some cells){ys:List C}(hys:∀blk,G.μ b=some blk→RepK (cZ G w b cells.length) blk 0 ys):∀ (xs:List C)(vs:List Value),RepL G xs vs→RepL (cZ G w b cells.length) (fzCs (cR h b) b ys xs) vs
 | [],vs,r=>by simpa[fzCs,RepL] using r
 |x::xs,vs,r=>by
  simp only[fzCs,RepL] at r ⊢
  obtain ⟨v,vs',h1,h2,h3⟩:=r
  exact ⟨v,vs',h1,kx H hb hys x v h2,fzC_repLY H hb hys xs vs' h3⟩
theorem fzC_repKY (H:WorldOK G h w)(hb:h.at b=some cells){ys:List C}(hys:∀blk,G.μ b=some blk→RepK (cZ G w b cells.length) blk 0 ys):∀ (xs:List C)(blk off:Nat),RepK G blk off xs→RepK (cZ G w b cells.length) blk off (fzCs (cR h b) b ys xs)
 | [],_,_,_=>by simp[fzCs,RepK]
 |x::xs,blk,off,r=>by
  simp only[fzCs,RepK] at r ⊢
  obtain ⟨⟨u,h1,h2,h3⟩,h4⟩:=r
  exact ⟨⟨u,(sc H _).K _ _ _ h1,h2,kx H hb hys x u h3⟩,fzC_repKY H hb hys xs blk (off+1) h4⟩
end
theorem xk (H:WorldOK G h w)(hb:h.at b=some cells){ys:List C}(hys:∀blk,G.μ b=some blk→RepK (cZ G w b cells.length) blk 0 ys):∀ (l:List C)(es:List MapEntry),MRep G l es→MRep (cZ G w b cells.length) (fzCs (cR h b) b ys l) es
 | [],_,r=>by simpa[MRep,fzCs] using r
 | [_],_,r=>by simp[MRep] at r
 |k::v::l,es,r=>by
  simp only[MRep,fzCs] at r ⊢
  obtain ⟨e,es',h1,h2,h3,h4⟩:=r
  exact ⟨e,es',h1,kx H hb hys k _ h2,kx H hb hys v _ h3,xk H hb hys l es' h4⟩
theorem WorldOK.fzY (H:WorldOK G h w)(hb:h.at b=some cells){ys:List C}(hys:∀blk,G.μ b=some blk→RepK (cZ G w b cells.length) blk 0 ys):WorldOK (cZ G w b cells.length) (lw (cR h b) b ys h) w:=by
 have hlen:=eh hb
 have hμ:∀ {j blk},(cZ G w b cells.length).μ j=some blk→G.μ j=some blk∧j≠b∧G.μ b≠some blk:=fun {j blk} x=>by
  simp only[cZ] at x
  split at x
  . cases x
  . rename_i hne
    refine ⟨x,fun e=>hne (.inl e),fun e=>hne (.inr ⟨blk,e,x⟩)⟩
 refine ⟨fun blk off u hk=>?_,fun j c' hj=>?_,fun j blk hm=>?_,fun j j' c c' blk hj hj' hm hm'=>?_,fun j blk hm=>?_,H.tlt,fun j c' off s m xs blk v hj hc hm hv=>?_,fun j z hz=>?_,fun j l hj=>?_,fun j j' l l' blk x x' y y'=>?_⟩
 . simp only[cZ] at hk
   split at hk
   . exact hk
   . exact H.known blk off u hk
 . obtain ⟨hne,c0,h2,rfl⟩:=kZ hb hj
   have hok:cR h b j=true:=by simp[cR,h2,hne]
   rcases H.box j c0 h2 with ⟨hE,hE2⟩ | ⟨blk,cs,e,q1,q2,q3,q4,q5⟩
   . refine .inl ⟨by rw[hE];rfl,?_⟩
     simp only[cZ]
     split
     . rfl
     . exact hE2
   . have hl: (fzCs (cR h b) b ys c0).length=c0.length:=by rw[iz];simp
     exact .inr ⟨blk,cs,e,eF H hb hok q1,q2,by rw[hl];exact q3,by rw[hl];exact fzC_repLY H hb hys _ _ q4,q5⟩
 . obtain ⟨h1,h2,h3⟩:=hμ hm
   obtain ⟨⟨c,hc⟩,hl⟩:=H.dom j blk h1
   refine ⟨⟨fzCs (cR h b) b ys c,?_⟩,hl⟩
   unfold lw
   rw[List.getElem?_set,if_neg (Ne.symm h2),List.getElem?_map,hc];rfl
 . obtain ⟨h1,_,_⟩:=hμ hm
   obtain ⟨h1',_,_⟩:=hμ hm'
   obtain ⟨_,c0,g2,_⟩:=kZ hb hj
   obtain ⟨_,c0',g2',_⟩:=kZ hb hj'
   exact H.inj j j' _ _ blk g2 g2' h1 h1'
 . obtain ⟨h1,h2,h3⟩:=hμ hm
   obtain ⟨s1,s2⟩:=H.sep j blk h1
   refine ⟨fun o=>?_,s2⟩
   simp only[cZ]
   rw[if_neg (fun x=>h3 x.1)]
   exact s1 o
 . obtain ⟨h1,_,_⟩:=hμ hm
   obtain ⟨_,c0,g2,rfl⟩:=kZ hb hj
   rw[iz,List.getElem?_map] at hc
   cases hq:c0[off]? with
   |none=>rw[hq] at hc;cases hc
   |some y=>
    rw[hq] at hc
    simp only[Option.map_some,Option.some.injEq] at hc
    obtain ⟨zs,rfl⟩:=sd hc
    exact (H.own j c0 off s m zs blk v g2 hq h1 hv).fz
 . simp only[cZ] at hz ⊢
   split at hz
   . cases hz
   . rename_i hne
     obtain ⟨blk,cs,e,fr,q1,q2,q3⟩:=H.siz j z hz
     exact ⟨blk,cs,e,fr,by rw[if_neg hne];exact q1,q2,q3⟩
 . obtain ⟨n1,l0,n2,rfl⟩:=n0 hlen hj
   obtain ⟨blk,es,clk,q1,q2,q3⟩:=H.mpo j l0 n2
   have hok:cR h b j=true:=by simp[cR,n2,n1]
   exact ⟨blk,es,clk,eF H hb hok q1,q2,xk H hb hys l0 _ q3⟩
 . obtain ⟨n1,l0,n2,rfl⟩:=n0 hlen x
   obtain ⟨n1',l0',n2',rfl⟩:=n0 hlen x'
   exact H.mpi j j' _ _ blk n2 n2' (hμ y).1 (hμ y').1
def lr (h:Hp)(b:Nat)(cells:List C):Nat→List C
 |0=>fzY h b cells
 |m+1=>(fzCs (cR h b) b (lr h b cells m) cells).map C.noR
theorem tr (H:WorldOK G h w)(hb:h.at b=some cells):∀ (m:Nat)(blk:Nat),G.μ b=some blk→RepK (cZ G w b cells.length) blk 0 (lr h b cells m)
 |0,blk,hm=>uC H hb hm
 |m+1,blk,hm=>by
  have ih:=tr H hb m
  obtain ⟨cs,e,⟨fr,q2,_⟩,q0,q3,q4⟩:=H.bx hb hm
  have hl: (lr h b cells (m+1)).length=cells.length:=by simp[lr,iz]
  refine RepK.of_get fun i x hx=>?_
  have hil:i< cells.length:=by have:=(List.getElem?_eq_some_iff.1 hx).1;rwa [hl] at this
  simp only[lr] at hx
  rw[iz,List.map_map,List.getElem?_map] at hx
  cases hc:cells[i]? with
  |none=>rw[hc] at hx;cases hx
  |some y=>
   rw[hc] at hx
   simp only[Option.map_some,Option.some.injEq,Function.comp] at hx
   subst hx
   obtain ⟨u,hu,hr⟩:=q3.get i y hc
   rw[List.getElem?_take,if_pos hil] at hu
   refine ⟨u,?_,q4 u (List.mem_of_getElem? hu),(kx H hb ih y u hr).noR⟩
   simp only[cZ,Nat.zero_add]
   rw[if_pos ⟨hm,hil⟩]
   exact rZ q2 _ _ hu
theorem aaQ (hcx:CxOK cx){c:Code}(b m:Nat){cells:List C}(hb:st.h.at b=some cells)(hnb:n≤b)(hn:∀j,j< n→((st.h.at j).isSome|| (st.h.mp j).isSome) =true∨st.h[j]? =some none)
 (K:Tr cx n c ⟨fun t=>bz (cR st.h b) b (lr st.h b cells m) (st.env t),lw (cR st.h b) b (lr st.h b cells m) st.h⟩ Q):Tr cx n c st Q:=fun r hr G w a S R hR=>
 K r hr (cZ G w b cells.length) w a ⟨S.defers.same (fun _ h=>h) (fun g h b' hb'=>by
     simp only[cZ] at hb'
     split at hb'
     . cases hb'
     . exact h b' hb'),S.size,S.pre.ok.fzY hb (tr S.pre.ok hb m),⟨fun t=>kx S.pre.ok hb (tr S.pre.ok hb m) _ _ (S.pre.env.1 t),fun t s m' xs e=>by
     obtain ⟨ys,hy⟩:=sd e
     exact (S.pre.env.2 t s m' ys hy).fz⟩,fun g=>(d6 _ _ (hcx.glo g) (S.pre.glob g)).mono (sc S.pre.ok _)⟩ R
   fun x s G' w' a' q S' F=>hR x s G' w' a' q S' ((DS S.pre.ok hb hnb hn _).transA F)
end
theorem TM {cx:Cx}{n:Nat}{Q:Ex→St→Prop}{e:List (Nat×C)}{h:Hp}(hcx:CxOK cx){c:Code}(b m:Nat)(cells:List C)(hb:h.at b=some cells)(hnb:n≤b)(hn:∀j,j< n→((h.at j).isSome|| (h.mp j).isSome) =true∨h[j]? =some none)
 (K:Tr cx n c ⟨A (jY (bz (cR h b) b (lr h b cells m)) e),lw (cR h b) b (lr h b cells m) h⟩ Q):Tr cx n c ⟨A e,h⟩ Q:=by
 refine aaQ hcx b m hb hnb hn ?_
 rw[uD _ (by simp only[bz])]
 exact K
end Go.Sx
namespace Go.Sx
end Go.Sx
namespace Go.Sx
open Go.RowKit Go.Proofs
set_option maxRecDepth 10000
abbrev ab:=List UInt8×List UInt8
def eC (x:ab):List C:=[.val (str x.1),.val (str x.2)]
instance:Cel eC 2:=⟨fun _=>rfl,fun _=>rfl,by decide,fun _ _=>rfl⟩
instance:Fla eC:=⟨fun _=>rfl⟩
instance:Inj eC:=⟨fun a b h=>by
 obtain ⟨a1,a2⟩:=a;obtain ⟨b1,b2⟩:=b
 simp only[eC,List.cons.injEq,C.val.injEq,ax,and_true] at h
 obtain ⟨rfl,rfl⟩:=h;rfl⟩
theorem T5 (x:ab):eC x= [.val (str x.1),.val (str x.2)]:=rfl
theorem aba:td Tryd.prog 129=some ⟨.func #[3,3] #[29] false,1,8,[.nilFunc]⟩:=by kernel_rfl
theorem abb:td Tryd.prog 139=some ⟨.func #[3,3] #[] false,1,8,[.nilFunc]⟩:=by kernel_rfl
theorem abc: (Value.nilFunc).oneCell'=true:=rfl
attribute [go_sem] aba abb abc
theorem ls {P:Program}{t i ft k:Nat}{fs:Array Field}{fd:Field}{de:TD}{s y:Nat}{z:List Value}(h1:td P t=some ⟨.struct fs,s,y,z⟩)(h2:fs[i]? =some fd)(ht:fd.type=ft)(hk:fd.offset=k)(h3:td P ft=some de)(h4:¬de.size=0)(b o:Nat):aE P t (.bp b o) i=some (vp (.bp b (o+k))):=by
 subst ht hk
 unfold aE;simp only[h1,h2,h3,if_neg h4];rfl
theorem o7 {P:Program}{t i ft k:Nat}{fs:Array Field}{fd:Field}{de:TD}{s y:Nat}{z:List Value}(h1:td P t=some ⟨.struct fs,s,y,z⟩)(h2:fs[i]? =some fd)(ht:fd.type=ft)(hk:fd.offset=k)(h3:td P ft=some de)(h4:¬de.size=0)(xs:List C)(h:k≤xs.length):aE P t (.kp xs) i=some (vp (.kp (xs.drop k))):=by
 subst ht hk
 unfold aE;simp only[h1,h2,h3,if_neg h4,if_pos h];rfl
theorem FV (l:List ab)(k:Nat)(h:k< l.length):dH ((cl eC l).drop (k*2)) 0=some (.val (str (gt l k).1)):=by
 rw[oI]
 unfold dH
 have e:gt l k=l[k]:=by simp[gt,List.getD,List.getElem?_eq_getElem h]
 rw[show k*2+0=k*2+0 from rfl,lQ (f:=eC) l k 0 (by decide),List.getElem?_eq_getElem h,e]
 rfl
theorem tA (l:List ab)(k:Nat)(h:k< l.length):dH ((cl eC l).drop (k*2+1)) 0=some (.val (str (gt l k).2)):=by
 rw[oI]
 unfold dH
 have e:gt l k=l[k]:=by simp[gt,List.getD,List.getElem?_eq_getElem h]
 rw[show k*2+1+0=k*2+1 from rfl,lQ (f:=eC) l k 1 (by decide),List.getElem?_eq_getElem h,e]
 rfl
theorem T6 (l:List ab)(k:Nat)(h:k< l.length):dH (cl eC l) (k*2+1) =some (.val (str (gt l k).2)):=by
 have:=tA l k h;rwa [oI] at this
theorem T7 (t:ab):List.map C.noR (eC t) =eC t:=rfl
theorem Qq (t:ab):dH (eC t) 0=some (.val (str t.1)):=rfl
theorem Qr (t:ab):dH (eC t) 1=some (.val (str t.2)):=rfl
theorem T8 (a b:Value):dH [.val a,.val b] 0=some (.val a):=rfl
theorem Ua (a b:Value):dH [.val a,.val b] 1=some (.val b):=rfl
theorem JU (u:TypeDesc)(y:Nat)(z:List Value)(a e:List UInt8)(hz:z.length=2)(h1:z.all (·.oneCell') =true):j6 (some ⟨u,2,y,z⟩) 1 [(0,.agg [.val (str a),.val (str e)])] =some (vp (sl eC .full [(a,e)])):=by
 unfold j6
 simp only[hz,h1]
 rw[if_pos ⟨by decide,by decide,trivial,trivial⟩]
 have hr: (cw z 1).length=2:=by simp[cw,hz]
 unfold fW
 have hc:C.cells? (.agg [.val (str a),.val (str e)]) =some [.val (str a),.val (str e)]:=rfl
 simp only[hc]
 rw[if_pos ⟨rfl,by omega⟩]
 unfold fW
 simp only[Option.map_some,splice,Nat.zero_mul,List.take_zero,List.nil_append,Nat.zero_add]
 rw[List.drop_of_length_le (by rw[hr];exact Nat.le_refl _),List.append_nil]
 rfl
theorem Ub (a b x:C):eL [a,b] 0 [x] =some ([x,b],.val undef):=rfl
theorem Uc (a b x:C):eL [a,b] 1 [x] =some ([a,x],.val undef):=rfl
theorem Ud (a b c d x:C):eL [a,b,c,d] 0 [x] =some ([x,b,c,d],.val undef):=rfl
theorem Ue (a b c d x:C):eL [a,b,c,d] 1 [x] =some ([a,x,c,d],.val undef):=rfl
theorem Uf (a b c d x:C):eL [a,b,c,d] 2 [x] =some ([a,b,x,d],.val undef):=rfl
theorem Ug (a b c d x:C):eL [a,b,c,d] 3 [x] =some ([a,b,c,x],.val undef):=rfl
theorem Uh (a b c d x:C):Dw [a,b,c,d] 0 x=some ([x,b,c,d],.val undef):=rfl
theorem Ui (a b c d x:C):Dw [a,b,c,d] 2 x=some ([a,b,x,d],.val undef):=rfl
theorem Uj (a b c d x:C):Dw [a,b,c,d] 3 x=some ([a,b,c,x],.val undef):=rfl
theorem Uk (a b c d x y z w:C):eL [a,b,c,d] 0 [x,y,z,w] =some ([x,y,z,w],.val undef):=rfl
theorem Ul (b o:Nat):aE Tryd.prog 41 (.bp b o) 0=some (vp (.bp b (o+0))):= @ls Tryd.prog 41 0 9 0 _ _ _ _ _ _ Bg rfl rfl rfl sy (by decide) b o
theorem FW (l:List ab)(k:Nat)(h:k< l.length):aE Tryd.prog 41 (.kp ((cl eC l).drop (k*2))) 0=some (vp (.kp ((cl eC l).drop (k*2)))):=by
 have hl:=bm (f:=eC) l
 rw[@o7 Tryd.prog 41 0 9 0 _ _ _ _ _ _ Bg rfl rfl rfl sy (by decide) _ (by rw[List.length_drop,hl];omega),List.drop_drop] <;>rfl
theorem Um (b o:Nat):aE Tryd.prog 41 (.bp b o) 1=some (vp (.bp b (o+1))):= @ls Tryd.prog 41 1 9 1 _ _ _ _ _ _ Bg rfl rfl rfl sy (by decide) b o
theorem FY (l:List ab)(k:Nat)(h:k< l.length):aE Tryd.prog 41 (.kp ((cl eC l).drop (k*2))) 1=some (vp (.kp ((cl eC l).drop (k*2+1)))):=by
 have hl:=bm (f:=eC) l
 rw[@o7 Tryd.prog 41 1 9 1 _ _ _ _ _ _ Bg rfl rfl rfl sy (by decide) _ (by rw[List.length_drop,hl];omega),List.drop_drop] <;>rfl
theorem Un (b o:Nat):aE Tryd.prog 75 (.bp b o) 0=some (vp (.bp b (o+0))):= @ls Tryd.prog 75 0 9 0 _ _ _ _ _ _ Bh rfl rfl rfl sy (by decide) b o
theorem Uo (l:List ab)(k:Nat)(h:k< l.length):aE Tryd.prog 75 (.kp ((cl eC l).drop (k*2))) 0=some (vp (.kp ((cl eC l).drop (k*2)))):=by
 have hl:=bm (f:=eC) l
 rw[@o7 Tryd.prog 75 0 9 0 _ _ _ _ _ _ Bh rfl rfl rfl sy (by decide) _ (by rw[List.length_drop,hl];omega),List.drop_drop] <;>rfl
theorem Up (b o:Nat):aE Tryd.prog 75 (.bp b o) 1=some (vp (.bp b (o+1))):= @ls Tryd.prog 75 1 9 1 _ _ _ _ _ _ Bh rfl rfl rfl sy (by decide) b o
theorem Uq (l:List ab)(k:Nat)(h:k< l.length):aE Tryd.prog 75 (.kp ((cl eC l).drop (k*2))) 1=some (vp (.kp ((cl eC l).drop (k*2+1)))):=by
 have hl:=bm (f:=eC) l
 rw[@o7 Tryd.prog 75 1 9 1 _ _ _ _ _ _ Bh rfl rfl rfl sy (by decide) _ (by rw[List.length_drop,hl];omega),List.drop_drop] <;>rfl
theorem Ur (b o:Nat):aE Tryd.prog 50 (.bp b o) 0=some (vp (.bp b (o+0))):= @ls Tryd.prog 50 0 3 0 _ _ _ _ _ _ om rfl rfl rfl o9 (by decide) b o
theorem Us (a b c d:C):aE Tryd.prog 50 (.kp [a,b,c,d]) 0=some (vp (.kp ([a,b,c,d].drop 0))):= @o7 Tryd.prog 50 0 3 0 _ _ _ _ _ _ om rfl rfl rfl o9 (by decide) _ (by show 0≤4;decide)
theorem Ut (b o:Nat):aE Tryd.prog 50 (.bp b o) 1=some (vp (.bp b (o+1))):= @ls Tryd.prog 50 1 3 1 _ _ _ _ _ _ om rfl rfl rfl o9 (by decide) b o
theorem Uu (a b c d:C):aE Tryd.prog 50 (.kp [a,b,c,d]) 1=some (vp (.kp ([a,b,c,d].drop 1))):= @o7 Tryd.prog 50 1 3 1 _ _ _ _ _ _ om rfl rfl rfl o9 (by decide) _ (by show 1≤4;decide)
theorem Uv (b o:Nat):aE Tryd.prog 50 (.bp b o) 2=some (vp (.bp b (o+2))):= @ls Tryd.prog 50 2 33 2 _ _ _ _ _ _ om rfl rfl rfl Bf (by decide) b o
theorem Uw (a b c d:C):aE Tryd.prog 50 (.kp [a,b,c,d]) 2=some (vp (.kp ([a,b,c,d].drop 2))):= @o7 Tryd.prog 50 2 33 2 _ _ _ _ _ _ om rfl rfl rfl Bf (by decide) _ (by show 2≤4;decide)
theorem Ux (b o:Nat):aE Tryd.prog 50 (.bp b o) 3=some (vp (.bp b (o+3))):= @ls Tryd.prog 50 3 48 3 _ _ _ _ _ _ om rfl rfl rfl vL (by decide) b o
theorem Uy (a b c d:C):aE Tryd.prog 50 (.kp [a,b,c,d]) 3=some (vp (.kp ([a,b,c,d].drop 3))):= @o7 Tryd.prog 50 3 48 3 _ _ _ _ _ _ om rfl rfl rfl vL (by decide) _ (by show 3≤4;decide)
theorem Uz (b o:Nat):aE Tryd.prog 54 (.bp b o) 0=some (vp (.bp b (o+0))):= @ls Tryd.prog 54 0 3 0 _ _ _ _ _ _ oo rfl rfl rfl o9 (by decide) b o
theorem UA (a b c d:C):aE Tryd.prog 54 (.kp [a,b,c,d]) 0=some (vp (.kp ([a,b,c,d].drop 0))):= @o7 Tryd.prog 54 0 3 0 _ _ _ _ _ _ oo rfl rfl rfl o9 (by decide) _ (by show 0≤4;decide)
theorem UB (b o:Nat):aE Tryd.prog 54 (.bp b o) 1=some (vp (.bp b (o+1))):= @ls Tryd.prog 54 1 3 1 _ _ _ _ _ _ oo rfl rfl rfl o9 (by decide) b o
theorem UC (a b c d:C):aE Tryd.prog 54 (.kp [a,b,c,d]) 1=some (vp (.kp ([a,b,c,d].drop 1))):= @o7 Tryd.prog 54 1 3 1 _ _ _ _ _ _ oo rfl rfl rfl o9 (by decide) _ (by show 1≤4;decide)
theorem UD (b o:Nat):aE Tryd.prog 54 (.bp b o) 2=some (vp (.bp b (o+2))):= @ls Tryd.prog 54 2 24 2 _ _ _ _ _ _ oo rfl rfl rfl Ku (by decide) b o
theorem UE (a b c d:C):aE Tryd.prog 54 (.kp [a,b,c,d]) 2=some (vp (.kp ([a,b,c,d].drop 2))):= @o7 Tryd.prog 54 2 24 2 _ _ _ _ _ _ oo rfl rfl rfl Ku (by decide) _ (by show 2≤4;decide)
theorem UF (b o:Nat):aE Tryd.prog 54 (.bp b o) 3=some (vp (.bp b (o+3))):= @ls Tryd.prog 54 3 48 3 _ _ _ _ _ _ oo rfl rfl rfl vL (by decide) b o
theorem UG (a b c d:C):aE Tryd.prog 54 (.kp [a,b,c,d]) 3=some (vp (.kp ([a,b,c,d].drop 3))):= @o7 Tryd.prog 54 3 48 3 _ _ _ _ _ _ oo rfl rfl rfl vL (by decide) _ (by show 3≤4;decide)
theorem Qs (b o:Nat):aE Tryd.prog 102 (.bp b o) 0=some (vp (.bp b (o+0))):= @ls Tryd.prog 102 0 47 0 _ _ _ _ _ _ ub rfl rfl rfl Kv (by decide) b o
theorem Qt (b o:Nat):aE Tryd.prog 102 (.bp b o) 1=some (vp (.bp b (o+1))):= @ls Tryd.prog 102 1 48 1 _ _ _ _ _ _ ub rfl rfl rfl vL (by decide) b o
theorem Qu (b o:Nat):aE Tryd.prog 102 (.bp b o) 2=some (vp (.bp b (o+2))):= @ls Tryd.prog 102 2 3 2 _ _ _ _ _ _ ub rfl rfl rfl o9 (by decide) b o
theorem Qv (b o:Nat):aE Tryd.prog 102 (.bp b o) 3=some (vp (.bp b (o+3))):= @ls Tryd.prog 102 3 4 3 _ _ _ _ _ _ ub rfl rfl rfl YK (by decide) b o
attribute [go_sem] JU Ul Um Un Up Ur Us Ut Uu Uv Uw Ux Uy Uz UA UB UC UD UE UF UG Qs Qt Qu Qv
attribute [go_sem high] Uh Ui Uj T6 Ub Uc FV tA T7 Qq Qr T8 Ua Ud Ue Uf Ug Uk FW FY Uo Uq
end Go.Sx
