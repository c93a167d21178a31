/-
   And what follows.
-/
import Derived.Test.YtmoaeemdlompaaaDoorProg
import Derived.KernelRfl
import Derived.Test.YtmoaeemdlompaaaDoorPak
import Derived.Test.YtmoaeemdlompaaaDoorPaj
set_option linter.unusedSimpArgs false
set_option linter.unusedVariables false
namespace Go.Sx
open Go.RowKit
section
variable {cx:Cx} {n:Nat} {Q:Ex→St→Prop} {st:St} {G:Gh} {h:Hp} {w:World} {P:Program}
def B0:C→Bool
 | .tup _=>false
 |_=>true
theorem FH {cells:List C}(hl:bK (some cells) =some cells)(k:Nat){c':C}(hc:B0 c'=true):bK (some (cells.set k c')) =some (cells.set k c'):=by
 cases cells with
 |nil=>simp[bK]
 |cons c t=>
  cases k with
  |zero=>
   rw[List.set_cons_zero]
   unfold bK
   split
   . rename_i h2;cases h2;cases hc
   . rfl
  |succ k=>
   rw[List.set_cons_succ]
   unfold bK at hl ⊢
   split at hl
   . cases hl
   . rename_i hn
     split
     . rename_i h2;cases h2;exact absurd rfl (hn _ _)
     . rfl
theorem WorldOK.bxc (H:WorldOK G h w){b k:Nat}{c c':C}{cells:List C}(hb:h.at b=some cells)(hk:cells[k]? =some c)(hc:CLe c c')(ht:B0 c'=true):WorldOK G (h.set b (some (cells.set k c'))) w:=by
 have hlt:=eh hb
 have hlive:=FH (iF hb) k ht
 have hkl:k< cells.length:=(List.getElem?_eq_some_iff.1 hk).1
 refine ⟨H.known,fun b' c2 x=>?_,fun b' blk x=>?_,fun b1 b2 c1 c2 blk x x' y y'=>?_,H.sep,H.tlt,fun b' c2 off s m2 ys blk v x hc2 hm hv=>?_,H.siz,H.mpoT (fun k l x=>(gX hlt (s4 hlive) k l x).2) (fun _ _ _ x=>x) (.refl G),H.mpiT (fun k l x=>(gX hlt (s4 hlive) k l x).2) (fun _ _ _ _ x=>x)⟩
 . rw[cp hlt] at x
   split at x
   . rename_i e;subst e;rw[hlive] at x;cases x
     rcases H.box b' cells hb with ⟨rfl,hE⟩ | ⟨blk,cs,e,q1,q2,q3,q4,q5⟩
     . simp at hkl
     . refine .inr ⟨blk,cs,e,q1,q2,by rw[List.length_set];exact q3,?_,q5⟩
       rw[List.length_set]
       have hsz:cs.toList.length=cs.size:=by simp
       have hlen: (cells.set k c').length= (cs.toList.take cells.length).length:=by
        rw[List.length_set,List.length_take];omega
       refine RepL.of_get hlen fun i y v hy hv=>?_
       rw[List.getElem?_set] at hy
       split at hy
       . rename_i e2;subst e2
         (try rw[if_pos hkl] at hy);cases hy
         obtain ⟨v2,hv2,hr⟩:=q4.get k _ hk
         rw[hv] at hv2;cases hv2
         exact hc.1 _ _ hr
       . obtain ⟨v2,hv2,hr⟩:=q4.get i _ hy
         rw[hv] at hv2;cases hv2;exact hr
   . exact H.box b' c2 x
 . obtain ⟨⟨c0,hc0⟩,hl⟩:=H.dom b' blk x
   refine ⟨?_,hl⟩
   by_cases e:b'=b
   . subst e;exact ⟨_,by rw[List.getElem?_set_self hlt]⟩
   . exact ⟨c0,by rw[List.getElem?_set_ne (fun h=>e h.symm)];exact hc0⟩
 . have key:∀b' c2,Hp.at (h.set b (some (cells.set k c'))) b'=some c2→∃c0,h.at b'=some c0:=fun b' c2 x=>by
    rw[cp hlt] at x
    split at x
    . rename_i e;subst e;exact ⟨cells,hb⟩
    . exact ⟨c2,x⟩
   obtain ⟨d1,e1⟩:=key b1 c1 x
   obtain ⟨d2,e2⟩:=key b2 c2 x'
   exact H.inj b1 b2 d1 d2 blk e1 e2 y y'
 . rw[cp hlt] at x
   split at x
   . rename_i e;subst e;rw[hlive] at x;cases x
     rw[List.getElem?_set] at hc2
     split at hc2
     . rename_i e2;subst e2
       (try rw[if_pos hkl] at hc2);cases hc2
       rcases hc.2 s m2 ys rfl with rfl|hfull
       . exact H.own b' cells k s m2 ys blk v hb hk hm hv
       . rcases H.box b' cells hb with ⟨rfl,hE⟩ | ⟨blk2,cs,e,q1,q2,q3,q4,q5⟩
         . simp at hkl
         . obtain ⟨v2,hv2,hr⟩:=q4.get k _ hk
           rw[q1] at hm;cases hm
           obtain ⟨fr,q6,q7⟩:=q2
           rw[List.getElem?_take_of_lt hkl] at hv2
           rw[rZ q6 _ _ hv2] at hv
           cases hv
           obtain ⟨a,rfl⟩:=hfull _ _ hr
           exact .inl ⟨a,rfl⟩
     . exact H.own b' cells off s m2 ys blk v hb hc2 hm hv
   . exact H.own b' c2 off s m2 ys blk v x hc2 hm hv
theorem Tr.bxc {c:Code}{e:List (Nat×C)}{h:Hp}(b k:Nat){x:C}(x':C)(cells:List C)(hb:h.at b=some cells)(hk:cells[k]? =some x)(hc:CLe x x')(ht:B0 x'=true)(H:Tr cx n c ⟨A e,h.set b (some (cells.set k x'))⟩ Q):Tr cx n c ⟨A e,h⟩ Q:=fun r hr G w a S R hR=>
 H r hr G w a ⟨S.defers,S.size,S.pre.ok.bxc hb hk hc ht,S.pre.env,S.pre.glob⟩ R hR
theorem afg {t e:TypeId}{s y:Nat}{z:List Value}(op:BinOp){x:C}(hx:x.nilS?=some false)(hv:∀v,x≠ .val v)(h:td P t=some ⟨.slice e,s,y,z⟩)(hg:P.eqGuardType P.depth t=false):aw P op t x (.val (.slice none 0 0)) =pm op false:=by
 have he:jA P 9 t x (.val (.slice none 0 0)) =some false:=by
  unfold jA;rw[h];simp only[hx];rfl
 have h1:aw P op t x (.val (.slice none 0 0)) =gP P op t x (.val (.slice none 0 0)):=by
  cases x with
  |val v=>exact absurd rfl (hv v)
  |_=>rfl
 rw[h1]
 unfold gP
 rw[if_pos ⟨.inr (.inl ⟨by rw[hx];rfl,rfl⟩),hg⟩]
 unfold pm
 cases op<;>simp[he,vp,Plan.pure]
end
end Go.Sx
namespace Go.Sx
open Go.RowKit Go.ChangeShapes Go.WideShapes
abbrev ajb (α:Type):=α→(H:Type)→List (DataW H)→Prop
structure RdF (P:Program) (fs:List Field) (off z:Nat) {α:Type} (f:α→List C) (R:ajb α):Prop where
 rd:∀ {H:Type}{enc:TypeId×Value→H}{W:World}{base:Nat}{sp:Nat→Bool}{held:Bool}{n:Nat}{cs:List Value}{xs:List (DataW H×List MemPlace)},xs.length=fs.length→cs.length=off+z→
  (∀ (i:Nat)(fd:Field),fs[i]? =some fd→DataW.trod enc P W base sp held n fd.type ((cs.drop fd.offset).take (P.cellsOf fd.type)) =xs[i]?)→∃a,R a H (xs.map (·.1))∧RepL (GW W) (f a) (cs.drop off)∧∀u∈cs.drop off,u.oneCell'=true
end Go.Sx
namespace Go.Sx
open Go.RowKit
section
variable {cx:Cx} {n:Nat} {Q:Ex→St→Prop} {e:List (Nat×C)} {h:Hp} {b:Code} {id:Nat} {l:List Oper} {s:St}
theorem Tr.w (hcx:CxOK cx)(apps:List Nat)(dsts:List (Option Nat))(z:Hp)(h1:l.filterMap cG=apps)(h2:l.map (·.dst) =dsts)(h3:eu l=z)(H:Tr cx n b s Q)(E:∀K:St→Prop,K s→run cx apps dsts l h.length e (h++z) [] (fun _ s=>K s)):Tr cx n (.seq (.region id l.toArray false) b) ⟨A e,h⟩ Q:=
 aa fun K hK=>Tr.rg hcx apps dsts z h1 h2 h3 (E K (hK s H))
theorem Tr.v (hcx:CxOK cx)(apps:List Nat)(dsts:List (Option Nat))(z:Hp)(h1:l.filterMap cG=apps)(h2:l.map (·.dst) =dsts)(h3:eu l=z)(H:Q .normal s)(E:∀K:St→Prop,K s→run cx apps dsts l h.length e (h++z) [] (fun _ s=>K s)):Tr cx n (.region id l.toArray false) ⟨A e,h⟩ Q:=
 Tr.rg hcx apps dsts z h1 h2 h3 (E (Q .normal) H)
theorem Tr.wD (hcx:CxOK cx)(hm:cx.P.follows .mixedOrders=true)(apps:List Nat)(dsts:List (Option Nat))(z:Hp)(h1:l.filterMap cG=apps)(h2:l.map (·.dst) =dsts)(h3:eu l=z)(hs:dN l.toArray=true)(H:Tr cx n b s Q)(E:∀K:St→Prop,K s→run cx apps dsts l h.length e (h++z) [] (fun fs s=>fG l.toArray fs.reverse=true∧K s)):Tr cx n (.seq (.region id l.toArray true) b) ⟨A e,h⟩ Q:=
 aa fun K hK=>ut hcx hm apps dsts z h1 h2 h3 hs (E K (hK s H))
theorem fA (hcx:CxOK cx)(hm:cx.P.follows .mixedOrders=true)(apps:List Nat)(dsts:List (Option Nat))(z:Hp)(h1:l.filterMap cG=apps)(h2:l.map (·.dst) =dsts)(h3:eu l=z)(hs:dN l.toArray=true)(H:Q .normal s)(E:∀K:St→Prop,K s→run cx apps dsts l h.length e (h++z) [] (fun fs s=>fG l.toArray fs.reverse=true∧K s)):Tr cx n (.region id l.toArray true) ⟨A e,h⟩ Q:=
 ut hcx hm apps dsts z h1 h2 h3 hs (E (Q .normal) H)
theorem afh (hcx:CxOK cx)(gs:List Nat)(apps:List Nat)(dsts:List (Option Nat))(z:Hp)(h1:l.filterMap cG=apps)(h2:l.map (·.dst) =dsts)(h3:eu l=z)(H:Tr cx n b s Q)(E:∀K:St→Prop,K s→run (cx.grow gs) apps dsts l h.length e (h++z) [] (fun _ s=>K s)):Tr cx n (.seq (.region id l.toArray false) b) ⟨A e,h⟩ Q:=
 aa fun K hK=>Jc hcx gs apps dsts z h1 h2 h3 (E K (hK s H))
theorem afi (hcx:CxOK cx)(gs:List Nat)(apps:List Nat)(dsts:List (Option Nat))(z:Hp)(h1:l.filterMap cG=apps)(h2:l.map (·.dst) =dsts)(h3:eu l=z)(H:Q .normal s)(E:∀K:St→Prop,K s→run (cx.grow gs) apps dsts l h.length e (h++z) [] (fun _ s=>K s)):Tr cx n (.region id l.toArray false) ⟨A e,h⟩ Q:=
 Jc hcx gs apps dsts z h1 h2 h3 (E (Q .normal) H)
theorem aaM (hcx:CxOK cx)(hm:cx.P.follows .mixedOrders=true)(gs:List Nat)(apps:List Nat)(dsts:List (Option Nat))(z:Hp)(h1:l.filterMap cG=apps)(h2:l.map (·.dst) =dsts)(h3:eu l=z)(hs:dN l.toArray=true)(H:Tr cx n b s Q)(E:∀K:St→Prop,K s→run (cx.grow gs) apps dsts l h.length e (h++z) [] (fun fs s=>fG l.toArray fs.reverse=true∧K s)):Tr cx n (.seq (.region id l.toArray true) b) ⟨A e,h⟩ Q:=
 aa fun K hK=>DP hcx hm gs apps dsts z h1 h2 h3 hs (E K (hK s H))
theorem p6 (hcx:CxOK cx)(hm:cx.P.follows .mixedOrders=true)(gs:List Nat)(apps:List Nat)(dsts:List (Option Nat))(z:Hp)(h1:l.filterMap cG=apps)(h2:l.map (·.dst) =dsts)(h3:eu l=z)(hs:dN l.toArray=true)(H:Q .normal s)(E:∀K:St→Prop,K s→run (cx.grow gs) apps dsts l h.length e (h++z) [] (fun fs s=>fG l.toArray fs.reverse=true∧K s)):Tr cx n (.region id l.toArray true) ⟨A e,h⟩ Q:=
 DP hcx hm gs apps dsts z h1 h2 h3 hs (E (Q .normal) H)
theorem Tr.k (ks:List Nat){c:Code}{e':List (Nat×C)}(H:Tr cx n c ⟨A e',h⟩ Q)(E:∀R:List (Nat×C)→Prop,R e'→R (pk e ks):=by intro RZ hZ;simp only[vZ,BM,↓aY,↓reduceIte,Nat.reduceEqDiff,reduceCtorEq];exact hZ):Tr cx n c ⟨A e,h⟩ Q:=
 Tr.kp ks (E (fun x=>Tr cx n c ⟨A x,h⟩ Q) H)
theorem zh {t:Nat}{x y:Code}{d:Bool}(ht:A e t= .val (.bool d))(hd:d=true)(H:Tr cx n x ⟨A e,h⟩ Q):Tr cx n (.cond (.tmp t) x y) ⟨A e,h⟩ Q:=
 bf (ht.trans (by rw[hd])) H
theorem zi {t:Nat}{x y:Code}{d:Bool}(ht:A e t= .val (.bool d))(hd:d=false)(H:Tr cx n y ⟨A e,h⟩ Q):Tr cx n (.cond (.tmp t) x y) ⟨A e,h⟩ Q:=
 bc (ht.trans (by rw[hd])) H
end
theorem LT {p:Prop}(h:p:=by (simp only[aZ,aK,↓aY,↓reduceIte,Nat.reduceEqDiff,aC,aP,aD,aL,aQ,and_true,true_and];all_goals (repeat' first|exact CLe.refl _|exact True.intro| (refine an ?_;first|rfl| (simp only[List.take_zero];done)) |exact a7 (by omega) |exact ay (by omega) |exact aS (by omega) |exact aW (by omega) |with_reducible apply And.intro))):p:=h
theorem O1 {p:Prop}(h:p:=by first|omega| (simp only[];omega)):p:=h
theorem tI:True:=True.intro
end Go.Sx
namespace Go.Sx
open Go.RowKit
theorem vI {α:Type}(l r:List α)(x v:α)(t:Nat)(h:l.length=t): (l++x::r).set t v=l++v::r:=by
 subst h;simp
theorem jv {α:Type}(l:List α)(x v:α)(n t:Nat)(h:l.length=t)(h2:t< n): (l++List.replicate (n - t) x).set t v=l++v::List.replicate (n - 1 - t) x:=by
 have e:n - t= (n - 1 - t)+1:=by omega
 rw[e,List.replicate_succ,vI _ _ _ _ _ h]
theorem l8 {α:Type}[Inhabited α](l r:List α)(x:α)(t:Nat)(h:l.length=t):gt (l++x::r) t=x:=by
 subst h;simp[gt,List.getD]
theorem ke {α:Type}[Inhabited α](l r:List α)(t:Nat)(h:t< l.length):gt (l++r) t=gt l t:=by
 simp[gt,List.getD,List.getElem?_append_left h]
theorem cM {α:Type}[Inhabited α](l:List α)(j:Nat)(h:j< l.length):l.take (j+1) =l.take j++[gt l j]:=by
 rw[List.take_add_one,List.getElem?_eq_getElem h];simp[gt,List.getD,List.getElem?_eq_getElem h]
theorem wy {α:Type}[Inhabited α](l:List α)(j:Nat)(h:j< l.length):l.take j++[gt l j] =l.take (j+1):=(cM l j h).symm
def le (m:Nat):List UInt8:=if h:m=0 then [] else UInt8.ofNat (m % 256)::le (m / 256)
termination_by m
decreasing_by omega
theorem jw:le 0= []:=by rw[le];simp
theorem ma (m:Nat)(h:m≠0):le m=UInt8.ofNat (m % 256)::le (m / 256):=by rw[le];simp[h]
def aA (n:Int):List UInt8:=
 if 0≤n then UInt8.ofNat (128+(le n.toNat).length):: (le n.toNat).reverse
 else UInt8.ofNat (127 - (le (-1 - n).toNat).length):: ((le (-1 - n).toNat).reverse.map fun c=>255 - c)
def wb (s:List UInt8):List UInt8:=aA s.length++s
theorem ey (k:Nat):∀m,m< 256 ^ k→(le m).length≤k:=by
 induction k with
 |zero=>intro m h;have:m=0:=by simpa using h
        subst this;simp[jw]
 |succ k ih=>
  intro m h
  by_cases hm:m=0
  . subst hm;simp[jw]
  . rw[ma m hm]
    have:=ih (m / 256) (by rw[Nat.pow_succ] at h;exact Nat.div_lt_of_lt_mul (by omega))
    simp;omega
theorem nM (s:List UInt8)(h:s.length< 18446744073709551616): (wb s).length≤s.length+9:=by
 have:=ey 8 s.length (by simpa using h)
 simp[wb,aA];omega
theorem YH (s:List UInt8):1≤(wb s).length:=by
 unfold wb aA;split<;>simp<;>omega
theorem pB:∀ (k m:Nat),m< 256 ^ k→(k=0∨256 ^ (k - 1)≤m)→(le m).length=k
 |0,m,h,_=>by
  have:m=0:=by simpa using h
  subst this;simp[jw]
 |k+1,m,h,h2=>by
  have h3:256 ^ k≤m:=by simpa using h2
  have hp:0< 256 ^ k:=Nat.pow_pos (by decide)
  have hm:m≠0:=by omega
  rw[ma m hm,List.length_cons,pB k (m / 256) (by rw[Nat.pow_succ] at h;exact Nat.div_lt_of_lt_mul (by omega)) ?_]
  rcases Nat.eq_zero_or_pos k with rfl|hk
  . exact .inl rfl
  . right
    rw[Nat.le_div_iff_mul_le (by decide),←Nat.pow_succ]
    rw[show (k - 1).succ=k by omega];exact h3
def be (m k:Nat):List UInt8:=(List.range k).map fun j=>UInt8.ofNat (m>>> (8*(k - 1 - j)))
theorem ga (m k:Nat): (be m k).length=k:=by simp[be]
theorem y8 (m k j:Nat)(h:j< k):gt (be m k) j=UInt8.ofNat (m>>> (8*(k - 1 - j))):=by
 simp[be,gt,List.getD,h]
theorem PH:∀ (j m:Nat),j< (le m).length→gt (le m) j=UInt8.ofNat (m>>> (8*j))
 |0,m,h=>by
  have hm:m≠0:=by rintro rfl;simp[jw] at h
  rw[ma m hm]
  show UInt8.ofNat (m % 256) =_
  apply UInt8.toNat_inj.1;simp
 |j+1,m,h=>by
  have hm:m≠0:=by rintro rfl;simp[jw] at h
  rw[ma m hm] at h ⊢
  rw[tj,PH j (m / 256) (by simpa using h)]
  have:8*(j+1) =8+8*j:=by omega
  rw[this,Nat.shiftRight_add,show m>>>8=m / 256 from Nat.shiftRight_eq_div_pow m 8]
theorem Hl {α:Type}[Inhabited α](l:List α)(j:Nat)(h:j< l.length):gt l.reverse j=gt l (l.length - 1 - j):=by
 simp[gt,List.getD,List.getElem?_reverse h]
theorem Hm {α:Type}[Inhabited α](l l':List α)(h:l.length=l'.length)(hg:∀i< l.length,gt l i=gt l' i):l=l':=by
 apply List.ext_getElem h
 intro i h1 h2
 have:=hg i h1
 simpa[gt,List.getD,List.getElem?_eq_getElem h1,List.getElem?_eq_getElem h2] using this
theorem Ho (m:Nat): (le m).reverse=be m (le m).length:=by
 refine Hm _ _ (by simp[ga]) fun i hi=>?_
 have hi':i< (le m).length:=by simpa using hi
 rw[Hl _ _ hi',y8 _ _ _ hi',PH _ _ (by omega)]
theorem ua (x:UInt8):x ^^^ 255=255 - x:=by
 apply UInt8.toNat_inj.1
 have hx:=x.toNat_lt
 rw[UInt8.toNat_xor,UInt8.toNat_sub_of_le _ _ (by rw[UInt8.le_iff_toNat_le];show _≤255;omega)]
 show x.toNat ^^^ 255=255 - x.toNat
 have h1:BitVec.ofNat 8 x.toNat ^^^ BitVec.allOnes 8= ~~~(BitVec.ofNat 8 x.toNat):=BitVec.xor_allOnes
 have h2:=congrArg BitVec.toNat h1
 rw[BitVec.toNat_xor,BitVec.toNat_not,BitVec.toNat_ofNat,BitVec.toNat_allOnes,Nat.mod_eq_of_lt (by omega)] at h2
 simpa using h2
theorem Hq {α β:Type}[Inhabited α][Inhabited β](l:List α)(f:α→β)(j:Nat)(h:j< l.length):gt (l.map f) j=f (gt l j):=by
 simp[gt,List.getD,List.getElem?_eq_getElem h]
def wI (m:Nat)(x:UInt8):List UInt8:=(UInt8.ofNat (128+(le m).length) ^^^ x):: (be m (le m).length).map (· ^^^ x)
theorem gC (m:Nat):aA m=wI m 0:=by
 unfold aA wI
 rw[if_pos (by omega),←Ho]
 simp
theorem mb (m:Nat)(h: (le m).length≤8):aA (-1 - (m:Int)) =wI m 255:=by
 unfold aA wI
 have e: (-1 - (-1 - (m:Int))).toNat=m:=by omega
 rw[if_neg (by omega),e,←Ho]
 have h2:UInt8.ofNat (127 - (le m).length) =UInt8.ofNat (128+(le m).length) ^^^ 255:=by
  generalize (le m).length=k at h
  have key:∀k:Fin 9,UInt8.ofNat (127 - k.val) =UInt8.ofNat (128+k.val) ^^^ 255:=by decide
  exact key ⟨k,by omega⟩
 rw[h2]
 simp only[ua]
theorem rU (m k:Nat):m>>> (8*k) =m / 256 ^ k:=by
 rw[Nat.shiftRight_eq_div_pow,Nat.pow_mul]
theorem rV (m k:Nat)(h:m< 256 ^ k)(h2:¬0< k∨0< m>>> (8*(k - 1))):k= (le m).length:=by
 refine (pB k m h ?_).symm
 rcases h2 with h2|h2
 . left;omega
 . right
   rw[rU] at h2
   have hp:0< 256 ^ (k - 1):=Nat.pow_pos (by decide)
   exact (Nat.le_div_iff_mul_le hp).1 h2|> (by simpa using ·)
theorem De (m k:Nat)(_:0< k)(h2:¬0< m>>> (8*(k - 1))):m< 256 ^ (k - 1):=by
 rw[rU] at h2
 have hp:0< 256 ^ (k - 1):=Nat.pow_pos (by decide)
 have:m / 256 ^ (k - 1) =0:=Nat.eq_zero_of_not_pos h2
 exact (Nat.div_eq_zero_iff_lt hp).1 this
theorem rW (m:Nat)(x:UInt8)(a:Nat)(h:a< (le m).length): ((be m (le m).length).map (· ^^^ x)).take a++[UInt8.ofNat (m>>> (8*((le m).length - 1 - a))) ^^^ x] = ((be m (le m).length).map (· ^^^ x)).take (a+1):=by
 have hl:a< ((be m (le m).length).map (· ^^^ x)).length:=by simpa[ga] using h
 rw[cM _ _ hl,Hq _ _ _ (by rw[ga];exact h),y8 _ _ _ h]
theorem Dg (l:List UInt8)(f:UInt8→UInt8)(a:Nat)(h:a< l.length): (l.reverse.map f).take a++[f (gt l (l.length - 1 - a))] = (l.reverse.map f).take (a+1):=by
 rw[cM _ _ (by simpa using h),Hq _ _ _ (by simpa using h),Hl _ _ h]
theorem wz {α:Type}(l:List (List α))(i:Nat)(h:i< l.length): (l.take i).flatten++gt l i= (l.take (i+1)).flatten:=by
 rw[cM l i h];simp
theorem vJ {α:Type}(l:List (List α))(i:Nat)(h:i< l.length): (l.take i).flatten.length+(gt l i).length≤l.flatten.length:=by
 have e:=wz l i h
 have e2:l.flatten= (l.take (i+1)).flatten++(l.drop (i+1)).flatten:=by rw[←List.flatten_append,List.take_append_drop]
 rw[e2,List.length_append,←e,List.length_append];omega
theorem Ks {α:Type}(n:Nat)(x:α):List.replicate n x++[x] =List.replicate (n+1) x:=by rw[List.replicate_succ']
theorem vK {α:Type}(l:List α)(x y:α)(n t:Nat):l++x::List.replicate (n - 1 - t) y= (l++[x])++List.replicate (n - (t+1)) y:=by
 rw[show n - (t+1) =n - 1 - t by omega];simp
theorem Kt {α:Type}[Inhabited α](l:List α)(n t:Nat)(y:α)(h:t< l.length):l.take t++gt l t::List.replicate (n - 1 - t) y=l.take (t+1)++List.replicate (n - (t+1)) y:=by
 rw[vK,cM l t h]
end Go.Sx
namespace Go.Sx
open Go.RowKit Go.Proofs
theorem o9:td Tryd.prog 3=some ⟨.int .i64,1,8,[.int .i64 0]⟩:=by kernel_rfl
theorem YK:td Tryd.prog 4=some ⟨.bool,1,1,[.bool false]⟩:=by kernel_rfl
theorem YL:td Tryd.prog 5=some ⟨.int .u8,1,1,[.int .u8 0]⟩:=by kernel_rfl
theorem sy:td Tryd.prog 9=some ⟨.string,1,16,[.string ⟨#[]⟩]⟩:=by kernel_rfl
theorem YM:td Tryd.prog 22=some ⟨.slice 3,1,24,[.slice none 0 0]⟩:=by kernel_rfl
theorem Ku:td Tryd.prog 24=some ⟨.slice 75,1,24,[.slice none 0 0]⟩:=by kernel_rfl
theorem YN:td Tryd.prog 29=some ⟨.array 16 5,16,16,List.replicate 16 (.int .u8 0)⟩:=by kernel_rfl
theorem Bf:td Tryd.prog 33=some ⟨.slice 41,1,24,[.slice none 0 0]⟩:=by kernel_rfl
theorem YO:td Tryd.prog 39=some ⟨.slice 5,1,24,[.slice none 0 0]⟩:=by kernel_rfl
theorem Bg:td Tryd.prog 41=some ⟨.struct #[Field.mk "Key" 9 0 false "" "" 0,Field.mk "Value" 9 1 false "" "" 16],2,32,[.string ⟨#[]⟩,.string ⟨#[]⟩]⟩ :=by kernel_rfl
theorem Kv:td Tryd.prog 47=some ⟨.slice 9,1,24,[.slice none 0 0]⟩:=by kernel_rfl
theorem vL:td Tryd.prog 48=some ⟨.slice 29,1,24,[.slice none 0 0]⟩:=by kernel_rfl
theorem om:td Tryd.prog 50=some ⟨.struct #[Field.mk "First" 3 0 false "" "" 0,Field.mk "Size" 3 1 false "" "" 8,Field.mk "Leaves" 33 2 false "" "" 16,Field.mk "Sides" 48 3 false "" "" 40],4,64,[.int .i64 0,.int .i64 0,.slice none 0 0,.slice none 0 0]⟩ :=by kernel_rfl
theorem oo:td Tryd.prog 54=some ⟨.struct #[Field.mk "First" 3 0 false "" "" 0,Field.mk "Size" 3 1 false "" "" 8,Field.mk "Leaves" 24 2 false "" "" 16,Field.mk "Sides" 48 3 false "" "" 40],4,64,[.int .i64 0,.int .i64 0,.slice none 0 0,.slice none 0 0]⟩ :=by kernel_rfl
theorem aiX:td Tryd.prog 63=some ⟨.slice 54,1,24,[.slice none 0 0]⟩:=by kernel_rfl
theorem Bh:td Tryd.prog 75=some ⟨.struct #[Field.mk "Key" 9 0 false "" "" 0,Field.mk "Value" 9 1 false "" "" 16],2,32,[.string ⟨#[]⟩,.string ⟨#[]⟩]⟩ :=by kernel_rfl
theorem aiY:td Tryd.prog 91=some ⟨.slice 39,1,24,[.slice none 0 0]⟩:=by kernel_rfl
theorem ub:td Tryd.prog 102=some ⟨.struct #[Field.mk "Texts" 47 0 false "" "" 0,Field.mk "Sides" 48 1 false "" "" 24,Field.mk "Used" 3 2 false "" "" 48,Field.mk "Short" 4 3 false "" "" 56],4,64,[.slice none 0 0,.slice none 0 0,.int .i64 0,.bool false]⟩ :=by kernel_rfl
theorem PI:td Tryd.prog 116=some ⟨.int .u64,1,8,[.int .u64 0]⟩:=by kernel_rfl
theorem ad7:td Tryd.prog 141=some ⟨.array 32 5,32,32,List.replicate 32 (.int .u8 0)⟩:=by kernel_rfl
theorem ER:td Tryd.prog 151=some ⟨.int .u32,1,4,[.int .u32 0]⟩:=by kernel_rfl
theorem PJ:td Tryd.prog 152=some ⟨.array 8 151,8,32,List.replicate 8 (.int .u32 0)⟩:=by kernel_rfl
theorem PK:td Tryd.prog 153=some ⟨.array 64 5,64,64,List.replicate 64 (.int .u8 0)⟩:=by kernel_rfl
theorem za:td Tryd.prog 155=some ⟨.struct #[Field.mk "state" 152 0 false "" "passim/hash" 0,Field.mk "block" 153 8 false "" "passim/hash" 32,Field.mk "n" 116 72 false "" "passim/hash" 96],73,104,List.replicate 8 (.int .u32 0)++(List.replicate 64 (.int .u8 0)++[.int .u64 0])⟩ :=by kernel_rfl
theorem ad8:td Tryd.prog 160=some ⟨.int .u64,1,8,[.int .u64 0]⟩:=by kernel_rfl
theorem ES:td Tryd.prog 162=some ⟨.array 64 151,64,256,List.replicate 64 (.int .u32 0)⟩:=by kernel_rfl
theorem ad9:td Tryd.prog 166=some ⟨.array 4 151,4,16,List.replicate 4 (.int .u32 0)⟩:=by kernel_rfl
attribute [go_sem] o9 YK YL sy YM Ku YN Bf YO Bg Kv vL om oo aiX Bh aiY ub PI ad7 ER PJ PK za ad8 ES ad9
def kc:List (BitVec 32):=[0x428a2f98,0x71374491,0xb5c0fbcf,0xe9b5dba5,0x3956c25b,0x59f111f1,0x923f82a4,0xab1c5ed5,0xd807aa98,0x12835b01,0x243185be,0x550c7dc3,0x72be5d74,0x80deb1fe,0x9bdc06a7,0xc19bf174,0xe49b69c1,0xefbe4786,0x0fc19dc6,0x240ca1cc,0x2de92c6f,0x4a7484aa,0x5cb0a9dc,0x76f988da,0x983e5152,0xa831c66d,0xb00327c8,0xbf597fc7,0xc6e00bf3,0xd5a79147,0x06ca6351,0x14292967,0x27b70a85,0x2e1b2138,0x4d2c6dfc,0x53380d13,0x650a7354,0x766a0abb,0x81c2c92e,0x92722c85,0xa2bfe8a1,0xa81a664b,0xc24b8b70,0xc76c51a3,0xd192e819,0xd6990624,0xf40e3585,0x106aa070,0x19a4c116,0x1e376c08,0x2748774c,0x34b0bcb5,0x391c0cb3,0x4ed8aa4a,0x5b9cca4f,0x682e6ff3,0x748f82ee,0x78a5636f,0x84c87814,0x8cc70208,0x90befffa,0xa4506ceb,0xbef9a3f7,0xc67178f2]
noncomputable def Bi:Nat→C:=fun g=>if g=0∨g=2 then .kp (cl wC kc) else .top
noncomputable def af (gl:Nat→C)(M:Nat)(pu:Nat→List C→Option C):Cx:=⟨Tryd.prog,M,gl,pu,fun _ _ _=>none,fun _=>false,fun _ _=>false,true⟩
theorem YP (P:Program)(N:Nat)(gl:Nat→C)(pu:Nat→List C→Option C)(hp:Nat→List C→Hp→Option (C×Hp))(km:TypeId→Value→Bool)(d:Option Nat):nT ⟨P,N,gl,pu,hp,fun _=>false,km,true⟩ d=false:=by cases d<;>rfl
theorem YQ (gl:Nat→C)(M:Nat)(pu:Nat→List C→Option C)(d:Option Nat):nT (af gl M pu) d=false:=by cases d<;>rfl
theorem PL (gl:Nat→C)(M:Nat)(pu:Nat→List C→Option C): (af gl M pu).P=Tryd.prog:=rfl
theorem aea (gl:Nat→C)(M:Nat)(pu:Nat→List C→Option C): (af gl M pu).N=M:=rfl
theorem YR (gl:Nat→C)(M:Nat)(pu:Nat→List C→Option C): (af gl M pu).pu=pu:=rfl
theorem YS (gl:Nat→C)(M:Nat)(pu:Nat→List C→Option C): (af gl M pu).hp=fun _ _ _=>none:=rfl
theorem YT (gl:Nat→C)(M:Nat)(pu:Nat→List C→Option C): (af gl M pu).gl=gl:=rfl
theorem aeb:Bi 0= .kp (cl wC kc):=rfl
theorem aec:Bi 2= .kp (cl wC kc):=rfl
theorem ct {gl:Nat→C}{M:Nat}{pu:Nat→List C→Option C}: (af gl M pu).P.follows .mixedOrders=true:=by
 rw[PL];kernel_rfl
def mc (x:BitVec 32)(k:Nat):BitVec 32:=x<<< k|||x>>> (32 - k)
def rr (x:BitVec 32)(n:Nat):BitVec 32:=x>>>n|||x<<< (32 - n)
theorem kf (x:BitVec 32)(n m:Nat)(h:n=32 - m∧0< m∧m< 32):mc x n=rr x m:=by
 unfold mc rr
 obtain ⟨h1,h2,h3⟩:=h
 subst h1
 rw[BitVec.or_comm];congr 2;omega
theorem Hr:∀g,ah 0 (Bi g) =true:=fun g=>by
 unfold Bi;split
 . exact jB wC 0 kc
 . rfl
theorem Ht (x:BitVec 32):mc x 25=rr x 7:=kf x 25 7 (by omega)
theorem Hu (x:BitVec 32):mc x 14=rr x 18:=kf x 14 18 (by omega)
theorem Hv (x:BitVec 32):mc x 15=rr x 17:=kf x 15 17 (by omega)
theorem Hw (x:BitVec 32):mc x 13=rr x 19:=kf x 13 19 (by omega)
def bw (b:UInt8):BitVec 32:=b.toBitVec.setWidth 32
def zb (b:List UInt8)(t:Nat):BitVec 32:=bw (gt b (4*t)) <<< 24|||bw (gt b (4*t+1)) <<< 16|||bw (gt b (4*t+2)) <<< 8|||bw (gt b (4*t+3))
def bh (b:List UInt8):Nat→List (BitVec 32)
 |0=>[]
 |t+1=>bh b t++[if t< 16 then zb b t else
   gt (bh b t) (t - 16)+(rr (gt (bh b t) (t - 15)) 7 ^^^ rr (gt (bh b t) (t - 15)) 18 ^^^ gt (bh b t) (t - 15) >>>3)+gt (bh b t) (t - 7)+
    (rr (gt (bh b t) (t - 2)) 17 ^^^ rr (gt (bh b t) (t - 2)) 19 ^^^ gt (bh b t) (t - 2) >>>10)]
theorem cu (b:List UInt8):∀t,(bh b t).length=t
 |0=>rfl
 |t+1=>by simp[bh,cu b t]
def nc (l:List UInt8):BitVec 32:=l.foldl (fun a x=>a<<< 8|||bw x) 0
theorem Hx (l:List UInt8)(x:UInt8):nc (l++[x]) =nc l<<< 8|||bw x:=by simp[nc]
theorem Hy (b:List UInt8)(t:Nat)(h:4*t+4≤b.length):nc ((b.drop (4*t)).take 4) =zb b t:=by
 have e: (b.drop (4*t)).take 4= [gt b (4*t),gt b (4*t+1),gt b (4*t+2),gt b (4*t+3)]:=by
  apply List.ext_getElem?
  intro i
  rw[List.getElem?_take,List.getElem?_drop]
  rcases i with _|_|_|_|i<;>simp[gt,List.getD] <;>first| (rw[List.getElem?_eq_getElem (by omega)];simp) |omega
 rw[e]
 simp only[nc,List.foldl_cons,List.foldl_nil,zb]
 have z:∀x:BitVec 32,(0:BitVec 32) <<< 8|||x=x:=fun x=>by simp
 rw[z]
 simp only[BitVec.shiftLeft_or_distrib,←BitVec.shiftLeft_add]
theorem Kw (b:List UInt8)(t:Nat)(h:t< 64): [some (cl wC (List.replicate 64 0)),some (cl wC (bh b t++List.replicate (64 - t) 0))] = [some (cl wC (List.replicate 64 0)),some (cl wC (bh b t++nc (((b.drop (4*t)).take 4).take 0)::List.replicate (63 - t) 0))]:=by
 have e:64 - t= (63 - t)+1:=by omega
 rw[e,List.replicate_succ];rfl
theorem Hz (b:List UInt8)(t j:Nat)(h:j< ((b.drop (4*t)).take 4).length)(h2:t< 64): [some (cl wC (List.replicate 64 0)),some (cl wC (bh b t++(nc (((b.drop (4*t)).take 4).take j) <<< 8|||bw (gt ((b.drop (4*t)).take 4) j))::List.replicate (63 - t) 0))] = [some (cl wC (List.replicate 64 0)),some (cl wC (bh b t++nc (((b.drop (4*t)).take 4).take (j+1))::List.replicate (63 - t) 0))]:=by
 rw[cM _ _ h,Hx]
theorem sz (b:List UInt8)(t:Nat)(hb:b.length=64)(h:t< 16): [some (cl wC (List.replicate 64 0)),some (cl wC (bh b t++nc (((b.drop (4*t)).take 4).take 4)::List.replicate (63 - t) 0))] = [some (cl wC (List.replicate 64 0)),some (cl wC (bh b (t+1)++List.replicate (64 - (t+1)) 0))]:=by
 have e:64 - (t+1) =63 - t:=by omega
 rw[e,List.take_take,Nat.min_self,Hy b t (by omega)]
 simp only[bh,h,if_true,List.append_assoc,List.cons_append,List.nil_append]
theorem sA (b:List UInt8)(t:Nat)(h:¬t< 16):
 [some (cl wC (List.replicate 64 0)),some (cl wC (bh b t++(gt (bh b t) (t - 16)+(rr (gt (bh b t) (t - 15)) 7 ^^^ rr (gt (bh b t) (t - 15)) 18 ^^^ gt (bh b t) (t - 15) >>>3)+gt (bh b t) (t - 7)+
   (rr (gt (bh b t) (t - 2)) 17 ^^^ rr (gt (bh b t) (t - 2)) 19 ^^^ gt (bh b t) (t - 2) >>>10))::List.replicate (64 - 1 - t) 0))] = [some (cl wC (List.replicate 64 0)),some (cl wC (bh b (t+1)++List.replicate (64 - (t+1)) 0))]:=by
 have e:64 - (t+1) =64 - 1 - t:=by omega
 rw[e]
 simp only[bh,h,if_false,List.append_assoc,List.cons_append,List.nil_append]
theorem kK:kc.length=64:=id rfl
structure S8 where
 (a b c d e f g h:BitVec 32)
def rnd (k w:BitVec 32)(s:S8):S8:=
 ⟨(s.h+(rr s.e 6 ^^^ rr s.e 11 ^^^ rr s.e 25)+(s.e &&& s.f ^^^ ~~~s.e &&& s.g)+k+w)+((rr s.a 2 ^^^ rr s.a 13 ^^^ rr s.a 22)+(s.a &&& s.b ^^^ s.a &&& s.c ^^^ s.b &&& s.c)),s.a,s.b,s.c,
   s.d+(s.h+(rr s.e 6 ^^^ rr s.e 11 ^^^ rr s.e 25)+(s.e &&& s.f ^^^ ~~~s.e &&& s.g)+k+w),s.e,s.f,s.g⟩
def dM (w:List (BitVec 32))(s:S8):Nat→S8
 |0=>s
 |t+1=>rnd (gt kc t) (gt w t) (dM w s t)
def S8.l (s:S8):List (BitVec 32):=[s.a,s.b,s.c,s.d,s.e,s.f,s.g,s.h]
def S8.add (s r:S8):S8:=⟨s.a+r.a,s.b+r.b,s.c+r.c,s.d+r.d,s.e+r.e,s.f+r.f,s.g+r.g,s.h+r.h⟩
def comp (s:S8)(b:List UInt8):S8:=s.add (dM (bh b 64) s 64)
def YU (s r:S8)(i:Nat):List (BitVec 32):=[if 0< i then s.a+r.a else s.a,if 1< i then s.b+r.b else s.b,if 2< i then s.c+r.c else s.c,if 3< i then s.d+r.d else s.d,
 if 0< i then s.e+r.e else s.e,if 1< i then s.f+r.f else s.f,if 2< i then s.g+r.g else s.g,if 3< i then s.h+r.h else s.h]
theorem md (s r:S8)(i:Nat): (YU s r i).length=8:=id rfl
theorem Q4 (b o:Nat):aE Tryd.prog 155 (.bp b o) 0=some (vp (.bp b (o+0))):=by
 rw[Fj,za,Fk (h:=rfl)]
 show Iz (td Tryd.prog 152) b (o+0) =_
 rw[PJ];rfl
theorem Q5 (b o:Nat):aE Tryd.prog 155 (.bp b o) 1=some (vp (.bp b (o+8))):=by
 rw[Fj,za,Fk (h:=rfl)]
 show Iz (td Tryd.prog 153) b (o+8) =_
 rw[PK];rfl
theorem Q6 (b o:Nat):aE Tryd.prog 155 (.bp b o) 2=some (vp (.bp b (o+72))):=by
 rw[Fj,za,Fk (h:=rfl)]
 show Iz (td Tryd.prog 116) b (o+72) =_
 rw[PI];rfl
theorem dw (s:S8):s.l.length=8:=id rfl
def Z8:List (BitVec 32):=[0,0,0,0,0,0,0,0]
theorem Bj:Z8.length=8:=id rfl
structure Str where
 (s:S8) (blk:List UInt8) (n:Nat)
def Str.cells (F:Str):List C:=cl wC F.s.l++(cl bC F.blk++[.val (nU F.n)])
def IV:S8:=⟨0x6a09e667,0xbb67ae85,0x3c6ef372,0xa54ff53a,0x510e527f,0x9b05688c,0x1f83d9ab,0x5be0cd19⟩
def F0:Str:=⟨IV,List.replicate 64 0,0⟩
def push (F:Str)(x:UInt8):Str:=⟨if F.n % 64=63 then comp F.s (F.blk.set (F.n % 64) x) else F.s,F.blk.set (F.n % 64) x,F.n+1⟩
def cz (F:Str)(m:List UInt8):Str:=m.foldl push F
theorem oq (F:Str)(m t:List UInt8):cz F (m++t) =cz (cz F m) t:=by simp[cz]
theorem nN (m:List UInt8):∀F:Str,(cz F m).n=F.n+m.length:=by
 induction m with
 |nil=>intro F;rfl
 |cons x m ih=>intro F;show (cz (push F x) m).n=_;rw[ih];simp[push];omega
theorem js (m:List UInt8):∀F:Str,(cz F m).blk.length=F.blk.length:=by
 induction m with
 |nil=>intro F;rfl
 |cons x m ih=>intro F;show (cz (push F x) m).blk.length=_;rw[ih];simp[push]
theorem ot:∀ (l:List UInt8)(G:Str),G.blk.length=64→G.n % 64+l.length≤64→l≠[]→
 cz G l= ⟨if G.n % 64+l.length=64 then comp G.s (G.blk.take (G.n % 64)++l++G.blk.drop (G.n % 64+l.length)) else G.s,G.blk.take (G.n % 64)++l++G.blk.drop (G.n % 64+l.length),G.n+l.length⟩
 | [],G,_,_,h=>absurd rfl h
 | [x],G,hb,hl,_=>by
   have e:G.blk.set (G.n % 64) x=G.blk.take (G.n % 64)++[x]++G.blk.drop (G.n % 64+1):=by
    rw[List.set_eq_take_append_cons_drop,if_pos (by omega)];simp
   show push G x=_
   unfold push
   rw[e]
   simp only[List.length_singleton]
   have: (G.n % 64=63) = (G.n % 64+1=64):=by simp
   simp only[this]
 |x::y::l,G,hb,hl,_=>by
  simp only[List.length_cons] at hl
  have hne:G.n % 64≠63:=by omega
  show cz (push G x) (y::l) =_
  have hp:push G x= ⟨G.s,G.blk.set (G.n % 64) x,G.n+1⟩:=by unfold push;rw[if_neg hne]
  have hm: (G.n+1) % 64=G.n % 64+1:=by omega
  rw[hp,ot (y::l) _ (by simpa using hb) (by simp only[hm,List.length_cons];omega) (by simp)]
  simp only[hm,List.length_cons]
  have e1: (G.blk.set (G.n % 64) x).take (G.n % 64+1) =G.blk.take (G.n % 64)++[x]:=by
   rw[List.set_eq_take_append_cons_drop,if_pos (by omega)]
   rw[List.take_append,List.length_take,Nat.min_eq_left (by omega),List.take_of_length_le (by simp;omega)]
   simp
  have e2: (G.blk.set (G.n % 64) x).drop (G.n % 64+1+(l.length+1)) =G.blk.drop (G.n % 64+(l.length+1+1)):=by
   rw[List.drop_set_of_lt (by omega)];congr 1;omega
  rw[e1,e2]
  have e3: (G.n % 64+1+(l.length+1) =64) = (G.n % 64+(l.length+1+1) =64):=by rw[show G.n % 64+1+(l.length+1) =G.n % 64+(l.length+1+1) by omega]
  simp only[e3,List.append_assoc,List.cons_append,List.nil_append]
  have e4:G.n+1+(l.length+1) =G.n+(l.length+1+1):=by omega
  rw[e4]
def gb (n:Nat):Nat:=(119 - n % 64) % 64
def nd (n:Nat)(k:Nat):List UInt8:=(List.range k).map fun i=>UInt8.ofNat (n>>> (56 - 8*i))
def me (n:Nat):List UInt8:=128::List.replicate (gb n) 0++nd (8*n) 8
def YV (s:S8)(i:Nat):UInt8:=⟨(gt s.l (i / 4) >>> (24 - 8*(i % 4))).setWidth 8⟩
def pE (s:S8)(n:Nat):List UInt8:=(List.range n).map (YV s)
theorem gV (s:S8)(n:Nat): (pE s n).length=n:=by simp[pE]
def nf (F:Str):List UInt8:=pE (cz F (me F.n)).s 32
def gx (m:List UInt8):List UInt8:=nf (cz F0 m)
theorem Dh (m:List UInt8): (gx m).length=32:=gV _ _
theorem wA (n k:Nat):nd n (k+1) =nd n k++[UInt8.ofNat (n>>> (56 - 8*k))]:=by simp[nd,List.range_succ]
theorem kg (n k:Nat): (nd n k).length=k:=by simp[nd]
theorem Kx (s:S8)(k:Nat):pE s (k+1) =pE s k++[YV s k]:=by simp[pE,List.range_succ]
theorem vM (F:Str): (⟨F.s,F.blk,F.n⟩:Str) =F:=rfl
theorem uc:F0.blk.length=64:=id rfl
theorem Bl:F0.n=0:=id rfl
theorem Bm (F G:Str)(t L:List UInt8)(c:Nat)(hG:cz F (t.take c) =G)(hL:t.drop c=L)(hb:G.blk.length=64)(hne:L≠[]):
 cz F (t.take (c+min L.length (64 - G.n % 64))) = ⟨if G.n % 64+min L.length (64 - G.n % 64) =64 then comp G.s (G.blk.take (G.n % 64)++L.take (64 - G.n % 64)++G.blk.drop (G.n % 64+(L.take (64 - G.n % 64)).length)) else G.s,
  G.blk.take (G.n % 64)++L.take (64 - G.n % 64)++G.blk.drop (G.n % 64+(L.take (64 - G.n % 64)).length),G.n+min L.length (64 - G.n % 64)⟩:=by
 have hlen: (L.take (64 - G.n % 64)).length=min L.length (64 - G.n % 64):=by rw[List.length_take,Nat.min_comm]
 have e:cz F (t.take (c+min L.length (64 - G.n % 64))) =cz G (L.take (64 - G.n % 64)):=by
  rw[List.take_add,oq,hG,hL]
  congr 1
  rw[List.take_eq_take_iff];omega
 rw[e,ot _ G hb (by rw[hlen];omega) (fun h=>by
  have h2:=congrArg List.length h
  have h3:0< L.length:=List.length_pos_iff.2 hne
  rw[hlen] at h2;simp only[List.length_nil] at h2;omega)]
 simp only[hlen]
theorem Bn (S:S8)(i:Nat)(h:i< 32):pE S i++YV S i::List.replicate (32 - 1 - i) 0=pE S (i+1)++List.replicate (32 - (i+1)) 0:=by
 rw[Kx,show 32 - (i+1) =32 - 1 - i by omega];simp
theorem pc {α:Type}(l:List α)(k:Nat): (l.drop k).take (l.length - k) =l.drop k:=List.take_of_length_le (by simp)
theorem sY (op:BinOp)(a b:List UInt8)(ha:a.length=16)(hb:b.length=16):aw Tryd.prog op 29 (.agg (cl bC a)) (.agg (cl bC b)) =pm op (decide (a=b)):=Tn Tryd.prog YN YL (by kernel_rfl) op a b ha hb
theorem HA (a:List (BitVec 32))(l:List UInt8)(v:Value):bK (some (cl wC a++(cl bC l++[C.val v]))) =some (cl wC a++(cl bC l++[C.val v])):=th wC a _ (th bC l _ rfl)
attribute [go_sem] HA
attribute [go_sem] PL aea YR YS YT YQ YP Q4 Q5 Q6
end Go.Sx
namespace Go.Sx
open Go.RowKit Go.Proofs
def keyOf (key:List UInt8):List UInt8:=if key.length>64 then gx key else key
def co (tag:Int)(parts:List (List UInt8)):List UInt8:=UInt8.ofNat (tag % 256).toNat::parts.flatMap wb
theorem sZ (tag:Int)(parts:List (List UInt8))(i:Nat)(h:i< parts.length):co tag (parts.take (i+1)) =co tag (parts.take i)++wb (gt parts i):=by
 rw[cM _ _ h];simp[co]
theorem YW (tag:Int)(parts:List (List UInt8))(i:Nat): (co tag (parts.take i)).length≤(co tag parts).length:=by
 have h:=List.take_append_drop i parts
 have e:co tag parts=co tag (parts.take i)++(parts.drop i).flatMap wb:=by
  have e2:parts.flatMap wb= (parts.take i++parts.drop i).flatMap wb:=by rw[h]
  unfold co
  rw[e2,List.flatMap_append];rfl
 rw[e];simp
theorem Ky (M:List UInt8)(a:Nat)(h:64*a+64≤M.length): (cz F0 (M.take (64*(a+1)))).s=comp (cz F0 (M.take (64*a))).s ((M.drop (64*a)).take 64):=by
 have hl: ((M.drop (64*a)).take 64).length=64:=by simp;omega
 have hn:=nN (M.take (64*a)) F0
 rw[Bl,List.length_take,Nat.min_eq_left (by omega)] at hn
 have hb:=js (M.take (64*a)) F0
 rw[uc] at hb
 rw[show 64*(a+1) =64*a+64 by omega,List.take_add,oq,ot _ _ hb (by rw[hl,hn];omega) (fun e=>by rw[e] at hl;cases hl)]
 have hm: (cz F0 (M.take (64*a))).n % 64=0:=by rw[hn];omega
 simp only[hl,hm,Nat.zero_add,if_true,List.take_zero,List.nil_append]
 have hd:List.drop 64 (cz F0 (M.take (64*a))).blk= []:=List.drop_of_length_le (by rw[hb];exact Nat.le_refl _)
 rw[hd,List.append_nil]
theorem YX (b:List UInt8):gx b=pE (cz F0 (b++me b.length)).s 32:=by
 unfold gx nf
 rw[nN,Bl,Nat.zero_add,oq]
theorem Di (n:Nat): (me n).length=9+gb n:=by simp[me,kg];omega
theorem Kz (b:List UInt8):∃Q,(b++me b.length).length=64*Q:=by
 refine ⟨(b++me b.length).length / 64,?_⟩
 have: (b++me b.length).length % 64=0:=by
  rw[List.length_append,Di];unfold gb;omega
 omega
theorem HB (x:BitVec 32):x ^^^ BitVec.ofNat 32 4294967295= ~~~x:=by
 have:BitVec.ofNat 32 4294967295=BitVec.allOnes 32:=by decide
 rw[this,BitVec.xor_allOnes]
def few (l:List (List UInt8)):Bool:=decide (l.length≤12) && l.all fun s=>decide (s.length≤400)
theorem mf (F:Str): (nf F).length=32:=gV _ _
theorem sB (tag:Int)(parts:List (List UInt8))(h: (co tag parts).length< 1099511627776)(i:Nat)(hi:i< parts.length):
 (co tag (parts.take i)).length+(wb (gt parts i)).length< 1099511627776∧(gt parts i).length< 1099511627776:=by
 have h1:=YW tag parts (i+1)
 rw[sZ tag parts i hi,List.length_append] at h1
 have h2: (gt parts i).length≤(wb (gt parts i)).length:=by simp[wb]
 omega
theorem wB (tag:Int)(parts:List (List UInt8))(h: (co tag parts).length< 1099511627776):parts.length< 1099511627776:=by
 have:∀l:List (List UInt8),l.length≤(l.flatMap wb).length:=by
  intro l
  induction l with
  |nil=>simp
  |cons a l ih=>have:=YH a;simp at ih ⊢;omega
 have:=this parts
 unfold co at h
 simp only[List.length_cons] at h
 omega
end Go.Sx
namespace Go.Sx
open Go.RowKit Go.Proofs
set_option maxRecDepth 100000
set_option maxHeartbeats 8000000
theorem vN {p:Prop}(e:p:=by intro KZ hZ;simp -implicitDefEqProofs (disch:=first|omega| (simp only[go_sem,lA,lD,lT] <;>omega) |decide) only[go_sem,↓reduceIte,Nat.reduceEqDiff,reduceCtorEq,Nat.reduceLT,Nat.reduceBEq,Nat.reduceAdd,hy];exact hZ):p:=e
theorem Q8 {p:Prop}(e:p:=by simp -implicitDefEqProofs (disch:=first|omega| (simp only[go_sem,lA,lD,lT] <;>omega) |decide) only[go_sem,↓reduceIte,Nat.reduceEqDiff,reduceCtorEq];all_goals (rfl)):p:=e
theorem aed {gl:Nat→C}{M:Nat}{pu:Nat→List C→Option C}(hcx:CxOK (af gl M pu))(x:BitVec 32)(k:Int):FC Tryd.prog gl 117 [.val (bE x),.val (.int .i64 k)] [] (.val (bE (mc x ((k % 18446744073709551616).toNat % 32)))) []:=by
 replace hcx:=hcx.reN (M:=17)
 refine aB (cx:=af gl 17 pu) (rs:=[.tmp 4]) rfl Tryd.func117 rfl rfl rfl (by simp only[List.length_cons,List.length_nil];decide) (by simp only[go_sem]) ?_
 simp only[bq,go_sem]
 have hy:=True.intro
 refine Tr.w hcx [] _ [] rfl rfl rfl ?_ vN
 refine Tr.w hcx [1000008] _ [] rfl rfl rfl ?_ vN
 refine Tr.w hcx [1000016] _ [] rfl rfl rfl ?_ vN
 exact Tr.ret Q8
theorem Dj {p:Prop}(e:p:=by intro KZ hZ;simp -implicitDefEqProofs (disch:=first|omega| (simp only[go_sem,lA,lD,lT] <;>omega) |decide) only[go_sem,↓reduceIte,Nat.reduceEqDiff,reduceCtorEq,Nat.reduceLT,Nat.reduceBEq,Nat.reduceAdd,h117,hy];exact hZ):p:=e
theorem Q9 {p:Prop}(e:p:=by simp -implicitDefEqProofs (disch:=first|omega| (simp only[go_sem,lA,lD,lT] <;>omega) |decide) only[go_sem,↓reduceIte,Nat.reduceEqDiff,reduceCtorEq];all_goals (rw[kf x _ i (by omega),kf x _ j (by omega),kf x _ k (by omega)])):p:=e
theorem aee {gl:Nat→C}{M:Nat}{pu:Nat→List C→Option C}(hcx:CxOK (af gl M pu))(h117:∀x k,pu 117 [.val (bE x),.val (.int .i64 k)] =some (.val (bE (mc x ((k % 18446744073709551616).toNat % 32)))))(x:BitVec 32)(i j k:Nat)(hi:0< i∧i< 32)(hj:0< j∧j< 32)(hk:0< k∧k< 32):FC Tryd.prog gl 116 [.val (bE x),.val (nI i),.val (nI j),.val (nI k)] [] (.val (bE (rr x i ^^^ rr x j ^^^ rr x k))) []:=by
 replace hcx:=hcx.reN (M:=23)
 refine aB (cx:=af gl 23 pu) (rs:=[.tmp 8]) rfl Tryd.func116 rfl rfl rfl (by simp only[List.length_cons,List.length_nil];decide) (by simp only[go_sem]) ?_
 simp only[bq,go_sem]
 have hy:=True.intro
 refine Tr.w hcx [] _ [] rfl rfl rfl ?_ Dj
 refine Tr.w hcx [1000022] _ [] rfl rfl rfl ?_ Dj
 exact Tr.ret Q9
theorem Ra {p:Prop}(e:p:=by intro KZ hZ;simp -implicitDefEqProofs (disch:=first|omega| (simp only[go_sem,lA,lD,lT] <;>omega) |decide) only[go_sem,↓reduceIte,Nat.reduceEqDiff,reduceCtorEq,Nat.reduceLT,Nat.reduceBEq,Nat.reduceAdd,hy];exact hZ):p:=e
theorem Rb {p:Prop}(e:p:=by intro KZ hZ;simp -implicitDefEqProofs (disch:=first|omega| (simp only[go_sem,lA,lD,lT] <;>omega) |decide) only[go_sem,↓reduceIte,Nat.reduceEqDiff,reduceCtorEq,Nat.reduceLT,Nat.reduceBEq,Nat.reduceAdd,hy];refine And.intro ?_ hZ;exact rfl):p:=e
theorem Rc {p:Prop}(e:p:=by simp -implicitDefEqProofs (disch:=first|omega| (simp only[go_sem,lA,lD,lT] <;>omega) |decide) only[go_sem,↓reduceIte,Nat.reduceEqDiff,reduceCtorEq];all_goals (rfl)):p:=e
theorem aef {gl:Nat→C}{M:Nat}{pu:Nat→List C→Option C}(hcx:CxOK (af gl M pu))(x:BitVec 32)(n:Nat)(hn:n< 32):FC Tryd.prog gl 110 [.val (bE x),.val (nI n)] [] (.val (bE (rr x n))) []:=by
 replace hcx:=hcx.reN (M:=13)
 refine aB (cx:=af gl 13 pu) (rs:=[.tmp 4]) rfl Tryd.func110 rfl rfl rfl (by simp only[List.length_cons,List.length_nil];decide) (by simp only[go_sem]) ?_
 simp only[bq,go_sem]
 have hy:=True.intro
 refine Tr.w hcx [] _ [] rfl rfl rfl ?_ Ra
 refine Tr.wD hcx ct [1000012] _ [] rfl rfl rfl rfl ?_ Rb
 exact Tr.ret Rc
theorem dX {p:Prop}(e:p:=by intro KZ hZ;simp -implicitDefEqProofs (disch:=first|omega| (simp only[go_sem,lA,lD,lT,cu,hb] <;>omega) |decide) only[go_sem,↓reduceIte,Nat.reduceEqDiff,reduceCtorEq,Nat.reduceLT,Nat.reduceBEq,Nat.reduceAdd,Nat.reduceSub,Nat.reduceMul,Nat.reduceMod,Int.reduceMod,Int.reduceToNat,Int.reduceNeg,h117,ke,l8,vI,jv,cu,Ht,Hu,Hv,Hw,hy];exact hZ):p:=e
theorem Dk {p:Prop}(e:p:=by intro KZ hZ;simp -implicitDefEqProofs (disch:=first|omega| (simp only[go_sem,lA,lD,lT,cu,hb] <;>omega) |decide) only[go_sem,↓reduceIte,Nat.reduceEqDiff,reduceCtorEq,Nat.reduceLT,Nat.reduceBEq,Nat.reduceAdd,Nat.reduceSub,Nat.reduceMul,Nat.reduceMod,Int.reduceMod,Int.reduceToNat,Int.reduceNeg,h117,ke,l8,vI,jv,cu,Ht,Hu,Hv,Hw,hy];refine And.intro ?_ hZ;exact rfl):p:=e
theorem Rd {p:Prop}(e:p:=by simp -implicitDefEqProofs (disch:=first|omega| (simp only[go_sem,lA,lD,lT,cu,hb] <;>omega) |decide) only[go_sem,↓reduceIte,Nat.reduceEqDiff,reduceCtorEq];all_goals (simp[List.take_of_length_le,cu])):p:=e
theorem aeg {gl:Nat→C}{M:Nat}{pu:Nat→List C→Option C}(hcx:CxOK (af gl M pu))(h117:∀x k,pu 117 [.val (bE x),.val (.int .i64 k)] =some (.val (bE (mc x ((k % 18446744073709551616).toNat % 32)))))(b:List UInt8)(hb:b.length=64):FC Tryd.prog gl 115 [sl bC .no b] [] (.agg (cl wC (bh b 64))) []:=by
 replace hcx:=hcx.reN (M:=79)
 refine aB (cx:=af gl 79 pu) (rs:=[.cell 2 162]) rfl Tryd.func115 rfl rfl rfl (by simp only[List.length_cons,List.length_nil];decide) (by simp only[go_sem]) ?_
 simp only[bq,go_sem]
 have hy:=True.intro
 refine Tr.w hcx [] _ [none] rfl rfl rfl ?_ dX
 refine Tr.w hcx [] _ [none] rfl rfl rfl ?_ dX
 refine aa fun K1 hK1=>?_
 refine Tr.w hcx [] _ [] rfl rfl rfl ?_ dX
 refine Tr.k [0,2,3,11] ?_
 refine Tr.blk ?_
 refine aN (α:=Nat) (fun a=>[(0,?v0_1),(2,?v2_1),(3,?v3_1),(11,.val (nI a))]) (fun a=>[some (cl wC (List.replicate 64 0)),some (cl wC (bh b a++List.replicate (64 - a) 0))]) (fun a=>a≤64) (fun a=>64 - a) (0) ?_ ?le_1 ?hh_1 ?bd_1
 case hh_1=>exact rfl
 case le_1=>exact LT
 . omega
 rintro t ht
 refine Tr.w hcx [] _ [] rfl rfl rfl ?_ dX
 refine aa fun K2 hK2=>?_
 refine aq rfl (fun hc12=>?_) (fun hc12=>?_)
 ·
  refine Tr.skip ?_
  refine hK2 _ ?_
  refine aa fun K3 hK3=>?_
  refine Tr.blk ?_
  refine Tr.w hcx [1000013] _ [] rfl rfl rfl ?_ dX
  refine aa fun K4 hK4=>?_
  refine Tr.w hcx [] _ [] rfl rfl rfl ?_ dX
  refine aq rfl (fun hc15=>?_) (fun hc15=>?_)
  ·
   refine aa fun K5 hK5=>?_
   refine Tr.w hcx [] _ [] rfl rfl rfl ?_ dX
   refine Tr.k [0,2,3,4,11,22,23,24] ?_
   refine Tr.blk ?_
   refine aN (α:=Nat) (fun a=>[(0,?v0_2),(2,?v2_2),(3,?v3_2),(4,?v4_2),(11,?v11_2),(22,?v22_2),(23,?v23_2),(24,.val (nI a))]) (fun a=>[some (cl wC (List.replicate 64 0)),some (cl wC (bh b t++nc (((b.drop (4*t)).take 4).take a)::List.replicate (63 - t) 0))]) (fun a=>a≤4) (fun a=>4 - a) (0) ?_ ?le_2 ?hh_2 ?bd_2
   case hh_2=>exact Kw b t (by omega)
   case le_2=>exact LT
   . omega
   rintro j hj
   have hl4: (List.take 4 (List.drop (4*t) b)).length=4:=by simp;omega
   refine Tr.w hcx [] _ [] rfl rfl rfl ?_ dX
   refine aa fun K6 hK6=>?_
   refine aq rfl (fun hc25=>?_) (fun hc25=>?_)
   ·
    refine Tr.skip ?_
    refine hK6 _ ?_
    refine aa fun K7 hK7=>?_
    refine Tr.blk ?_
    refine Tr.w hcx [1000027] _ [] rfl rfl rfl ?_ dX
    refine Tr.v hcx [] _ [] rfl rfl rfl ?_ dX
    refine hK7 _ ?_
    refine Tr.v hcx [] _ [] rfl rfl rfl ?_ dX
    exact ⟨j+1,⟨by omega,O1⟩,LT,Hz b t j (by omega) (by omega)⟩
   obtain rfl:j=4:=by omega
   refine Tr.exit ?_
   refine hK5 _ ?_
   refine Tr.exit ?_
   refine hK3 _ ?_
   refine Tr.v hcx [] _ [] rfl rfl rfl ?_ dX
   exact ⟨t+1,⟨by omega,O1⟩,LT,by first|exact sz b t hb (by omega) |exact sA b t (by omega)⟩
  refine Tr.skip ?_
  refine hK4 _ ?_
  refine Tr.wD hcx ct [1000041,1000045] _ [] rfl rfl rfl rfl ?_ Dk
  refine Tr.k [0,2,3,4,7,8,11] ?_
  refine Tr.w hcx [1000053] _ [] rfl rfl rfl ?_ dX
  refine Tr.w hcx [1000061] _ [] rfl rfl rfl ?_ dX
  refine Tr.k [0,2,3,4,9,10,11] ?_
  refine fA hcx ct [] _ [] rfl rfl rfl rfl ?_ Dk
  refine hK3 _ ?_
  refine Tr.v hcx [] _ [] rfl rfl rfl ?_ dX
  exact ⟨t+1,⟨by omega,O1⟩,LT,by first|exact sz b t hb (by omega) |exact sA b t (by omega)⟩
 obtain rfl:t=64:=by omega
 refine Tr.exit ?_
 refine hK1 _ ?_
 refine Tr.w hcx [] _ [] rfl rfl rfl ?_ dX
 exact Tr.ret Rd
theorem fh {p:Prop}(e:p:=by intro KZ hZ;simp -implicitDefEqProofs (disch:=first|omega| (simp only[go_sem,lA,lD,lT,cu,hb,kK,md,S8.l] <;>omega) |decide) only[go_sem,↓reduceIte,Nat.reduceEqDiff,reduceCtorEq,Nat.reduceLT,Nat.reduceBEq,Nat.reduceAdd,hg1,h116,h115,cu,S8.l,kK,md,hy];exact hZ):p:=e
theorem nO {p:Prop}(e:p:=by intro KZ hZ;simp -implicitDefEqProofs (disch:=first|omega| (simp only[go_sem,lA,lD,lT,cu,hb,kK,md,S8.l] <;>omega) |decide) only[go_sem,↓reduceIte,Nat.reduceEqDiff,reduceCtorEq,Nat.reduceLT,Nat.reduceBEq,Nat.reduceAdd,hg1,h116,h115,cu,S8.l,kK,md,hy];refine And.intro ?_ hZ;exact rfl):p:=e
theorem Re {p:Prop}(e:p:=by simp -implicitDefEqProofs (disch:=first|omega| (simp only[go_sem,lA,lD,lT,cu,hb,kK,md,S8.l] <;>omega) |decide) only[go_sem,↓reduceIte,Nat.reduceEqDiff,reduceCtorEq];all_goals (subst hr;rfl)):p:=e
theorem aeh {gl:Nat→C}{M:Nat}{pu:Nat→List C→Option C}(hcx:CxOK (af gl M pu))(hg1:gl 2= .kp (cl wC kc))(h116:∀x i j k,0< i∧i< 32→0< j∧j< 32→0< k∧k< 32→pu 116 [.val (bE x),.val (nI i),.val (nI j),.val (nI k)] =some (.val (bE (rr x i ^^^ rr x j ^^^ rr x k))))(h115:∀b:List UInt8,b.length=64→pu 115 [sl bC .no b] =some (.agg (cl wC (bh b 64))))(s:S8)(b:List UInt8)(hb:b.length=64):FC Tryd.prog gl 113 [.agg (cl wC s.l),sl bC .no b] [] (.agg (cl wC (comp s b).l)) []:=by
 replace hcx:=hcx.reN (M:=116)
 refine aB (cx:=af gl 116 pu) (rs:=[.cell 4 152]) rfl Tryd.func113 rfl rfl rfl (by simp only[List.length_cons,List.length_nil];decide) (by simp only[go_sem]) ?_
 simp only[bq,go_sem]
 have hy:=True.intro
 refine Tr.w hcx [] _ [none,none] rfl rfl rfl ?_ fh
 refine Tr.w hcx [] _ [none] rfl rfl rfl ?_ fh
 refine Tr.wD hcx ct [] _ [none,none] rfl rfl rfl rfl ?_ nO
 refine aa fun K1 hK1=>?_
 refine Tr.w hcx [] _ [] rfl rfl rfl ?_ fh
 refine Tr.k [2,4,5,6,7,21,22] ?_
 refine Tr.blk ?_
 refine aN (α:=Nat) (fun a=>[(2,?v2_1),(4,?v4_1),(5,?v5_1),(6,?v6_1),(7,?v7_1),(21,?v21_1),(22,.val (nI a))]) (fun a=>[some (cl wC s.l),some (cl wC (List.replicate 8 0)),some (cl wC (bh b 64)),some (cl wC [(dM (bh b 64) s a).a,(dM (bh b 64) s a).b,(dM (bh b 64) s a).c,(dM (bh b 64) s a).d]),some (cl wC [(dM (bh b 64) s a).e,(dM (bh b 64) s a).f,(dM (bh b 64) s a).g,(dM (bh b 64) s a).h])]) (fun a=>a≤64) (fun a=>64 - a) (0) ?_ ?le_1 ?hh_1 ?bd_1
 case hh_1=>exact rfl
 case le_1=>exact LT
 . omega
 rintro t ht
 generalize hr:dM (bh b 64) s t=r
 refine Tr.w hcx [] _ [] rfl rfl rfl ?_ fh
 refine aa fun K2 hK2=>?_
 refine aq rfl (fun hc23=>?_) (fun hc23=>?_)
 ·
  refine Tr.skip ?_
  refine hK2 _ ?_
  refine aa fun K3 hK3=>?_
  refine Tr.blk ?_
  refine Tr.w hcx [1000024,1000025] _ [] rfl rfl rfl ?_ fh
  refine Tr.k [2,4,5,6,7,8,9,21,22] ?_
  refine Tr.wD hcx ct [1000050] _ [] rfl rfl rfl rfl ?_ nO
  refine Tr.k [2,4,5,6,7,10,21,22] ?_
  refine Tr.wD hcx ct [1000071] _ [] rfl rfl rfl rfl ?_ nO
  refine Tr.k [2,4,5,6,7,10,11,21,22] ?_
  refine Tr.w hcx [] _ [] rfl rfl rfl ?_ fh
  refine Tr.k [2,4,5,6,7,10,11,21,22] ?_
  refine Tr.v hcx [] _ [] rfl rfl rfl ?_ fh
  refine hK3 _ ?_
  refine Tr.v hcx [] _ [] rfl rfl rfl ?_ fh
  exact ⟨t+1,⟨by omega,O1⟩,LT,by simp only[dM,hr];rfl⟩
 obtain rfl:t=64:=by omega
 refine Tr.exit ?_
 refine hK1 _ ?_
 refine aa fun K4 hK4=>?_
 refine Tr.w hcx [] _ [] rfl rfl rfl ?_ fh
 refine Tr.k [2,4,6,7,94] ?_
 refine Tr.blk ?_
 refine aN (α:=Nat) (fun a=>[(2,?v2_2),(4,?v4_2),(6,?v6_2),(7,?v7_2),(94,.val (nI a))]) (fun a=>[some (cl wC (YU s r a)),some (cl wC (List.replicate 8 0)),some (cl wC (bh b 64)),some (cl wC [r.a,r.b,r.c,r.d]),some (cl wC [r.e,r.f,r.g,r.h])]) (fun a=>a≤4) (fun a=>4 - a) (0) ?_ ?le_2 ?hh_2 ?bd_2
 case hh_2=>exact rfl
 case le_2=>exact LT
 . omega
 rintro i hi
 refine Tr.w hcx [] _ [] rfl rfl rfl ?_ fh
 refine aa fun K5 hK5=>?_
 refine aq rfl (fun hc95=>?_) (fun hc95=>?_)
 ·
  refine Tr.skip ?_
  refine hK5 _ ?_
  refine aa fun K6 hK6=>?_
  refine Tr.blk ?_
  refine Tr.w hcx [1000096] _ [] rfl rfl rfl ?_ fh
  refine Tr.wD hcx ct [] _ [] rfl rfl rfl rfl ?_ nO
  refine fA hcx ct [] _ [] rfl rfl rfl rfl ?_ nO
  refine hK6 _ ?_
  refine Tr.k [2,4,6,7,94] ?_
  refine Tr.v hcx [] _ [] rfl rfl rfl ?_ fh
  exact ⟨i+1,⟨by omega,O1⟩,LT,by rcases (show i=0∨i=1∨i=2∨i=3 by omega) with rfl|rfl|rfl|rfl<;>rfl⟩
 obtain rfl:i=4:=by omega
 refine Tr.exit ?_
 refine hK4 _ ?_
 refine Tr.w hcx [] _ [] rfl rfl rfl ?_ fh
 exact Tr.ret Re
end Go.Sx
namespace Go.Sx
open Go.RowKit Go.Proofs
set_option maxRecDepth 100000
set_option maxHeartbeats 8000000
theorem Dl {p:Prop}(e:p:=by intro KZ hZ;simp -implicitDefEqProofs (disch:=first|omega| (simp only[go_sem,lA,lD,lT] <;>omega) |decide) only[go_sem,↓reduceIte,Nat.reduceEqDiff,reduceCtorEq,Nat.reduceLT,Nat.reduceBEq,Nat.reduceAdd,hy];exact hZ):p:=e
theorem Rf {p:Prop}(e:p:=by simp -implicitDefEqProofs (disch:=first|omega| (simp only[go_sem,lA,lD,lT] <;>omega) |decide) only[go_sem,↓reduceIte,Nat.reduceEqDiff,reduceCtorEq];all_goals (rfl)):p:=e
theorem aei {gl:Nat→C}{M:Nat}{pu:Nat→List C→Option C}(hcx:CxOK (af gl M pu)):FC Tryd.prog gl 103 ([]:List C) [] (.agg F0.cells) []:=by
 replace hcx:=hcx.reN (M:=3)
 refine aB (cx:=af gl 3 pu) (rs:=[.cell 0 155]) rfl Tryd.func103 rfl rfl rfl (by simp only[List.length_cons,List.length_nil];decide) (by simp only[Str.cells,d7,mZ,m0,fv,dU,jB,cV,c7,lE,Bool.and_self,Bool.and_true]) ?_
 simp only[bq,go_sem]
 have hy:=True.intro
 refine Tr.w hcx [] _ [none] rfl rfl rfl ?_ Dl
 refine Tr.w hcx [] _ [] rfl rfl rfl ?_ Dl
 exact Tr.ret Rf
theorem jx {p:Prop}(e:p:=by intro KZ hZ;simp -implicitDefEqProofs (disch:=first|omega| (simp only[go_sem,lA,lD,lT,dw,Bj] <;>omega) |decide) only[go_sem,↓reduceIte,Nat.reduceEqDiff,reduceCtorEq,Nat.reduceLT,Nat.reduceBEq,Nat.reduceAdd,Str.cells,h113,hno,dw,pc,hy];exact hZ):p:=e
theorem Rg {p:Prop}(e:p:=by intro KZ hZ;simp -implicitDefEqProofs (disch:=first|omega| (simp only[go_sem,lA,lD,lT,dw,Bj] <;>omega) |decide) only[go_sem,↓reduceIte,Nat.reduceEqDiff,reduceCtorEq,Nat.reduceLT,Nat.reduceBEq,Nat.reduceAdd,Str.cells,h113,hno,dw,pc,hy];refine And.intro ?_ hZ;exact rfl):p:=e
theorem Rh {p:Prop}(e:p:=by simp -implicitDefEqProofs (disch:=first|omega| (simp only[go_sem,lA,lD,lT,dw,Bj] <;>omega) |decide) only[go_sem,↓reduceIte,Nat.reduceEqDiff,reduceCtorEq];all_goals (rw[hGe];rfl)):p:=e
theorem aej {gl:Nat→C}{M:Nat}{pu:Nat→List C→Option C}(hcx:CxOK (af gl M pu))(h113:∀ (s:S8) (b:List UInt8),b.length=64→pu 113 [.agg (cl wC s.l),sl bC .no b] =some (.agg (cl wC (comp s b).l)))(hno:∀ (g:Nat) (xs:List C),dK xs=true→pu g xs=none)(F:Str)(t:List UInt8)(hb:F.blk.length=64)(hn:F.n+t.length< 1152921504606846976):FC Tryd.prog gl 104 [.agg F.cells,.val (str t)] [] (.agg (cz F t).cells) []:=by
 replace hcx:=hcx.reN (M:=38)
 refine aB (cx:=af gl 38 pu) (rs:=[.cell 4 155]) rfl Tryd.func104 rfl rfl rfl (by simp only[List.length_cons,List.length_nil];decide) (by simp only[Str.cells,d7,mZ,m0,fv,dU,jB,cV,c7,lE,Bool.and_self,Bool.and_true]) ?_
 simp only[bq,go_sem]
 have hy:=True.intro
 refine Tr.w hcx [] _ [none,none] rfl rfl rfl ?_ jx
 refine Tr.k [1,2,4] ?_
 refine aa fun K1 hK1=>?_
 refine Tr.blk ?_
 refine aN (α:=Nat) (fun a=>[(1,.val (str (t.drop a))),(2,?v2_1),(4,?v4_1)]) (fun a=>[some (cz F (t.take a)).cells,some (cl wC Z8++(cl bC (List.replicate 64 0)++[.val (nU 0)]))]) (fun a=>a≤t.length) (fun a=>t.length - a) (0) ?_ ?le_1 ?hh_1 ?bd_1
 case hh_1=>exact rfl
 case le_1=>exact LT
 . omega
 rintro c hc
 have hGn:=nN (t.take c) F
 have hGb:=js (t.take c) F
 rw[hb] at hGb
 rw[List.length_take,Nat.min_eq_left hc] at hGn
 have hdl: (t.drop c).length=t.length - c:=List.length_drop
 generalize hG:cz F (t.take c) =G at*
 generalize hL:t.drop c=L at*
 refine aa fun K2 hK2=>?_
 refine Tr.w hcx [] _ [] rfl rfl rfl ?_ jx
 refine aq rfl (fun hc8=>?_) (fun hc8=>?_)
 ·
  have hlp:0< L.length:=List.length_pos_iff.2 hc8
  refine Tr.skip ?_
  refine hK2 _ ?_
  refine Tr.blk ?_
  refine Tr.w hcx [1000012] _ [] rfl rfl rfl ?_ jx
  refine Tr.w hcx [1000017] _ [] rfl rfl rfl ?_ jx
  refine Tr.w hcx [1000020] _ [] rfl rfl rfl ?_ jx
  refine Tr.w hcx [] _ [] rfl rfl rfl ?_ jx
  refine Tr.k [1,2,4,5,6] ?_
  refine Tr.w hcx [] _ [] rfl rfl rfl ?_ jx
  refine aq rfl (fun hc30=>?_) (fun hc30=>?_)
  ·
   refine fA hcx ct [] _ [] rfl rfl rfl rfl ?_ Rg
   refine ⟨c+min L.length (64 - G.n % 64),⟨by omega,O1⟩,?_,by dsimp only;rw[Bm F G t L c hG hL hGb hc8];first| (rw[if_pos hc30] <;>rfl) | (rw[if_neg hc30] <;>rfl)⟩
   (simp only[aZ,aK,↓aY,↓reduceIte,Nat.reduceEqDiff,aC,aP,aD,aL,aQ,and_true,true_and];all_goals (repeat' first|exact CLe.refl _|exact True.intro| (refine an ?_;first|rfl| (simp only[List.take_zero];done)) |exact a7 (by omega) |exact ay (by omega) |exact aS (by omega) |exact aW (by omega) |with_reducible apply And.intro))
   all_goals (rw[←hL,List.drop_drop];exact CLe.refl _)
  refine Tr.skip ?_
  refine ⟨c+min L.length (64 - G.n % 64),⟨by omega,O1⟩,?_,by dsimp only;rw[Bm F G t L c hG hL hGb hc8];first| (rw[if_pos hc30] <;>rfl) | (rw[if_neg hc30] <;>rfl)⟩
  (simp only[aZ,aK,↓aY,↓reduceIte,Nat.reduceEqDiff,aC,aP,aD,aL,aQ,and_true,true_and];all_goals (repeat' first|exact CLe.refl _|exact True.intro| (refine an ?_;first|rfl| (simp only[List.take_zero];done)) |exact a7 (by omega) |exact ay (by omega) |exact aS (by omega) |exact aW (by omega) |with_reducible apply And.intro))
  all_goals (rw[←hL,List.drop_drop];exact CLe.refl _)
 have hL0:L= []:=Classical.not_not.1 hc8
 have hc0:c=t.length:=by rw[hL0] at hdl;simp only[List.length_nil] at hdl;omega
 have hGe:cz F t=G:=by rw[←hG,hc0,List.take_length]
 refine Tr.exit ?_
 refine hK1 _ ?_
 refine Tr.w hcx [] _ [] rfl rfl rfl ?_ jx
 exact Tr.ret Rh
theorem dA {p:Prop}(e:p:=by intro KZ hZ;simp -implicitDefEqProofs (disch:=first|omega| (simp only[go_sem,lA,lD,lT,dw,kg,gV,js,hb] <;>omega) |decide) only[go_sem,↓reduceIte,Nat.reduceEqDiff,reduceCtorEq,Nat.reduceLT,Nat.reduceBEq,Nat.reduceAdd,Str.cells,h104,dw,kg,gV,jv,vM,hy];exact hZ):p:=e
theorem Ri {p:Prop}(e:p:=by simp -implicitDefEqProofs (disch:=first|omega| (simp only[go_sem,lA,lD,lT,dw,kg,gV,js,hb] <;>omega) |decide) only[go_sem,↓reduceIte,Nat.reduceEqDiff,reduceCtorEq];all_goals (simp[nf,gV])):p:=e
theorem aek {gl:Nat→C}{M:Nat}{pu:Nat→List C→Option C}(hcx:CxOK (af gl M pu))(h104:∀ (s:S8) (blk:List UInt8) (n:Nat) (t:List UInt8),blk.length=64→n+t.length< 1152921504606846976→pu 104 [.agg (cl wC s.l++(cl bC blk++[.val (nU n)])),.val (str t)] =some (.agg (cz ⟨s,blk,n⟩ t).cells))(F:Str)(hb:F.blk.length=64)(hn:F.n< 576460752303423488):FC Tryd.prog gl 105 [.agg F.cells] [] (.agg (cl bC (nf F))) []:=by
 replace hcx:=hcx.reN (M:=58)
 refine aB (cx:=af gl 58 pu) (rs:=[.cell 2 141]) rfl Tryd.func105 rfl rfl rfl (by simp only[List.length_cons,List.length_nil];decide) (by simp only[go_sem]) ?_
 simp only[bq,go_sem]
 have hy:=True.intro
 have hz:gb F.n< 64:=Nat.mod_lt _ (by decide)
 refine Tr.w hcx [] _ [none,none] rfl rfl rfl ?_ dA
 refine Tr.w hcx [1000010] _ [] rfl rfl rfl ?_ dA
 refine Tr.w hcx [1000011] _ [] rfl rfl rfl ?_ dA
 refine Tr.k [1,2,3,4] ?_
 refine aa fun K1 hK1=>?_
 refine Tr.blk ?_
 refine aN (α:=Nat) (fun a=>[(1,?v1_1),(2,?v2_1),(3,?v3_1),(4,sl bC (.own 1) (128::List.replicate a 0))]) (fun a=>[some F.cells,some (cl bC (List.replicate 32 0))]) (fun a=>a≤gb F.n) (fun a=>gb F.n - a) (0) ?_ ?le_1 ?hh_1 ?bd_1
 case hh_1=>exact rfl
 case le_1=>(simp only[aZ,aK,↓aY,↓reduceIte,Nat.reduceEqDiff,aC,aP,aD,aL,aQ,and_true,true_and];all_goals (repeat' first|exact CLe.refl _|exact True.intro| (refine an ?_;first|rfl| (simp only[List.take_zero];done)) |exact a7 (by omega) |exact ay (by omega) |exact aS (by omega) |exact aW (by omega) |with_reducible apply And.intro));exact CLe.full _ _ _
 . omega
 rintro z hzz
 refine aa fun K2 hK2=>?_
 refine Tr.w hcx [] _ [] rfl rfl rfl ?_ dA
 refine aq rfl (fun hc19=>?_) (fun hc19=>?_)
 ·
  refine Tr.skip ?_
  refine hK2 _ ?_
  refine Tr.blk ?_
  refine Tr.v hcx [20,1000022] _ [] rfl rfl rfl ?_ dA
  refine ⟨z+1,⟨by unfold gb at*;omega,by unfold gb at*;omega⟩,?_,rfl⟩
  (simp only[aZ,aK,↓aY,↓reduceIte,Nat.reduceEqDiff,aC,aP,aD,aL,aQ,and_true,true_and];all_goals (repeat' first|exact CLe.refl _|exact True.intro| (refine an ?_;first|rfl| (simp only[List.take_zero];done)) |exact a7 (by omega) |exact ay (by omega) |exact aS (by omega) |exact aW (by omega) |with_reducible apply And.intro))
  all_goals (rw[List.replicate_succ'];exact CLe.refl _)
 obtain rfl:z=gb F.n:=by unfold gb at*;omega
 refine Tr.exit ?_
 refine hK1 _ ?_
 refine aa fun K3 hK3=>?_
 refine Tr.w hcx [] _ [] rfl rfl rfl ?_ dA
 refine Tr.k [1,2,3,4,23] ?_
 refine Tr.blk ?_
 refine aN (α:=Nat) (fun a=>[(1,?v1_2),(2,?v2_2),(3,?v3_2),(4,sl bC (.own 1) (128::List.replicate (gb F.n) 0++nd (8*F.n) a)),(23,.val (nI a))]) (fun a=>[some F.cells,some (cl bC (List.replicate 32 0))]) (fun a=>a≤8) (fun a=>8 - a) (0) ?_ ?le_2 ?hh_2 ?bd_2
 case hh_2=>exact rfl
 case le_2=>(simp only[aZ,aK,↓aY,↓reduceIte,Nat.reduceEqDiff,aC,aP,aD,aL,aQ,and_true,true_and];all_goals (repeat' first|exact CLe.refl _|exact True.intro| (refine an ?_;first|rfl| (simp only[List.take_zero];done)) |exact a7 (by omega) |exact ay (by omega) |exact aS (by omega) |exact aW (by omega) |with_reducible apply And.intro));all_goals (simp only[nd,List.range_zero,List.map_nil,List.append_nil];exact CLe.refl _)
 . omega
 rintro k hk
 refine Tr.w hcx [] _ [] rfl rfl rfl ?_ dA
 refine aa fun K4 hK4=>?_
 refine aq rfl (fun hc24=>?_) (fun hc24=>?_)
 ·
  refine Tr.skip ?_
  refine hK4 _ ?_
  refine aa fun K5 hK5=>?_
  refine Tr.blk ?_
  refine Tr.w hcx [1000025] _ [] rfl rfl rfl ?_ dA
  refine Tr.v hcx [26,1000034] _ [] rfl rfl rfl ?_ dA
  refine hK5 _ ?_
  refine Tr.v hcx [] _ [] rfl rfl rfl ?_ dA
  refine ⟨k+1,⟨by omega,O1⟩,?_,rfl⟩
  (simp only[aZ,aK,↓aY,↓reduceIte,Nat.reduceEqDiff,aC,aP,aD,aL,aQ,and_true,true_and];all_goals (repeat' first|exact CLe.refl _|exact True.intro| (refine an ?_;first|rfl| (simp only[List.take_zero];done)) |exact a7 (by omega) |exact ay (by omega) |exact aS (by omega) |exact aW (by omega) |with_reducible apply And.intro))
  all_goals (rw[wA,←List.append_assoc];exact CLe.refl _)
 obtain rfl:k=8:=by omega
 refine Tr.exit ?_
 refine hK3 _ ?_
 refine Tr.w hcx [] _ [] rfl rfl rfl ?_ dA
 refine Tr.w hcx [] _ [none] rfl rfl rfl ?_ dA
 refine aa fun K6 hK6=>?_
 refine Tr.w hcx [] _ [] rfl rfl rfl ?_ dA
 refine Tr.k [1,2,6,40] ?_
 refine Tr.blk ?_
 refine aN (α:=Nat) (fun a=>[(1,?v1_3),(2,?v2_3),(6,?v6_3),(40,.val (nI a))]) (fun a=>[some (cz F (me F.n)).cells,some (cl bC (List.replicate 32 0)),some (cl bC (pE (cz F (me F.n)).s a++List.replicate (32 - a) 0))]) (fun a=>a≤32) (fun a=>32 - a) (0) ?_ ?le_3 ?hh_3 ?bd_3
 case hh_3=>exact rfl
 case le_3=>exact LT
 . omega
 rintro i hi
 refine Tr.w hcx [] _ [] rfl rfl rfl ?_ dA
 refine aa fun K7 hK7=>?_
 refine aq rfl (fun hc41=>?_) (fun hc41=>?_)
 ·
  refine Tr.skip ?_
  refine hK7 _ ?_
  refine aa fun K8 hK8=>?_
  refine Tr.blk ?_
  refine Tr.w hcx [1000042] _ [] rfl rfl rfl ?_ dA
  refine Tr.v hcx [] _ [] rfl rfl rfl ?_ dA
  refine hK8 _ ?_
  refine Tr.v hcx [] _ [] rfl rfl rfl ?_ dA
  exact ⟨i+1,⟨by omega,O1⟩,LT,by dsimp only;rw[←Bn _ i hc41];rfl⟩
 obtain rfl:i=32:=by omega
 refine Tr.exit ?_
 refine hK6 _ ?_
 refine Tr.w hcx [] _ [] rfl rfl rfl ?_ dA
 exact Tr.ret Ri
end Go.Sx
namespace Go.Sx
open Go.RowKit Go.Proofs
set_option maxRecDepth 100000
set_option maxHeartbeats 8000000
theorem mg {p:Prop}(e:p:=by intro KZ hZ;simp -implicitDefEqProofs (disch:=first|omega| (simp only[go_sem,lA,lD,lT,dw,js,uc,nN,Bl,mf,hlp1,hlp2] <;>omega) |decide) only[go_sem,↓reduceIte,Nat.reduceEqDiff,reduceCtorEq,Nat.reduceLT,Nat.reduceBEq,Nat.reduceAdd,h103,h104,h105,h74,Str.cells,vM,mf,hy];exact hZ):p:=e
theorem HD {p:Prop}(e:p:=by intro KZ hZ;simp -implicitDefEqProofs (disch:=first|omega| (simp only[go_sem,lA,lD,lT,dw,js,uc,nN,Bl,mf,hlp1,hlp2] <;>omega) |decide) only[go_sem,↓reduceIte,Nat.reduceEqDiff,reduceCtorEq,Nat.reduceLT,Nat.reduceBEq,Nat.reduceAdd,h103,h104,h105,h74,Str.cells,vM,mf,hy];refine And.intro ?_ hZ;exact rfl):p:=e
theorem YY {p:Prop}(e:p:=by simp -implicitDefEqProofs (disch:=first|omega| (simp only[go_sem,lA,lD,lT,dw,js,uc,nN,Bl,mf,hlp1,hlp2] <;>omega) |decide) only[go_sem,↓reduceIte,Nat.reduceEqDiff,reduceCtorEq];all_goals (simp only[gx,List.take_length])):p:=e
theorem aiZ {gl:Nat→C}{M:Nat}{pu:Nat→List C→Option C}(hcx:CxOK (af gl M pu))(h103:pu 103 [] =some (.agg F0.cells))(h104:∀ (s:S8) (blk:List UInt8) (n:Nat) (t:List UInt8),blk.length=64→n+t.length< 1152921504606846976→pu 104 [.agg (cl wC s.l++(cl bC blk++[.val (nU n)])),.val (str t)] =some (.agg (cz ⟨s,blk,n⟩ t).cells))(h105:∀ (s:S8) (blk:List UInt8) (n:Nat),blk.length=64→n< 576460752303423488→pu 105 [.agg (cl wC s.l++(cl bC blk++[.val (nU n)]))] =some (.agg (cl bC (nf ⟨s,blk,n⟩))))(h74:∀s:List UInt8,s.length< 70368744177664→pu 74 [.val (str s)] =some (sl bC (.own 1) (wb s)))(tag:Int)(parts:List (List UInt8))(hl: (co tag parts).length< 1099511627776):FC Tryd.prog gl 78 [.val (.int .i64 tag),sl sC .no parts] [] (.agg (cl bC ((gx (co tag parts)).take 16))) []:=by
 replace hcx:=hcx.reN (M:=32)
 refine aB (cx:=af gl 32 pu) (rs:=[.cell 4 29]) rfl Tryd.func78 rfl rfl rfl (by simp only[List.length_cons,List.length_nil];decide) (by simp only[go_sem]) ?_
 simp only[bq,go_sem]
 have hy:=True.intro
 have hlp:=sB tag parts hl
 have hlp1:=hl
 have hpl:=wB tag parts hl
 have hlp2:=True.intro
 refine Tr.w hcx [] _ [none] rfl rfl rfl ?_ mg
 refine Tr.wD hcx ct [] _ [none] rfl rfl rfl rfl ?_ HD
 refine aa fun K1 hK1=>?_
 refine Tr.w hcx [] _ [] rfl rfl rfl ?_ mg
 refine Tr.k [4,5,15,16,17] ?_
 refine Tr.blk ?_
 refine aN (α:=Nat) (fun a=>[(4,?v4_1),(5,?v5_1),(15,?v15_1),(16,?v16_1),(17,.val (nI a))]) (fun a=>[some (cl bC (List.replicate 16 0)),some (cz F0 (co tag (parts.take a))).cells]) (fun a=>a≤parts.length) (fun a=>parts.length - a) (0) ?_ ?le_1 ?hh_1 ?bd_1
 case hh_1=>exact rfl
 case le_1=>exact LT
 . omega
 rintro i hi
 refine Tr.w hcx [] _ [] rfl rfl rfl ?_ mg
 refine aa fun K2 hK2=>?_
 refine aq rfl (fun hc18=>?_) (fun hc18=>?_)
 ·
  obtain ⟨hlp1,hlp2⟩:=hlp i hc18
  refine Tr.skip ?_
  refine hK2 _ ?_
  refine aa fun K3 hK3=>?_
  refine Tr.blk ?_
  refine Tr.w hcx [1000020] _ [] rfl rfl rfl ?_ mg
  refine fA hcx ct [] _ [] rfl rfl rfl rfl ?_ HD
  refine hK3 _ ?_
  refine Tr.v hcx [] _ [] rfl rfl rfl ?_ mg
  exact ⟨i+1,⟨by omega,O1⟩,LT,by dsimp only;rw[sZ tag parts i hc18,oq] <;>rfl⟩
 obtain rfl:i=parts.length:=by omega
 have hlp1:=hl
 have hlp2:=True.intro
 simp only[List.take_length]
 refine Tr.exit ?_
 refine hK1 _ ?_
 refine Tr.w hcx [] _ [none] rfl rfl rfl ?_ mg
 refine Tr.w hcx [] _ [] rfl rfl rfl ?_ mg
 exact Tr.ret YY
end Go.Sx
namespace Go.Sx
open Go.RowKit Go.Proofs
end Go.Sx
