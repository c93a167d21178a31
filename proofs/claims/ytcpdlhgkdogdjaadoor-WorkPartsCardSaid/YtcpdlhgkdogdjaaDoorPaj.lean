/-
   And what follows.
-/
import Derived.Test.YtcpdlhgkdogdjaaDoorPai
set_option linter.unusedSimpArgs false
set_option linter.unusedVariables false
namespace Go.Sx
open Go.RowKit
theorem B0 (v:Value): (C.val v).asSv= .val v:=rfl
theorem Gd (r:Rt)(n:Nat)(xs:List C): (C.sl r n xs).asSv= .sl r n xs:=rfl
theorem B1 {α:Type}(f:α→List C)(r:Rt)(l:List α): (sl f r l).asSv=sl f r l:=rfl
theorem Ge (b o n:Nat): (C.sv b o n).asSv= .sv b o n:=rfl
theorem Gf (b n:Nat)(s:Nat×Nat): (C.gv b n s).asSv= .sv b 0 n:=rfl
theorem Gg (b o:Nat): (C.bp b o).asSv= .bp b o:=rfl
theorem Jz (b n:Nat)(s:Nat×Nat): (C.gv b n s).noR= .gv b n s:=rfl
theorem B2 (b n:Nat)(s:Nat×Nat): (C.gv b n s).cells?=some [.gv b n s]:=rfl
theorem Gi (b n:Nat)(s:Nat×Nat)(l:List C):dh (.gv b n s::l) =true:=rfl
theorem B3 (cx:Cx)(l:List Nat)(d:Option Nat):iX (cx.grow l) d=kP l d:=by cases d<;>rfl
theorem JA (cx:Cx)(l:List Nat): (cx.grow l).P=cx.P:=rfl
theorem JB (cx:Cx)(l:List Nat): (cx.grow l).N=cx.N:=rfl
theorem vT {α:Type}(f:α→List C)(P:Program)(t:TypeId)(r:Rt)(l:List α)(lo hi mx:Option C):jL P t (sl f r l) lo hi mx=dZ P t (sl f r l) lo hi mx:=rfl
theorem vU (P:Program)(t:TypeId)(b n:Nat)(s:Nat×Nat)(lo:C)(hi mx:Option C):jL P t (.gv b n s) (some lo) hi mx=dZ P t (.sv b 0 n) (some lo) hi mx:=rfl
def Pb (P:Program)(t:Option TD)(b n:Nat)(s:Nat×Nat)(hi:Option C):Option Plan:=match t with
 |some d=>match d.u with
  | .slice e=>match td P e,cm hi n n with
    |some de,some h=>if (de.size,e) =s then some (vp (.gv b h s)) else none
    |_,_=>none
  |_=>none
 |none=>none
theorem yO (P:Program)(t:TypeId)(b n:Nat)(s:Nat×Nat)(hi:Option C):jL P t (.gv b n s) none hi none=Pb P (td P t) b n s hi:=rfl
def Pc (e:Nat)(t:Option TD)(b:Nat)(s:Nat×Nat)(h:Option Nat):Option Plan:=match t,h with
 |some de,some h=>if (de.size,e) =s then some (vp (.gv b h s)) else none
 |_,_=>none
theorem JC (P:Program)(e a1 b1:Nat)(z1:List Value)(b n:Nat)(s:Nat×Nat)(hi:Option C):Pb P (some ⟨.slice e,a1,b1,z1⟩) b n s hi=Pc e (td P e) b s (cm hi n n):=rfl
theorem B4 (e:Nat)(u:TypeDesc)(s y:Nat)(z:List Value)(b h:Nat):Pc e (some ⟨u,s,y,z⟩) b (s,e) (some h) =some (vp (.gv b h (s,e))):=if_pos rfl
def mT (e:Nat)(de:Option TD)(x y:C):Option Plan:=match de with
 |none=>none
 |some de=>
  let start:Option (Nat×Option (Nat×Nat)):=match x with
   | .val (.slice none 0 0) =>some (0,none)
   | .sl .full 0 _=>some (0,none)
   | .gv b n s=>if s= (de.size,e) then some (n,some (b,n)) else none
   |_=>none
  match start with
  |none=>none
  |some (n,b) =>
   let fin (m:Nat) (ys:List C):Bool:=decide (ys.length=m*de.size∧0< de.size∧de.zero.length=de.size∧(n+m)*de.bytes≤140737488355328∧n+m≤9223372036854775807∧de.zero.all (·.oneCell') =true)
   match y with
   | .sv b' off m=>some (.ap b (de.size,e) m fun h=>(h.at b').bind fun cells=>if off+m*de.size≤cells.length∧fin m (((cells.drop off).take (m*de.size)).map C.noR) =true then some (((cells.drop off).take (m*de.size)).map C.noR) else none)
   |y=>match io y with
    |some (m,ys) =>if fin m ys=true then some (.ap b (de.size,e) m fun _=>some ys) else none
    |none=>none
def Pd (P:Program)(d d2:Option TD)(x y:C):Option Plan:=match d,d2 with
 |some d,some d2=>
  if fC d2.u=false then iF P d d2 x y else
  match d.u with
  | .slice e=>mT e (td P e) x y
  |_=>none
 |_,_=>none
theorem NQ (P:Program)(t t2:TypeId)(x y:C):fD P t t2 x y=Pd P (td P t) (td P t2) x y:=rfl
theorem NS (P:Program)(e e2 a1 b1 a2 b2:Nat)(z1 z2:List Value)(x y:C):Pd P (some ⟨.slice e,a1,b1,z1⟩) (some ⟨.slice e2,a2,b2,z2⟩) x y=mT e (td P e) x y:=rfl
section
variable {α:Type} (f:α→List C) {s:Nat} [hf:Cel f s] (e:Nat) (u:TypeDesc) (y:Nat) (z:List Value)
theorem JD (n:Nat)(l':List α)(hz:z.length=s)(hz1:z.all (·.oneCell') =true)(h: (n+l'.length)*y≤140737488355328∧n+l'.length≤9223372036854775807):
 decide ((cl f l').length=l'.length*s∧0< s∧z.length=s∧(n+l'.length)*y≤140737488355328∧n+l'.length≤9223372036854775807∧z.all (·.oneCell') =true) =true:=by
 simp only[decide_eq_true_eq]
 exact ⟨aw (f:=f) l',hf.pos,hz,h.1,h.2,hz1⟩
theorem JE (b n:Nat)(r:Rt)(l':List α)(hz:z.length=s)(hz1:z.all (·.oneCell') =true)(h: (n+l'.length)*y≤140737488355328∧n+l'.length≤9223372036854775807):
 mT e (some ⟨u,s,y,z⟩) (.gv b n (s,e)) (sl f r l') =some (.ap (some (b,n)) (s,e) l'.length fun _=>some (cl f l')):=by
 have e:=JD f y z n l' hz hz1 h
 simp only[mT,if_true,sl,io,C.sl?]
 rw[if_pos e]
end
theorem Rz (P:Program)(s t:TypeId)(c:C):iB P s t c= (match td P s,td P t with
 |some ds,some dd=>match ds.u,dd.u,c with
  | .string,.slice e,.val (.string s) =>match td P e with
    |some de=>(match de.u with
     | .int .u8=>if s.size≤140737488355328 then some (.ap none (1,e) s.size fun _=>some (s.data.toList.map gc)) else none
     |_=>none)
    |none=>none
  |_,_,_=>none
 |_,_=>none):=rfl
def JF (P:Program)(d d2:Option TD)(c:C):Option Plan:=match d,d2 with
    |some ds,some dd=>match ds.u,dd.u,c with
     | .string,.slice e,.val (.string s) =>match td P e with
       |some de=>(match de.u with
        | .int .u8=>if s.size≤140737488355328 then some (.ap none (1,e) s.size fun _=>some (s.data.toList.map gc)) else none
        |_=>none)
       |none=>none
     |_,_,_=>none
    |_,_=>none
theorem NT (P:Program)(s t:TypeId)(c:C):iB P s t c=JF P (td P s) (td P t) c:=rfl
def JG (e:Nat)(t:Option TD)(l:List UInt8):Option Plan:=match t with
 |some de=>(match de.u with
  | .int .u8=>if l.length≤140737488355328 then some (.ap none (1,e) l.length fun _=>some (cl bC l)) else none
  |_=>none)
 |none=>none
theorem JH (P:Program)(e a1 b1 a2 b2:Nat)(z1 z2:List Value)(l:List UInt8):JF P (some ⟨.string,a1,b1,z1⟩) (some ⟨.slice e,a2,b2,z2⟩) (.val (str l)) =JG e (td P e) l:=by
 unfold JF JG str
 simp only[iG,List.toList_toArray,A2]
theorem JI (e a b:Nat)(z:List Value)(l:List UInt8)(h:l.length≤140737488355328):JG e (some ⟨.int .u8,a,b,z⟩) l=some (.ap none (1,e) l.length fun _=>some (cl bC l)):=if_pos h
section
variable (cx:Cx) (apps:List Nat) (dsts:List (Option Nat)) (l:List Oper) (id':Nat) (d:Option Nat) (e:List (Nat×C)) (h:Hp) (fs:List FP) (K:List FP→St→Prop)
def nR:List C→List C:=List.map C.noR
def gf (b n:Nat)(s:Nat×Nat)(m:Nat)(cs:List C)(o:Option (List C)):Prop:=match o with
 |none=>False
 |some cells=>
  if (n+m)*s.1≤cells.length∧(n≠0∨m=0) then run cx apps dsts l id' (dU d (.gv b (n+m) s) e) (h.set b (some (splice cells (n*s.1) (cs.map C.noR)))) ((4,0)::fs) K
  else if n*s.1=cells.length then run cx apps dsts l id' (dU d (.gv h.length (n+m) s) e) (h.set b (some cO)++[some ((cells++cs).map C.noR)]) ((4,0)::fs) K
  else if n=0 then run cx apps dsts l id' (dU d (.gv h.length (n+m) s) e) (h.set b (some cO)++[some (cs.map C.noR)]) ((4,0)::fs) K else False
theorem Gj (z:FP)(s:Nat×Nat)(m:Nat)(cs:List C):uh cx apps dsts l id' d e h fs K z none s m (some cs) =run cx apps dsts l id' (dU d (.gv h.length m s) e) (h++[some (nR cs)]) (z::fs) K:=rfl
theorem Gk (z:FP)(b n:Nat)(s:Nat×Nat)(m:Nat)(cs:List C):uh cx apps dsts l id' d e h fs K z (some (b,n)) s m (some cs) =gf cx apps dsts l id' d e h fs K b n s m cs (h.at b):=rfl
theorem Gl {α:Type}(f:α→List C){s:Nat}[hf:Cel f s](e' b n m:Nat)(xs ys:List α)(hn:n=xs.length)(hm:m=ys.length∧0< m):
 gf cx apps dsts l id' d e h fs K b n (s,e') m (cl f ys) (some (cl f xs)) =run cx apps dsts l id' (dU d (.gv h.length (xs++ys).length (s,e')) e) (h.set b (some cO)++[some (cl f (xs++ys))]) ((4,0)::fs) K:=by
 obtain ⟨hm1,hm2⟩:=hm
 subst hn hm1
 have hp:=hf.pos
 have hl:=aw (f:=f) xs
 have hml:s≤ys.length*s:=by
  have:=Nat.mul_le_mul_right s (show 1≤ys.length by omega)
  omega
 unfold gf
 simp only[]
 rw[if_neg (by rw[hl,Nat.add_mul];omega),if_pos hl.symm,←iZ,eF,List.length_append]
end
@[congr] theorem Pe {cx:Cx} {apps:List Nat} {dsts:List (Option Nat)} {l:List Oper} {id':Nat} {d:Option Nat} {e:List (Nat×C)} {h:Hp} {fs:List FP} {K:List FP→St→Prop} {z:FP} {b:Option (Nat×Nat)} {s:Nat×Nat} {m:Nat} {p p':Option (List C)} (hp:p=p'):
   uh cx apps dsts l id' d e h fs K z b s m p=uh cx apps dsts l id' d e h fs K z b s m p':=by rw[hp]
@[congr] theorem NU {cx:Cx} {apps:List Nat} {dsts:List (Option Nat)} {l:List Oper} {id':Nat} {d:Option Nat} {e:List (Nat×C)} {h:Hp} {fs:List FP} {K:List FP→St→Prop} {b n:Nat} {s:Nat×Nat} {m:Nat} {cs:List C} {p p':Option (List C)} (hp:p=p'):
   gf cx apps dsts l id' d e h fs K b n s m cs p=gf cx apps dsts l id' d e h fs K b n s m cs p':=by rw[hp]
theorem NV {α:Type}(f:α→List C){s:Nat}[hf:Cel f s](l:List α):nR (cl f l) =cl f l:=eF l
theorem JJ:nR [] = []:=rfl
theorem Gm (c:C)(l:List C):nR (c::l) =c.noR::nR l:=rfl
theorem NW (p q:Option Plan):qz true p q=p:=rfl
theorem NX (p q:Option Plan):qz false p q=q:=rfl
theorem pz (k b:Nat):dF [] k b=none:=rfl
theorem nz (x:Nat)(r:List Nat)(k b:Nat):dF (x::r) k b=if b=x then some k else dF r (k+1) b:=rfl
def B5 (n:Nat)(s:Nat×Nat):Option Nat→C
 |some j=> .gv j n s
 |none=> .top
def B6 (o n:Nat):Option Nat→C
 |some j=> .sv j o n
 |none=> .top
def B7 (o:Nat):Option Nat→C
 |some j=> .bp j o
 |none=> .top
theorem sz (ρ:List Nat)(b n:Nat)(s:Nat×Nat):aY ρ (.gv b n s) =B5 n s (dF ρ 0 b):=by simp only[aY];cases dF ρ 0 b<;>rfl
theorem sA (ρ:List Nat)(b o n:Nat):aY ρ (.sv b o n) =B6 o n (dF ρ 0 b):=by simp only[aY];cases dF ρ 0 b<;>rfl
theorem sB (ρ:List Nat)(b o:Nat):aY ρ (.bp b o) =B7 o (dF ρ 0 b):=by simp only[aY];cases dF ρ 0 b<;>rfl
theorem lr (n:Nat)(s:Nat×Nat)(j:Nat):B5 n s (some j) = .gv j n s:=rfl
theorem ls (n:Nat)(s:Nat×Nat):B5 n s none= .top:=rfl
theorem lu (o n j:Nat):B6 o n (some j) = .sv j o n:=rfl
theorem lw (o n:Nat):B6 o n none= .top:=rfl
theorem lx (o j:Nat):B7 o (some j) = .bp j o:=rfl
theorem ly (o:Nat):B7 o none= .top:=rfl
theorem pB (ρ:List Nat)(v:Value):aY ρ (.val v) = .val v:=by simp only[aY]
theorem mf (ρ:List Nat):aY ρ .top= .top:=by simp only[aY]
theorem pD (ρ:List Nat)(xs:List C):aY ρ (.agg xs) = .agg (mvCs ρ xs):=by simp only[aY]
theorem sD (ρ:List Nat)(xs:List C):aY ρ (.kp xs) = .kp (mvCs ρ xs):=by simp only[aY]
theorem sE (ρ:List Nat)(f:Nat)(xs:List C):aY ρ (.fn f xs) = .fn f (mvCs ρ xs):=by simp only[aY]
theorem nB (ρ:List Nat):mvCs ρ [] = []:=by simp only[mvCs]
theorem lz (ρ:List Nat)(c:C)(l:List C):mvCs ρ (c::l) =aY ρ c::mvCs ρ l:=by simp only[mvCs]
mutual
theorem JK (ρ:List Nat):∀c:C,ag 0 c=true→aY ρ c=c
 | .val _,_=>by simp only[aY]
 | .top,_=>by simp only[aY]
 | .agg xs,h=>by simp only[ag] at h;simp only[aY,mvCs_nr ρ xs h]
 | .tup xs,h=>by simp only[ag] at h;simp only[aY,mvCs_nr ρ xs h]
 | .kp xs,h=>by simp only[ag] at h;simp only[aY,mvCs_nr ρ xs h]
 | .sl _ _ xs,h=>by simp only[ag] at h;simp only[aY,mvCs_nr ρ xs h]
 | .fn _ xs,h=>by simp only[ag] at h;simp only[aY,mvCs_nr ρ xs h]
 | .sv _ _ _,h=>by simp[ag] at h
 | .gv _ _ _,h=>by simp[ag] at h
 | .bp _ _,h=>by simp[ag] at h
 | .bt _ _ _,h=>by simp[ag] at h
 | .mp _,h=>by simp[ag] at h
theorem mvCs_nr (ρ:List Nat):∀l:List C,noRefs 0 l=true→mvCs ρ l=l
 | [],_=>by simp only[mvCs]
 |x::xs,h=>by simp only[noRefs,Bool.and_eq_true] at h;simp only[mvCs,JK ρ x h.1,mvCs_nr ρ xs h.2]
end
theorem en {α:Type}(f:α→List C)[h:Nrf f](ρ:List Nat)(l:List α):mvCs ρ (cl f l) =cl f l:=mvCs_nr ρ _ (aF f 0 l)
theorem sF {α:Type}(f:α→List C)[h:Nrf f](ρ:List Nat)(a:α):mvCs ρ (f a) =f a:=mvCs_nr ρ _ (h.nr 0 a)
theorem lB {α:Type}(f:α→List C)[h:Nrf f](ρ:List Nat)(r:Rt)(l:List α):aY ρ (sl f r l) =sl f r l:=by
 unfold sl;simp only[aY,en]
def hget:Hp→Nat→Option (List C)
 | [],_=>none
 |o::_,0=>o
 |_::h,k+1=>hget h k
theorem uy:∀ (h:Hp)(k:Nat),(h[k]?).getD none=hget h k
 | [],_=>rfl
 |o::_,0=>rfl
 |_::h,k+1=>by rw[List.getElem?_cons_succ];exact uy h k
theorem sG (o:Option (List C))(h:Hp):hget (o::h) 0=o:=rfl
theorem sH (o:Option (List C))(h:Hp)(k:Nat):hget (o::h) (k+1) =hget h k:=rfl
def pE (ρ:List Nat)(h:Hp):List Nat→Hp
 | [] =>[]
 |x::r=>(hget h x).map (mvCs ρ)::pE ρ h r
theorem sI (ρ:List Nat)(h:Hp):gE ρ h=pE ρ h ρ:=by
 have key:∀r:List Nat,(r.map fun b=>((h[b]?).getD none).map (mvCs ρ)) =pE ρ h r:=by
  intro r
  induction r with
  |nil=>rfl
  |cons x r ih=>rw[List.map_cons,ih,uy];rfl
 exact key ρ
theorem nD (ρ:List Nat)(h:Hp):pE ρ h [] = []:=rfl
theorem lE (ρ:List Nat)(h:Hp)(x:Nat)(r:List Nat):pE ρ h (x::r) = (hget h x).map (mvCs ρ)::pE ρ h r:=rfl
def iq (g:C→C):List (Nat×C)→List (Nat×C)
 | [] =>[]
 | (k,c)::l=>(k,g c)::iq g l
theorem sJ (g:C→C):iq g [] = []:=rfl
theorem lF (g:C→C)(k:Nat)(c:C)(l:List (Nat×C)):iq g ((k,c)::l) = (k,g c)::iq g l:=rfl
theorem lG (g:C→C)(hg:g .top= .top):∀l:List (Nat×C),(fun t=>g (A l t)) =A (iq g l)
 | [] =>by funext t;exact hg
 | (k,c)::l=>by
   funext t
   simp only[A,iq]
   split
   . rfl
   . exact congrFun (lG g hg l) t
theorem JL {cx:Cx}{n:Nat}{Q:Ex→St→Prop}{e:List (Nat×C)}{h:Hp}(hcx:CxOK cx){c:Code}(b:Nat)(cells:List C)(hb:h.at b=some cells)(hnb:n≤b)(hn:∀j,j< n→((h.at j).isSome|| (h.mp j).isSome) =true∨h[j]? =some none)
 (K:Tr cx n c ⟨A (iq (aU (c8 h b) b (fzY h b cells)) e),jn (c8 h b) b (fzY h b cells) h⟩ Q):Tr cx n c ⟨A e,h⟩ Q:=by
 refine Tr.fz hcx b hb hnb hn ?_
 rw[lG _ (by simp only[aU])]
 exact K
theorem JM {cx:Cx}{n:Nat}{Q:Ex→St→Prop}{e:List (Nat×C)}{h:Hp}(hcx:CxOK cx){c:Code}(ρ:List Nat)(hρ:px n ρ)(K:Tr cx n c ⟨A (iq (aY ρ) e),gE ρ h⟩ Q):Tr cx n c ⟨A e,h⟩ Q:=by
 refine Tr.mv hcx ρ hρ ?_
 rw[lG _ (mf ρ)]
 exact K
theorem Gn (ok:Nat→Bool)(b:Nat)(ys:List C)(v:Value):aU ok b ys (.val v) = .val v:=by simp only[aU]
theorem Gp (ok:Nat→Bool)(b:Nat)(ys:List C):aU ok b ys .top= .top:=by simp only[aU]
theorem Gq (ok:Nat→Bool)(b:Nat)(ys xs:List C):aU ok b ys (.agg xs) = .agg (fzCs ok b ys xs):=by simp only[aU]
theorem Gr (ok:Nat→Bool)(b:Nat)(ys xs:List C):aU ok b ys (.tup xs) = .tup (fzCs ok b ys xs):=by simp only[aU]
theorem JN (ok:Nat→Bool)(b:Nat)(ys xs:List C):aU ok b ys (.kp xs) = .kp (fzCs ok b ys xs):=by simp only[aU]
theorem JO (ok:Nat→Bool)(b:Nat)(ys:List C)(f:Nat)(xs:List C):aU ok b ys (.fn f xs) = .fn f (fzCs ok b ys xs):=by simp only[aU]
theorem B8 (ok:Nat→Bool)(b:Nat)(ys:List C):fzCs ok b ys [] = []:=by simp only[fzCs]
theorem yP (ok:Nat→Bool)(b:Nat)(ys:List C)(x:C)(xs:List C):fzCs ok b ys (x::xs) =aU ok b ys x::fzCs ok b ys xs:=by simp only[fzCs]
mutual
theorem yQ (ok:Nat→Bool)(b:Nat)(ys:List C):∀c:C,ag 0 c=true→aU ok b ys c=c
 | .val _,_=>by simp only[aU]
 | .top,_=>by simp only[aU]
 | .agg xs,h=>by simp only[ag] at h;simp only[aU,fzCs_nr ok b ys xs h]
 | .tup xs,h=>by simp only[ag] at h;simp only[aU,fzCs_nr ok b ys xs h]
 | .kp xs,h=>by simp only[ag] at h;simp only[aU,fzCs_nr ok b ys xs h]
 | .sl _ _ xs,h=>by simp only[ag] at h;simp only[aU,fzCs_nr ok b ys xs h]
 | .fn _ xs,h=>by simp only[ag] at h;simp only[aU,fzCs_nr ok b ys xs h]
 | .sv _ _ _,h=>by simp[ag] at h
 | .gv _ _ _,h=>by simp[ag] at h
 | .bp _ _,h=>by simp[ag] at h
 | .bt _ _ _,h=>by simp[ag] at h
 | .mp _,h=>by simp[ag] at h
theorem fzCs_nr (ok:Nat→Bool)(b:Nat)(ys:List C):∀l:List C,noRefs 0 l=true→fzCs ok b ys l=l
 | [],_=>by simp only[fzCs]
 |x::xs,h=>by simp only[noRefs,Bool.and_eq_true] at h;simp only[fzCs,yQ ok b ys x h.1,fzCs_nr ok b ys xs h.2]
end
mutual
theorem JP (ok:Nat→Bool):∀c:C,ag 0 c=true→cX ok c=c
 | .val _,_=>by simp only[cX]
 | .top,_=>by simp only[cX]
 | .agg xs,h=>by simp only[ag] at h;simp only[cX,scrs_nr ok xs h]
 | .tup xs,h=>by simp only[ag] at h;simp only[cX,scrs_nr ok xs h]
 | .kp xs,h=>by simp only[ag] at h;simp only[cX,scrs_nr ok xs h]
 | .sl _ _ xs,h=>by simp only[ag] at h;simp only[cX,scrs_nr ok xs h]
 | .fn _ xs,h=>by simp only[ag] at h;simp only[cX,scrs_nr ok xs h]
 | .sv _ _ _,h=>by simp[ag] at h
 | .gv _ _ _,h=>by simp[ag] at h
 | .bp _ _,h=>by simp[ag] at h
 | .bt _ _ _,h=>by simp[ag] at h
 | .mp _,h=>by simp[ag] at h
theorem scrs_nr (ok:Nat→Bool):∀l:List C,noRefs 0 l=true→scrs ok l=l
 | [],_=>by simp only[scrs]
 |x::xs,h=>by simp only[noRefs,Bool.and_eq_true] at h;simp only[scrs,JP ok x h.1,scrs_nr ok xs h.2]
end
theorem iJ {α:Type}(f:α→List C)[h:Nrf f](ok:Nat→Bool)(b:Nat)(ys:List C)(l:List α):fzCs ok b ys (cl f l) =cl f l:=fzCs_nr ok b ys _ (aF f 0 l)
theorem JQ {α:Type}(f:α→List C)[h:Nrf f](ok:Nat→Bool)(b:Nat)(ys:List C)(a:α):fzCs ok b ys (f a) =f a:=fzCs_nr ok b ys _ (h.nr 0 a)
theorem JR {α:Type}(f:α→List C)[h:Nrf f](ok:Nat→Bool)(b:Nat)(ys:List C)(r:Rt)(l:List α):aU ok b ys (sl f r l) =sl f r l:=by
 unfold sl;simp only[aU,iJ]
theorem JS {α:Type}(f:α→List C){s:Nat}[hc:Cel f s][h:Nrf f](hp:Hp)(b:Nat)(l:List α):fzY hp b (cl f l) =cl f l:=by
 unfold fzY;rw[scrs_nr _ _ (aF f 0 l),eF]
def fS (ys:List C)(n:Nat)(s:Nat×Nat):C:=if n*s.1≤ys.length then .sl .no n (ys.take (n*s.1)) else .top
theorem lH (ok:Nat→Bool)(b:Nat)(ys:List C)(b' n:Nat)(s:Nat×Nat):aU ok b ys (.gv b' n s) =if b'=b then fS ys n s else if ok b'=true then .gv b' n s else .top:=by simp only[aU,fS]
theorem jQ {α:Type}(f:α→List C){s:Nat}[hc:Cel f s](e:Nat)(l:List α)(n:Nat)(h:n=l.length):fS (cl f l) n (s,e) =sl f .no l:=by
 subst h
 have hl:=aw (f:=f) l
 unfold fS
 simp only[]
 rw[if_pos (by omega),List.take_of_length_le (by omega)];rfl
theorem JT (h:Hp)(b b':Nat):c8 h b b'= (((h.at b').isSome|| (h.mp b').isSome) && b' !=b):=rfl
attribute [go_sem] B0 Gd B1 Ge Gf Gg Jz B2 Gi B3 JA JB vT vU yO JC B4 NQ NS JE NT JH JI Iy Gj Gk Gl NV JJ Gm NW NX xV A3 Fk A4 gn IF ym
theorem bh {cx:Cx}{n:Nat}{Q:Ex→St→Prop}{e:List (Nat×C)}{h:Hp}{t:Nat}{x y:Code}(ht:A e t= .val (.bool true))(H:Tr cx n x ⟨A e,h⟩ Q):Tr cx n (.cond (.tmp t) x y) ⟨A e,h⟩ Q:=
 Tr.condG fun KT KF hT hF=>by rw[eX,ht,gD];exact .pos rfl (hT H)
theorem au {cx:Cx}{n:Nat}{Q:Ex→St→Prop}{e:List (Nat×C)}{h:Hp}{t:Nat}{x y:Code}(ht:A e t= .val (.bool false))(H:Tr cx n y ⟨A e,h⟩ Q):Tr cx n (.cond (.tmp t) x y) ⟨A e,h⟩ Q:=
 Tr.condG fun KT KF hT hF=>by rw[eX,ht,gD];exact .neg rfl (hF H)
theorem bc {cx:Cx}{n:Nat}{Q:Ex→St→Prop}{e:List (Nat×C)}{h:Hp}{t:Nat}{x y:Code}{p:Prop}{d:Decidable p}(ht:A e t= .val (.bool (@decide p d)))(H1:p→Tr cx n x ⟨A e,h⟩ Q)(H2:¬p→Tr cx n y ⟨A e,h⟩ Q):Tr cx n (.cond (.tmp t) x y) ⟨A e,h⟩ Q:=
 Tr.condG fun KT KF hT hF=>by rw[eX,ht,gD];exact .dec (fun q=>hT (H1 q)) (fun q=>hF (H2 q))
theorem lA {α:Type}(xs ys:List α): (xs++ys).length=xs.length+ys.length:=List.length_append
theorem lD {α:Type}(n:Nat)(xs:List α): (xs.drop n).length=xs.length - n:=List.length_drop
theorem lT {α:Type}(n:Nat)(xs:List α): (xs.take n).length=min n xs.length:=List.length_take
end Go.Sx
namespace Go.Sx
open Go.RowKit
def PS (b:Bool)(c:C)(h:Hp):Option (C×Hp):=if b then some (c,h) else none
def JU (b:Bool)(o:Option C)(h:Hp):Option (C×Hp):=if b then (match o with
 |some c=>PS (flat c) c h
 |none=>none) else none
@[congr] theorem NY {b b':Bool} {o o':Option C} {h:Hp} (hb:b=b') (ho:b'=true→o=o'):JU b o h=JU b' o' h:=by
  subst hb
  cases b with
  |false=>rfl
  |true=>rw[ho rfl]
theorem yR {P:Program}{α:Type}(f:α→List C)(t:TypeId)(b o:Nat)(r:Rt)(l:List α)(k:Option Nat):ce P t (.bp b o) (sl f r l) k=Dt (td P t) b o (sl f r l) k:=se P t b o r _ _ k
theorem B9 {P:Program}(t:TypeId)(b o b' n:Nat)(s:Nat×Nat)(k:Option Nat):ce P t (.bp b o) (.gv b' n s) k=jm (td P t) b o (some [.gv b' n s]):=by
 unfold ce jm;cases td P t<;>rfl
attribute [go_sem] yR B9 Bool.and_false Bool.false_and
end Go.Sx
namespace Go.Sx
open Go.RowKit
end Go.Sx
namespace Go.Sx
open Go.RowKit
end Go.Sx
namespace Go.Sx
open Go.RowKit
section
variable {cx:Cx} {n:Nat} {Q:Ex→St→Prop} {st:St} {G:Gh} {h:Hp} {w:World} {P:Program}
def sK:C→Bool
 | .tup _=>false
 |_=>true
theorem ou {cells:List C}(hl:aQ (some cells) =some cells)(k:Nat){c':C}(hc:sK c'=true):aQ (some (cells.set k c')) =some (cells.set k c'):=by
 cases cells with
 |nil=>simp[aQ]
 |cons c t=>
  cases k with
  |zero=>
   rw[List.set_cons_zero]
   unfold aQ
   split
   . rename_i h2;cases h2;cases hc
   . rfl
  |succ k=>
   rw[List.set_cons_succ]
   unfold aQ at hl ⊢
   split at hl
   . cases hl
   . rename_i hn
     split
     . rename_i h2;cases h2;exact absurd rfl (hn _ _)
     . rfl
theorem WorldOK.bxc (H:WorldOK G h w){b k:Nat}{c c':C}{cells:List C}(hb:h.at b=some cells)(hk:cells[k]? =some c)(hc:CLe c c')(ht:sK c'=true):WorldOK G (h.set b (some (cells.set k c'))) w:=by
 have hlt:=dS hb
 have hlive:=ou (fI hb) k ht
 have hkl:k< cells.length:=(List.getElem?_eq_some_iff.1 hk).1
 refine ⟨H.known,fun b' c2 x=>?_,fun b' blk x=>?_,fun b1 b2 c1 c2 blk x x' y y'=>?_,H.sep,H.tlt,fun b' c2 off s m2 ys blk v x hc2 hm hv=>?_,H.siz,H.mpoT (fun k l x=>(fm hlt (m6 hlive) k l x).2) (fun _ _ _ x=>x) (.refl G),H.mpiT (fun k l x=>(fm hlt (m6 hlive) k l x).2) (fun _ _ _ _ x=>x)⟩
 . rw[bT hlt] at x
   split at x
   . rename_i e;subst e;rw[hlive] at x;cases x
     rcases H.box b' cells hb with ⟨rfl,hE⟩ | ⟨blk,cs,e,q1,q2,q3,q4,q5⟩
     . simp at hkl
     . refine .inr ⟨blk,cs,e,q1,q2,by rw[List.length_set];exact q3,?_,q5⟩
       rw[List.length_set]
       have hsz:cs.toList.length=cs.size:=by simp
       have hlen: (cells.set k c').length= (cs.toList.take cells.length).length:=by
        rw[List.length_set,List.length_take];omega
       refine RepL.of_get hlen fun i y v hy hv=>?_
       rw[List.getElem?_set] at hy
       split at hy
       . rename_i e2;subst e2
         (try rw[if_pos hkl] at hy);cases hy
         obtain ⟨v2,hv2,hr⟩:=q4.get k _ hk
         rw[hv] at hv2;cases hv2
         exact hc.1 _ _ hr
       . obtain ⟨v2,hv2,hr⟩:=q4.get i _ hy
         rw[hv] at hv2;cases hv2;exact hr
   . exact H.box b' c2 x
 . obtain ⟨⟨c0,hc0⟩,hl⟩:=H.dom b' blk x
   refine ⟨?_,hl⟩
   by_cases e:b'=b
   . subst e;exact ⟨_,by rw[List.getElem?_set_self hlt]⟩
   . exact ⟨c0,by rw[List.getElem?_set_ne (fun h=>e h.symm)];exact hc0⟩
 . have key:∀b' c2,Hp.at (h.set b (some (cells.set k c'))) b'=some c2→∃c0,h.at b'=some c0:=fun b' c2 x=>by
    rw[bT hlt] at x
    split at x
    . rename_i e;subst e;exact ⟨cells,hb⟩
    . exact ⟨c2,x⟩
   obtain ⟨d1,e1⟩:=key b1 c1 x
   obtain ⟨d2,e2⟩:=key b2 c2 x'
   exact H.inj b1 b2 d1 d2 blk e1 e2 y y'
 . rw[bT hlt] at x
   split at x
   . rename_i e;subst e;rw[hlive] at x;cases x
     rw[List.getElem?_set] at hc2
     split at hc2
     . rename_i e2;subst e2
       (try rw[if_pos hkl] at hc2);cases hc2
       rcases hc.2 s m2 ys rfl with rfl|hfull
       . exact H.own b' cells k s m2 ys blk v hb hk hm hv
       . rcases H.box b' cells hb with ⟨rfl,hE⟩ | ⟨blk2,cs,e,q1,q2,q3,q4,q5⟩
         . simp at hkl
         . obtain ⟨v2,hv2,hr⟩:=q4.get k _ hk
           rw[q1] at hm;cases hm
           obtain ⟨fr,q6,q7⟩:=q2
           rw[List.getElem?_take_of_lt hkl] at hv2
           rw[o9 q6 _ _ hv2] at hv
           cases hv
           obtain ⟨a,rfl⟩:=hfull _ _ hr
           exact .inl ⟨a,rfl⟩
     . exact H.own b' cells off s m2 ys blk v hb hc2 hm hv
   . exact H.own b' c2 off s m2 ys blk v x hc2 hm hv
theorem Tr.bxc {c:Code}{e:List (Nat×C)}{h:Hp}(b k:Nat){x:C}(x':C)(cells:List C)(hb:h.at b=some cells)(hk:cells[k]? =some x)(hc:CLe x x')(ht:sK x'=true)(H:Tr cx n c ⟨A e,h.set b (some (cells.set k x'))⟩ Q):Tr cx n c ⟨A e,h⟩ Q:=fun r hr G w a S R hR=>
 H r hr G w a ⟨S.defers,S.size,S.pre.ok.bxc hb hk hc ht,S.pre.env,S.pre.glob⟩ R hR
end
end Go.Sx
namespace Go.Sx
open Go.RowKit Go.ChangeShapes Go.WideShapes
abbrev PT (α:Type):=α→(H:Type)→List (DataW H)→Prop
structure RdF (P:Program) (fs:List Field) (off z:Nat) {α:Type} (f:α→List C) (R:PT α):Prop where
 rd:∀ {H:Type}{enc:TypeId×Value→H}{W:World}{base:Nat}{sp:Nat→Bool}{held:Bool}{n:Nat}{cs:List Value}{xs:List (DataW H×List MemPlace)},xs.length=fs.length→cs.length=off+z→
  (∀ (i:Nat)(fd:Field),fs[i]? =some fd→DataW.trod enc P W base sp held n fd.type ((cs.drop fd.offset).take (P.cellsOf fd.type)) =xs[i]?)→∃a,R a H (xs.map (·.1))∧RepL (GW W) (f a) (cs.drop off)∧∀u∈cs.drop off,u.oneCell'=true
end Go.Sx
namespace Go.Sx
open Go.RowKit
section
variable {cx:Cx} {n:Nat} {Q:Ex→St→Prop} {e:List (Nat×C)} {h:Hp} {b:Code} {id:Nat} {l:List Oper} {s:St}
theorem Tr.w (hcx:CxOK cx)(apps:List Nat)(dsts:List (Option Nat))(z:Hp)(h1:l.filterMap cu=apps)(h2:l.map (·.dst) =dsts)(h3:eB l=z)(H:Tr cx n b s Q)(E:∀K:St→Prop,K s→run cx apps dsts l h.length e (h++z) [] (fun _ s=>K s)):Tr cx n (.seq (.region id l.toArray false) b) ⟨A e,h⟩ Q:=
 af fun K hK=>Tr.rg hcx apps dsts z h1 h2 h3 (E K (hK s H))
theorem Tr.v (hcx:CxOK cx)(apps:List Nat)(dsts:List (Option Nat))(z:Hp)(h1:l.filterMap cu=apps)(h2:l.map (·.dst) =dsts)(h3:eB l=z)(H:Q .normal s)(E:∀K:St→Prop,K s→run cx apps dsts l h.length e (h++z) [] (fun _ s=>K s)):Tr cx n (.region id l.toArray false) ⟨A e,h⟩ Q:=
 Tr.rg hcx apps dsts z h1 h2 h3 (E (Q .normal) H)
theorem bB (hcx:CxOK cx)(hm:cx.P.follows .mixedOrders=true)(apps:List Nat)(dsts:List (Option Nat))(z:Hp)(h1:l.filterMap cu=apps)(h2:l.map (·.dst) =dsts)(h3:eB l=z)(hs:eh l.toArray=true)(H:Tr cx n b s Q)(E:∀K:St→Prop,K s→run cx apps dsts l h.length e (h++z) [] (fun fs s=>fK l.toArray fs.reverse=true∧K s)):Tr cx n (.seq (.region id l.toArray true) b) ⟨A e,h⟩ Q:=
 af fun K hK=>xI hcx hm apps dsts z h1 h2 h3 hs (E K (hK s H))
theorem vV (hcx:CxOK cx)(gs:List Nat)(apps:List Nat)(dsts:List (Option Nat))(z:Hp)(h1:l.filterMap cu=apps)(h2:l.map (·.dst) =dsts)(h3:eB l=z)(H:Tr cx n b s Q)(E:∀K:St→Prop,K s→run (cx.grow gs) apps dsts l h.length e (h++z) [] (fun _ s=>K s)):Tr cx n (.seq (.region id l.toArray false) b) ⟨A e,h⟩ Q:=
 af fun K hK=>yI hcx gs apps dsts z h1 h2 h3 (E K (hK s H))
theorem ov (hcx:CxOK cx)(gs:List Nat)(apps:List Nat)(dsts:List (Option Nat))(z:Hp)(h1:l.filterMap cu=apps)(h2:l.map (·.dst) =dsts)(h3:eB l=z)(H:Q .normal s)(E:∀K:St→Prop,K s→run (cx.grow gs) apps dsts l h.length e (h++z) [] (fun _ s=>K s)):Tr cx n (.region id l.toArray false) ⟨A e,h⟩ Q:=
 yI hcx gs apps dsts z h1 h2 h3 (E (Q .normal) H)
theorem bd (hcx:CxOK cx)(hm:cx.P.follows .mixedOrders=true)(gs:List Nat)(apps:List Nat)(dsts:List (Option Nat))(z:Hp)(h1:l.filterMap cu=apps)(h2:l.map (·.dst) =dsts)(h3:eB l=z)(hs:eh l.toArray=true)(H:Tr cx n b s Q)(E:∀K:St→Prop,K s→run (cx.grow gs) apps dsts l h.length e (h++z) [] (fun fs s=>fK l.toArray fs.reverse=true∧K s)):Tr cx n (.seq (.region id l.toArray true) b) ⟨A e,h⟩ Q:=
 af fun K hK=>Ga hcx hm gs apps dsts z h1 h2 h3 hs (E K (hK s H))
theorem Tr.k (ks:List Nat){c:Code}{e':List (Nat×C)}(H:Tr cx n c ⟨A e',h⟩ Q)(E:∀R:List (Nat×C)→Prop,R e'→R (pk e ks):=by intro RZ hZ;simp only[ul,ye,↓cV,↓reduceIte,Nat.reduceEqDiff,reduceCtorEq];exact hZ):Tr cx n c ⟨A e,h⟩ Q:=
 Tr.kp ks (E (fun x=>Tr cx n c ⟨A x,h⟩ Q) H)
end
theorem LT {p:Prop}(h:p:=by (simp only[dz,cU,↓cV,↓reduceIte,Nat.reduceEqDiff,cC,db,cE,dc,dg,and_true,true_and];all_goals (repeat' first|exact CLe.refl _|exact True.intro| (refine bS ?_;first|rfl| (simp only[List.take_zero];done)) |exact dE (by omega) |exact dA (by omega) |exact dB (by omega) |exact dD (by omega) |with_reducible apply And.intro))):p:=h
theorem O1 {p:Prop}(h:p:=by first|omega| (simp only[];omega)):p:=h
end Go.Sx
namespace Go.Sx
open Go.RowKit
section
variable (a1 b1:Nat) (z1:List Value)
theorem Gs (k e:TypeId)(xs:List C):sd (some ⟨.map k e,a1,b1,z1⟩) xs= (cK xs 0).map vp:=rfl
end
section
variable (cx:Cx) (apps:List Nat) (dsts:List (Option Nat)) (l:List Oper) (id id':Nat) (d:Option Nat) (e:List (Nat×C)) (h:Hp) (fs:List FP) (K:List FP→St→Prop) (ty:TypeId) (pos:String) (aft:Array Edge)
theorem Gt (t:TypeId):run cx apps dsts (⟨d,.makeMap t none,ty,pos,aft,none⟩::l) id e h fs K=AN (d5 cx.N d) (cW cx apps dsts l id id d e h fs K (eJ cx.P t)):=
 bW cx apps dsts l id id d e h fs K ty pos aft (.makeMap t none) (eJ cx.P t) (by first|rfl| (cases d<;>rfl)) rfl
theorem Ca (t:TypeId)(x y:Operand)(ok:Bool):run cx apps dsts (⟨d,.lookup t x y ok,ty,pos,aft,none⟩::l) id e h fs K=AN (d5 cx.N d) (cW cx apps dsts l id id d e h fs K (ej cx t (on cx e x) (on cx e y) ok)):=
 bW cx apps dsts l id id d e h fs K ty pos aft (.lookup t x y ok) (ej cx t (on cx e x) (on cx e y) ok) (by first|rfl| (cases d<;>rfl)) rfl
theorem Cb (t:TypeId)(m k x:Operand):run cx apps dsts (⟨d,.mapUpdate t m k x,ty,pos,aft,none⟩::l) id e h fs K=AN (d5 cx.N d) (cW cx apps dsts l id id d e h fs K (eK cx t (on cx e m) (on cx e k) (on cx e x))):=
 bW cx apps dsts l id id d e h fs K ty pos aft (.mapUpdate t m k x) (eK cx t (on cx e m) (on cx e k) (on cx e x)) (by first|rfl| (cases d<;>rfl)) rfl
theorem Cc (t t2:TypeId)(m k:Operand):run cx apps dsts (⟨d,.call ⟨.builtin .delete,#[m,k],#[t,t2]⟩,ty,pos,aft,none⟩::l) id e h fs K=AN (d5 cx.N d) (cW cx apps dsts l id id d e h fs K (eL cx t (on cx e m) (on cx e k))):=
 bW cx apps dsts l id id d e h fs K ty pos aft (.call ⟨.builtin .delete,#[m,k],#[t,t2]⟩) (eL cx t (on cx e m) (on cx e k)) (by first|rfl| (cases d<;>rfl)) rfl
theorem JV (f:Hp→Option (C×Hp)):cW cx apps dsts l id id' d e h fs K (some (.mo f)) =qy cx apps dsts l id' d e fs K (f h):=by
 unfold cW qy gA
 simp only[aB]
 cases f h with
 |none=>rfl
 |some c=>simp only[Option.map_some,dM,fu];rfl
theorem Cd:qy cx apps dsts l id' d e fs K (om h) =run cx apps dsts l id' (dU d (.mp h.length) e) (h++[some (c9 [])]) ((4,0)::fs) K:=rfl
end
theorem Gu {P:Program}{t kt et:TypeId}(hk:iA P t=some (kt,et)):eJ P t=some (.mo om):=by unfold eJ;rw[hk];rfl
theorem Ce (cx:Cx)(t:TypeId)(b:Nat)(k:C)(u:Value)(ok:Bool)(hq:eI k=some u):ej cx t (.mp b) k ok=some (.mo (jK cx t b u ok)):=by unfold ej;rw[hq]
theorem Gv (cx:Cx)(t:TypeId)(b:Nat)(k x:C)(u:Value)(hq:eI k=some u):eK cx t (.mp b) k x=some (.mo (l8 cx t b u x)):=by unfold eK;rw[hq]
theorem Gw (cx:Cx)(t:TypeId)(b:Nat)(k:C)(u:Value)(hq:eI k=some u):eL cx t (.mp b) k=some (.mo (ma cx t b u)):=by unfold eL;rw[hq]
theorem sL (o:Option (List C))(h:Hp):Hp.mp (o::h) 0=eu o:=rfl
theorem nE (o:Option (List C))(h:Hp)(n:Nat):Hp.mp (o::h) (n+1) =Hp.mp h n:=rfl
attribute [go_sem] Gs Gt Ca Cb Cc JV Cd sL nE
end Go.Sx
namespace Go.Sx
open Go.RowKit
end Go.Sx
namespace Go.Sx
open Go.RowKit
def Cf (t n:Nat):Option Nat→C
 |some j=> .bt j t n
 |none=> .top
theorem sM (ρ:List Nat)(b t n:Nat):aY ρ (.bt b t n) =Cf t n (dF ρ 0 b):=by simp only[aY];cases dF ρ 0 b<;>rfl
theorem lI (t n j:Nat):Cf t n (some j) = .bt j t n:=rfl
theorem lJ (t n:Nat):Cf t n none= .top:=rfl
def Cg:Option Nat→C
 |some j=> .mp j
 |none=> .top
theorem sN (ρ:List Nat)(b:Nat):aY ρ (.mp b) =Cg (dF ρ 0 b):=by simp only[aY];cases dF ρ 0 b<;>rfl
theorem lK (j:Nat):Cg (some j) = .mp j:=rfl
theorem lL:Cg none= .top:=rfl
section
variable (cx:Cx) (apps:List Nat) (dsts:List (Option Nat)) (l:List Oper) (id':Nat) (d:Option Nat) (e:List (Nat×C)) (h:Hp) (fs:List FP) (K:List FP→St→Prop)
def vW (b off:Nat)(cells:List C)(o:Option C):Prop:=match o with
 |none=>False
 |some x=>run cx apps dsts l id' (dU d x e) (h.set b (some (cells.set off x.noR))) ((3,b)::fs) K
theorem yS (b off:Nat)(cells:List C):xD cx apps dsts l id' d e h fs K b off (some cells) =vW cx apps dsts l id' d e h fs K b off cells (cells[off]?):=rfl
theorem yT (b off:Nat)(cells:List C)(x:C):vW cx apps dsts l id' d e h fs K b off cells (some x) =run cx apps dsts l id' (dU d x e) (h.set b (some (cells.set off x.noR))) ((3,b)::fs) K:=rfl
end
@[congr] theorem NZ {cx:Cx} {apps:List Nat} {dsts:List (Option Nat)} {l:List Oper} {id':Nat} {d:Option Nat} {e:List (Nat×C)} {h:Hp} {fs:List FP} {K:List FP→St→Prop} {b off:Nat} {cells:List C} {p p':Option C} (hp:p=p'):
   vW cx apps dsts l id' d e h fs K b off cells p=vW cx apps dsts l id' d e h fs K b off cells p':=by rw[hp]
attribute [go_sem] yS yT
theorem Gx (b:Nat)(r:List C):aQ (some (.mp b::r)) =some (.mp b::r):=rfl
theorem JW (b:Nat): (C.mp b).noR= .mp b:=rfl
attribute [go_sem] JW
attribute [go_sem] Gx
end Go.Sx
namespace Go.Sx
open Go.RowKit
mutual
def bU (r:Nat→Nat):C→C
 | .sv b o n=> .sv (r b) o n
 | .gv b n s=> .gv (r b) n s
 | .bp b o=> .bp (r b) o
 | .mp b=> .mp (r b)
 | .bt b t n=> .bt (r b) t n
 | .sl q n xs=> .sl q n (bkCs r xs)
 | .kp xs=> .kp (bkCs r xs)
 | .agg xs=> .agg (bkCs r xs)
 | .tup xs=> .tup (bkCs r xs)
 | .fn f xs=> .fn f (bkCs r xs)
 | .top=> .top
 | .val v=> .val v
def bkCs (r:Nat→Nat):List C→List C
 | [] =>[]
 |x::xs=>bU r x::bkCs r xs
end
theorem kA (r:Nat→Nat):∀xs:List C,bkCs r xs=xs.map (bU r)
 | [] =>rfl
 |x::xs=>by simp[bkCs,kA r xs]
structure BkG (r:Nat→Nat) (A B:Gh):Prop where
 K:∀b o u,A.K b o=some u→B.K b o=some u
 μ:∀i k,A.μ i=some k→B.μ (r i) =some k
 σ:∀i z,A.σ i=some z→B.σ (r i) =some z
mutual
theorem jR {r:Nat→Nat}{A B:Gh}(h:BkG r A B):∀ (c:C)(v:Value),Rep A c v→Rep B (bU r c) v
 | .top,_,_=>by simp[bU,Rep]
 | .val u,v,q=>by simpa[bU,Rep] using q
 | .sl q n xs,v,x=>by
   simp only[bU,Rep] at x ⊢
   obtain ⟨a,cap,h1,h2,h3,h4,h5⟩:=x
   refine ⟨a,cap,h1,h2,h3,h4,?_⟩
   rcases h5 with h5| ⟨blk,off,ha,hk⟩
   . left;rw[h5];rfl
   . exact .inr ⟨blk,off,ha,bkC_repK h xs blk off hk⟩
 | .sv b off n,v,x=>by
   simp only[bU,Rep] at x ⊢
   obtain ⟨a,cap,h1,h2,h3,h4⟩:=x
   exact ⟨a,cap,h1,h2,h3,fun hz=>by obtain ⟨blk,q1,q2⟩:=h4 hz;exact ⟨blk,h.μ _ _ q1,q2⟩⟩
 | .gv b m s,v,x=>by
   simp only[bU,Rep] at x ⊢
   obtain ⟨a,cap,h1,h2,h3,h4⟩:=x
   refine ⟨a,cap,h1,h2,h3,?_⟩
   rcases h4 with h4| ⟨blk,q1,q2,q3⟩
   . exact .inl h4
   . exact .inr ⟨blk,h.μ _ _ q1,q2,h.σ _ _ q3⟩
 | .bp b off,v,x=>by
   simp only[bU,Rep] at x ⊢
   obtain ⟨blk,h1,h2⟩:=x
   exact ⟨blk,h.μ _ _ h1,h2⟩
 | .mp b,v,x=>by
   simp only[bU,Rep] at x ⊢
   obtain ⟨blk,h1,h2⟩:=x
   exact ⟨blk,h.μ _ _ h1,h2⟩
 | .bt b t n,v,x=>by
   simp only[bU,Rep] at x ⊢
   obtain ⟨blk,h1,h2,h3⟩:=x
   exact ⟨blk,h.μ _ _ h1,h2,h.σ _ _ h3⟩
 | .kp xs,v,x=>by
   simp only[bU,Rep] at x ⊢
   obtain ⟨blk,off,h1,h2⟩:=x
   exact ⟨blk,off,h1,bkC_repK h xs blk off h2⟩
 | .agg xs,v,x=>by
   simp only[bU,Rep] at x ⊢
   obtain ⟨vs,h1,h2,h3⟩:=x
   exact ⟨vs,h1,bkC_repL h xs _ h2,h3⟩
 | .tup xs,v,x=>by
   simp only[bU,Rep] at x ⊢
   obtain ⟨vs,h1,h2⟩:=x
   exact ⟨vs,h1,bkC_repL h xs _ h2⟩
 | .fn f xs,v,x=>by
   simp only[bU,Rep] at x ⊢
   obtain ⟨vs,h1,h2⟩:=x
   exact ⟨vs,h1,bkC_repL h xs _ h2⟩
theorem bkC_repL {r:Nat→Nat}{A B:Gh}(h:BkG r A B):∀ (xs:List C)(vs:List Value),RepL A xs vs→RepL B (bkCs r xs) vs
 | [],vs,q=>by simpa[bkCs,RepL] using q
 |x::xs,vs,q=>by
  simp only[bkCs,RepL] at q ⊢
  obtain ⟨v,vs',h1,h2,h3⟩:=q
  exact ⟨v,vs',h1,jR h x v h2,bkC_repL h xs vs' h3⟩
theorem bkC_repK {r:Nat→Nat}{A B:Gh}(h:BkG r A B):∀ (xs:List C)(blk off:Nat),RepK A blk off xs→RepK B blk off (bkCs r xs)
 | [],_,_,_=>by simp[bkCs,RepK]
 |x::xs,blk,off,q=>by
  simp only[bkCs,RepK] at q ⊢
  obtain ⟨⟨u,h1,h2,h3⟩,h4⟩:=q
  exact ⟨⟨u,h.K _ _ _ h1,h2,jR h x u h3⟩,bkC_repK h xs blk (off+1) h4⟩
end
theorem sR {r:Nat→Nat}{A B:Gh}(h:BkG r A B):∀ (l:List C)(es:List MapEntry),MRep A l es→MRep B (bkCs r l) es
 | [],_,q=>by simpa[MRep,bkCs] using q
 | [_],_,q=>by simp[MRep] at q
 |k::v::l,es,q=>by
  simp only[MRep,bkCs] at q ⊢
  obtain ⟨e,es',h1,h2,h3,h4⟩:=q
  exact ⟨e,es',h1,jR h k _ h2,jR h v _ h3,sR h l es' h4⟩
theorem uA {r:Nat→Nat}{c:C}{s m:Nat}{xs:List C}(h:bU r c= .sl (.own s) m xs):∃ys,c= .sl (.own s) m ys:=by
 cases c<;>simp only[bU] at h<;>cases h
 exact ⟨_,rfl⟩
theorem yV {r:Nat→Nat}{c:C}{u:Value}(h:bU r c= .val u):c= .val u:=by
 cases c<;>simp only[bU] at h<;>cases h
 rfl
theorem yW {r:Nat→Nat}{c:C}{xs:List C}(h:bU r c= .tup xs):∃ys,c= .tup ys∧xs=bkCs r ys:=by
 cases c<;>simp only[bU] at h<;>cases h
 exact ⟨_,rfl,rfl⟩
theorem Gy {r:Nat→Nat}{o:Option (List C)}{cells:List C}(h:aQ (o.map (bkCs r)) =some cells):∃c0,aQ o=some c0∧cells=bkCs r c0:=by
 have h1:=dV h
 cases o with
 |none=>cases h1
 |some c0=>
  simp only[Option.map_some,Option.some.injEq] at h1
  refine ⟨c0,?_,h1.symm⟩
  subst h1
  cases c0 with
  |nil=>rfl
  |cons x l=>
   cases x with
   |tup xs=>simp only[Option.map_some,bkCs,bU] at h;cases h
   |_=>rfl
theorem JX {r:Nat→Nat}{o:Option (List C)}{l:List C}(h:eu (o.map (bkCs r)) =some l):∃l0,eu o=some l0∧l=bkCs r l0:=by
 cases o with
 |none=>cases h
 |some c0=>exact pw (Fs:=bkCs r) (kA r) (fun _ _=>yV) (fun _ _=>yW) h
def fw (ρ:List Nat)(L:Nat)(i:Nat):Nat:=match ρ[i]? with
 |some b=>b
 |none=>L+(i - ρ.length)
def eO (ρ:List Nat)(L:Nat)(b:Nat):Option Nat:=if b< L then dF ρ 0 b else some (ρ.length+(b - L))
def kS (ρ:List Nat)(H h':Hp):Hp:=
 ((List.range H.length).map fun b=>match dF ρ 0 b with
   |some i=>((h'[i]?).getD none).map (bkCs (fw ρ H.length))
   |none=>(H[b]?).getD none)++(h'.drop ρ.length).map (Option.map (bkCs (fw ρ H.length)))
section
variable {ρ:List Nat} {H h':Hp}
theorem rf (hn:ρ.Nodup)(hl:∀b∈ρ,b< H.length)(i:Nat):eO ρ H.length (fw ρ H.length i) =some i:=by
 unfold eO fw
 cases hi:ρ[i]? with
 |some b=>
  simp only[]
  rw[if_pos (hl b (List.mem_of_getElem? hi)),ia hn hi,Nat.zero_add]
 |none=>
  simp only[]
  have:ρ.length≤i:=List.getElem?_eq_none_iff.1 hi
  rw[if_neg (by omega)]
  congr 1;omega
theorem mg {b i:Nat}(h:eO ρ H.length b=some i):fw ρ H.length i=b:=by
 unfold eO at h
 unfold fw
 split at h
 . have:=(eN h).2
   rw[Nat.sub_zero] at this
   rw[this]
 . cases h
   rw[List.getElem?_eq_none (by omega)]
   simp only[]
   omega
theorem mh (b:Nat): (kS ρ H h')[b]? =match eO ρ H.length b with
 |some i=>if b< H.length then some (((h'[i]?).getD none).map (bkCs (fw ρ H.length))) else (h'[i]?).map (Option.map (bkCs (fw ρ H.length)))
 |none=>H[b]? :=by
 unfold kS eO
 by_cases hb:b< H.length
 . rw[List.getElem?_append_left (by simpa using hb),List.getElem?_map,List.getElem?_range hb,if_pos hb]
   simp only[Option.map_some]
   cases hl:dF ρ 0 b with
   |some i=>simp only[hb,if_true]
   |none=>simp only[];rw[List.getElem?_eq_getElem hb];rfl
 . rw[List.getElem?_append_right (by simp;omega),if_neg hb]
   simp only[List.length_map,List.length_range,List.getElem?_map,List.getElem?_drop,hb,if_false]
theorem ox {b:Nat}{cells:List C}(h: (kS ρ H h').at b=some cells): (∃i c0,eO ρ H.length b=some i∧h'.at i=some c0∧cells=bkCs (fw ρ H.length) c0)∨(eO ρ H.length b=none∧H.at b=some cells):=by
 unfold Hp.at at h
 rw[mh] at h
 cases hs:eO ρ H.length b with
 |none=>rw[hs] at h;exact .inr ⟨rfl,h⟩
 |some i=>
  rw[hs] at h
  left
  have:∃o,h'[i]? =some o∧aQ (o.map (bkCs (fw ρ H.length))) =some cells:=by
   simp only[] at h
   split at h
   . cases hq:h'[i]? with
     |none=>rw[hq] at h;cases h
     |some o=>rw[hq] at h;exact ⟨o,rfl,h⟩
   . cases hq:h'[i]? with
     |none=>rw[hq] at h;cases h
     |some o=>rw[hq] at h;exact ⟨o,rfl,h⟩
  obtain ⟨o,h1,h2⟩:=this
  obtain ⟨c0,h3,h4⟩:=Gy h2
  exact ⟨i,c0,rfl,by unfold Hp.at;rw[h1];exact h3,h4⟩
theorem sS {b:Nat}{l:List C}(h: (kS ρ H h').mp b=some l): (∃i l0,eO ρ H.length b=some i∧h'.mp i=some l0∧l=bkCs (fw ρ H.length) l0)∨(eO ρ H.length b=none∧H.mp b=some l):=by
 unfold Hp.mp at h
 rw[mh] at h
 cases hs:eO ρ H.length b with
 |none=>rw[hs] at h;exact .inr ⟨rfl,h⟩
 |some i=>
  rw[hs] at h
  left
  have:∃o,h'[i]? =some o∧eu (o.map (bkCs (fw ρ H.length))) =some l:=by
   simp only[] at h
   split at h
   . cases hq:h'[i]? with
     |none=>rw[hq] at h;cases h
     |some o=>rw[hq] at h;exact ⟨o,rfl,h⟩
   . cases hq:h'[i]? with
     |none=>rw[hq] at h;cases h
     |some o=>rw[hq] at h;exact ⟨o,rfl,h⟩
  obtain ⟨o,h1,h2⟩:=this
  obtain ⟨c0,h3,h4⟩:=JX h2
  exact ⟨i,c0,rfl,by unfold Hp.mp;rw[h1];exact h3,h4⟩
theorem Ch {b i:Nat}{c0:List C}(hs:eO ρ H.length b=some i)(h:h'[i]? =some (some c0)): (kS ρ H h')[b]? =some (some (bkCs (fw ρ H.length) c0)):=by
 rw[mh,hs]
 simp only[h]
 split<;>rfl
end
open Classical in
noncomputable def eH (ρ:List Nat)(L z:Nat)(G G2:Gh):Gh where
 K:=G2.K
 μ:=fun b=>match eO ρ L b with
  |some i=>G2.μ i
  |none=>G.μ b
 T:=fun g=>match G2.T g with
  |some p=>some (if p.1=1 then (1,fw ρ L p.2.1,p.2.2) else p)
  |none=>if g< z∧(cP ρ G).T g=none then G.T g else none
 σ:=fun b=>match eO ρ L b with
  |some i=>G2.σ i
  |none=>G.σ b
theorem qH {P:Program}{gl:Nat→C}{f:Nat}{args:List C}{c:C}{H h':Hp}(ρ:List Nat)(hn:ρ.Nodup)(hlive:∀b∈ρ,(H.at b).isSome=true∨(H.mp b).isSome=true)
 (hD:∀b,b< H.length→b∉ρ→(H.at b).isSome=true∨(H.mp b).isSome=true∨H[b]? =some none)
 (hf:FC P gl f (mvCs ρ args) (gE ρ H) c h') (hg:∀g,ag 0 (gl g) =true):
 FC P gl f args H (bU (fw ρ H.length) c) (kS ρ H h'):=by
 obtain ⟨he,hf⟩:=hf
 refine ⟨he,fun G w vs W hTg hgl hr=>?_⟩
 have hl:∀b∈ρ,b< H.length:=fun b hb=>by
  rcases hlive b hb with h|h
  . obtain ⟨x,hx⟩:=Option.isSome_iff_exists.1 h;exact dS hx
  . obtain ⟨x,hx⟩:=Option.isSome_iff_exists.1 h;exact rN hx
 have W1:WorldOK (cP ρ G) (gE ρ H) w:=W.mv hn
 have hT1:∀g,G.T g=none→(cP ρ G).T g=none:=fun g h=>by simp only[cP,h]
 have hT1b:∀g b o,G.T g=some (1,b,o)→b∉ρ→(cP ρ G).T g=none:=fun g b o h hb=>by
  simp only[cP,h,if_true]
  cases hq:dF ρ 0 b with
  |none=>rfl
  |some j=>have:=(eN hq).2;exact (hb (List.mem_of_getElem? this)).elim
 refine Calls.mono (hf (cP ρ G) w vs W1 (fun g p x=>by
  simp only[cP] at x
  cases hq:G.T g with
  |none=>rw[hq] at x;cases x
  |some q=>
   rw[hq] at x
   have:=hTg g q hq
   simp only[this,if_true] at x
   cases hz:dF ρ 0 q.2.1 with
   |none=>rw[hz] at x;cases x
   |some j=>rw[hz] at x;cases x;rfl) (fun g=>qE (hg g) (hgl g)) (mvC_repL _ _ hr)) ?_
 rintro e w' ⟨v,G2,rfl,rv,ro,W2,F⟩
 have hμ1:∀i blk,(cP ρ G).μ i=some blk→∃b,ρ[i]? =some b∧G.μ b=some blk:=fun i blk x=>by
  simp only[cP] at x
  cases hq:ρ[i]? with
  |none=>rw[hq] at x;cases x
  |some q=>rw[hq] at x;exact ⟨q,rfl,x⟩
 have hout:∀b blk,eO ρ H.length b=none→G.μ b=some blk→((H.at b).isSome=true∨(H.mp b).isSome=true)∧∀i,(cP ρ G).μ i≠some blk:=fun b blk hs hm=>by
  obtain ⟨⟨c1,hc1⟩,_⟩:=W.dom b blk hm
  have hbl:=(List.getElem?_eq_some_iff.1 hc1).1
  have hbρ:b∉ρ:=fun hb=>by
   obtain ⟨i,hi⟩:=List.getElem?_of_mem hb
   have:=rf (H:=H) hn hl i
   unfold fw at this
   rw[hi] at this
   rw[hs] at this;cases this
  have hlv: (H.at b).isSome=true∨(H.mp b).isSome=true:=by
   rcases hD b hbl hbρ with h|h|h
   . exact .inl h
   . exact .inr h
   . rw[hc1] at h;cases h
  refine ⟨hlv,fun i hi=>?_⟩
  obtain ⟨q,hq,hqm⟩:=hμ1 i blk hi
  have hqρ:=List.mem_of_getElem? hq
  have hne:b≠q:=fun e=>hbρ (e▸hqρ)
  rcases hlv with h1|h1<;>rcases hlive q hqρ with h2|h2<;>obtain ⟨x1,y1⟩:=Option.isSome_iff_exists.1 h1<;>obtain ⟨x2,y2⟩:=Option.isSome_iff_exists.1 h2
  . exact hne (W.inj b q _ _ blk y1 y2 hm hqm)
  . obtain ⟨k,es,clk,q1,q2,_⟩:=W.mpo q x2 y2
    rw[hqm] at q1;cases q1
    obtain ⟨cs,e,⟨fr,r2,_⟩,_⟩:=W.bx y1 hm
    rw[q2] at r2;cases r2
  . obtain ⟨k,es,clk,q1,q2,_⟩:=W.mpo b x1 y1
    rw[hm] at q1;cases q1
    obtain ⟨cs,e,⟨fr,r2,_⟩,_⟩:=W.bx y2 hqm
    rw[q2] at r2;cases r2
  . exact hne (W.mpi b q _ _ blk y1 y2 hm hqm)
 have hobl:∀b blk,eO ρ H.length b=none→G.μ b=some blk→w'.heap[blk]? =w.heap[blk]? ∧G2.T blk=none∧(∀i,G2.μ i≠some blk)∧∀o,G2.K blk o=G.K blk o:=fun b blk hs hm=>
  F.old blk (W.dom b blk hm).2 (hT1 _ (W.sep b blk hm).2) (hout b blk hs hm).2
 have hμlt:∀b blk,G.μ b=some blk→blk< w.heap.size:=fun b blk x=>(W.dom b blk x).2
 have hrow:∀g b o,G.T g=some (1,b,o)→b∉ρ→w'.heap[g]? =w.heap[g]? ∧G2.T g=none∧(∀i,G2.μ i≠some g)∧∀o,G2.K g o=G.K g o:=fun g b o hg hb=>
  F.old g (W.tlt g _ hg) (hT1b g b o hg hb) (fun i hi=>by
   obtain ⟨q,_,hq⟩:=hμ1 i g hi
   have:=(W.sep q g hq).2;rw[hg] at this;cases this)
 have gk:BkG (fw ρ H.length) G2 (eH ρ H.length w.heap.size G G2):=⟨fun _ _ _ x=>x,fun i k x=>by simp only[eH,rf hn hl];exact x,fun i z x=>by simp only[eH,rf hn hl];exact x⟩
 have le3:G.Le (eH ρ H.length w.heap.size G G2):=by
  refine ⟨fun b o u x=>F.le.K b o u x,fun b k x=>?_,fun b z x=>?_⟩
  . simp only[eH]
    cases hs:eO ρ H.length b with
    |none=>exact x
    |some i=>
     simp only[]
     have hb:=mg hs
     refine F.le.μ i k ?_
     obtain ⟨⟨c1,hc1⟩,_⟩:=W.dom b k x
     have hbl:=(List.getElem?_eq_some_iff.1 hc1).1
     simp only[eO,hbl,if_true] at hs
     have:=(eN hs).2
     rw[Nat.sub_zero] at this
     simp only[cP,this];exact x
  . simp only[eH]
    cases hs:eO ρ H.length b with
    |none=>exact x
    |some i=>
     simp only[]
     refine F.le.σ i z ?_
     obtain ⟨blk,_,_,_,q1,_⟩:=W.siz b z x
     obtain ⟨⟨c1,hc1⟩,_⟩:=W.dom b blk q1
     have hbl:=(List.getElem?_eq_some_iff.1 hc1).1
     simp only[eO,hbl,if_true] at hs
     have:=(eN hs).2
     rw[Nat.sub_zero] at this
     simp only[cP,this];exact x
 have hSρ:∀b,eO ρ H.length b=none→b∉ρ:=fun b hs hb=>by
  obtain ⟨i,hi⟩:=List.getElem?_of_mem hb
  have:=rf (H:=H) hn hl i
  unfold fw at this
  rw[hi] at this
  rw[hs] at this;cases this
 have ownI:∀ (p p':bg)(u:Value)(s n:Nat),OwnRow G2 w' p u s n→p'= (if p.1=1 then (1,fw ρ H.length p.2.1,p.2.2) else p)→OwnRow (eH ρ H.length w.heap.size G G2) w' p' u s n:=fun p p' u s n O hp=>by
  rcases O with O| ⟨g,cap,cur,e,a1,a2,a3,a4,a5,a6⟩
  . exact .inl O
  . refine .inr ⟨g,cap,cur,e,a1,by simp only[eH,a2];rw[hp],a3,a4,a5,fun b hb=>?_⟩
    simp only[eH] at hb
    cases hs:eO ρ H.length b with
    |some i=>rw[hs] at hb;exact a6 i hb
    |none=>
     rw[hs] at hb
     have:=(hobl b g hs hb).2.1
     rw[a2] at this;cases this
 refine ⟨v,eH ρ H.length w.heap.size G G2,rfl,jR gk c v rv,fun s n xs e=>?_,⟨fun blk off u x=>W2.known blk off u x,fun b cells hb=>?_,fun b blk hm=>?_,fun b b' c1 c2 blk hb hb' hm hm'=>?_,fun b blk hm=>?_,fun g p hp=>?_,fun b cells off s n xs blk u hb hc hm hv=>?_,fun b z hz=>?_,fun b l hb=>?_,fun b b' l l' blk hb hb' hm hm'=>?_⟩,F.os,F.tape,F.output,F.size,le3,fun g hg' ht hm=>?_⟩
 . obtain ⟨ys,hy⟩:=uA e
   exact ownI _ _ v s n (ro s n ys hy) rfl
 . rcases ox hb with ⟨i,c0,hs,h1,rfl⟩ | ⟨hs,h1⟩
   . rcases W2.box i c0 h1 with ⟨hE,hE2⟩ | ⟨blk,cs,e,q1,q2,q3,q4,q5⟩
     . exact .inl ⟨by rw[hE];rfl,by simp only[eH,hs];exact hE2⟩
     . have hlen: (bkCs (fw ρ H.length) c0).length=c0.length:=by rw[kA];simp
       exact .inr ⟨blk,cs,e,by simp only[eH,hs];exact q1,q2,by rw[hlen];exact q3,by rw[hlen];exact bkC_repL gk _ _ q4,q5⟩
   . rcases W.box b cells h1 with ⟨hE,hE2⟩ | ⟨blk,cs,e,q1,q2,q3,q4,q5⟩
     . exact .inl ⟨hE,by simp only[eH,hs];exact hE2⟩
     . exact .inr ⟨blk,cs,e,by simp only[eH,hs];exact q1,by rw[(hobl b blk hs q1).1];exact q2,q3,q4.mono le3,q5⟩
 . simp only[eH] at hm
   cases hs:eO ρ H.length b with
   |some i=>
    rw[hs] at hm
    obtain ⟨⟨c1,hc1⟩,hlt⟩:=W2.dom i blk hm
    exact ⟨⟨_,Ch hs hc1⟩,hlt⟩
   |none=>
    rw[hs] at hm
    obtain ⟨⟨c1,hc1⟩,hlt⟩:=W.dom b blk hm
    exact ⟨⟨c1,by rw[mh,hs];exact hc1⟩,Nat.lt_of_lt_of_le hlt F.size⟩
 . simp only[eH] at hm hm'
   rcases ox hb with ⟨i,c0,hs,h1,_⟩ | ⟨hs,h1⟩ <;>rcases ox hb' with ⟨i',c0',hs',h1',_⟩ | ⟨hs',h1'⟩
   . rw[hs] at hm
     rw[hs'] at hm'
     have:=W2.inj i i' _ _ blk h1 h1' hm hm'
     subst this
     rw[←mg hs,←mg hs']
   . rw[hs] at hm
     rw[hs'] at hm'
     exact ((hobl b' blk hs' hm').2.2.1 i hm).elim
   . rw[hs] at hm
     rw[hs'] at hm'
     exact ((hobl b blk hs hm).2.2.1 i' hm').elim
   . rw[hs] at hm
     rw[hs'] at hm'
     exact W.inj b b' _ _ blk h1 h1' hm hm'
 . simp only[eH] at hm
   cases hs:eO ρ H.length b with
   |some i=>
    rw[hs] at hm
    obtain ⟨s1,s2⟩:=W2.sep i blk hm
    refine ⟨s1,?_⟩
    simp only[eH,s2]
    split
    . rename_i hc
      cases hq:G.T blk with
      |none=>rfl
      |some p=>
       have hp1:=hTg blk p hq
       obtain ⟨p1,pb,po⟩:=p
       simp only at hp1
       subst hp1
       have hpb:pb∉ρ:=fun hb=>by
        obtain ⟨j,hj⟩:=List.getElem?_of_mem hb
        have h1:=hc.2
        simp only[cP,hq,if_true,ia (k:=0) hn hj] at h1
        cases h1
       exact ((hrow blk pb po hq hpb).2.2.1 i hm).elim
    . rfl
   |none=>
    rw[hs] at hm
    obtain ⟨s1,s2⟩:=W.sep b blk hm
    obtain ⟨o1,o2,o3,o4⟩:=hobl b blk hs hm
    refine ⟨fun o=>(o4 o).trans (s1 o),?_⟩
    simp only[eH,o2,s2]
    split<;>rfl
 . simp only[eH] at hp
   cases hq:G2.T g with
   |some p2=>exact W2.tlt g p2 hq
   |none=>
    rw[hq] at hp
    simp only[] at hp
    split at hp
    . exact Nat.lt_of_lt_of_le (W.tlt g p hp) F.size
    . cases hp
 . simp only[eH] at hm
   rcases ox hb with ⟨i,c0,hs,h1,rfl⟩ | ⟨hs,h1⟩
   . rw[hs] at hm
     rw[kA,List.getElem?_map] at hc
     cases hq:c0[off]? with
     |none=>rw[hq] at hc;cases hc
     |some y=>
      rw[hq] at hc
      simp only[Option.map_some,Option.some.injEq] at hc
      obtain ⟨ys,rfl⟩:=uA hc
      refine ownI _ _ u s n (W2.own i c0 off s n ys blk u h1 hq hm hv) ?_
      rw[if_pos rfl,mg hs]
   . rw[hs] at hm
     have hcell:w'.cell? ⟨blk,off,none⟩ =w.cell? ⟨blk,off,none⟩:=by
      unfold World.cell?;rw[(hobl b blk hs hm).1]
     rcases W.own b cells off s n xs blk u h1 hc hm (by rw[←hcell];exact hv) with O| ⟨g,cap,cur,e,a1,a2,a3,a4,a5,a6⟩
     . exact .inl O
     . have hbρ:=hSρ b hs
       obtain ⟨o1,o2,o3,o4⟩:=hrow g b off a2 hbρ
       refine .inr ⟨g,cap,cur,e,a1,?_,o1.trans a3,a4,fun o ho=>(o4 o).trans (a5 o ho),fun b' hb'=>?_⟩
       . simp only[eH,o2]
         rw[if_pos ⟨W.tlt g _ a2,hT1b g b off a2 hbρ⟩];exact a2
       . simp only[eH] at hb'
         cases hs':eO ρ H.length b' with
         |some i=>rw[hs'] at hb';exact o3 i hb'
         |none=>rw[hs'] at hb';exact a6 b' hb'
 . simp only[eH] at hz ⊢
   cases hs:eO ρ H.length b with
   |some i=>
    rw[hs] at hz
    exact W2.siz i z hz
   |none=>
    rw[hs] at hz
    obtain ⟨blk,cs,e,fr,q1,q2,q3⟩:=W.siz b z hz
    exact ⟨blk,cs,e,fr,q1,(hobl b blk hs q1).1.trans q2,q3⟩
 . rcases sS hb with ⟨i,l0,hs,h1,rfl⟩ | ⟨hs,h1⟩
   . obtain ⟨blk,es,clk,q1,q2,q3⟩:=W2.mpo i l0 h1
     exact ⟨blk,es,clk,by simp only[eH,hs];exact q1,q2,sR gk _ _ q3⟩
   . obtain ⟨blk,es,clk,q1,q2,q3⟩:=W.mpo b l h1
     exact ⟨blk,es,clk,by simp only[eH,hs];exact q1,(hobl b blk hs q1).1.trans q2,q3.mono le3⟩
 . simp only[eH] at hm hm'
   rcases sS hb with ⟨i,c0,hs,h1,_⟩ | ⟨hs,h1⟩ <;>rcases sS hb' with ⟨i',c0',hs',h1',_⟩ | ⟨hs',h1'⟩
   . rw[hs] at hm
     rw[hs'] at hm'
     have:=W2.mpi i i' _ _ blk h1 h1' hm hm'
     subst this
     rw[←mg hs,←mg hs']
   . rw[hs] at hm
     rw[hs'] at hm'
     exact ((hobl b' blk hs' hm').2.2.1 i hm).elim
   . rw[hs] at hm
     rw[hs'] at hm'
     exact ((hobl b blk hs hm).2.2.1 i' hm').elim
   . rw[hs] at hm
     rw[hs'] at hm'
     exact W.mpi b b' _ _ blk h1 h1' hm hm'
 . obtain ⟨o1,o2,o3,o4⟩:=F.old g hg' (hT1 g ht) (fun i hi=>by obtain ⟨q,_,hq⟩:=hμ1 i g hi;exact hm q hq)
   refine ⟨o1,?_,fun b hb=>?_,o4⟩
   . simp only[eH,o2,ht];split<;>rfl
   . simp only[eH] at hb
     cases hs:eO ρ H.length b with
     |some i=>rw[hs] at hb;exact o3 i hb
     |none=>rw[hs] at hb;exact hm b hb
end Go.Sx
namespace Go.Sx
open Go.RowKit
theorem gF (n:Nat):∀ (k s b:Nat),dF (List.range' n k) s b=if n≤b∧b< n+k then some (s+(b - n)) else none
 |0,s,b=>by
  rw[if_neg (by omega)];rfl
 |k+1,s,b=>by
  rw[List.range'_succ]
  simp only[dF]
  by_cases h:b=n
  . rw[if_pos h,if_pos (by omega)];congr 1;omega
  . rw[if_neg h,gF (n+1) k (s+1) b]
    by_cases h2:n≤b∧b< n+(k+1)
    . rw[if_pos (by omega),if_pos h2];congr 1;omega
    . rw[if_neg (by omega),if_neg h2]
section
variable {n k:Nat}
theorem i6 {b:Nat}(h:b< k):dF (List.range' n k) 0 (n+b) =some b:=by
 rw[gF,if_pos (by omega)];congr 1;omega
mutual
theorem N0:∀c:C,ag k c=true→aY (List.range' n k) (bU (n+ ·) c) =c
 | .top,_=>by simp only[bU,aY]
 | .val v,_=>by simp only[bU,aY]
 | .sv b o m,h=>by simp only[ag,decide_eq_true_eq] at h;simp only[bU,aY,i6 h]
 | .gv b m s,h=>by simp only[ag,decide_eq_true_eq] at h;simp only[bU,aY,i6 h]
 | .bp b o,h=>by simp only[ag,decide_eq_true_eq] at h;simp only[bU,aY,i6 h]
 | .mp b,h=>by simp only[ag,decide_eq_true_eq] at h;simp only[bU,aY,i6 h]
 | .bt b t m,h=>by simp only[ag,decide_eq_true_eq] at h;simp only[bU,aY,i6 h]
 | .sl r m xs,h=>by simp only[ag] at h;simp only[bU,aY,mv_bks xs h]
 | .kp xs,h=>by simp only[ag] at h;simp only[bU,aY,mv_bks xs h]
 | .agg xs,h=>by simp only[ag] at h;simp only[bU,aY,mv_bks xs h]
 | .tup xs,h=>by simp only[ag] at h;simp only[bU,aY,mv_bks xs h]
 | .fn f xs,h=>by simp only[ag] at h;simp only[bU,aY,mv_bks xs h]
theorem mv_bks:∀l:List C,noRefs k l=true→mvCs (List.range' n k) (bkCs (n+ ·) l) =l
 | [],_=>by simp only[bkCs,mvCs]
 |x::l,h=>by
  simp only[noRefs,Bool.and_eq_true] at h
  simp only[bkCs,mvCs,N0 x h.1,mv_bks l h.2]
end
end
def dn (n:Nat)(h:Hp):Hp:=h.map (Option.map (bkCs (n+ ·)))
def fx (o:Option (List C)):Bool:=(aQ o).isSome|| (eu o).isSome||o.isNone
theorem uB {r:Nat→Nat}{o:Option (List C)}(h: (aQ o).isSome=true): (aQ (o.map (bkCs r))).isSome=true:=by
 cases o with
 |none=>exact h
 |some cells=>
  cases cells with
  |nil=>rfl
  |cons c l=>cases c<;>first|rfl| (simp only[aQ] at h;cases h)
theorem DH {r:Nat→Nat}{o:Option (List C)}(h: (eu o).isSome=true): (eu (o.map (bkCs r))).isSome=true:=by
 obtain ⟨l,hl⟩:=Option.isSome_iff_exists.1 h
 unfold eu at hl
 split at hl
 . cases hl;rfl
 . cases hl
theorem FC.pre {P:Program}{gl:Nat→C}{f:Nat}{args:List C}{c:C}{X h':Hp}(hf:FC P gl f args X c h')(pre:Hp)(hpre:∀o∈pre,fx o=true)(hX:∀o∈X,((aQ o).isSome|| (eu o).isSome) =true)
 (hn:noRefs X.length args=true) (hnX:∀o∈X,∀cells,o=some cells→noRefs X.length cells=true) (hk:X.length≤h'.length) (hg:∀g,ag 0 (gl g) =true):
 FC P gl f (bkCs (pre.length+ ·) args) (pre++dn pre.length X) (bU (pre.length+ ·) c) (pre++dn pre.length h'):=by
 have hρl: (List.range' pre.length X.length).length=X.length:=by simp
 have hHl: (pre++dn pre.length X).length=pre.length+X.length:=by simp[dn]
 have hget:∀i,(pre++dn pre.length X)[pre.length+i]? = (X[i]?).map (Option.map (bkCs (pre.length+ ·))):=fun i=>by
  rw[List.getElem?_append_right (by omega)]
  unfold dn
  rw[List.getElem?_map,show pre.length+i - pre.length=i by omega]
 have hmv:gE (List.range' pre.length X.length) (pre++dn pre.length X) =X:=by
  unfold gE
  apply List.ext_getElem?
  intro i
  rw[List.getElem?_map]
  by_cases hi:i< X.length
  . rw[List.getElem?_range' hi,Option.map_some,Nat.one_mul,hget]
    rw[List.getElem?_eq_getElem hi]
    simp only[Option.map_some,Option.getD_some]
    congr 1
    cases hx:X[i] with
    |none=>rfl
    |some cells=>
     simp only[Option.map_some]
     congr 1
     exact mv_bks cells (hnX _ (List.getElem_mem hi) cells hx)
  . rw[List.getElem?_eq_none (by rw[hρl];omega),List.getElem?_eq_none (by omega)];rfl
 have hR:fw (List.range' pre.length X.length) (pre++dn pre.length X).length= (pre.length+ ·):=by
  funext i
  unfold fw
  by_cases hi:i< X.length
  . rw[List.getElem?_range' hi];simp
  . rw[List.getElem?_eq_none (by rw[hρl];omega)]
    simp only[hρl,hHl]
    omega
 have:=qH (P:=P) (gl:=gl) (f:=f) (args:=bkCs (pre.length+ ·) args) (c:=c) (H:=pre++dn pre.length X) (h':=h') (List.range' pre.length X.length) List.nodup_range' (fun b hb=>by
  obtain ⟨h1,h2⟩:=List.mem_range'_1.1 hb
  obtain ⟨i,rfl⟩:∃i,b=pre.length+i:=⟨b - pre.length,by omega⟩
  have hi:i< X.length:=by omega
  have h3:=hX _ (List.getElem_mem hi)
  simp only[Bool.or_eq_true] at h3
  unfold Hp.at Hp.mp
  rw[hget,List.getElem?_eq_getElem hi]
  exact h3.imp (fun h=>uB h) (fun h=>DH h))
  (fun b hb hnb=>by
    rw[hHl] at hb
    have hlt:b< pre.length:=by
     rcases Nat.lt_or_ge b pre.length with h|h
     . exact h
     . exact (hnb (List.mem_range'_1.2 ⟨h,by omega⟩)).elim
    have h3:=hpre _ (List.getElem_mem hlt)
    unfold Hp.at Hp.mp
    rw[List.getElem?_append_left hlt,List.getElem?_eq_getElem hlt]
    simp only[fx,Bool.or_eq_true] at h3
    rcases h3 with (h|h) |h
    . exact .inl h
    . exact .inr (.inl h)
    . exact .inr (.inr (by congr 1;exact Option.isNone_iff_eq_none.1 h)))
  (by rw[hmv,mv_bks args hn];exact hf) hg
 rw[hR] at this
 have hH:kS (List.range' pre.length X.length) (pre++dn pre.length X) h'=pre++dn pre.length h':=by
  have hS:kS (List.range' pre.length X.length) (pre++dn pre.length X) h'= ((List.range (pre.length+X.length)).map fun b=>match dF (List.range' pre.length X.length) 0 b with
   |some i=>((h'[i]?).getD none).map (bkCs (pre.length+ ·))
   |none=>((pre++dn pre.length X)[b]?).getD none)++(h'.drop X.length).map (Option.map (bkCs (pre.length+ ·))):=by
   unfold kS;rw[hR,hHl,hρl] <;>rfl
  rw[hS,List.range_add,List.map_append,List.append_assoc]
  congr 1
  . apply List.ext_getElem?
    intro i
    rw[List.getElem?_map]
    by_cases hi:i< pre.length
    . rw[List.getElem?_range hi,Option.map_some,gF,if_neg (by omega)]
      simp only[]
      rw[List.getElem?_append_left hi,List.getElem?_eq_getElem hi];rfl
    . rw[List.getElem?_eq_none (by simp;omega),List.getElem?_eq_none (by omega)];rfl
  . unfold dn
    rw[List.map_map]
    conv=>rhs;rw[←List.take_append_drop X.length h',List.map_append]
    congr 1
    apply List.ext_getElem?
    intro i
    rw[List.getElem?_map,List.getElem?_map,List.getElem?_take]
    by_cases hi:i< X.length
    . rw[List.getElem?_range hi,if_pos hi,List.getElem?_eq_getElem (by omega)]
      simp only[Option.map_some,Function.comp,i6 hi]
      rw[List.getElem?_eq_getElem (by omega)];rfl
    . rw[List.getElem?_eq_none (by simp;omega),if_neg hi];rfl
 rw[hH] at this
 exact this
end Go.Sx
namespace Go.Sx
open Go.RowKit
def yX (s y:Nat)(z:List Value)(n o m:Nat)(c:Option (List C)):Option (List C):=c.bind fun cells=>
 if o+m*s≤cells.length∧decide ((((cells.drop o).take (m*s)).map C.noR).length=m*s∧0< s∧z.length=s∧(n+m)*y≤140737488355328∧n+m≤9223372036854775807∧z.all (·.oneCell') =true) =true then some (((cells.drop o).take (m*s)).map C.noR) else none
theorem Ci (e:Nat)(u:TypeDesc)(s y:Nat)(z:List Value)(b' n b o m:Nat):mT e (some ⟨u,s,y,z⟩) (.gv b' n (s,e)) (.sv b o m) =some (.ap (some (b',n)) (s,e) m fun h=>yX s y z n o m (h.at b)):=by
 unfold mT
 simp only[if_true]
 rfl
attribute [go_sem] Ci
end Go.Sx
namespace Go.Sx
open Go.RowKit
def i7 (n k s:Nat)(i:Nat):Nat:=if i< k then n+i else n+s+i
theorem JY {P:Program}{gl:Nat→C}{f:Nat}{args:List C}{c:C}{X h':Hp}(hf:FC P gl f args X c h')(pre suf:Hp)(hpre:∀o∈pre,fx o=true)(hsuf:∀o∈suf,fx o=true)(hX:∀o∈X,((aQ o).isSome|| (eu o).isSome) =true)
 (hn:noRefs X.length args=true) (hnX:∀o∈X,∀cells,o=some cells→noRefs X.length cells=true) (hk:X.length≤h'.length) (hg:∀g,ag 0 (gl g) =true):
 FC P gl f (bkCs (pre.length+ ·) args) (pre++(dn pre.length X++suf)) (bU (i7 pre.length X.length suf.length) c)
  (pre++((h'.take X.length).map (Option.map (bkCs (i7 pre.length X.length suf.length)))++(suf++(h'.drop X.length).map (Option.map (bkCs (i7 pre.length X.length suf.length)))))):=by
 have hρl: (List.range' pre.length X.length).length=X.length:=by simp
 have hHl: (pre++(dn pre.length X++suf)).length=pre.length+(X.length+suf.length):=by simp[dn]
 have hget:∀i,i< X.length→(pre++(dn pre.length X++suf))[pre.length+i]? = (X[i]?).map (Option.map (bkCs (pre.length+ ·))):=fun i hi=>by
  rw[List.getElem?_append_right (by omega),show pre.length+i - pre.length=i by omega,List.getElem?_append_left (by simp[dn];omega)]
  unfold dn
  rw[List.getElem?_map]
 have hmv:gE (List.range' pre.length X.length) (pre++(dn pre.length X++suf)) =X:=by
  unfold gE
  apply List.ext_getElem?
  intro i
  rw[List.getElem?_map]
  by_cases hi:i< X.length
  . rw[List.getElem?_range' hi,Option.map_some,Nat.one_mul,hget i hi]
    rw[List.getElem?_eq_getElem hi]
    simp only[Option.map_some,Option.getD_some]
    congr 1
    cases hx:X[i] with
    |none=>rfl
    |some cells=>
     simp only[Option.map_some]
     congr 1
     exact mv_bks cells (hnX _ (List.getElem_mem hi) cells hx)
  . rw[List.getElem?_eq_none (by rw[hρl];omega),List.getElem?_eq_none (by omega)];rfl
 have hR:fw (List.range' pre.length X.length) (pre++(dn pre.length X++suf)).length=i7 pre.length X.length suf.length:=by
  funext i
  unfold fw i7
  by_cases hi:i< X.length
  . rw[List.getElem?_range' hi,if_pos hi];simp
  . rw[List.getElem?_eq_none (by rw[hρl];omega),if_neg hi]
    simp only[hρl,hHl]
    omega
 have:=qH (P:=P) (gl:=gl) (f:=f) (args:=bkCs (pre.length+ ·) args) (c:=c) (H:=pre++(dn pre.length X++suf)) (h':=h') (List.range' pre.length X.length) List.nodup_range' (fun b hb=>by
  obtain ⟨h1,h2⟩:=List.mem_range'_1.1 hb
  obtain ⟨i,rfl⟩:∃i,b=pre.length+i:=⟨b - pre.length,by omega⟩
  have hi:i< X.length:=by omega
  have h3:=hX _ (List.getElem_mem hi)
  simp only[Bool.or_eq_true] at h3
  unfold Hp.at Hp.mp
  rw[hget i hi,List.getElem?_eq_getElem hi]
  exact h3.imp (fun h=>uB h) (fun h=>DH h))
  (fun b hb hnb=>by
    rw[hHl] at hb
    have key:∃o,(pre++(dn pre.length X++suf))[b]? =some o∧fx o=true:=by
     rcases Nat.lt_or_ge b pre.length with h|h
     . exact ⟨_,by rw[List.getElem?_append_left h,List.getElem?_eq_getElem h],hpre _ (List.getElem_mem h)⟩
     . have h2:pre.length+X.length≤b:=by
        rcases Nat.lt_or_ge b (pre.length+X.length) with h2|h2
        . exact (hnb (List.mem_range'_1.2 ⟨h,h2⟩)).elim
        . exact h2
       have h3:b - pre.length - X.length< suf.length:=by omega
       refine ⟨suf[b - pre.length - X.length],?_,hsuf _ (List.getElem_mem h3)⟩
       rw[List.getElem?_append_right h,List.getElem?_append_right (by simp[dn];omega)]
       rw[show (dn pre.length X).length=X.length by simp[dn],List.getElem?_eq_getElem h3]
    obtain ⟨o,ho,h3⟩:=key
    unfold Hp.at Hp.mp
    rw[ho]
    simp only[fx,Bool.or_eq_true] at h3
    rcases h3 with (h|h) |h
    . exact .inl h
    . exact .inr (.inl h)
    . exact .inr (.inr (by congr 1;exact Option.isNone_iff_eq_none.1 h)))
  (by rw[hmv,mv_bks args hn];exact hf) hg
 rw[hR] at this
 have hH:kS (List.range' pre.length X.length) (pre++(dn pre.length X++suf)) h'=pre++((h'.take X.length).map (Option.map (bkCs (i7 pre.length X.length suf.length)))++(suf++(h'.drop X.length).map (Option.map (bkCs (i7 pre.length X.length suf.length))))):=by
  have hS:kS (List.range' pre.length X.length) (pre++(dn pre.length X++suf)) h'= ((List.range (pre.length+(X.length+suf.length))).map fun b=>match dF (List.range' pre.length X.length) 0 b with
   |some i=>((h'[i]?).getD none).map (bkCs (i7 pre.length X.length suf.length))
   |none=>((pre++(dn pre.length X++suf))[b]?).getD none)++(h'.drop X.length).map (Option.map (bkCs (i7 pre.length X.length suf.length))):=by
   unfold kS;rw[hR,hHl,hρl] <;>rfl
  rw[hS,List.range_add,List.range_add,List.map_append,List.map_append,List.map_append,List.append_assoc,List.append_assoc]
  congr 1
  . apply List.ext_getElem?
    intro i
    rw[List.getElem?_map]
    by_cases hi:i< pre.length
    . rw[List.getElem?_range hi,Option.map_some,gF,if_neg (by omega)]
      simp only[]
      rw[List.getElem?_append_left hi,List.getElem?_eq_getElem hi];rfl
    . rw[List.getElem?_eq_none (by simp;omega),List.getElem?_eq_none (by omega)];rfl
  . congr 1
    . apply List.ext_getElem?
      intro i
      rw[List.map_map,List.getElem?_map,List.getElem?_map,List.getElem?_take]
      by_cases hi:i< X.length
      . rw[List.getElem?_range hi,if_pos hi,List.getElem?_eq_getElem (by omega)]
        simp only[Option.map_some,Function.comp,i6 hi]
        rw[List.getElem?_eq_getElem (by omega)];rfl
      . rw[List.getElem?_eq_none (by simp;omega),if_neg hi];rfl
    . congr 1
      apply List.ext_getElem?
      intro i
      rw[List.map_map,List.map_map,List.getElem?_map]
      by_cases hi:i< suf.length
      . rw[List.getElem?_range hi]
        simp only[Option.map_some,Function.comp]
        rw[gF,if_neg (by omega)]
        simp only[]
        rw[List.getElem?_append_right (by omega),List.getElem?_append_right (by simp[dn] <;>omega)]
        rw[show pre.length+(X.length+i) - pre.length - (dn pre.length X).length=i by simp[dn] <;>omega,List.getElem?_eq_getElem hi];rfl
      . rw[List.getElem?_eq_none (by simp;omega),List.getElem?_eq_none (by omega)];rfl
 rw[hH] at this
 exact this
end Go.Sx
namespace Go.Sx
open Go.RowKit
def DI (cx:Cx)(rs:List ResultVar)(c:C)(k:Nat)(h':Hp):Ex→St→Prop
 | .exit _,_=>False
 |_,st=>ip cx st rs=some c∧st.h.take k=h'
theorem Gz (cx:Cx)(rs:List ResultVar)(c:C)(k:Nat)(h':Hp)(st:St):DI cx rs c k h' .ret st= (ip cx st rs=some c∧st.h.take k=h'):=rfl
def i8 (k:Nat):Hp→Bool
 | [] =>true
 |none::l=>i8 k l
 |some cells::l=>noRefs k cells && i8 k l
theorem pG (k:Nat):∀ (h:Hp),i8 k h=true→∀ (b:Nat)(cells:List C),h[b]? =some (some cells)→noRefs k cells=true
 | [],_,b,cells,hb=>by simp at hb
 |o::l,h,0,cells,hb=>by
  simp at hb;subst hb
  simp only[i8,Bool.and_eq_true] at h;exact h.1
 |o::l,h,b+1,cells,hb=>by
  refine pG k l ?_ b cells (by simpa using hb)
  cases o with
  |none=>exact h
  |some c=>simp only[i8,Bool.and_eq_true] at h;exact h.2
theorem GC {k:Nat}{h:Hp}(hh:i8 k h=true):∀o∈h,∀cells,o=some cells→noRefs k cells=true:=fun o ho cells e=>by
 subst e
 obtain ⟨b,hb⟩:=List.getElem?_of_mem ho
 exact pG k h hh b cells hb
theorem JZ {cx:Cx} {f:Nat} {fn:Func} {code:Code} {args:List C} {h h':Hp} {c:C} {rs:List ResultVar} (hN:cx.N=fn.ntmps) (hf:cx.P.funcs[f]? =some fn) (hn: (fn.name== "runtime.NumGoroutine") =false) (hb:fn.body=some code)
 (hrs:fn.results=rs.toArray) (hlen:args.length≤fn.ntmps) (hc:ag h.length c=true) (hh:i8 h.length h'=true) (hT:Tr cx h.length code ⟨A (dm 0 args),h⟩ (DI cx rs c h.length h')):FC cx.P cx.gl f args h c h':=by
 refine FC.of hN hf hn hb hlen ?_
 refine Tr.weaken (fun t=>CLe.init args t) (hT.mono fun x st q=>?_)
 have key:ip cx st rs=some c∧st.h.take h.length=h'→results cx fn st=some c∧((st.h.take h.length=h'∧ag h.length c=true∧∀ (b:Nat) cells,b< h.length→st.h[b]? =some (some cells)→noRefs h.length cells=true)∨st.h=h'):=fun q=>by
  refine ⟨?_,.inl ⟨q.2,hc,fun b cells hb hx=>pG _ _ hh b cells ?_⟩⟩
  . rw[←q.1]
    unfold results
    rw[hrs]
    rcases rs with _| ⟨r,_| ⟨r2,rs⟩⟩ <;>rfl
  . rw[←q.2,List.getElem?_take,if_pos hb];exact hx
 cases x with
 |exit k=>exact q
 |normal=>exact key q
 |ret=>exact key q
attribute [go_sem] Gz
end Go.Sx
