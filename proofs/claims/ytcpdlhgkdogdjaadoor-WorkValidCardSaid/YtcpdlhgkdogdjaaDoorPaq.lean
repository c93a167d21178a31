/-
   And what follows.
-/
import Derived.Test.YtcpdlhgkdogdjaaDoorPap
set_option linter.unusedSimpArgs false
set_option linter.unusedVariables false
namespace Go.Sx
open Go.RowKit
mutual
theorem G8 {r:Nat→Nat}{k:Nat}(hr:∀i,i< k→r i=i):∀c:C,af k c=true→cV r c=c
 | .val _,_=>by simp only[cV]
 | .top,_=>by simp only[cV]
 | .agg xs,h=>by simp only[af] at h;simp only[cV,bks_id hr xs h]
 | .tup xs,h=>by simp only[af] at h;simp only[cV,bks_id hr xs h]
 | .kp xs,h=>by simp only[af] at h;simp only[cV,bks_id hr xs h]
 | .sl _ _ xs,h=>by simp only[af] at h;simp only[cV,bks_id hr xs h]
 | .fn _ xs,h=>by simp only[af] at h;simp only[cV,bks_id hr xs h]
 | .sv _ _ _,h=>by simp only[af,decide_eq_true_eq] at h;simp only[cV,hr _ h]
 | .gv _ _ _,h=>by simp only[af,decide_eq_true_eq] at h;simp only[cV,hr _ h]
 | .bp _ _,h=>by simp only[af,decide_eq_true_eq] at h;simp only[cV,hr _ h]
 | .bt _ _ _,h=>by simp only[af,decide_eq_true_eq] at h;simp only[cV,hr _ h]
 | .mp _,h=>by simp only[af,decide_eq_true_eq] at h;simp only[cV,hr _ h]
theorem bks_id {r:Nat→Nat}{k:Nat}(hr:∀i,i< k→r i=i):∀l:List C,noRefs k l=true→bkCs r l=l
 | [],_=>by simp only[bkCs]
 |x::xs,h=>by simp only[noRefs,Bool.and_eq_true] at h;simp only[bkCs,G8 hr x h.1,bks_id hr xs h.2]
end
theorem qu {r:Nat→Nat}{k:Nat}(hr:∀i,i< k→r i=i):∀h:Hp,iX k h=true→h.map (Option.map (bkCs r)) =h
 | [],_=>rfl
 |none::h,q=>by simp only[iX] at q;simp only[List.map_cons,Option.map_none,qu hr h q]
 |some c::h,q=>by simp only[iX,Bool.and_eq_true] at q;simp only[List.map_cons,Option.map_some,bks_id hr c q.1,qu hr h q.2]
noncomputable def hpS (hp:Nat→List C→Hp→Option (C×Hp))(f:Nat)(az:List C)(X:Hp)(r:C×Hp):Nat→List C→Hp→Option (C×Hp):=fun g xs h=>open Classical in if g=f∧xs=az∧h.take X.length=X∧OkH (h.drop X.length) then some (r.1,r.2++h.drop X.length) else hp g xs h
theorem lP (hp:Nat→List C→Hp→Option (C×Hp))(f:Nat)(az:List C)(X:Hp)(r:C×Hp)(suf:Hp)(hs:OkH suf):hpS hp f az X r f az (X++suf) =some (r.1,r.2++suf):=by
 unfold hpS;rw[if_pos ⟨rfl,rfl,by simp,by simpa using hs⟩];simp
theorem Fk (hp:Nat→List C→Hp→Option (C×Hp)){f g:Nat}(az:List C)(X:Hp)(r:C×Hp)(h:g≠f)(xs:List C)(h':Hp):hpS hp f az X r g xs h'=hp g xs h':=by unfold hpS;rw[if_neg fun e=>h e.1]
theorem nt {P:Program}{gl:Nat→C}{km:TypeId→Value→Bool}{pu:Nat→List C→Option C}{hp:Nat→List C→Hp→Option (C×Hp)}{N M:Nat}(hcx:CxOK ⟨P,N,gl,pu,hp,fun _=>false,km,true⟩){f:Nat}{az:List C}{X:Hp}{r:C×Hp}(hf:FC P gl f az X r.1 r.2)
 (hl:r.2.length=X.length) (al:∀o∈X,((aP o).isSome|| (fj o).isSome) =true) (na:noRefs X.length az=true) (nx:iX X.length X=true) (nc:af X.length r.1=true) (ny:iX X.length r.2=true):
 CxOK ⟨P,M,gl,pu,hpS hp f az X r,fun _=>false,km,true⟩:=by
 refine ⟨hcx.glo,hcx.pu,fun g xs h c k' hc=>?_,hcx.km⟩
 by_cases e:g=f∧xs=az∧h.take X.length=X∧OkH (h.drop X.length)
 . have hc:hpS hp f az X r g xs h=some (c,k'):=hc
   obtain ⟨rfl,rfl,e1,e2⟩:=e
   obtain ⟨suf,rfl⟩:∃suf,h=X++suf:=⟨h.drop X.length,by conv=>lhs;rw[←List.take_append_drop X.length h,e1]⟩
   rw[List.drop_left] at e2
   rw[lP _ _ _ _ _ _ e2] at hc
   cases hc
   have h0:∀i,i< X.length→(0+ ·) i=i:=fun i _=>Nat.zero_add i
   have h1:∀i,i< X.length→kI 0 X.length suf.length i=i:=fun i hi=>by unfold kI;rw[if_pos hi,Nat.zero_add]
   have q:=Nz hf [] suf (fun o ho=>by cases ho) e2 al na (J7 nx) (by rw[hl];exact Nat.le_refl _) hcx.glo
   simp only[List.length_nil,List.nil_append] at q
   rw[bks_id h0 _ na,G8 h1 _ nc,List.take_of_length_le (by omega),List.drop_of_length_le (by omega),List.map_nil,List.append_nil,qu h1 _ ny,show eL 0 X=X from qu h0 _ nx] at q
   exact q
 . have hc:hpS hp f az X r g xs h=some (c,k'):=hc
   unfold hpS at hc
   rw[if_neg e] at hc
   exact hcx.hp g xs h c k' hc
end Go.Sx
namespace Go.Sx
open Go.RowKit Go.Proofs
set_option maxRecDepth 100000
set_option maxHeartbeats 8000000
def txt9:List (List UInt8):=[[],[32,97],[97,32],[97,32,32,98],[97,10],[64],[98,32,64],[126,33],[97,127]]
def xy (a c:Nat)(y:Int):List Int:=[(a:Int),-1,(c:Int),y]
theorem vj (a c:Nat)(y:Int): (xy a c y).length=4:=rfl
theorem rK:txt9.length=9:=rfl
def kN (p:aI)(y:Int):Nat→aI
 |0=>((gt (xy 6 5 y) (aa y 4),p.1.2),p.2)
 |1=>((p.1.1,gt (xy 64 63 y) (aa y 4),p.1.2.2),p.2)
 |2=>((p.1.1,p.1.2.1,gt (xy 1024 1023 y) (aa y 4)),p.2)
 |3=>(p.1,((aa y 7:Nat):Int) - 1,p.2.2)
 |4=>(p.1,p.2.1,((aa y 7:Nat):Int) - 1,p.2.2.2)
 |5=>(p.1,p.2.1,p.2.2.1,gt txt9 (aa y 9),p.2.2.2.2)
 |6=>(p.1,p.2.1,p.2.2.1,p.2.2.2.1,p.2.2.2.2++[(((0:Nat):Int),((aa y 9:Nat):Int),((0:Nat):Int))])
 |7=>(p.1,p.2.1,p.2.2.1,p.2.2.2.1,[(-1,((0:Nat):Int),((aa y 2:Nat):Int))])
 |8=>((((0:Nat):Int),((aa y 8:Nat):Int),((0:Nat):Int)),p.2)
 |_=>(p.1,p.2.1,p.2.2.1,p.2.2.2.1++[32,64],p.2.2.2.2)
def eR (p:aI)(how y:Int):aI:=kN p y (aa how 10)
theorem PD {p:aI}{y:Int}{n:Nat}(h0:¬n=0)(h1:¬n=1)(h2:¬n=2)(h3:¬n=3)(h4:¬n=4)(h5:¬n=5)(h6:¬n=6)(h7:¬n=7)(h8:¬n=8):kN p y n= (p.1,p.2.1,p.2.2.1,p.2.2.2.1++[32,64],p.2.2.2.2):=by
 rcases n with _|_|_|_|_|_|_|_|_|n
 all_goals first|rfl|omega
theorem vk (L:List aI)(j:Nat)(x:aI)(h:j< L.length):dP (cl pC L) (j*7) (pC x) =some (cl pC (L.set j x),.val undef):=by
 have hl:=aA (f:=pC) L
 have e:=lF (f:=pC) L j x h
 unfold dP
 rw[if_pos (by rw[BM];omega),←e]
theorem Gi (x:aI)(l:List ID):m4 (pC x) 6 (sl iD .full l) =some ((pC x).set 6 (sl iD .full l),.val undef):=rfl
theorem dG (x:aI)(c:C)(l:List ID): ((pC x).set 6 c).set 6 (sl iD .no l) =pC (x.1,x.2.1,x.2.2.1,x.2.2.2.1,l):=rfl
attribute [go_sem high] vk Gi
theorem PE (p:aI)(x:Int):dP (pC p) 0 [.val (.int .i64 x)] =some (pC ((x,p.1.2),p.2),.val undef):=rfl
theorem PF (p:aI)(x:Int):dP (pC p) 1 [.val (.int .i64 x)] =some (pC ((p.1.1,x,p.1.2.2),p.2),.val undef):=rfl
theorem PH (p:aI)(x:Int):dP (pC p) 2 [.val (.int .i64 x)] =some (pC ((p.1.1,p.1.2.1,x),p.2),.val undef):=rfl
theorem PI (p:aI)(x:Int):dP (pC p) 3 [.val (.int .i64 x)] =some (pC (p.1,x,p.2.2),.val undef):=rfl
theorem PJ (p:aI)(x:Int):dP (pC p) 4 [.val (.int .i64 x)] =some (pC (p.1,p.2.1,x,p.2.2.2),.val undef):=rfl
theorem PK (p:aI)(x:List UInt8):dP (pC p) 5 [.val (str x)] =some (pC (p.1,p.2.1,p.2.2.1,x,p.2.2.2.2),.val undef):=rfl
theorem PL (p:aI)(a b c:Nat):dP (pC p) 0 [.val (nI a),.val (nI b),.val (nI c)] =some (pC (((a:Int),(b:Int),(c:Int)),p.2),.val undef):=rfl
theorem PM (a c:Nat)(y:Int):eS 4 (cl iC ((((List.map Int.ofNat ((List.replicate 4 0).set 0 a)).set 1 (-1)).set 2 (c:Int)).set 3 y)) [] =some (vp (sl iC .full (xy a c y))):=rfl
theorem xz:sl sC .full ((((((((((List.replicate 9 []).set 0 []).set 1 [32,97]).set 2 [97,32]).set 3 [97,32,32,98]).set 4 [97,10]).set 5 [64]).set 6 [98,32,64]).set 7 [126,33]).set 8 [97,127]) =sl sC .full txt9:=rfl
attribute [go_sem high] PM PE PF PH PI PJ PK PL
end Go.Sx
namespace Go.Sx
open Go.RowKit Go.Proofs
def tit4:List (List UInt8):=[[],[97,32,64],[32,98],[116,104,101]]
def setL (w:ah)(v a:Nat)(l:List aI):ah:=w.set v ((gt w v).set a ((gt (gt w v) a).1,l))
def Hg (w:ah)(v a:Nat)(y:Int):Nat→ah
 |0=>w++List.replicate (aa y 9) []
 |1=>w.set v ((gt w v).set a (gt tit4 (aa (y.tdiv ((4:Nat):Int)) 4),(gt (gt w v) a).2))
 |2=>w.set v (gt w v++[gt (gt w v) a])
 |3=>if 0< (gt (gt w v) a).2.length then setL w v a ((gt (gt w v) a).2.drop 1) else w
 |4=>if 1< (gt (gt w v) a).2.length then setL w v a (((gt (gt w v) a).2.set 0 (gt (gt (gt w v) a).2 ((gt (gt w v) a).2.length - 1))).set ((gt (gt w v) a).2.length - 1) (gt (gt (gt w v) a).2 0)) else w
 |5=>w.set v (gt w v++List.replicate (62+aa (y.tdiv ((4:Nat):Int)) 3) ([120],[]))
 |6=>w.set v []
 |_=>setL w v a ((gt (gt w v) a).2++[aY [y,y.tdiv ((8:Nat):Int)] 0 (((0:Nat):Int),((aa y 12:Nat):Int),((0:Nat):Int))])
def ao (w:ah)(how y:Int):ah:=
 if 0< (aZ w).length∧aa how 2=0 then
  (fun s:Nat×Nat×Nat=>setL w s.1 s.2.1 ((gt (gt w s.1) s.2.1).2.set s.2.2 (eR (gt (gt (gt w s.1) s.2.1).2 s.2.2) (how.tdiv ((2:Nat):Int)) (y.tdiv ((8:Nat):Int))))) (dI w (gt (aZ w) (aa y (aZ w).length)).1).1
 else if w.length=0 then List.replicate (aa y 10) []
 else if (gt w (aa y w.length)).length≤aa (y.tdiv ((2:Nat):Int)) (max (gt w (aa y w.length)).length 1) then w.set (aa y w.length) (List.replicate (aa y 66) ([],[]))
 else Hg w (aa y w.length) (aa (y.tdiv ((2:Nat):Int)) (max (gt w (aa y w.length)).length 1)) y (aa (how.tdiv ((2:Nat):Int)) 8)
theorem vl {ρ:List Nat}{n k v0 m:Nat}{w:ah}(h:∀m,bj ρ (.gv (n+1) m (2,48)) = .gv (k+1) m (2,48)):mvCs ρ (fV n v0 m w) =fV k v0 m w:=by unfold fV;rw[jt,bE,h]
theorem Ck {ρ:List Nat}{n k v0 m:Nat}{w:ct}(h:∀m,bj ρ (.gv (n+2) m (7,37)) = .gv (k+2) m (7,37)):mvCs ρ (fA n v0 m w) =fA k v0 m w:=by unfold fA;rw[jt,bE,h]
theorem jv (ok:Nat→Bool)(b:Nat)(ys:List C)(x:C):∀ (l:List C)(i:Nat),fzCs ok b ys (l.set i x) = (fzCs ok b ys l).set i (bg ok b ys x)
 | [],_=>by simp only[List.set_nil,fzCs]
 |y::l,0=>by simp only[List.set_cons_zero,fzCs]
 |y::l,i+1=>by simp only[List.set_cons_succ,fzCs,jv ok b ys x l i]
theorem eD (V:ct)(a:Nat)(l:List aI): (cl aC V).set (a*2+1) (sl pC .no l) =cl aC (V.set a ((gt V a).1,l)):=by
 induction V generalizing a with
 |nil=>rfl
 |cons x V ih=>
  cases a with
  |zero=>rfl
  |succ a=>
   rw[cX,List.set_cons_succ,cX]
   show (C.val (str x.1)::sl pC .no x.2::cl aC V).set ((a+1)*2+1) _=_
   rw[show (a+1)*2+1= (a*2+1)+1+1 by omega,List.set_cons_succ,List.set_cons_succ,ih]
   rfl
theorem bB (w:ah)(v:Nat)(V:ct): (cl vC w).set v (sl aC .no V) =cl vC (w.set v V):=by
 induction w generalizing v with
 |nil=>rfl
 |cons x w ih=>
  cases v with
  |zero=>rfl
  |succ v=>
   rw[cX,List.set_cons_succ,cX]
   show (sl aC .no x::cl vC w).set (v+1) _=_
   rw[List.set_cons_succ,ih];rfl
theorem jb (l:List aI)(n:Nat)(h:n=l.length):jl (cl pC l) n (7,37) =sl pC .no l:=lL pC 37 l n h
theorem dH (l:List gy)(n:Nat)(h:n=l.length):jl (cl aC l) n (2,48) =sl aC .no l:=lL aC 48 l n h
theorem ag (l:List ct)(n:Nat)(h:n=l.length):jl (cl vC l) n (1,46) =sl vC .no l:=lL vC 46 l n h
theorem SG {ok:Nat→Bool}{a m:Nat}{V:ct}{l:List aI}(h:m=l.length):fzCs ok 2 (cl pC l) (fA 0 a m V) =cl aC (V.set a ((gt V a).1,l)):=by
 unfold fA
 rw[jv,jk,lK,if_pos rfl,jb l m h,eD]
theorem gP {ok:Nat→Bool}{v m:Nat}{w:ah}{V:ct}(h:m=V.length):fzCs ok 1 (cl aC V) (fV 0 v m w) =cl vC (w.set v V):=by
 unfold fV
 rw[jv,jk,lK,if_pos rfl,dH V m h,bB]
theorem Cl {w:ah}{v a:Nat}:setL w v a (gt (gt w v) a).2=w:=by
 have h:∀ {α:Type}[Inhabited α](l:List α)(i:Nat),l.set i (gt l i) =l:=fun l i=>by
  apply List.ext_getElem?
  intro j
  rw[List.getElem?_set]
  split
  . rename_i e;subst e
    split
    . rename_i hj;simp[gt,List.getD,List.getElem?_eq_getElem hj]
    . rename_i hj;rw[List.getElem?_eq_none (by omega)]
  . rfl
 unfold setL
 rw[show ((gt (gt w v) a).1,(gt (gt w v) a).2) =gt (gt w v) a from rfl,h,h]
end Go.Sx
namespace Go.Sx
open Go.RowKit
section
variable {cx:Cx} {n:Nat} {Q:Ex→St→Prop}
theorem cq {c:Code}{e:List (Nat×C)}{h:Hp}(b:Nat)(cells cells':List C)(hb:h.at b=some cells)(hl:cells.length=cells'.length)(hc:∀ (k:Nat) (x x':C),cells[k]? =some x→cells'[k]? =some x'→CLe x x'∧jN x'=true)(H:Tr cx n c ⟨A e,h.set b (some cells')⟩ Q):Tr cx n c ⟨A e,h⟩ Q:=by
 have hlt:=eK hb
 have hset:∀k (hk1:k< cells.length) (hk2:k< cells'.length),(cells'.take k++cells.drop k).set k cells'[k] =cells'.take (k+1)++cells.drop (k+1):=by
  intro k hk1 hk2
  rw[List.set_append_right _ _ (by rw[List.length_take];omega),List.length_take,Nat.min_eq_left (by omega),Nat.sub_self,List.drop_eq_getElem_cons hk1,List.set_cons_zero,List.take_add_one,List.getElem?_eq_getElem hk2]
  simp only[Option.toList_some,List.append_assoc,List.singleton_append]
 have live:∀k,k≤cells.length→aP (some (cells'.take k++cells.drop k)) =some (cells'.take k++cells.drop k):=by
  intro k
  induction k with
  |zero=>intro _;simpa using gi hb
  |succ k ih=>
   intro hk
   have hk1:k< cells.length:=by omega
   have hk2:k< cells'.length:=by omega
   rw[←hset k hk1 hk2]
   exact iV (ih (by omega)) k (hc k _ _ (List.getElem?_eq_getElem hk1) (List.getElem?_eq_getElem hk2)).2
 have key:∀k,k≤cells.length→Tr cx n c ⟨A e,h.set b (some (cells'.take k++cells.drop k))⟩ Q→Tr cx n c ⟨A e,h⟩ Q:=by
  intro k
  induction k with
  |zero=>
   intro _ H
   rw[List.take_zero,List.nil_append,List.drop_zero,lc hb] at H
   exact H
  |succ k ih=>
   intro hk H
   refine ih (by omega) ?_
   have hk1:k< cells.length:=by omega
   have hk2:k< cells'.length:=by omega
   have hg: (cells'.take k++cells.drop k)[k]? =some cells[k]:=by
    rw[List.getElem?_append_right (by rw[List.length_take];omega),List.length_take,Nat.min_eq_left (by omega),Nat.sub_self,List.getElem?_drop,Nat.add_zero,List.getElem?_eq_getElem hk1]
   obtain ⟨h1,h2⟩:=hc k _ _ (List.getElem?_eq_getElem hk1) (List.getElem?_eq_getElem hk2)
   have hat:Hp.at (h.set b (some (cells'.take k++cells.drop k))) b=some (cells'.take k++cells.drop k):=by
    rw[cI hlt,if_pos rfl,live k (by omega)]
   refine Tr.bxc b k cells'[k] _ hat hg h1 h2 ?_
   rw[hset k hk1 hk2,List.set_set]
   exact H
 refine key cells.length (Nat.le_refl _) ?_
 rw[List.take_of_length_le (by omega),List.drop_length,List.append_nil]
 exact H
end
end Go.Sx
namespace Go.Sx
open Go.RowKit Go.Proofs
def zV (_:Unit):List C:=[.val (.slice none 0 0)]
def zA (_:Unit):List C:=[.val (str []),.val (.slice none 0 0)]
instance:Sca zV (fun _=> .val (.slice none 0 0)):=⟨fun _=>rfl,fun _=>rfl,fun _=>rfl,fun _ _=>rfl⟩
instance:Cel zA 2:=⟨fun _=>rfl,fun _=>rfl,by decide,fun _ _=>rfl⟩
instance:Nrf zV:=⟨fun k x=>rfl⟩
instance:Nrf zA:=⟨fun k x=>rfl⟩
def cW (n:Nat):List Unit:=List.replicate n ()
theorem KK (n:Nat): (cW n).length=n:=List.length_replicate
theorem Cm (n:Nat):bK [.slice none 0 0] n=cl zV (cW n):=by
 induction n with
 |zero=>rfl
 |succ n ih=>show C.val (.slice none 0 0)::bK _ n=cl zV (()::cW n);rw[ih];rfl
theorem PN (n:Nat):bK [.string ⟨#[]⟩,.slice none 0 0] n=cl zA (cW n):=by
 induction n with
 |zero=>rfl
 |succ n ih=>show C.val (str [])::C.val (.slice none 0 0)::bK _ n=cl zA (()::cW n);rw[ih];rfl
theorem Hh (n:Nat)(h:n≤1000):rj Tryd.prog true (some ⟨.slice 46,1,24,[.slice none 0 0]⟩) (.val (nI n)) (.val (nI n)) =some (.new (cl zV (cW n)) fun id=> .gv id n (1,46)):=by
 unfold rj
 have e1: (C.val (nI n)).int?=some (.i64,(n:Int)):=rfl
 simp only[e1,tU]
 rw[if_pos ⟨by omega,trivial,by omega,by omega,rfl,rfl⟩]
 rw[show ((n:Nat):Int).toNat=n from rfl,Cm]
 rfl
theorem Hi (n:Nat)(h:n≤1000):rj Tryd.prog true (some ⟨.slice 48,1,24,[.slice none 0 0]⟩) (.val (nI n)) (.val (nI n)) =some (.new (cl zA (cW n)) fun id=> .gv id n (2,48)):=by
 unfold rj
 have e1: (C.val (nI n)).int?=some (.i64,(n:Int)):=rfl
 simp only[e1,qV]
 rw[if_pos ⟨by omega,trivial,by omega,by omega,rfl,rfl⟩]
 rw[show ((n:Nat):Int).toNat=n from rfl,PN]
 rfl
theorem PO (n k:Nat)(x:C)(h: (cl zV (cW n))[k]? =some x):x= .val (.slice none 0 0):=by
 have:∀n,cl zV (cW n) =List.replicate n (.val (.slice none 0 0)):=by
  intro n;induction n with
  |zero=>rfl
  |succ n ih=>rw[List.replicate_succ,←ih];rfl
 rw[this,List.getElem?_replicate] at h
 split at h
 . cases h;rfl
 . cases h
theorem PP (n k:Nat)(x:C)(h: (cl vC (List.replicate n []))[k]? =some x):x=sl aC .no []:=by
 have:∀n,cl vC (List.replicate n []) =List.replicate n (sl aC .no []):=by
  intro n;induction n with
  |zero=>rfl
  |succ n ih=>rw[List.replicate_succ,List.replicate_succ,←ih];rfl
 rw[this,List.getElem?_replicate] at h
 split at h
 . cases h;rfl
 . cases h
theorem ej (l:ah)(n:Nat): (cl vC l++cl zV (cW n)).length= (cl vC (l++List.replicate n [])).length∧∀ (k:Nat)(x x':C),(cl vC l++cl zV (cW n))[k]? =some x→(cl vC (l++List.replicate n []))[k]? =some x'→CLe x x'∧jN x'=true:=by
 rw[lE]
 refine ⟨by rw[List.length_append,List.length_append,aA (f:=zV),aA (f:=vC) (List.replicate n []),KK,List.length_replicate],fun k x x' h1 h2=>?_⟩
 by_cases hk:k< (cl vC l).length
 . rw[List.getElem?_append_left hk] at h1 h2
   rw[h1] at h2
   cases h2
   refine ⟨CLe.refl _,?_⟩
   have:∀ (l:ah)(k:Nat)(x:C),(cl vC l)[k]? =some x→jN x=true:=by
    intro l
    induction l with
    |nil=>intro k x h;simp[cl] at h
    |cons a l ih=>
     intro k x h
     rw[cX] at h
     cases k with
     |zero=>cases h;rfl
     |succ k=>exact ih k x h
   exact this l k x h1
 . rw[List.getElem?_append_right (by omega)] at h1 h2
   rw[PO _ _ _ h1,PP _ _ _ h2]
   exact ⟨CLe.nil _,rfl⟩
theorem dM (n:Nat): (cl zV (cW n)).length= (cl vC (List.replicate n [])).length∧∀ (k:Nat)(x x':C),(cl zV (cW n))[k]? =some x→(cl vC (List.replicate n []))[k]? =some x'→CLe x x'∧jN x'=true:=ej [] n
theorem dN (n:Nat): (cl zA (cW n)).length= (cl aC (List.replicate n ([],[]))).length∧∀ (k:Nat)(x x':C),(cl zA (cW n))[k]? =some x→(cl aC (List.replicate n ([],[])))[k]? =some x'→CLe x x'∧jN x'=true:=by
 induction n with
 |zero=>exact ⟨rfl,fun k x x' h=>by simp[cl,cW] at h⟩
 |succ n ih=>
  have e1:cl zA (cW (n+1)) = .val (str []):: .val (.slice none 0 0)::cl zA (cW n):=rfl
  have e2:cl aC (List.replicate (n+1) ([],[])) = .val (str [])::sl pC .no []::cl aC (List.replicate n ([],[])):=rfl
  rw[e1,e2]
  refine ⟨by simp only[List.length_cons,ih.1],fun k x x' h1 h2=>?_⟩
  rcases k with _|_|k
  . cases h1;cases h2;exact ⟨CLe.refl _,rfl⟩
  . cases h1;cases h2;exact ⟨CLe.nil _,rfl⟩
  . exact ih.2 k x x' h1 h2
theorem iB (y:Int)(k:Nat)(hy: -9223372036854775808≤y∧y≤9223372036854775807): -9223372036854775808≤y.tdiv (k:Int)∧y.tdiv (k:Int)≤9223372036854775807:=by
 have h1: (y.tdiv (k:Int)).natAbs≤y.natAbs:=by
  rw[Int.natAbs_tdiv]
  exact Nat.div_le_self _ _
 by_cases hp:0≤y
 . have h3:0≤y.tdiv (k:Int):=Int.tdiv_nonneg hp (Int.natCast_nonneg k)
   omega
 . have h3:y.tdiv (k:Int)≤0:=by
    have:=Int.tdiv_nonneg (a:= -y) (b:=(k:Int)) (by omega) (Int.natCast_nonneg k)
    rw[Int.neg_tdiv] at this
    omega
   omega
theorem PQ (w:ah)(v:Nat)(c:C)(h:v< w.length):dP (cl vC w) v [c] =some ((cl vC w).set v c,.val undef):=by
 have hl: (cl vC w).length=w.length:=by rw[aA (f:=vC),Nat.mul_one]
 unfold dP
 rw[if_pos (by rw[hl];exact h)]
 unfold splice
 rw[List.set_eq_take_append_cons_drop,if_pos (by omega)]
 simp
theorem KL (n m:Nat)(w:ah)(v:Nat)(c:C)(h:v< w.length):dP (fV n v m w) v [c] =some ((cl vC w).set v c,.val undef):=by
 have hl: (cl vC w).length=w.length:=by rw[aA (f:=vC),Nat.mul_one]
 unfold dP fV
 rw[if_pos (by rw[List.length_set,hl];exact h)]
 unfold splice
 rw[show ∀l:List C,l.take v++[c]++l.drop (v+[c].length) =l.take v++c::l.drop (v+1) from fun l=>by simp]
 have e:=List.set_eq_take_append_cons_drop (l:=(cl vC w).set v (.gv (n+1) m (2,48))) (i:=v) (a:=c)
 rw[if_pos (by rw[List.length_set];omega)] at e
 rw[←e,List.set_set]
theorem Gj (V:ct)(b:Nat)(t:List UInt8): (cl aC V).set (b*2) (.val (str t)) =cl aC (V.set b (t,(gt V b).2)):=by
 induction V generalizing b with
 |nil=>rfl
 |cons x V ih=>
  cases b with
  |zero=>rfl
  |succ b=>
   rw[cX,List.set_cons_succ,cX]
   show (C.val (str x.1)::sl pC .no x.2::cl aC V).set ((b+1)*2) _=_
   rw[show (b+1)*2=b*2+1+1 by omega,List.set_cons_succ,List.set_cons_succ,ih]
   rfl
theorem PR (V:ct)(k:Nat)(c:C)(h:k< V.length*2):dP (cl aC V) k [c] =some ((cl aC V).set k c,.val undef):=by
 have hl: (cl aC V).length=V.length*2:=aA (f:=aC) V
 unfold dP
 rw[if_pos (by rw[hl];exact h)]
 unfold splice
 rw[List.set_eq_take_append_cons_drop,if_pos (by omega)]
 simp
theorem PS (V:ct)(b:Nat)(t:List UInt8)(h:b< V.length):dP (cl aC V) (b*2) [.val (str t)] =some (cl aC (V.set b (t,(gt V b).2)),.val undef):=by rw[PR V _ _ (by omega),Gj]
theorem Cn {α:Type}[Inhabited α](l:List α)(i:Nat):l.set i (gt l i) =l:=by
 apply List.ext_getElem?
 intro j
 rw[List.getElem?_set]
 split
 . rename_i e;subst e
   split
   . rename_i hj;simp[gt,List.getD,List.getElem?_eq_getElem hj]
   . rename_i hj;rw[List.getElem?_eq_none (by omega)]
 . rfl
theorem PT (x y:Int)(hx: -9223372036854775808≤x∧x≤9223372036854775807)(hy: -9223372036854775808≤y∧y≤9223372036854775807):LI [x,y]:=by
 refine ⟨by show 2≤_;decide,?_⟩
 intro i hi
 match i,hi with
 |0,_=>exact hx
 |1,_=>exact hy
 |i+2,h=>exact absurd h (by simp)
theorem PU {ok:Nat→Bool}{b n v m:Nat}{w:ah}{ys:List C}(hb:¬n+1=b)(h:ok (n+1) =true):fzCs ok b ys (fV n v m w) =fV n v m w:=by
 unfold fV
 rw[jv,jk,lK,if_neg hb,if_pos h]
theorem Gk (ok:Nat→Bool)(b:Nat)(ys:List C):fzCs ok b ys dT=dT:=rfl
theorem xB:sl sC .full ((((([]::List.replicate 3 []:List (List UInt8)).set 0 []).set 1 [97,32,64]).set 2 [32,98]).set 3 [116,104,101]) =sl sC .full tit4:=rfl
theorem vm:sl sC .full (((((List.replicate 4 []:List (List UInt8)).set 0 []).set 1 [97,32,64]).set 2 [32,98]).set 3 [116,104,101]) =sl sC .full tit4:=rfl
theorem rL:tit4.length=4:=rfl
theorem Co (L:List aI)(h:0< L.length):fG (cl pC L) 0 7=some (.agg (pC (gt L 0))):=by
 cases L with
 |nil=>simp at h
 |cons x L=>rfl
theorem Cp (L:List aI)(x:aI)(h:0< L.length):dP (cl pC L) 0 (pC x) =some (cl pC (L.set 0 x),.val undef):=by
 have:=vk L 0 x h
 rwa [Nat.zero_mul] at this
theorem SH {w:ah}{v b:Nat}{y:Int}{n:Nat}(h0:¬n=0)(h1:¬n=1)(h2:¬n=2)(h3:¬n=3)(h4:¬n=4)(h5:¬n=5)(h6:¬n=6):Hg w v b y n=setL w v b ((gt (gt w v) b).2++[aY [y,y.tdiv ((8:Nat):Int)] 0 (((0:Nat):Int),((aa y 12:Nat):Int),((0:Nat):Int))]):=by
 rcases n with _|_|_|_|_|_|_|n
 all_goals first|rfl|omega
theorem Cq (y z:Int):sl iC .full ((((List.replicate 2 0).set 0 y)).set 1 z) =sl iC .full [y,z]:=rfl
theorem PV {n v m:Nat}{w:ah}(h:v< w.length): (fV n v m w)[v]? =some (.gv (n+1) m (2,48)):=by
 unfold fV
 rw[List.getElem?_set_self (by rw[aA (f:=vC)];omega)]
theorem PW (V:ct)(b:Nat)(l:List aI)(h:b< V.length):m4 (cl aC V) (b*2+1) (sl pC .no l) =some (cl aC (V.set b ((gt V b).1,l)),.val undef):=by
 have hl: (cl aC V).length=V.length*2:=aA (f:=aC) V
 unfold m4;rw[if_pos (by omega),eD]
theorem PX (V:ct)(b:Nat)(l:List aI)(h:b< V.length):m4 (cl aC V) (b*2+1) (sl pC (.own 7) l) =some ((cl aC V).set (b*2+1) (sl pC (.own 7) l),.val undef):=by
 have hl: (cl aC V).length=V.length*2:=aA (f:=aC) V
 unfold m4;rw[if_pos (by omega)]
theorem KM (w:ah)(v b n:Nat)(s:Nat×Nat):aP (some ((cl vC w).set v (.gv b n s))) =some ((cl vC w).set v (.gv b n s)):=pM (g4 vC w) ..
theorem Gl (w:ah)(v:Nat):aP (some ((cl vC w).set v (.val (.slice none 0 0)))) =some ((cl vC w).set v (.val (.slice none 0 0))):=iV (g4 vC w) v rfl
theorem KN (V:ct)(k:Nat)(r:Rt)(l:List aI):aP (some ((cl aC V).set k (sl pC r l))) =some ((cl aC V).set k (sl pC r l)):=iV (g4 aC V) k rfl
attribute [go_sem] KM Gl KN
theorem KO (v m:Nat)(w:ah): (fV 0 v m w).set v (.gv 1 m (2,48)) =fV 0 v m w:=by unfold fV;rw[List.set_set]
theorem KP (u:TypeDesc)(y:Nat)(x:gy):gN (some ⟨u,2,y,[str [],.slice none 0 0]⟩) 1 [(0,.agg (aC x))] =some (vp (sl aC .full [x])):=rfl
theorem KQ (u:TypeDesc)(y:Nat)(t:List UInt8):gN (some ⟨u,2,y,[str [],.slice none 0 0]⟩) 1 [(0,.agg [.val (str t),.val (.slice none 0 0)])] =some (vp (.sl .full 1 [.val (str t),.val (.slice none 0 0)])):=rfl
theorem PY (P:Program)(e b n k:Nat)(u:TypeDesc)(z z2:List Value)(he:td P e=some ⟨u,1,24,[.slice none 0 0]⟩)(h:n≤1000000∧k≤1000):gC P ⟨.slice e,1,24,z⟩ ⟨.int .i64,1,8,z2⟩ (.gv b n (1,e)) (.val (.int .i64 (k:Int))) =some (.ap (some (b,n)) (1,e) k fun _=>some (cl zV (cW k))):=by
 unfold gC
 simp only[he]
 have h0:0≤(k:Int):=by omega
 have h1: (k:Int)≤65536:=by omega
 rw[if_pos ⟨trivial,h0,h1,by rw[Int.toNat_natCast];omega,by rw[Int.toNat_natCast];omega,by decide,rfl,rfl⟩,Int.toNat_natCast,Cm]
theorem SI (b n k:Nat)(h:n≤1000000∧k≤1000):gC Tryd.prog ⟨.slice 46,1,24,[.slice none 0 0]⟩ ⟨.int .i64,1,8,[nI 0]⟩ (.gv b n (1,46)) (.val (nI k)) =some (.ap (some (b,n)) (1,46) k fun _=>some (cl zV (cW k))):=PY Tryd.prog 46 b n k _ _ _ tU h
theorem KR (u:TypeDesc)(y:Nat):gN (some ⟨u,7,y,[nI 0,nI 0,nI 0,nI 0,nI 0,str [],.slice none 0 0]⟩) 0 [] =some (vp (sl pC .full [])):=rfl
theorem KS (y z:Int):eS 2 (cl iC ((List.map Int.ofNat (List.replicate 2 0)).set 0 y)) [(1,.val (.int .i64 z))] =some (vp (sl iC .full [y,z])):=rfl
theorem SJ (n:Nat)(s:Nat×Nat):bj [0,3,2] (.gv 3 n s) = .gv 1 n s:=rfl
attribute [go_sem high] KS
section
variable (cx:Cx) (apps:List Nat) (dsts:List (Option Nat)) (l:List Oper) (id':Nat) (d:Option Nat) (e:List (Nat×C)) (h:Hp) (fs:List FP) (K:List FP→St→Prop)
theorem KU (b n m:Nat)(w:ah)(hn:n=w.length)(hm:0< m):iz cx apps dsts l id' d e h fs K b n (1,46) m (cl zV (cW m)) (some (cl vC w)) =run cx apps dsts l id' (eT d (.gv h.length (n+m) (1,46)) e) (h.set b (some dT)++[some (cl vC w++cl zV (cW m))]) ((4,0)::fs) K:=
 ju cx apps dsts l id' d e h fs K b n m 1 46 _ _ (fb ..) (fb ..) (by rw[aA (f:=vC),hn]) hm (by decide)
theorem Gm (b n:Nat)(w:ah)(hn:n=w.length):iz cx apps dsts l id' d e h fs K b n (1,46) 0 (cl zV (cW 0)) (some (cl vC w)) =run cx apps dsts l id' (eT d (.gv b n (1,46)) e) (h.set b (some (cl vC w))) ((4,0)::fs) K:=by
 have hl: (cl vC w).length=n:=by rw[aA (f:=vC),Nat.mul_one,hn]
 have hs:splice (cl vC w) (n*1) ((cl zV (cW 0)).map C.noR) =cl vC w:=by
  show (cl vC w).take (n*1)++[]++(cl vC w).drop (n*1+0) =_
  simp
 unfold iz
 simp only[]
 rw[if_pos ⟨by simp only[Nat.add_zero,Nat.mul_one];omega,.inr trivial⟩,hs]
 rfl
theorem Gn (b n:Nat)(V:ct)(t:List UInt8)(hn:n*2= (cl aC V).length):iz cx apps dsts l id' d e h fs K b n (2,48) 1 [.val (str t),.val (.slice none 0 0)] (some (cl aC V)) =run cx apps dsts l id' (eT d (.gv h.length (n+1) (2,48)) e) (h.set b (some dT)++[some (cl aC V++[.val (str t),.val (.slice none 0 0)])]) ((4,0)::fs) K:=
 ju cx apps dsts l id' d e h fs K b n 1 2 48 _ _ (fb ..) rfl hn (by decide) (by decide)
end
theorem KV (V:ct)(t:List UInt8)(x:C): (cl aC V++[.val (str t),x])[V.length*2+1]? =some x:=by
 rw[List.getElem?_append_right (by rw[aA (f:=aC)];omega),aA (f:=aC),show V.length*2+1 - V.length*2=1 by omega]
 rfl
theorem KW (V:ct)(t:List UInt8)(x:C): (cl aC V++[.val (str t),x]).set (V.length*2+1) (sl pC .no []) =cl aC (V++[(t,[])]):=by
 rw[List.set_append_right _ _ (by rw[aA (f:=aC)];omega),aA (f:=aC),show V.length*2+1 - V.length*2=1 by omega,lE]
 rfl
theorem Cr (V:ct)(i:Nat)(x:gy):V++List.replicate i x++[x] =V++List.replicate (i+1) x:=by
 rw[List.replicate_succ',List.append_assoc]
theorem Gp (V:ct)(t:List UInt8)(x:C):aP (some (cl aC V++[.val (str t),x])) =some (cl aC V++[.val (str t),x]):=by
 cases V with
 |nil=>rfl
 |cons a V=>rw[cX];rfl
attribute [go_sem] KU Gm SI KR Gp Gn KP KQ
attribute [go_sem high] KO PW PX PV
attribute [go_sem] SG gP PU jv Gk
attribute [go_sem high] Co Cp
attribute [go_sem high] PQ KL PS
end Go.Sx
namespace Go.Sx
open Go.RowKit Go.Proofs
def xA (V:ct)(a k:Nat):List C:=(cl aC V).set (a*2+1) (.gv 0 k (7,37))
def xV (w:ah)(v a k:Nat):List C:=(cl vC w).set v (.sl .no (gt w v).length (xA (gt w v) a k))
def xF (w:ah)(v a k:Nat):C:= .sl .no w.length (xV w v a k)
theorem P5 (w:ah)(v a k:Nat): (xF w v a k).noR=xF w v a k:=rfl
theorem Lb (w:ah)(v a k:Nat)(l:List C):aP (some (xF w v a k::l)) =some (xF w v a k::l):=rfl
theorem vr (V:ct)(a k:Nat): (xA V a k).length=V.length*2:=by unfold xA;rw[List.length_set,aA (f:=aC)]
theorem vt (w:ah)(v a k:Nat): (xV w v a k).length=w.length:=by unfold xV;rw[List.length_set,aA (f:=vC),Nat.mul_one]
theorem xC {l:List C}{k:Nat}(h:k< l.length):l≠[]:=fun e=>by rw[e] at h;simp at h
theorem P6 (P:Program)(a1 b1:Nat)(z1:List Value)(e:TypeId)(w:ah)(v a k:Nat)(i:C):m5 P (some ⟨.slice e,a1,b1,z1⟩) (xF w v a k) i=um (td P e) (e4 i w.length) w.length (xV w v a k):=rfl
theorem P7 (P:Program)(a1 b1:Nat)(z1:List Value)(e:TypeId)(V:ct)(n a k:Nat)(i:C):m5 P (some ⟨.slice e,a1,b1,z1⟩) (.sl .no n (xA V a k)) i=um (td P e) (e4 i n) n (xA V a k):=rfl
theorem P8 (u:TypeDesc)(y:Nat)(z:List Value)(w:ah)(v a k:Nat)(h:v< w.length):um (some ⟨u,1,y,z⟩) (some v) w.length (xV w v a k) =some (vp (.kp ((xV w v a k).drop v))):=by
 show (if (xV w v a k).length=w.length*1∧xV w v a k≠[] then some (vp (.kp ((xV w v a k).drop (v*1)))) else none) =_
 rw[if_pos ⟨by rw[vt,Nat.mul_one],xC (k:=v) (by rw[vt];exact h)⟩,Nat.mul_one]
theorem P9 (u:TypeDesc)(y:Nat)(z:List Value)(V:ct)(n a k:Nat)(h:a< n)(hn:n=V.length):um (some ⟨u,2,y,z⟩) (some a) n (xA V a k) =some (vp (.kp ((xA V a k).drop (a*2)))):=by
 subst hn
 show (if (xA V a k).length=V.length*2∧xA V a k≠[] then some (vp (.kp ((xA V a k).drop (a*2)))) else none) =_
 rw[if_pos ⟨vr V a k,xC (k:=a) (by rw[vr];omega)⟩]
theorem vu (w:ah)(v a k:Nat)(h:v< w.length):dJ (xV w v a k) v=some (.sl .no (gt w v).length (xA (gt w v) a k)):=kc (by rw[aA (f:=vC),Nat.mul_one];exact h) rfl
theorem vv (w:ah)(v a k:Nat)(h:v< w.length):fG (xV w v a k) v 1=some (.agg [.sl .no (gt w v).length (xA (gt w v) a k)]):=vi (by rw[aA (f:=vC),Nat.mul_one];exact h) rfl
theorem vw (V:ct)(a k:Nat)(h:a< V.length):dJ (xA V a k) (a*2+1) =some (.gv 0 k (7,37)):=kc (by rw[aA (f:=aC)];omega) rfl
theorem lY {α:Type}(f:α→List C)(hf:∀b ys x,dpCs b ys (f x) =f x)(b:Nat)(ys:List C):∀l:List α,dpCs b ys (cl f l) =cl f l
 | [] =>rfl
 |x::l=>by
  have e:∀ (p q:List C),dpCs b ys (p++q) =dpCs b ys p++dpCs b ys q:=by
   intro p q
   induction p with
   |nil=>rfl
   |cons c p ih=>simp only[List.cons_append,dpCs,ih]
  rw[cX,e,hf,lY f hf b ys l]
theorem rN (b:Nat)(ys:List C)(x:C):∀ (l:List C)(i:Nat),dpCs b ys (l.set i x) = (dpCs b ys l).set i (gK b ys x)
 | [],_=>by simp only[List.set_nil,dpCs]
 |y::l,0=>by simp only[List.set_cons_zero,dpCs]
 |y::l,i+1=>by simp only[List.set_cons_succ,dpCs,rN b ys x l i]
theorem Qa (b:Nat)(ys:List C)(x:ID):dpCs b ys (iD x) =iD x:=rfl
theorem Qb (b:Nat)(ys:List C)(x:aI):dpCs b ys (pC x) =pC x:=by
 show dpCs b ys [_,_,_,_,_,_,sl iD .no x.2.2.2.2] =_
 simp only[dpCs,gK,sl,lY iD (Qa)]
 rfl
theorem Ct (b:Nat)(ys:List C)(x:gy):dpCs b ys (aC x) =aC x:=by
 show dpCs b ys [_,sl pC .no x.2] =_
 simp only[dpCs,gK,sl,lY pC (Qb)]
 rfl
theorem Qc (b:Nat)(ys:List C)(x:ct):dpCs b ys (vC x) =vC x:=by
 show dpCs b ys [sl aC .no x] =_
 simp only[dpCs,gK,sl,lY aC (Ct)]
 rfl
theorem Cu (w:ah)(v a:Nat)(L:List aI):C.sl .no w.length ((cl vC w).set v (.sl .no (gt w v).length (cl aC ((gt w v).set a ((gt (gt w v) a).1,L))))) =sl vC .no (setL w v a L):=by
 unfold setL
 have:∀V:ct,V.length= (gt w v).length→(C.sl .no (gt w v).length (cl aC V)) =sl aC .no V:=fun V h=>by rw[←h];rfl
 rw[this _ (List.length_set ..),bB]
 unfold sl
 rw[List.length_set]
theorem SN (w:ah)(v a:Nat)(L:List aI)(hv:v< w.length):gK 0 (cl pC L) (xF w v a L.length) =sl vC .no (setL w v a L):=by
 have hL: (cl pC L).length=L.length*7:=aA (f:=pC) L
 have e1:gK 0 (cl pC L) (.gv 0 L.length (7,37)) =sl pC .no L:=by
  unfold gK
  rw[if_pos ⟨rfl,by rw[hL];exact Nat.le_refl _⟩]
  show C.sl .no L.length ((cl pC L).take (L.length*7)) =_
  rw[←hL,List.take_length]
  rfl
 unfold xF xV xA
 have e3:∀ (r:Rt)(n:Nat)(xs:List C),gK 0 (cl pC L) (.sl r n xs) = .sl r n (dpCs 0 (cl pC L) xs):=fun _ _ _=>rfl
 rw[e3,rN,lY vC Qc,e3,rN,lY aC Ct,e1,eD,Cu]
theorem Qd {cx:Cx}{g:Nat}{w:ah}{v a k:Nat}{L:List aI}{rest:List C}{c:C}(hv:v< w.length)(hk:k=L.length)(hr:dpCs 0 (cl pC L) rest=rest)(hn:noRefs 0 (.agg [sl vC .no (setL w v a L)]::rest) =true)(hp:cx.pu g (.agg [sl vC .no (setL w v a L)]::rest) =some c)(hf:flat c=true):rdE cx g (.agg [xF w v a k]::rest) 0 (cl pC L) =some c:=by
 subst hk
 have e:dpCs 0 ((cl pC L).map C.noR) (.agg [xF w v a L.length]::rest) = .agg [sl vC .no (setL w v a L)]::rest:=by
  rw[fb]
  show gK 0 (cl pC L) (.agg [xF w v a L.length])::dpCs 0 (cl pC L) rest=_
  rw[hr]
  show C.agg (dpCs 0 (cl pC L) [xF w v a L.length])::rest=_
  show C.agg [gK 0 (cl pC L) (xF w v a L.length)]::rest=_
  rw[SN w v a L hv]
 unfold rdE
 rw[e,if_pos hn,hp]
 simp only[hf,if_true]
theorem SO (ok:Nat→Bool)(w:ah)(v a k:Nat)(L:List aI)(hk:k=L.length):bg ok 0 (cl pC L) (xF w v a k) =sl vC .no (setL w v a L):=by
 subst hk
 rw[←Cu]
 unfold xF xV xA
 simp only[bg,jv,jk]
 have hL: (cl pC L).length=L.length*7:=aA (f:=pC) L
 rw[if_pos trivial,if_pos (by rw[hL];exact Nat.le_refl _),←hL,List.take_length]
 congr 3
 exact eD (gt w v) a L
theorem pN (ok:Nat→Bool)(x:C):∀ (l:List C)(i:Nat),scrs ok (l.set i x) = (scrs ok l).set i (dY ok x)
 | [],_=>by simp only[List.set_nil,scrs]
 |y::l,0=>by simp only[List.set_cons_zero,scrs]
 |y::l,i+1=>by simp only[List.set_cons_succ,scrs,pN ok x l i]
theorem xD (ok:Nat→Bool)(a k:Nat)(V:ct)(h:ok 2=true):scrs ok (fA 0 a k V) =fA 0 a k V:=by
 unfold fA
 rw[pN,nQ]
 simp only[dY,h,if_true]
theorem Qe (ok:Nat→Bool)(v a k m:Nat)(w:ah)(V:ct)(h:m=V.length):fzCs ok 1 (fA 0 a k V) (fV 0 v m w) = (cl vC w).set v (.sl .no m (fA 0 a k V)):=by
 subst h
 unfold fV
 rw[jv,jk,lK,if_pos rfl]
 unfold jl
 simp only[]
 rw[if_pos (by rw[vh];exact Nat.le_refl _),←vh 0 a k V,List.take_length]
theorem Lc (w:ah)(v n:Nat)(xs:List C): ((cl vC w).set v (.sl .no n xs)).map C.noR= (cl vC w).set v (.sl .no n xs):=by rw[List.map_set,fb];rfl
theorem Qf (ok:Nat→Bool)(v n a k:Nat)(w:ah)(V:ct)(h:ok 2=true):scrs ok ((cl vC w).set v (.sl .no n (fA 0 a k V))) = (cl vC w).set v (.sl .no n (fA 0 a k V)):=by
 rw[pN,nQ]
 simp only[dY,xD _ _ _ _ h]
theorem Qg (w:ah)(v:Nat)(c:C):jl ((cl vC w).set v c) w.length (1,46) = .sl .no w.length ((cl vC w).set v c):=by
 have hl: ((cl vC w).set v c).length=w.length*1:=by rw[List.length_set,aA (f:=vC)]
 unfold jl
 simp only[]
 rw[if_pos (by rw[hl];exact Nat.le_refl _),←hl,List.take_length]
theorem Qh (w:ah)(v n:Nat)(xs:List C):aP (some ((cl vC w).set v (.sl .no n xs))) =some ((cl vC w).set v (.sl .no n xs)):=iV (g4 vC w) v rfl
theorem Vp (w:ah)(v a k:Nat):bj [2,3,4] (.sl .no w.length ((cl vC w).set v (.sl .no (gt w v).length (fA 0 a k (gt w v))))) =xF w v a k:=by
 unfold xF xV xA fA
 simp only[bj,jt,bE]
 rfl
theorem Gq {cx:Cx}{w:ah}{v a k:Nat}{x:ID}{c:C}(hv:v< w.length)(hk:k= (gt (gt w v) a).2.length)(hp:cx.pu 33 [.agg [sl vC .no w],.agg (iD x)] =some c)(hf:flat c=true):rdE cx 33 [.agg [xF w v a k],.agg (iD x)] 0 (cl pC (gt (gt w v) a).2) =some c:=
 Qd hv hk rfl (by
  show (noRefs 0 [sl vC .no (setL w v a (gt (gt w v) a).2)] && (noRefs 0 (iD x) && true)) =true
  have e:noRefs 0 [sl vC .no (setL w v a (gt (gt w v) a).2)] =true:=by simp only[noRefs,ax,Bool.and_self]
  rw[e];rfl) (by rw[Cl];exact hp) hf
attribute [go_sem] xD Qf Lc Qe Qg Qh SO
theorem y5 (w:ah)(v a k:Nat):af 1 (.agg [xF w v a k]) =true:=by
 show (noRefs 1 (xV w v a k) && true) =true
 rw[Bool.and_true]
 have h1:noRefs 1 (xA (gt w v) a k) =true:=ja 1 (.gv 0 k (7,37)) rfl _ _ (au aC 1 _)
 exact ja 1 (.sl .no (gt w v).length (xA (gt w v) a k)) h1 _ _ (au vC 1 w)
theorem Ld (w:ah)(v a k:Nat): (xF w v a k).asSv=xF w v a k:=rfl
theorem Gr (e a1 b1:Nat)(z1:List Value)(w:ah)(v a k:Nat):rl (some ⟨.slice e,a1,b1,z1⟩) (xF w v a k) =some (vp (.val (nI w.length))):=rfl
theorem Gs (e a1 b1:Nat)(z1:List Value)(n:Nat)(xs:List C):rl (some ⟨.slice e,a1,b1,z1⟩) (C.sl .no n xs) =some (vp (.val (nI n))):=rfl
attribute [go_sem] Gr Gs Ld
theorem ko (l:List aI)(k:Nat):iX k [some (cl pC l)] =true:=by
 rw[uG,w5,Bool.and_true];exact au pC k l
attribute [go_sem] P5 Lb vr vt
attribute [go_sem high] P6 P7 P8 P9 vu vv vw
end Go.Sx
namespace Go.Sx
open Go.RowKit Go.Proofs
set_option maxRecDepth 100000
set_option maxHeartbeats 8000000
theorem jw {p:Prop}(e:p:=by intro KZ hZ;simp -implicitDefEqProofs (maxSteps:=2000000) (disch:=first|omega| (simp only[go_sem,lA,lD,lT,hwl,hVl,hLl] <;>omega) |decide) only[go_sem,↓reduceIte,Nat.reduceEqDiff,reduceCtorEq,Nat.reduceLT,Nat.reduceBEq,Nat.reduceAdd,Nat.not_lt_zero,hv1,ha1,hj1,hX,hy];with_reducible exact hZ):p:=e
theorem K0 {p:Prop}(e:p:=by simp -implicitDefEqProofs (disch:=first|omega| (simp only[go_sem,lA,lD,lT,hwl,hVl,hLl] <;>omega) |decide) only[go_sem,↓reduceIte,Nat.reduceEqDiff,reduceCtorEq];all_goals (exact ⟨rfl,rfl⟩)):p:=e
theorem SL {gl:Nat→C}{M:Nat}{pu:Nat→List C→Option C}(hcx:CxOK (aD gl M pu))(w:ah)(v a j:Nat)(hv:v< w.length)(ha:a< (gt w v).length)(hj:j< (gt (gt w v) a).2.length)(hw:WG w):FC Tryd.prog gl 35 [.agg [xF w v a (gt (gt w v) a).2.length],.agg [.val (nI v),.val (nI a),.val (nI j)]] [some (cl pC (gt (gt w v) a).2)] (.tup [.agg (pC (gt (gt (gt w v) a).2 j)),.val (.bool true)]) [some (cl pC (gt (gt w v) a).2)]:=by
 replace hcx:=hcx.reN (M:=61)
 refine uH (cx:=aD gl 61 pu) (rs:=[.cell 4 37,.tmp 5]) rfl Tryd.func35 rfl rfl rfl (by simp only[List.length_cons,List.length_nil];decide) (by simp only[go_sem]) (ko _ 1) ?_
 simp only[cZ,go_sem]
 have hy:=True.intro
 have hwl:=hw.n
 have hwv:=hw.v _ (bz w v hv)
 have hVl:=hwv.1
 have hwa:=hwv.2 _ (bz _ a ha)
 have hLl:=hwa.2.1
 have hv1: (w.length≤v) =False:=eq_false (by omega)
 have ha1: ((gt w v).length≤a) =False:=eq_false (by omega)
 have hj1: ((gt (gt w v) a).2.length≤j) =False:=eq_false (by omega)
 have hX:=And.intro (vu w v a (gt (gt w v) a).2.length hv) (And.intro (vv w v a (gt (gt w v) a).2.length hv) (vw (gt w v) a (gt (gt w v) a).2.length ha))
 refine Tr.w hcx [] _ [none,none,none] rfl rfl rfl ?_ jw
 refine ae fun K1 hK1=>?_
 refine Tr.w hcx [] [some 8,some 9,some 10,some 11,some 12,some 13,some 14,some 15,some 16,some 17,some 18] [] rfl rfl rfl ?_ jw
 refine aO rfl ?_
 refine Tr.skip ?_
 refine hK1 _ ?_
 refine Tr.w hcx [] _ [none] rfl rfl rfl ?_ jw
 refine Tr.k [3,4,6] ?_
 refine ae fun K2 hK2=>?_
 refine Tr.w hcx [] [some 26,some 27,some 28,some 29,some 30,some 31,some 32,some 33,some 34,some 35,some 36] [] rfl rfl rfl ?_ jw
 refine aO rfl ?_
 refine Tr.skip ?_
 refine hK2 _ ?_
 refine Tr.w hcx [1000044] _ [] rfl rfl rfl ?_ jw
 refine Tr.k [3,4,7] ?_
 refine ae fun K3 hK3=>?_
 refine Tr.w hcx [] [some 45,some 46,some 47,some 48,some 49,some 50,some 51,some 52,some 53,some 54] [] rfl rfl rfl ?_ jw
 refine aO rfl ?_
 refine Tr.skip ?_
 refine hK3 _ ?_
 refine Tr.w hcx [] _ [] rfl rfl rfl ?_ jw
 exact Tr.ret K0
theorem bm {p:Prop}(e:p:=by intro KZ hZ;simp -implicitDefEqProofs (maxSteps:=2000000) (disch:=first|omega| (simp only[go_sem,lA,lD,lT,vj,rK] <;>omega) |decide) only[go_sem,↓reduceIte,Nat.reduceEqDiff,reduceCtorEq,Nat.reduceLT,Nat.reduceBEq,Nat.reduceAdd,n35,e35,h19,hX,xz,e7,hy];with_reducible exact hZ):p:=e
theorem La {p:Prop}(e:p:=by intro KZ hZ;simp -implicitDefEqProofs (maxSteps:=2000000) (disch:=first|omega| (simp only[go_sem,lA,lD,lT,vj,rK] <;>omega) |decide) only[go_sem,↓reduceIte,Nat.reduceEqDiff,reduceCtorEq,Nat.reduceLT,Nat.reduceBEq,Nat.reduceAdd,n35,e35,h19,hX,xz,e7,hy];with_reducible refine And.intro ?_ hZ;first|exact rfl|decide):p:=e
theorem gG {p:Prop}(e:p:=by simp -implicitDefEqProofs (disch:=first|omega| (simp only[go_sem,lA,lD,lT,vj,rK] <;>omega) |decide) only[go_sem,↓reduceIte,Nat.reduceEqDiff,reduceCtorEq];all_goals (first| (rw[hC];done) | (rw[hC];rfl))):p:=e
theorem SM {gl:Nat→C}{M0:Nat}{pu:Nat→List C→Option C}{hp:Nat→List C→Hp→Option (C×Hp)}(hcx:CxOK (ic gl M0 pu hp))(w:ah)(v a j:Nat)(how y:Int)(hv:v< w.length)(ha:a< (gt w v).length)(hj:j< (gt (gt w v) a).2.length)(hw:WG w)(hho: -9223372036854775808≤how∧how≤9223372036854775807)(hy0: -9223372036854775808≤y∧y≤9223372036854775807)(n35:∀xs:List C,pu 35 xs=none)(hq35:∀suf:Hp,OkH suf→hp 35 [.agg [xF w v a (gt (gt w v) a).2.length],.agg [.val (nI v),.val (nI a),.val (nI j)]] ([some (cl pC (gt (gt w v) a).2)]++suf) =some (.tup [.agg (pC (gt (gt (gt w v) a).2 j)),.val (.bool true)],[some (cl pC (gt (gt w v) a).2)]++suf))(h19:∀ (n:Int) (m:Nat),-9223372036854775808≤n∧n≤9223372036854775807∧0< m∧m≤9223372036854775807→pu 19 [.val (.int .i64 n),.val (nI m)] =some (.val (nI (aa n m)))):FC Tryd.prog gl 92 [.agg [xF w v a (gt (gt w v) a).2.length],.agg [.val (nI v),.val (nI a),.val (nI j)],.val (.int .i64 how),.val (.int .i64 y)] [some (cl pC (gt (gt w v) a).2)] (.agg [xF w v a (gt (gt w v) a).2.length]) [some (cl pC ((gt (gt w v) a).2.set j (eR (gt (gt (gt w v) a).2 j) how y)))]:=by
 replace hcx:=hcx.reN (M:=120)
 refine uH (cx:=ic gl 120 pu hp) (rs:=[.cell 8 29]) rfl Tryd.func92 rfl rfl rfl (by simp only[List.length_cons,List.length_nil];decide) (y5 ..) (ko _ 1) ?_
 simp only[cZ,go_sem]
 have hy:=True.intro
 have hwl:=hw.n
 have hwv:=hw.v _ (bz w v hv)
 have hVl:=hwv.1
 have hwa:=hwv.2 _ (bz _ a ha)
 have hLl:=hwa.2.1
 have hv1: (w.length≤v) =False:=eq_false (by omega)
 have ha1: ((gt w v).length≤a) =False:=eq_false (by omega)
 have hj1: ((gt (gt w v) a).2.length≤j) =False:=eq_false (by omega)
 have hX:=And.intro (vu w v a (gt (gt w v) a).2.length hv) (And.intro (vv w v a (gt (gt w v) a).2.length hv) (vw (gt w v) a (gt (gt w v) a).2.length ha))
 have eG:= @yS
 have hPg:=hwa.2.2 _ (bz _ j hj)
 have e35:=hq35 [some [xF w v a (gt (gt w v) a).2.length],some [.val (nI v),.val (nI a),.val (nI j)],some [.val (.slice none 0 0)],none] (OkH.cons rfl (OkH.cons rfl (OkH.cons rfl (OkH.cons rfl OkH.nil))))
 simp only[List.cons_append,List.nil_append] at e35
 have hA4:=cJ y (m:=4) (by decide)
 have hA9:=cJ y (m:=9) (by decide)
 have hA7:=cJ y (m:=7) (by decide)
 have e7:aR Tryd.prog .sub 3 (.val (nI (aa y 7))) (.val (nI 1)) =some (vp (.val (.int .i64 (((aa y 7:Nat):Int) - 1)))):=s4 _ _ _ _ (by omega)
 obtain ⟨P,hP⟩:∃P,gt (gt (gt w v) a).2 j=P:=⟨_,rfl⟩
 rw[hP] at e35 hPg
 rw[hP]
 have hPt:=hPg.1
 have hPr:=hPg.2.1
 refine Tr.w hcx [] _ [none,none,none] rfl rfl rfl ?_ bm
 refine Tr.w hcx [1000017] _ [none] rfl rfl rfl ?_ bm
 refine ae fun K1 hK1=>?_
 refine Tr.w hcx [] _ [] rfl rfl rfl ?_ bm
 refine aO rfl ?_
 refine Tr.skip ?_
 refine hK1 _ ?_
 refine Tr.k [2,3,4,5,8,9] ?_
 refine fh hcx eG [1000032] _ [] rfl rfl rfl rfl ?_ La
 refine ae fun K2 hK2=>?_
 refine Tr.w hcx [] _ [] rfl rfl rfl ?_ bm
 refine am ?_
 refine Tr.w hcx [1000040] _ [] rfl rfl rfl ?_ bm
 refine aw rfl (fun hc39=>?_) (fun hc39=>?_)
 ·
  have hC:eR P how y=kN P y 0:=by unfold eR;rw[hc39]
  refine Tr.v hcx [] _ [] rfl rfl rfl ?_ bm
  refine hK2 _ ?_
  refine Tr.k [4,5,8,9,11] ?_
  first| (refine Tr.bxc 4 6 (sl iD .no (P.2.2.2.2++[(((0:Nat):Int),((aa y 9:Nat):Int),((0:Nat):Int))])) ((pC P).set 6 (sl iD (.own 3) (P.2.2.2.2++[(((0:Nat):Int),((aa y 9:Nat):Int),((0:Nat):Int))]))) rfl rfl (CLe.noR (sl iD (.own 3) _)) rfl ?_;simp only[dG];simp only[List.set_cons_succ,List.set_cons_zero]) | (refine Tr.bxc 4 6 (sl iD .no [(-1,((0:Nat):Int),((aa y 2:Nat):Int))]) ((pC P).set 6 (sl iD .full [(-1,((0:Nat):Int),((aa y 2:Nat):Int))])) rfl rfl (CLe.full ..) rfl ?_;simp only[dG];simp only[List.set_cons_succ,List.set_cons_zero]) |skip
  refine Tr.w hcx [] _ [] rfl rfl rfl ?_ bm
  refine Tr.w hcx [] _ [] rfl rfl rfl ?_ bm
  exact Tr.ret gG
 refine Tr.w hcx [1000050] _ [] rfl rfl rfl ?_ bm
 refine aw rfl (fun hc49=>?_) (fun hc49=>?_)
 ·
  have hC:eR P how y=kN P y 1:=by unfold eR;rw[hc49]
  refine Tr.v hcx [] _ [] rfl rfl rfl ?_ bm
  refine hK2 _ ?_
  refine Tr.k [4,5,8,9,11] ?_
  first| (refine Tr.bxc 4 6 (sl iD .no (P.2.2.2.2++[(((0:Nat):Int),((aa y 9:Nat):Int),((0:Nat):Int))])) ((pC P).set 6 (sl iD (.own 3) (P.2.2.2.2++[(((0:Nat):Int),((aa y 9:Nat):Int),((0:Nat):Int))]))) rfl rfl (CLe.noR (sl iD (.own 3) _)) rfl ?_;simp only[dG];simp only[List.set_cons_succ,List.set_cons_zero]) | (refine Tr.bxc 4 6 (sl iD .no [(-1,((0:Nat):Int),((aa y 2:Nat):Int))]) ((pC P).set 6 (sl iD .full [(-1,((0:Nat):Int),((aa y 2:Nat):Int))])) rfl rfl (CLe.full ..) rfl ?_;simp only[dG];simp only[List.set_cons_succ,List.set_cons_zero]) |skip
  refine Tr.w hcx [] _ [] rfl rfl rfl ?_ bm
  refine Tr.w hcx [] _ [] rfl rfl rfl ?_ bm
  exact Tr.ret gG
 refine Tr.w hcx [1000060] _ [] rfl rfl rfl ?_ bm
 refine Tr.k [3,4,5,8,9,11,34,59] ?_
 refine aw rfl (fun hc59=>?_) (fun hc59=>?_)
 ·
  have hC:eR P how y=kN P y 2:=by unfold eR;rw[hc59]
  refine Tr.v hcx [] _ [] rfl rfl rfl ?_ bm
  refine hK2 _ ?_
  first| (refine Tr.bxc 4 6 (sl iD .no (P.2.2.2.2++[(((0:Nat):Int),((aa y 9:Nat):Int),((0:Nat):Int))])) ((pC P).set 6 (sl iD (.own 3) (P.2.2.2.2++[(((0:Nat):Int),((aa y 9:Nat):Int),((0:Nat):Int))]))) rfl rfl (CLe.noR (sl iD (.own 3) _)) rfl ?_;simp only[dG];simp only[List.set_cons_succ,List.set_cons_zero]) | (refine Tr.bxc 4 6 (sl iD .no [(-1,((0:Nat):Int),((aa y 2:Nat):Int))]) ((pC P).set 6 (sl iD .full [(-1,((0:Nat):Int),((aa y 2:Nat):Int))])) rfl rfl (CLe.full ..) rfl ?_;simp only[dG];simp only[List.set_cons_succ,List.set_cons_zero]) |skip
  refine Tr.w hcx [] _ [] rfl rfl rfl ?_ bm
  refine Tr.w hcx [] _ [] rfl rfl rfl ?_ bm
  exact Tr.ret gG
 refine Tr.w hcx [1000070] _ [] rfl rfl rfl ?_ bm
 refine aw rfl (fun hc69=>?_) (fun hc69=>?_)
 ·
  have hC:eR P how y=kN P y 3:=by unfold eR;rw[hc69]
  refine Tr.v hcx [] _ [] rfl rfl rfl ?_ bm
  refine hK2 _ ?_
  first| (refine Tr.bxc 4 6 (sl iD .no (P.2.2.2.2++[(((0:Nat):Int),((aa y 9:Nat):Int),((0:Nat):Int))])) ((pC P).set 6 (sl iD (.own 3) (P.2.2.2.2++[(((0:Nat):Int),((aa y 9:Nat):Int),((0:Nat):Int))]))) rfl rfl (CLe.noR (sl iD (.own 3) _)) rfl ?_;simp only[dG];simp only[List.set_cons_succ,List.set_cons_zero]) | (refine Tr.bxc 4 6 (sl iD .no [(-1,((0:Nat):Int),((aa y 2:Nat):Int))]) ((pC P).set 6 (sl iD .full [(-1,((0:Nat):Int),((aa y 2:Nat):Int))])) rfl rfl (CLe.full ..) rfl ?_;simp only[dG];simp only[List.set_cons_succ,List.set_cons_zero]) |skip
  refine Tr.w hcx [] _ [] rfl rfl rfl ?_ bm
  refine Tr.w hcx [] _ [] rfl rfl rfl ?_ bm
  exact Tr.ret gG
 refine Tr.w hcx [1000076] _ [] rfl rfl rfl ?_ bm
 refine aw rfl (fun hc75=>?_) (fun hc75=>?_)
 ·
  have hC:eR P how y=kN P y 4:=by unfold eR;rw[hc75]
  refine Tr.v hcx [] _ [] rfl rfl rfl ?_ bm
  refine hK2 _ ?_
  first| (refine Tr.bxc 4 6 (sl iD .no (P.2.2.2.2++[(((0:Nat):Int),((aa y 9:Nat):Int),((0:Nat):Int))])) ((pC P).set 6 (sl iD (.own 3) (P.2.2.2.2++[(((0:Nat):Int),((aa y 9:Nat):Int),((0:Nat):Int))]))) rfl rfl (CLe.noR (sl iD (.own 3) _)) rfl ?_;simp only[dG];simp only[List.set_cons_succ,List.set_cons_zero]) | (refine Tr.bxc 4 6 (sl iD .no [(-1,((0:Nat):Int),((aa y 2:Nat):Int))]) ((pC P).set 6 (sl iD .full [(-1,((0:Nat):Int),((aa y 2:Nat):Int))])) rfl rfl (CLe.full ..) rfl ?_;simp only[dG];simp only[List.set_cons_succ,List.set_cons_zero]) |skip
  refine Tr.w hcx [] _ [] rfl rfl rfl ?_ bm
  refine Tr.w hcx [] _ [] rfl rfl rfl ?_ bm
  exact Tr.ret gG
 refine Tr.w hcx [1000082] _ [] rfl rfl rfl ?_ bm
 refine aw rfl (fun hc81=>?_) (fun hc81=>?_)
 ·
  have hC:eR P how y=kN P y 5:=by unfold eR;rw[hc81]
  refine Tr.v hcx [] _ [] rfl rfl rfl ?_ bm
  refine hK2 _ ?_
  first| (refine Tr.bxc 4 6 (sl iD .no (P.2.2.2.2++[(((0:Nat):Int),((aa y 9:Nat):Int),((0:Nat):Int))])) ((pC P).set 6 (sl iD (.own 3) (P.2.2.2.2++[(((0:Nat):Int),((aa y 9:Nat):Int),((0:Nat):Int))]))) rfl rfl (CLe.noR (sl iD (.own 3) _)) rfl ?_;simp only[dG];simp only[List.set_cons_succ,List.set_cons_zero]) | (refine Tr.bxc 4 6 (sl iD .no [(-1,((0:Nat):Int),((aa y 2:Nat):Int))]) ((pC P).set 6 (sl iD .full [(-1,((0:Nat):Int),((aa y 2:Nat):Int))])) rfl rfl (CLe.full ..) rfl ?_;simp only[dG];simp only[List.set_cons_succ,List.set_cons_zero]) |skip
  refine Tr.w hcx [] _ [] rfl rfl rfl ?_ bm
  refine Tr.w hcx [] _ [] rfl rfl rfl ?_ bm
  exact Tr.ret gG
 refine Tr.w hcx [1000090] _ [] rfl rfl rfl ?_ bm
 refine aw rfl (fun hc89=>?_) (fun hc89=>?_)
 ·
  have hC:eR P how y=kN P y 6:=by unfold eR;rw[hc89]
  refine Tr.v hcx [91,94] _ [] rfl rfl rfl ?_ bm
  refine hK2 _ ?_
  refine Tr.k [4,5,8,9,11] ?_
  first| (refine Tr.bxc 4 6 (sl iD .no (P.2.2.2.2++[(((0:Nat):Int),((aa y 9:Nat):Int),((0:Nat):Int))])) ((pC P).set 6 (sl iD (.own 3) (P.2.2.2.2++[(((0:Nat):Int),((aa y 9:Nat):Int),((0:Nat):Int))]))) rfl rfl (CLe.noR (sl iD (.own 3) _)) rfl ?_;simp only[dG];simp only[List.set_cons_succ,List.set_cons_zero]) | (refine Tr.bxc 4 6 (sl iD .no [(-1,((0:Nat):Int),((aa y 2:Nat):Int))]) ((pC P).set 6 (sl iD .full [(-1,((0:Nat):Int),((aa y 2:Nat):Int))])) rfl rfl (CLe.full ..) rfl ?_;simp only[dG];simp only[List.set_cons_succ,List.set_cons_zero]) |skip
  refine Tr.w hcx [] _ [] rfl rfl rfl ?_ bm
  refine Tr.w hcx [] _ [] rfl rfl rfl ?_ bm
  exact Tr.ret gG
 refine Tr.w hcx [1000102] _ [] rfl rfl rfl ?_ bm
 refine aw rfl (fun hc101=>?_) (fun hc101=>?_)
 ·
  have hC:eR P how y=kN P y 7:=by unfold eR;rw[hc101]
  refine Tr.v hcx [] _ [] rfl rfl rfl ?_ bm
  refine hK2 _ ?_
  refine Tr.k [4,5,8,9,11] ?_
  first| (refine Tr.bxc 4 6 (sl iD .no (P.2.2.2.2++[(((0:Nat):Int),((aa y 9:Nat):Int),((0:Nat):Int))])) ((pC P).set 6 (sl iD (.own 3) (P.2.2.2.2++[(((0:Nat):Int),((aa y 9:Nat):Int),((0:Nat):Int))]))) rfl rfl (CLe.noR (sl iD (.own 3) _)) rfl ?_;simp only[dG];simp only[List.set_cons_succ,List.set_cons_zero]) | (refine Tr.bxc 4 6 (sl iD .no [(-1,((0:Nat):Int),((aa y 2:Nat):Int))]) ((pC P).set 6 (sl iD .full [(-1,((0:Nat):Int),((aa y 2:Nat):Int))])) rfl rfl (CLe.full ..) rfl ?_;simp only[dG];simp only[List.set_cons_succ,List.set_cons_zero]) |skip
  refine Tr.w hcx [] _ [] rfl rfl rfl ?_ bm
  refine Tr.w hcx [] _ [] rfl rfl rfl ?_ bm
  exact Tr.ret gG
 refine Tr.w hcx [1000109] _ [] rfl rfl rfl ?_ bm
 refine aw rfl (fun hc108=>?_) (fun hc108=>?_)
 ·
  have hC:eR P how y=kN P y 8:=by unfold eR;rw[hc108]
  refine Tr.v hcx [] _ [] rfl rfl rfl ?_ bm
  refine hK2 _ ?_
  refine Tr.k [4,5,8,9,11] ?_
  first| (refine Tr.bxc 4 6 (sl iD .no (P.2.2.2.2++[(((0:Nat):Int),((aa y 9:Nat):Int),((0:Nat):Int))])) ((pC P).set 6 (sl iD (.own 3) (P.2.2.2.2++[(((0:Nat):Int),((aa y 9:Nat):Int),((0:Nat):Int))]))) rfl rfl (CLe.noR (sl iD (.own 3) _)) rfl ?_;simp only[dG];simp only[List.set_cons_succ,List.set_cons_zero]) | (refine Tr.bxc 4 6 (sl iD .no [(-1,((0:Nat):Int),((aa y 2:Nat):Int))]) ((pC P).set 6 (sl iD .full [(-1,((0:Nat):Int),((aa y 2:Nat):Int))])) rfl rfl (CLe.full ..) rfl ?_;simp only[dG];simp only[List.set_cons_succ,List.set_cons_zero]) |skip
  refine Tr.w hcx [] _ [] rfl rfl rfl ?_ bm
  refine Tr.w hcx [] _ [] rfl rfl rfl ?_ bm
  exact Tr.ret gG
 have hC:eR P how y=_:=PD hc39 hc49 hc59 hc69 hc75 hc81 hc89 hc101 hc108
 refine Tr.v hcx [] _ [] rfl rfl rfl ?_ bm
 refine hK2 _ ?_
 refine Tr.k [4,5,8,9,11] ?_
 first| (refine Tr.bxc 4 6 (sl iD .no (P.2.2.2.2++[(((0:Nat):Int),((aa y 9:Nat):Int),((0:Nat):Int))])) ((pC P).set 6 (sl iD (.own 3) (P.2.2.2.2++[(((0:Nat):Int),((aa y 9:Nat):Int),((0:Nat):Int))]))) rfl rfl (CLe.noR (sl iD (.own 3) _)) rfl ?_;simp only[dG];simp only[List.set_cons_succ,List.set_cons_zero]) | (refine Tr.bxc 4 6 (sl iD .no [(-1,((0:Nat):Int),((aa y 2:Nat):Int))]) ((pC P).set 6 (sl iD .full [(-1,((0:Nat):Int),((aa y 2:Nat):Int))])) rfl rfl (CLe.full ..) rfl ?_;simp only[dG];simp only[List.set_cons_succ,List.set_cons_zero]) |skip
 refine Tr.w hcx [] _ [] rfl rfl rfl ?_ bm
 refine Tr.w hcx [] _ [] rfl rfl rfl ?_ bm
 exact Tr.ret gG
end Go.Sx
namespace Go.Sx
open Go.RowKit Go.Proofs
set_option maxRecDepth 100000
set_option maxHeartbeats 8000000
theorem lZ {p:Prop}(e:p:=by intro KZ hZ;simp -implicitDefEqProofs (maxSteps:=2000000) (disch:=first|omega| (simp only[go_sem,lA,lD,lT,hwl] <;>omega) |decide) only[go_sem,↓reduceIte,Nat.reduceEqDiff,reduceCtorEq,Nat.reduceLT,Nat.reduceBEq,Nat.reduceAdd,n20,n14,n33,n92,e20,e14,e33,e92,h19,h1,h0,hy];with_reducible exact hZ):p:=e
theorem Lf {p:Prop}(e:p:=by intro KZ hZ;simp -implicitDefEqProofs (maxSteps:=2000000) (disch:=first|omega| (simp only[go_sem,lA,lD,lT,hwl] <;>omega) |decide) only[go_sem,↓reduceIte,Nat.reduceEqDiff,reduceCtorEq,Nat.reduceLT,Nat.reduceBEq,Nat.reduceAdd,n20,n14,n33,n92,e20,e14,e33,e92,h19,h1,h0,hy];with_reducible refine And.intro ?_ hZ;first|exact rfl|decide):p:=e
theorem Lg {p:Prop}(e:p:=by simp -implicitDefEqProofs (disch:=first|omega| (simp only[go_sem,lA,lD,lT,hwl] <;>omega) |decide) only[go_sem,↓reduceIte,Nat.reduceEqDiff,reduceCtorEq];all_goals (rw[hS])):p:=e
theorem SP {gl:Nat→C}{M0:Nat}{pu:Nat→List C→Option C}{hp:Nat→List C→Hp→Option (C×Hp)}(hcx:CxOK (ic gl M0 pu hp))(w:ah)(how y:Int)(v a:Nat)(hw:WG w)(hho: -9223372036854775808≤how∧how≤9223372036854775807)(hy0: -9223372036854775808≤y∧y≤9223372036854775807)(j:Nat)(hv:v< w.length)(ha:a< (gt w v).length)(hj:j< (gt (gt w v) a).2.length)(h0:0< (aZ w).length)(h1:aa how 2=0)(hf:dI w (gt (aZ w) (aa y (aZ w).length)).1= ((v,a,j),true))(n20:∀xs:List C,pu 20 xs=none)(n14:∀xs:List C,pu 14 xs=none)(n33:∀ (xs:List C) (k:Nat),pu 33 (.agg [xF w v a k]::xs) =none)(n92:∀xs:List C,pu 92 xs=none)(hq20:∀pre:Hp,OkH pre→hp 20 [.agg [sl vC .no w]] pre=some (.agg [.gv pre.length w.length (1,46)],pre++[some (fV pre.length v (gt w v).length w),some (fA pre.length a (gt (gt w v) a).2.length (gt w v)),some (cl pC (gt (gt w v) a).2),some [.gv pre.length w.length (1,46)]]))(hq14:∀suf:Hp,OkH suf→hp 14 [.agg [.gv 0 w.length (1,46)]] ([some (fV 0 v (gt w v).length w),some (fA 0 a (gt (gt w v) a).2.length (gt w v)),some (cl pC (gt (gt w v) a).2)]++suf) =some (sl pC (.own 7) (aZ w),[some (fV 0 v (gt w v).length w),some (fA 0 a (gt (gt w v) a).2.length (gt w v)),some (cl pC (gt (gt w v) a).2)]++suf))(h33:∀ (w:ah) (id:ID),WB w→pu 33 [.agg [sl vC .no w],.agg (iD id)] =some (.tup [.agg [.val (nI (dI w id).1.1),.val (nI (dI w id).1.2.1),.val (nI (dI w id).1.2.2)],.val (.bool (dI w id).2)]))(hq92:∀suf:Hp,OkH suf→hp 92 [.agg [xF w v a (gt (gt w v) a).2.length],.agg [.val (nI v),.val (nI a),.val (nI j)],.val (.int .i64 (how.tdiv ((2:Nat):Int))),.val (.int .i64 (y.tdiv ((8:Nat):Int)))] ([some (cl pC (gt (gt w v) a).2)]++suf) =some (.agg [xF w v a (gt (gt w v) a).2.length],[some (cl pC ((gt (gt w v) a).2.set j (eR (gt (gt (gt w v) a).2 j) (how.tdiv ((2:Nat):Int)) (y.tdiv ((8:Nat):Int)))))]++suf))(h19:∀ (n:Int) (m:Nat),-9223372036854775808≤n∧n≤9223372036854775807∧0< m∧m≤9223372036854775807→pu 19 [.val (.int .i64 n),.val (nI m)] =some (.val (nI (aa n m)))):FC Tryd.prog gl 51 [.agg [sl vC .no w],.val (.int .i64 how),.val (.int .i64 y)] [] (.agg [sl vC .no (ao w how y)]) []:=by
 replace hcx:=hcx.reN (M:=242)
 refine bI (cx:=ic gl 242 pu hp) (rs:=[.cell 6 29]) rfl Tryd.func51 rfl rfl rfl (by simp only[List.length_cons,List.length_nil];decide) (by simp only[go_sem]) ?_
 simp only[cZ,go_sem]
 have hy:=True.intro
 have eG:= @yS
 have hwl:=hw.n
 have hal:=hw.al
 have e20:=hq20 [some [sl vC .no w],some [.val (.slice none 0 0)],none] (OkH.cons rfl (OkH.cons rfl (OkH.cons rfl OkH.nil)))
 simp only[List.length_cons,List.length_nil,List.cons_append,List.nil_append,Nat.zero_add,Nat.reduceAdd] at e20
 have e14:=hq14 [some [.val (.slice none 0 0)],some [.gv 0 w.length (1,46)]] (OkH.cons rfl (OkH.cons rfl OkH.nil))
 simp only[List.cons_append,List.nil_append] at e14
 have hay:=cJ y (m:=(aZ w).length) h0
 have p33:=h33 w (gt (aZ w) (aa y (aZ w).length)).1 hw.wb
 rw[hf] at p33
 have e33:=Gq (cx:=(ic gl 242 pu hp).grow [1000033]) (a:=a) hv rfl p33 rfl
 have e92:=hq92 [some [.val (.slice none 0 0)],some [xF w v a (gt (gt w v) a).2.length],some [.val (nI v),.val (nI a),.val (nI j)]] (OkH.cons rfl (OkH.cons rfl (OkH.cons rfl OkH.nil)))
 simp only[List.cons_append,List.nil_append] at e92
 have hS:ao w how y=setL w v a ((gt (gt w v) a).2.set j (eR (gt (gt (gt w v) a).2 j) (how.tdiv ((2:Nat):Int)) (y.tdiv ((8:Nat):Int)))):=by unfold ao;rw[if_pos ⟨h0,h1⟩,hf]
 refine Tr.w hcx [] _ [none,none] rfl rfl rfl ?_ lZ
 refine Tr.w hcx [] _ [none] rfl rfl rfl ?_ lZ
 refine Tr.k [1,2,6,7] ?_
 refine bD hcx [3,4,5,1,2] ?_
 simp only[vl (ρ:=[3,4,5,1,2]) (n:=3) (k:=0) (fun _=>rfl),Ck (ρ:=[3,4,5,1,2]) (n:=3) (k:=0) (fun _=>rfl)]
 refine Tr.w hcx [1000018] _ [] rfl rfl rfl ?_ lZ
 refine ae fun K1 hK1=>?_
 refine Tr.w hcx [] [some 19,some 20,some 21,some 22,some 23,some 24,some 25,some 26] [] rfl rfl rfl ?_ lZ
 refine bn rfl ?_
 refine ab hcx 1 (fA 0 a (gt (gt w v) a).2.length (gt w v)) ?_
 refine ab hcx 0 ((cl vC w).set v (.sl .no (gt w v).length (fA 0 a (gt (gt w v) a).2.length (gt w v)))) ?_
 refine Tr.k [1,2,6,7,8] ?_
 refine bD hcx [2,3,4] ?_
 simp only[Vp]
 refine Bp hcx eG [1000033] [1000039] _ [none] rfl rfl rfl rfl ?_ Lf
 refine Tr.k [1,2,6,7,9] ?_
 refine Tr.w hcx [] _ [] rfl rfl rfl ?_ lZ
 refine ab hcx 0 (cl pC ((gt (gt w v) a).2.set j (eR (gt (gt (gt w v) a).2 j) (how.tdiv ((2:Nat):Int)) (y.tdiv ((8:Nat):Int))))) ?_
 exact Tr.ret Lg
end Go.Sx
