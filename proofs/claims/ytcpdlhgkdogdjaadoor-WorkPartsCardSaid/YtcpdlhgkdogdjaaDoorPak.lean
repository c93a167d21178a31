/-
   And what follows.
-/
import Derived.Test.YtcpdlhgkdogdjaaDoorPaj
set_option linter.unusedSimpArgs false
set_option linter.unusedVariables false
namespace Go.Sx
open Go.RowKit
section
variable {cx:Cx} {n:Nat} {st:St} {Q:Ex→St→Prop} {G:Gh} {w:World} {h:Hp} {b:Nat} {cells:List C}
mutual
theorem kB (H:WorldOK G h w)(hb:h.at b=some cells){ys:List C}(hys:∀blk,G.μ b=some blk→RepK (cw G w b cells.length) blk 0 ys):∀ (c:C)(v:Value),Rep G c v→Rep (cw G w b cells.length) (aU (c8 h b) b ys c) v
 | .top,_,_=>by simp[aU,Rep]
 | .val u,v,r=>by simpa[aU,Rep] using r
 | .sl r n xs,v,x=>by
   simp only[aU,Rep] at x ⊢
   obtain ⟨a,cap,h1,h2,h3,h4,h5⟩:=x
   refine ⟨a,cap,h1,h2,h3,h4,?_⟩
   rcases h5 with h5| ⟨blk,off,ha,hk⟩
   . left;rw[h5];rfl
   . exact .inr ⟨blk,off,ha,fzC_repKY H hb hys xs blk off hk⟩
 | .sv b' off n,v,x=>by
   simp only[aU]
   split
   . rename_i e
     subst e
     split
     . rename_i hle
       simp only[Rep] at x ⊢
       obtain ⟨a,cap,h1,h2,h3,h4⟩:=x
       refine ⟨a,cap,h1,h2,h3,by simp,?_⟩
       by_cases hn:n=0
       . left;subst hn;simp
       . right
         obtain ⟨blk,q1,q2⟩:=h4 hn
         refine ⟨blk,off,q2,?_⟩
         have:=(hys _ q1).drop off
         rw[Nat.zero_add] at this
         exact this.take n
     . simp[Rep]
   . split
     . rename_i hok
       simp only[Rep] at x ⊢
       obtain ⟨a,cap,h1,h2,h3,h4⟩:=x
       exact ⟨a,cap,h1,h2,h3,fun hz=>by obtain ⟨blk,q1,q2⟩:=h4 hz;exact ⟨blk,d7 H hb hok q1,q2⟩⟩
     . simp[Rep]
 | .gv b' m s,v,x=>by
   simp only[aU]
   split
   . rename_i e
     subst e
     split
     . rename_i hle
       simp only[Rep] at x ⊢
       obtain ⟨a,cap,h1,h2,h3,h4⟩:=x
       refine ⟨a,cap,h1,h2,h3,by simp,?_⟩
       rcases h4 with ⟨rfl,_⟩ | ⟨blk,q1,q2,q3⟩
       . left;simp
       . right
         exact ⟨blk,0,q2,(hys _ q1).take _⟩
     . simp[Rep]
   . split
     . rename_i hok
       simp only[Rep] at x ⊢
       obtain ⟨a,cap,h1,h2,h3,h4⟩:=x
       refine ⟨a,cap,h1,h2,h3,?_⟩
       rcases h4 with h4| ⟨blk,q1,q2,q3⟩
       . exact .inl h4
       . exact .inr ⟨blk,d7 H hb hok q1,q2,kz H hb hok q3⟩
     . simp[Rep]
 | .mp b',v,x=>by
   simp only[aU]
   split
   . simp[Rep]
   . split
     . rename_i hok
       simp only[Rep] at x ⊢
       obtain ⟨blk,h1,h2⟩:=x
       exact ⟨blk,d7 H hb hok h1,h2⟩
     . simp[Rep]
 | .bt b' t n,v,x=>by
   simp only[aU]
   split
   . simp[Rep]
   . split
     . rename_i hok
       simp only[Rep] at x ⊢
       obtain ⟨blk,h1,h2,h3⟩:=x
       exact ⟨blk,d7 H hb hok h1,h2,kz H hb hok h3⟩
     . simp[Rep]
 | .bp b' off,v,x=>by
   simp only[aU]
   split
   . rename_i e
     subst e
     simp only[Rep] at x ⊢
     obtain ⟨blk,h1,h2⟩:=x
     refine ⟨blk,off,h2,?_⟩
     have:=(hys _ h1).drop off
     rwa [Nat.zero_add] at this
   . split
     . rename_i hok
       simp only[Rep] at x ⊢
       obtain ⟨blk,h1,h2⟩:=x
       exact ⟨blk,d7 H hb hok h1,h2⟩
     . simp[Rep]
 | .kp xs,v,x=>by
   simp only[aU,Rep] at x ⊢
   obtain ⟨blk,off,h1,h2⟩:=x
   exact ⟨blk,off,h1,fzC_repKY H hb hys xs blk off h2⟩
 | .agg xs,v,x=>by
   simp only[aU,Rep] at x ⊢
   obtain ⟨vs,h1,h2,h3⟩:=x
   exact ⟨vs,h1,fzC_repLY H hb hys xs _ h2,h3⟩
 | .tup xs,v,x=>by
   simp only[aU,Rep] at x ⊢
   obtain ⟨vs,h1,h2⟩:=x
   exact ⟨vs,h1,fzC_repLY H hb hys xs _ h2⟩
 | .fn f xs,v,x=>by
   simp only[aU,Rep] at x ⊢
   obtain ⟨vs,h1,h2⟩:=x
   exact ⟨vs,h1,fzC_repLY H hb hys xs _ h2⟩
theorem fzC_repLY (H:WorldOK G h w)(hb:h.at b=some cells){ys:List C}(hys:∀blk,G.μ b=some blk→RepK (cw G w b cells.length) blk 0 ys):∀ (xs:List C)(vs:List Value),RepL G xs vs→RepL (cw G w b cells.length) (fzCs (c8 h b) b ys xs) vs
 | [],vs,r=>by simpa[fzCs,RepL] using r
 |x::xs,vs,r=>by
  simp only[fzCs,RepL] at r ⊢
  obtain ⟨v,vs',h1,h2,h3⟩:=r
  exact ⟨v,vs',h1,kB H hb hys x v h2,fzC_repLY H hb hys xs vs' h3⟩
theorem fzC_repKY (H:WorldOK G h w)(hb:h.at b=some cells){ys:List C}(hys:∀blk,G.μ b=some blk→RepK (cw G w b cells.length) blk 0 ys):∀ (xs:List C)(blk off:Nat),RepK G blk off xs→RepK (cw G w b cells.length) blk off (fzCs (c8 h b) b ys xs)
 | [],_,_,_=>by simp[fzCs,RepK]
 |x::xs,blk,off,r=>by
  simp only[fzCs,RepK] at r ⊢
  obtain ⟨⟨u,h1,h2,h3⟩,h4⟩:=r
  exact ⟨⟨u,(md H _).K _ _ _ h1,h2,kB H hb hys x u h3⟩,fzC_repKY H hb hys xs blk (off+1) h4⟩
end
theorem qI (H:WorldOK G h w)(hb:h.at b=some cells){ys:List C}(hys:∀blk,G.μ b=some blk→RepK (cw G w b cells.length) blk 0 ys):∀ (l:List C)(es:List MapEntry),MRep G l es→MRep (cw G w b cells.length) (fzCs (c8 h b) b ys l) es
 | [],_,r=>by simpa[MRep,fzCs] using r
 | [_],_,r=>by simp[MRep] at r
 |k::v::l,es,r=>by
  simp only[MRep,fzCs] at r ⊢
  obtain ⟨e,es',h1,h2,h3,h4⟩:=r
  exact ⟨e,es',h1,kB H hb hys k _ h2,kB H hb hys v _ h3,qI H hb hys l es' h4⟩
theorem Ni (H:WorldOK G h w)(hb:h.at b=some cells){ys:List C}(hys:∀blk,G.μ b=some blk→RepK (cw G w b cells.length) blk 0 ys):WorldOK (cw G w b cells.length) (jn (c8 h b) b ys h) w:=by
 have hlen:=dS hb
 have hμ:∀ {j blk},(cw G w b cells.length).μ j=some blk→G.μ j=some blk∧j≠b∧G.μ b≠some blk:=fun {j blk} x=>by
  simp only[cw] at x
  split at x
  . cases x
  . rename_i hne
    refine ⟨x,fun e=>hne (.inl e),fun e=>hne (.inr ⟨blk,e,x⟩)⟩
 refine ⟨fun blk off u hk=>?_,fun j c' hj=>?_,fun j blk hm=>?_,fun j j' c c' blk hj hj' hm hm'=>?_,fun j blk hm=>?_,H.tlt,fun j c' off s m xs blk v hj hc hm hv=>?_,fun j z hz=>?_,fun j l hj=>?_,fun j j' l l' blk x x' y y'=>?_⟩
 . simp only[cw] at hk
   split at hk
   . exact hk
   . exact H.known blk off u hk
 . obtain ⟨hne,c0,h2,rfl⟩:=ib hb hj
   have hok:c8 h b j=true:=by simp[c8,h2,hne]
   rcases H.box j c0 h2 with ⟨hE,hE2⟩ | ⟨blk,cs,e,q1,q2,q3,q4,q5⟩
   . refine .inl ⟨by rw[hE];rfl,?_⟩
     simp only[cw]
     split
     . rfl
     . exact hE2
   . have hl: (fzCs (c8 h b) b ys c0).length=c0.length:=by rw[gR];simp
     exact .inr ⟨blk,cs,e,d7 H hb hok q1,q2,by rw[hl];exact q3,by rw[hl];exact fzC_repLY H hb hys _ _ q4,q5⟩
 . obtain ⟨h1,h2,h3⟩:=hμ hm
   obtain ⟨⟨c,hc⟩,hl⟩:=H.dom j blk h1
   refine ⟨⟨fzCs (c8 h b) b ys c,?_⟩,hl⟩
   unfold jn
   rw[List.getElem?_set,if_neg (Ne.symm h2),List.getElem?_map,hc];rfl
 . obtain ⟨h1,_,_⟩:=hμ hm
   obtain ⟨h1',_,_⟩:=hμ hm'
   obtain ⟨_,c0,g2,_⟩:=ib hb hj
   obtain ⟨_,c0',g2',_⟩:=ib hb hj'
   exact H.inj j j' _ _ blk g2 g2' h1 h1'
 . obtain ⟨h1,h2,h3⟩:=hμ hm
   obtain ⟨s1,s2⟩:=H.sep j blk h1
   refine ⟨fun o=>?_,s2⟩
   simp only[cw]
   rw[if_neg (fun x=>h3 x.1)]
   exact s1 o
 . obtain ⟨h1,_,_⟩:=hμ hm
   obtain ⟨_,c0,g2,rfl⟩:=ib hb hj
   rw[gR,List.getElem?_map] at hc
   cases hq:c0[off]? with
   |none=>rw[hq] at hc;cases hc
   |some y=>
    rw[hq] at hc
    simp only[Option.map_some,Option.some.injEq] at hc
    obtain ⟨zs,rfl⟩:=me hc
    exact (H.own j c0 off s m zs blk v g2 hq h1 hv).fz
 . simp only[cw] at hz ⊢
   split at hz
   . cases hz
   . rename_i hne
     obtain ⟨blk,cs,e,fr,q1,q2,q3⟩:=H.siz j z hz
     exact ⟨blk,cs,e,fr,by rw[if_neg hne];exact q1,q2,q3⟩
 . obtain ⟨n1,l0,n2,rfl⟩:=jP hlen hj
   obtain ⟨blk,es,clk,q1,q2,q3⟩:=H.mpo j l0 n2
   have hok:c8 h b j=true:=by simp[c8,n2,n1]
   exact ⟨blk,es,clk,d7 H hb hok q1,q2,qI H hb hys l0 _ q3⟩
 . obtain ⟨n1,l0,n2,rfl⟩:=jP hlen x
   obtain ⟨n1',l0',n2',rfl⟩:=jP hlen x'
   exact H.mpi j j' _ _ blk n2 n2' (hμ y).1 (hμ y').1
end
end Go.Sx
namespace Go.Sx
theorem LM {p:Prop}(h:p:=by (simp only[dz,cU,↓cV,cC,db,cE,dc,dg,and_true,true_and,sI,nD,lE,sG,sH,Option.map_some,Option.map_none,en,sF,nB,lz,pB,mf,lB,sz,sA,sB,pD,sD,lr,ls,lu,lw,lx,ly,pz,nz,↓reduceIte,Nat.reduceEqDiff,reduceCtorEq,Nat.reduceAdd,Nat.zero_add,Nat.one_ne_zero,Nat.zero_ne_one,sE,sM,lI,lJ,sN,lK,lL];all_goals (repeat' first|exact CLe.refl _|exact True.intro| (with_reducible refine And.intro ?_ ?_)))):p:=h
end Go.Sx
namespace Go.Sx
open Go.RowKit
def oy (f:Nat)(pre:List C):Nat→C
 |0=> .top
 |d+1=> .kp [.fn f (pre++[oy f pre d])]
theorem sT (ρ:List Nat)(x:C):∀l:List C,mvCs ρ (l++[x]) =mvCs ρ l++[aY ρ x]
 | [] =>by simp[mvCs]
 |y::l=>by simp only[List.cons_append,mvCs,sT ρ x l]
theorem yY (ρ:List Nat)(f:Nat)(pre:List C):∀d,aY ρ (oy f pre d) =oy f (mvCs ρ pre) d
 |0=>by simp only[oy,aY]
 |d+1=>by simp only[oy,aY,mvCs,sT,yY ρ f pre d]
theorem sU (ok:Nat→Bool)(b:Nat)(ys:List C)(x:C):∀l:List C,fzCs ok b ys (l++[x]) =fzCs ok b ys l++[aU ok b ys x]
 | [] =>by simp[fzCs]
 |y::l=>by simp only[List.cons_append,fzCs,sU ok b ys x l]
theorem yZ (ok:Nat→Bool)(b:Nat)(ys:List C)(f:Nat)(pre:List C):∀d,aU ok b ys (oy f pre d) =oy f (fzCs ok b ys pre) d
 |0=>by simp only[oy,aU]
 |d+1=>by simp only[oy,aU,fzCs,sU,yZ ok b ys f pre d]
section
variable (ok:Nat→Bool) (b:Nat) (ys:List C)
theorem J0 (b' o n:Nat):aU ok b ys (.sv b' o n) =if b'=b then (if o+n≤ys.length then .sl .no n ((ys.drop o).take n) else .top) else if ok b'=true then .sv b' o n else .top:=by simp only[aU]
theorem y0 (b' o:Nat):aU ok b ys (.bp b' o) =if b'=b then .kp (ys.drop o) else if ok b'=true then .bp b' o else .top:=by simp only[aU]
theorem J1 (b':Nat):aU ok b ys (.mp b') =if b'=b then .top else if ok b'=true then .mp b' else .top:=by simp only[aU]
theorem J2 (b' t n:Nat):aU ok b ys (.bt b' t n) =if b'=b then .top else if ok b'=true then .bt b' t n else .top:=by simp only[aU]
theorem J3 (b o n:Nat):cX ok (.sv b o n) =if ok b=true then .sv b o n else .top:=by simp only[cX]
theorem y4 (b n:Nat)(s:Nat×Nat):cX ok (.gv b n s) =if ok b=true then .gv b n s else .top:=by simp only[cX]
theorem J4 (b o:Nat):cX ok (.bp b o) =if ok b=true then .bp b o else .top:=by simp only[cX]
theorem J5 (b:Nat):cX ok (.mp b) =if ok b=true then .mp b else .top:=by simp only[cX]
theorem J6 (b t n:Nat):cX ok (.bt b t n) =if ok b=true then .bt b t n else .top:=by simp only[cX]
theorem J7 (xs:List C):cX ok (.kp xs) = .kp (scrs ok xs):=by simp only[cX]
theorem GD (xs:List C):cX ok (.agg xs) = .agg (scrs ok xs):=by simp only[cX]
theorem J8 (f:Nat)(xs:List C):cX ok (.fn f xs) = .fn f (scrs ok xs):=by simp only[cX]
theorem GE:cX ok .top= .top:=by simp only[cX]
theorem GF (v:Value):cX ok (.val v) = .val v:=by simp only[cX]
theorem Cj:scrs ok [] = []:=by simp only[scrs]
theorem y5 (x:C)(xs:List C):scrs ok (x::xs) =cX ok x::scrs ok xs:=by simp only[scrs]
theorem pH {α:Type}(f:α→List C)[h:Nrf f](l:List α):scrs ok (cl f l) =cl f l:=scrs_nr ok _ (aF f 0 l)
theorem J9 {α:Type}(f:α→List C)[h:Nrf f](a:α):scrs ok (f a) =f a:=scrs_nr ok _ (h.nr 0 a)
theorem N1 {α:Type}(f:α→List C){s:Nat}[h:Cel f s](a:α):List.map C.noR (f a) =f a:=h.clean a
theorem Ka {α:Type}(f:α→List C)[h:Nrf f](r:Rt)(l:List α):cX ok (sl f r l) =sl f r l:=by unfold sl;simp only[cX,pH]
theorem Kb (h:Hp):jn ok b ys h= (h.map fun o=>o.map (fzCs ok b ys)).set b (some cO):=rfl
theorem Kc (h:Hp)(cells:List C):fzY h b cells= (scrs (c8 h b) cells).map C.noR:=rfl
end
section
variable {cx:Cx} {Q:Ex→St→Prop} {e:List (Nat×C)} {h:Hp} {c:Code}
theorem ab (hcx:CxOK cx)(b:Nat)(cells:List C){e':List (Nat×C)}{h':Hp}(H:Tr cx 0 c ⟨A e',h'⟩ Q)
 (hb:h.at b=some cells:=by simp only[go_sem])
 (E:∀K:List (Nat×C)→Hp→Prop,K e' h'→K (iq (aU (c8 h b) b (fzY h b cells)) e) (jn (c8 h b) b (fzY h b cells) h):=by
   intro KZ hZ
   simp -implicitDefEqProofs only[go_sem,Kc,JS,Kb,sJ,lF,Gn,Gp,Gq,Gr,JN,JO,JR,J0,y0,J1,J2,lH,B8,yP,iJ,J3,y4,J4,J5,J6,J7,GD,J8,GE,GF,Ka,Cj,y5,pH,J9,N1,JQ,yZ,JT,Option.isSome_some,Option.isSome_none,Nat.reduceBNe,Bool.true_and,Bool.and_true,Bool.false_and,Bool.true_or,Bool.false_or,↓reduceIte,Nat.reduceEqDiff,reduceCtorEq,Nat.zero_ne_one,Nat.one_ne_zero]
   with_reducible exact hZ):Tr cx 0 c ⟨A e,h⟩ Q:=
 JL hcx b cells hb (Nat.zero_le _) (fun j hj=>absurd hj (Nat.not_lt_zero j)) (E (fun x y=>Tr cx 0 c ⟨A x,y⟩ Q) H)
end
end Go.Sx
namespace Go.Sx
open Go.RowKit
def OkH (h:Hp):Prop:= ∀o∈h,fx o=true
structure Small (P:Program) (gl:Nat→C) (f:Nat) (α:Type) where
 k:Nat
 j:Nat
 args:α→List C
 X:α→Hp
 r:α→C
 Y:α→Hp
 k0:0< k
 hk:∀a,(X a).length=k
 hy:∀a,(Y a).length=k
 al:∀a,∀o∈X a,((aQ o).isSome|| (eu o).isSome) =true
 nr:∀a,noRefs k (args a) =true
 nx:∀a,i8 k (X a) =true
 at0:∀a,∃o,(args a)[j]? =some (.bp 0 o)
 inj:∀a b,args a=args b→X a=X b→r a=r b∧Y a=Y b
 fc:∀a,FC P gl f (args a) (X a) (r a) (Y a)
section
variable {P:Program} {gl:Nat→C} {f:Nat} {α:Type}
inductive SmD (α:Type) where
 |n (a:α) (pre suf:Hp) (h1:OkH pre) (h2:OkH suf)
 |e (xs:List C) (h:∃b o,C.bp b o∈xs)
end
theorem OkH.nil:OkH []:=fun o h=>by cases h
theorem OkH.cons {o:Option (List C)}{h:Hp}(h1:fx o=true)(h2:OkH h):OkH (o::h):=fun p hp=>by
 rcases List.mem_cons.1 hp with rfl|hp
 . exact h1
 . exact h2 p hp
mutual
theorem N2 (r:Nat→Nat):∀c:C,ag 0 c=true→bU r c=c
 | .val _,_=>by simp only[bU]
 | .top,_=>by simp only[bU]
 | .agg xs,h=>by simp only[ag] at h;simp only[bU,bks_nr r xs h]
 | .tup xs,h=>by simp only[ag] at h;simp only[bU,bks_nr r xs h]
 | .kp xs,h=>by simp only[ag] at h;simp only[bU,bks_nr r xs h]
 | .sl _ _ xs,h=>by simp only[ag] at h;simp only[bU,bks_nr r xs h]
 | .fn _ xs,h=>by simp only[ag] at h;simp only[bU,bks_nr r xs h]
 | .sv _ _ _,h=>by simp[ag] at h
 | .gv _ _ _,h=>by simp[ag] at h
 | .bp _ _,h=>by simp[ag] at h
 | .bt _ _ _,h=>by simp[ag] at h
 | .mp _,h=>by simp[ag] at h
theorem bks_nr (r:Nat→Nat):∀l:List C,noRefs 0 l=true→bkCs r l=l
 | [],_=>by simp only[bkCs]
 |x::xs,h=>by simp only[noRefs,Bool.and_eq_true] at h;simp only[bkCs,N2 r x h.1,bks_nr r xs h.2]
end
theorem sV (r:Nat→Nat){α:Type}(f:α→List C)[h:Nrf f](l:List α):bkCs r (cl f l) =cl f l:=bks_nr r _ (aF f 0 l)
end Go.Sx
namespace Go.Sx
open Go.RowKit
section
variable {cx:Cx} {Q:Ex→St→Prop} {e:List (Nat×C)} {h:Hp} {c:Code}
theorem ah (hcx:CxOK cx)(ρ:List Nat){e':List (Nat×C)}{h':Hp}(H:Tr cx 0 c ⟨A e',h'⟩ Q)
 (hρ:px 0 ρ:=by exact ⟨by decide,by decide,fun j hj=>absurd hj (Nat.not_lt_zero j)⟩)
 (E:∀K:List (Nat×C)→Hp→Prop,K e' h'→K (iq (aY ρ) e) (gE ρ h):=by
   intro KZ hZ
   simp -implicitDefEqProofs only[sJ,lF,yY,sI,nD,lE,sG,sH,Option.map_some,Option.map_none,en,sF,nB,lz,pB,mf,lB,sz,sA,sB,pD,sD,lr,ls,lu,lw,lx,ly,pz,nz,↓reduceIte,Nat.reduceEqDiff,reduceCtorEq,Nat.reduceAdd,Nat.zero_add,Nat.one_ne_zero,Nat.zero_ne_one,sE,sM,lI,lJ,sN,lK,lL]
   with_reducible exact hZ):Tr cx 0 c ⟨A e,h⟩ Q:=
 JM hcx ρ hρ (E (fun x y=>Tr cx 0 c ⟨A x,y⟩ Q) H)
end
end Go.Sx
namespace Go.Sx
open Go.RowKit
end Go.Sx
namespace Go.Sx
open Go.RowKit
structure Rdy (l:Nat) (rec:LoopState→Option Code→Loop) (G:Gh) (w:World) (s:LoopState) (p:Option Code):Prop where
 obj:w.heap[l]? =some (.loop (rec s p))
 T:G.T l=none
 μ:∀b,G.μ b≠some l
theorem Rdy.frmN {n l:Nat}{rec:LoopState→Option Code→Loop}{G G':Gh}{w w':World}{s:LoopState}{p:Option Code}(h:Rdy l rec G w s p)(F:FrmN n G w G' w'):Rdy l rec G' w' s p:=by
 obtain ⟨a1,a2,a3,_⟩:=F.old l (Array.getElem?_eq_some_iff.1 h.obj).1 h.T h.μ
 exact ⟨a1.trans h.obj,a2,a3⟩
theorem Rdy.same {l:Nat}{rec:LoopState→Option Code→Loop}{G G':Gh}{w:World}{s:LoopState}{p:Option Code}(h:Rdy l rec G w s p)(hT:∀g,G.T g=none→G'.T g=none)(hμ:∀g,(∀b,G.μ b≠some g)→∀b,G'.μ b≠some g):Rdy l rec G' w s p:=⟨h.obj,hT _ h.T,hμ _ h.μ⟩
structure FrmX (l n:Nat) (G₀:Gh) (w₀:World) (G:Gh) (w:World):Prop where
 os:w.os=w₀.os
 tape:w.tape=w₀.tape
 output:w.output=w₀.output
 size:w₀.heap.size≤w.heap.size
 K:∀b o u,G₀.K b o=some u→G.K b o=some u
 μ:∀b k,b< n→G₀.μ b=some k→G.μ b=some k
 σ:∀b k,b< n→G₀.σ b=some k→G.σ b=some k
 old:∀g,g≠l→g< w₀.heap.size→G₀.T g=none→(∀b,G₀.μ b≠some g)→
  w.heap[g]? =w₀.heap[g]? ∧G.T g=none∧(∀b,G.μ b≠some g)∧∀o,G.K g o=G₀.K g o
theorem FrmX.of {l n:Nat}{A B:Gh}{a b:World}(h:FrmN n A a B b):FrmX l n A a B b:=⟨h.os,h.tape,h.output,h.size,h.K,h.μ,h.σ,fun g _=>h.old g⟩
theorem FrmX.trans {l n:Nat}{A B D:Gh}{a b d:World}(h:FrmX l n A a B b)(k:FrmX l n B b D d):FrmX l n A a D d:=
 ⟨k.os.trans h.os,k.tape.trans h.tape,k.output.trans h.output,Nat.le_trans h.size k.size,fun b o u x=>k.K b o u (h.K b o u x),fun b o hb x=>k.μ b o hb (h.μ b o hb x),fun b o hb x=>k.σ b o hb (h.σ b o hb x),fun g hl hg ht hm=>by
   obtain ⟨a1,a2,a3,a4⟩:=h.old g hl hg ht hm
   obtain ⟨b1,b2,b3,b4⟩:=k.old g hl (Nat.lt_of_lt_of_le hg h.size) a2 a3
   exact ⟨b1.trans a1,b2,b3,fun o=>(b4 o).trans (a4 o)⟩⟩
abbrev Ys:=List C→Hp→(Option Code→Hp→Prop)→Prop
def gG (o:Option Code):LoopState:=if o.isNone then .ready else .done
structure Gle (n:Nat) (G₀ G:Gh):Prop where
 K:∀b o u,G₀.K b o=some u→G.K b o=some u
 μ:∀b k,G₀.μ b=some k→b< n∧G.μ b=some k
 σ:∀b k,G₀.σ b=some k→b< n∧G.σ b=some k
theorem Gle.le {n:Nat}{A B:Gh}(h:Gle n A B):A.Le B:=⟨h.K,fun b k x=>(h.μ b k x).2,fun b k x=>(h.σ b k x).2⟩
theorem Gle.frm {n:Nat}{A B D:Gh}{b d:World}(h:Gle n A B)(F:FrmN n B b D d):Gle n A D:=
 ⟨fun b o u x=>F.K b o u (h.K b o u x),fun b k x=>⟨(h.μ b k x).1,F.μ b k (h.μ b k x).1 (h.μ b k x).2⟩,fun b k x=>⟨(h.σ b k x).1,F.σ b k (h.σ b k x).1 (h.σ b k x).2⟩⟩
def qJ (P:Program)(gl:Nat→C)(l:Nat)(rec:LoopState→Option Code→Loop)(G₀:Gh)(Y:Ys):Prop:=
 ∀az h post,Y az h post→∀ (G:Gh)(w:World)(vs:Array Value),G₀.Le G→WorldOK G h w→(∀g p,G.T g=some p→p.1=1)→(∀g,Rep G (gl g) (.pointer (some ⟨g,0,none⟩)))→Rdy l rec G w .ready none→RepL G az vs.toList→
  ∃fn tmps assign body,(Instr.yield l vs).run P w= .ok (.round l fn tmps assign body) w∧RoundIn Fence.wide 0 P l fn tmps assign body w fun e w'=>
   ∃o G' h',e= .returned (.bool o.isNone)∧post o h'∧WorldOK G' h' w'∧Frm G (w.putObj l (.loop (rec (gG o) o))) G' w'
def TrY (l:Nat)(rec:LoopState→Option Code→Loop)(G₀:Gh)(cx:Cx)(n:Nat)(c:Code)(st:St)(Q:Option Code→Ex→St→Prop):Prop:=
 ∀ (G:Gh)(w:World)(a:Act),Gle n G₀ G→Sim cx G w st a→Rdy l rec G w .ready none→∀ (R:Exit→Act→World→Prop),
   (∀o x st' G' w' a',Q o x st'→Sim cx G' w' st' a'→FrmX l n G w G' w'→(o=none→FrmN n G w G' w')→DefN w a a'→Rdy l rec G' w' (gG o) o→R (g8 x) a' w')→c.wpIn Fence.wide 0 cx.P R a w
section
variable {l:Nat} {rec:LoopState→Option Code→Loop} {G₀:Gh} {cx:Cx} {n:Nat} {st:St} {Q:Option Code→Ex→St→Prop}
theorem DefN.trans {w w':World}{a b d:Act}(h:DefN w a b)(k:DefN w' b d)(hs:w.heap.size≤w'.heap.size):DefN w a d:=by
 obtain ⟨ds,e,h1⟩:=h
 obtain ⟨es,e2,h2⟩:=k
 refine ⟨es++ds,by rw[e2,e,List.append_assoc],fun q hq D hD=>?_⟩
 rcases List.mem_append.1 hq with hq|hq
 . exact Nat.le_trans hs (h2 q hq D hD)
 . exact h1 q hq D hD
theorem DefN.refl (w:World)(a b:Act)(e:b.defers=a.defers):DefN w a b:=⟨[],by rw[e];rfl,fun _ h=>by cases h⟩
theorem fh {c:Code}{Q1:Ex→St→Prop}(H:Tr cx n c st Q1)(hQ:∀x s,Q1 x s→Q none x s):TrY l rec G₀ cx n c st Q:=fun G w a Le S D R hR=>
 H none (fun _=>rfl) G w a S R fun x s G' w' a' q S' F=>hR none x s G' w' a' (hQ x s q) S' (.of F.fr) (fun _=>F.fr) F.df (D.frmN F.fr)
theorem TrY.mono {c:Code}{Q':Option Code→Ex→St→Prop}(h:TrY l rec G₀ cx n c st Q)(hq:∀o x s,Q o x s→Q' o x s):TrY l rec G₀ cx n c st Q':=
 fun G w a Le H D R hR=>h G w a Le H D R fun o x s G' w' a' q=>hR o x s G' w' a' (hq o x s q)
theorem Ck {c:Code}{o:Option Code}(H:Tr cx n c st fun x s=>Q o x s){G0 G:Gh}{w0 w:World}{a0 a:Act}(S:Sim cx G w st a)(F0:FrmX l n G0 w0 G w)(D0:DefN w0 a0 a)(D:Rdy l rec G w (gG o) o)(ho:o≠none){R:Exit→Act→World→Prop}
 (hR:∀o x st' G' w' a',Q o x st'→Sim cx G' w' st' a'→FrmX l n G0 w0 G' w'→(o=none→FrmN n G0 w0 G' w')→DefN w0 a0 a'→Rdy l rec G' w' (gG o) o→R (g8 x) a' w'):c.wpIn Fence.wide 0 cx.P R a w:=
 H none (fun _=>rfl) G w a S R fun x s G' w' a' q S' F=>hR o x s G' w' a' q S' (F0.trans (.of F.fr)) (fun e=>absurd e ho) (D0.trans F.df F0.size) (D.frmN F.fr)
def DJ (K:Option Code→St→Prop)(Q:Option Code→Ex→St→Prop):Option Code→Ex→St→Prop
 |o,.normal,s=>K o s
 |o,x,s=>Q o x s
theorem TrY.seq {x y:Code}(h:TrY l rec G₀ cx n x st (DJ (fun o s=>(o=none→TrY l rec G₀ cx n y s Q)∧(o≠none→Tr cx n y s fun x s=>Q o x s)) Q)):TrY l rec G₀ cx n (.seq x y) st Q:=fun G w ac Le H D R hR=>
 wpIn_seq (h G w ac Le H D _ fun o x s G' w' a' q S F F1 Df D'=>by
  cases x with
  |normal=>
   cases o with
   |none=>exact q.1 rfl G' w' a' (Le.frm (F1 rfl)) S D' R fun o2 x2 s2 G2 w2 a2 q2 S2 F2 F3 Df2 D2=>hR o2 x2 s2 G2 w2 a2 q2 S2 (F.trans F2) (fun e=>(F1 rfl).trans (F3 e)) (Df.trans Df2 F.size) D2
   |some j=>exact Ck (q.2 (by simp)) S F Df D' (by simp) hR
  |exit id=>exact hR o (.exit id) s G' w' a' q S F F1 Df D'
  |ret=>exact hR o .ret s G' w' a' q S F F1 Df D')
theorem TrY.cond {c:Operand}{x y:Code}{b:Bool}(hc:cx.ev st.env c= .val (.bool b))(h:TrY l rec G₀ cx n (if b then x else y) st Q):TrY l rec G₀ cx n (.cond c x y) st Q:=fun G w a Le H D R hR=>by
 have hv:=H.pre.ev c
 rw[hc,am] at hv
 refine wpIn_cond (t:=b) hv ?_
 cases b
 . exact h G w a Le H D R hR
 . exact h G w a Le H D R hR
def y6 (id:Nat)(Q:Option Code→Ex→St→Prop):Option Code→Ex→St→Prop
 |o,.exit k,s=>if k=id then Q o .normal s else Q o (.exit k) s
 |o,x,s=>Q o x s
theorem TrY.block {id:Nat}{c:Code}(h:TrY l rec G₀ cx n c st (y6 id Q)):TrY l rec G₀ cx n (.block id c) st Q:=fun G w a Le H D R hR=>
 wpIn_block (h G w a Le H D _ fun o x s G' w' a' q S F F1 Df D'=>by
  cases x with
  |normal=>exact hR o .normal s G' w' a' q S F F1 Df D'
  |ret=>exact hR o .ret s G' w' a' q S F F1 Df D'
  |exit k=>
   simp only[g8,Exit.inBlock,y6] at q ⊢
   split at q
   . rename_i e;rw[if_pos e];exact hR o .normal s G' w' a' q S F F1 Df D'
   . rename_i e;rw[if_neg e];exact hR o (.exit k) s G' w' a' q S F F1 Df D')
theorem TrY.loop {c:Code}(Inv:Nat→St→Prop)(m:Nat)(h0:Inv m st)(h:∀m s,Inv m s→TrY l rec G₀ cx n c s (DJ (fun o s'=>o=none∧∃k,k< m∧Inv k s') Q)):TrY l rec G₀ cx n (.loop c) st Q:=fun G w a Le H D R hR=>by
 refine jj (fun m a' w'=> ∃s G',Inv m s∧Sim cx G' w' s a'∧FrmN n G w G' w'∧DefN w a a'∧Rdy l rec G' w' .ready none) m ⟨st,G,h0,H,.refl n G w,.refl w a a rfl,D⟩ ?_
 rintro m a' w' ⟨s,G',hi,S,F,Df,D'⟩
 refine h m s hi G' w' a' (Le.frm F) S D' _ fun o x s2 G2 w2 a2 q S2 F2 F3 Df2 D2=>?_
 cases x with
 |normal=>
  obtain ⟨rfl,k,hk,hik⟩:=q
  exact ⟨k,hk,s2,G2,hik,S2,F.trans (F3 rfl),Df.trans Df2 F.size,D2⟩
 |exit id=>exact hR o (.exit id) s2 G2 w2 a2 q S2 (FrmX.trans (.of F) F2) (fun e=>F.trans (F3 e)) (Df.trans Df2 F.size) D2
 |ret=>exact hR o .ret s2 G2 w2 a2 q S2 (FrmX.trans (.of F) F2) (fun e=>F.trans (F3 e)) (Df.trans Df2 F.size) D2
theorem TrY.weaken {c:Code}{env':Nat→C}(h:∀t,CLe (st.env t) (env' t))(k:TrY l rec G₀ cx n c ⟨env',st.h⟩ Q):TrY l rec G₀ cx n c st Q:=fun G w a Le H D R hR=>
 k G w a Le ⟨H.defers,H.size,H.pre.ok,⟨fun t=>(h t).1 G _ (H.pre.env.1 t),fun t s m xs e=>by
   rcases (h t).2 s m xs e with e'|e'
   . exact H.pre.env.2 t s m xs (e'.trans e)
   . obtain ⟨ad,hv⟩:=e' G _ (H.pre.env.1 t)
     rw[hv];exact .inl ⟨ad,rfl⟩⟩,H.pre.glob⟩ D R hR
theorem Cl {Y:Ys}(hY:qJ cx.P cx.gl l rec G₀ Y){ops:Array Oper}{k d y:Nat}{args:Array Operand}{ts:Array TypeId}{ty:TypeId}{pos:String}{aft:Array Edge}
 (ho:ops[k]? =some ⟨some d,.call { callee:= .value (.tmp y),args,argTypes:=ts },ty,pos,aft,none⟩) (hd:d< cx.N) {G:Gh} {w:World} {a:Act} (Le:Gle n G₀ G) (H:Sim cx G w st a) (D:Rdy l rec G w .ready none)
 (hy:st.env y= .val (.func (.yield l) #[] #[])) {post:Option Code→Hp→Prop} (hp:Y ((args.toList.map (cx.evn st.env)).map C.share) st.h post) {K:Act→World→Prop} {Q:Exit→Act→World→Prop}
 (hK:∀o h' G' w' a',post o h'→Sim cx G' w' ⟨put (some d) (.val (.bool o.isNone)) st.env,h'⟩ a'→FrmX l n G w G' w'→(o=none→FrmN n G w G' w')→a'.defers=a.defers→Rdy l rec G' w' (gG o) o→K a' w'):
 wpOpIn Fence.wide 0 cx.P ops Q k K a w:=by
 have hv:=H.pre.ev (.tmp y)
 rw[eX,hy,am] at hv
 have hargs:RepL (eg G) ((args.toList.map (cx.evn st.env)).map C.share) (args.map a.eval).toList:=by
  simp only[Array.toList_map]
  refine RepL.of_get (by simp) fun i x v hxx hv=>?_
  simp only[List.map_map,List.getElem?_map] at hxx hv
  cases hq:args.toList[i]? with
  |none=>rw[hq] at hxx;cases hxx
  |some q=>
   rw[hq] at hxx hv
   cases hxx;cases hv
   exact (ln (H.pre.evn q)).mono eT
 obtain ⟨fn,tmps,assign,body,hrun,hR⟩:=hY _ _ _ hp (eg G) w (args.map a.eval) (Le.le.trans eT) (pd H.pre.ok) (fun g p hg=>by
  simp only[eg] at hg
  cases hq:G.T g with
  |none=>rw[hq] at hg;cases hg
  |some q=>
   rw[hq] at hg
   simp only[] at hg
   split at hg
   . cases hg;assumption
   . cases hg) (fun g=>(H.pre.glob g).mono eT) (D.same (fun _ h=>fB h) (fun _ h=>h)) hargs
 unfold wpOpIn
 rw[ho]
 simp only[Region.wanted,if_true]
 refine ⟨fun _ _=>trivial,?_⟩
 have hex: (execOp a.eval ⟨some d,.call { callee:= .value (.tmp y),args,argTypes:=ts },ty,pos,aft,none⟩).run cx.P w= .ok (.round l fn tmps assign body) w:=by
  simp[execOp,resolve,hv,Deferred.ofValue,invoke,Sem.run_bind,hrun]
 rw[ku (fun d e=>by cases e) hex]
 simp only[Oper.uponIn]
 refine ⟨(fun h=>by cases h),hR.mono ?_⟩
 rintro e w' ⟨o,G',h',rfl,hpost,W',F⟩
 obtain ⟨w1,hw1⟩:∃w1,w.putObj l (.loop (rec (gG o) o)) =w1:=⟨_,rfl⟩
 rw[hw1] at F
 have hlt:l< w.heap.size:=(Array.getElem?_eq_some_iff.1 D.obj).1
 have hl1:w1.heap[l]? =some (.loop (rec (gG o) o)):=by rw[←hw1];exact World.putObj_heap_same hlt
 have hoth:∀g,g≠l→w1.heap[g]? =w.heap[g]? :=fun g hg=>by rw[←hw1];exact World.putObj_heap_other hg
 have Sh:Shut 0 G w w1:=⟨by rw[←hw1];rfl,by rw[←hw1];rfl,by rw[←hw1];rfl,by rw[←hw1];simp,fun g=>by
  by_cases hg:g=l
  . subst hg;exact .inr ⟨Nat.zero_le _,⟨_,D.obj,.inr ⟨_,rfl⟩⟩,D.T,D.μ⟩
  . exact .inl (hoth g hg)⟩
 have H1:Sim cx G w1 st a:=⟨⟨H.defers.1,fun d hd=>by
  obtain ⟨E,e1,e2,e3⟩:=H.defers.2 d hd
  refine ⟨E,e1,(hoth E fun q=>?_).trans e2,e3⟩
  rw[q,D.obj] at e2;cases e2⟩,H.size,Sh.ok H.pre.ok,⟨H.pre.env.1,fun t s n xs e=>Sh.row (H.pre.env.2 t s n xs e)⟩,H.pre.glob⟩
 have D1:Rdy l rec G w1 (gG o) o:=⟨hl1,D.T,D.μ⟩
 have O:=m9 (c:= .val (.bool o.isNone)) (v:= .bool o.isNone) H1.pre (0,d,0) W' F (am.2 rfl) (fun s n xs e=>by cases e)
 refine hK o h' _ w' _ hpost (H1.put (dst:=some d) (fun q e=>by cases e;exact hd) O) ?_ (fun e=>?_) (kg _ _ _) (D1.frmN (n:=0) (.of O.frm))
 . have F2:=O.frm
   exact ⟨F2.os.trans Sh.os,F2.tape.trans Sh.tape,F2.output.trans Sh.output,by have:=F2.size;rw[Sh.size] at this;exact this,F2.le.K,fun b k _ x=>F2.le.μ b k x,fun b k _ x=>F2.le.σ b k x,fun g hg hs ht hm=>by
    obtain ⟨a1,a2⟩:=F2.old g (by rw[Sh.size];exact hs) ht hm
    exact ⟨a1.trans (hoth g hg),a2⟩⟩
 . have:w1=w:=by
    subst e
    rw[←hw1]
    have: (w.heap.setIfInBounds l (.loop (rec .ready none))) =w.heap:=by
     apply Array.ext_getElem?
     intro i
     by_cases hi:i=l
     . subst hi;rw[D.obj];simp[hlt]
     . exact Array.getElem?_setIfInBounds_ne (Ne.symm hi)
    show ({ w with heap:=w.heap.setIfInBounds l (.loop (rec .ready none)) }:World) =w
    rw[this]
   have O2:=O.frm
   rw[this] at O2 ⊢
   exact .of O2
theorem lN (hcx:CxOK cx){F:Option Nat}{ops:Array Oper}{base:Nat}{Q:Exit→Act→World→Prop}{l2:List Nat}:∀ (l1:List Nat){G:Gh}{w:World}{st:St}{a:Act}{st':St},Sim cx G w st a→fq cx ops base l1 st=some st'→
 (∀G' w' a',Sim cx G' w' st' a'→Frm G w G' w'→a'.defers=a.defers→wpOpsIn (wF F) 0 cx.P ops Q l2 a' w')→wpOpsIn (wF F) 0 cx.P ops Q (l1++l2) a w
 | [],G,w,st,a,st',H,h,hQ=>by
   simp only[fq,Option.some.injEq] at h
   subst h
   exact hQ G w a H (Frm.refl G w) rfl
 |i::l,G,w,st,a,st',H,h,hQ=>by
  simp only[fq] at h
  cases hs:step cx ops base i st with
  |none=>rw[hs] at h;cases h
  |some st1=>
   rw[hs] at h
   rw[List.cons_append,wpOpsIn_cons]
   exact pf hcx H hs fun G' w' a' S F e=>lN hcx l S h fun G2 w2 a2 S2 F2 e2=>hQ G2 w2 a2 S2 (F.trans F2) (e2.trans e)
theorem jx {ops:Array Oper}{base:Nat}{K:St→Prop}(h0:∀k,dw ops k=0):∀ (l:List Oper)(k:Nat)(st:St),(∀i,i< l.length→ops[k+i]? =l[i]?)→
 gz cx (ops.toList.filterMap cu) (ops.toList.map (·.dst)) l base st K→∃st',fq cx ops base (List.range' k l.length) st=some st'∧K st'
 | [],k,st,_,h=>⟨st,rfl,h⟩
 |o::l,k,st,hl,h=>by
  have hk:ops[k]? =some o:=by have:=hl 0 (by simp);simpa using this
  have hl':∀i,i< l.length→ops[k+1+i]? =l[i]? :=fun i hi=>by
   have:=hl (i+1) (by simp;omega)
   rw[show k+1+i=k+(i+1) from by omega]
   simpa using this
  simp only[gz] at h
  obtain ⟨hd,h⟩:=h
  rw[kl,lc] at h
  have hid: (if da o then base+1 else base) =base:=by
   have:=nh ops k o hk
   rw[h0,h0] at this
   split at this
   . omega
   . rename_i q;rw[if_neg q]
  rw[hid] at h
  simp only[List.length_cons,List.range'_succ,fq]
  have next:∀s,gz cx (ops.toList.filterMap cu) (ops.toList.map (·.dst)) l base s K→step cx ops base k st=some s→∃st',(step cx ops base k st).bind (fq cx ops base (List.range' (k+1) l.length)) =some st'∧K st':=fun s hs hst=>by
   obtain ⟨st',h1,h2⟩:=jx h0 l (k+1) s hl' hs
   exact ⟨st',by rw[hst];exact h1,h2⟩
  cases hw:dP ops o st.env with
  |none=>rw[hw] at h;exact h.elim
  |some b=>
   rw[hw] at h
   cases b with
   |false=>
    refine next _ h ?_
    unfold step
    rw[hk]
    simp only[hd,if_true,hw]
   |true=>
    simp only[vk] at h
    cases hp:splan cx ops o st.env with
    |none=>rw[hp] at h;exact h.elim
    |some p=>
     rw[hp] at h
     simp only[] at h
     cases ha:aB cx base p st.h with
     |none=>rw[ha] at h;exact h.elim
     |some r=>
      rw[ha] at h
      refine next _ h ?_
      unfold step
      rw[hk]
      simp only[hd,if_true,hw,hp,bQ,h0,Nat.add_zero,ha,Option.map_some]
theorem TrY.rg (hcx:CxOK cx){Y:Ys}(hY:qJ cx.P cx.gl l rec G₀ Y){id:Nat}(L1 L2:List Oper){d y:Nat}{args:Array Operand}{ts:Array TypeId}{ty:TypeId}{pos:String}{aft:Array Edge}{e:List (Nat×C)}{h:Hp}{L:List Oper}
 (hL:L=L1++⟨some d,.call { callee:= .value (.tmp y),args,argTypes:=ts },ty,pos,aft,none⟩::L2) (hd:d< cx.N) (hm:L.countP da=0) (apps:List Nat) (dsts:List (Option Nat)) (h1:L.filterMap cu=apps) (h2:L.map (·.dst) =dsts)
 (H:run cx apps dsts L1 h.length e h [] (fun _ s=>s.env y= .val (.func (.yield l) #[] #[])∧Y ((args.toList.map (cx.evn s.env)).map C.share) s.h fun o h'=>gz cx apps dsts L2 h.length ⟨put (some d) (.val (.bool o.isNone)) s.env,h'⟩ (Q o .normal))):
 TrY l rec G₀ cx n (.region id L.toArray false) ⟨A e,h⟩ Q:=by
 intro G w a Le S D R hR
 have hc:∀k,dw L.toArray k=0:=fun k=>by
  unfold dw
  have: (L.take k).countP da≤L.countP da:=(List.take_sublist k L).countP_le
  simp only[]
  omega
 have hr:=f7 _ _ _ _ H
 have e1:L.toArray.toList.filterMap cu=apps:=by simpa using h1
 have e2:L.toArray.toList.map (·.dst) =dsts:=by simpa using h2
 rw[←e1,←e2] at hr
 obtain ⟨s1,q1,q2,q3⟩:=jx hc L1 0 _ (fun i hi=>by simp[hL,List.getElem?_append_left hi]) hr
 have hy:L.toArray[L1.length]? =some ⟨some d,.call { callee:= .value (.tmp y),args,argTypes:=ts },ty,pos,aft,none⟩:=by simp[hL]
 refine wpIn_region (F:=wF none) ?_
 have hlen:L.toArray.size=L1.length+(1+L2.length):=by simp[hL];omega
 rw[hlen,List.range_eq_range',←List.range'_append_1]
 refine lN hcx _ S q1 fun G1 w1 a1 S1 F1 f1=>?_
 rw[Nat.zero_add,Nat.add_comm 1,List.range'_succ,wpOpsIn_cons]
 refine Cl (n:=n) hY hy hd (Le.frm (.of F1)) S1 (D.frmN (n:=0) (.of F1)) q2 q3 fun o h' G2 w2 a2 p2 S2 F2 F3 f2 D2=>?_
 obtain ⟨s2,r1,r2⟩:=jx hc L2 (L1.length+1) _ (fun i hi=>by simp only[List.getElem?_toArray];rw[hL,List.getElem?_append_right (by omega),show L1.length+1+i - L1.length=i+1 from by omega,List.getElem?_cons_succ]) p2
 have key:=lN (F:=none) (Q:=R) (l2:=[]) hcx (List.range' (L1.length+1) L2.length) S2 r1 fun G3 w3 a3 S3 F4 f3=>by
  have F5:FrmN n G2 w2 G3 w3:= .of F4
  exact hR o .normal s2 G3 w3 a3 r2 S3 ((FrmX.of (FrmN.of F1)).trans (F2.trans (.of F5))) (fun e=>(FrmN.of F1).trans ((F3 e).trans F5)) (DefN.refl _ _ _ (f3.trans (f2.trans f1))) (D2.frmN F5)
 rwa [List.append_nil] at key
end
end Go.Sx
namespace Go.Sx
open Go.RowKit
theorem sX {G:Gh}{h:Hp}{w:World}(W:WorldOK G h w){l:Nat}{r:Loop}(hl:w.heap[l]? =some (.loop r))(o:Nat):G.K l o=none:=by
 cases hk:G.K l o with
 |none=>rfl
 |some u=>
  have:=W.known l o u hk
  unfold World.cell? at this
  rw[hl] at this
  cases this
theorem FrmX.put {l n:Nat}{G:Gh}{w:World}(ob:Obj):FrmX l n G w G (w.putObj l ob):=
 ⟨rfl,rfl,rfl,by simp,fun _ _ _ x=>x,fun _ _ _ x=>x,fun _ _ _ x=>x,fun g hg _ ht hm=>⟨World.putObj_heap_other hg,ht,hm,fun _=>rfl⟩⟩
theorem FrmX.toFrm {l n:Nat}{G G':Gh}{w w':World}{h h':Hp}{r r0:Loop}(F:FrmX l n G w G' w')(hn:∀b k,G.μ b=some k→b< n)(W:WorldOK G h w)(W':WorldOK G' h' w')(h0:w.heap[l]? =some (.loop r0))(hl:w'.heap[l]? =some (.loop r))(hT:G'.T l=none)(hμ:∀b,G'.μ b≠some l):
 Frm G (w.putObj l (.loop r)) G' w':=
 ⟨F.os,F.tape,F.output,by rw[World.putObj_size];exact F.size,⟨F.K,fun b k x=>F.μ b k (hn b k x) x,fun b z x=>F.σ b z (by
   obtain ⟨k,_,_,_,hm,_⟩:=W.siz b z x
   exact hn b k hm) x⟩,fun g hg ht hm=>by
   rw[World.putObj_size] at hg
   by_cases e:g=l
   . subst e
     exact ⟨by rw[World.putObj_heap_same hg];exact hl,hT,hμ,fun o=>by rw[sX W h0,sX W' hl]⟩
   . obtain ⟨a1,a2⟩:=F.old g e hg ht hm
     exact ⟨by rw[World.putObj_heap_other e];exact a1,a2⟩⟩
theorem Shut.put {G:Gh}{w:World}{l:Nat}{ob0 ob:Obj}(h0:w.heap[l]? =some ob0)(hb:Bk ob0)(hT:G.T l=none)(hμ:∀b,G.μ b≠some l):Shut 0 G w (w.putObj l ob):=
 ⟨rfl,rfl,rfl,by simp,fun g=>by
   by_cases e:g=l
   . subst e;exact .inr ⟨Nat.zero_le _,⟨_,h0,hb⟩,hT,hμ⟩
   . exact .inl (World.putObj_heap_other e)⟩
theorem Sim.putL {cx:Cx}{G:Gh}{w:World}{st:St}{a:Act}{l:Nat}{r:Loop}{ob:Obj}(H:Sim cx G w st a)(h0:w.heap[l]? =some (.loop r))(hT:G.T l=none)(hμ:∀b,G.μ b≠some l):Sim cx G (w.putObj l ob) st a:=by
 have S:=Shut.put (ob:=ob) h0 (.inr ⟨r,rfl⟩) hT hμ
 exact ⟨⟨H.defers.1,fun d hd=>by
  obtain ⟨E,e1,e2,e3⟩:=H.defers.2 d hd
  refine ⟨E,e1,(World.putObj_heap_other fun q=>?_).trans e2,e3⟩
  rw[q,h0] at e2;cases e2⟩,H.size,S.ok H.pre.ok,⟨H.pre.env.1,fun t s n xs e=>S.row (H.pre.env.2 t s n xs e)⟩,H.pre.glob⟩
def gU (IN:Hp→Prop)(B:Code→Hp→Prop):Option Code→Hp→Prop
 |none,h=>IN h
 |some j,h=>B j h
def ItrI (P:Program)(gl:Nat→C)(f:Nat)(caps:List C)(N:Nat)(xs:Nat→List C)(I:Nat→Hp→Prop):Prop:=
 t4 P f∧∀ (l:Nat)(rec:LoopState→Option Code→Loop)(B:Code→Hp→Prop)(h:Hp)(G:Gh)(w:World)(vs:Array Value)(Y:Ys),qJ P gl l rec G Y→
  (∀i h post,i< N→I i h→(∀o k,gU (I (i+1)) B o k→post o k)→Y (xs i) h post)→I 0 h→WorldOK G h w→(∀g p,G.T g=some p→p.1=1)→(∀g,Rep G (gl g) (.pointer (some ⟨g,0,none⟩)))→Rdy l rec G w .ready none→RepL G caps vs.toList→
  CallsIn Fence.wide 0 P f (#[.func (.yield l) #[] #[]]++vs) w fun e w'=> ∃v o G' h',e= .returned v∧gU (I N) B o h'∧WorldOK G' h' w'∧Frm G (w.putObj l (.loop (rec (gG o) o))) G' w'
def DK (p:Option Code→Hp→Prop):Option Code→Ex→St→Prop
 |_,.exit _,_=>False
 |o,_,st=>p o st.h
theorem ItrI.of {cx:Cx} {f:Nat} {fn:Func} {code:Code} {caps:List C} {N:Nat} {xs:Nat→List C} {I:Nat→Hp→Prop} (hN:cx.N=fn.ntmps) (hf:cx.P.funcs[f]? =some fn) (hn: (fn.name== "runtime.NumGoroutine") =false) (hb:fn.body=some code) (hrs:fn.results= #[]) (hlen:caps.length+1≤fn.ntmps)
 (hT:∀ (l:Nat)(rec:LoopState→Option Code→Loop)(G:Gh)(B:Code→Hp→Prop)(h:Hp)(Y:Ys),qJ cx.P cx.gl l rec G Y→(∀i h post,i< N→I i h→(∀o k,gU (I (i+1)) B o k→post o k)→Y (xs i) h post)→I 0 h→
   TrY l rec G cx h.length code ⟨A (dm 0 (.val (.func (.yield l) #[] #[])::caps)),h⟩ (DK (gU (I N) B))):ItrI cx.P cx.gl f caps N xs I:=by
 refine ⟨⟨fn,hf,hn,by rw[hb];rfl⟩,fun l rec B h G w vs Y hY hI h0 W hTg hgl D hr=>?_⟩
 have hvl:vs.size=caps.length:=by rw[hr.length];simp
 have hn0:∀b k,G.μ b=some k→b< h.length:=fun b k hm=>by
  obtain ⟨⟨cells,hc⟩,_⟩:=W.dom b k hm
  exact (List.getElem?_eq_some_iff.1 hc).1
 have Le:Gle h.length G G:=⟨fun _ _ _ x=>x,fun b k x=>⟨hn0 b k x,x⟩,fun b z x=>⟨by
  obtain ⟨k,_,_,_,hm,_⟩:=W.siz b z x
  exact hn0 b k hm,x⟩⟩
 have hargs:RepL G (.val (.func (.yield l) #[] #[])::caps) (#[Value.func (.yield l) #[] #[]]++vs).toList:=by
  simp only[Array.toList_append,List.cons_append,List.nil_append,RepL]
  exact ⟨_,_,rfl,am.2 rfl,hr⟩
 have hsz: (#[Value.func (.yield l) #[] #[]]++vs).size=caps.length+1:=by simp[hvl];omega
 refine callsIn_of_wp_marks (F:=Fence.wide) (n:=0) hf hb trivial ?_
 have hsim:Sim cx G w ⟨init (.val (.func (.yield l) #[] #[])::caps),h⟩ { tmps:=(#[.func (.yield l) #[] #[]]++vs)++Array.replicate (fn.ntmps - (#[Value.func (.yield l) #[] #[]]++vs).size) undef,defers:=[] }:=by
  refine ⟨Mks.nil,?_,W,⟨fun t=>?_,fun t s m xs e=>(fo e).elim⟩,hgl⟩
  . rw[Array.size_append,Array.size_replicate,hsz,hN];omega
  . simp only[init,av,Array.getD_eq_getD_getElem?]
    refine Rep.noR ?_
    cases hq: (C.val (.func (.yield l) #[] #[])::caps)[t]? with
    |some x=>
     obtain ⟨v,hv,hrv⟩:=hargs.get t x hq
     have hlt:t< (#[Value.func (.yield l) #[] #[]]++vs).size:=by
      have:=(List.getElem?_eq_some_iff.1 hv).1
      rw[hsz];simp at this;omega
     rw[Array.getElem?_append_left hlt]
     have hv': (#[Value.func (.yield l) #[] #[]]++vs)[t]? =some v:=by rw[←Array.getElem?_toList];exact hv
     rw[hv']
     exact hrv
    |none=>
     have hge: (#[Value.func (.yield l) #[] #[]]++vs).size≤t:=by
      have:=List.getElem?_eq_none_iff.1 hq
      rw[hsz];simpa using this
     rw[Array.getElem?_append_right hge]
     simp only[Option.getD_none]
     rw[am]
     cases hq2: (Array.replicate (fn.ntmps - (#[Value.func (.yield l) #[] #[]]++vs).size) undef)[t - (#[Value.func (.yield l) #[] #[]]++vs).size]? with
     |none=>rfl
     |some u=>
      rw[Array.getElem?_replicate] at hq2
      split at hq2
      . cases hq2;rfl
      . cases hq2
 have hW:=(TrY.weaken (fun t=>CLe.init _ t) (hT l rec G B h Y hY hI h0)) G w _ Le hsim D
 refine hW _ fun o x st' G' w' a' hx S F F1 Df D'=>?_
 obtain ⟨ds,hds,hnew⟩:=Df
 rw[List.append_nil] at hds
 have go:gU (I N) B o st'.h→LeavesInM Fence.wide 0 cx.P fn a'.tmps (fun e w'=> ∃v o G' h',e= .returned v∧gU (I N) B o h'∧WorldOK G' h' w'∧Frm G (w.putObj l (.loop (rec (gG o) o))) G' w') a'.defers .returning w':=fun hx=>
  iT (m:=w.heap.size) (G:=G') (w:=w') a'.defers (Shut.refl _ _ _) S.defers (by rw[hds];exact hnew) fun w2 T=>by
   have hres:results { cx with N:=fn.ntmps } fn st'=some (.tup []):=by
    unfold results;rw[hrs];rfl
   have S2:=T.sim S
   obtain ⟨v,G2,r1,r2,r3,r4,r5,r6,r7⟩:=og (cx:= { cx with N:=fn.ntmps }) (n:=h.length) (fn:=fn) (c:= .tup []) (⟨S2.defers,hN▸S2.size,⟨S2.pre.ok,S2.pre.env,S2.pre.glob⟩⟩:Sim { cx with N:=fn.ntmps } G' w2 st' { a' with defers:=[] }) hres
   have hlt:l< w.heap.size:=(Array.getElem?_eq_some_iff.1 D.obj).1
   have hl2:w2.heap[l]? =some (.loop (rec (gG o) o)):=by
    rcases T.heap l with q| ⟨q,_⟩
    . exact q.trans D'.obj
    . omega
   have F2:FrmX l h.length G w G2 w2:=by
    refine FrmX.trans (B:=G') (b:=w2) ?_ (.of r5)
    exact ⟨T.os.trans F.os,T.tape.trans F.tape,T.output.trans F.output,by rw[T.size];exact F.size,F.K,F.μ,F.σ,fun g hg hs ht hm=>by
     obtain ⟨a1,a2⟩:=F.old g hg hs ht hm
     refine ⟨?_,a2⟩
     rcases T.heap g with q| ⟨q,_⟩
     . exact q.trans a1
     . omega⟩
   have D2:Rdy l rec G2 w2 (gG o) o:=Rdy.frmN (n:=h.length) ⟨hl2,D'.T,D'.μ⟩ r5
   exact ⟨v,r1,v,o,G2,st'.h,rfl,hx,r4,F2.toFrm hn0 W r4 D.obj hl2 D2.T D2.μ⟩
 cases x with
 |exit k=>exact hx.elim
 |normal=>exact go hx
 |ret=>exact go hx
end Go.Sx
namespace Go.Sx
open Go.RowKit
def gH:List Nat→List C→(Nat→C)→(Nat→C)
 |p::ps,c::az,env=>gH ps az (put (some p) c.noR env)
 |_,_,env=>env
theorem uC {G:Gh}:∀ (ps:List Nat)(az:List C)(vs:List Value)(env:Nat→C)(tm:Array Value),RepL G az vs→az.length=ps.length→(∀p∈ps,p< tm.size)→(∀t,Rep G (env t) (tm.getD t undef))→(∀t s n xs,env t≠ .sl (.own s) n xs)→
 ((ps.zip vs).foldl (fun tm (p:Nat×Value) =>tm.setIfInBounds p.1 p.2) tm).size=tm.size∧(∀t,Rep G (gH ps az env t) (((ps.zip vs).foldl (fun tm (p:Nat×Value) =>tm.setIfInBounds p.1 p.2) tm).getD t undef))∧∀t s n xs,gH ps az env t≠ .sl (.own s) n xs
 | [],[],vs,env,tm,_,_,_,h1,h2=>⟨rfl,h1,h2⟩
 | [],c::az,vs,env,tm,_,hl,_,_,_=>by simp at hl
 |p::ps,[],vs,env,tm,_,hl,_,_,_=>by simp at hl
 |p::ps,c::az,vs,env,tm,hr,hl,hp,h1,h2=>by
  simp only[RepL] at hr
  obtain ⟨v,vs',rfl,hv,hr'⟩:=hr
  have hpp:p< tm.size:=hp p (List.mem_cons_self ..)
  have:=uC ps az vs' (put (some p) c.noR env) (tm.setIfInBounds p v) hr' (by simpa using hl) (fun q hq=>by rw[Array.size_setIfInBounds];exact hp q (List.mem_cons_of_mem _ hq)) (fun t=>by
   simp only[put]
   by_cases e:t=p
   . subst e;simp only[if_true];rw[Array.getD_eq_getD_getElem?];simp[hpp];exact hv.noR
   . rw[if_neg e,Array.getD_eq_getD_getElem?,Array.getElem?_setIfInBounds_ne (Ne.symm e),←Array.getD_eq_getD_getElem?];exact h1 t) (fun t s n xs=>by
   simp only[put]
   split
   . exact fun q=>fo q
   . exact h2 t s n xs)
  simp only[List.zip_cons_cons,List.foldl_cons,gH]
  rw[Array.size_setIfInBounds] at this
  exact this
theorem WorldOK.grown {G:Gh}{h:Hp}{w w':World}(W:WorldOK G h w)(hs:w.heap.size≤w'.heap.size)(hh:∀g,g< w.heap.size→w'.heap[g]? =w.heap[g]?):WorldOK G h w':=by
 have hk:∀ {g:Nat}{o:Obj},w.heap[g]? =some o→w'.heap[g]? =some o:=fun {g o} q=>(hh g (Array.getElem?_eq_some_iff.1 q).1).trans q
 have hμ:∀ {b g:Nat},G.μ b=some g→w'.heap[g]? =w.heap[g]? :=fun {b g} q=>hh g (W.dom b g q).2
 have row:∀ {p:bg}{v:Value}{s n:Nat},OwnRow G w p v s n→OwnRow G w' p v s n:=by
  intro p v s n O
  rcases O with O| ⟨g,cap,cur,e,a1,a2,a3,a4⟩
  . exact .inl O
  . exact .inr ⟨g,cap,cur,e,a1,a2,hk a3,a4⟩
 refine ⟨fun b o u hu=>?_,fun b cells hb=>?_,fun b blk hb=>⟨(W.dom b blk hb).1,Nat.lt_of_lt_of_le (W.dom b blk hb).2 hs⟩,W.inj,W.sep,fun g p hg=>Nat.lt_of_lt_of_le (W.tlt g p hg) hs,fun b cells off s n xs blk v hb hc hm hv=>?_,fun b z hz=>?_,fun b l hb=>?_,W.mpi⟩
 . have:=W.known b o u hu
   unfold World.cell? at this ⊢
   cases ho:w.heap[b]? with
   |none=>rw[ho] at this;cases this
   |some ob=>rw[ho] at this;rw[hk ho];exact this
 . rcases W.box b cells hb with q| ⟨blk,cs,e,h1,h2,h3⟩
   . exact .inl q
   . exact .inr ⟨blk,cs,e,h1,by rw[hμ h1];exact h2,h3⟩
 . refine row (W.own b cells off s n xs blk v hb hc hm ?_)
   unfold World.cell? at hv ⊢
   rw[hμ hm] at hv
   exact hv
 . obtain ⟨blk,cs,e,fr,h1,h2,h3⟩:=W.siz b z hz
   exact ⟨blk,cs,e,fr,h1,by rw[hμ h1];exact h2,h3⟩
 . obtain ⟨blk,es,clk,h1,h2,h3⟩:=W.mpo b l hb
   exact ⟨blk,es,clk,h1,by rw[hμ h1];exact h2,h3⟩
def Cm (I1:Hp→Prop)(Q:Ex→Hp→Prop):Ex→Hp→Prop
 | .normal,h=>I1 h
 |x,h=>Q x h
def RoundQ (k:Nat)(I1:Hp→Prop)(Q:Ex→Hp→Prop)(x:Ex)(s:St):Prop:=
 (Cm I1 Q x (s.h.take k)∧∀ (b:Nat) cells,b< k→s.h[b]? =some (some cells)→noRefs k cells=true)∨Cm I1 Q x s.h
def y7 (Q:Ex→Hp→Prop)(j:Code)(h:Hp):Prop:=(j= .ret∧Q .ret h)∨∃id,j= .exit id∧Q (.exit id) h
theorem Kd {G:Gh}{k g:Nat}(h:∀b,G.μ b≠some g):∀b,(bm G k).μ b≠some g:=fun b hb=>by
 simp only[bm] at hb
 split at hb
 . exact h b hb
 . cases hb
section
variable {cx:Cx} {n:Nat} {Q:Ex→St→Prop}
theorem Cn {l:Nat}{fn:FuncId}{tm:Array Value}{ps:List Nat}{assign body:Code}{df:Nat}{G₀:Gh}{env:Nat→C}{N:Nat}{xs:Nat→List C}{I:Nat→Hp→Prop}{Q:Ex→Hp→Prop}
 (hsz:tm.size=cx.N) (henv:∀t,Rep G₀ (env t) (tm.getD t undef)) (hno:∀t s n xs,env t≠ .sl (.own s) n xs) (hx:∀i,i< N→(xs i).length=ps.length) (hp:∀p∈ps,p< cx.N)
 (hb:∀i k,i< N→I i k→Tr { cx with top:=false } k.length assign ⟨gH ps (xs i) env,k⟩ fun x s=>x= .normal∧Tr { cx with top:=false } k.length body s (RoundQ k.length (I (i+1)) Q)):
 qJ cx.P cx.gl l (fun st pe=> { state:=st,pending:=pe,fn,tmps:=tm,params:=ps.toArray,assign,body,defers:=df }) G₀
  fun az k post=> ∃i,i< N∧az=xs i∧I i k∧∀o k',gU (I (i+1)) (y7 Q) o k'→post o k':=by
 rintro az k post ⟨i,hi,rfl,hIk,hpost⟩ G w vs Le W hT hgl D hr
 have hvs:vs.size=ps.toArray.size:=by
  have:=hr.length
  rw[hx i hi] at this
  simpa using this.symm
 have hy:=run_yield (P:=cx.P) (args:=vs) D.obj hvs
 refine ⟨_,_,_,_,hy,roundIn_of_wpIn trivial ?_⟩
 have hn0:∀b j,G.μ b=some j→b< k.length:=fun b j hm=>by
  obtain ⟨⟨cells,hc⟩,_⟩:=W.dom b j hm
  exact (List.getElem?_eq_some_iff.1 hc).1
 have hfold: (ps.toArray.zip vs).foldl (fun (tmps:Array Value) (x:Nat×Value) =>tmps.setIfInBounds x.1 x.2) tm= (ps.zip vs.toList).foldl (fun tm (p:Nat×Value) =>tm.setIfInBounds p.1 p.2) tm:=by
  rw[←Array.foldl_toList,Array.toList_zip]
 obtain ⟨b1,b2,b3⟩:=uC ps (xs i) vs.toList env tm hr (hx i hi) (fun p q=>by rw[hsz];exact hp p q) (fun t=>(henv t).mono Le) hno
 have S1:Sim { cx with top:=false } G w ⟨gH ps (xs i) env,k⟩ { tmps:=(ps.toArray.zip vs).foldl (fun (tmps:Array Value) (x:Nat×Value) =>tmps.setIfInBounds x.1 x.2) tm,defers:=[] }:=by
  rw[hfold]
  exact ⟨Mks.nil,by rw[b1,hsz],W,⟨b2,fun t s n xs e=>absurd e (b3 t s n xs)⟩,hgl⟩
 refine hb i k hi hIk (some l) (fun h=>by cases h) G w _ S1 _ fun x s G2 w2 a2 hq S2 F2=>?_
 obtain ⟨rfl,hbody⟩:=hq
 have D2:=D.frmN F2.fr
 refine ⟨_,run_beginRound D2.obj rfl,?_⟩
 obtain ⟨rb,hrb⟩:∃rb:Loop,rb= { state:= .busy,pending:=none,fn,tmps:=tm,params:=ps.toArray,assign,body,defers:=df }:=⟨_,rfl⟩
 have Db:Rdy l (fun _ _=>rb) G2 (w2.putObj l (.loop rb)) .ready none:=⟨World.putObj_heap_same (Array.getElem?_eq_some_iff.1 D2.obj).1,D2.T,D2.μ⟩
 have S2':=S2.putL (ob:= .loop rb) D2.obj D2.T D2.μ
 rw[show (Loop.mk .busy none fn tm ps.toArray assign body df) =rb from hrb.symm]
 refine hbody (some l) (fun h=>by cases h) G2 _ a2 S2' _ fun x s3 G3 w3 a3 q S3 F3=>?_
 have D3:=Db.frmN F3.fr
 have FX:FrmX l k.length G w G3 w3:=(FrmX.of F2.fr).trans ((FrmX.put (.loop rb)).trans (.of F3.fr))
 have fin:∀ (o:Option Code)(k':Hp)(G4:Gh),gU (I (i+1)) (y7 Q) o k'→WorldOK G4 k' w3→FrmX l k.length G w G4 w3→G4.T l=none→(∀b,G4.μ b≠some l)→
  ∃v w',(Instr.endRound l o).run cx.P w3= .ok v w'∧∃o' G' h',Ending.returned v= .returned (.bool o'.isNone)∧post o' h'∧WorldOK G' h' w'∧Frm G (w.putObj l (.loop { state:=gG o',pending:=o',fn,tmps:=tm,params:=ps.toArray,assign,body,defers:=df })) G' w':=by
  intro o k' G4 he W4 F4 hT4 hm4
  have hrun:=run_endRound (P:=cx.P) o D3.obj
  have Sh:=Shut.put (ob:= .loop { state:=gG o,pending:=o,fn,tmps:=tm,params:=ps.toArray,assign,body,defers:=df }) D3.obj (.inr ⟨_,rfl⟩) hT4 hm4
  refine ⟨_,_,hrun,o,G4,k',rfl,hpost o k' he,?_,?_⟩
  . rw[hrb];exact Sh.ok W4
  . rw[hrb]
    refine (F4.trans (FrmX.put _)).toFrm hn0 W (Sh.ok W4) D.obj (World.putObj_heap_same (Array.getElem?_eq_some_iff.1 D3.obj).1) hT4 hm4
 have two:∀o,(∀k',Cm (I (i+1)) Q x k'→gU (I (i+1)) (y7 Q) o k')→∃v w',(Instr.endRound l o).run cx.P w3= .ok v w'∧∃o' G' h',Ending.returned v= .returned (.bool o'.isNone)∧post o' h'∧WorldOK G' h' w'∧Frm G (w.putObj l (.loop { state:=gG o',pending:=o',fn,tmps:=tm,params:=ps.toArray,assign,body,defers:=df })) G' w':=by
  intro o ho
  rcases q with ⟨q,hnb⟩ |q
  . exact fin o _ _ (ho _ q) (S3.pre.ok.cut k.length hnb) (FX.trans (.of (ng (Nat.le_refl _)))) D3.T (Kd D3.μ)
  . exact fin o _ _ (ho _ q) S3.pre.ok FX D3.T D3.μ
 cases x with
 |normal=>exact two none fun k' q=>q
 |ret=>exact two (some .ret) fun k' q=> .inl ⟨rfl,q⟩
 |exit id=>exact two (some (.exit id)) fun k' q=> .inr ⟨id,rfl,q⟩
theorem sY (ht:cx.top=true){g f:Nat}{ps:List Nat}{assign body:Code}{e:List (Nat×C)}{h:Hp}{caps:List C}{N:Nat}{xs:Nat→List C}(I:Nat→Hp→Prop)(hg:A e g= .fn f caps)(hI:ItrI cx.P cx.gl f caps N xs I)
 (hx:∀i,i< N→(xs i).length=ps.length) (hp:∀p∈ps,p< cx.N) (h0:I 0 h)
 (hb:∀i k,i< N→I i k→Tr { cx with top:=false } k.length assign ⟨gH ps (xs i) (fun t=>(A e t).noR),k⟩ fun x s=>x= .normal∧Tr { cx with top:=false } k.length body s (RoundQ k.length (I (i+1)) fun x h'=>Q x ⟨A e,h'⟩))
 (hd:∀k,I N k→Q .normal ⟨A e,k⟩):Tr cx n (.rangeFunc (.tmp g) ps.toArray assign body) ⟨A e,h⟩ Q:=by
 intro r hr G w a S R hR
 obtain rfl:r=none:=hr ht
 refine wpIn_rangeFunc (F:=wF none) fun fn _=>?_
 obtain ⟨⟨fn',e1,e2,e3⟩,hit⟩:=hI
 have hv:=S.pre.ev (.tmp g)
 rw[eX] at hv
 simp only[] at hv
 rw[hg] at hv
 simp only[Rep] at hv
 obtain ⟨cv,hfv,hcaps⟩:=hv
 obtain ⟨rec,hrec⟩:∃rec:LoopState→Option Code→Loop,rec=fun st pe=> { state:=st,pending:=pe,fn,tmps:=a.tmps,params:=ps.toArray,assign,body,defers:=w.heap.size }:=⟨_,rfl⟩
 obtain ⟨W1,hW1⟩:∃W1,(w.alloc (.deferred (some []))).alloc (.loop (rec .ready none)) =W1:=⟨_,rfl⟩
 have hL1:W1.heap[w.heap.size+1]? =some (.loop (rec .ready none)):=by
  rw[←hW1];have:=World.alloc_heap_new (w.alloc (.deferred (some []))) (.loop (rec .ready none));rwa [World.size_alloc] at this
 have hsz1:W1.heap.size=w.heap.size+2:=by rw[←hW1];simp
 have hlow:∀g,g< w.heap.size+1→W1.heap[g]? = (w.alloc (.deferred (some []))).heap[g]? :=fun g hg=>by
  rw[←hW1];show ((w.heap.push _).push _)[g]? = (w.heap.push _)[g]?
  rw[Array.getElem?_push,if_neg (by simp;omega)]
 have hsame:∀g,g< w.heap.size→W1.heap[g]? =w.heap[g]? :=fun g hg=>by
  rw[hlow g (by omega)]
  show (w.heap.push _)[g]? =w.heap[g]?
  rw[Array.getElem?_push,if_neg (by omega)]
 have hK1:W1.heap[w.heap.size]? =some (.deferred (some [])):=by
  rw[hlow _ (by omega)];exact World.alloc_heap_new w _
 have hW:WorldOK G h W1:=S.pre.ok.grown (by omega) hsame
 have hTl:∀g,w.heap.size≤g→G.T g=none:=fun g hg=>S.pre.ok.tnone hg
 have hml:∀g,w.heap.size≤g→∀b,G.μ b≠some g:=fun g hg b hb=>by have:=(S.pre.ok.dom b g hb).2;omega
 refine ⟨w.heap.size+1,[{ target:= .collected w.heap.size,args:= #[] }],W1,{ target:= .fn (.func f) cv,args:= #[.func (.yield (w.heap.size+1)) #[] #[]] },W1,f,
  #[.func (.yield (w.heap.size+1)) #[] #[]]++cv,W1,?_,?_,fun _ _=>trivial,?_,(fun h=>by cases h),?_⟩
 . rw[←hW1,hrec];exact run_enterLoop_outer _ _ _ _ _
 . simp only[resolve,rangeCall,hfv]
   simp[Deferred.ofValue,Act.eval]
 · have e2': ¬fn'.name= "runtime.NumGoroutine" :=by simpa using e2
   have e3':¬fn'.body=none:=by cases hq:fn'.body<;>simp_all
   simp[invoke,callFunc,e1,e2',e3',program,Sem.run]
 . have D1:Rdy (w.heap.size+1) rec (eg G) W1 .ready none:=⟨hL1,fB (hTl _ (by omega)),hml _ (by omega)⟩
   have hY:qJ cx.P cx.gl (w.heap.size+1) rec (eg G) (fun az k post=> ∃i,i< N∧az=xs i∧I i k∧∀o k',gU (I (i+1)) (y7 fun x h'=>Q x ⟨A e,h'⟩) o k'→post o k'):=by
    rw[hrec]
    exact Cn S.size (fun t=>((S.pre.env.1 t).noR).mono eT) (fun t s n xs q=>fo q) hx hp hb
   have hcall:=hit (w.heap.size+1) rec (y7 fun x h'=>Q x ⟨A e,h'⟩) h (eg G) W1 cv _ hY (fun i k post hi hk hp=>⟨i,hi,rfl,hk,hp⟩) h0 (pd hW) (fun g p hg=>by
    simp only[eg] at hg
    cases hq:G.T g with
    |none=>rw[hq] at hg;cases hg
    |some q=>
     rw[hq] at hg
     simp only[] at hg
     split at hg
     . cases hg;assumption
     . cases hg) (fun g=>(S.pre.glob g).mono eT) D1 (RepL.mono eT _ _ hcaps)
   refine hcall.mono ?_
   rintro e0 W2 ⟨v,o,G',h',rfl,hend,W',F⟩
   obtain ⟨ob,hob⟩:∃ob,Obj.loop (rec (gG o) o) =ob:=⟨_,rfl⟩
   rw[hob] at F
   have hlt:w.heap.size+1< W1.heap.size:=by omega
   have hput: (W1.putObj (w.heap.size+1) ob).heap[w.heap.size+1]? =some ob:=World.putObj_heap_same hlt
   have S1:Sim cx G W1 ⟨A e,h⟩ a:=⟨⟨S.defers.1,fun d hd=>by
    obtain ⟨E,q1,q2,q3⟩:=S.defers.2 d hd
    exact ⟨E,q1,(hsame E (Array.getElem?_eq_some_iff.1 q2).1).trans q2,q3⟩⟩,S.size,hW,⟨S.pre.env.1,fun t s m xs q=>by
    rcases S.pre.env.2 t s m xs q with O| ⟨g,cap,cur,ee,a1,a2,a3,a4⟩
    . exact .inl O
    . exact .inr ⟨g,cap,cur,ee,a1,a2,(hsame g (Array.getElem?_eq_some_iff.1 a3).1).trans a3,a4⟩⟩,S.pre.glob⟩
   have S1':=S1.putL (ob:=ob) hL1 (hTl _ (by omega)) (hml _ (by omega))
   have O:=m9 (c:= .top) (v:=undef) S1'.pre (3,0,0) W' F (by simp only[Rep]) (fun s n xs e=>by cases e)
   obtain ⟨G'',hG⟩:∃G'',iQ G (W1.putObj (w.heap.size+1) ob).heap.size G' (3,0,0) =G'':=⟨_,rfl⟩
   rw[hG] at O
   have S2:Sim cx G'' W2 ⟨A e,h'⟩ a:=⟨S1'.defers.frm O.frm,S.size,O.ok,O.env,fun g=>(S.pre.glob g).mono O.frm.le⟩
   obtain ⟨l1,l2,l3,_⟩:=O.frm.old (w.heap.size+1) (by rw[World.putObj_size];exact hlt) (hTl _ (by omega)) (hml _ (by omega))
   obtain ⟨d1,d2,d3,_⟩:=O.frm.old w.heap.size (by rw[World.putObj_size];omega) (hTl _ (Nat.le_refl _)) (hml _ (Nat.le_refl _))
   rw[hput] at l1
   rw[World.putObj_heap_other (by omega),hK1] at d1
   rw[←hob] at l1
   have hend2:=run_endLoop (P:=cx.P) l1 (by rw[hrec];cases o<;>simp[gG])
   refine ⟨_,_,hend2,?_⟩
   obtain ⟨ob2,hob2⟩:∃ob2,Obj.loop { (rec (gG o) o) with state:= .exhausted } =ob2:=⟨_,rfl⟩
   rw[hob2,show (rec (gG o) o).pending=o from by rw[hrec]]
   have S3:=S2.putL (ob:=ob2) l1 l2 l3
   have S4:Sim cx G'' (W2.putObj (w.heap.size+1) ob2) ⟨A e,h'⟩ { a with defers:=[{ target:= .collected w.heap.size,args:= #[] }]++a.defers }:=
    ⟨⟨List.nodup_cons.2 ⟨fun hm=>by
      obtain ⟨E,q1,q2,_⟩:=S.defers.2 _ hm
      have:=(Array.getElem?_eq_some_iff.1 q2).1
      simp only[Deferred.mk.injEq,Target.collected.injEq,and_true] at q1
      omega,S3.defers.1⟩,fun d hd=>by
      rcases List.mem_cons.1 hd with rfl|hd
      . exact ⟨w.heap.size,rfl,(World.putObj_heap_other (by omega)).trans d1,d2,d3⟩
      . exact S3.defers.2 d hd⟩,S3.size,⟨S3.pre.ok,S3.pre.env,S3.pre.glob⟩⟩
   have FA:FrmA n G w a G'' (W2.putObj (w.heap.size+1) ob2) { a with defers:=[{ target:= .collected w.heap.size,args:= #[] }]++a.defers }:=by
    refine ⟨⟨?_,?_,?_,?_,O.frm.le.K,fun b k _ x=>O.frm.le.μ b k x,fun b k _ x=>O.frm.le.σ b k x,fun g hg ht2 hm=>?_⟩,⟨_,rfl,fun d hd D hD=>by
     rw[List.mem_singleton.1 hd] at hD;cases hD;exact Nat.le_refl _⟩⟩
    . exact O.frm.os.trans (by rw[←hW1];rfl)
    . exact O.frm.tape.trans (by rw[←hW1];rfl)
    . exact O.frm.output.trans (by rw[←hW1];rfl)
    . have:=O.frm.size
      rw[World.putObj_size] at this
      rw[World.putObj_size];omega
    . obtain ⟨a1,a2⟩:=O.frm.old g (by rw[World.putObj_size];omega) ht2 hm
      exact ⟨(World.putObj_heap_other (by omega)).trans (a1.trans ((World.putObj_heap_other (by omega)).trans (hsame g hg))),a2⟩
   cases o with
   |none=>exact hR .normal _ _ _ _ (hd h' hend) S4 FA
   |some j=>
    rcases hend with ⟨rfl,hq⟩ | ⟨id,rfl,hq⟩
    . exact wpIn_ret (hR .ret _ _ _ _ hq S4 FA)
    . exact wpIn_exit (hR (.exit id) _ _ _ _ hq S4 FA)
end
end Go.Sx
namespace Go.Sx
open Go.RowKit
def fR:List Nat→List C→List (Nat×C)→List (Nat×C)
 |p::ps,c::az,e=>fR ps az ((p,c.noR)::e)
 |_,_,e=>e
theorem kC:∀ (ps:List Nat)(az:List C)(e:List (Nat×C)),gH ps az (A e) =A (fR ps az e)
 | [],_,_=>by simp only[gH,fR]
 |_::_,[],_=>by simp only[gH,fR]
 |p::ps,c::az,e=>by
  have:put (some p) c.noR (A e) =A ((p,c.noR)::e):=rfl
  simp only[gH,fR]
  rw[this];exact kC ps az _
theorem y8 (az:List C)(e:List (Nat×C)):fR [] az e=e:=by simp only[fR]
theorem vZ (p:Nat)(ps:List Nat)(c:C)(az:List C)(e:List (Nat×C)):fR (p::ps) (c::az) e=fR ps az ((p,c.noR)::e):=rfl
def mU:List (Nat×C)→List (Nat×C)
 | [] =>[]
 | (k,c)::l=>(k,c.noR)::mU l
theorem GI:mU [] = []:=rfl
theorem Co (k:Nat)(c:C)(l:List (Nat×C)):mU ((k,c)::l) = (k,c.noR)::mU l:=rfl
theorem oB:∀e:List (Nat×C),(fun t=>(A e t).noR) =A (mU e)
 | [] =>by funext t;rfl
 | (k,c)::l=>by
   funext t
   have:=congrFun (oB l) t
   simp only[mU,A] at this ⊢
   split
   . rfl
   . exact this
attribute [go_sem] y8 vZ GI Co
def ItrB (P:Program)(gl:Nat→C)(f:Nat)(caps:List C)(N:Nat)(xs:Nat→List C)(R:Nat→Hp→Prop):Prop:= ∀ (m:Nat)(I:Nat→Hp→Prop),(∀i h,I i h→R m h)→ItrI P gl f caps N xs I
theorem Ke {R:Nat→Hp→Prop}{cx:Cx}{n:Nat}{Q:Ex→St→Prop}(ht:cx.top=true){g f:Nat}{ps:List Nat}{assign body:Code}{e:List (Nat×C)}{h:Hp}{caps:List C}(N:Nat)(xs:Nat→List C)(H:Nat→Hp)(hg:A e g= .fn f caps)(hI:ItrB cx.P cx.gl f caps N xs R)
 (m:Nat) (hR:∀i,R m (H i)) (hx:∀i,i< N→(xs i).length=ps.length) (hp:∀p∈ps,p< cx.N) (h0:h=H 0)
 (hb:∀i,i< N→Tr { cx with top:=false } (H i).length assign ⟨A (fR ps (xs i) (mU e)),H i⟩ fun x s=>x= .normal∧Tr { cx with top:=false } (H i).length body s (RoundQ (H i).length (fun k=>k=H (i+1)) fun x h'=>Q x ⟨A e,h'⟩))
 (hd:Q .normal ⟨A e,H N⟩):Tr cx n (.rangeFunc (.tmp g) ps.toArray assign body) ⟨A e,h⟩ Q:=
 sY ht (fun i k=>k=H i) hg (hI m _ fun i k hk=>by subst hk;exact hR i) hx hp h0 (fun i k hi hk=>by subst hk;rw[oB,kC];exact hb i hi) (fun k hk=>by subst hk;exact hd)
theorem RoundQ.r {k:Nat}{I1:Hp→Prop}{Q:Ex→Hp→Prop}{s:St}(h:Q .ret s.h):RoundQ k I1 Q .ret s:= .inr h
end Go.Sx
namespace Go.Sx
open Go.RowKit
section
variable {l0:Nat} {rec:LoopState→Option Code→Loop} {G₀:Gh} {cx:Cx} {n:Nat} {Q:Option Code→Ex→St→Prop} {e:List (Nat×C)} {h:Hp} {b:Code} {id:Nat} {l:List Oper} {s:St}
theorem TrY.w (hcx:CxOK cx)(apps:List Nat)(dsts:List (Option Nat))(z:Hp)(h1:l.filterMap cu=apps)(h2:l.map (·.dst) =dsts)(h3:eB l=z)(H:TrY l0 rec G₀ cx n b s Q)(E:∀K:St→Prop,K s→run cx apps dsts l h.length e (h++z) [] (fun _ s=>K s)):TrY l0 rec G₀ cx n (.seq (.region id l.toArray false) b) ⟨A e,h⟩ Q:=
 TrY.seq (fh (Q1:=fun x s'=>x= .normal∧TrY l0 rec G₀ cx n b s' Q) (Tr.rg hcx apps dsts z h1 h2 h3 (E (fun s'=>Ex.normal= .normal∧TrY l0 rec G₀ cx n b s' Q) ⟨rfl,H⟩)) (fun x s' q=>by obtain ⟨rfl,q⟩:=q;exact ⟨fun _=>q,fun c=>absurd rfl c⟩))
theorem TrY.v (hcx:CxOK cx)(apps:List Nat)(dsts:List (Option Nat))(z:Hp)(h1:l.filterMap cu=apps)(h2:l.map (·.dst) =dsts)(h3:eB l=z)(H:Q none .normal s)(E:∀K:St→Prop,K s→run cx apps dsts l h.length e (h++z) [] (fun _ s=>K s)):TrY l0 rec G₀ cx n (.region id l.toArray false) ⟨A e,h⟩ Q:=
 fh (Q1:=fun x s'=>x= .normal∧Q none .normal s') (Tr.rg hcx apps dsts z h1 h2 h3 (E (fun s'=>Ex.normal= .normal∧Q none .normal s') ⟨rfl,H⟩)) (fun x s' q=>by obtain ⟨rfl,q⟩:=q;exact q)
theorem TrY.live {c:Code}(k:List (Nat×C))(hl:Le s.env k)(H:TrY l0 rec G₀ cx n c ⟨A k,s.h⟩ Q):TrY l0 rec G₀ cx n c s Q:=TrY.weaken (fun t=>hl.spec t) H
theorem TrY.k (ks:List Nat){c:Code}{e':List (Nat×C)}(H:TrY l0 rec G₀ cx n c ⟨A e',h⟩ Q)(E:∀R:List (Nat×C)→Prop,R e'→R (pk e ks)):TrY l0 rec G₀ cx n c ⟨A e,h⟩ Q:=
 TrY.weaken (fun t=>by
  rcases Bm e t ks with q|q
  . simp only[];rw[q];exact CLe.top _
  . simp only[];rw[q];exact CLe.refl _) (E (fun x=>TrY l0 rec G₀ cx n c ⟨A x,h⟩ Q) H)
theorem Kf (hcx:CxOK cx){Y:Ys}(hY:qJ cx.P cx.gl l0 rec G₀ Y)(kk:Nat){d y:Nat}{args:Array Operand}{ts:Array TypeId}{ty:TypeId}{pos:String}{aft:Array Edge}{e1:List (Nat×C)}{e2:Bool→List (Nat×C)}{az:List C}{P1:Hp→Prop}{B:Code→Hp→Prop}
 (hL:l=l.take kk++⟨some d,.call { callee:= .value (.tmp y),args,argTypes:=ts },ty,pos,aft,none⟩::l.drop (kk+1)) (hd:d< cx.N) (hm:l.countP da=0) (apps:List Nat) (dsts:List (Option Nat)) (h1:l.filterMap cu=apps) (h2:l.map (·.dst) =dsts)
 (hYs:∀post,(∀o k,gU P1 B o k→post o k)→Y az h post)
 (E1:∀K:St→Prop,K ⟨A e1,h⟩→run cx apps dsts (l.take kk) h.length e h [] (fun _ s=>K s)) (hy:A e1 y= .val (.func (.yield l0) #[] #[])) (haz: (args.toList.map (cx.evn (A e1))).map C.share=az)
 (E2:∀ (c:Bool)(k:Hp)(K:St→Prop),K ⟨A (e2 c),k⟩→run cx apps dsts (l.drop (kk+1)) h.length ((d,.val (.bool c))::e1) k [] (fun _ s=>K s))
 (Hn:∀k,P1 k→TrY l0 rec G₀ cx n b ⟨A (e2 true),k⟩ Q) (Hs:∀j k,B j k→Tr cx n b ⟨A (e2 false),k⟩ fun x s=>Q (some j) x s):TrY l0 rec G₀ cx n (.seq (.region id l.toArray false) b) ⟨A e,h⟩ Q:=by
 refine TrY.seq (TrY.rg hcx hY _ _ hL hd hm apps dsts h1 h2 (E1 _ ⟨hy,?_⟩))
 rw[haz]
 refine hYs _ fun o k hk=>?_
 have hput:∀c,put (some d) (C.val (.bool c)) (A e1) =A ((d,.val (.bool c))::e1):=fun c=>rfl
 rw[hput]
 refine f7 _ _ _ _ (E2 o.isNone k _ ?_)
 cases o with
 |none=>exact ⟨fun _=>Hn k hk,fun c=>absurd rfl c⟩
 |some j=>exact ⟨(fun c=>by cases c),fun _=>Hs j k hk⟩
end
end Go.Sx
namespace Go.Sx
open Go.RowKit
structure RowN (n:Nat) (h:Hp):Prop where
 len:h.length=n
 nr:jN 0 h=true
 lv:∀j,j< n→((h.at j).isSome|| (h.mp j).isSome) =true∨h[j]? =some none
mutual
theorem nH {k m:Nat}(hk:k≤m):∀c:C,ag k c=true→ag m c=true
 | .val _,_=>rfl
 | .top,_=>rfl
 | .agg xs,h=>by simp only[ag] at h ⊢;exact noRefs_le hk xs h
 | .tup xs,h=>by simp only[ag] at h ⊢;exact noRefs_le hk xs h
 | .kp xs,h=>by simp only[ag] at h ⊢;exact noRefs_le hk xs h
 | .sl _ _ xs,h=>by simp only[ag] at h ⊢;exact noRefs_le hk xs h
 | .fn _ xs,h=>by simp only[ag] at h ⊢;exact noRefs_le hk xs h
 | .sv _ _ _,h=>by simp only[ag,decide_eq_true_eq] at h ⊢;omega
 | .gv _ _ _,h=>by simp only[ag,decide_eq_true_eq] at h ⊢;omega
 | .bp _ _,h=>by simp only[ag,decide_eq_true_eq] at h ⊢;omega
 | .bt _ _ _,h=>by simp only[ag,decide_eq_true_eq] at h ⊢;omega
 | .mp _,h=>by simp only[ag,decide_eq_true_eq] at h ⊢;omega
theorem noRefs_le {k m:Nat}(hk:k≤m):∀l:List C,noRefs k l=true→noRefs m l=true
 | [],_=>rfl
 |x::xs,h=>by simp only[noRefs,Bool.and_eq_true] at h ⊢;exact ⟨nH hk x h.1,noRefs_le hk xs h.2⟩
end
def y9 (n:Nat)(ys:List C):List (Nat×C)→List (Nat×C)→Prop
 | [],[] =>True
 | (k,c)::e,(k',c')::e'=>k=k'∧((c'=c∧ag 0 c=true)∨∃o,c= .bp n o∧c'= .kp (ys.drop o))∧y9 n ys e e'
 |_,_=>False
theorem uD {ok:Nat→Bool}{n:Nat}{ys:List C}:∀ {e e':List (Nat×C)},y9 n ys e e'→iq (aU ok n ys) e=e'
 | [],[],_=>rfl
 | (k,c)::e,(k',c')::e',h=>by
   obtain ⟨rfl,h1,h2⟩:=h
   rw[lF,uD h2]
   rcases h1 with ⟨rfl,h1⟩ | ⟨o,rfl,rfl⟩
   . rw[yQ _ _ _ _ h1]
   . rw[y0,if_pos rfl]
 | [],_::_,h=>by cases h
 |_::_,[],h=>by cases h
theorem za {n:Nat}{ys:List C}(hy:noRefs 0 ys=true):∀ {e e':List (Nat×C)},y9 n ys e e'→∀t,ag 0 (A e' t) =true
 | [],[],_,t=>rfl
 | (k,c)::e,(k',c')::e',h,t=>by
   obtain ⟨rfl,h1,h2⟩:=h
   simp only[A]
   split
   . rcases h1 with ⟨rfl,h1⟩ | ⟨o,rfl,rfl⟩
     . exact h1
     . show noRefs 0 (ys.drop o) =true
       have:∀ (l:List C)(o:Nat),noRefs 0 l=true→noRefs 0 (l.drop o) =true:=fun l=>by
        induction l with
        |nil=>intro o _;simp[noRefs]
        |cons x l ih=>
         intro o h
         cases o with
         |zero=>exact h
         |succ o=>simp only[noRefs,Bool.and_eq_true] at h;exact ih o h.2
       exact this ys o hy
   . exact za hy h2 t
 | [],_::_,h,_=>by cases h
 |_::_,[],h,_=>by cases h
section
variable {l0:Nat} {rec:LoopState→Option Code→Loop} {G₀:Gh} {cx:Cx} {n:Nat} {Q:Option Code→Ex→St→Prop}
theorem Kg {k:Hp}{cells ys:List C}{ok:Nat→Bool}(hk:RowN n k): (jn ok n ys (k++[some cells])).take n=k:=by
 obtain ⟨rfl,h2,h3⟩:=hk
 unfold jn
 rw[List.map_append,List.map_cons,List.map_nil,List.set_append_right _ _ (by simp),List.take_append_of_le_length (by simp),List.take_of_length_le (by simp)]
 refine (List.map_congr_left (g:=id) fun o ho=>?_).trans (List.map_id _)
 cases o with
 |none=>rfl
 |some c=>
  obtain ⟨b,hb⟩:=List.getElem?_of_mem ho
  simp only[Option.map_some,id_eq,fzCs_nr _ _ _ _ (lj 0 k b c h2 hb)]
theorem uE {c:Code}{e:List (Nat×C)}{k:Hp}{cells:List C}(hcx:CxOK cx)(e':List (Nat×C))(ys:List C)(hk:RowN n k)(hc:noRefs 0 cells=true)(hl:aQ (some cells) =some cells)(hy:ys=cells.map C.noR)(he:y9 k.length ys e e')
 (H:TrY l0 rec G₀ cx n c ⟨A e',k⟩ Q):TrY l0 rec G₀ cx n c ⟨A e,k++[some cells]⟩ Q:=by
 rw[hk.len] at he
 intro G w a Le S D R hR
 have hb:Hp.at (k++[some cells]) n=some cells:=by rw[cG,if_pos hk.len.symm];exact hl
 have hys:fzY (k++[some cells]) n cells=ys:=by rw[hy,fzY,scrs_nr _ _ hc]
 have hnr:noRefs 0 ys=true:=by
  rw[hy]
  have:∀l:List C,noRefs 0 l=true→noRefs 0 (l.map C.noR) =true:=fun l=>by
   induction l with
   |nil=>intro _;rfl
   |cons x l ih=>
    intro h
    simp only[noRefs,Bool.and_eq_true] at h
    simp only[List.map_cons,noRefs,Bool.and_eq_true]
    refine ⟨?_,ih h.2⟩
    have h1:=h.1
    cases x<;>first|exact h1|skip
    rename_i r m xs
    cases r<;>exact h1
  exact this cells hc
 have W1:=S.pre.ok.fz hb
 rw[hys] at W1
 have hrow:=Kg (cells:=cells) (ys:=ys) (ok:=c8 (k++[some cells]) n) hk
 have W2:=W1.cut n (fun b cs hbn hcs=>by
  have:k[b]? =some (some cs):=by
   rw[←hrow,List.getElem?_take,if_pos hbn];exact hcs
  exact noRefs_le (Nat.zero_le _) cs (lj 0 k b cs hk.nr this))
 rw[hrow] at W2
 have hlen:k.length=n:=hk.len
 have hn:∀j,j< n→((Hp.at (k++[some cells]) j).isSome|| (Hp.mp (k++[some cells]) j).isSome) =true∨(k++[some cells])[j]? =some none:=fun j hj=>by
  have e1: (k++[some cells])[j]? =k[j]? :=List.getElem?_append_left (by omega)
  rcases hk.lv j hj with h|h
  . left
    rw[cG,if_neg (by omega)]
    have:Hp.mp (k++[some cells]) j=Hp.mp k j:=by unfold Hp.mp;rw[e1]
    rw[this];exact h
  . right;rw[e1];exact h
 have F1:FrmN n G w (cw G w n cells.length) w:=ux S.pre.ok hb (Nat.le_refl _) hn _
 have F2:FrmN n (cw G w n cells.length) w (bm (cw G w n cells.length) n) w:=ng (Nat.le_refl _)
 have F:=F1.trans F2
 have hμ:∀g,(∀b,G.μ b≠some g)→∀b,(bm (cw G w n cells.length) n).μ b≠some g:=fun g h b hb'=>by
  simp only[bm,cw] at hb'
  split at hb'
  . split at hb'
    . cases hb'
    . exact h b hb'
  . cases hb'
 have hm:iq (aU (c8 (k++[some cells]) n) n ys) e=e':=uD he
 have hE:∀t,Rep (bm (cw G w n cells.length) n) (A e' t) (a.tmps.getD t undef):=fun t=>by
  have h1:=iI S.pre.ok hb _ _ (S.pre.env.1 t)
  rw[hys] at h1
  have h2:aU (c8 (k++[some cells]) n) n ys (A e t) =A e' t:=by
   rw[←hm]
   exact congrFun (lG (aU (c8 (k++[some cells]) n) n ys) (by simp only[aU]) e) t
  simp only[] at h1
  rw[h2] at h1
  exact dx _ _ (nH (Nat.zero_le _) _ (za hnr he t)) h1
 have S':Sim cx (bm (cw G w n cells.length) n) w ⟨A e',k⟩ a:=by
  refine ⟨S.defers.same (fun _ h=>h) hμ,S.size,W2,⟨hE,fun t s m xs q=>?_⟩,fun g=>?_⟩
  . have h2:aU (c8 (k++[some cells]) n) n ys (A e t) =A e' t:=by
     rw[←hm]
     exact congrFun (lG (aU (c8 (k++[some cells]) n) n ys) (by simp only[aU]) e) t
    simp only[] at q
    rw[←h2] at q
    obtain ⟨zs,hz⟩:=me q
    have O:=(S.pre.env.2 t s m zs hz).fz (b:=n) (k:=cells.length)
    rcases O with O| ⟨g,cap,cur,ee,a1,a2,a3,a4,a5,a6⟩
    . exact .inl O
    . refine .inr ⟨g,cap,cur,ee,a1,a2,a3,a4,a5,fun b' hb'=>?_⟩
      simp only[bm] at hb'
      split at hb'
      . exact a6 b' hb'
      . cases hb'
  . exact dx _ _ (nH (Nat.zero_le _) _ (hcx.glo g)) ((dx _ _ (hcx.glo g) (S.pre.glob g)).mono (md S.pre.ok _))
 exact H (bm (cw G w n cells.length) n) w a (Le.frm F) S' (D.frmN F) R fun o x st' G' w' a' q S2 FX FN Df D2=>hR o x st' G' w' a' q S2 ((FrmX.of F).trans FX) (fun e=>F.trans (FN e)) Df D2
theorem zb {n:Nat}{ys:List C}:∀ {e:List (Nat×C)},(e.all fun p=>ag 0 p.2) =true→y9 n ys e e
 | [],_=>True.intro
 | (k,c)::e,h=>by
   rw[List.all_cons,Bool.and_eq_true] at h
   exact ⟨rfl,.inl ⟨rfl,h.1⟩,zb h.2⟩
theorem uF {c:Code}{e:List (Nat×C)}{k:Hp}{cells:List C}(hcx:CxOK cx)(hk:RowN n k)(hc:noRefs 0 cells=true)(hl:aQ (some cells) =some cells)(he: (e.all fun p=>ag 0 p.2) =true)
 (H:TrY l0 rec G₀ cx n c ⟨A e,k⟩ Q):TrY l0 rec G₀ cx n c ⟨A e,k++[some cells]⟩ Q:=uE hcx e _ hk hc hl rfl (zb he) H
end
end Go.Sx
namespace Go.Sx
open Go.RowKit
theorem RowN.nil:RowN 0 []:=⟨rfl,rfl,fun j h=>by omega⟩
theorem ItrB.of {cx:Cx} {f:Nat} {fn:Func} {code:Code} {caps:List C} {N:Nat} {xs:Nat→List C} (hN:cx.N=fn.ntmps) (hf:cx.P.funcs[f]? =some fn) (hn: (fn.name== "runtime.NumGoroutine") =false) (hb:fn.body=some code) (hrs:fn.results= #[]) (hlen:caps.length+1≤fn.ntmps)
 (hT:∀ (n l:Nat)(rec:LoopState→Option Code→Loop)(G:Gh)(I:Nat→Hp→Prop)(B:Code→Hp→Prop)(h:Hp)(Y:Ys),qJ cx.P cx.gl l rec G Y→(∀i h post,i< N→I i h→(∀o k,gU (I (i+1)) B o k→post o k)→Y (xs i) h post)→I 0 h→(∀i h,I i h→RowN n h)→
   TrY l rec G cx n code ⟨A (dm 0 (.val (.func (.yield l) #[] #[])::caps)),h⟩ (DK (gU (I N) B))):ItrB cx.P cx.gl f caps N xs RowN:=fun m I hR=>
 ItrI.of hN hf hn hb hrs hlen fun l rec G B h Y hY hI h0=>by
  have:=hT m l rec G I B h Y hY hI h0 hR
  rwa [← (hR 0 h h0).len] at this
end Go.Sx
