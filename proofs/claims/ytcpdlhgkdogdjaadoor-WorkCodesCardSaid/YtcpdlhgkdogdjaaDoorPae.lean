/-
   And what follows.
-/
import Derived.Test.YtcpdlhgkdogdjaaDoorPad
set_option linter.unusedSimpArgs false
set_option linter.unusedVariables false
namespace Go.Sx
open Go.RowKit
section
variable {cx:Cx} {n:Nat} {st:St} {G:Gh} {w:World} {h:Hp}
theorem fI:∀ {ρ:List Nat}{k b j:Nat},dA ρ k b=some j→k≤j∧ρ[j - k]? =some b
 | [],k,b,j,h=>by cases h
 |x::r,k,b,j,h=>by
  simp only[dA] at h;split at h
  . rename_i e;cases h;subst e;simp
  . obtain ⟨h1,h2⟩:=fI h
    refine ⟨by omega,?_⟩;have:j - k= (j - (k+1))+1:=by omega
    rw[this,List.getElem?_cons_succ];exact h2
theorem oP (ρ:List Nat):∀xs:List C,mvCs ρ xs=xs.map (aU ρ)
 | [] =>rfl
 |x::xs=>by simp[mvCs,oP ρ xs]
def jh (ρ:List Nat)(h:Hp):Hp:=ρ.map fun b=>((h[b]?).getD none).map (mvCs ρ)
def cU (ρ:List Nat)(G:Gh):Gh where
 K:=G.K
 μ:=fun j=>(ρ[j]?).bind G.μ
 T:=fun g=>match G.T g with
  |some p=>if p.1=1 then (dA ρ 0 p.2.1).map (fun j=>(1,j,p.2.2)) else some p
  |none=>none
 σ:=fun j=>(ρ[j]?).bind G.σ
mutual
theorem nN {ρ:List Nat}:∀ (c:C)(v:Value),Rep G c v→Rep (cU ρ G) (aU ρ c) v
 | .top,_,_=>by simp[aU,Rep]
 | .val u,v,r=>by simpa[aU,Rep] using r
 | .sl r n xs,v,x=>by
   simp only[aU,Rep] at x ⊢;obtain ⟨a,cap,h1,h2,h3,h4,h5⟩:=x;refine ⟨a,cap,h1,h2,h3,h4,?_⟩;rcases h5 with h5| ⟨blk,off,ha,hk⟩
   . left;rw[h5];rfl
   . exact .inr ⟨blk,off,ha,mvC_repK xs blk off hk⟩
 | .sv b off n,v,x=>by
   simp only[aU]
   cases hl:dA ρ 0 b with
   |none=>simp[Rep]
   |some j=>
    have hj:=(fI hl).2;simp only[Rep] at x ⊢;obtain ⟨a,cap,h1,h2,h3,h4⟩:=x;exact ⟨a,cap,h1,h2,h3,fun hz=>by obtain ⟨blk,q1,q2⟩:=h4 hz;exact ⟨blk,by simp only[cU,Nat.sub_zero] at hj ⊢;rw[hj];exact q1,q2⟩⟩
 | .gv b m s,v,x=>by
   simp only[aU]
   cases hl:dA ρ 0 b with
   |none=>simp[Rep]
   |some j=>
    have hj:=(fI hl).2;simp only[Nat.sub_zero] at hj;simp only[Rep] at x ⊢;obtain ⟨a,cap,h1,h2,h3,h4⟩:=x;refine ⟨a,cap,h1,h2,h3,?_⟩;rcases h4 with h4| ⟨blk,q1,q2,q3⟩
    . exact .inl h4
    . exact .inr ⟨blk,by simp only[cU];rw[hj];exact q1,q2,by simp only[cU];rw[hj];exact q3⟩
 | .bp b off,v,x=>by
   simp only[aU]
   cases hl:dA ρ 0 b with
   |none=>simp[Rep]
   |some j=>
    have hj:=(fI hl).2;simp only[Nat.sub_zero] at hj;simp only[Rep] at x ⊢;obtain ⟨blk,h1,h2⟩:=x;exact ⟨blk,by simp only[cU];rw[hj];exact h1,h2⟩
 | .mp b,v,x=>by
   simp only[aU]
   cases hl:dA ρ 0 b with
   |none=>simp[Rep]
   |some j=>
    have hj:=(fI hl).2;simp only[Nat.sub_zero] at hj;simp only[Rep] at x ⊢;obtain ⟨blk,h1,h2⟩:=x;exact ⟨blk,by simp only[cU];rw[hj];exact h1,h2⟩
 | .bt b t n,v,x=>by
   simp only[aU]
   cases hl:dA ρ 0 b with
   |none=>simp[Rep]
   |some j=>
    have hj:=(fI hl).2;simp only[Nat.sub_zero] at hj;simp only[Rep] at x ⊢;obtain ⟨blk,h1,h2,h3⟩:=x;exact ⟨blk,by simp only[cU];rw[hj];exact h1,h2,by simp only[cU];rw[hj];exact h3⟩
 | .kp xs,v,x=>by
   simp only[aU,Rep] at x ⊢;obtain ⟨blk,off,h1,h2⟩:=x;exact ⟨blk,off,h1,mvC_repK xs blk off h2⟩
 | .agg xs,v,x=>by
   simp only[aU,Rep] at x ⊢;obtain ⟨vs,h1,h2,h3⟩:=x;exact ⟨vs,h1,mvC_repL xs _ h2,h3⟩
 | .tup xs,v,x=>by
   simp only[aU,Rep] at x ⊢;obtain ⟨vs,h1,h2⟩:=x;exact ⟨vs,h1,mvC_repL xs _ h2⟩
 | .fn f xs,v,x=>by
   simp only[aU,Rep] at x ⊢;obtain ⟨vs,h1,h2⟩:=x;exact ⟨vs,h1,mvC_repL xs _ h2⟩
theorem mvC_repL {ρ:List Nat}:∀ (xs:List C)(vs:List Value),RepL G xs vs→RepL (cU ρ G) (mvCs ρ xs) vs
 | [],vs,r=>by simpa[mvCs,RepL] using r
 |x::xs,vs,r=>by
  simp only[mvCs,RepL] at r ⊢;obtain ⟨v,vs',h1,h2,h3⟩:=r;exact ⟨v,vs',h1,nN x v h2,mvC_repL xs vs' h3⟩
theorem mvC_repK {ρ:List Nat}:∀ (xs:List C)(blk off:Nat),RepK G blk off xs→RepK (cU ρ G) blk off (mvCs ρ xs)
 | [],_,_,_=>by simp[mvCs,RepK]
 |x::xs,blk,off,r=>by
  simp only[mvCs,RepK] at r ⊢;obtain ⟨⟨u,h1,h2,h3⟩,h4⟩:=r;exact ⟨⟨u,h1,h2,nN x u h3⟩,mvC_repK xs blk (off+1) h4⟩
end
theorem zm {ρ:List Nat}{c:C}{s m:Nat}{xs:List C}(h:aU ρ c= .sl (.own s) m xs):∃ys,c= .sl (.own s) m ys:=by
 cases c with
 |sl r k ys=>simp only[aU] at h;cases h;exact ⟨ys,rfl⟩
 |sv b o k=>simp only[aU] at h;split at h<;>cases h
 |gv b o k=>simp only[aU] at h;split at h<;>cases h
 |bp b o=>simp only[aU] at h;split at h<;>cases h
 |mp b=>simp only[aU] at h;split at h<;>cases h
 |bt b t n=>simp only[aU] at h;split at h<;>cases h
 |_=>simp only[aU] at h;cases h
theorem sH {ρ:List Nat}{j:Nat}{cells:List C}(hj:Hp.at (jh ρ h) j=some cells):∃b cells0,ρ[j]? =some b∧h.at b=some cells0∧cells=mvCs ρ cells0:=by
 have h1:=fB hj;unfold jh at h1;rw[List.getElem?_map] at h1
 cases hb:ρ[j]? with
 |none=>rw[hb] at h1;cases h1
 |some b=>
  rw[hb] at h1;simp only[Option.map_some,Option.some.injEq] at h1
  cases hq:h[b]? with
  |none=>rw[hq] at h1;cases h1
  |some o=>
   rw[hq] at h1
   cases o with
   |none=>cases h1
   |some cells0=>
    simp only[Option.getD_some,Option.map_some,Option.some.injEq] at h1;refine ⟨b,cells0,rfl,?_,h1.symm⟩;have hl:=fv hj;unfold Hp.at;rw[hq];subst h1;show aR (some cells0) =_
    cases cells0 with
    |nil=>rfl
    |cons x l=>
     cases x with
     |tup xs=>simp only[mvCs,aU] at hl;cases hl
     |_=>rfl
theorem wS {ρ:List Nat}:∀ (l:List C)(es:List MapEntry),MRep G l es→MRep (cU ρ G) (mvCs ρ l) es
 | [],_,r=>by simpa[MRep,mvCs] using r
 | [_],_,r=>by simp[MRep] at r
 |k::v::l,es,r=>by
  simp only[MRep,mvCs] at r ⊢;obtain ⟨e,es',h1,h2,h3,h4⟩:=r;exact ⟨e,es',h1,nN k _ h2,nN v _ h3,wS l es' h4⟩
theorem CR {ρ:List Nat}{c:C}{u:Value}(h:aU ρ c= .val u):c= .val u:=by
 cases c with
 |val v=>simp only[aU] at h;exact h
 |sv b o k=>simp only[aU] at h;split at h<;>cases h
 |gv b o k=>simp only[aU] at h;split at h<;>cases h
 |bp b o=>simp only[aU] at h;split at h<;>cases h
 |mp b=>simp only[aU] at h;split at h<;>cases h
 |bt b t n=>simp only[aU] at h;split at h<;>cases h
 |_=>simp only[aU] at h;cases h
theorem CS {ρ:List Nat}{c:C}{xs:List C}(h:aU ρ c= .tup xs):∃ys,c= .tup ys∧xs=mvCs ρ ys:=by
 cases c with
 |tup ys=>simp only[aU] at h;cases h;exact ⟨ys,rfl,rfl⟩
 |sv b o k=>simp only[aU] at h;split at h<;>cases h
 |gv b o k=>simp only[aU] at h;split at h<;>cases h
 |bp b o=>simp only[aU] at h;split at h<;>cases h
 |mp b=>simp only[aU] at h;split at h<;>cases h
 |bt b t n=>simp only[aU] at h;split at h<;>cases h
 |_=>simp only[aU] at h;cases h
theorem un {F:C→C}{Fs:List C→List C}(hs:∀xs,Fs xs=xs.map F)(hv:∀c u,F c= .val u→c= .val u)(ht:∀c xs,F c= .tup xs→∃ys,c= .tup ys∧xs=Fs ys){cells l:List C}(h:eK (some (Fs cells)) =some l):∃l0,eK (some cells) =some l0∧l=Fs l0:=by
 cases cells with
 |nil=>rw[hs] at h;cases h
 |cons c cs=>
  rw[hs,List.map_cons] at h
  cases hq:F c with
  |tup xs=>
   obtain ⟨ys,rfl,rfl⟩:=ht c xs hq;rw[hq] at h
   cases ys with
   |nil=>rw[hs] at h;cases h
   |cons y ys=>
    rw[hs,List.map_cons] at h
    cases hy:F y with
    |val u=>
     have:=hv y u hy;subst this;rw[hy] at h
     cases u with
     |bool b=>
      cases b with
      |true=>cases h;exact ⟨ys,rfl,(hs ys).symm⟩
      |false=>cases h
     |_=>cases h
    |_=>rw[hy] at h;cases h
  |_=>rw[hq] at h;cases h
theorem wT {ρ:List Nat}{h:Hp}{j:Nat}{l:List C}(hj:Hp.mp (jh ρ h) j=some l):∃b l0,ρ[j]? =some b∧h.mp b=some l0∧l=mvCs ρ l0:=by
 unfold Hp.mp jh at hj;rw[List.getElem?_map] at hj
 cases hb:ρ[j]? with
 |none=>rw[hb] at hj;cases hj
 |some b=>
  rw[hb] at hj;simp only[Option.map_some,Option.bind_some] at hj
  cases hq:h[b]? with
  |none=>rw[hq] at hj;cases hj
  |some o=>
   rw[hq] at hj
   cases o with
   |none=>cases hj
   |some cells0=>
    obtain ⟨l0,h1,h2⟩:=un (Fs:=mvCs ρ) (oP ρ) (fun _ _=>CR) (fun _ _=>CS) (cells:=cells0) hj;exact ⟨b,l0,rfl,by unfold Hp.mp;rw[hq];exact h1,h2⟩
theorem kQ:∀ {ρ:List Nat}{k j b:Nat},ρ.Nodup→ρ[j]? =some b→dA ρ k b=some (k+j)
 |x::r,k,0,b,hn,h=>by simp at h;subst h;simp[dA]
 |x::r,k,j+1,b,hn,h=>by
  rw[List.getElem?_cons_succ] at h;have hx:b≠x:=fun e=>by
   subst e;exact (List.nodup_cons.1 hn).1 (List.mem_of_getElem? h)
  simp only[dA];rw[if_neg hx,kQ (List.nodup_cons.1 hn).2 h];congr 1;omega
 | [],k,j,b,hn,h=>by simp at h
theorem OwnRow.mv {ρ:List Nat}{p p':bB}{v:Value}{s m:Nat}(O:OwnRow G w p v s m)(hp: (p.1≠1∧p'=p)∨(p.1=1∧∃j,dA ρ 0 p.2.1=some j∧p'= (1,j,p.2.2))):OwnRow (cU ρ G) w p' v s m:=by
 rcases O with O| ⟨g,cap,cur,e,a1,a2,a3,a4,a5,a6⟩
 . exact .inl O
 . refine .inr ⟨g,cap,cur,e,a1,?_,a3,a4,a5,fun b hb=>?_⟩
   . simp only[cU,a2]
     rcases hp with ⟨h1,rfl⟩ | ⟨h1,j,h2,rfl⟩
     . rw[if_neg h1]
     . rw[if_pos h1,h2];rfl
   . simp only[cU] at hb
     cases hq:ρ[b]? with
     |none=>rw[hq] at hb;cases hb
     |some q=>rw[hq] at hb;exact a6 q hb
theorem WorldOK.mv {ρ:List Nat}(H:WorldOK G h w)(hρ:ρ.Nodup):WorldOK (cU ρ G) (jh ρ h) w:=by
 have hμ:∀ {j blk},(cU ρ G).μ j=some blk→∃b,ρ[j]? =some b∧G.μ b=some blk:=fun {j blk} x=>by
  simp only[cU] at x
  cases hq:ρ[j]? with
  |none=>rw[hq] at x;cases x
  |some q=>rw[hq] at x;exact ⟨q,rfl,x⟩
 refine ⟨H.known,fun j cells hj=>?_,fun j blk hm=>?_,fun j j' c c' blk hj hj' hm hm'=>?_,fun j blk hm=>?_,fun g p hg=>?_,fun j cells off s m xs blk v hj hc hm hv=>?_,fun j z hz=>?_,fun j l hj=>?_,fun j j' l l' blk x x' y y'=>?_⟩
 . obtain ⟨b,cells0,h1,h2,rfl⟩:=sH hj
   rcases H.box b cells0 h2 with ⟨hE,hE2⟩ | ⟨blk,cs,e,q1,q2,q3,q4,q5⟩
   . exact .inl ⟨by rw[hE];rfl,by simp only[cU,h1];exact hE2⟩
   . have hl: (mvCs ρ cells0).length=cells0.length:=by rw[oP];simp
     exact .inr ⟨blk,cs,e,by simp only[cU,h1];exact q1,q2,by rw[hl];exact q3,by rw[hl];exact mvC_repL _ _ q4,q5⟩
 . obtain ⟨b,h1,h2⟩:=hμ hm
   obtain ⟨⟨c,hc⟩,hl⟩:=H.dom b blk h2;refine ⟨⟨mvCs ρ c,?_⟩,hl⟩;unfold jh;rw[List.getElem?_map,h1];simp[hc]
 . obtain ⟨b,h1,h2⟩:=hμ hm
   obtain ⟨b',h1',h2'⟩:=hμ hm';obtain ⟨q,cells0,g1,g2,_⟩:=sH hj;obtain ⟨q',cells0',g1',g2',_⟩:=sH hj';rw[h1] at g1;cases g1
   rw[h1'] at g1';cases g1'
   have e:=H.inj b b' _ _ blk g2 g2' h2 h2';subst e;have l1:=kQ (k:=0) hρ h1;have l2:=kQ (k:=0) hρ h1';rw[l1] at l2;simpa using l2
 . obtain ⟨b,h1,h2⟩:=hμ hm
   obtain ⟨s1,s2⟩:=H.sep b blk h2;exact ⟨s1,by simp only[cU,s2]⟩
 . cases hq:G.T g with
   |none=>simp only[cU,hq] at hg;cases hg
   |some q=>exact H.tlt g q hq
 . obtain ⟨b,cells0,h1,h2,rfl⟩:=sH hj
   obtain ⟨b',h1',h2'⟩:=hμ hm;rw[h1] at h1';cases h1'
   rw[oP,List.getElem?_map] at hc
   cases hq:cells0[off]? with
   |none=>rw[hq] at hc;cases hc
   |some y=>
    rw[hq] at hc;simp only[Option.map_some,Option.some.injEq] at hc;obtain ⟨ys,rfl⟩:=zm hc;have O:=H.own b cells0 off s m ys blk v h2 hq h2' hv;have l1:=kQ (k:=0) hρ h1;exact O.mv (.inr ⟨rfl,j,by simpa using l1,rfl⟩)
 . simp only[cU] at hz
   cases hq:ρ[j]? with
   |none=>rw[hq] at hz;cases hz
   |some b=>
    rw[hq] at hz;obtain ⟨blk,cs,e,fr,q1,q2,q3⟩:=H.siz b z hz;exact ⟨blk,cs,e,fr,by simp only[cU,hq];exact q1,q2,q3⟩
 . obtain ⟨b,l0,h1,h2,rfl⟩:=wT hj
   obtain ⟨blk,es,clk,q1,q2,q3⟩:=H.mpo b l0 h2;exact ⟨blk,es,clk,by simp only[cU,h1];exact q1,q2,wS l0 _ q3⟩
 . obtain ⟨b,l0,h1,h2,rfl⟩:=wT x
   obtain ⟨b',l0',h1',h2',rfl⟩:=wT x';obtain ⟨q,g1,g2⟩:=hμ y;obtain ⟨q',g1',g2'⟩:=hμ y';rw[h1] at g1;cases g1
   rw[h1'] at g1';cases g1'
   have e:=H.mpi b b' _ _ blk h2 h2' g2 g2';subst e;have l1:=kQ (k:=0) hρ h1;have l2:=kQ (k:=0) hρ h1';rw[l1] at l2;simpa using l2
theorem vh {ρ:List Nat}{c:C}{v:Value}(hc:ae 0 c=true)(h:Rep G c v):Rep (cU ρ G) c v:=by
 have h1:=dJ c v hc h;have le: (bI G 0).Le (cU ρ G):=⟨fun _ _ _ x=>x,fun b k x=>by simp[bI] at x,fun b k x=>by simp[bI] at x⟩;exact h1.mono le
end
mutual
def bZ (r:Nat→Nat):C→C
 | .sv b o n=> .sv (r b) o n
 | .gv b n s=> .gv (r b) n s
 | .bp b o=> .bp (r b) o
 | .mp b=> .mp (r b)
 | .bt b t n=> .bt (r b) t n
 | .sl q n xs=> .sl q n (bkCs r xs)
 | .kp xs=> .kp (bkCs r xs)
 | .agg xs=> .agg (bkCs r xs)
 | .tup xs=> .tup (bkCs r xs)
 | .fn f xs=> .fn f (bkCs r xs)
 | .top=> .top
 | .val v=> .val v
def bkCs (r:Nat→Nat):List C→List C
 | [] =>[]
 |x::xs=>bZ r x::bkCs r xs
end
theorem oQ (r:Nat→Nat):∀xs:List C,bkCs r xs=xs.map (bZ r)
 | [] =>rfl
 |x::xs=>by simp[bkCs,oQ r xs]
structure BkG (r:Nat→Nat) (A B:Gh):Prop where
 K:∀b o u,A.K b o=some u→B.K b o=some u
 μ:∀i k,A.μ i=some k→B.μ (r i) =some k
 σ:∀i z,A.σ i=some z→B.σ (r i) =some z
mutual
theorem nO {r:Nat→Nat}{A B:Gh}(h:BkG r A B):∀ (c:C)(v:Value),Rep A c v→Rep B (bZ r c) v
 | .top,_,_=>by simp[bZ,Rep]
 | .val u,v,q=>by simpa[bZ,Rep] using q
 | .sl q n xs,v,x=>by
   simp only[bZ,Rep] at x ⊢;obtain ⟨a,cap,h1,h2,h3,h4,h5⟩:=x;refine ⟨a,cap,h1,h2,h3,h4,?_⟩;rcases h5 with h5| ⟨blk,off,ha,hk⟩
   . left;rw[h5];rfl
   . exact .inr ⟨blk,off,ha,bkC_repK h xs blk off hk⟩
 | .sv b off n,v,x=>by
   simp only[bZ,Rep] at x ⊢;obtain ⟨a,cap,h1,h2,h3,h4⟩:=x;exact ⟨a,cap,h1,h2,h3,fun hz=>by obtain ⟨blk,q1,q2⟩:=h4 hz;exact ⟨blk,h.μ _ _ q1,q2⟩⟩
 | .gv b m s,v,x=>by
   simp only[bZ,Rep] at x ⊢;obtain ⟨a,cap,h1,h2,h3,h4⟩:=x;refine ⟨a,cap,h1,h2,h3,?_⟩;rcases h4 with h4| ⟨blk,q1,q2,q3⟩
   . exact .inl h4
   . exact .inr ⟨blk,h.μ _ _ q1,q2,h.σ _ _ q3⟩
 | .bp b off,v,x=>by
   simp only[bZ,Rep] at x ⊢;obtain ⟨blk,h1,h2⟩:=x;exact ⟨blk,h.μ _ _ h1,h2⟩
 | .mp b,v,x=>by
   simp only[bZ,Rep] at x ⊢;obtain ⟨blk,h1,h2⟩:=x;exact ⟨blk,h.μ _ _ h1,h2⟩
 | .bt b t n,v,x=>by
   simp only[bZ,Rep] at x ⊢;obtain ⟨blk,h1,h2,h3⟩:=x;exact ⟨blk,h.μ _ _ h1,h2,h.σ _ _ h3⟩
 | .kp xs,v,x=>by
   simp only[bZ,Rep] at x ⊢;obtain ⟨blk,off,h1,h2⟩:=x;exact ⟨blk,off,h1,bkC_repK h xs blk off h2⟩
 | .agg xs,v,x=>by
   simp only[bZ,Rep] at x ⊢;obtain ⟨vs,h1,h2,h3⟩:=x;exact ⟨vs,h1,bkC_repL h xs _ h2,h3⟩
 | .tup xs,v,x=>by
   simp only[bZ,Rep] at x ⊢;obtain ⟨vs,h1,h2⟩:=x;exact ⟨vs,h1,bkC_repL h xs _ h2⟩
 | .fn f xs,v,x=>by
   simp only[bZ,Rep] at x ⊢;obtain ⟨vs,h1,h2⟩:=x;exact ⟨vs,h1,bkC_repL h xs _ h2⟩
theorem bkC_repL {r:Nat→Nat}{A B:Gh}(h:BkG r A B):∀ (xs:List C)(vs:List Value),RepL A xs vs→RepL B (bkCs r xs) vs
 | [],vs,q=>by simpa[bkCs,RepL] using q
 |x::xs,vs,q=>by
  simp only[bkCs,RepL] at q ⊢;obtain ⟨v,vs',h1,h2,h3⟩:=q;exact ⟨v,vs',h1,nO h x v h2,bkC_repL h xs vs' h3⟩
theorem bkC_repK {r:Nat→Nat}{A B:Gh}(h:BkG r A B):∀ (xs:List C)(blk off:Nat),RepK A blk off xs→RepK B blk off (bkCs r xs)
 | [],_,_,_=>by simp[bkCs,RepK]
 |x::xs,blk,off,q=>by
  simp only[bkCs,RepK] at q ⊢;obtain ⟨⟨u,h1,h2,h3⟩,h4⟩:=q;exact ⟨⟨u,h.K _ _ _ h1,h2,nO h x u h3⟩,bkC_repK h xs blk (off+1) h4⟩
end
theorem wU {r:Nat→Nat}{A B:Gh}(h:BkG r A B):∀ (l:List C)(es:List MapEntry),MRep A l es→MRep B (bkCs r l) es
 | [],_,q=>by simpa[MRep,bkCs] using q
 | [_],_,q=>by simp[MRep] at q
 |k::v::l,es,q=>by
  simp only[MRep,bkCs] at q ⊢;obtain ⟨e,es',h1,h2,h3,h4⟩:=q;exact ⟨e,es',h1,nO h k _ h2,nO h v _ h3,wU h l es' h4⟩
theorem zn {r:Nat→Nat}{c:C}{s m:Nat}{xs:List C}(h:bZ r c= .sl (.own s) m xs):∃ys,c= .sl (.own s) m ys:=by
 cases c<;>simp only[bZ] at h<;>cases h
 exact ⟨_,rfl⟩
theorem CT {r:Nat→Nat}{c:C}{u:Value}(h:bZ r c= .val u):c= .val u:=by
 cases c<;>simp only[bZ] at h<;>cases h
 rfl
theorem CU {r:Nat→Nat}{c:C}{xs:List C}(h:bZ r c= .tup xs):∃ys,c= .tup ys∧xs=bkCs r ys:=by
 cases c<;>simp only[bZ] at h<;>cases h
 exact ⟨_,rfl,rfl⟩
theorem Mh {r:Nat→Nat}{o:Option (List C)}{cells:List C}(h:aR (o.map (bkCs r)) =some cells):∃c0,aR o=some c0∧cells=bkCs r c0:=by
 have h1:=dN h
 cases o with
 |none=>cases h1
 |some c0=>
  simp only[Option.map_some,Option.some.injEq] at h1;refine ⟨c0,?_,h1.symm⟩;subst h1
  cases c0 with
  |nil=>rfl
  |cons x l=>
   cases x with
   |tup xs=>simp only[Option.map_some,bkCs,bZ] at h;cases h
   |_=>rfl
theorem QM {r:Nat→Nat}{o:Option (List C)}{l:List C}(h:eK (o.map (bkCs r)) =some l):∃l0,eK o=some l0∧l=bkCs r l0:=by
 cases o with
 |none=>cases h
 |some c0=>exact un (Fs:=bkCs r) (oQ r) (fun _ _=>CT) (fun _ _=>CU) h
def g6 (ρ:List Nat)(L:Nat)(i:Nat):Nat:=match ρ[i]? with
 |some b=>b
 |none=>L+(i - ρ.length)
def fR (ρ:List Nat)(L:Nat)(b:Nat):Option Nat:=if b< L then dA ρ 0 b else some (ρ.length+(b - L))
def mS (ρ:List Nat)(H h':Hp):Hp:=
 ((List.range H.length).map fun b=>match dA ρ 0 b with
   |some i=>((h'[i]?).getD none).map (bkCs (g6 ρ H.length))
   |none=>(H[b]?).getD none)++(h'.drop ρ.length).map (Option.map (bkCs (g6 ρ H.length)))
section
variable {ρ:List Nat} {H h':Hp}
theorem v8 (hn:ρ.Nodup)(hl:∀b∈ρ,b< H.length)(i:Nat):fR ρ H.length (g6 ρ H.length i) =some i:=by
 unfold fR g6
 cases hi:ρ[i]? with
 |some b=>
  simp only[];rw[if_pos (hl b (List.mem_of_getElem? hi)),kQ hn hi,Nat.zero_add]
 |none=>
  simp only[];have:ρ.length≤i:=List.getElem?_eq_none_iff.1 hi;rw[if_neg (by omega)];congr 1;omega
theorem qE {b i:Nat}(h:fR ρ H.length b=some i):g6 ρ H.length i=b:=by
 unfold fR at h;unfold g6;split at h
 . have:=(fI h).2
   rw[Nat.sub_zero] at this;rw[this]
 . cases h
   rw[List.getElem?_eq_none (by omega)];simp only[];omega
theorem qF (b:Nat): (mS ρ H h')[b]? =match fR ρ H.length b with
 |some i=>if b< H.length then some (((h'[i]?).getD none).map (bkCs (g6 ρ H.length))) else (h'[i]?).map (Option.map (bkCs (g6 ρ H.length)))
 |none=>H[b]? :=by
 unfold mS fR;by_cases hb:b< H.length
 . rw[List.getElem?_append_left (by simpa using hb),List.getElem?_map,List.getElem?_range hb,if_pos hb]
   simp only[Option.map_some]
   cases hl:dA ρ 0 b with
   |some i=>simp only[hb,if_true]
   |none=>simp only[];rw[List.getElem?_eq_getElem hb];rfl
 . rw[List.getElem?_append_right (by simp;omega),if_neg hb]
   simp only[List.length_map,List.length_range,List.getElem?_map,List.getElem?_drop,hb,if_false]
theorem sI {b:Nat}{cells:List C}(h: (mS ρ H h').at b=some cells): (∃i c0,fR ρ H.length b=some i∧h'.at i=some c0∧cells=bkCs (g6 ρ H.length) c0)∨(fR ρ H.length b=none∧H.at b=some cells):=by
 unfold Hp.at at h;rw[qF] at h
 cases hs:fR ρ H.length b with
 |none=>rw[hs] at h;exact .inr ⟨rfl,h⟩
 |some i=>
  rw[hs] at h;left
  have:∃o,h'[i]? =some o∧aR (o.map (bkCs (g6 ρ H.length))) =some cells:=by
   simp only[] at h;split at h
   . cases hq:h'[i]? with
     |none=>rw[hq] at h;cases h
     |some o=>rw[hq] at h;exact ⟨o,rfl,h⟩
   . cases hq:h'[i]? with
     |none=>rw[hq] at h;cases h
     |some o=>rw[hq] at h;exact ⟨o,rfl,h⟩
  obtain ⟨o,h1,h2⟩:=this;obtain ⟨c0,h3,h4⟩:=Mh h2;exact ⟨i,c0,rfl,by unfold Hp.at;rw[h1];exact h3,h4⟩
theorem wV {b:Nat}{l:List C}(h: (mS ρ H h').mp b=some l): (∃i l0,fR ρ H.length b=some i∧h'.mp i=some l0∧l=bkCs (g6 ρ H.length) l0)∨(fR ρ H.length b=none∧H.mp b=some l):=by
 unfold Hp.mp at h;rw[qF] at h
 cases hs:fR ρ H.length b with
 |none=>rw[hs] at h;exact .inr ⟨rfl,h⟩
 |some i=>
  rw[hs] at h;left
  have:∃o,h'[i]? =some o∧eK (o.map (bkCs (g6 ρ H.length))) =some l:=by
   simp only[] at h;split at h
   . cases hq:h'[i]? with
     |none=>rw[hq] at h;cases h
     |some o=>rw[hq] at h;exact ⟨o,rfl,h⟩
   . cases hq:h'[i]? with
     |none=>rw[hq] at h;cases h
     |some o=>rw[hq] at h;exact ⟨o,rfl,h⟩
  obtain ⟨o,h1,h2⟩:=this;obtain ⟨c0,h3,h4⟩:=QM h2;exact ⟨i,c0,rfl,by unfold Hp.mp;rw[h1];exact h3,h4⟩
theorem GS {b i:Nat}{c0:List C}(hs:fR ρ H.length b=some i)(h:h'[i]? =some (some c0)): (mS ρ H h')[b]? =some (some (bkCs (g6 ρ H.length) c0)):=by
 rw[qF,hs];simp only[h];split<;>rfl
end
open Classical in
noncomputable def fw (ρ:List Nat)(L z:Nat)(G G2:Gh):Gh where
 K:=G2.K
 μ:=fun b=>match fR ρ L b with
  |some i=>G2.μ i
  |none=>G.μ b
 T:=fun g=>match G2.T g with
  |some p=>some (if p.1=1 then (1,g6 ρ L p.2.1,p.2.2) else p)
  |none=>if g< z∧(cU ρ G).T g=none then G.T g else none
 σ:=fun b=>match fR ρ L b with
  |some i=>G2.σ i
  |none=>G.σ b
theorem pU {P:Program}{gl:Nat→C}{f:Nat}{args:List C}{c:C}{H h':Hp}(ρ:List Nat)(hn:ρ.Nodup)(hlive:∀b∈ρ,(H.at b).isSome=true∨(H.mp b).isSome=true)
 (hD:∀b,b< H.length→b∉ρ→(H.at b).isSome=true∨(H.mp b).isSome=true∨H[b]? =some none)
 (hf:FC P gl f (mvCs ρ args) (jh ρ H) c h') (hg:∀g,ae 0 (gl g) =true):
 FC P gl f args H (bZ (g6 ρ H.length) c) (mS ρ H h'):=by
 obtain ⟨he,hf⟩:=hf;refine ⟨he,fun G w vs W hTg hgl hr=>?_⟩;have hl:∀b∈ρ,b< H.length:=fun b hb=>by
  rcases hlive b hb with h|h
  . obtain ⟨x,hx⟩:=Option.isSome_iff_exists.1 h;exact dI hx
  . obtain ⟨x,hx⟩:=Option.isSome_iff_exists.1 h;exact wN hx
 have W1:WorldOK (cU ρ G) (jh ρ H) w:=W.mv hn;have hT1:∀g,G.T g=none→(cU ρ G).T g=none:=fun g h=>by simp only[cU,h]
 have hT1b:∀g b o,G.T g=some (1,b,o)→b∉ρ→(cU ρ G).T g=none:=fun g b o h hb=>by
  simp only[cU,h,if_true]
  cases hq:dA ρ 0 b with
  |none=>rfl
  |some j=>have:=(fI hq).2;exact (hb (List.mem_of_getElem? this)).elim
 refine Calls.mono (hf (cU ρ G) w vs W1 (fun g p x=>by
  simp only[cU] at x
  cases hq:G.T g with
  |none=>rw[hq] at x;cases x
  |some q=>
   rw[hq] at x;have:=hTg g q hq;simp only[this,if_true] at x
   cases hz:dA ρ 0 q.2.1 with
   |none=>rw[hz] at x;cases x
   |some j=>rw[hz] at x;cases x;rfl) (fun g=>vh (hg g) (hgl g)) (mvC_repL _ _ hr)) ?_
 rintro e w' ⟨v,G2,rfl,rv,ro,W2,F⟩;have hμ1:∀i blk,(cU ρ G).μ i=some blk→∃b,ρ[i]? =some b∧G.μ b=some blk:=fun i blk x=>by
  simp only[cU] at x
  cases hq:ρ[i]? with
  |none=>rw[hq] at x;cases x
  |some q=>rw[hq] at x;exact ⟨q,rfl,x⟩
 have hout:∀b blk,fR ρ H.length b=none→G.μ b=some blk→((H.at b).isSome=true∨(H.mp b).isSome=true)∧∀i,(cU ρ G).μ i≠some blk:=fun b blk hs hm=>by
  obtain ⟨⟨c1,hc1⟩,_⟩:=W.dom b blk hm;have hbl:=(List.getElem?_eq_some_iff.1 hc1).1;have hbρ:b∉ρ:=fun hb=>by
   obtain ⟨i,hi⟩:=List.getElem?_of_mem hb;have:=v8 (H:=H) hn hl i;unfold g6 at this;rw[hi] at this;rw[hs] at this;cases this
  have hlv: (H.at b).isSome=true∨(H.mp b).isSome=true:=by
   rcases hD b hbl hbρ with h|h|h
   . exact .inl h
   . exact .inr h
   . rw[hc1] at h;cases h
  refine ⟨hlv,fun i hi=>?_⟩;obtain ⟨q,hq,hqm⟩:=hμ1 i blk hi;have hqρ:=List.mem_of_getElem? hq;have hne:b≠q:=fun e=>hbρ (e▸hqρ);rcases hlv with h1|h1<;>rcases hlive q hqρ with h2|h2<;>obtain ⟨x1,y1⟩:=Option.isSome_iff_exists.1 h1<;>obtain ⟨x2,y2⟩:=Option.isSome_iff_exists.1 h2
  . exact hne (W.inj b q _ _ blk y1 y2 hm hqm)
  . obtain ⟨k,es,clk,q1,q2,_⟩:=W.mpo q x2 y2
    rw[hqm] at q1;cases q1
    obtain ⟨cs,e,⟨fr,r2,_⟩,_⟩:=W.bx y1 hm;rw[q2] at r2;cases r2
  . obtain ⟨k,es,clk,q1,q2,_⟩:=W.mpo b x1 y1
    rw[hm] at q1;cases q1
    obtain ⟨cs,e,⟨fr,r2,_⟩,_⟩:=W.bx y2 hqm;rw[q2] at r2;cases r2
  . exact hne (W.mpi b q _ _ blk y1 y2 hm hqm)
 have hobl:∀b blk,fR ρ H.length b=none→G.μ b=some blk→w'.heap[blk]? =w.heap[blk]? ∧G2.T blk=none∧(∀i,G2.μ i≠some blk)∧∀o,G2.K blk o=G.K blk o:=fun b blk hs hm=>
  F.old blk (W.dom b blk hm).2 (hT1 _ (W.sep b blk hm).2) (hout b blk hs hm).2
 have hμlt:∀b blk,G.μ b=some blk→blk< w.heap.size:=fun b blk x=>(W.dom b blk x).2;have hrow:∀g b o,G.T g=some (1,b,o)→b∉ρ→w'.heap[g]? =w.heap[g]? ∧G2.T g=none∧(∀i,G2.μ i≠some g)∧∀o,G2.K g o=G.K g o:=fun g b o hg hb=>
  F.old g (W.tlt g _ hg) (hT1b g b o hg hb) (fun i hi=>by
   obtain ⟨q,_,hq⟩:=hμ1 i g hi;have:=(W.sep q g hq).2;rw[hg] at this;cases this)
 have gk:BkG (g6 ρ H.length) G2 (fw ρ H.length w.heap.size G G2):=⟨fun _ _ _ x=>x,fun i k x=>by simp only[fw,v8 hn hl];exact x,fun i z x=>by simp only[fw,v8 hn hl];exact x⟩;have le3:G.Le (fw ρ H.length w.heap.size G G2):=by
  refine ⟨fun b o u x=>F.le.K b o u x,fun b k x=>?_,fun b z x=>?_⟩
  . simp only[fw]
    cases hs:fR ρ H.length b with
    |none=>exact x
    |some i=>
     simp only[];have hb:=qE hs;refine F.le.μ i k ?_;obtain ⟨⟨c1,hc1⟩,_⟩:=W.dom b k x;have hbl:=(List.getElem?_eq_some_iff.1 hc1).1;simp only[fR,hbl,if_true] at hs;have:=(fI hs).2;rw[Nat.sub_zero] at this;simp only[cU,this];exact x
  . simp only[fw]
    cases hs:fR ρ H.length b with
    |none=>exact x
    |some i=>
     simp only[];refine F.le.σ i z ?_;obtain ⟨blk,_,_,_,q1,_⟩:=W.siz b z x;obtain ⟨⟨c1,hc1⟩,_⟩:=W.dom b blk q1;have hbl:=(List.getElem?_eq_some_iff.1 hc1).1;simp only[fR,hbl,if_true] at hs;have:=(fI hs).2;rw[Nat.sub_zero] at this;simp only[cU,this];exact x
 have hSρ:∀b,fR ρ H.length b=none→b∉ρ:=fun b hs hb=>by
  obtain ⟨i,hi⟩:=List.getElem?_of_mem hb;have:=v8 (H:=H) hn hl i;unfold g6 at this;rw[hi] at this;rw[hs] at this;cases this
 have ownI:∀ (p p':bB)(u:Value)(s n:Nat),OwnRow G2 w' p u s n→p'= (if p.1=1 then (1,g6 ρ H.length p.2.1,p.2.2) else p)→OwnRow (fw ρ H.length w.heap.size G G2) w' p' u s n:=fun p p' u s n O hp=>by
  rcases O with O| ⟨g,cap,cur,e,a1,a2,a3,a4,a5,a6⟩
  . exact .inl O
  . refine .inr ⟨g,cap,cur,e,a1,by simp only[fw,a2];rw[hp],a3,a4,a5,fun b hb=>?_⟩
    simp only[fw] at hb
    cases hs:fR ρ H.length b with
    |some i=>rw[hs] at hb;exact a6 i hb
    |none=>
     rw[hs] at hb;have:=(hobl b g hs hb).2.1;rw[a2] at this;cases this
 refine ⟨v,fw ρ H.length w.heap.size G G2,rfl,nO gk c v rv,fun s n xs e=>?_,⟨fun blk off u x=>W2.known blk off u x,fun b cells hb=>?_,fun b blk hm=>?_,fun b b' c1 c2 blk hb hb' hm hm'=>?_,fun b blk hm=>?_,fun g p hp=>?_,fun b cells off s n xs blk u hb hc hm hv=>?_,fun b z hz=>?_,fun b l hb=>?_,fun b b' l l' blk hb hb' hm hm'=>?_⟩,F.os,F.tape,F.output,F.size,le3,fun g hg' ht hm=>?_⟩
 . obtain ⟨ys,hy⟩:=zn e
   exact ownI _ _ v s n (ro s n ys hy) rfl
 . rcases sI hb with ⟨i,c0,hs,h1,rfl⟩ | ⟨hs,h1⟩
   . rcases W2.box i c0 h1 with ⟨hE,hE2⟩ | ⟨blk,cs,e,q1,q2,q3,q4,q5⟩
     . exact .inl ⟨by rw[hE];rfl,by simp only[fw,hs];exact hE2⟩
     . have hlen: (bkCs (g6 ρ H.length) c0).length=c0.length:=by rw[oQ];simp
       exact .inr ⟨blk,cs,e,by simp only[fw,hs];exact q1,q2,by rw[hlen];exact q3,by rw[hlen];exact bkC_repL gk _ _ q4,q5⟩
   . rcases W.box b cells h1 with ⟨hE,hE2⟩ | ⟨blk,cs,e,q1,q2,q3,q4,q5⟩
     . exact .inl ⟨hE,by simp only[fw,hs];exact hE2⟩
     . exact .inr ⟨blk,cs,e,by simp only[fw,hs];exact q1,by rw[(hobl b blk hs q1).1];exact q2,q3,q4.mono le3,q5⟩
 . simp only[fw] at hm
   cases hs:fR ρ H.length b with
   |some i=>
    rw[hs] at hm;obtain ⟨⟨c1,hc1⟩,hlt⟩:=W2.dom i blk hm;exact ⟨⟨_,GS hs hc1⟩,hlt⟩
   |none=>
    rw[hs] at hm;obtain ⟨⟨c1,hc1⟩,hlt⟩:=W.dom b blk hm;exact ⟨⟨c1,by rw[qF,hs];exact hc1⟩,Nat.lt_of_lt_of_le hlt F.size⟩
 . simp only[fw] at hm hm'
   rcases sI hb with ⟨i,c0,hs,h1,_⟩ | ⟨hs,h1⟩ <;>rcases sI hb' with ⟨i',c0',hs',h1',_⟩ | ⟨hs',h1'⟩
   . rw[hs] at hm
     rw[hs'] at hm';have:=W2.inj i i' _ _ blk h1 h1' hm hm';subst this;rw[←qE hs,←qE hs']
   . rw[hs] at hm
     rw[hs'] at hm';exact ((hobl b' blk hs' hm').2.2.1 i hm).elim
   . rw[hs] at hm
     rw[hs'] at hm';exact ((hobl b blk hs hm).2.2.1 i' hm').elim
   . rw[hs] at hm
     rw[hs'] at hm';exact W.inj b b' _ _ blk h1 h1' hm hm'
 . simp only[fw] at hm
   cases hs:fR ρ H.length b with
   |some i=>
    rw[hs] at hm;obtain ⟨s1,s2⟩:=W2.sep i blk hm;refine ⟨s1,?_⟩;simp only[fw,s2];split
    . rename_i hc
      cases hq:G.T blk with
      |none=>rfl
      |some p=>
       have hp1:=hTg blk p hq;obtain ⟨p1,pb,po⟩:=p;simp only at hp1;subst hp1;have hpb:pb∉ρ:=fun hb=>by
        obtain ⟨j,hj⟩:=List.getElem?_of_mem hb;have h1:=hc.2;simp only[cU,hq,if_true,kQ (k:=0) hn hj] at h1;cases h1
       exact ((hrow blk pb po hq hpb).2.2.1 i hm).elim
    . rfl
   |none=>
    rw[hs] at hm;obtain ⟨s1,s2⟩:=W.sep b blk hm;obtain ⟨o1,o2,o3,o4⟩:=hobl b blk hs hm;refine ⟨fun o=>(o4 o).trans (s1 o),?_⟩;simp only[fw,o2,s2];split<;>rfl
 . simp only[fw] at hp
   cases hq:G2.T g with
   |some p2=>exact W2.tlt g p2 hq
   |none=>
    rw[hq] at hp;simp only[] at hp;split at hp
    . exact Nat.lt_of_lt_of_le (W.tlt g p hp) F.size
    . cases hp
 . simp only[fw] at hm
   rcases sI hb with ⟨i,c0,hs,h1,rfl⟩ | ⟨hs,h1⟩
   . rw[hs] at hm
     rw[oQ,List.getElem?_map] at hc
     cases hq:c0[off]? with
     |none=>rw[hq] at hc;cases hc
     |some y=>
      rw[hq] at hc;simp only[Option.map_some,Option.some.injEq] at hc;obtain ⟨ys,rfl⟩:=zn hc;refine ownI _ _ u s n (W2.own i c0 off s n ys blk u h1 hq hm hv) ?_;rw[if_pos rfl,qE hs]
   . rw[hs] at hm
     have hcell:w'.cell? ⟨blk,off,none⟩ =w.cell? ⟨blk,off,none⟩:=by
      unfold World.cell?;rw[(hobl b blk hs hm).1]
     rcases W.own b cells off s n xs blk u h1 hc hm (by rw[←hcell];exact hv) with O| ⟨g,cap,cur,e,a1,a2,a3,a4,a5,a6⟩
     . exact .inl O
     . have hbρ:=hSρ b hs
       obtain ⟨o1,o2,o3,o4⟩:=hrow g b off a2 hbρ;refine .inr ⟨g,cap,cur,e,a1,?_,o1.trans a3,a4,fun o ho=>(o4 o).trans (a5 o ho),fun b' hb'=>?_⟩
       . simp only[fw,o2]
         rw[if_pos ⟨W.tlt g _ a2,hT1b g b off a2 hbρ⟩];exact a2
       . simp only[fw] at hb'
         cases hs':fR ρ H.length b' with
         |some i=>rw[hs'] at hb';exact o3 i hb'
         |none=>rw[hs'] at hb';exact a6 b' hb'
 . simp only[fw] at hz ⊢
   cases hs:fR ρ H.length b with
   |some i=>
    rw[hs] at hz;exact W2.siz i z hz
   |none=>
    rw[hs] at hz;obtain ⟨blk,cs,e,fr,q1,q2,q3⟩:=W.siz b z hz;exact ⟨blk,cs,e,fr,q1,(hobl b blk hs q1).1.trans q2,q3⟩
 . rcases wV hb with ⟨i,l0,hs,h1,rfl⟩ | ⟨hs,h1⟩
   . obtain ⟨blk,es,clk,q1,q2,q3⟩:=W2.mpo i l0 h1
     exact ⟨blk,es,clk,by simp only[fw,hs];exact q1,q2,wU gk _ _ q3⟩
   . obtain ⟨blk,es,clk,q1,q2,q3⟩:=W.mpo b l h1
     exact ⟨blk,es,clk,by simp only[fw,hs];exact q1,(hobl b blk hs q1).1.trans q2,q3.mono le3⟩
 . simp only[fw] at hm hm'
   rcases wV hb with ⟨i,c0,hs,h1,_⟩ | ⟨hs,h1⟩ <;>rcases wV hb' with ⟨i',c0',hs',h1',_⟩ | ⟨hs',h1'⟩
   . rw[hs] at hm
     rw[hs'] at hm';have:=W2.mpi i i' _ _ blk h1 h1' hm hm';subst this;rw[←qE hs,←qE hs']
   . rw[hs] at hm
     rw[hs'] at hm';exact ((hobl b' blk hs' hm').2.2.1 i hm).elim
   . rw[hs] at hm
     rw[hs'] at hm';exact ((hobl b blk hs hm).2.2.1 i' hm').elim
   . rw[hs] at hm
     rw[hs'] at hm';exact W.mpi b b' _ _ blk h1 h1' hm hm'
 . obtain ⟨o1,o2,o3,o4⟩:=F.old g hg' (hT1 g ht) (fun i hi=>by obtain ⟨q,_,hq⟩:=hμ1 i g hi;exact hm q hq)
   refine ⟨o1,?_,fun b hb=>?_,o4⟩
   . simp only[fw,o2,ht];split<;>rfl
   . simp only[fw] at hb
     cases hs:fR ρ H.length b with
     |some i=>rw[hs] at hb;exact o3 i hb
     |none=>rw[hs] at hb;exact hm b hb
mutual
theorem CV (r:Nat→Nat):∀c:C,ae 0 c=true→bZ r c=c
 | .val _,_=>by simp only[bZ]
 | .top,_=>by simp only[bZ]
 | .agg xs,h=>by simp only[ae] at h;simp only[bZ,bk0s_nr r xs h]
 | .tup xs,h=>by simp only[ae] at h;simp only[bZ,bk0s_nr r xs h]
 | .kp xs,h=>by simp only[ae] at h;simp only[bZ,bk0s_nr r xs h]
 | .fn _ xs,h=>by simp only[ae] at h;simp only[bZ,bk0s_nr r xs h]
 | .sl _ _ xs,h=>by simp only[ae] at h;simp only[bZ,bk0s_nr r xs h]
 | .sv _ _ _,h=>by simp[ae] at h
 | .gv _ _ _,h=>by simp[ae] at h
 | .bp _ _,h=>by simp[ae] at h
 | .bt _ _ _,h=>by simp[ae] at h
 | .mp _,h=>by simp[ae] at h
theorem bk0s_nr (r:Nat→Nat):∀l:List C,noRefs 0 l=true→bkCs r l=l
 | [],_=>by simp only[bkCs]
 |x::xs,h=>by simp only[noRefs,Bool.and_eq_true] at h;simp only[bkCs,CV r x h.1,bk0s_nr r xs h.2]
end
theorem Mi (b i:Nat):dA [b] 0 i=if i=b then some 0 else none:=by
 simp only[dA]
theorem Mj {h:Hp}{b:Nat}{cells':List C}(hb:b< h.length)(hx:noRefs 0 cells'=true):mS [b] h [some cells'] =h.set b (some cells'):=by
 unfold mS;simp only[List.length_singleton,List.drop_succ_cons,List.drop_zero,List.drop_nil,List.map_nil,List.append_nil];apply List.ext_getElem?;intro i;rw[List.getElem?_map,List.getElem?_set];by_cases hi:i< h.length
 . rw[List.getElem?_range hi,Option.map_some,Mi]
   by_cases e:i=b
   . subst e
     rw[if_pos rfl,if_pos rfl,if_pos hi];simp only[List.getElem?_cons_zero,Option.getD_some,Option.map_some];rw[bk0s_nr _ _ hx]
   . rw[if_neg e,if_neg (fun q=>e q.symm)]
     simp only[];rw[List.getElem?_eq_getElem hi];rfl
 . rw[List.getElem?_eq_none (by simp;omega),if_neg (by omega),List.getElem?_eq_none (by omega)];rfl
theorem FC.one {P:Program}{gl:Nat→C}{f:Nat}{az:List C}{h:Hp}{b:Nat}{cells cells':List C}{c:C}(hb:h.at b=some cells)(hall:h.all da=true)(hf:FC P gl f (mvCs [b] az) [some (mvCs [b] cells)] c [some cells'])(hc:ae 0 c=true)(hx:noRefs 0 cells'=true)(hg:∀g,ae 0 (gl g) =true):FC P gl f az h c (h.set b (some cells')):=by
 have hlt:=dI hb;have hget:h[b]? =some (some cells):=by
  unfold Hp.at at hb
  cases hq:h[b]? with
  |none=>rw[hq] at hb;cases hb
  |some o=>rw[hq] at hb;exact congrArg some (dN hb)
 have hm:jh [b] h= [some (mvCs [b] cells)]:=by
  unfold jh;simp only[List.map_cons,List.map_nil,hget,Option.getD_some,Option.map_some]
 have q:=pU (P:=P) (gl:=gl) (f:=f) (args:=az) (c:=c) (H:=h) (h':=[some cells']) [b] (by simp) (fun x hx=>by
  rw[List.mem_singleton] at hx;subst hx
  left;rw[hb];rfl) (fun x hx hn=>by
  have h3:=List.all_eq_true.1 hall _ (List.getElem_mem hx);simp only[da,Bool.or_eq_true] at h3;unfold Hp.at Hp.mp;rw[List.getElem?_eq_getElem hx];rcases h3 with (h|h) |h
  . exact .inl h
  . exact .inr (.inl h)
  . exact .inr (.inr (by congr 1;exact Option.isNone_iff_eq_none.1 h))) (by rw[hm];exact hf) hg
 rw[CV _ _ hc,Mj hlt hx] at q;exact q
theorem A2 {r:Option Nat}{n:Nat}{P:Program}{f:FuncId}{args:Array Value}{w:World}{R:Ending→World→Prop}(h:Calls P f args w R):CallsIn (wF r) n P f args w R:=(callsIn_wide (n:=n)).2 h
theorem wW (z:List Value):∀n,(bG z n).length=n*z.length
 |0=>by simp[bG]
 |n+1=>by simp[bG,wW z n,Nat.add_mul,Nat.add_comm]
structure CxOK (cx:Cx):Prop where
 glo:∀g,ae 0 (cx.gl g) =true
 pu:∀f args c,cx.pu f args=some c→∀h,FC cx.P cx.gl f args h c h
 hp:∀f args h c h',cx.hp f args h=some (c,h')→FC cx.P cx.gl f args h c h'
 km:∀k u,cx.km k u=true→Go.Maps.Keyed cx.P k∧∃l,keyOf cx.P k u=some l
section
variable {cx:Cx} {G:Gh} {h:Hp} {w:World} {st:St} {a:Act} {o:Oper} {P:Program}
def eM (G:Gh):Gh:= { G with T:=fun g=>match G.T g with|some p=>if p.1=1 then some p else none|none=>none }
def l7 (G:Gh)(n:Nat)(G':Gh)(d:bB):Gh:=
 { G' with T:=fun g=>if g< n∧(G.T g≠(eM G).T g) then G.T g else match G'.T g with|some p=>if p.1=1 then some p else if p= (2,0,0) then some d else none|none=>none }
theorem fY:G.Le (eM G):=⟨fun _ _ _ x=>x,fun _ _ x=>x,fun _ _ x=>x⟩
theorem ib {g:Nat}(h:G.T g=none): (eM G).T g=none:=by simp[eM,h]
theorem wX {g:Nat}{b o:Nat}(h:G.T g=some (1,b,o)): (eM G).T g=some (1,b,o):=by simp[eM,h]
theorem vi {g:Nat}{p:bB}(h:G.T g=some p)(hp:p.1≠1): (eM G).T g=none:=by simp[eM,h,hp]
theorem uo (H:WorldOK G h w):WorldOK (eM G) h w:=by
 refine ⟨H.known,fun b c hb=>?_,H.dom,H.inj,fun b k hb=>?_,fun g p hg=>?_,fun b cells off s n xs blk v hb hc hm hv=>?_,H.siz,H.mpoT (fun _ _ x=>x) (fun _ _ _ x=>x) fY,H.mpi⟩
 . rcases H.box b c hb with hE| ⟨blk,cs,e,h1,h2,h0,h3,h4⟩
   . exact .inl hE
   . exact .inr ⟨blk,cs,e,h1,h2,h0,h3.mono fY,h4⟩
 . obtain ⟨s1,s2⟩:=H.sep b k hb
   exact ⟨s1,ib s2⟩
 . cases hq:G.T g with
   |none=>rw[ib hq] at hg;cases hg
   |some q=>exact H.tlt g q hq
 . rcases H.own b cells off s n xs blk v hb hc hm hv with O| ⟨g,cap,cur,e,a1,a2,a3,a4,a5,a6⟩
   . exact .inl O
   . exact .inr ⟨g,cap,cur,e,a1,wX a2,a3,a4,a5,a6⟩
theorem rK {G':Gh}{w':World}{h':Hp}(H:WorldOK G h w)(F:Frm (eM G) w G' w'){g:Nat}(hg:g< w.heap.size)(hne:G.T g≠(eM G).T g):
 w'.heap[g]? =w.heap[g]? ∧G'.T g=none∧(∀b,G'.μ b≠some g)∧∀o,G'.K g o=G.K g o:=by
 obtain ⟨p,hp⟩:∃p,G.T g=some p:=by
  cases hq:G.T g with
  |none=>rw[ib hq,hq] at hne;exact absurd rfl hne
  |some p=>exact ⟨p,rfl⟩
 have hp1:p.1≠1:=fun e=>by
  obtain ⟨p1,b,o⟩:=p;cases e;rw[wX hp] at hne;exact hne hp
 have hb:∀b,G.μ b≠some g:=fun b hb=>by
  have:=(H.sep b g hb).2;rw[hp] at this;cases this
 exact F.old g hg (vi hp hp1) hb
theorem rL (H:Pre cx G w st a){G':Gh}{w':World}{h':Hp}{c:C}{v:Value}(d:bB)(W:WorldOK G' h' w')(F:Frm (eM G) w G' w')(hr:Rep G' c v)
 (ho:∀s n xs,c= .sl (.own s) n xs→OwnRow G' w' (2,0,0) v s n):Out G w ⟨st.env,h'⟩ (av a) d c v (l7 G w.heap.size G' d) w':=by
 have le0:G'.Le (l7 G w.heap.size G' d):=⟨fun _ _ _ x=>x,fun _ _ x=>x,fun _ _ x=>x⟩;have le:G.Le (l7 G w.heap.size G' d):=⟨F.le.K,F.le.μ,F.le.σ⟩;have fresh:∀g p,G'.T g=some p→¬ (g< w.heap.size∧G.T g≠(eM G).T g):=fun g p hg hh=>by
  have:=(rK (h':=h') H.ok F hh.1 hh.2).2.1;rw[hg] at this;cases this
 have own1:∀ {b o:Nat}{v':Value}{s n:Nat},OwnRow G' w' (1,b,o) v' s n→OwnRow (l7 G w.heap.size G' d) w' (1,b,o) v' s n:=by
  intro b o v' s n O;rcases O with O| ⟨g,cap,cur,e,a1,a2,a3,a4,a5,a6⟩
  . exact .inl O
  . exact .inr ⟨g,cap,cur,e,a1,by simp only[l7];rw[if_neg (fresh g _ a2),a2];rfl,a3,a4,a5,a6⟩
 refine ⟨hr.mono le0,?_,⟨W.known,fun b cells hb=>?_,W.dom,W.inj,fun b k hb=>?_,fun g p hg=>?_,fun b cells off s n xs blk v' hb hc hm hv=>own1 (W.own b cells off s n xs blk v' hb hc hm hv),W.siz,W.mpoT (fun _ _ x=>x) (fun _ _ _ x=>x) le0,W.mpi⟩,⟨fun t=>(H.env.1 t).mono le,fun t s n xs he=>?_⟩,?_⟩
 . intro s n xs e
   rcases ho s n xs e with O| ⟨g,cap,cur,e',a1,a2,a3,a4,a5,a6⟩
   . exact .inl O
   . exact .inr ⟨g,cap,cur,e',a1,by simp only[l7];rw[if_neg (fresh g _ a2),a2];rfl,a3,a4,a5,a6⟩
 . rcases W.box b cells hb with hE| ⟨blk,cs,e,h1,h2,h0,h3,h4⟩
   . exact .inl hE
   . exact .inr ⟨blk,cs,e,h1,h2,h0,h3.mono le0,h4⟩
 . obtain ⟨s1,s2⟩:=W.sep b k hb
   refine ⟨s1,?_⟩;simp only[l7];rw[if_neg]
   . rw[s2]
   . intro hh
     exact (rK (h':=h') H.ok F hh.1 hh.2).2.2.1 b hb
 . simp only[l7] at hg
   split at hg
   . rename_i hh;exact Nat.lt_of_lt_of_le hh.1 F.size
   . cases hq:G'.T g with
     |none=>rw[hq] at hg;cases hg
     |some q=>exact W.tlt g q hq
 . rcases H.env.2 t s n xs he with O| ⟨g,cap,cur,e',a1,a2,a3,a4,a5,a6⟩
   . exact .inl O
   . have hlt:=H.ok.tlt g _ a2
     have hne:G.T g≠(eM G).T g:=by rw[a2,vi a2 (by simp)];simp
     obtain ⟨b1,b2,b3,b4⟩:=rK (h':=h') H.ok F hlt hne;exact .inr ⟨g,cap,cur,e',a1,by simp only[l7];rw[if_pos ⟨hlt,hne⟩];exact a2,by rw[b1];exact a3,a4,fun q hq=>by show G'.K g q=none;rw[b4];exact a5 q hq,b3⟩
 . refine ⟨F.os,F.tape,F.output,F.size,le,fun g hg ht hm=>?_⟩
   obtain ⟨b1,b2,b3,b4⟩:=F.old g hg (ib ht) hm;refine ⟨b1,?_,b3,b4⟩;simp only[l7];rw[if_neg (by rw[ht,ib ht];simp),b2]
theorem qG (H:Pre cx G w st a){f:Operand}{args:Array Operand}{ts:Array TypeId}{g:Nat}{caps:List C}{c:C}{h':Hp}(ho:o.op= .call { callee:= .value f,args,argTypes:=ts })
 (hf:cx.evn st.env f= .fn g caps) (hFC:FC cx.P cx.gl g ((args.toList.map (cx.evn st.env)).map C.share++caps) st.h c h') (d:bB):OpOK cx.P o a G w ⟨st.env,h'⟩ d c:=by
 have hx:=H.evn f;rw[hf] at hx;simp only[Rep] at hx;obtain ⟨cv,hfv,hcaps⟩:=hx;obtain ⟨⟨fn,e1,e2,e3⟩,hcall⟩:=hFC;have hrun: (execOp a.eval o).run cx.P w= .ok (.enter g (args.map a.eval++cv)) w:=by
  have e2': ¬fn.name= "runtime.NumGoroutine" :=by simpa using e2
  have e3':¬fn.body=none:=by cases hq:fn.body<;>simp_all
  simp[execOp,ho,resolve,hfv,Deferred.ofValue,invoke,callFunc,e1,e2',e3',program,Sem.run]
 have hargs:RepL (eM G) ((args.toList.map (cx.evn st.env)).map C.share++caps) (args.map a.eval++cv).toList:=by
  simp only[Array.toList_append,Array.toList_map];refine RepL.append ?_ (hcaps.mono fY);refine RepL.of_get (by simp) fun i x v hxx hv=>?_;simp only[List.map_map,List.getElem?_map] at hxx hv
  cases hq:args.toList[i]? with
  |none=>rw[hq] at hxx;cases hxx
  |some q=>
   rw[hq] at hxx hv;cases hxx;cases hv
   exact (qd (H.evn q)).mono fY
 intro r K Q hK;refine ⟨fun _ _=>trivial,?_⟩;rw[show (wF r).round=r from rfl,o8 (fun d e=>by cases e) hrun];simp only[Oper.uponIn];refine ⟨(fun h=>by cases h),A2 ?_⟩;refine (hcall (eM G) w _ (uo H.ok) (fun g p hg=>?_) (fun g=>(H.glob g).mono fY) hargs).mono ?_
 . simp only[eM] at hg
   cases hq:G.T g with
   |none=>rw[hq] at hg;cases hg
   |some q=>
    rw[hq] at hg;simp only[] at hg;split at hg
    . cases hg;assumption
    . cases hg
 . rintro e w' ⟨v,G',rfl,q1,q2,q3,q4⟩
   exact hK v _ w' (rL H d q3 q4 q1 q2)
theorem eg (H:Pre cx G w st a){d:bB}{s:Sem Value}(hex: (execOp a.eval o).run cx.P w= (s.run cx.P w).andThen fun v w'=> .ok (.value v) w'){p:Plan}{id:Nat}{c:C}{st':St}(hact:b8 cx id p st=some (c,st'))
 (h:∃c v,p= .val c none∧c.noOwn∧s.run cx.P w= .ok v w∧Rep G c v):OpOK cx.P o a G w st' d c:=by
 obtain ⟨c',v,rfl,hno,hrun,hr⟩:=h;simp only[b8,aA] at hact;cases hact;exact OpOK.pure H (by rw[hex,hrun];rfl) hr hno
theorem CW (H:Pre cx G w st a){t t2:TypeId}{x y:Operand}{p:Plan}(ho:o.op= .call { callee:= .builtin .append,args:= #[x,y],argTypes:= #[t,t2] })
 {yc:C} (hy:Rep G yc.it (a.eval y)) (hp:eh cx.P t t2 (cx.ev st.env x) yc.it (dO x) =some p) {id:Nat} {c:C} {st':St} (hact:b8 cx id p st=some (c,st')) (d:bB):OpOK cx.P o a G w st' d c:=by
 have hx:=H.ev x;have hex:=eS (P:=cx.P) (w:=w) (a:=a) .append #[x,y] #[t,t2] (Builtin.append_ #[t,t2] o.type #[a.eval x,a.eval y]) ho (fun cs=>by simp[builtin]);unfold eh at hp;split at hp
 . cases hp
 . cases hp
 rename_i dt d2 hd hd2;split at hp
 . cases hp
 rename_i hn2;split at hp
 . rename_i e hu
   split at hp
   . cases hp
   rename_i de he;simp only[] at hp;have start:∀n xs k,(match cx.ev st.env x with
    | .val (.slice none 0 0) =>some (0,[],none)
    | .sl .full n xs=>some (n,xs,none)
    | .sl (.own s) n xs=>if s=de.size then some (n,xs,dO x) else none
    |_=>none) =some (n,xs,k)→
    ∃b cap,a.eval x= .slice b n cap∧n≤cap∧cap≤maxLen∧(xs= []∨∃blk off,b=some ⟨blk,off,none⟩∧RepK G blk off xs)∧(cap=n∨∃q,k=some q∧OwnRow G w (0,q,0) (.slice b n cap) de.size n):=by
    intro n xs k hs;split at hs
    . rename_i hc
      cases hs;rw[hc,aj] at hx;exact ⟨none,0,hx,Nat.le_refl _,Nat.zero_le _,.inl rfl,.inl rfl⟩
    . rename_i n' xs' hc
      cases hs;rw[hc] at hx;simp only[Rep] at hx;obtain ⟨b,cap,h1,h2,h3,h4,h5⟩:=hx;exact ⟨b,cap,h1,h2,h3,h5,.inl (h4 trivial)⟩
    . rename_i s n' xs' hc
      split at hs
      . rename_i hsz
        cases hs;have hx0:=hx;rw[hc] at hx;simp only[Rep] at hx;obtain ⟨b,cap,h1,h2,h3,h4,h5⟩:=hx;refine ⟨b,cap,h1,h2,h3,h5,?_⟩
        cases x with
        |tmp q=>
         have:=H.env.2 q _ _ _ hc;have hv:av a q= .slice b n cap:=h1;rw[hv] at this;exact .inr ⟨q,rfl,hsz▸this⟩
        |const v=>cases hc
        |global g=>exact (gR hc).elim
        |func f=>cases hc
      . cases hs
    . cases hs
   split at hp
   . cases hp
   rename_i n xs k hs;obtain ⟨b,cap,hxv,hnc,hcm,hk,hst⟩:=start n xs k hs;split at hp
   . rename_i b' off m hyc
     split at hp
     . cases hp
       simp only[b8,aA] at hact
       cases hb:st.h.at b' with
       |none=>rw[hb] at hact;cases hact
       |some cells=>
        rw[hb] at hact;simp only[Option.bind_some] at hact;split at hact
        . rename_i hoff
          split at hact
          . rename_i hf
            simp only[Option.map_some,Option.some.injEq,Prod.mk.injEq] at hact;obtain ⟨rfl,rfl⟩:=hact;rw[hyc] at hy;obtain ⟨news,n1,n2,n3⟩:=te (P:=cx.P) H.ok hb hoff hy;obtain ⟨v,w',G',r1,r2⟩:=nz H d (ty:=o.type) hd hu he hd2 (by simpa using hn2) hnc hcm hk hst (by rw[n1,hf.2.1]) n2 n3 hf.1 hf.2.1 hf.2.2.1 hf.2.2.2.1 hf.2.2.2.2.1 hf.2.2.2.2.2;rw[nq hb];exact bO (by rw[hex,hxv,r1];rfl) ⟨G',r2⟩
          . cases hact
        . cases hact
     . rename_i hkn
       have hk0:k=none:=by cases k with|none=>rfl|some q=>simp at hkn
       subst hk0;cases hp;simp only[b8,aA] at hact
       cases hb:st.h.at b' with
       |none=>rw[hb] at hact;cases hact
       |some cells=>
        rw[hb] at hact;simp only[Option.bind_some] at hact;split at hact
        . rename_i hoff
          split at hact
          . rename_i hf
            cases hact;rw[hyc] at hy;obtain ⟨news,n1,n2,n3⟩:=te (P:=cx.P) H.ok hb hoff hy;obtain ⟨v,w',G',r1,r2⟩:=nz H d (ty:=o.type) hd hu he hd2 (by simpa using hn2) hnc hcm hk hst (by rw[n1,hf.2.1]) n2 n3 hf.1 hf.2.1 hf.2.2.1 hf.2.2.2.1 hf.2.2.2.2.1 hf.2.2.2.2.2;exact bO (by rw[hex,hxv,r1];rfl) ⟨G',r2⟩
          . cases hact
        . cases hact
   . rename_i hnsv
     split at hp
     . rename_i m ys hsrc
       split at hp
       . rename_i hf
         cases hp;simp only[b8,aA] at hact;cases hact;obtain ⟨news,n1,n2,n3⟩:=xP (P:=cx.P) H.ok hsrc hf.2.1 hy;obtain ⟨v,w',G',r1,r2⟩:=nz H d (ty:=o.type) hd hu he hd2 (by simpa using hn2) hnc hcm hk hst n1 n2 n3 hf.1 hf.2.1 hf.2.2.1 hf.2.2.2.1 hf.2.2.2.2.1 hf.2.2.2.2.2;exact bO (by rw[hex,hxv,r1];rfl) ⟨G',r2⟩
       . cases hp
     . cases hp
 . cases hp
theorem GT (hcx:CxOK cx)(H:Pre cx G w st a){ops:Array Oper}{p:Plan}(hp:splan cx ops o st.env=some p){id:Nat}{c:C}{st':St}(hact:b8 cx id p st=some (c,st'))(d:bB):
 OpOK cx.P o a G w st' d c:=by
 unfold splan at hp;simp only[] at hp;split at hp
 ·
  rename_i x ho;split at hp
  . rename_i q
    cases hp;have hrun: (execOp a.eval o).run cx.P w= .ok (.value (a.eval (.tmp q))) w:=by simp only[execOp,ho,Sem.run_pure]
    split at hact
    . simp only[b8,aA] at hact
      cases hact;exact OpOK.move H (x:= .tmp q) rfl hrun
    . simp only[b8,aA,Plan.pure] at hact
      cases hact;exact OpOK.pure H hrun (H.env.1 q).noR (cQ _)
  . cases hp
    simp only[b8,aA,Plan.pure] at hact;cases hact;exact OpOK.pure H (by simp only[execOp,ho,Sem.run_pure]) (H.evn x) (cQ _)
 ·
  rename_i x ho;cases hp;simp only[b8,aA] at hact;cases hact;exact OpOK.move H rfl (by simp only[execOp,ho,Sem.run_pure])
 ·
  rename_i b x y ho;have hb:=H.evn b;split at hp
  . rename_i hc
    cases hp;simp only[b8,aA,Plan.pure] at hact;cases hact;rw[hc,aj] at hb;exact OpOK.pure H (v:=a.eval x) (by simp[execOp,ho,hb,asBool]) (H.evn x) (cQ _)
  . rename_i hc
    cases hp;simp only[b8,aA,Plan.pure] at hact;cases hact;rw[hc,aj] at hb;exact OpOK.pure H (v:=a.eval y) (by simp[execOp,ho,hb,asBool]) (H.evn y) (cQ _)
  . cases hp
 ·
  rename_i t ho;split at hp
  . rename_i dt hd
    split at hp
    . rename_i hz1
      cases hp;simp only[b8,aA] at hact;split at hact
      . rename_i hid
        cases hact;obtain ⟨_,i,z,hi,_,_,hz,hzz⟩:=aQ hd;refine OpOK.new H hid (vs:=z.cells) (e:=t) (v:= .pointer (some ⟨w.heap.size,0,none⟩)) ?_ (xW hzz) (fun u hu=>by rw[hzz] at hu;exact (List.all_eq_true.1 hz1) u hu) ?_ (fun G' hG hs=>by split;all_goals simp only[Rep];all_goals first|exact ⟨_,hG,rfl⟩ |exact ⟨_,hG,rfl,by rw[hs];exact congrArg some (congrArg (·,t) (by rw[←hzz];simp))⟩) (by split<;>trivial)
        . simp[execOp,ho,Instr.alloc,zeroValue,typeInfo,hi,hz,newVar,newRow]
        . intro x hx
          obtain ⟨v,_,rfl⟩:=List.mem_map.1 hx;trivial
      . cases hact
    . cases hp
  . cases hp
 ·
  rename_i t x ho
  cases hcs: (cx.evn st.env x).cells? with
  |none=>rw[hcs] at hp;cases hp
  |some cs=>
   rw[hcs] at hp;cases hp;simp only[b8,aA] at hact;split at hact
   . rename_i hid
     cases hact;obtain ⟨r1,r2⟩:=pc hcs (H.evn x);refine OpOK.new H hid (vs:=(a.eval x).cells) (e:=t) (v:= .pointer (some ⟨w.heap.size,0,none⟩)) ?_ r1 r2 (qe hcs) (fun G' hG _=>by simp only[Rep];exact ⟨_,hG,rfl⟩) trivial;simp[execOp,ho,Instr.box,newVar,newRow]
   . cases hact
 ·
  rename_i t parts ho;split at hp
  . rename_i dt hd
    split at hp
    . cases hp
    rename_i hz1
    cases hb: ((kT cx.P dt.u).bind fun pl=>f8 pl (dt.zero.map .val) (parts.toList.map fun x=>(x.1,cx.evn st.env x.2))) with
    |none=>rw[hb] at hp;cases hp
    |some cs=>
     rw[hb] at hp;cases hp;simp only[b8,aA,Plan.pure] at hact;cases hact;obtain ⟨v,v1,v2⟩:=Jq H hd (by simpa using hz1) hb;exact OpOK.pure H (by simp only[execOp,ho,Sem.run_bind,v1,Result.andThen_ok,Sem.run_pure]) v2 trivial
  . cases hp
 ·
  rename_i t n parts ho;split at hp
  . rename_i dt hd
    split at hp
    . rename_i e hu
      split at hp
      . rename_i de he
        split at hp
        . rename_i hn
          cases hb:f8 (fun i=>some (i*de.size,de.size)) (bG de.zero n) (parts.toList.map fun x=>(x.1,cx.evn st.env x.2)) with
          |none=>rw[hb] at hp;cases hp
          |some cs=>
           rw[hb] at hp;simp only[Option.map_some,Option.some.injEq] at hp;split at hp
           . cases hp
             simp only[b8,aA,Option.bind_some,Option.map_some,Option.some.injEq,Prod.mk.injEq] at hact;obtain ⟨rfl,rfl⟩:=hact;obtain ⟨v,w',G',v1,v2⟩:=CP H d hd hu he hn.2.2.2 ⟨hn.1,hn.2.1,hn.2.2.1⟩ hb;exact bO (by simp only[execOp,ho,Sem.run_bind,v1,Result.andThen_ok,Sem.run_pure]) ⟨G',v2⟩
           cases hp;simp only[b8,aA,Plan.pure] at hact;cases hact;obtain ⟨v,w',G',v1,v2⟩:=vZ H d hd hu he hn.2.2.2 ⟨hn.1,hn.2.1,hn.2.2.1⟩ hb;exact bO (by simp only[execOp,ho,Sem.run_bind,v1,Result.andThen_ok,Sem.run_pure]) ⟨G',v2⟩
        . cases hp
      . cases hp
    . cases hp
  . cases hp
 ·
  rename_i t x ho;exact L9 H ho hp hact d
 ·
  rename_i t x y ho;exact GM H ho hp hact d
 ·
  rename_i x ho;have hx:=H.evn x;split at hp
  . rename_i b k hc
    cases hp;simp only[b8,aA,Plan.pure] at hact;cases hact;rw[hc] at hx;have hx':=hx;simp only[Rep] at hx;obtain ⟨blk,_,hv⟩:=hx;exact OpOK.pure H (v:=a.eval x) (by simp[execOp,ho,hv]) hx' trivial
  . rename_i xs hc
    cases hp;simp only[b8,aA,Plan.pure] at hact;cases hact;rw[hc] at hx;have hx':=hx;simp only[Rep] at hx;obtain ⟨blk,hv,hv2,_⟩:=hx;exact OpOK.pure H (v:=a.eval x) (by simp[execOp,ho,hv2]) hx' trivial
  . rename_i cs hc
    cases hp;simp only[b8,aA,Plan.pure] at hact;cases hact;rw[hc] at hx;have hx':=hx;simp only[Rep] at hx;obtain ⟨blk,off,hv,_⟩:=hx;exact OpOK.pure H (v:=a.eval x) (by simp[execOp,ho,hv]) hx' trivial
  . rename_i f cs hc
    cases hp;simp only[b8,aA,Plan.pure] at hact;cases hact;rw[hc] at hx;have hx':=hx;simp only[Rep] at hx;obtain ⟨vs,hv,_⟩:=hx;exact OpOK.pure H (v:=a.eval x) (by simp[execOp,ho,hv]) hx' trivial
  . cases hp
 ·
  rename_i op t x y yt ho;exact eg H (s:=(do eqGuard op t x y (a.eval x) (a.eval y);binOp op t (a.eval x) (a.eval y))) (by simp only[execOp,ho,Sem.run_bind,Sem.run_pure]) hact (BS x y (H.evn x) (H.evn y) hp)
 ·
  rename_i op t x ho;exact eg H (s:=Op.unary op (a.eval x)) (by simp only[execOp,ho,Sem.run_bind,Sem.run_pure]) hact (EI (H.evn x) hp)
 ·
  rename_i s t x ho;split at hp
  . exact GO H ho hp hact d
  . exact Mb H ho (gE (H.evn x)) hp hact d
 ·
  rename_i t x ho;have hx:=H.evn x;split at hp
  . rename_i dt hd
    split at hp
    . rename_i n e hu
      split at hp
      . rename_i de b off m he hc
        split at hp
        . rename_i hn
          cases hp;simp only[b8,aA,Plan.pure] at hact;cases hact;rw[hc] at hx;simp only[Rep] at hx;obtain ⟨ad,cap,hv,hmc,_,had⟩:=hx;obtain ⟨blk,hμ,had'⟩:=had (by omega);subst had';refine OpOK.pure H (v:= .pointer (some ⟨blk,off,none⟩)) ?_ (by simp only[Rep];exact ⟨blk,hμ,rfl⟩) trivial;have hlt:¬ (m< n):=by omega
          simp[execOp,ho,hv,Instr.arrayAt,aZ hd,hu,hlt]
        . cases hp
      . rename_i de b m s he hc
        split at hp
        . rename_i hn
          cases hp;simp only[b8,aA,Plan.pure] at hact;cases hact;rw[hc] at hx;simp only[Rep] at hx;obtain ⟨ad,cap,hv,hmc,_,hdj⟩:=hx;rcases hdj with ⟨h0,_⟩ | ⟨blk,hμ,had',_⟩
          . omega
          subst had';refine OpOK.pure H (v:= .pointer (some ⟨blk,0,none⟩)) ?_ (by simp only[Rep];exact ⟨blk,hμ,rfl⟩) trivial;have hlt:¬ (m< n):=by omega
          simp[execOp,ho,hv,Instr.arrayAt,aZ hd,hu,hlt]
        . cases hp
      . rename_i de cc he hnsv hngv
        split at hp
        . rename_i m xs hsl
          split at hp
          . rename_i hn
            cases hp;simp only[b8,aA,Plan.pure] at hact;cases hact;obtain ⟨ad,cap,hv,_,_,hk⟩:=lL hsl hx;rcases hk with hk| ⟨blk,off,rfl,hk⟩
            . exact absurd hk hn.2.1
            refine OpOK.pure H (v:= .pointer (some ⟨blk,off,none⟩)) ?_ (by simp only[Rep];exact ⟨blk,off,rfl,hk⟩) trivial;have hlt:¬ (m< n):=by omega
            simp[execOp,ho,hv,Instr.arrayAt,aZ hd,hu,hlt]
          . cases hp
        . cases hp
      . cases hp
    . cases hp
  . cases hp
 ·
  rename_i f first caps ho
  split at hp
  . rename_i hfe
    cases hp;simp only[b8,aA,Plan.pure] at hact;cases hact;have hf0:first= #[]:=by simpa using hfe
    refine OpOK.pure H (v:= .func (.func f) #[] (caps.map a.eval)) (by simp[execOp,ho,Instr.makeFunc,hf0]) ?_ trivial;simp only[Rep];refine ⟨_,rfl,RepL.of_get (by simp) fun i x v hxx hv=>?_⟩;simp only[Array.toList_map,List.getElem?_map] at hxx hv
    cases hq:caps.toList[i]? with
    |none=>rw[hq] at hxx;cases hxx
    |some q=>
     rw[hq] at hxx hv;cases hxx;cases hv
     exact qd (H.evn q)
  . cases hp
 ·
  rename_i t l m ho;split at hp
  . rename_i dt k1 n k2 m' hd hl hm
    split at hp
    . rename_i e hu
      split at hp
      . rename_i de he
        split at hp
        . rename_i hb
          cases hp;simp only[b8,aA] at hact;split at hact
          . rename_i hid
            cases hact;obtain ⟨_,i,z,hi,hsz,hby,hz,hzz⟩:=aQ he;obtain ⟨b1,b2,b3,b4,b5,b6⟩:=hb;have hzs:z.cells.size=de.size:=by rw[←b5,←hzz];simp
            have hlv:=o9 hl (H.evn l);have hmv:=o9 hm (H.evn m);have hz1':∀u∈z.cells.toList,u.oneCell'=true:=fun u hu=>by rw[hzz] at hu;exact (List.all_eq_true.1 b6) u hu
            subst b2;have hrun:=run_make (P:=cx.P) w t e i z (hu▸(aQ hd).1) hi hz k1 k2 n n b1 (Int.le_refl _) (by rw[hby];omega) b4;have hml:maxLen=9223372036854775807:=by decide
            refine OpOK.new H hid (vs:=madeCells z.cells (n.toNat*i.size)) (e:=e) (v:= .slice (some ⟨w.heap.size,0,none⟩) n.toNat n.toNat) ?_ (by rw[hsz,←hzs];exact jk z.cells de.zero hzz _) (by rw[hsz,←hzs];exact pj z.cells hz1' _) ?_
             (fun G' hG hS=>by
               split
               . simp only[Rep]
                 exact ⟨_,_,rfl,Nat.le_refl _,by omega,.inr ⟨w.heap.size,hG,rfl,by rw[hS];exact congrArg some (congrArg (·,e) (by rw[←Array.length_toList,hsz,←hzs,← (jk (G:=G) z.cells de.zero hzz n.toNat).length,wW,b5,hzs]))⟩⟩
               . simp only[Rep];exact ⟨_,_,rfl,Nat.le_refl _,by omega,fun _=>⟨w.heap.size,hG,rfl⟩⟩) (by split<;>trivial)
            . simp only[execOp,ho,hlv,hmv,Sem.run_bind,hrun,Result.andThen_ok,Sem.run_pure]
            . intro x hx
              have:∀q,∀x∈bG de.zero q,x.noOwn:=by
               intro q
               induction q with
               |zero=>intro x hx;simp[bG] at hx
               |succ q ih=>
                intro x hx;simp only[bG,List.mem_append] at hx;rcases hx with hx|hx
                . obtain ⟨v,_,rfl⟩:=List.mem_map.1 hx;trivial
                . exact ih x hx
              exact this _ x hx
          . cases hact
        . cases hp
      . cases hp
    . cases hp
  . cases hp
 ·
  rename_i t x lo hi mx ho;split at hp
  . rename_i b n s hc
    have hx:=H.evn x;rw[hc] at hx;exact eg H (s:=Instr.sliceAt t (a.eval x) none (hi.map a.eval) none) (by simp only[execOp,ho,Sem.run_bind,Sem.run_pure];rfl) hact (CQ H hx hp)
  . rename_i lo mx _ _ _ _
    exact eg H (s:=Instr.sliceAt t (a.eval x) (lo.map a.eval) (hi.map a.eval) (mx.map a.eval)) (by simp only[execOp,ho,Sem.run_bind,Sem.run_pure]) hact (xI H (gE (H.evn x)) hp)
 ·
  rename_i t x f ho;exact eg H (s:=Instr.fieldAt t (a.eval x) f) (by simp only[execOp,ho,Sem.run_bind,Sem.run_pure]) hact (sb (H.evn x) hp)
 ·
  rename_i t x f ho;exact eg H (s:=Instr.field t (a.eval x) f) (by simp only[execOp,ho,Sem.run_bind,Sem.run_pure]) hact (xK (H.evn x) hp)
 ·
  rename_i t x i ho;exact eg H (s:=Instr.indexAt t (a.eval x) (a.eval i)) (by simp only[execOp,ho,Sem.run_bind,Sem.run_pure]) hact (sa (gE (H.evn x)) (H.evn i) hp)
 ·
  rename_i t x i ho;exact eg H (s:=Instr.index t (a.eval x) (a.eval i)) (by simp only[execOp,ho,Sem.run_bind,Sem.run_pure]) hact (xJ (H.evn x) (H.evn i) hp)
 ·
  rename_i x i ho;have hx:=H.evn x;split at hp
  . rename_i xs hc
    cases hq:xs[i]? with
    |none=>rw[hq] at hp;cases hp
    |some y=>
     rw[hq] at hp;cases hp;simp only[b8,aA,Plan.pure] at hact;cases hact;rw[hc] at hx;simp only[Rep] at hx;obtain ⟨vs,hv,hr⟩:=hx;obtain ⟨u,hu,hru⟩:=hr.get i y hq;have hu':vs[i]? =some u:=by simpa using hu
     exact OpOK.pure H (v:=u) (by simp[execOp,ho,hv,Instr.extract,hu']) hru.noR (cQ _)
  . cases hp
 ·
  rename_i cl ho;obtain ⟨callee,args,ts⟩:=cl;simp only[] at hp ho;split at hp
  . split at hp
    . rename_i x t ha ht
      obtain rfl:args= #[x]:=by apply Array.ext';simpa using ha
      obtain rfl:ts= #[t]:=by apply Array.ext';simpa using ht
      exact eg H (eS (P:=cx.P) (w:=w) (a:=a) .len #[x] #[t] (Builtin.len_ #[t] o.type #[a.eval x]) ho (fun cs=>by simp[builtin])) hact (BR (gE (H.evn x)) hp)
    . rename_i x y t t2 ha ht
      obtain rfl:args= #[x,y]:=by apply Array.ext';simpa using ha
      obtain rfl:ts= #[t,t2]:=by apply Array.ext';simpa using ht
      split at hp
      . exact Mc H ho (gE (H.evn y)) hp hact d
      . exact CW H ho (gE (H.evn y)) hp hact d
    . rename_i x y t t2 ha ht
      obtain rfl:args= #[x,y]:=by apply Array.ext';simpa using ha
      obtain rfl:ts= #[t,t2]:=by apply Array.ext';simpa using ht
      exact Ma H ho (gE (H.evn x)) (gE (H.evn y)) hp hact d
    . rename_i x y ha
      obtain rfl:args= #[x,y]:=by apply Array.ext';simpa using ha
      unfold fy at hp;split at hp
      . rename_i k p1 k' p2 h1 h2
        split at hp
        . rename_i hk
          subst hk;cases hp;simp only[b8,aA,Plan.pure] at hact;cases hact;have r1:=H.evn x;have r2:=H.evn y;rw[h1,aj] at r1;rw[h2,aj] at r2;refine OpOK.pure H ?_ (aj.2 rfl) trivial;rw[eS (P:=cx.P) (w:=w) (a:=a) .min #[x,y] ts (Builtin.min_ ts o.type #[a.eval x,a.eval y]) ho (fun cs=>by simp[builtin]),r1,r2];simp[Builtin.min_,Builtin.min2]
        . cases hp
      . cases hp
    . rename_i x y ha
      obtain rfl:args= #[x,y]:=by apply Array.ext';simpa using ha
      unfold fy at hp;split at hp
      . rename_i k p1 k' p2 h1 h2
        split at hp
        . rename_i hk
          subst hk;cases hp;simp only[b8,aA,Plan.pure] at hact;cases hact;have r1:=H.evn x;have r2:=H.evn y;rw[h1,aj] at r1;rw[h2,aj] at r2;refine OpOK.pure H ?_ (aj.2 rfl) trivial;rw[eS (P:=cx.P) (w:=w) (a:=a) .max #[x,y] ts (Builtin.max_ ts o.type #[a.eval x,a.eval y]) ho (fun cs=>by simp[builtin]),r1,r2];simp[Builtin.max_,Builtin.max2]
        . cases hp
      . cases hp
    . rename_i x y t t2 ha ht
      obtain rfl:args= #[x,y]:=by apply Array.ext';simpa using ha
      obtain rfl:ts= #[t,t2]:=by apply Array.ext';simpa using ht
      exact Mg hcx.km H ho hp hact d
    . cases hp
  . rename_i f
    unfold kf at hp;split at hp
    . rename_i g caps hf
      simp only[] at hp;split at hp
      . rename_i c' hpu
        cases hp;simp only[b8,aA,Plan.pure] at hact;cases hact;exact qG H ho hf (hcx.pu _ _ _ hpu st.h) d
      . split at hp
        . rename_i b hrb
          split at hp
          . cases hp
            simp only[b8,aA] at hact
            cases hq:cx.hp g (List.map C.share (List.map (cx.evn st.env) args.toList)++caps) st.h with
            |none=>rw[hq] at hact;cases hact
            |some r=>
             rw[hq] at hact;cases hact;exact qG H ho hf (hcx.hp _ _ _ _ _ hq) d
          . cases hp
            simp only[b8,aA] at hact;split at hact
            . rename_i hall
              cases hq:st.h.at b with
              |none=>rw[hq] at hact;cases hact
              |some cells=>
               rw[hq] at hact;simp only[Option.bind_some] at hact
               cases hr:w9 cx g (List.map C.share (List.map (cx.evn st.env) args.toList)++caps) b cells with
               |none=>rw[hr] at hact;cases hact
               |some r=>
                rw[hr] at hact;cases hact;unfold w9 at hr;split at hr
                . rename_i c2 cells2 hh
                  split at hr
                  . rename_i hn
                    cases hr;exact qG H ho hf (FC.one hq hall (hcx.hp _ _ _ _ _ hh) hn.1 hn.2 hcx.glo) d
                  . cases hr
                . cases hr
            . cases hact
          . cases hp
            simp only[b8,aA] at hact
            cases hq:st.h.at b with
            |none=>rw[hq] at hact;cases hact
            |some cells=>
             rw[hq] at hact;simp only[Option.bind_some] at hact
             cases hr:rdPu cx g (List.map C.share (List.map (cx.evn st.env) args.toList)++caps) b cells with
             |none=>rw[hr] at hact;cases hact
             |some c2=>
              rw[hr] at hact;cases hact;exact qG H ho hf (FC.rdPu hcx.pu hcx.glo hq hr) d
        . split at hp
          . cases hp
            simp only[b8,aA] at hact
            cases hq:st.h.at 0 with
            |none=>rw[hq] at hact;cases hact
            |some cells=>
             rw[hq] at hact;simp only[Option.bind_some] at hact
             cases hr:rdE cx g (List.map C.share (List.map (cx.evn st.env) args.toList)++caps) 0 cells with
             |none=>rw[hr] at hact;cases hact
             |some c2=>
              rw[hr] at hact;cases hact;exact qG H ho hf (FC.rdE hcx.pu hcx.glo hq hr) d
          . cases hp
            simp only[b8,aA] at hact
            cases hq:cx.hp g (List.map C.share (List.map (cx.evn st.env) args.toList)++caps) st.h with
            |none=>rw[hq] at hact;cases hact
            |some r=>
             rw[hq] at hact;cases hact;exact qG H ho hf (hcx.hp _ _ _ _ _ hq) d
    . cases hp
  . cases hp
 . rename_i t ho
   exact Me trivial H ho hp hact d
 . rename_i t x k ok ho
   exact GR hcx.km H ho hp hact d
 . rename_i t m k x ho
   exact Mf hcx.km H ho hp hact d
 . cases hp
end
def Mks (G:Gh)(w:World)(ds:List Deferred):Prop:=ds.Nodup∧∀d∈ds,∃D,d= ⟨.collected D,#[]⟩∧w.heap[D]? =some (.deferred (some []))∧G.T D=none∧∀b,G.μ b≠some D
theorem Mks.nil {G:Gh}{w:World}:Mks G w []:=⟨List.nodup_nil,fun _ h=>by cases h⟩
theorem Mks.frm {G G':Gh}{w w':World}{ds:List Deferred}(h:Mks G w ds)(F:Frm G w G' w'):Mks G' w' ds:=⟨h.1,fun d hd=>by
 obtain ⟨D,e,h1,h2,h3⟩:=h.2 d hd;obtain ⟨a1,a2,a3,_⟩:=F.old D (Array.getElem?_eq_some_iff.1 h1).1 h2 h3;exact ⟨D,e,a1.trans h1,a2,a3⟩⟩
theorem Mks.same {G G':Gh}{w:World}{ds:List Deferred}(h:Mks G w ds)(hT:∀g,G.T g=none→G'.T g=none)(hμ:∀g,(∀b,G.μ b≠some g)→∀b,G'.μ b≠some g):Mks G' w ds:=⟨h.1,fun d hd=>by
 obtain ⟨D,e,h1,h2,h3⟩:=h.2 d hd;exact ⟨D,e,h1,hT D h2,hμ D h3⟩⟩
structure Sim (cx:Cx) (G:Gh) (w:World) (st:St) (a:Act):Prop where
 defers:Mks G w a.defers
 size:a.tmps.size=cx.N
 pre:Pre cx G w st a
section
variable {cx:Cx} {G:Gh} {w:World} {st:St} {a:Act} {P:Program}
theorem oR (a:Act)(d:Option Nat)(v:Value): (a.put d v).defers=a.defers:=by cases d<;>rfl
theorem rf {d:Nat}(hd:d< a.tmps.size)(v:Value)(t:Nat):av (a.put (some d) v) t=if t=d then v else av a t:=by
 simp only[av,Act.put,Array.getD_eq_getD_getElem?];by_cases h:t=d
 . subst h;simp[hd]
 . rw[if_neg h,Array.getElem?_setIfInBounds_ne (Ne.symm h)]
theorem Sim.put (H:Sim cx G w st a){G':Gh}{w':World}{st':St}{dst:Option Nat}{c:C}{v:Value}(hd:∀d,dst=some d→d< cx.N)
 (O:Out G w st' (av a) (match dst with|some d=>(0,d,0) |none=>(3,0,0)) c v G' w'):Sim cx G' w' ⟨put dst c st'.env,st'.h⟩ (a.put dst v):=by
 have hg:∀g,Rep G' (cx.gl g) (.pointer (some ⟨g,0,none⟩)):=fun g=>(H.pre.glob g).mono O.frm.le
 cases dst with
 |none=>
  exact ⟨H.defers.frm O.frm,H.size,O.ok,O.env,hg⟩
 |some d=>
  have hd':d< a.tmps.size:=by rw[H.size];exact hd d rfl
  refine ⟨H.defers.frm O.frm,by simp[Act.put,H.size],O.ok,⟨fun t=>?_,fun t s n xs he=>?_⟩,hg⟩
  . rw[rf hd']
    simp only[Sx.put];split
    . exact O.rep
    . exact O.env.1 t
  . rw[rf hd']
    simp only[Sx.put] at he;split at he
    . rename_i htd
      subst htd;rw[if_pos rfl];exact O.own s n xs he
    . rename_i htd
      rw[if_neg htd];exact O.env.2 t s n xs he
theorem sJ (H:Sim cx G w st a){ops:Array Oper}{o:Oper}{b:Bool}(h:dW ops o st.env=some b):Region.wanted o (yielded ops a.tmps) =b:=by
 unfold dW at h;unfold Region.wanted;split at h
 . rename_i hg;cases h;rw[hg]
 . rename_i j want hg
   rw[hg];simp only[yielded];split at h
   . rename_i hd;cases h;rw[hd];rfl
   . rename_i t hd
     rw[hd];simp only[Option.bind_some];have hr:=(H.pre.env.1 t).noR;split at h
     . rename_i x hx
       cases h;rw[hx,aj] at hr;have:a.tmps[t]? =some (.bool x):=by
        simp only[av,Array.getD_eq_getD_getElem?] at hr
        cases hq:a.tmps[t]? with
        |none=>rw[hq] at hr;cases hr
        |some u=>rw[hq] at hr;simpa using hr
       rw[this];cases x<;>cases want<;>rfl
     . rename_i x hx
       cases h;rw[hx,aj] at hr
       cases hq:a.tmps[t]? with
       |none=>rfl
       |some u=>
        simp only[av,Array.getD_eq_getD_getElem?,hq,Option.getD_some] at hr;subst hr;rfl
     . cases h
theorem up (hcx:CxOK cx)(H:Sim cx G w st a){ops:Array Oper}{base i:Nat}{st':St}(h:step cx ops base i st=some st'){r:Option Nat}{K:Act→World→Prop}{Q:Exit→Act→World→Prop}
 (hK:∀G' w' a',Sim cx G' w' st' a'→Frm G w G' w'→a'.defers=a.defers→K a' w'):wpOpIn (wF r) 0 cx.P ops Q i K a w:=by
 unfold step at h;unfold wpOpIn;split at h
 . cases h
 . rename_i o ho
   simp only[ho];split at h
   . rename_i hdst
     have hd:∀d,o.dst=some d→d< cx.N:=fun d e=>by rw[e] at hdst;simpa[kK] using hdst
     split at h
     . cases h
     . rename_i hw
       cases h;rw[sJ H hw];simp only[Bool.false_eq_true,if_false];exact ⟨fun _ _=>trivial,hK G w _ (H.put hd ⟨aj.2 rfl,by simp,H.pre.ok,H.pre.env,Frm.refl G w⟩) (Frm.refl G w) (oR _ _ _)⟩
     . rename_i hw
       rw[sJ H hw];simp only[if_true];split at h
       . cases h
       . rename_i p hp
         split at h
         . cases h
         . rename_i c st1 hact
           cases h;exact GT hcx H.pre hp hact _ r K Q fun v G' w' O=>hK G' w' _ (H.put hd O) O.frm (oR _ _ _)
   . cases h
theorem wY (hcx:CxOK cx){r:Option Nat}{ops:Array Oper}{base:Nat}{Q:Exit→Act→World→Prop}:∀ (l:List Nat){G:Gh}{w:World}{st:St}{a:Act}{st':St},Sim cx G w st a→g8 cx ops base l st=some st'→
 (∀G' w' a',Sim cx G' w' st' a'→Frm G w G' w'→a'.defers=a.defers→Q .normal a' w')→wpOpsIn (wF r) 0 cx.P ops Q l a w
 | [],G,w,st,a,st',H,h,hQ=>by
   simp only[g8,Option.some.injEq] at h;subst h;exact hQ G w a H (Frm.refl G w) rfl
 |i::l,G,w,st,a,st',H,h,hQ=>by
  simp only[g8] at h
  cases hs:step cx ops base i st with
  |none=>rw[hs] at h;cases h
  |some st1=>
   rw[hs] at h;rw[wpOpsIn_cons];exact up hcx H hs fun G' w' a' S F e=>wY hcx l S h fun G2 w2 a2 S2 F2 e2=>hQ G2 w2 a2 S2 (F.trans F2) (e2.trans e)
theorem iN {h:Hp}(k b:Nat):Hp.at (h++List.replicate k none) b=h.at b:=by
 unfold Hp.at;rw[List.getElem?_append];split
 . rfl
 . rename_i hb
   rw[List.getElem?_eq_none (l:=h) (by omega)]
   cases hq: (List.replicate k (none:Option (List C)))[b - h.length]? with
   |none=>rfl
   |some x=>
    have:=List.mem_of_getElem? hq;rw[List.eq_of_mem_replicate this];rfl
theorem nP {h:Hp}{k b:Nat}:Hp.mp (h++List.replicate k none) b=h.mp b:=by
 unfold Hp.mp;rcases Nat.lt_or_ge b h.length with hl|hl
 . rw[List.getElem?_append_left hl]
 . rw[List.getElem?_append_right hl,List.getElem?_eq_none hl]
   cases hq: (List.replicate k (none:Option (List C)))[b - h.length]? with
   |none=>rfl
   |some x=>
    have:=List.mem_of_getElem? hq;rw[List.eq_of_mem_replicate this];rfl
theorem WorldOK.reserve {h:Hp}(H:WorldOK G h w)(k:Nat):WorldOK G (h++List.replicate k none) w:=
 ⟨H.known,fun b c hb=>H.box b c (by rwa [iN] at hb),fun b blk hb=>⟨by
   obtain ⟨⟨c,hc⟩,_⟩:=H.dom b blk hb;exact ⟨c,by rw[List.getElem?_append_left (List.getElem?_eq_some_iff.1 hc).1];exact hc⟩,(H.dom b blk hb).2⟩,fun b b' c c' blk x x'=>H.inj b b' c c' blk (by rwa [iN] at x) (by rwa [iN] at x'),H.sep,H.tlt,
   fun b cells off s n xs blk v hb hc hm hv=>H.own b cells off s n xs blk v (by rwa [iN] at hb) hc hm hv,H.siz,H.mpoT (fun b l x=>by rwa [nP] at x) (fun _ _ _ x=>x) (.refl G),H.mpiT (fun b l x=>by rwa [nP] at x) (fun _ _ _ _ x=>x)⟩
theorem Sim.reserve (H:Sim cx G w st a)(k:Nat):Sim cx G w ⟨st.env,st.h++List.replicate k none⟩ a:=
 ⟨H.defers,H.size,H.pre.ok.reserve k,H.pre.env,H.pre.glob⟩
theorem Sim.drew (H:Sim cx G w st a):Sim cx G w.drew st a∧Frm G w G w.drew:=by
 have e:Ext G w G w.drew:=Ext.same rfl rfl rfl rfl;exact ⟨⟨H.defers.frm (e.frm H.pre.ok),H.size,H.pre.ok.same rfl,e.env H.pre.ok H.pre.env,H.pre.glob⟩,e.frm H.pre.ok⟩
theorem CX (hcx:CxOK cx){r:Option Nat}(H:Sim cx G w st a){id:Nat}{ops:Array Oper}{st':St}(h:qK cx ops st=some st'){Q:Exit→Act→World→Prop}
 (hQ:∀G' w' a',Sim cx G' w' st' a'→Frm G w G' w'→a'.defers=a.defers→Q .normal a' w'): (Code.region id ops false).wpIn (wF r) 0 cx.P Q a w:=
 wpIn_region (wY hcx _ (H.reserve _) h hQ)
end
end Go.Sx
