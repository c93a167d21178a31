/-
   And what follows.
-/
import Derived.Test.YtmoaeemdlompaaaDoorPaj
set_option linter.unusedSimpArgs false
set_option linter.unusedVariables false
namespace Go.Sx
open Go.RowKit
def Cx.grow (cx:Cx) (l:List Nat) :Cx:= { cx with gr:=fun t=>l.contains t }
section
variable {cx:Cx} {n:Nat} {st:St} {Q:Ex→St→Prop} {G:Gh} {w:World} {h:Hp}
theorem CxOK.grow (hcx:CxOK cx) (l:List Nat) :CxOK (cx.grow l) := ⟨hcx.glo,hcx.pu,hcx.hp,hcx.km⟩
theorem Sim.grow {a:Act} (H:Sim cx G w st a) (l:List Nat) :Sim (cx.grow l) G w st a:= ⟨H.defers,H.size,H.pre.ok,H.pre.env,H.pre.glob⟩
theorem Sim.ungrow {a:Act} {l:List Nat} (H:Sim (cx.grow l) G w st a) :Sim cx G w st a:= ⟨H.defers,H.size,H.pre.ok,H.pre.env,H.pre.glob⟩
theorem KP (l:List Nat) {c:Code} (H:Tr (cx.grow l) n c st Q) :Tr cx n c st Q:=fun G w a S R hR=>
 H G w a (S.grow l) R fun x s G' w' a' q S' F=>hR x s G' w' a' q S'.ungrow F
theorem Uj (hcx:CxOK cx) (gs:List Nat) {e:List (Nat×C)} {id:Nat} {l:List Oper} (apps:List Nat) (dsts:List (Option Nat)) (z:Hp) (h1:l.filterMap d8=apps) (h2:l.map (·.dst) =dsts) (h3:fP l=z)
 (H:run (cx.grow gs) apps dsts l h.length e (h++z) [] (fun _ s=>Q .normal s)) :Tr cx n (.region id l.toArray false) ⟨A e,h⟩ Q:=
 KP gs (wg (hcx.grow gs) apps dsts z h1 h2 h3 H)
theorem zJ (hcx:CxOK cx) (hm:cx.P.follows .mixedOrders=true) (gs:List Nat) {e:List (Nat×C)} {id:Nat} {l:List Oper} (apps:List Nat) (dsts:List (Option Nat)) (z:Hp) (h1:l.filterMap d8=apps) (h2:l.map (·.dst) =dsts) (h3:fP l=z)
 (hs:eJ l.toArray=true)
 (H:run (cx.grow gs) apps dsts l h.length e (h++z) [] (fun fs s=>gp l.toArray fs.reverse=true∧Q .normal s)) :Tr cx n (.region id l.toArray true) ⟨A e,h⟩ Q:=
 KP gs (xP (hcx.grow gs) hm apps dsts z h1 h2 h3 hs H)
def eB:List Nat→Nat→Nat→Option Nat
 | [],_,_=>none
 |x::r,k,b=>if b=x then some k else eB r (k+1) b
theorem f8: ∀ {ρ:List Nat} {k b j:Nat},eB ρ k b=some j→k≤j∧ρ[j - k]? =some b
 | [],k,b,j,h=>by cases h
 |x::r,k,b,j,h=>by
  simp only[eB] at h
  split at h
  · rename_i e;cases h;subst e;simp
  · obtain ⟨h1,h2⟩ :=f8 h
    refine ⟨by omega,?_⟩
    have:j - k= (j - (k+1))+1:=by omega
    rw[this,List.getElem?_cons_succ];exact h2
mutual
def cC (ρ:List Nat) :C→C
 | .sv b o n=>match eB ρ 0 b with|some j=> .sv j o n|none=> .top
 | .gv b n s=>match eB ρ 0 b with|some j=> .gv j n s|none=> .top
 | .bp b o=>match eB ρ 0 b with|some j=> .bp j o|none=> .top
 | .mp b=>match eB ρ 0 b with|some j=> .mp j|none=> .top
 | .bt b t n=>match eB ρ 0 b with|some j=> .bt j t n|none=> .top
 | .sl r n xs=> .sl r n (mvCs ρ xs)
 | .kp xs=> .kp (mvCs ρ xs)
 | .agg xs=> .agg (mvCs ρ xs)
 | .tup xs=> .tup (mvCs ρ xs)
 | .fn f xs=> .fn f (mvCs ρ xs)
 | .top=> .top
 | .val v=> .val v
def mvCs (ρ:List Nat) :List C→List C
 | [] => []
 |x::xs=>cC ρ x::mvCs ρ xs
end
theorem nB (ρ:List Nat) : ∀xs:List C,mvCs ρ xs=xs.map (cC ρ)
 | [] =>rfl
 |x::xs=>by simp[mvCs,nB ρ xs]
def jg (ρ:List Nat) (h:Hp) :Hp:=ρ.map fun b=> ((h[b]?).getD none).map (mvCs ρ)
def dU (ρ:List Nat) (G:Gh) :Gh where
 K:=G.K
 μ:=fun j=> (ρ[j]?).bind G.μ
 T:=fun g=>match G.T g with
  |some p=>if p.1=1 then (eB ρ 0 p.2.1).map (fun j=> (1,j,p.2.2)) else some p
  |none=>none
 σ:=fun j=> (ρ[j]?).bind G.σ
mutual
theorem mS {ρ:List Nat} : ∀ (c:C) (v:Value),Rep G c v→Rep (dU ρ G) (cC ρ c) v
 | .top,_,_=>by simp[cC,Rep]
 | .val u,v,r=>by simpa[cC,Rep] using r
 | .sl r n xs,v,x=>by
   simp only[cC,Rep] at x ⊢
   obtain ⟨a,cap,h1,h2,h3,h4,h5⟩ :=x
   refine ⟨a,cap,h1,h2,h3,h4,?_⟩
   rcases h5 with h5| ⟨blk,off,ha,hk⟩
   · left;rw[h5];rfl
   · exact .inr ⟨blk,off,ha,mvC_repK xs blk off hk⟩
 | .sv b off n,v,x=>by
   simp only[cC]
   cases hl:eB ρ 0 b with
   |none=>simp[Rep]
   |some j=>
    have hj:= (f8 hl).2
    simp only[Rep] at x ⊢
    obtain ⟨a,cap,h1,h2,h3,h4⟩ :=x
    exact ⟨a,cap,h1,h2,h3,fun hz=>by obtain ⟨blk,q1,q2⟩ :=h4 hz;exact ⟨blk,by simp only[dU,Nat.sub_zero] at hj ⊢;rw[hj];exact q1,q2⟩⟩
 | .gv b m s,v,x=>by
   simp only[cC]
   cases hl:eB ρ 0 b with
   |none=>simp[Rep]
   |some j=>
    have hj:= (f8 hl).2
    simp only[Nat.sub_zero] at hj
    simp only[Rep] at x ⊢
    obtain ⟨a,cap,h1,h2,h3,h4⟩ :=x
    refine ⟨a,cap,h1,h2,h3,?_⟩
    rcases h4 with h4| ⟨blk,q1,q2,q3⟩
    · exact .inl h4
    · exact .inr ⟨blk,by simp only[dU];rw[hj];exact q1,q2,by simp only[dU];rw[hj];exact q3⟩
 | .bp b off,v,x=>by
   simp only[cC]
   cases hl:eB ρ 0 b with
   |none=>simp[Rep]
   |some j=>
    have hj:= (f8 hl).2
    simp only[Nat.sub_zero] at hj
    simp only[Rep] at x ⊢
    obtain ⟨blk,h1,h2⟩ :=x
    exact ⟨blk,by simp only[dU];rw[hj];exact h1,h2⟩
 | .mp b,v,x=>by
   simp only[cC]
   cases hl:eB ρ 0 b with
   |none=>simp[Rep]
   |some j=>
    have hj:= (f8 hl).2
    simp only[Nat.sub_zero] at hj
    simp only[Rep] at x ⊢
    obtain ⟨blk,h1,h2⟩ :=x
    exact ⟨blk,by simp only[dU];rw[hj];exact h1,h2⟩
 | .bt b t n,v,x=>by
   simp only[cC]
   cases hl:eB ρ 0 b with
   |none=>simp[Rep]
   |some j=>
    have hj:= (f8 hl).2
    simp only[Nat.sub_zero] at hj
    simp only[Rep] at x ⊢
    obtain ⟨blk,h1,h2,h3⟩ :=x
    exact ⟨blk,by simp only[dU];rw[hj];exact h1,h2,by simp only[dU];rw[hj];exact h3⟩
 | .kp xs,v,x=>by
   simp only[cC,Rep] at x ⊢
   obtain ⟨blk,off,h1,h2⟩ :=x
   exact ⟨blk,off,h1,mvC_repK xs blk off h2⟩
 | .agg xs,v,x=>by
   simp only[cC,Rep] at x ⊢
   obtain ⟨vs,h1,h2,h3⟩ :=x
   exact ⟨vs,h1,mvC_repL xs _ h2,h3⟩
 | .tup xs,v,x=>by
   simp only[cC,Rep] at x ⊢
   obtain ⟨vs,h1,h2⟩ :=x
   exact ⟨vs,h1,mvC_repL xs _ h2⟩
 | .fn f xs,v,x=>by
   simp only[cC,Rep] at x ⊢
   obtain ⟨vs,h1,h2⟩ :=x
   exact ⟨vs,h1,mvC_repL xs _ h2⟩
theorem mvC_repL {ρ:List Nat} : ∀ (xs:List C) (vs:List Value),RepL G xs vs→RepL (dU ρ G) (mvCs ρ xs) vs
 | [],vs,r=>by simpa[mvCs,RepL] using r
 |x::xs,vs,r=>by
  simp only[mvCs,RepL] at r ⊢
  obtain ⟨v,vs',h1,h2,h3⟩ :=r
  exact ⟨v,vs',h1,mS x v h2,mvC_repL xs vs' h3⟩
theorem mvC_repK {ρ:List Nat} : ∀ (xs:List C) (blk off:Nat),RepK G blk off xs→RepK (dU ρ G) blk off (mvCs ρ xs)
 | [],_,_,_=>by simp[mvCs,RepK]
 |x::xs,blk,off,r=>by
  simp only[mvCs,RepK] at r ⊢
  obtain ⟨⟨u,h1,h2,h3⟩,h4⟩ :=r
  exact ⟨⟨u,h1,h2,mS x u h3⟩,mvC_repK xs blk (off+1) h4⟩
end
theorem zK {ρ:List Nat} {c:C} {s m:Nat} {xs:List C} (h:cC ρ c= .sl (.own s) m xs) : ∃ys,c= .sl (.own s) m ys:=by
 cases c with
 |sl r k ys=>simp only[cC] at h;cases h;exact ⟨ys,rfl⟩
 |sv b o k=>simp only[cC] at h;split at h<;>cases h
 |gv b o k=>simp only[cC] at h;split at h<;>cases h
 |bp b o=>simp only[cC] at h;split at h<;>cases h
 |mp b=>simp only[cC] at h;split at h<;>cases h
 |bt b t n=>simp only[cC] at h;split at h<;>cases h
 |_=>simp only[cC] at h;cases h
theorem sH {ρ:List Nat} {j:Nat} {cells:List C} (hj:Hp.at (jg ρ h) j=some cells) : ∃b cells0,ρ[j]? =some b∧h.at b=some cells0∧cells=mvCs ρ cells0:=by
 have h1:=fS hj
 unfold jg at h1
 rw[List.getElem?_map] at h1
 cases hb:ρ[j]? with
 |none=>rw[hb] at h1;cases h1
 |some b=>
  rw[hb] at h1
  simp only[Option.map_some,Option.some.injEq] at h1
  cases hq:h[b]? with
  |none=>rw[hq] at h1;cases h1
  |some o=>
   rw[hq] at h1
   cases o with
   |none=>cases h1
   |some cells0=>
    simp only[Option.getD_some,Option.map_some,Option.some.injEq] at h1
    refine ⟨b,cells0,rfl,?_,h1.symm⟩
    have hl:=iA hj
    unfold Hp.at
    rw[hq]
    subst h1
    show cI (some cells0) =_
    cases cells0 with
    |nil=>rfl
    |cons x l=>
     cases x with
     |tup xs=>simp only[mvCs,cC] at hl;cases hl
     |_=>rfl
theorem ya {ρ:List Nat} : ∀ (l:List C) (es:List MapEntry),MRep G l es→MRep (dU ρ G) (mvCs ρ l) es
 | [],_,r=>by simpa[MRep,mvCs] using r
 | [_],_,r=>by simp[MRep] at r
 |k::v::l,es,r=>by
  simp only[MRep,mvCs] at r ⊢
  obtain ⟨e,es',h1,h2,h3,h4⟩ :=r
  exact ⟨e,es',h1,mS k _ h2,mS v _ h3,ya l es' h4⟩
theorem Fh {ρ:List Nat} {c:C} {u:Value} (h:cC ρ c= .val u) :c= .val u:=by
 cases c with
 |val v=>simp only[cC] at h;exact h
 |sv b o k=>simp only[cC] at h;split at h<;>cases h
 |gv b o k=>simp only[cC] at h;split at h<;>cases h
 |bp b o=>simp only[cC] at h;split at h<;>cases h
 |mp b=>simp only[cC] at h;split at h<;>cases h
 |bt b t n=>simp only[cC] at h;split at h<;>cases h
 |_=>simp only[cC] at h;cases h
theorem Fi {ρ:List Nat} {c:C} {xs:List C} (h:cC ρ c= .tup xs) : ∃ys,c= .tup ys∧xs=mvCs ρ ys:=by
 cases c with
 |tup ys=>simp only[cC] at h;cases h;exact ⟨ys,rfl,rfl⟩
 |sv b o k=>simp only[cC] at h;split at h<;>cases h
 |gv b o k=>simp only[cC] at h;split at h<;>cases h
 |bp b o=>simp only[cC] at h;split at h<;>cases h
 |mp b=>simp only[cC] at h;split at h<;>cases h
 |bt b t n=>simp only[cC] at h;split at h<;>cases h
 |_=>simp only[cC] at h;cases h
theorem tU {F:C→C} {Fs:List C→List C} (hs: ∀xs,Fs xs=xs.map F) (hv: ∀c u,F c= .val u→c= .val u) (ht: ∀c xs,F c= .tup xs→∃ys,c= .tup ys∧xs=Fs ys) {cells l:List C} (h:ga (some (Fs cells)) =some l) : ∃l0,ga (some cells) =some l0∧l=Fs l0:=by
 cases cells with
 |nil=>rw[hs] at h;cases h
 |cons c cs=>
  rw[hs,List.map_cons] at h
  cases hq:F c with
  |tup xs=>
   obtain ⟨ys,rfl,rfl⟩ :=ht c xs hq
   rw[hq] at h
   cases ys with
   |nil=>rw[hs] at h;cases h
   |cons y ys=>
    rw[hs,List.map_cons] at h
    cases hy:F y with
    |val u=>
     have:=hv y u hy
     subst this
     rw[hy] at h
     cases u with
     |bool b=>
      cases b with
      |true=>cases h;exact ⟨ys,rfl,(hs ys).symm⟩
      |false=>cases h
     |_=>cases h
    |_=>rw[hy] at h;cases h
  |_=>rw[hq] at h;cases h
theorem yb {ρ:List Nat} {h:Hp} {j:Nat} {l:List C} (hj:Hp.mp (jg ρ h) j=some l) : ∃b l0,ρ[j]? =some b∧h.mp b=some l0∧l=mvCs ρ l0:=by
 unfold Hp.mp jg at hj
 rw[List.getElem?_map] at hj
 cases hb:ρ[j]? with
 |none=>rw[hb] at hj;cases hj
 |some b=>
  rw[hb] at hj
  simp only[Option.map_some,Option.bind_some] at hj
  cases hq:h[b]? with
  |none=>rw[hq] at hj;cases hj
  |some o=>
   rw[hq] at hj
   cases o with
   |none=>cases hj
   |some cells0=>
    obtain ⟨l0,h1,h2⟩ :=tU (Fs:=mvCs ρ) (nB ρ) (fun _ _=>Fh) (fun _ _=>Fi) (cells:=cells0) hj
    exact ⟨b,l0,rfl,by unfold Hp.mp;rw[hq];exact h1,h2⟩
def rj (n:Nat) (ρ:List Nat) :Prop:=ρ.Nodup∧n≤ρ.length∧∀j,j< n→ρ[j]? =some j
theorem kw: ∀ {ρ:List Nat} {k j b:Nat},ρ.Nodup→ρ[j]? =some b→eB ρ k b=some (k+j)
 |x::r,k,0,b,hn,h=>by simp at h;subst h;simp[eB]
 |x::r,k,j+1,b,hn,h=>by
  rw[List.getElem?_cons_succ] at h
  have hx:b≠x:=fun e=>by
   subst e
   exact (List.nodup_cons.1 hn).1 (List.mem_of_getElem? h)
  simp only[eB]
  rw[if_neg hx,kw (List.nodup_cons.1 hn).2 h]
  congr 1;omega
 | [],k,j,b,hn,h=>by simp at h
theorem OwnRow.mv {ρ:List Nat} {p p':cJ} {v:Value} {s m:Nat} (O:OwnRow G w p v s m) (hp: (p.1≠1∧p'=p)∨(p.1=1∧∃j,eB ρ 0 p.2.1=some j∧p'= (1,j,p.2.2))) :OwnRow (dU ρ G) w p' v s m:=by
 rcases O with O| ⟨g,cap,cur,e,a1,a2,a3,a4,a5,a6⟩
 · exact .inl O
 · refine .inr ⟨g,cap,cur,e,a1,?_,a3,a4,a5,fun b hb=> ?_⟩
   · simp only[dU,a2]
     rcases hp with ⟨h1,rfl⟩ | ⟨h1,j,h2,rfl⟩
     · rw[if_neg h1]
     · rw[if_pos h1,h2];rfl
   · simp only[dU] at hb
     cases hq:ρ[b]? with
     |none=>rw[hq] at hb;cases hb
     |some q=>rw[hq] at hb;exact a6 q hb
theorem WorldOK.mv {ρ:List Nat} (H:WorldOK G h w) (hρ:ρ.Nodup) :WorldOK (dU ρ G) (jg ρ h) w:=by
 have hμ: ∀ {j blk},(dU ρ G).μ j=some blk→∃b,ρ[j]? =some b∧G.μ b=some blk:=fun {j blk} x=>by
  simp only[dU] at x
  cases hq:ρ[j]? with
  |none=>rw[hq] at x;cases x
  |some q=>rw[hq] at x;exact ⟨q,rfl,x⟩
 refine ⟨H.known,fun j cells hj=> ?_,fun j blk hm=> ?_,fun j j' c c' blk hj hj' hm hm'=> ?_,fun j blk hm=> ?_,fun g p hg=> ?_,fun j cells off s m xs blk v hj hc hm hv=> ?_,fun j z hz=> ?_,fun j l hj=> ?_,fun j j' l l' blk x x' y y'=> ?_⟩
 · obtain ⟨b,cells0,h1,h2,rfl⟩ :=sH hj
   rcases H.box b cells0 h2 with ⟨hE,hE2⟩ | ⟨blk,cs,e,q1,q2,q3,q4,q5⟩
   · exact .inl ⟨by rw[hE];rfl,by simp only[dU,h1];exact hE2⟩
   · have hl: (mvCs ρ cells0).length=cells0.length:=by rw[nB];simp
     exact .inr ⟨blk,cs,e,by simp only[dU,h1];exact q1,q2,by rw[hl];exact q3,by rw[hl];exact mvC_repL _ _ q4,q5⟩
 · obtain ⟨b,h1,h2⟩ :=hμ hm
   obtain ⟨⟨c,hc⟩,hl⟩ :=H.dom b blk h2
   refine ⟨⟨mvCs ρ c,?_⟩,hl⟩
   unfold jg
   rw[List.getElem?_map,h1]
   simp[hc]
 · obtain ⟨b,h1,h2⟩ :=hμ hm
   obtain ⟨b',h1',h2'⟩ :=hμ hm'
   obtain ⟨q,cells0,g1,g2,_⟩ :=sH hj
   obtain ⟨q',cells0',g1',g2',_⟩ :=sH hj'
   rw[h1] at g1;cases g1
   rw[h1'] at g1';cases g1'
   have e:=H.inj b b' _ _ blk g2 g2' h2 h2'
   subst e
   have l1:=kw (k:=0) hρ h1
   have l2:=kw (k:=0) hρ h1'
   rw[l1] at l2
   simpa using l2
 · obtain ⟨b,h1,h2⟩ :=hμ hm
   obtain ⟨s1,s2⟩ :=H.sep b blk h2
   exact ⟨s1,by simp only[dU,s2]⟩
 · cases hq:G.T g with
   |none=>simp only[dU,hq] at hg;cases hg
   |some q=>exact H.tlt g q hq
 · obtain ⟨b,cells0,h1,h2,rfl⟩ :=sH hj
   obtain ⟨b',h1',h2'⟩ :=hμ hm
   rw[h1] at h1';cases h1'
   rw[nB,List.getElem?_map] at hc
   cases hq:cells0[off]? with
   |none=>rw[hq] at hc;cases hc
   |some y=>
    rw[hq] at hc
    simp only[Option.map_some,Option.some.injEq] at hc
    obtain ⟨ys,rfl⟩ :=zK hc
    have O:=H.own b cells0 off s m ys blk v h2 hq h2' hv
    have l1:=kw (k:=0) hρ h1
    exact O.mv (.inr ⟨rfl,j,by simpa using l1,rfl⟩)
 · simp only[dU] at hz
   cases hq:ρ[j]? with
   |none=>rw[hq] at hz;cases hz
   |some b=>
    rw[hq] at hz
    obtain ⟨blk,cs,e,fr,q1,q2,q3⟩ :=H.siz b z hz
    exact ⟨blk,cs,e,fr,by simp only[dU,hq];exact q1,q2,q3⟩
 · obtain ⟨b,l0,h1,h2,rfl⟩ :=yb hj
   obtain ⟨blk,es,clk,q1,q2,q3⟩ :=H.mpo b l0 h2
   exact ⟨blk,es,clk,by simp only[dU,h1];exact q1,q2,ya l0 _ q3⟩
 · obtain ⟨b,l0,h1,h2,rfl⟩ :=yb x
   obtain ⟨b',l0',h1',h2',rfl⟩ :=yb x'
   obtain ⟨q,g1,g2⟩ :=hμ y
   obtain ⟨q',g1',g2'⟩ :=hμ y'
   rw[h1] at g1;cases g1
   rw[h1'] at g1';cases g1'
   have e:=H.mpi b b' _ _ blk h2 h2' g2 g2'
   subst e
   have l1:=kw (k:=0) hρ h1
   have l2:=kw (k:=0) hρ h1'
   rw[l1] at l2
   simpa using l2
theorem N2 {ρ:List Nat} (hρ:rj n ρ) :FrmN n G w (dU ρ G) w:=
 ⟨rfl,rfl,rfl,Nat.le_refl _,fun _ _ _ x=>x,fun b k hb x=>by simp only[dU];rw[hρ.2.2 b hb];exact x,fun b k hb x=>by simp only[dU];rw[hρ.2.2 b hb];exact x,
   fun g _ ht hm=> ⟨rfl,by simp only[dU,ht],fun j hj=>by
    simp only[dU] at hj
    cases hq:ρ[j]? with
    |none=>rw[hq] at hj;cases hj
    |some q=>rw[hq] at hj;exact hm q hj,fun _=>rfl⟩⟩
theorem uJ {ρ:List Nat} {c:C} {v:Value} (hc:aG 0 c=true) (h:Rep G c v) :Rep (dU ρ G) c v:=by
 have h1:=eI c v hc h
 have le: (da G 0).Le (dU ρ G) := ⟨fun _ _ _ x=>x,fun b k x=>by simp[da] at x,fun b k x=>by simp[da] at x⟩
 exact h1.mono le
theorem Sim.mv (hcx:CxOK cx) {a:Act} {ρ:List Nat} (hρ:ρ.Nodup) (H:Sim cx G w st a) :Sim cx (dU ρ G) w ⟨fun t=>cC ρ (st.env t),jg ρ st.h⟩ a:=
 ⟨H.defers,H.size,H.pre.ok.mv hρ,⟨fun t=>mS _ _ (H.pre.env.1 t),fun t s m xs e=>by
   obtain ⟨ys,hy⟩ :=zK e
   exact (H.pre.env.2 t s m ys hy).mv (.inl ⟨by simp,rfl⟩)⟩,fun g=>uJ (hcx.glo g) (H.pre.glob g)⟩
theorem Tr.mv (hcx:CxOK cx) {c:Code} (ρ:List Nat) (hρ:rj n ρ) (H:Tr cx n c ⟨fun t=>cC ρ (st.env t),jg ρ st.h⟩ Q) :Tr cx n c st Q:=fun G w a S R hR=>
 H (dU ρ G) w a (S.mv hcx hρ.1) R fun x s G' w' a' q S' F=>hR x s G' w' a' q S' ((N2 hρ).trans F)
def MvQ (n:Nat) (P:St→Prop) (s:St) :Prop:= ∃ρ:List Nat,rj n ρ∧P ⟨fun t=>cC ρ (s.env t),jg ρ s.h⟩
theorem eG {α:Type} (hcx:CxOK cx) (I:α→List (Nat×C)) (H:α→Hp) (ok:α→Prop) (μ:α→Nat) {c:Code} (a:α) (h0:ok a) (hl:Le st.env (I a)) (hh:st.h=H a)
 (hb: ∀a,ok a→Tr cx n c ⟨A (I a),H a⟩ (nl (MvQ n (At I H fun a'=>ok a'∧μ a'< μ a)) Q)) :Tr cx n (.loop c) st Q:=by
 refine Tr.loop (fun m s=> ∃ρ,rj n ρ∧∃a,μ a=m∧ok a∧Le (fun t=>cC ρ (s.env t)) (I a)∧jg ρ s.h=H a∨(μ a=m∧ok a∧Le s.env (I a)∧s.h=H a)) (μ a) ⟨List.range n,⟨List.nodup_range,by simp,fun j hj=>by simp[hj]⟩,a,.inr ⟨rfl,h0,hl,hh⟩⟩ ?_
 rintro m s ⟨ρ,hρ,a,⟨rfl,h1,h2,h3⟩ | ⟨rfl,h1,h2,h3⟩⟩
 · refine Tr.mv hcx ρ hρ (Tr.live _ h2 ?_)
   rw[h3]
   refine (hb a h1).mono fun e s q=> ?_
   cases e with
   |normal=>
    obtain ⟨ρ',hρ',a',⟨q1,q2⟩,q3,q4⟩ :=q
    exact ⟨μ a',q2,ρ',hρ',a',.inl ⟨rfl,q1,q3,q4⟩⟩
   |exit id=>exact q
   |ret=>exact q
 · refine Tr.live _ h2 ?_
   rw[h3]
   refine (hb a h1).mono fun e s q=> ?_
   cases e with
   |normal=>
    obtain ⟨ρ',hρ',a',⟨q1,q2⟩,q3,q4⟩ :=q
    exact ⟨μ a',q2,ρ',hρ',a',.inl ⟨rfl,q1,q3,q4⟩⟩
   |exit id=>exact q
   |ret=>exact q
end
end Go.Sx
namespace Go.Sx
open Go.RowKit
def dH (h:Hp) (b b':Nat) :Bool:= ((h.at b').isSome|| (h.mp b').isSome) && b' !=b
mutual
def d9 (ok:Nat→Bool) :C→C
 | .sv b o n=>if ok b=true then .sv b o n else .top
 | .gv b n s=>if ok b=true then .gv b n s else .top
 | .bp b o=>if ok b=true then .bp b o else .top
 | .mp b=>if ok b=true then .mp b else .top
 | .bt b t n=>if ok b=true then .bt b t n else .top
 | .sl r n xs=> .sl r n (scrs ok xs)
 | .kp xs=> .kp (scrs ok xs)
 | .agg xs=> .agg (scrs ok xs)
 | .tup xs=> .tup (scrs ok xs)
 | .fn f xs=> .fn f (scrs ok xs)
 | .top=> .top
 | .val v=> .val v
def scrs (ok:Nat→Bool) :List C→List C
 | [] => []
 |x::xs=>d9 ok x::scrs ok xs
end
mutual
def cz (ok:Nat→Bool) (b:Nat) (ys:List C) :C→C
 | .sv b' o n=>if b'=b then (if o+n≤ys.length then .sl .no n ((ys.drop o).take n) else .top) else if ok b'=true then .sv b' o n else .top
 | .gv b' n s=>if b'=b then (if n*s.1≤ys.length then .sl .no n (ys.take (n*s.1)) else .top) else if ok b'=true then .gv b' n s else .top
 | .bp b' o=>if b'=b then .kp (ys.drop o) else if ok b'=true then .bp b' o else .top
 | .mp b'=>if b'=b then .top else if ok b'=true then .mp b' else .top
 | .bt b' t n=>if b'=b then .top else if ok b'=true then .bt b' t n else .top
 | .sl r n xs=> .sl r n (fzCs ok b ys xs)
 | .kp xs=> .kp (fzCs ok b ys xs)
 | .agg xs=> .agg (fzCs ok b ys xs)
 | .tup xs=> .tup (fzCs ok b ys xs)
 | .fn f xs=> .fn f (fzCs ok b ys xs)
 | .top=> .top
 | .val v=> .val v
def fzCs (ok:Nat→Bool) (b:Nat) (ys:List C) :List C→List C
 | [] => []
 |x::xs=>cz ok b ys x::fzCs ok b ys xs
end
theorem rl (ok:Nat→Bool) : ∀xs:List C,scrs ok xs=xs.map (d9 ok)
 | [] =>rfl
 |x::xs=>by simp[scrs,rl ok xs]
theorem iy (ok:Nat→Bool) (b:Nat) (ys:List C) : ∀xs:List C,fzCs ok b ys xs=xs.map (cz ok b ys)
 | [] =>rfl
 |x::xs=>by simp[fzCs,iy ok b ys xs]
def kI (ok:Nat→Bool) (b:Nat) (ys:List C) (h:Hp) :Hp:= (h.map fun o=>o.map (fzCs ok b ys)).set b (some eL)
open Classical in
noncomputable def dT (G:Gh) (w:World) (b k:Nat) :Gh where
 K:=fun g o=>if G.μ b=some g∧o< k then w.cell? ⟨g,o,none⟩ else G.K g o
 μ:=fun b'=>if b'=b∨(∃g,G.μ b=some g∧G.μ b'=some g) then none else G.μ b'
 T:=G.T
 σ:=fun b'=>if b'=b∨(∃g,G.μ b=some g∧G.μ b'=some g) then none else G.σ b'
section
variable {cx:Cx} {n:Nat} {st:St} {Q:Ex→St→Prop} {G:Gh} {w:World} {h:Hp} {b:Nat} {cells:List C}
theorem zL (H:WorldOK G h w) (hb:h.at b=some cells) {b':Nat} (hok:dH h b b'=true) : ¬ (b'=b∨(∃g,G.μ b=some g∧G.μ b'=some g)) :=by
 simp only[dH,Bool.and_eq_true,Bool.or_eq_true,bne_iff_ne,ne_eq] at hok
 obtain ⟨h1,h2⟩ :=hok
 rintro (e| ⟨g,e1,e2⟩)
 · exact h2 e
 · rcases h1 with h1|h1
   · obtain ⟨c',hc'⟩ :=Option.isSome_iff_exists.1 h1
     exact h2 (H.inj b' b _ _ g hc' hb e2 e1)
   · obtain ⟨l',hl'⟩ :=Option.isSome_iff_exists.1 h1
     obtain ⟨blk,es,clk,q1,q2,_⟩ :=H.mpo b' l' hl'
     rw[e2] at q1;cases q1
     obtain ⟨cs,e,⟨fr,r2,_⟩,_⟩ :=H.bx hb e1
     rw[q2] at r2;cases r2
theorem qg (H:WorldOK G h w) (k:Nat) : (da G 0).Le (dT G w b k) :=
 ⟨fun g o u x=> (by
   have x':G.K g o=some u:=x
   simp only[dT]
   rw[if_neg]
   · exact x'
   · rintro ⟨e,_⟩
     rw[(H.sep b g e).1 o] at x';cases x'),fun b k x=>by simp[da] at x,fun b k x=>by simp[da] at x⟩
theorem fe (H:WorldOK G h w) (hb:h.at b=some cells) {b' k g:Nat} (hok:dH h b b'=true) (hm:G.μ b'=some g) : (dT G w b k).μ b'=some g:=by
 simp only[dT];rw[if_neg (zL H hb hok)];exact hm
theorem nF (H:WorldOK G h w) (hb:h.at b=some cells) {b' k:Nat} {g:Nat×Nat} (hok:dH h b b'=true) (hm:G.σ b'=some g) : (dT G w b k).σ b'=some g:=by
 simp only[dT];rw[if_neg (zL H hb hok)];exact hm
mutual
theorem tV (H:WorldOK G h w) (hb:h.at b=some cells) (k:Nat) : ∀ (c:C) (v:Value),Rep G c v→Rep (dT G w b k) (d9 (dH h b) c) v
 | .top,_,_=>by simp[d9,Rep]
 | .val u,v,r=>by simpa[d9,Rep] using r
 | .sl r n xs,v,x=>by
   simp only[d9,Rep] at x ⊢
   obtain ⟨a,cap,h1,h2,h3,h4,h5⟩ :=x
   refine ⟨a,cap,h1,h2,h3,h4,?_⟩
   rcases h5 with h5| ⟨blk,off,ha,hk⟩
   · left;rw[h5];rfl
   · exact .inr ⟨blk,off,ha,scr_repK H hb k xs blk off hk⟩
 | .sv b' off n,v,x=>by
   simp only[d9]
   split
   · rename_i hok
     simp only[Rep] at x ⊢
     obtain ⟨a,cap,h1,h2,h3,h4⟩ :=x
     exact ⟨a,cap,h1,h2,h3,fun hz=>by obtain ⟨blk,q1,q2⟩ :=h4 hz;exact ⟨blk,fe H hb hok q1,q2⟩⟩
   · simp[Rep]
 | .gv b' m s,v,x=>by
   simp only[d9]
   split
   · rename_i hok
     simp only[Rep] at x ⊢
     obtain ⟨a,cap,h1,h2,h3,h4⟩ :=x
     refine ⟨a,cap,h1,h2,h3,?_⟩
     rcases h4 with h4| ⟨blk,q1,q2,q3⟩
     · exact .inl h4
     · exact .inr ⟨blk,fe H hb hok q1,q2,nF H hb hok q3⟩
   · simp[Rep]
 | .bp b' off,v,x=>by
   simp only[d9]
   split
   · rename_i hok
     simp only[Rep] at x ⊢
     obtain ⟨blk,h1,h2⟩ :=x
     exact ⟨blk,fe H hb hok h1,h2⟩
   · simp[Rep]
 | .mp b',v,x=>by
   simp only[d9]
   split
   · rename_i hok
     simp only[Rep] at x ⊢
     obtain ⟨blk,h1,h2⟩ :=x
     exact ⟨blk,fe H hb hok h1,h2⟩
   · simp[Rep]
 | .bt b' t n,v,x=>by
   simp only[d9]
   split
   · rename_i hok
     simp only[Rep] at x ⊢
     obtain ⟨blk,h1,h2,h3⟩ :=x
     exact ⟨blk,fe H hb hok h1,h2,nF H hb hok h3⟩
   · simp[Rep]
 | .kp xs,v,x=>by
   simp only[d9,Rep] at x ⊢
   obtain ⟨blk,off,h1,h2⟩ :=x
   exact ⟨blk,off,h1,scr_repK H hb k xs blk off h2⟩
 | .agg xs,v,x=>by
   simp only[d9,Rep] at x ⊢
   obtain ⟨vs,h1,h2,h3⟩ :=x
   exact ⟨vs,h1,scr_repL H hb k xs _ h2,h3⟩
 | .tup xs,v,x=>by
   simp only[d9,Rep] at x ⊢
   obtain ⟨vs,h1,h2⟩ :=x
   exact ⟨vs,h1,scr_repL H hb k xs _ h2⟩
 | .fn f xs,v,x=>by
   simp only[d9,Rep] at x ⊢
   obtain ⟨vs,h1,h2⟩ :=x
   exact ⟨vs,h1,scr_repL H hb k xs _ h2⟩
theorem scr_repL (H:WorldOK G h w) (hb:h.at b=some cells) (k:Nat) : ∀ (xs:List C) (vs:List Value),RepL G xs vs→RepL (dT G w b k) (scrs (dH h b) xs) vs
 | [],vs,r=>by simpa[scrs,RepL] using r
 |x::xs,vs,r=>by
  simp only[scrs,RepL] at r ⊢
  obtain ⟨v,vs',h1,h2,h3⟩ :=r
  exact ⟨v,vs',h1,tV H hb k x v h2,scr_repL H hb k xs vs' h3⟩
theorem scr_repK (H:WorldOK G h w) (hb:h.at b=some cells) (k:Nat) : ∀ (xs:List C) (blk off:Nat),RepK G blk off xs→RepK (dT G w b k) blk off (scrs (dH h b) xs)
 | [],_,_,_=>by simp[scrs,RepK]
 |x::xs,blk,off,r=>by
  simp only[scrs,RepK] at r ⊢
  obtain ⟨⟨u,h1,h2,h3⟩,h4⟩ :=r
  exact ⟨⟨u,(qg H k).K _ _ _ h1,h2,tV H hb k x u h3⟩,scr_repK H hb k xs blk (off+1) h4⟩
end
def fzY (h:Hp) (b:Nat) (cells:List C) :List C:= (scrs (dH h b) cells).map C.noR
theorem N3 (h:Hp) (b:Nat) (cells:List C) : (fzY h b cells).length=cells.length:=by simp[fzY,rl]
theorem sI (H:WorldOK G h w) (hb:h.at b=some cells) {blk:Nat} (hm:G.μ b=some blk) :RepK (dT G w b cells.length) blk 0 (fzY h b cells) :=by
 obtain ⟨cs,e,⟨fr,q2,_⟩,q0,q3,q4⟩ :=H.bx hb hm
 refine RepK.of_get fun i x hx=> ?_
 have hil:i< cells.length:=by have:= (List.getElem?_eq_some_iff.1 hx).1;rwa [N3] at this
 unfold fzY at hx
 rw[rl,List.map_map,List.getElem?_map] at hx
 cases hc:cells[i]? with
 |none=>rw[hc] at hx;cases hx
 |some y=>
  rw[hc] at hx
  simp only[Option.map_some,Option.some.injEq,Function.comp] at hx
  subst hx
  obtain ⟨u,hu,hr⟩ :=q3.get i y hc
  rw[List.getElem?_take,if_pos hil] at hu
  refine ⟨u,?_,q4 u (List.mem_of_getElem? hu),(tV H hb cells.length y u hr).noR⟩
  simp only[dT,Nat.zero_add]
  rw[if_pos ⟨hm,hil⟩]
  exact qc q2 _ _ hu
mutual
theorem mT (H:WorldOK G h w) (hb:h.at b=some cells) : ∀ (c:C) (v:Value),Rep G c v→Rep (dT G w b cells.length) (cz (dH h b) b (fzY h b cells) c) v
 | .top,_,_=>by simp[cz,Rep]
 | .val u,v,r=>by simpa[cz,Rep] using r
 | .sl r n xs,v,x=>by
   simp only[cz,Rep] at x ⊢
   obtain ⟨a,cap,h1,h2,h3,h4,h5⟩ :=x
   refine ⟨a,cap,h1,h2,h3,h4,?_⟩
   rcases h5 with h5| ⟨blk,off,ha,hk⟩
   · left;rw[h5];rfl
   · exact .inr ⟨blk,off,ha,fzC_repK H hb xs blk off hk⟩
 | .sv b' off n,v,x=>by
   simp only[cz]
   split
   · rename_i e
     subst e
     split
     · rename_i hle
       simp only[Rep] at x ⊢
       obtain ⟨a,cap,h1,h2,h3,h4⟩ :=x
       refine ⟨a,cap,h1,h2,h3,by simp,?_⟩
       by_cases hn:n=0
       · left;subst hn;simp
       · right
         obtain ⟨blk,q1,q2⟩ :=h4 hn
         refine ⟨blk,off,q2,?_⟩
         have:= (sI H hb q1).drop off
         rw[Nat.zero_add] at this
         exact this.take n
     · simp[Rep]
   · split
     · rename_i hok
       simp only[Rep] at x ⊢
       obtain ⟨a,cap,h1,h2,h3,h4⟩ :=x
       exact ⟨a,cap,h1,h2,h3,fun hz=>by obtain ⟨blk,q1,q2⟩ :=h4 hz;exact ⟨blk,fe H hb hok q1,q2⟩⟩
     · simp[Rep]
 | .gv b' m s,v,x=>by
   simp only[cz]
   split
   · rename_i e
     subst e
     split
     · rename_i hle
       simp only[Rep] at x ⊢
       obtain ⟨a,cap,h1,h2,h3,h4⟩ :=x
       refine ⟨a,cap,h1,h2,h3,by simp,?_⟩
       rcases h4 with ⟨rfl,_⟩ | ⟨blk,q1,q2,q3⟩
       · left;simp
       · right
         exact ⟨blk,0,q2,(sI H hb q1).take _⟩
     · simp[Rep]
   · split
     · rename_i hok
       simp only[Rep] at x ⊢
       obtain ⟨a,cap,h1,h2,h3,h4⟩ :=x
       refine ⟨a,cap,h1,h2,h3,?_⟩
       rcases h4 with h4| ⟨blk,q1,q2,q3⟩
       · exact .inl h4
       · exact .inr ⟨blk,fe H hb hok q1,q2,nF H hb hok q3⟩
     · simp[Rep]
 | .mp b',v,x=>by
   simp only[cz]
   split
   · simp[Rep]
   · split
     · rename_i hok
       simp only[Rep] at x ⊢
       obtain ⟨blk,h1,h2⟩ :=x
       exact ⟨blk,fe H hb hok h1,h2⟩
     · simp[Rep]
 | .bt b' t n,v,x=>by
   simp only[cz]
   split
   · simp[Rep]
   · split
     · rename_i hok
       simp only[Rep] at x ⊢
       obtain ⟨blk,h1,h2,h3⟩ :=x
       exact ⟨blk,fe H hb hok h1,h2,nF H hb hok h3⟩
     · simp[Rep]
 | .bp b' off,v,x=>by
   simp only[cz]
   split
   · rename_i e
     subst e
     simp only[Rep] at x ⊢
     obtain ⟨blk,h1,h2⟩ :=x
     refine ⟨blk,off,h2,?_⟩
     have:= (sI H hb h1).drop off
     rwa [Nat.zero_add] at this
   · split
     · rename_i hok
       simp only[Rep] at x ⊢
       obtain ⟨blk,h1,h2⟩ :=x
       exact ⟨blk,fe H hb hok h1,h2⟩
     · simp[Rep]
 | .kp xs,v,x=>by
   simp only[cz,Rep] at x ⊢
   obtain ⟨blk,off,h1,h2⟩ :=x
   exact ⟨blk,off,h1,fzC_repK H hb xs blk off h2⟩
 | .agg xs,v,x=>by
   simp only[cz,Rep] at x ⊢
   obtain ⟨vs,h1,h2,h3⟩ :=x
   exact ⟨vs,h1,fzC_repL H hb xs _ h2,h3⟩
 | .tup xs,v,x=>by
   simp only[cz,Rep] at x ⊢
   obtain ⟨vs,h1,h2⟩ :=x
   exact ⟨vs,h1,fzC_repL H hb xs _ h2⟩
 | .fn f xs,v,x=>by
   simp only[cz,Rep] at x ⊢
   obtain ⟨vs,h1,h2⟩ :=x
   exact ⟨vs,h1,fzC_repL H hb xs _ h2⟩
theorem fzC_repL (H:WorldOK G h w) (hb:h.at b=some cells) : ∀ (xs:List C) (vs:List Value),RepL G xs vs→RepL (dT G w b cells.length) (fzCs (dH h b) b (fzY h b cells) xs) vs
 | [],vs,r=>by simpa[fzCs,RepL] using r
 |x::xs,vs,r=>by
  simp only[fzCs,RepL] at r ⊢
  obtain ⟨v,vs',h1,h2,h3⟩ :=r
  exact ⟨v,vs',h1,mT H hb x v h2,fzC_repL H hb xs vs' h3⟩
theorem fzC_repK (H:WorldOK G h w) (hb:h.at b=some cells) : ∀ (xs:List C) (blk off:Nat),RepK G blk off xs→RepK (dT G w b cells.length) blk off (fzCs (dH h b) b (fzY h b cells) xs)
 | [],_,_,_=>by simp[fzCs,RepK]
 |x::xs,blk,off,r=>by
  simp only[fzCs,RepK] at r ⊢
  obtain ⟨⟨u,h1,h2,h3⟩,h4⟩ :=r
  exact ⟨⟨u,(qg H _).K _ _ _ h1,h2,mT H hb x u h3⟩,fzC_repK H hb xs blk (off+1) h4⟩
end
theorem qh {ok:Nat→Bool} {ys:List C} {c:C} {s m:Nat} {xs:List C} (hc:cz ok b ys c= .sl (.own s) m xs) : ∃zs,c= .sl (.own s) m zs:=by
 cases c with
 |sl r k zs=>simp only[cz] at hc;cases hc;exact ⟨zs,rfl⟩
 |sv b o k=>simp only[cz] at hc;repeat' split at hc
            all_goals cases hc
 |gv b o k=>simp only[cz] at hc;repeat' split at hc
            all_goals cases hc
 |bp b o=>simp only[cz] at hc;repeat' split at hc
          all_goals cases hc
 |bt b t n=>simp only[cz] at hc;repeat' split at hc
            all_goals cases hc
 |mp b=>simp only[cz] at hc;repeat' split at hc
        all_goals cases hc
 |_=>simp only[cz] at hc;cases hc
theorem Fk {ok:Nat→Bool} {ys:List C} {c:C} {u:Value} (h:cz ok b ys c= .val u) :c= .val u:=by
 cases c with
 |val v=>simp only[cz] at h;exact h
 |sv b o k=>simp only[cz] at h;repeat' split at h
            all_goals cases h
 |gv b o k=>simp only[cz] at h;repeat' split at h
            all_goals cases h
 |bp b o=>simp only[cz] at h;repeat' split at h
          all_goals cases h
 |bt b t n=>simp only[cz] at h;repeat' split at h
            all_goals cases h
 |mp b=>simp only[cz] at h;repeat' split at h
        all_goals cases h
 |_=>simp only[cz] at h;cases h
theorem Fl {ok:Nat→Bool} {ys:List C} {c:C} {xs:List C} (h:cz ok b ys c= .tup xs) : ∃zs,c= .tup zs∧xs=fzCs ok b ys zs:=by
 cases c with
 |tup zs=>simp only[cz] at h;cases h;exact ⟨zs,rfl,rfl⟩
 |sv b o k=>simp only[cz] at h;repeat' split at h
            all_goals cases h
 |gv b o k=>simp only[cz] at h;repeat' split at h
            all_goals cases h
 |bp b o=>simp only[cz] at h;repeat' split at h
          all_goals cases h
 |bt b t n=>simp only[cz] at h;repeat' split at h
            all_goals cases h
 |mp b=>simp only[cz] at h;repeat' split at h
        all_goals cases h
 |_=>simp only[cz] at h;cases h
theorem mU {ok:Nat→Bool} {ys:List C} (hb:b< h.length) {j:Nat} {l:List C} (hj:Hp.mp (kI ok b ys h) j=some l) :j≠b∧∃l0,h.mp j=some l0∧l=fzCs ok b ys l0:=by
 unfold kI at hj
 obtain ⟨n1,n2⟩ :=g5 (h:=h.map fun o=>o.map (fzCs ok b ys)) (by simpa using hb) rfl j l hj
 refine ⟨n1,?_⟩
 unfold Hp.mp at n2
 rw[List.getElem?_map] at n2
 cases hq:h[j]? with
 |none=>rw[hq] at n2;cases n2
 |some o=>
  rw[hq] at n2
  cases o with
  |none=>cases n2
  |some c0=>
   obtain ⟨l0,h1,h2⟩ :=tU (Fs:=fzCs ok b ys) (iy ok b ys) (fun _ _=>Fk) (fun _ _=>Fl) (cells:=c0) n2
   exact ⟨l0,by unfold Hp.mp;rw[hq];exact h1,h2⟩
theorem yd (H:WorldOK G h w) (hb:h.at b=some cells) : ∀ (l:List C) (es:List MapEntry),MRep G l es→MRep (dT G w b cells.length) (fzCs (dH h b) b (fzY h b cells) l) es
 | [],_,r=>by simpa[MRep,fzCs] using r
 | [_],_,r=>by simp[MRep] at r
 |k::v::l,es,r=>by
  simp only[MRep,fzCs] at r ⊢
  obtain ⟨e,es',h1,h2,h3,h4⟩ :=r
  exact ⟨e,es',h1,mT H hb k _ h2,mT H hb v _ h3,yd H hb l es' h4⟩
theorem kx {ok:Nat→Bool} {ys:List C} (hb:h.at b=some cells) {j:Nat} {c':List C} (hj:Hp.at (kI ok b ys h) j=some c') :j≠b∧∃c0,h.at j=some c0∧c'=fzCs ok b ys c0:=by
 have hlen:=eQ hb
 unfold kI at hj
 rw[dh (by simpa using hlen)] at hj
 split at hj
 · cases hj
 · rename_i hne
   refine ⟨hne,?_⟩
   have h1:=fS hj
   rw[List.getElem?_map] at h1
   cases hq:h[j]? with
   |none=>rw[hq] at h1;cases h1
   |some o=>
    rw[hq] at h1
    cases o with
    |none=>cases h1
    |some c0=>
     simp only[Option.map_some,Option.some.injEq] at h1
     refine ⟨c0,?_,h1.symm⟩
     have hl:=iA hj
     unfold Hp.at
     rw[hq]
     subst h1
     show cI (some c0) =_
     cases c0 with
     |nil=>rfl
     |cons x l=>
      cases x with
      |tup xs=>simp only[fzCs,cz] at hl;cases hl
      |_=>rfl
theorem OwnRow.fz {k:Nat} {p:cJ} {v:Value} {s m:Nat} (O:OwnRow G w p v s m) :OwnRow (dT G w b k) w p v s m:=by
 rcases O with O| ⟨g,cap,cur,e,a1,a2,a3,a4,a5,a6⟩
 · exact .inl O
 · refine .inr ⟨g,cap,cur,e,a1,a2,a3,a4,fun o ho=> ?_,fun b' hb'=> ?_⟩
   · simp only[dT]
     rw[if_neg (fun x=>a6 b x.1)]
     exact a5 o ho
   · simp only[dT] at hb'
     split at hb'
     · cases hb'
     · exact a6 b' hb'
theorem WorldOK.fz (H:WorldOK G h w) (hb:h.at b=some cells) :WorldOK (dT G w b cells.length) (kI (dH h b) b (fzY h b cells) h) w:=by
 have hlen:=eQ hb
 have hμ: ∀ {j blk},(dT G w b cells.length).μ j=some blk→G.μ j=some blk∧j≠b∧G.μ b≠some blk:=fun {j blk} x=>by
  simp only[dT] at x
  split at x
  · cases x
  · rename_i hne
    refine ⟨x,fun e=>hne (.inl e),fun e=>hne (.inr ⟨blk,e,x⟩)⟩
 refine ⟨fun blk off u hk=> ?_,fun j c' hj=> ?_,fun j blk hm=> ?_,fun j j' c c' blk hj hj' hm hm'=> ?_,fun j blk hm=> ?_,H.tlt,fun j c' off s m xs blk v hj hc hm hv=> ?_,fun j z hz=> ?_,fun j l hj=> ?_,fun j j' l l' blk x x' y y'=> ?_⟩
 · simp only[dT] at hk
   split at hk
   · exact hk
   · exact H.known blk off u hk
 · obtain ⟨hne,c0,h2,rfl⟩ :=kx hb hj
   have hok:dH h b j=true:=by simp[dH,h2,hne]
   rcases H.box j c0 h2 with ⟨hE,hE2⟩ | ⟨blk,cs,e,q1,q2,q3,q4,q5⟩
   · refine .inl ⟨by rw[hE];rfl,?_⟩
     simp only[dT]
     split
     · rfl
     · exact hE2
   · have hl: (fzCs (dH h b) b (fzY h b cells) c0).length=c0.length:=by rw[iy];simp
     exact .inr ⟨blk,cs,e,fe H hb hok q1,q2,by rw[hl];exact q3,by rw[hl];exact fzC_repL H hb _ _ q4,q5⟩
 · obtain ⟨h1,h2,h3⟩ :=hμ hm
   obtain ⟨⟨c,hc⟩,hl⟩ :=H.dom j blk h1
   refine ⟨⟨fzCs (dH h b) b (fzY h b cells) c,?_⟩,hl⟩
   unfold kI
   rw[List.getElem?_set,if_neg (Ne.symm h2),List.getElem?_map,hc];rfl
 · obtain ⟨h1,_,_⟩ :=hμ hm
   obtain ⟨h1',_,_⟩ :=hμ hm'
   obtain ⟨_,c0,g2,_⟩ :=kx hb hj
   obtain ⟨_,c0',g2',_⟩ :=kx hb hj'
   exact H.inj j j' _ _ blk g2 g2' h1 h1'
 · obtain ⟨h1,h2,h3⟩ :=hμ hm
   obtain ⟨s1,s2⟩ :=H.sep j blk h1
   refine ⟨fun o=> ?_,s2⟩
   simp only[dT]
   rw[if_neg (fun x=>h3 x.1)]
   exact s1 o
 · obtain ⟨h1,_,_⟩ :=hμ hm
   obtain ⟨_,c0,g2,rfl⟩ :=kx hb hj
   rw[iy,List.getElem?_map] at hc
   cases hq:c0[off]? with
   |none=>rw[hq] at hc;cases hc
   |some y=>
    rw[hq] at hc
    simp only[Option.map_some,Option.some.injEq] at hc
    obtain ⟨zs,rfl⟩ :=qh hc
    exact (H.own j c0 off s m zs blk v g2 hq h1 hv).fz
 · simp only[dT] at hz ⊢
   split at hz
   · cases hz
   · rename_i hne
     obtain ⟨blk,cs,e,fr,q1,q2,q3⟩ :=H.siz j z hz
     exact ⟨blk,cs,e,fr,by rw[if_neg hne];exact q1,q2,q3⟩
 · obtain ⟨n1,l0,n2,rfl⟩ :=mU hlen hj
   obtain ⟨blk,es,clk,q1,q2,q3⟩ :=H.mpo j l0 n2
   have hok:dH h b j=true:=by simp[dH,n2,n1]
   exact ⟨blk,es,clk,fe H hb hok q1,q2,yd H hb l0 _ q3⟩
 · obtain ⟨n1,l0,n2,rfl⟩ :=mU hlen x
   obtain ⟨n1',l0',n2',rfl⟩ :=mU hlen x'
   exact H.mpi j j' _ _ blk n2 n2' (hμ y).1 (hμ y').1
theorem zM (H:WorldOK G h w) (hb:h.at b=some cells) (hnb:n≤b) (hn: ∀j,j< n→((h.at j).isSome|| (h.mp j).isSome) =true∨h[j]? =some none) (k:Nat) :FrmN n G w (dT G w b k) w:=by
 have keep: ∀j,j< n→∀blk,G.μ j=some blk→dH h b j=true:=fun j hj blk hm=>by
  rcases hn j hj with h1|h1
  · simp[dH,h1];omega
  · obtain ⟨⟨c,hc⟩,_⟩ :=H.dom j blk hm
    rw[h1] at hc;cases hc
 refine ⟨rfl,rfl,rfl,Nat.le_refl _,fun g o u x=> (qg H k).K g o u x,fun j blk hj x=>fe H hb (keep j hj blk x) x,fun j z hj x=> ?_,fun g _ ht hm=> ⟨rfl,ht,fun j hj=> ?_,fun o=> ?_⟩⟩
 · obtain ⟨blk,_,_,_,q1,_⟩ :=H.siz j z x
   exact nF H hb (keep j hj blk q1) x
 · simp only[dT] at hj
   split at hj
   · cases hj
   · exact hm j hj
 · simp only[dT]
   rw[if_neg (fun x=>hm b x.1)]
theorem Tr.fz (hcx:CxOK cx) {c:Code} (b:Nat) {cells:List C} (hb:st.h.at b=some cells) (hnb:n≤b) (hn: ∀j,j< n→((st.h.at j).isSome|| (st.h.mp j).isSome) =true∨st.h[j]? =some none)
 (K:Tr cx n c ⟨fun t=>cz (dH st.h b) b (fzY st.h b cells) (st.env t),kI (dH st.h b) b (fzY st.h b cells) st.h⟩ Q) :Tr cx n c st Q:=fun G w a S R hR=>
 K (dT G w b cells.length) w a ⟨S.defers,S.size,S.pre.ok.fz hb,⟨fun t=>mT S.pre.ok hb _ _ (S.pre.env.1 t),fun t s m xs e=>by
     obtain ⟨ys,hy⟩ :=qh e
     exact (S.pre.env.2 t s m ys hy).fz⟩,fun g=> (eI _ _ (hcx.glo g) (S.pre.glob g)).mono (qg S.pre.ok _)⟩ R
   fun x s G' w' a' q S' F=>hR x s G' w' a' q S' ((zM S.pre.ok hb hnb hn _).trans F)
end
end Go.Sx
namespace Go.Sx
open Go.RowKit
theorem Ib (v:Value) : (C.val v).asSv= .val v:=rfl
theorem Ic {α:Type} (f:α→List C) (r:Rt) (l:List α) : (sl f r l).asSv=sl f r l:=rfl
theorem N4 (b o n:Nat) : (C.sv b o n).asSv= .sv b o n:=rfl
theorem N5 (b n:Nat) (s:Nat×Nat) : (C.gv b n s).asSv= .sv b 0 n:=rfl
theorem N6 (b o:Nat) : (C.bp b o).asSv= .bp b o:=rfl
theorem N7 (xs:List C) : (C.kp xs).asSv= .kp xs:=rfl
theorem Uk (b n:Nat) (s:Nat×Nat) : (C.gv b n s).noR= .gv b n s:=rfl
theorem Id (b n:Nat) (s:Nat×Nat) : (C.gv b n s).cells?=some [.gv b n s] :=rfl
theorem N8 (b n:Nat) (s:Nat×Nat) (l:List C) :ew (.gv b n s::l) =true:=rfl
theorem Ie (cx:Cx) (l:List Nat) (d:Option Nat) :nS (cx.grow l) d=nQ l d:=by cases d<;>rfl
theorem Ul (cx:Cx) (l:List Nat) : (cx.grow l).P=cx.P:=rfl
theorem Um (cx:Cx) (l:List Nat) : (cx.grow l).N=cx.N:=rfl
theorem N9 (cx:Cx) (l:List Nat) : (cx.grow l).pu=cx.pu:=rfl
theorem BV (P:Program) (t:TypeId) (v:Value) (lo hi mx:Option C) :kh P t (.val v) lo hi mx=eA P t (.val v) lo hi mx:=rfl
theorem BW {α:Type} (f:α→List C) (P:Program) (t:TypeId) (r:Rt) (l:List α) (lo hi mx:Option C) :kh P t (sl f r l) lo hi mx=eA P t (sl f r l) lo hi mx:=rfl
theorem Fm (P:Program) (t:TypeId) (b o:Nat) (lo hi mx:Option C) :kh P t (.bp b o) lo hi mx=eA P t (.bp b o) lo hi mx:=rfl
theorem BX (P:Program) (t:TypeId) (b n:Nat) (s:Nat×Nat) (lo:C) (hi mx:Option C) :kh P t (.gv b n s) (some lo) hi mx=eA P t (.sv b 0 n) (some lo) hi mx:=rfl
def Yw (P:Program) (t:Option TD) (b n:Nat) (s:Nat×Nat) (hi:Option C) :Option Plan:=match t with
 |some d=>match d.u with
  | .slice e=>match td P e,dq hi n n with
    |some de,some h=>if (de.size,e) =s then some (vp (.gv b h s)) else none
    |_,_=>none
  |_=>none
 |none=>none
theorem Fn (P:Program) (t:TypeId) (b n:Nat) (s:Nat×Nat) (hi:Option C) :kh P t (.gv b n s) none hi none=Yw P (td P t) b n s hi:=rfl
def Yx (e:Nat) (t:Option TD) (b:Nat) (s:Nat×Nat) (h:Option Nat) :Option Plan:=match t,h with
 |some de,some h=>if (de.size,e) =s then some (vp (.gv b h s)) else none
 |_,_=>none
theorem Un (P:Program) (e a1 b1:Nat) (z1:List Value) (b n:Nat) (s:Nat×Nat) (hi:Option C) :Yw P (some ⟨.slice e,a1,b1,z1⟩) b n s hi=Yx e (td P e) b s (dq hi n n) :=rfl
theorem If (e:Nat) (u:TypeDesc) (s y:Nat) (z:List Value) (b h:Nat) :Yx e (some ⟨u,s,y,z⟩) b (s,e) (some h) =some (vp (.gv b h (s,e))) :=if_pos rfl
def uL (e:Nat) (de:Option TD) (x y:C) :Option Plan:=match de with
 |none=>none
 |some de=>
  let start:Option (Nat×Option (Nat×Nat)) :=match x with
   | .val (.slice none 0 0) =>some (0,none)
   | .sl .full 0 _=>some (0,none)
   | .gv b n s=>if s= (de.size,e) then some (n,some (b,n)) else none
   |_=>none
  match start with
  |none=>none
  |some (n,b) =>
   let fin (m:Nat) (ys:List C) :Bool:=decide (ys.length=m*de.size∧0< de.size∧de.zero.length=de.size∧(n+m)*de.bytes≤140737488355328∧n+m≤9223372036854775807∧de.zero.all (·.oneCell') =true)
   match y with
   | .sv b' off m=>some (.ap b (de.size,e) m fun h=> (h.at b').bind fun cells=>if off+m*de.size≤cells.length∧fin m (((cells.drop off).take (m*de.size)).map C.noR) =true then some (((cells.drop off).take (m*de.size)).map C.noR) else none)
   |y=>match jt y with
    |some (m,ys) =>if fin m ys=true then some (.ap b (de.size,e) m fun _=>some ys) else none
    |none=>none
def Yy (P:Program) (d d2:Option TD) (x y:C) :Option Plan:=match d,d2 with
 |some d,some d2=>
  if io d2.u=false then none else
  match d.u with
  | .slice e=>uL e (td P e) x y
  |_=>none
 |_,_=>none
theorem XO (P:Program) (t t2:TypeId) (x y:C) :ip P t t2 x y=Yy P (td P t) (td P t2) x y:=rfl
theorem XP (P:Program) (e e2 a1 b1 a2 b2:Nat) (z1 z2:List Value) (x y:C) :Yy P (some ⟨.slice e,a1,b1,z1⟩) (some ⟨.slice e2,a2,b2,z2⟩) x y=uL e (td P e) x y:=rfl
section
variable {α:Type} (f:α→List C) {s:Nat} [hf:Cel f s] (e:Nat) (u:TypeDesc) (y:Nat) (z:List Value)
theorem Fo (n:Nat) (l':List α) (hz:z.length=s) (hz1:z.all (·.oneCell') =true) (h: (n+l'.length)*y≤140737488355328∧n+l'.length≤9223372036854775807) :
 decide ((cl f l').length=l'.length*s∧0< s∧z.length=s∧(n+l'.length)*y≤140737488355328∧n+l'.length≤9223372036854775807∧z.all (·.oneCell') =true) =true:=by
 simp only[decide_eq_true_eq]
 exact ⟨cp (f:=f) l',hf.pos,hz,h.1,h.2,hz1⟩
theorem Uo (b n:Nat) (r:Rt) (l':List α) (hz:z.length=s) (hz1:z.all (·.oneCell') =true) (h: (n+l'.length)*y≤140737488355328∧n+l'.length≤9223372036854775807) :
 uL e (some ⟨u,s,y,z⟩) (.gv b n (s,e)) (sl f r l') =some (.ap (some (b,n)) (s,e) l'.length fun _=>some (cl f l')) :=by
 have e:=Fo f y z n l' hz hz1 h
 simp only[uL,if_true,sl,jt,C.sl?]
 rw[if_pos e]
theorem Ig (β:Type) (g:β→List C) (r:Rt) (l':List α) (hz:z.length=s) (hz1:z.all (·.oneCell') =true) (h:l'.length*y≤140737488355328∧l'.length≤9223372036854775807) :
 uL e (some ⟨u,s,y,z⟩) (sl g .full []) (sl f r l') =some (.ap none (s,e) l'.length fun _=>some (cl f l')) :=by
 have e:=Fo f y z 0 l' hz hz1 (by simpa using h)
 simp only[uL,sl,jt,C.sl?,List.length_nil]
 rw[if_pos e]
end
section
variable (cx:Cx) (apps:List Nat) (dsts:List (Option Nat)) (l:List Oper) (id':Nat) (d:Option Nat) (e:List (Nat×C)) (h:Hp) (fs:List FP) (K:List FP→St→Prop)
def nR:List C→List C:=List.map C.noR
def nG (b n:Nat) (s:Nat×Nat) (m:Nat) (cs:List C) (o:Option (List C)) :Prop:=match o with
 |none=>False
 |some cells=>
  if (n+m)*s.1≤cells.length∧(n≠0∨m=0) then run cx apps dsts l id' (fK d (.gv b (n+m) s) e) (h.set b (some (splice cells (n*s.1) (cs.map C.noR)))) ((4,0) ::fs) K
  else if n*s.1=cells.length then run cx apps dsts l id' (fK d (.gv h.length (n+m) s) e) (h.set b (some eL)++[some ((cells++cs).map C.noR)]) ((4,0) ::fs) K
  else if n=0 then run cx apps dsts l id' (fK d (.gv h.length (n+m) s) e) (h.set b (some eL)++[some (cs.map C.noR)]) ((4,0) ::fs) K else False
theorem Oa (z:FP) (s:Nat×Nat) (m:Nat) (cs:List C) :zp cx apps dsts l id' d e h fs K z none s m (some cs) =run cx apps dsts l id' (fK d (.gv h.length m s) e) (h++[some (nR cs)]) (z::fs) K:=rfl
theorem Ob (z:FP) (b n:Nat) (s:Nat×Nat) (m:Nat) (cs:List C) :zp cx apps dsts l id' d e h fs K z (some (b,n)) s m (some cs) =nG cx apps dsts l id' d e h fs K b n s m cs (h.at b) :=rfl
theorem Oc {α:Type} (f:α→List C) {s:Nat} [hf:Cel f s] (e' b n m:Nat) (xs ys:List α) (hn:n=xs.length) (hm:m=ys.length∧0< m) :
 nG cx apps dsts l id' d e h fs K b n (s,e') m (cl f ys) (some (cl f xs)) =run cx apps dsts l id' (fK d (.gv h.length (xs++ys).length (s,e')) e) (h.set b (some eL)++[some (cl f (xs++ys))]) ((4,0) ::fs) K:=by
 obtain ⟨hm1,hm2⟩ :=hm
 subst hn hm1
 have hp:=hf.pos
 have hl:=cp (f:=f) xs
 have hml:s≤ys.length*s:=by
  have:=Nat.mul_le_mul_right s (show 1≤ys.length by omega)
  omega
 unfold nG
 simp only[]
 rw[if_neg (by rw[hl,Nat.add_mul];omega),if_pos hl.symm,←iW,fI,List.length_append]
end
@[congr] theorem Yz {cx:Cx} {apps:List Nat} {dsts:List (Option Nat)} {l:List Oper} {id':Nat} {d:Option Nat} {e:List (Nat×C)} {h:Hp} {fs:List FP} {K:List FP→St→Prop} {z:FP} {b:Option (Nat×Nat)} {s:Nat×Nat} {m:Nat} {p p':Option (List C)} (hp:p=p') :
   zp cx apps dsts l id' d e h fs K z b s m p=zp cx apps dsts l id' d e h fs K z b s m p':=by rw[hp]
@[congr] theorem XQ {cx:Cx} {apps:List Nat} {dsts:List (Option Nat)} {l:List Oper} {id':Nat} {d:Option Nat} {e:List (Nat×C)} {h:Hp} {fs:List FP} {K:List FP→St→Prop} {b n:Nat} {s:Nat×Nat} {m:Nat} {cs:List C} {p p':Option (List C)} (hp:p=p') :
   nG cx apps dsts l id' d e h fs K b n s m cs p=nG cx apps dsts l id' d e h fs K b n s m cs p':=by rw[hp]
theorem XR {α:Type} (f:α→List C) {s:Nat} [hf:Cel f s] (l:List α) :nR (cl f l) =cl f l:=fI l
theorem XS (p q:Option Plan) :uv true p q=p:=rfl
theorem XT (p q:Option Plan) :uv false p q=q:=rfl
theorem aJ (k b:Nat) :eB [] k b=none:=rfl
theorem aA (x:Nat) (r:List Nat) (k b:Nat) :eB (x::r) k b=if b=x then some k else eB r (k+1) b:=rfl
def Ih (n:Nat) (s:Nat×Nat) :Option Nat→C
 |some j=> .gv j n s
 |none=> .top
def Ii (o n:Nat) :Option Nat→C
 |some j=> .sv j o n
 |none=> .top
def Ij (o:Nat) :Option Nat→C
 |some j=> .bp j o
 |none=> .top
theorem a0 (ρ:List Nat) (b n:Nat) (s:Nat×Nat) :cC ρ (.gv b n s) =Ih n s (eB ρ 0 b) :=by simp only[cC];cases eB ρ 0 b<;>rfl
theorem a7 (ρ:List Nat) (b o n:Nat) :cC ρ (.sv b o n) =Ii o n (eB ρ 0 b) :=by simp only[cC];cases eB ρ 0 b<;>rfl
theorem a8 (ρ:List Nat) (b o:Nat) :cC ρ (.bp b o) =Ij o (eB ρ 0 b) :=by simp only[cC];cases eB ρ 0 b<;>rfl
theorem af (n:Nat) (s:Nat×Nat) (j:Nat) :Ih n s (some j) = .gv j n s:=rfl
theorem ag (n:Nat) (s:Nat×Nat) :Ih n s none= .top:=rfl
theorem ah (o n j:Nat) :Ii o n (some j) = .sv j o n:=rfl
theorem aj (o n:Nat) :Ii o n none= .top:=rfl
theorem am (o j:Nat) :Ij o (some j) = .bp j o:=rfl
theorem an (o:Nat) :Ij o none= .top:=rfl
theorem aK (ρ:List Nat) (v:Value) :cC ρ (.val v) = .val v:=by simp only[cC]
theorem aH (ρ:List Nat) :cC ρ .top= .top:=by simp only[cC]
theorem aL (ρ:List Nat) (xs:List C) :cC ρ (.agg xs) = .agg (mvCs ρ xs) :=by simp only[cC]
theorem ba (ρ:List Nat) (xs:List C) :cC ρ (.kp xs) = .kp (mvCs ρ xs) :=by simp only[cC]
theorem bc (ρ:List Nat) (f:Nat) (xs:List C) :cC ρ (.fn f xs) = .fn f (mvCs ρ xs) :=by simp only[cC]
theorem aB (ρ:List Nat) :mvCs ρ [] = [] :=by simp only[mvCs]
theorem ao (ρ:List Nat) (c:C) (l:List C) :mvCs ρ (c::l) =cC ρ c::mvCs ρ l:=by simp only[mvCs]
mutual
theorem Ik (ρ:List Nat) : ∀c:C,flat c=true→cC ρ c=c
 | .val _,_=>by simp only[cC]
 | .agg xs,h=>by simp only[flat] at h;simp only[cC,mvCs_flat ρ xs h]
 | .tup xs,h=>by simp only[flat] at h;simp only[cC,mvCs_flat ρ xs h]
 | .top,h=>by simp[flat] at h
 | .sl _ _ _,h=>by simp[flat] at h
 | .sv _ _ _,h=>by simp[flat] at h
 | .gv _ _ _,h=>by simp[flat] at h
 | .bp _ _,h=>by simp[flat] at h
 | .kp _,h=>by simp[flat] at h
 | .fn _ _,h=>by simp[flat] at h
theorem mvCs_flat (ρ:List Nat) : ∀l:List C,flats l=true→mvCs ρ l=l
 | [],_=>by simp only[mvCs]
 |x::xs,h=>by simp only[flats,Bool.and_eq_true] at h;simp only[mvCs,Ik ρ x h.1,mvCs_flat ρ xs h.2]
end
theorem aI {α:Type} (f:α→List C) [h:Fla f] (ρ:List Nat) (l:List α) :mvCs ρ (cl f l) =cl f l:=mvCs_flat ρ _ (gI f l)
theorem bd {α:Type} (f:α→List C) [h:Fla f] (ρ:List Nat) (a:α) :mvCs ρ (f a) =f a:=mvCs_flat ρ _ (h.flat a)
theorem aZ {α:Type} (f:α→List C) [h:Fla f] (ρ:List Nat) (r:Rt) (l:List α) :cC ρ (sl f r l) =sl f r l:=by
 unfold sl;simp only[cC,aI]
def hget:Hp→Nat→Option (List C)
 | [],_=>none
 |o::_,0=>o
 |_::h,k+1=>hget h k
theorem zN: ∀ (h:Hp) (k:Nat),(h[k]?).getD none=hget h k
 | [],_=>rfl
 |o::_,0=>rfl
 |_::h,k+1=>by rw[List.getElem?_cons_succ];exact zN h k
theorem bf (o:Option (List C)) (h:Hp) :hget (o::h) 0=o:=rfl
theorem bg (o:Option (List C)) (h:Hp) (k:Nat) :hget (o::h) (k+1) =hget h k:=rfl
def tW (ρ:List Nat) (h:Hp) :List Nat→Hp
 | [] => []
 |x::r=> (hget h x).map (mvCs ρ) ::tW ρ h r
theorem bh (ρ:List Nat) (h:Hp) :jg ρ h=tW ρ h ρ:=by
 have key: ∀r:List Nat,(r.map fun b=> ((h[b]?).getD none).map (mvCs ρ)) =tW ρ h r:=by
  intro r
  induction r with
  |nil=>rfl
  |cons x r ih=>rw[List.map_cons,ih,zN];rfl
 exact key ρ
theorem aC (ρ:List Nat) (h:Hp) :tW ρ h [] = [] :=rfl
theorem aq (ρ:List Nat) (h:Hp) (x:Nat) (r:List Nat) :tW ρ h (x::r) = (hget h x).map (mvCs ρ) ::tW ρ h r:=rfl
def jx (g:C→C) :List (Nat×C)→List (Nat×C)
 | [] => []
 | (k,c) ::l=> (k,g c) ::jx g l
theorem lO (g:C→C) :jx g [] = [] :=rfl
theorem ky (g:C→C) (k:Nat) (c:C) (l:List (Nat×C)) :jx g ((k,c) ::l) = (k,g c) ::jx g l:=rfl
theorem sJ (g:C→C) (hg:g .top= .top) : ∀l:List (Nat×C),(fun t=>g (A l t)) =A (jx g l)
 | [] =>by funext t;exact hg
 | (k,c) ::l=>by
   funext t
   simp only[A,jx]
   split
   · rfl
   · exact congrFun (sJ g hg l) t
theorem Fp {cx:Cx} {n:Nat} {Q:Ex→St→Prop} {e:List (Nat×C)} {h:Hp} (hcx:CxOK cx) {c:Code} (b:Nat) (cells:List C) (hb:h.at b=some cells) (hnb:n≤b) (hn: ∀j,j< n→((h.at j).isSome|| (h.mp j).isSome) =true∨h[j]? =some none)
 (K:Tr cx n c ⟨A (jx (cz (dH h b) b (fzY h b cells)) e),kI (dH h b) b (fzY h b cells) h⟩ Q) :Tr cx n c ⟨A e,h⟩ Q:=by
 refine Tr.fz hcx b hb hnb hn ?_
 rw[sJ _ (by simp only[cz])]
 exact K
theorem Fq {cx:Cx} {n:Nat} {Q:Ex→St→Prop} {e:List (Nat×C)} {h:Hp} (hcx:CxOK cx) {c:Code} (ρ:List Nat) (hρ:rj n ρ) (K:Tr cx n c ⟨A (jx (cC ρ) e),jg ρ h⟩ Q) :Tr cx n c ⟨A e,h⟩ Q:=by
 refine Tr.mv hcx ρ hρ ?_
 rw[sJ _ (aH ρ)]
 exact K
theorem mV (ok:Nat→Bool) (b:Nat) (ys:List C) (v:Value) :cz ok b ys (.val v) = .val v:=by simp only[cz]
theorem qi (ok:Nat→Bool) (b:Nat) (ys:List C) :cz ok b ys .top= .top:=by simp only[cz]
theorem qj (ok:Nat→Bool) (b:Nat) (ys xs:List C) :cz ok b ys (.agg xs) = .agg (fzCs ok b ys xs) :=by simp only[cz]
theorem qk (ok:Nat→Bool) (b:Nat) (ys xs:List C) :cz ok b ys (.tup xs) = .tup (fzCs ok b ys xs) :=by simp only[cz]
theorem sK (ok:Nat→Bool) (b:Nat) (ys xs:List C) :cz ok b ys (.kp xs) = .kp (fzCs ok b ys xs) :=by simp only[cz]
theorem sL (ok:Nat→Bool) (b:Nat) (ys:List C) (f:Nat) (xs:List C) :cz ok b ys (.fn f xs) = .fn f (fzCs ok b ys xs) :=by simp only[cz]
theorem nH (ok:Nat→Bool) (b:Nat) (ys:List C) :fzCs ok b ys [] = [] :=by simp only[fzCs]
theorem l3 (ok:Nat→Bool) (b:Nat) (ys:List C) (x:C) (xs:List C) :fzCs ok b ys (x::xs) =cz ok b ys x::fzCs ok b ys xs:=by simp only[fzCs]
mutual
theorem Il (ok:Nat→Bool) (b:Nat) (ys:List C) : ∀c:C,flat c=true→cz ok b ys c=c
 | .val _,_=>by simp only[cz]
 | .agg xs,h=>by simp only[flat] at h;simp only[cz,fzCs_flat ok b ys xs h]
 | .tup xs,h=>by simp only[flat] at h;simp only[cz,fzCs_flat ok b ys xs h]
 | .top,h=>by simp[flat] at h
 | .sl _ _ _,h=>by simp[flat] at h
 | .sv _ _ _,h=>by simp[flat] at h
 | .gv _ _ _,h=>by simp[flat] at h
 | .bp _ _,h=>by simp[flat] at h
 | .kp _,h=>by simp[flat] at h
 | .fn _ _,h=>by simp[flat] at h
theorem fzCs_flat (ok:Nat→Bool) (b:Nat) (ys:List C) : ∀l:List C,flats l=true→fzCs ok b ys l=l
 | [],_=>by simp only[fzCs]
 |x::xs,h=>by simp only[flats,Bool.and_eq_true] at h;simp only[fzCs,Il ok b ys x h.1,fzCs_flat ok b ys xs h.2]
end
mutual
theorem Im (ok:Nat→Bool) : ∀c:C,flat c=true→d9 ok c=c
 | .val _,_=>by simp only[d9]
 | .agg xs,h=>by simp only[flat] at h;simp only[d9,scrs_flat ok xs h]
 | .tup xs,h=>by simp only[flat] at h;simp only[d9,scrs_flat ok xs h]
 | .top,h=>by simp[flat] at h
 | .sl _ _ _,h=>by simp[flat] at h
 | .sv _ _ _,h=>by simp[flat] at h
 | .gv _ _ _,h=>by simp[flat] at h
 | .bp _ _,h=>by simp[flat] at h
 | .kp _,h=>by simp[flat] at h
 | .fn _ _,h=>by simp[flat] at h
theorem scrs_flat (ok:Nat→Bool) : ∀l:List C,flats l=true→scrs ok l=l
 | [],_=>by simp only[scrs]
 |x::xs,h=>by simp only[flats,Bool.and_eq_true] at h;simp only[scrs,Im ok x h.1,scrs_flat ok xs h.2]
end
theorem mW {α:Type} (f:α→List C) [h:Fla f] (ok:Nat→Bool) (b:Nat) (ys:List C) (l:List α) :fzCs ok b ys (cl f l) =cl f l:=fzCs_flat ok b ys _ (gI f l)
theorem oF {α:Type} (f:α→List C) [h:Fla f] (ok:Nat→Bool) (b:Nat) (ys:List C) (r:Rt) (l:List α) :cz ok b ys (sl f r l) =sl f r l:=by
 unfold sl;simp only[cz,mW]
theorem Fr {α:Type} (f:α→List C) {s:Nat} [hc:Cel f s] [h:Fla f] (hp:Hp) (b:Nat) (l:List α) :fzY hp b (cl f l) =cl f l:=by
 unfold fzY;rw[scrs_flat _ _ (gI f l),fI]
def jQ (ys:List C) (n:Nat) (s:Nat×Nat) :C:=if n*s.1≤ys.length then .sl .no n (ys.take (n*s.1)) else .top
theorem sM (ok:Nat→Bool) (b:Nat) (ys:List C) (b' n:Nat) (s:Nat×Nat) :cz ok b ys (.gv b' n s) =if b'=b then jQ ys n s else if ok b'=true then .gv b' n s else .top:=by simp only[cz,jQ]
theorem jR {α:Type} (f:α→List C) {s:Nat} [hc:Cel f s] (e:Nat) (l:List α) (n:Nat) (h:n=l.length) :jQ (cl f l) n (s,e) =sl f .no l:=by
 subst h
 have hl:=cp (f:=f) l
 unfold jQ
 simp only[]
 rw[if_pos (by omega),List.take_of_length_le (by omega)];rfl
theorem oG (h:Hp) (b b':Nat) :dH h b b'= (((h.at b').isSome|| (h.mp b').isSome) && b' !=b) :=rfl
attribute [go_sem] Ib Ic N4 N5 N6 N7 Uk Id N8 Ie Ul Um N9 BV BW Fm BX Fn Un If XO XP Uo Ig SK Oa Ob Oc XR XS XT Et GN MJ GO MK SP rc
theorem ct {cx:Cx} {n:Nat} {Q:Ex→St→Prop} {e:List (Nat×C)} {h:Hp} {t:Nat} {x y:Code} (ht:A e t= .val (.bool true)) (H:Tr cx n x ⟨A e,h⟩ Q) :Tr cx n (.cond (.tmp t) x y) ⟨A e,h⟩ Q:=
 Tr.condG fun KT KF hT hF=>by rw[sy,ht,kK];exact .pos rfl (hT H)
theorem bn {cx:Cx} {n:Nat} {Q:Ex→St→Prop} {e:List (Nat×C)} {h:Hp} {t:Nat} {x y:Code} (ht:A e t= .val (.bool false)) (H:Tr cx n y ⟨A e,h⟩ Q) :Tr cx n (.cond (.tmp t) x y) ⟨A e,h⟩ Q:=
 Tr.condG fun KT KF hT hF=>by rw[sy,ht,kK];exact .neg rfl (hF H)
theorem bS {cx:Cx} {n:Nat} {Q:Ex→St→Prop} {e:List (Nat×C)} {h:Hp} {t:Nat} {x y:Code} {p:Prop} {d:Decidable p} (ht:A e t= .val (.bool (@decide p d))) (H1:p→Tr cx n x ⟨A e,h⟩ Q) (H2: ¬p→Tr cx n y ⟨A e,h⟩ Q) :Tr cx n (.cond (.tmp t) x y) ⟨A e,h⟩ Q:=
 Tr.condG fun KT KF hT hF=>by rw[sy,ht,kK];exact .dec (fun q=>hT (H1 q)) (fun q=>hF (H2 q))
theorem lA {α:Type} (xs ys:List α) : (xs++ys).length=xs.length+ys.length:=List.length_append
theorem lD {α:Type} (n:Nat) (xs:List α) : (xs.drop n).length=xs.length - n:=List.length_drop
theorem lT {α:Type} (n:Nat) (xs:List α) : (xs.take n).length=min n xs.length:=List.length_take
end Go.Sx
namespace Go.Sx
open Go.RowKit
def aaY (b:Bool) (c:C) (h:Hp) :Option (C×Hp) :=if b then some (c,h) else none
def Up (b:Bool) (o:Option C) (h:Hp) :Option (C×Hp) :=if b then (match o with
 |some c=>aaY (flat c) c h
 |none=>none) else none
@[congr] theorem XU {b b':Bool} {o o':Option C} {h:Hp} (hb:b=b') (ho:b'=true→o=o') :Up b o h=Up b' o' h:=by
  subst hb
  cases b with
  |false=>rfl
  |true=>rw[ho rfl]
theorem Ft {P:Program} {α:Type} (f:α→List C) (t:TypeId) (b o:Nat) (r:Rt) (l:List α) (k:Option Nat) :dw P t (.bp b o) (sl f r l) k=KE (td P t) b o (sl f r l) k:=xT P t b o r _ _ k
theorem In {P:Program} (t:TypeId) (b o b' n:Nat) (s:Nat×Nat) (k:Option Nat) :dw P t (.bp b o) (.gv b' n s) k=sB (td P t) b o (some [.gv b' n s]) :=by
 unfold dw sB;cases td P t<;>rfl
attribute [go_sem] Ft In Bool.and_false Bool.false_and
end Go.Sx
namespace Go.Sx
open Go.RowKit
end Go.Sx
namespace Go.Sx
open Go.RowKit
end Go.Sx
namespace Go.Sx
open Go.RowKit
section
variable {cx:Cx} {n:Nat} {Q:Ex→St→Prop} {st:St} {G:Gh} {h:Hp} {w:World} {P:Program}
def ye:C→Bool
 | .tup _=>false
 |_=>true
theorem BY {cells:List C} (hl:cI (some cells) =some cells) (k:Nat) {c':C} (hc:ye c'=true) :cI (some (cells.set k c')) =some (cells.set k c') :=by
 cases cells with
 |nil=>simp[cI]
 |cons c t=>
  cases k with
  |zero=>
   rw[List.set_cons_zero]
   unfold cI
   split
   · rename_i h2;cases h2;cases hc
   · rfl
  |succ k=>
   rw[List.set_cons_succ]
   unfold cI at hl ⊢
   split at hl
   · cases hl
   · rename_i hn
     split
     · rename_i h2;cases h2;exact absurd rfl (hn _ _)
     · rfl
theorem WorldOK.bxc (H:WorldOK G h w) {b k:Nat} {c c':C} {cells:List C} (hb:h.at b=some cells) (hk:cells[k]? =some c) (hc:CLe c c') (ht:ye c'=true) :WorldOK G (h.set b (some (cells.set k c'))) w:=by
 have hlt:=eQ hb
 have hlive:=BY (iA hb) k ht
 have hkl:k< cells.length:= (List.getElem?_eq_some_iff.1 hk).1
 refine ⟨H.known,fun b' c2 x=> ?_,fun b' blk x=> ?_,fun b1 b2 c1 c2 blk x x' y y'=> ?_,H.sep,H.tlt,fun b' c2 off s m2 ys blk v x hc2 hm hv=> ?_,H.siz,H.mpoT (fun k l x=> (g5 hlt (qU hlive) k l x).2) (fun _ _ _ x=>x) (.refl G),H.mpiT (fun k l x=> (g5 hlt (qU hlive) k l x).2) (fun _ _ _ _ x=>x)⟩
 · rw[dh hlt] at x
   split at x
   · rename_i e;subst e;rw[hlive] at x;cases x
     rcases H.box b' cells hb with ⟨rfl,hE⟩ | ⟨blk,cs,e,q1,q2,q3,q4,q5⟩
     · simp at hkl
     · refine .inr ⟨blk,cs,e,q1,q2,by rw[List.length_set];exact q3,?_,q5⟩
       rw[List.length_set]
       have hsz:cs.toList.length=cs.size:=by simp
       have hlen: (cells.set k c').length= (cs.toList.take cells.length).length:=by
        rw[List.length_set,List.length_take];omega
       refine RepL.of_get hlen fun i y v hy hv=> ?_
       rw[List.getElem?_set] at hy
       split at hy
       · rename_i e2;subst e2
         (try rw[if_pos hkl] at hy);cases hy
         obtain ⟨v2,hv2,hr⟩ :=q4.get k _ hk
         rw[hv] at hv2;cases hv2
         exact hc.1 _ _ hr
       · obtain ⟨v2,hv2,hr⟩ :=q4.get i _ hy
         rw[hv] at hv2;cases hv2;exact hr
   · exact H.box b' c2 x
 · obtain ⟨⟨c0,hc0⟩,hl⟩ :=H.dom b' blk x
   refine ⟨?_,hl⟩
   by_cases e:b'=b
   · subst e;exact ⟨_,by rw[List.getElem?_set_self hlt]⟩
   · exact ⟨c0,by rw[List.getElem?_set_ne (fun h=>e h.symm)];exact hc0⟩
 · have key: ∀b' c2,Hp.at (h.set b (some (cells.set k c'))) b'=some c2→∃c0,h.at b'=some c0:=fun b' c2 x=>by
    rw[dh hlt] at x
    split at x
    · rename_i e;subst e;exact ⟨cells,hb⟩
    · exact ⟨c2,x⟩
   obtain ⟨d1,e1⟩ :=key b1 c1 x
   obtain ⟨d2,e2⟩ :=key b2 c2 x'
   exact H.inj b1 b2 d1 d2 blk e1 e2 y y'
 · rw[dh hlt] at x
   split at x
   · rename_i e;subst e;rw[hlive] at x;cases x
     rw[List.getElem?_set] at hc2
     split at hc2
     · rename_i e2;subst e2
       (try rw[if_pos hkl] at hc2);cases hc2
       rcases hc.2 s m2 ys rfl with rfl|hfull
       · exact H.own b' cells k s m2 ys blk v hb hk hm hv
       · rcases H.box b' cells hb with ⟨rfl,hE⟩ | ⟨blk2,cs,e,q1,q2,q3,q4,q5⟩
         · simp at hkl
         · obtain ⟨v2,hv2,hr⟩ :=q4.get k _ hk
           rw[q1] at hm;cases hm
           obtain ⟨fr,q6,q7⟩ :=q2
           rw[List.getElem?_take_of_lt hkl] at hv2
           rw[qc q6 _ _ hv2] at hv
           cases hv
           obtain ⟨a,rfl⟩ :=hfull _ _ hr
           exact .inl ⟨a,rfl⟩
     · exact H.own b' cells off s m2 ys blk v hb hc2 hm hv
   · exact H.own b' c2 off s m2 ys blk v x hc2 hm hv
theorem Tr.bxc {c:Code} {e:List (Nat×C)} {h:Hp} (b k:Nat) {x:C} (x':C) (cells:List C) (hb:h.at b=some cells) (hk:cells[k]? =some x) (hc:CLe x x') (ht:ye x'=true) (H:Tr cx n c ⟨A e,h.set b (some (cells.set k x'))⟩ Q) :Tr cx n c ⟨A e,h⟩ Q:=fun G w a S R hR=>
 H G w a ⟨S.defers,S.size,S.pre.ok.bxc hb hk hc ht,S.pre.env,S.pre.glob⟩ R hR
theorem XV {t e:TypeId} {s y:Nat} {z:List Value} (op:BinOp) {x:C} (hx:x.nilS?=some false) (hv: ∀v,x≠ .val v) (h:td P t=some ⟨.slice e,s,y,z⟩) (hg:P.eqGuardType P.depth t=false) :aW P op t x (.val (.slice none 0 0)) =oA op false:=by
 have he:jd P 9 t x (.val (.slice none 0 0)) =some false:=by
  unfold jd;rw[h];simp only[hx];rfl
 have h1:aW P op t x (.val (.slice none 0 0)) =gu P op t x (.val (.slice none 0 0)) :=by
  cases x with
  |val v=>exact absurd rfl (hv v)
  |_=>rfl
 rw[h1]
 unfold gu
 rw[if_pos ⟨.inr (.inl ⟨by rw[hx];rfl,rfl⟩),hg⟩]
 unfold oA
 cases op<;>simp[he,vp,Plan.pure]
end
end Go.Sx
namespace Go.Sx
open Go.RowKit Go.ChangeShapes Go.WideShapes
abbrev aaZ (α:Type) :=α→(H:Type)→List (DataW H)→Prop
structure RdF (P:Program) (fs:List Field) (off z:Nat) {α:Type} (f:α→List C) (R:aaZ α) :Prop where
 rd: ∀ {H:Type} {enc:TypeId×Value→H} {W:World} {base:Nat} {sp:Nat→Bool} {held:Bool} {n:Nat} {cs:List Value} {xs:List (DataW H×List MemPlace)},xs.length=fs.length→cs.length=off+z→
  (∀ (i:Nat) (fd:Field),fs[i]? =some fd→DataW.trod enc P W base sp held n fd.type ((cs.drop fd.offset).take (P.cellsOf fd.type)) =xs[i]?)→∃a,R a H (xs.map (·.1))∧RepL (GW W) (f a) (cs.drop off)∧∀u∈cs.drop off,u.oneCell'=true
end Go.Sx
namespace Go.Sx
open Go.RowKit
section
variable {cx:Cx} {n:Nat} {Q:Ex→St→Prop} {e:List (Nat×C)} {h:Hp} {b:Code} {id:Nat} {l:List Oper} {s:St}
theorem aa (hcx:CxOK cx) (apps:List Nat) (dsts:List (Option Nat)) (z:Hp) (h1:l.filterMap d8=apps) (h2:l.map (·.dst) =dsts) (h3:fP l=z) (H:Tr cx n b s Q) (E: ∀K:St→Prop,K s→run cx apps dsts l h.length e (h++z) [] (fun _ s=>K s)) :Tr cx n (.seq (.region id l.toArray false) b) ⟨A e,h⟩ Q:=
 ae fun K hK=>wg hcx apps dsts z h1 h2 h3 (E K (hK s H))
theorem bG (hcx:CxOK cx) (apps:List Nat) (dsts:List (Option Nat)) (z:Hp) (h1:l.filterMap d8=apps) (h2:l.map (·.dst) =dsts) (h3:fP l=z) (H:Q .normal s) (E: ∀K:St→Prop,K s→run cx apps dsts l h.length e (h++z) [] (fun _ s=>K s)) :Tr cx n (.region id l.toArray false) ⟨A e,h⟩ Q:=
 wg hcx apps dsts z h1 h2 h3 (E (Q .normal) H)
theorem bH (hcx:CxOK cx) (hm:cx.P.follows .mixedOrders=true) (apps:List Nat) (dsts:List (Option Nat)) (z:Hp) (h1:l.filterMap d8=apps) (h2:l.map (·.dst) =dsts) (h3:fP l=z) (hs:eJ l.toArray=true) (H:Tr cx n b s Q) (E: ∀K:St→Prop,K s→run cx apps dsts l h.length e (h++z) [] (fun fs s=>gp l.toArray fs.reverse=true∧K s)) :Tr cx n (.seq (.region id l.toArray true) b) ⟨A e,h⟩ Q:=
 ae fun K hK=>xP hcx hm apps dsts z h1 h2 h3 hs (E K (hK s H))
theorem gK (hcx:CxOK cx) (hm:cx.P.follows .mixedOrders=true) (apps:List Nat) (dsts:List (Option Nat)) (z:Hp) (h1:l.filterMap d8=apps) (h2:l.map (·.dst) =dsts) (h3:fP l=z) (hs:eJ l.toArray=true) (H:Q .normal s) (E: ∀K:St→Prop,K s→run cx apps dsts l h.length e (h++z) [] (fun fs s=>gp l.toArray fs.reverse=true∧K s)) :Tr cx n (.region id l.toArray true) ⟨A e,h⟩ Q:=
 xP hcx hm apps dsts z h1 h2 h3 hs (E (Q .normal) H)
theorem XW (hcx:CxOK cx) (gs:List Nat) (apps:List Nat) (dsts:List (Option Nat)) (z:Hp) (h1:l.filterMap d8=apps) (h2:l.map (·.dst) =dsts) (h3:fP l=z) (H:Q .normal s) (E: ∀K:St→Prop,K s→run (cx.grow gs) apps dsts l h.length e (h++z) [] (fun _ s=>K s)) :Tr cx n (.region id l.toArray false) ⟨A e,h⟩ Q:=
 Uj hcx gs apps dsts z h1 h2 h3 (E (Q .normal) H)
theorem Uq (hcx:CxOK cx) (hm:cx.P.follows .mixedOrders=true) (gs:List Nat) (apps:List Nat) (dsts:List (Option Nat)) (z:Hp) (h1:l.filterMap d8=apps) (h2:l.map (·.dst) =dsts) (h3:fP l=z) (hs:eJ l.toArray=true) (H:Tr cx n b s Q) (E: ∀K:St→Prop,K s→run (cx.grow gs) apps dsts l h.length e (h++z) [] (fun fs s=>gp l.toArray fs.reverse=true∧K s)) :Tr cx n (.seq (.region id l.toArray true) b) ⟨A e,h⟩ Q:=
 ae fun K hK=>zJ hcx hm gs apps dsts z h1 h2 h3 hs (E K (hK s H))
theorem oH (hcx:CxOK cx) (hm:cx.P.follows .mixedOrders=true) (gs:List Nat) (apps:List Nat) (dsts:List (Option Nat)) (z:Hp) (h1:l.filterMap d8=apps) (h2:l.map (·.dst) =dsts) (h3:fP l=z) (hs:eJ l.toArray=true) (H:Q .normal s) (E: ∀K:St→Prop,K s→run (cx.grow gs) apps dsts l h.length e (h++z) [] (fun fs s=>gp l.toArray fs.reverse=true∧K s)) :Tr cx n (.region id l.toArray true) ⟨A e,h⟩ Q:=
 zJ hcx hm gs apps dsts z h1 h2 h3 hs (E (Q .normal) H)
theorem Tr.k (ks:List Nat) {c:Code} {e':List (Nat×C)} (H:Tr cx n c ⟨A e',h⟩ Q) (E: ∀R:List (Nat×C)→Prop,R e'→R (pk e ks) :=by intro RZ hZ;simp only[Nq,TI,↓bD,↓reduceIte,Nat.reduceEqDiff,reduceCtorEq];exact hZ) :Tr cx n c ⟨A e,h⟩ Q:=
 Tr.kp ks (E (fun x=>Tr cx n c ⟨A x,h⟩ Q) H)
theorem wm {t:Nat} {x y:Code} {d:Bool} (ht:A e t= .val (.bool d)) (hd:d=true) (H:Tr cx n x ⟨A e,h⟩ Q) :Tr cx n (.cond (.tmp t) x y) ⟨A e,h⟩ Q:=
 ct (ht.trans (by rw[hd])) H
theorem wn {t:Nat} {x y:Code} {d:Bool} (ht:A e t= .val (.bool d)) (hd:d=false) (H:Tr cx n y ⟨A e,h⟩ Q) :Tr cx n (.cond (.tmp t) x y) ⟨A e,h⟩ Q:=
 bn (ht.trans (by rw[hd])) H
end
theorem LT {p:Prop} (h:p:=by (simp only[bE,aP,↓bD,↓reduceIte,Nat.reduceEqDiff,aE,aQ,aF,aR,aS,and_true,true_and];all_goals (repeat' first|exact CLe.refl _|exact True.intro| (refine bR ?_;first|rfl| (simp only[List.take_zero];done)) |exact cH (by omega) |exact b9 (by omega) |exact cu (by omega) |exact cw (by omega) |with_reducible apply And.intro))) :p:=h
theorem O1 {p:Prop} (h:p:=by first|omega| (simp only[];omega)) :p:=h
end Go.Sx
