/-
   And what follows.
-/
import Derived.Test.YtmoaeemdlompaaaDoorPaj
set_option linter.unusedSimpArgs false
set_option linter.unusedVariables false
namespace Go.Sx
open Go.RowKit
def Cx.grow (cx:Cx) (l:List Nat) :Cx:= { cx with gr:=fun t=>l.contains t }
section
variable {cx:Cx} {n:Nat} {st:St} {Q:Ex→St→Prop} {G:Gh} {w:World} {h:Hp}
theorem CxOK.grow (hcx:CxOK cx) (l:List Nat) :CxOK (cx.grow l) := ⟨hcx.glo,hcx.pu,hcx.hp,hcx.km⟩
theorem Sim.grow {a:Act} (H:Sim cx G w st a) (l:List Nat) :Sim (cx.grow l) G w st a:= ⟨H.defers,H.size,H.pre.ok,H.pre.env,H.pre.glob⟩
theorem Sim.ungrow {a:Act} {l:List Nat} (H:Sim (cx.grow l) G w st a) :Sim cx G w st a:= ⟨H.defers,H.size,H.pre.ok,H.pre.env,H.pre.glob⟩
theorem KN (l:List Nat) {c:Code} (H:Tr (cx.grow l) n c st Q) :Tr cx n c st Q:=fun G w a S R hR=>
 H G w a (S.grow l) R fun x s G' w' a' q S' F=>hR x s G' w' a' q S'.ungrow F
theorem Uh (hcx:CxOK cx) (gs:List Nat) {e:List (Nat×C)} {id:Nat} {l:List Oper} (apps:List Nat) (dsts:List (Option Nat)) (z:Hp) (h1:l.filterMap d7=apps) (h2:l.map (·.dst) =dsts) (h3:fO l=z)
 (H:run (cx.grow gs) apps dsts l h.length e (h++z) [] (fun _ s=>Q .normal s)) :Tr cx n (.region id l.toArray false) ⟨A e,h⟩ Q:=
 KN gs (wd (hcx.grow gs) apps dsts z h1 h2 h3 H)
theorem zH (hcx:CxOK cx) (hm:cx.P.follows .mixedOrders=true) (gs:List Nat) {e:List (Nat×C)} {id:Nat} {l:List Oper} (apps:List Nat) (dsts:List (Option Nat)) (z:Hp) (h1:l.filterMap d7=apps) (h2:l.map (·.dst) =dsts) (h3:fO l=z)
 (hs:eI l.toArray=true)
 (H:run (cx.grow gs) apps dsts l h.length e (h++z) [] (fun fs s=>go l.toArray fs.reverse=true∧Q .normal s)) :Tr cx n (.region id l.toArray true) ⟨A e,h⟩ Q:=
 KN gs (xN (hcx.grow gs) hm apps dsts z h1 h2 h3 hs H)
def eA:List Nat→Nat→Nat→Option Nat
 | [],_,_=>none
 |x::r,k,b=>if b=x then some k else eA r (k+1) b
theorem fZ: ∀ {ρ:List Nat} {k b j:Nat},eA ρ k b=some j→k≤j∧ρ[j - k]? =some b
 | [],k,b,j,h=>by cases h
 |x::r,k,b,j,h=>by
  simp only[eA] at h
  split at h
  · rename_i e;cases h;subst e;simp
  · obtain ⟨h1,h2⟩ :=fZ h
    refine ⟨by omega,?_⟩
    have:j - k= (j - (k+1))+1:=by omega
    rw[this,List.getElem?_cons_succ];exact h2
mutual
def cB (ρ:List Nat) :C→C
 | .sv b o n=>match eA ρ 0 b with|some j=> .sv j o n|none=> .top
 | .gv b n s=>match eA ρ 0 b with|some j=> .gv j n s|none=> .top
 | .bp b o=>match eA ρ 0 b with|some j=> .bp j o|none=> .top
 | .mp b=>match eA ρ 0 b with|some j=> .mp j|none=> .top
 | .bt b t n=>match eA ρ 0 b with|some j=> .bt j t n|none=> .top
 | .sl r n xs=> .sl r n (mvCs ρ xs)
 | .kp xs=> .kp (mvCs ρ xs)
 | .agg xs=> .agg (mvCs ρ xs)
 | .tup xs=> .tup (mvCs ρ xs)
 | .fn f xs=> .fn f (mvCs ρ xs)
 | .top=> .top
 | .val v=> .val v
def mvCs (ρ:List Nat) :List C→List C
 | [] => []
 |x::xs=>cB ρ x::mvCs ρ xs
end
theorem nA (ρ:List Nat) : ∀xs:List C,mvCs ρ xs=xs.map (cB ρ)
 | [] =>rfl
 |x::xs=>by simp[mvCs,nA ρ xs]
def jf (ρ:List Nat) (h:Hp) :Hp:=ρ.map fun b=> ((h[b]?).getD none).map (mvCs ρ)
def dT (ρ:List Nat) (G:Gh) :Gh where
 K:=G.K
 μ:=fun j=> (ρ[j]?).bind G.μ
 T:=fun g=>match G.T g with
  |some p=>if p.1=1 then (eA ρ 0 p.2.1).map (fun j=> (1,j,p.2.2)) else some p
  |none=>none
 σ:=fun j=> (ρ[j]?).bind G.σ
mutual
theorem mR {ρ:List Nat} : ∀ (c:C) (v:Value),Rep G c v→Rep (dT ρ G) (cB ρ c) v
 | .top,_,_=>by simp[cB,Rep]
 | .val u,v,r=>by simpa[cB,Rep] using r
 | .sl r n xs,v,x=>by
   simp only[cB,Rep] at x ⊢
   obtain ⟨a,cap,h1,h2,h3,h4,h5⟩ :=x
   refine ⟨a,cap,h1,h2,h3,h4,?_⟩
   rcases h5 with h5| ⟨blk,off,ha,hk⟩
   · left;rw[h5];rfl
   · exact .inr ⟨blk,off,ha,mvC_repK xs blk off hk⟩
 | .sv b off n,v,x=>by
   simp only[cB]
   cases hl:eA ρ 0 b with
   |none=>simp[Rep]
   |some j=>
    have hj:= (fZ hl).2
    simp only[Rep] at x ⊢
    obtain ⟨a,cap,h1,h2,h3,h4⟩ :=x
    exact ⟨a,cap,h1,h2,h3,fun hz=>by obtain ⟨blk,q1,q2⟩ :=h4 hz;exact ⟨blk,by simp only[dT,Nat.sub_zero] at hj ⊢;rw[hj];exact q1,q2⟩⟩
 | .gv b m s,v,x=>by
   simp only[cB]
   cases hl:eA ρ 0 b with
   |none=>simp[Rep]
   |some j=>
    have hj:= (fZ hl).2
    simp only[Nat.sub_zero] at hj
    simp only[Rep] at x ⊢
    obtain ⟨a,cap,h1,h2,h3,h4⟩ :=x
    refine ⟨a,cap,h1,h2,h3,?_⟩
    rcases h4 with h4| ⟨blk,q1,q2,q3⟩
    · exact .inl h4
    · exact .inr ⟨blk,by simp only[dT];rw[hj];exact q1,q2,by simp only[dT];rw[hj];exact q3⟩
 | .bp b off,v,x=>by
   simp only[cB]
   cases hl:eA ρ 0 b with
   |none=>simp[Rep]
   |some j=>
    have hj:= (fZ hl).2
    simp only[Nat.sub_zero] at hj
    simp only[Rep] at x ⊢
    obtain ⟨blk,h1,h2⟩ :=x
    exact ⟨blk,by simp only[dT];rw[hj];exact h1,h2⟩
 | .mp b,v,x=>by
   simp only[cB]
   cases hl:eA ρ 0 b with
   |none=>simp[Rep]
   |some j=>
    have hj:= (fZ hl).2
    simp only[Nat.sub_zero] at hj
    simp only[Rep] at x ⊢
    obtain ⟨blk,h1,h2⟩ :=x
    exact ⟨blk,by simp only[dT];rw[hj];exact h1,h2⟩
 | .bt b t n,v,x=>by
   simp only[cB]
   cases hl:eA ρ 0 b with
   |none=>simp[Rep]
   |some j=>
    have hj:= (fZ hl).2
    simp only[Nat.sub_zero] at hj
    simp only[Rep] at x ⊢
    obtain ⟨blk,h1,h2,h3⟩ :=x
    exact ⟨blk,by simp only[dT];rw[hj];exact h1,h2,by simp only[dT];rw[hj];exact h3⟩
 | .kp xs,v,x=>by
   simp only[cB,Rep] at x ⊢
   obtain ⟨blk,off,h1,h2⟩ :=x
   exact ⟨blk,off,h1,mvC_repK xs blk off h2⟩
 | .agg xs,v,x=>by
   simp only[cB,Rep] at x ⊢
   obtain ⟨vs,h1,h2,h3⟩ :=x
   exact ⟨vs,h1,mvC_repL xs _ h2,h3⟩
 | .tup xs,v,x=>by
   simp only[cB,Rep] at x ⊢
   obtain ⟨vs,h1,h2⟩ :=x
   exact ⟨vs,h1,mvC_repL xs _ h2⟩
 | .fn f xs,v,x=>by
   simp only[cB,Rep] at x ⊢
   obtain ⟨vs,h1,h2⟩ :=x
   exact ⟨vs,h1,mvC_repL xs _ h2⟩
theorem mvC_repL {ρ:List Nat} : ∀ (xs:List C) (vs:List Value),RepL G xs vs→RepL (dT ρ G) (mvCs ρ xs) vs
 | [],vs,r=>by simpa[mvCs,RepL] using r
 |x::xs,vs,r=>by
  simp only[mvCs,RepL] at r ⊢
  obtain ⟨v,vs',h1,h2,h3⟩ :=r
  exact ⟨v,vs',h1,mR x v h2,mvC_repL xs vs' h3⟩
theorem mvC_repK {ρ:List Nat} : ∀ (xs:List C) (blk off:Nat),RepK G blk off xs→RepK (dT ρ G) blk off (mvCs ρ xs)
 | [],_,_,_=>by simp[mvCs,RepK]
 |x::xs,blk,off,r=>by
  simp only[mvCs,RepK] at r ⊢
  obtain ⟨⟨u,h1,h2,h3⟩,h4⟩ :=r
  exact ⟨⟨u,h1,h2,mR x u h3⟩,mvC_repK xs blk (off+1) h4⟩
end
theorem zI {ρ:List Nat} {c:C} {s m:Nat} {xs:List C} (h:cB ρ c= .sl (.own s) m xs) : ∃ys,c= .sl (.own s) m ys:=by
 cases c with
 |sl r k ys=>simp only[cB] at h;cases h;exact ⟨ys,rfl⟩
 |sv b o k=>simp only[cB] at h;split at h<;>cases h
 |gv b o k=>simp only[cB] at h;split at h<;>cases h
 |bp b o=>simp only[cB] at h;split at h<;>cases h
 |mp b=>simp only[cB] at h;split at h<;>cases h
 |bt b t n=>simp only[cB] at h;split at h<;>cases h
 |_=>simp only[cB] at h;cases h
theorem sG {ρ:List Nat} {j:Nat} {cells:List C} (hj:Hp.at (jf ρ h) j=some cells) : ∃b cells0,ρ[j]? =some b∧h.at b=some cells0∧cells=mvCs ρ cells0:=by
 have h1:=fP hj
 unfold jf at h1
 rw[List.getElem?_map] at h1
 cases hb:ρ[j]? with
 |none=>rw[hb] at h1;cases h1
 |some b=>
  rw[hb] at h1
  simp only[Option.map_some,Option.some.injEq] at h1
  cases hq:h[b]? with
  |none=>rw[hq] at h1;cases h1
  |some o=>
   rw[hq] at h1
   cases o with
   |none=>cases h1
   |some cells0=>
    simp only[Option.getD_some,Option.map_some,Option.some.injEq] at h1
    refine ⟨b,cells0,rfl,?_,h1.symm⟩
    have hl:=iz hj
    unfold Hp.at
    rw[hq]
    subst h1
    show cH (some cells0) =_
    cases cells0 with
    |nil=>rfl
    |cons x l=>
     cases x with
     |tup xs=>simp only[mvCs,cB] at hl;cases hl
     |_=>rfl
theorem x8 {ρ:List Nat} : ∀ (l:List C) (es:List MapEntry),MRep G l es→MRep (dT ρ G) (mvCs ρ l) es
 | [],_,r=>by simpa[MRep,mvCs] using r
 | [_],_,r=>by simp[MRep] at r
 |k::v::l,es,r=>by
  simp only[MRep,mvCs] at r ⊢
  obtain ⟨e,es',h1,h2,h3,h4⟩ :=r
  exact ⟨e,es',h1,mR k _ h2,mR v _ h3,x8 l es' h4⟩
theorem Ff {ρ:List Nat} {c:C} {u:Value} (h:cB ρ c= .val u) :c= .val u:=by
 cases c with
 |val v=>simp only[cB] at h;exact h
 |sv b o k=>simp only[cB] at h;split at h<;>cases h
 |gv b o k=>simp only[cB] at h;split at h<;>cases h
 |bp b o=>simp only[cB] at h;split at h<;>cases h
 |mp b=>simp only[cB] at h;split at h<;>cases h
 |bt b t n=>simp only[cB] at h;split at h<;>cases h
 |_=>simp only[cB] at h;cases h
theorem Fg {ρ:List Nat} {c:C} {xs:List C} (h:cB ρ c= .tup xs) : ∃ys,c= .tup ys∧xs=mvCs ρ ys:=by
 cases c with
 |tup ys=>simp only[cB] at h;cases h;exact ⟨ys,rfl,rfl⟩
 |sv b o k=>simp only[cB] at h;split at h<;>cases h
 |gv b o k=>simp only[cB] at h;split at h<;>cases h
 |bp b o=>simp only[cB] at h;split at h<;>cases h
 |mp b=>simp only[cB] at h;split at h<;>cases h
 |bt b t n=>simp only[cB] at h;split at h<;>cases h
 |_=>simp only[cB] at h;cases h
theorem tS {F:C→C} {Fs:List C→List C} (hs: ∀xs,Fs xs=xs.map F) (hv: ∀c u,F c= .val u→c= .val u) (ht: ∀c xs,F c= .tup xs→∃ys,c= .tup ys∧xs=Fs ys) {cells l:List C} (h:f9 (some (Fs cells)) =some l) : ∃l0,f9 (some cells) =some l0∧l=Fs l0:=by
 cases cells with
 |nil=>rw[hs] at h;cases h
 |cons c cs=>
  rw[hs,List.map_cons] at h
  cases hq:F c with
  |tup xs=>
   obtain ⟨ys,rfl,rfl⟩ :=ht c xs hq
   rw[hq] at h
   cases ys with
   |nil=>rw[hs] at h;cases h
   |cons y ys=>
    rw[hs,List.map_cons] at h
    cases hy:F y with
    |val u=>
     have:=hv y u hy
     subst this
     rw[hy] at h
     cases u with
     |bool b=>
      cases b with
      |true=>cases h;exact ⟨ys,rfl,(hs ys).symm⟩
      |false=>cases h
     |_=>cases h
    |_=>rw[hy] at h;cases h
  |_=>rw[hq] at h;cases h
theorem x9 {ρ:List Nat} {h:Hp} {j:Nat} {l:List C} (hj:Hp.mp (jf ρ h) j=some l) : ∃b l0,ρ[j]? =some b∧h.mp b=some l0∧l=mvCs ρ l0:=by
 unfold Hp.mp jf at hj
 rw[List.getElem?_map] at hj
 cases hb:ρ[j]? with
 |none=>rw[hb] at hj;cases hj
 |some b=>
  rw[hb] at hj
  simp only[Option.map_some,Option.bind_some] at hj
  cases hq:h[b]? with
  |none=>rw[hq] at hj;cases hj
  |some o=>
   rw[hq] at hj
   cases o with
   |none=>cases hj
   |some cells0=>
    obtain ⟨l0,h1,h2⟩ :=tS (Fs:=mvCs ρ) (nA ρ) (fun _ _=>Ff) (fun _ _=>Fg) (cells:=cells0) hj
    exact ⟨b,l0,rfl,by unfold Hp.mp;rw[hq];exact h1,h2⟩
def rh (n:Nat) (ρ:List Nat) :Prop:=ρ.Nodup∧n≤ρ.length∧∀j,j< n→ρ[j]? =some j
theorem ku: ∀ {ρ:List Nat} {k j b:Nat},ρ.Nodup→ρ[j]? =some b→eA ρ k b=some (k+j)
 |x::r,k,0,b,hn,h=>by simp at h;subst h;simp[eA]
 |x::r,k,j+1,b,hn,h=>by
  rw[List.getElem?_cons_succ] at h
  have hx:b≠x:=fun e=>by
   subst e
   exact (List.nodup_cons.1 hn).1 (List.mem_of_getElem? h)
  simp only[eA]
  rw[if_neg hx,ku (List.nodup_cons.1 hn).2 h]
  congr 1;omega
 | [],k,j,b,hn,h=>by simp at h
theorem OwnRow.mv {ρ:List Nat} {p p':cI} {v:Value} {s m:Nat} (O:OwnRow G w p v s m) (hp: (p.1≠1∧p'=p)∨(p.1=1∧∃j,eA ρ 0 p.2.1=some j∧p'= (1,j,p.2.2))) :OwnRow (dT ρ G) w p' v s m:=by
 rcases O with O| ⟨g,cap,cur,e,a1,a2,a3,a4,a5,a6⟩
 · exact .inl O
 · refine .inr ⟨g,cap,cur,e,a1,?_,a3,a4,a5,fun b hb=> ?_⟩
   · simp only[dT,a2]
     rcases hp with ⟨h1,rfl⟩ | ⟨h1,j,h2,rfl⟩
     · rw[if_neg h1]
     · rw[if_pos h1,h2];rfl
   · simp only[dT] at hb
     cases hq:ρ[b]? with
     |none=>rw[hq] at hb;cases hb
     |some q=>rw[hq] at hb;exact a6 q hb
theorem WorldOK.mv {ρ:List Nat} (H:WorldOK G h w) (hρ:ρ.Nodup) :WorldOK (dT ρ G) (jf ρ h) w:=by
 have hμ: ∀ {j blk},(dT ρ G).μ j=some blk→∃b,ρ[j]? =some b∧G.μ b=some blk:=fun {j blk} x=>by
  simp only[dT] at x
  cases hq:ρ[j]? with
  |none=>rw[hq] at x;cases x
  |some q=>rw[hq] at x;exact ⟨q,rfl,x⟩
 refine ⟨H.known,fun j cells hj=> ?_,fun j blk hm=> ?_,fun j j' c c' blk hj hj' hm hm'=> ?_,fun j blk hm=> ?_,fun g p hg=> ?_,fun j cells off s m xs blk v hj hc hm hv=> ?_,fun j z hz=> ?_,fun j l hj=> ?_,fun j j' l l' blk x x' y y'=> ?_⟩
 · obtain ⟨b,cells0,h1,h2,rfl⟩ :=sG hj
   rcases H.box b cells0 h2 with ⟨hE,hE2⟩ | ⟨blk,cs,e,q1,q2,q3,q4,q5⟩
   · exact .inl ⟨by rw[hE];rfl,by simp only[dT,h1];exact hE2⟩
   · have hl: (mvCs ρ cells0).length=cells0.length:=by rw[nA];simp
     exact .inr ⟨blk,cs,e,by simp only[dT,h1];exact q1,q2,by rw[hl];exact q3,by rw[hl];exact mvC_repL _ _ q4,q5⟩
 · obtain ⟨b,h1,h2⟩ :=hμ hm
   obtain ⟨⟨c,hc⟩,hl⟩ :=H.dom b blk h2
   refine ⟨⟨mvCs ρ c,?_⟩,hl⟩
   unfold jf
   rw[List.getElem?_map,h1]
   simp[hc]
 · obtain ⟨b,h1,h2⟩ :=hμ hm
   obtain ⟨b',h1',h2'⟩ :=hμ hm'
   obtain ⟨q,cells0,g1,g2,_⟩ :=sG hj
   obtain ⟨q',cells0',g1',g2',_⟩ :=sG hj'
   rw[h1] at g1;cases g1
   rw[h1'] at g1';cases g1'
   have e:=H.inj b b' _ _ blk g2 g2' h2 h2'
   subst e
   have l1:=ku (k:=0) hρ h1
   have l2:=ku (k:=0) hρ h1'
   rw[l1] at l2
   simpa using l2
 · obtain ⟨b,h1,h2⟩ :=hμ hm
   obtain ⟨s1,s2⟩ :=H.sep b blk h2
   exact ⟨s1,by simp only[dT,s2]⟩
 · cases hq:G.T g with
   |none=>simp only[dT,hq] at hg;cases hg
   |some q=>exact H.tlt g q hq
 · obtain ⟨b,cells0,h1,h2,rfl⟩ :=sG hj
   obtain ⟨b',h1',h2'⟩ :=hμ hm
   rw[h1] at h1';cases h1'
   rw[nA,List.getElem?_map] at hc
   cases hq:cells0[off]? with
   |none=>rw[hq] at hc;cases hc
   |some y=>
    rw[hq] at hc
    simp only[Option.map_some,Option.some.injEq] at hc
    obtain ⟨ys,rfl⟩ :=zI hc
    have O:=H.own b cells0 off s m ys blk v h2 hq h2' hv
    have l1:=ku (k:=0) hρ h1
    exact O.mv (.inr ⟨rfl,j,by simpa using l1,rfl⟩)
 · simp only[dT] at hz
   cases hq:ρ[j]? with
   |none=>rw[hq] at hz;cases hz
   |some b=>
    rw[hq] at hz
    obtain ⟨blk,cs,e,fr,q1,q2,q3⟩ :=H.siz b z hz
    exact ⟨blk,cs,e,fr,by simp only[dT,hq];exact q1,q2,q3⟩
 · obtain ⟨b,l0,h1,h2,rfl⟩ :=x9 hj
   obtain ⟨blk,es,clk,q1,q2,q3⟩ :=H.mpo b l0 h2
   exact ⟨blk,es,clk,by simp only[dT,h1];exact q1,q2,x8 l0 _ q3⟩
 · obtain ⟨b,l0,h1,h2,rfl⟩ :=x9 x
   obtain ⟨b',l0',h1',h2',rfl⟩ :=x9 x'
   obtain ⟨q,g1,g2⟩ :=hμ y
   obtain ⟨q',g1',g2'⟩ :=hμ y'
   rw[h1] at g1;cases g1
   rw[h1'] at g1';cases g1'
   have e:=H.mpi b b' _ _ blk h2 h2' g2 g2'
   subst e
   have l1:=ku (k:=0) hρ h1
   have l2:=ku (k:=0) hρ h1'
   rw[l1] at l2
   simpa using l2
theorem N0 {ρ:List Nat} (hρ:rh n ρ) :FrmN n G w (dT ρ G) w:=
 ⟨rfl,rfl,rfl,Nat.le_refl _,fun _ _ _ x=>x,fun b k hb x=>by simp only[dT];rw[hρ.2.2 b hb];exact x,fun b k hb x=>by simp only[dT];rw[hρ.2.2 b hb];exact x,
  fun g _ ht hm=> ⟨rfl,by simp only[dT,ht],fun j hj=>by
   simp only[dT] at hj
   cases hq:ρ[j]? with
   |none=>rw[hq] at hj;cases hj
   |some q=>rw[hq] at hj;exact hm q hj,fun _=>rfl⟩⟩
theorem uH {ρ:List Nat} {c:C} {v:Value} (hc:aF 0 c=true) (h:Rep G c v) :Rep (dT ρ G) c v:=by
 have h1:=eH c v hc h
 have le: (c9 G 0).Le (dT ρ G) := ⟨fun _ _ _ x=>x,fun b k x=>by simp[c9] at x,fun b k x=>by simp[c9] at x⟩
 exact h1.mono le
theorem Sim.mv (hcx:CxOK cx) {a:Act} {ρ:List Nat} (hρ:ρ.Nodup) (H:Sim cx G w st a) :Sim cx (dT ρ G) w ⟨fun t=>cB ρ (st.env t),jf ρ st.h⟩ a:=
 ⟨H.defers,H.size,H.pre.ok.mv hρ,⟨fun t=>mR _ _ (H.pre.env.1 t),fun t s m xs e=>by
  obtain ⟨ys,hy⟩ :=zI e
  exact (H.pre.env.2 t s m ys hy).mv (.inl ⟨by simp,rfl⟩)⟩,fun g=>uH (hcx.glo g) (H.pre.glob g)⟩
theorem Tr.mv (hcx:CxOK cx) {c:Code} (ρ:List Nat) (hρ:rh n ρ) (H:Tr cx n c ⟨fun t=>cB ρ (st.env t),jf ρ st.h⟩ Q) :Tr cx n c st Q:=fun G w a S R hR=>
 H (dT ρ G) w a (S.mv hcx hρ.1) R fun x s G' w' a' q S' F=>hR x s G' w' a' q S' ((N0 hρ).trans F)
def MvQ (n:Nat) (P:St→Prop) (s:St) :Prop:= ∃ρ:List Nat,rh n ρ∧P ⟨fun t=>cB ρ (s.env t),jf ρ s.h⟩
theorem eF {α:Type} (hcx:CxOK cx) (I:α→List (Nat×C)) (H:α→Hp) (ok:α→Prop) (μ:α→Nat) {c:Code} (a:α) (h0:ok a) (hl:Le st.env (I a)) (hh:st.h=H a)
 (hb: ∀a,ok a→Tr cx n c ⟨A (I a),H a⟩ (nj (MvQ n (At I H fun a'=>ok a'∧μ a'< μ a)) Q)) :Tr cx n (.loop c) st Q:=by
 refine Tr.loop (fun m s=> ∃ρ,rh n ρ∧∃a,μ a=m∧ok a∧Le (fun t=>cB ρ (s.env t)) (I a)∧jf ρ s.h=H a∨(μ a=m∧ok a∧Le s.env (I a)∧s.h=H a)) (μ a) ⟨List.range n,⟨List.nodup_range,by simp,fun j hj=>by simp[hj]⟩,a,.inr ⟨rfl,h0,hl,hh⟩⟩ ?_
 rintro m s ⟨ρ,hρ,a,⟨rfl,h1,h2,h3⟩ | ⟨rfl,h1,h2,h3⟩⟩
 · refine Tr.mv hcx ρ hρ (Tr.live _ h2 ?_)
   rw[h3]
   refine (hb a h1).mono fun e s q=> ?_
   cases e with
   |normal=>
    obtain ⟨ρ',hρ',a',⟨q1,q2⟩,q3,q4⟩ :=q
    exact ⟨μ a',q2,ρ',hρ',a',.inl ⟨rfl,q1,q3,q4⟩⟩
   |exit id=>exact q
   |ret=>exact q
 · refine Tr.live _ h2 ?_
   rw[h3]
   refine (hb a h1).mono fun e s q=> ?_
   cases e with
   |normal=>
    obtain ⟨ρ',hρ',a',⟨q1,q2⟩,q3,q4⟩ :=q
    exact ⟨μ a',q2,ρ',hρ',a',.inl ⟨rfl,q1,q3,q4⟩⟩
   |exit id=>exact q
   |ret=>exact q
end
end Go.Sx
namespace Go.Sx
open Go.RowKit
def dG (h:Hp) (b b':Nat) :Bool:= ((h.at b').isSome|| (h.mp b').isSome) && b' !=b
mutual
def d8 (ok:Nat→Bool) :C→C
 | .sv b o n=>if ok b=true then .sv b o n else .top
 | .gv b n s=>if ok b=true then .gv b n s else .top
 | .bp b o=>if ok b=true then .bp b o else .top
 | .mp b=>if ok b=true then .mp b else .top
 | .bt b t n=>if ok b=true then .bt b t n else .top
 | .sl r n xs=> .sl r n (scrs ok xs)
 | .kp xs=> .kp (scrs ok xs)
 | .agg xs=> .agg (scrs ok xs)
 | .tup xs=> .tup (scrs ok xs)
 | .fn f xs=> .fn f (scrs ok xs)
 | .top=> .top
 | .val v=> .val v
def scrs (ok:Nat→Bool) :List C→List C
 | [] => []
 |x::xs=>d8 ok x::scrs ok xs
end
mutual
def cy (ok:Nat→Bool) (b:Nat) (ys:List C) :C→C
 | .sv b' o n=>if b'=b then (if o+n≤ys.length then .sl .no n ((ys.drop o).take n) else .top) else if ok b'=true then .sv b' o n else .top
 | .gv b' n s=>if b'=b then (if n*s.1≤ys.length then .sl .no n (ys.take (n*s.1)) else .top) else if ok b'=true then .gv b' n s else .top
 | .bp b' o=>if b'=b then .kp (ys.drop o) else if ok b'=true then .bp b' o else .top
 | .mp b'=>if b'=b then .top else if ok b'=true then .mp b' else .top
 | .bt b' t n=>if b'=b then .top else if ok b'=true then .bt b' t n else .top
 | .sl r n xs=> .sl r n (fzCs ok b ys xs)
 | .kp xs=> .kp (fzCs ok b ys xs)
 | .agg xs=> .agg (fzCs ok b ys xs)
 | .tup xs=> .tup (fzCs ok b ys xs)
 | .fn f xs=> .fn f (fzCs ok b ys xs)
 | .top=> .top
 | .val v=> .val v
def fzCs (ok:Nat→Bool) (b:Nat) (ys:List C) :List C→List C
 | [] => []
 |x::xs=>cy ok b ys x::fzCs ok b ys xs
end
theorem rj (ok:Nat→Bool) : ∀xs:List C,scrs ok xs=xs.map (d8 ok)
 | [] =>rfl
 |x::xs=>by simp[scrs,rj ok xs]
theorem ix (ok:Nat→Bool) (b:Nat) (ys:List C) : ∀xs:List C,fzCs ok b ys xs=xs.map (cy ok b ys)
 | [] =>rfl
 |x::xs=>by simp[fzCs,ix ok b ys xs]
def kH (ok:Nat→Bool) (b:Nat) (ys:List C) (h:Hp) :Hp:= (h.map fun o=>o.map (fzCs ok b ys)).set b (some eK)
open Classical in
noncomputable def dS (G:Gh) (w:World) (b k:Nat) :Gh where
 K:=fun g o=>if G.μ b=some g∧o< k then w.cell? ⟨g,o,none⟩ else G.K g o
 μ:=fun b'=>if b'=b∨(∃g,G.μ b=some g∧G.μ b'=some g) then none else G.μ b'
 T:=G.T
 σ:=fun b'=>if b'=b∨(∃g,G.μ b=some g∧G.μ b'=some g) then none else G.σ b'
section
variable {cx:Cx} {n:Nat} {st:St} {Q:Ex→St→Prop} {G:Gh} {w:World} {h:Hp} {b:Nat} {cells:List C}
theorem zJ (H:WorldOK G h w) (hb:h.at b=some cells) {b':Nat} (hok:dG h b b'=true) : ¬ (b'=b∨(∃g,G.μ b=some g∧G.μ b'=some g)) :=by
 simp only[dG,Bool.and_eq_true,Bool.or_eq_true,bne_iff_ne,ne_eq] at hok
 obtain ⟨h1,h2⟩ :=hok
 rintro (e| ⟨g,e1,e2⟩)
 · exact h2 e
 · rcases h1 with h1|h1
   · obtain ⟨c',hc'⟩ :=Option.isSome_iff_exists.1 h1
     exact h2 (H.inj b' b _ _ g hc' hb e2 e1)
   · obtain ⟨l',hl'⟩ :=Option.isSome_iff_exists.1 h1
     obtain ⟨blk,es,clk,q1,q2,_⟩ :=H.mpo b' l' hl'
     rw[e2] at q1;cases q1
     obtain ⟨cs,e,⟨fr,r2,_⟩,_⟩ :=H.bx hb e1
     rw[q2] at r2;cases r2
theorem qf (H:WorldOK G h w) (k:Nat) : (c9 G 0).Le (dS G w b k) :=
 ⟨fun g o u x=> (by
  have x':G.K g o=some u:=x
  simp only[dS]
  rw[if_neg]
  · exact x'
  · rintro ⟨e,_⟩
    rw[(H.sep b g e).1 o] at x';cases x'),fun b k x=>by simp[c9] at x,fun b k x=>by simp[c9] at x⟩
theorem fb (H:WorldOK G h w) (hb:h.at b=some cells) {b' k g:Nat} (hok:dG h b b'=true) (hm:G.μ b'=some g) : (dS G w b k).μ b'=some g:=by
 simp only[dS];rw[if_neg (zJ H hb hok)];exact hm
theorem nE (H:WorldOK G h w) (hb:h.at b=some cells) {b' k:Nat} {g:Nat×Nat} (hok:dG h b b'=true) (hm:G.σ b'=some g) : (dS G w b k).σ b'=some g:=by
 simp only[dS];rw[if_neg (zJ H hb hok)];exact hm
mutual
theorem tT (H:WorldOK G h w) (hb:h.at b=some cells) (k:Nat) : ∀ (c:C) (v:Value),Rep G c v→Rep (dS G w b k) (d8 (dG h b) c) v
 | .top,_,_=>by simp[d8,Rep]
 | .val u,v,r=>by simpa[d8,Rep] using r
 | .sl r n xs,v,x=>by
   simp only[d8,Rep] at x ⊢
   obtain ⟨a,cap,h1,h2,h3,h4,h5⟩ :=x
   refine ⟨a,cap,h1,h2,h3,h4,?_⟩
   rcases h5 with h5| ⟨blk,off,ha,hk⟩
   · left;rw[h5];rfl
   · exact .inr ⟨blk,off,ha,scr_repK H hb k xs blk off hk⟩
 | .sv b' off n,v,x=>by
   simp only[d8]
   split
   · rename_i hok
     simp only[Rep] at x ⊢
     obtain ⟨a,cap,h1,h2,h3,h4⟩ :=x
     exact ⟨a,cap,h1,h2,h3,fun hz=>by obtain ⟨blk,q1,q2⟩ :=h4 hz;exact ⟨blk,fb H hb hok q1,q2⟩⟩
   · simp[Rep]
 | .gv b' m s,v,x=>by
   simp only[d8]
   split
   · rename_i hok
     simp only[Rep] at x ⊢
     obtain ⟨a,cap,h1,h2,h3,h4⟩ :=x
     refine ⟨a,cap,h1,h2,h3,?_⟩
     rcases h4 with h4| ⟨blk,q1,q2,q3⟩
     · exact .inl h4
     · exact .inr ⟨blk,fb H hb hok q1,q2,nE H hb hok q3⟩
   · simp[Rep]
 | .bp b' off,v,x=>by
   simp only[d8]
   split
   · rename_i hok
     simp only[Rep] at x ⊢
     obtain ⟨blk,h1,h2⟩ :=x
     exact ⟨blk,fb H hb hok h1,h2⟩
   · simp[Rep]
 | .mp b',v,x=>by
   simp only[d8]
   split
   · rename_i hok
     simp only[Rep] at x ⊢
     obtain ⟨blk,h1,h2⟩ :=x
     exact ⟨blk,fb H hb hok h1,h2⟩
   · simp[Rep]
 | .bt b' t n,v,x=>by
   simp only[d8]
   split
   · rename_i hok
     simp only[Rep] at x ⊢
     obtain ⟨blk,h1,h2,h3⟩ :=x
     exact ⟨blk,fb H hb hok h1,h2,nE H hb hok h3⟩
   · simp[Rep]
 | .kp xs,v,x=>by
   simp only[d8,Rep] at x ⊢
   obtain ⟨blk,off,h1,h2⟩ :=x
   exact ⟨blk,off,h1,scr_repK H hb k xs blk off h2⟩
 | .agg xs,v,x=>by
   simp only[d8,Rep] at x ⊢
   obtain ⟨vs,h1,h2,h3⟩ :=x
   exact ⟨vs,h1,scr_repL H hb k xs _ h2,h3⟩
 | .tup xs,v,x=>by
   simp only[d8,Rep] at x ⊢
   obtain ⟨vs,h1,h2⟩ :=x
   exact ⟨vs,h1,scr_repL H hb k xs _ h2⟩
 | .fn f xs,v,x=>by
   simp only[d8,Rep] at x ⊢
   obtain ⟨vs,h1,h2⟩ :=x
   exact ⟨vs,h1,scr_repL H hb k xs _ h2⟩
theorem scr_repL (H:WorldOK G h w) (hb:h.at b=some cells) (k:Nat) : ∀ (xs:List C) (vs:List Value),RepL G xs vs→RepL (dS G w b k) (scrs (dG h b) xs) vs
 | [],vs,r=>by simpa[scrs,RepL] using r
 |x::xs,vs,r=>by
  simp only[scrs,RepL] at r ⊢
  obtain ⟨v,vs',h1,h2,h3⟩ :=r
  exact ⟨v,vs',h1,tT H hb k x v h2,scr_repL H hb k xs vs' h3⟩
theorem scr_repK (H:WorldOK G h w) (hb:h.at b=some cells) (k:Nat) : ∀ (xs:List C) (blk off:Nat),RepK G blk off xs→RepK (dS G w b k) blk off (scrs (dG h b) xs)
 | [],_,_,_=>by simp[scrs,RepK]
 |x::xs,blk,off,r=>by
  simp only[scrs,RepK] at r ⊢
  obtain ⟨⟨u,h1,h2,h3⟩,h4⟩ :=r
  exact ⟨⟨u,(qf H k).K _ _ _ h1,h2,tT H hb k x u h3⟩,scr_repK H hb k xs blk (off+1) h4⟩
end
def fzY (h:Hp) (b:Nat) (cells:List C) :List C:= (scrs (dG h b) cells).map C.noR
theorem N1 (h:Hp) (b:Nat) (cells:List C) : (fzY h b cells).length=cells.length:=by simp[fzY,rj]
theorem sH (H:WorldOK G h w) (hb:h.at b=some cells) {blk:Nat} (hm:G.μ b=some blk) :RepK (dS G w b cells.length) blk 0 (fzY h b cells) :=by
 obtain ⟨cs,e,⟨fr,q2,_⟩,q0,q3,q4⟩ :=H.bx hb hm
 refine RepK.of_get fun i x hx=> ?_
 have hil:i< cells.length:=by have:= (List.getElem?_eq_some_iff.1 hx).1;rwa [N1] at this
 unfold fzY at hx
 rw[rj,List.map_map,List.getElem?_map] at hx
 cases hc:cells[i]? with
 |none=>rw[hc] at hx;cases hx
 |some y=>
  rw[hc] at hx
  simp only[Option.map_some,Option.some.injEq,Function.comp] at hx
  subst hx
  obtain ⟨u,hu,hr⟩ :=q3.get i y hc
  rw[List.getElem?_take,if_pos hil] at hu
  refine ⟨u,?_,q4 u (List.mem_of_getElem? hu),(tT H hb cells.length y u hr).noR⟩
  simp only[dS,Nat.zero_add]
  rw[if_pos ⟨hm,hil⟩]
  exact qb q2 _ _ hu
mutual
theorem mS (H:WorldOK G h w) (hb:h.at b=some cells) : ∀ (c:C) (v:Value),Rep G c v→Rep (dS G w b cells.length) (cy (dG h b) b (fzY h b cells) c) v
 | .top,_,_=>by simp[cy,Rep]
 | .val u,v,r=>by simpa[cy,Rep] using r
 | .sl r n xs,v,x=>by
   simp only[cy,Rep] at x ⊢
   obtain ⟨a,cap,h1,h2,h3,h4,h5⟩ :=x
   refine ⟨a,cap,h1,h2,h3,h4,?_⟩
   rcases h5 with h5| ⟨blk,off,ha,hk⟩
   · left;rw[h5];rfl
   · exact .inr ⟨blk,off,ha,fzC_repK H hb xs blk off hk⟩
 | .sv b' off n,v,x=>by
   simp only[cy]
   split
   · rename_i e
     subst e
     split
     · rename_i hle
       simp only[Rep] at x ⊢
       obtain ⟨a,cap,h1,h2,h3,h4⟩ :=x
       refine ⟨a,cap,h1,h2,h3,by simp,?_⟩
       by_cases hn:n=0
       · left;subst hn;simp
       · right
         obtain ⟨blk,q1,q2⟩ :=h4 hn
         refine ⟨blk,off,q2,?_⟩
         have:= (sH H hb q1).drop off
         rw[Nat.zero_add] at this
         exact this.take n
     · simp[Rep]
   · split
     · rename_i hok
       simp only[Rep] at x ⊢
       obtain ⟨a,cap,h1,h2,h3,h4⟩ :=x
       exact ⟨a,cap,h1,h2,h3,fun hz=>by obtain ⟨blk,q1,q2⟩ :=h4 hz;exact ⟨blk,fb H hb hok q1,q2⟩⟩
     · simp[Rep]
 | .gv b' m s,v,x=>by
   simp only[cy]
   split
   · rename_i e
     subst e
     split
     · rename_i hle
       simp only[Rep] at x ⊢
       obtain ⟨a,cap,h1,h2,h3,h4⟩ :=x
       refine ⟨a,cap,h1,h2,h3,by simp,?_⟩
       rcases h4 with ⟨rfl,_⟩ | ⟨blk,q1,q2,q3⟩
       · left;simp
       · right
         exact ⟨blk,0,q2,(sH H hb q1).take _⟩
     · simp[Rep]
   · split
     · rename_i hok
       simp only[Rep] at x ⊢
       obtain ⟨a,cap,h1,h2,h3,h4⟩ :=x
       refine ⟨a,cap,h1,h2,h3,?_⟩
       rcases h4 with h4| ⟨blk,q1,q2,q3⟩
       · exact .inl h4
       · exact .inr ⟨blk,fb H hb hok q1,q2,nE H hb hok q3⟩
     · simp[Rep]
 | .mp b',v,x=>by
   simp only[cy]
   split
   · simp[Rep]
   · split
     · rename_i hok
       simp only[Rep] at x ⊢
       obtain ⟨blk,h1,h2⟩ :=x
       exact ⟨blk,fb H hb hok h1,h2⟩
     · simp[Rep]
 | .bt b' t n,v,x=>by
   simp only[cy]
   split
   · simp[Rep]
   · split
     · rename_i hok
       simp only[Rep] at x ⊢
       obtain ⟨blk,h1,h2,h3⟩ :=x
       exact ⟨blk,fb H hb hok h1,h2,nE H hb hok h3⟩
     · simp[Rep]
 | .bp b' off,v,x=>by
   simp only[cy]
   split
   · rename_i e
     subst e
     simp only[Rep] at x ⊢
     obtain ⟨blk,h1,h2⟩ :=x
     refine ⟨blk,off,h2,?_⟩
     have:= (sH H hb h1).drop off
     rwa [Nat.zero_add] at this
   · split
     · rename_i hok
       simp only[Rep] at x ⊢
       obtain ⟨blk,h1,h2⟩ :=x
       exact ⟨blk,fb H hb hok h1,h2⟩
     · simp[Rep]
 | .kp xs,v,x=>by
   simp only[cy,Rep] at x ⊢
   obtain ⟨blk,off,h1,h2⟩ :=x
   exact ⟨blk,off,h1,fzC_repK H hb xs blk off h2⟩
 | .agg xs,v,x=>by
   simp only[cy,Rep] at x ⊢
   obtain ⟨vs,h1,h2,h3⟩ :=x
   exact ⟨vs,h1,fzC_repL H hb xs _ h2,h3⟩
 | .tup xs,v,x=>by
   simp only[cy,Rep] at x ⊢
   obtain ⟨vs,h1,h2⟩ :=x
   exact ⟨vs,h1,fzC_repL H hb xs _ h2⟩
 | .fn f xs,v,x=>by
   simp only[cy,Rep] at x ⊢
   obtain ⟨vs,h1,h2⟩ :=x
   exact ⟨vs,h1,fzC_repL H hb xs _ h2⟩
theorem fzC_repL (H:WorldOK G h w) (hb:h.at b=some cells) : ∀ (xs:List C) (vs:List Value),RepL G xs vs→RepL (dS G w b cells.length) (fzCs (dG h b) b (fzY h b cells) xs) vs
 | [],vs,r=>by simpa[fzCs,RepL] using r
 |x::xs,vs,r=>by
  simp only[fzCs,RepL] at r ⊢
  obtain ⟨v,vs',h1,h2,h3⟩ :=r
  exact ⟨v,vs',h1,mS H hb x v h2,fzC_repL H hb xs vs' h3⟩
theorem fzC_repK (H:WorldOK G h w) (hb:h.at b=some cells) : ∀ (xs:List C) (blk off:Nat),RepK G blk off xs→RepK (dS G w b cells.length) blk off (fzCs (dG h b) b (fzY h b cells) xs)
 | [],_,_,_=>by simp[fzCs,RepK]
 |x::xs,blk,off,r=>by
  simp only[fzCs,RepK] at r ⊢
  obtain ⟨⟨u,h1,h2,h3⟩,h4⟩ :=r
  exact ⟨⟨u,(qf H _).K _ _ _ h1,h2,mS H hb x u h3⟩,fzC_repK H hb xs blk (off+1) h4⟩
end
theorem qg {ok:Nat→Bool} {ys:List C} {c:C} {s m:Nat} {xs:List C} (hc:cy ok b ys c= .sl (.own s) m xs) : ∃zs,c= .sl (.own s) m zs:=by
 cases c with
 |sl r k zs=>simp only[cy] at hc;cases hc;exact ⟨zs,rfl⟩
 |sv b o k=>simp only[cy] at hc;repeat' split at hc
            all_goals cases hc
 |gv b o k=>simp only[cy] at hc;repeat' split at hc
            all_goals cases hc
 |bp b o=>simp only[cy] at hc;repeat' split at hc
          all_goals cases hc
 |bt b t n=>simp only[cy] at hc;repeat' split at hc
            all_goals cases hc
 |mp b=>simp only[cy] at hc;repeat' split at hc
        all_goals cases hc
 |_=>simp only[cy] at hc;cases hc
theorem Fi {ok:Nat→Bool} {ys:List C} {c:C} {u:Value} (h:cy ok b ys c= .val u) :c= .val u:=by
 cases c with
 |val v=>simp only[cy] at h;exact h
 |sv b o k=>simp only[cy] at h;repeat' split at h
            all_goals cases h
 |gv b o k=>simp only[cy] at h;repeat' split at h
            all_goals cases h
 |bp b o=>simp only[cy] at h;repeat' split at h
          all_goals cases h
 |bt b t n=>simp only[cy] at h;repeat' split at h
            all_goals cases h
 |mp b=>simp only[cy] at h;repeat' split at h
        all_goals cases h
 |_=>simp only[cy] at h;cases h
theorem Fj {ok:Nat→Bool} {ys:List C} {c:C} {xs:List C} (h:cy ok b ys c= .tup xs) : ∃zs,c= .tup zs∧xs=fzCs ok b ys zs:=by
 cases c with
 |tup zs=>simp only[cy] at h;cases h;exact ⟨zs,rfl,rfl⟩
 |sv b o k=>simp only[cy] at h;repeat' split at h
            all_goals cases h
 |gv b o k=>simp only[cy] at h;repeat' split at h
            all_goals cases h
 |bp b o=>simp only[cy] at h;repeat' split at h
          all_goals cases h
 |bt b t n=>simp only[cy] at h;repeat' split at h
            all_goals cases h
 |mp b=>simp only[cy] at h;repeat' split at h
        all_goals cases h
 |_=>simp only[cy] at h;cases h
theorem mT {ok:Nat→Bool} {ys:List C} (hb:b< h.length) {j:Nat} {l:List C} (hj:Hp.mp (kH ok b ys h) j=some l) :j≠b∧∃l0,h.mp j=some l0∧l=fzCs ok b ys l0:=by
 unfold kH at hj
 obtain ⟨n1,n2⟩ :=g4 (h:=h.map fun o=>o.map (fzCs ok b ys)) (by simpa using hb) rfl j l hj
 refine ⟨n1,?_⟩
 unfold Hp.mp at n2
 rw[List.getElem?_map] at n2
 cases hq:h[j]? with
 |none=>rw[hq] at n2;cases n2
 |some o=>
  rw[hq] at n2
  cases o with
  |none=>cases n2
  |some c0=>
   obtain ⟨l0,h1,h2⟩ :=tS (Fs:=fzCs ok b ys) (ix ok b ys) (fun _ _=>Fi) (fun _ _=>Fj) (cells:=c0) n2
   exact ⟨l0,by unfold Hp.mp;rw[hq];exact h1,h2⟩
theorem ya (H:WorldOK G h w) (hb:h.at b=some cells) : ∀ (l:List C) (es:List MapEntry),MRep G l es→MRep (dS G w b cells.length) (fzCs (dG h b) b (fzY h b cells) l) es
 | [],_,r=>by simpa[MRep,fzCs] using r
 | [_],_,r=>by simp[MRep] at r
 |k::v::l,es,r=>by
  simp only[MRep,fzCs] at r ⊢
  obtain ⟨e,es',h1,h2,h3,h4⟩ :=r
  exact ⟨e,es',h1,mS H hb k _ h2,mS H hb v _ h3,ya H hb l es' h4⟩
theorem kw {ok:Nat→Bool} {ys:List C} (hb:h.at b=some cells) {j:Nat} {c':List C} (hj:Hp.at (kH ok b ys h) j=some c') :j≠b∧∃c0,h.at j=some c0∧c'=fzCs ok b ys c0:=by
 have hlen:=eP hb
 unfold kH at hj
 rw[dg (by simpa using hlen)] at hj
 split at hj
 · cases hj
 · rename_i hne
   refine ⟨hne,?_⟩
   have h1:=fP hj
   rw[List.getElem?_map] at h1
   cases hq:h[j]? with
   |none=>rw[hq] at h1;cases h1
   |some o=>
    rw[hq] at h1
    cases o with
    |none=>cases h1
    |some c0=>
     simp only[Option.map_some,Option.some.injEq] at h1
     refine ⟨c0,?_,h1.symm⟩
     have hl:=iz hj
     unfold Hp.at
     rw[hq]
     subst h1
     show cH (some c0) =_
     cases c0 with
     |nil=>rfl
     |cons x l=>
      cases x with
      |tup xs=>simp only[fzCs,cy] at hl;cases hl
      |_=>rfl
theorem OwnRow.fz {k:Nat} {p:cI} {v:Value} {s m:Nat} (O:OwnRow G w p v s m) :OwnRow (dS G w b k) w p v s m:=by
 rcases O with O| ⟨g,cap,cur,e,a1,a2,a3,a4,a5,a6⟩
 · exact .inl O
 · refine .inr ⟨g,cap,cur,e,a1,a2,a3,a4,fun o ho=> ?_,fun b' hb'=> ?_⟩
   · simp only[dS]
     rw[if_neg (fun x=>a6 b x.1)]
     exact a5 o ho
   · simp only[dS] at hb'
     split at hb'
     · cases hb'
     · exact a6 b' hb'
theorem WorldOK.fz (H:WorldOK G h w) (hb:h.at b=some cells) :WorldOK (dS G w b cells.length) (kH (dG h b) b (fzY h b cells) h) w:=by
 have hlen:=eP hb
 have hμ: ∀ {j blk},(dS G w b cells.length).μ j=some blk→G.μ j=some blk∧j≠b∧G.μ b≠some blk:=fun {j blk} x=>by
  simp only[dS] at x
  split at x
  · cases x
  · rename_i hne
    refine ⟨x,fun e=>hne (.inl e),fun e=>hne (.inr ⟨blk,e,x⟩)⟩
 refine ⟨fun blk off u hk=> ?_,fun j c' hj=> ?_,fun j blk hm=> ?_,fun j j' c c' blk hj hj' hm hm'=> ?_,fun j blk hm=> ?_,H.tlt,fun j c' off s m xs blk v hj hc hm hv=> ?_,fun j z hz=> ?_,fun j l hj=> ?_,fun j j' l l' blk x x' y y'=> ?_⟩
 · simp only[dS] at hk
   split at hk
   · exact hk
   · exact H.known blk off u hk
 · obtain ⟨hne,c0,h2,rfl⟩ :=kw hb hj
   have hok:dG h b j=true:=by simp[dG,h2,hne]
   rcases H.box j c0 h2 with ⟨hE,hE2⟩ | ⟨blk,cs,e,q1,q2,q3,q4,q5⟩
   · refine .inl ⟨by rw[hE];rfl,?_⟩
     simp only[dS]
     split
     · rfl
     · exact hE2
   · have hl: (fzCs (dG h b) b (fzY h b cells) c0).length=c0.length:=by rw[ix];simp
     exact .inr ⟨blk,cs,e,fb H hb hok q1,q2,by rw[hl];exact q3,by rw[hl];exact fzC_repL H hb _ _ q4,q5⟩
 · obtain ⟨h1,h2,h3⟩ :=hμ hm
   obtain ⟨⟨c,hc⟩,hl⟩ :=H.dom j blk h1
   refine ⟨⟨fzCs (dG h b) b (fzY h b cells) c,?_⟩,hl⟩
   unfold kH
   rw[List.getElem?_set,if_neg (Ne.symm h2),List.getElem?_map,hc];rfl
 · obtain ⟨h1,_,_⟩ :=hμ hm
   obtain ⟨h1',_,_⟩ :=hμ hm'
   obtain ⟨_,c0,g2,_⟩ :=kw hb hj
   obtain ⟨_,c0',g2',_⟩ :=kw hb hj'
   exact H.inj j j' _ _ blk g2 g2' h1 h1'
 · obtain ⟨h1,h2,h3⟩ :=hμ hm
   obtain ⟨s1,s2⟩ :=H.sep j blk h1
   refine ⟨fun o=> ?_,s2⟩
   simp only[dS]
   rw[if_neg (fun x=>h3 x.1)]
   exact s1 o
 · obtain ⟨h1,_,_⟩ :=hμ hm
   obtain ⟨_,c0,g2,rfl⟩ :=kw hb hj
   rw[ix,List.getElem?_map] at hc
   cases hq:c0[off]? with
   |none=>rw[hq] at hc;cases hc
   |some y=>
    rw[hq] at hc
    simp only[Option.map_some,Option.some.injEq] at hc
    obtain ⟨zs,rfl⟩ :=qg hc
    exact (H.own j c0 off s m zs blk v g2 hq h1 hv).fz
 · simp only[dS] at hz ⊢
   split at hz
   · cases hz
   · rename_i hne
     obtain ⟨blk,cs,e,fr,q1,q2,q3⟩ :=H.siz j z hz
     exact ⟨blk,cs,e,fr,by rw[if_neg hne];exact q1,q2,q3⟩
 · obtain ⟨n1,l0,n2,rfl⟩ :=mT hlen hj
   obtain ⟨blk,es,clk,q1,q2,q3⟩ :=H.mpo j l0 n2
   have hok:dG h b j=true:=by simp[dG,n2,n1]
   exact ⟨blk,es,clk,fb H hb hok q1,q2,ya H hb l0 _ q3⟩
 · obtain ⟨n1,l0,n2,rfl⟩ :=mT hlen x
   obtain ⟨n1',l0',n2',rfl⟩ :=mT hlen x'
   exact H.mpi j j' _ _ blk n2 n2' (hμ y).1 (hμ y').1
theorem zK (H:WorldOK G h w) (hb:h.at b=some cells) (hnb:n≤b) (hn: ∀j,j< n→((h.at j).isSome|| (h.mp j).isSome) =true∨h[j]? =some none) (k:Nat) :FrmN n G w (dS G w b k) w:=by
 have keep: ∀j,j< n→∀blk,G.μ j=some blk→dG h b j=true:=fun j hj blk hm=>by
  rcases hn j hj with h1|h1
  · simp[dG,h1];omega
  · obtain ⟨⟨c,hc⟩,_⟩ :=H.dom j blk hm
    rw[h1] at hc;cases hc
 refine ⟨rfl,rfl,rfl,Nat.le_refl _,fun g o u x=> (qf H k).K g o u x,fun j blk hj x=>fb H hb (keep j hj blk x) x,fun j z hj x=> ?_,fun g _ ht hm=> ⟨rfl,ht,fun j hj=> ?_,fun o=> ?_⟩⟩
 · obtain ⟨blk,_,_,_,q1,_⟩ :=H.siz j z x
   exact nE H hb (keep j hj blk q1) x
 · simp only[dS] at hj
   split at hj
   · cases hj
   · exact hm j hj
 · simp only[dS]
   rw[if_neg (fun x=>hm b x.1)]
theorem Tr.fz (hcx:CxOK cx) {c:Code} (b:Nat) {cells:List C} (hb:st.h.at b=some cells) (hnb:n≤b) (hn: ∀j,j< n→((st.h.at j).isSome|| (st.h.mp j).isSome) =true∨st.h[j]? =some none)
 (K:Tr cx n c ⟨fun t=>cy (dG st.h b) b (fzY st.h b cells) (st.env t),kH (dG st.h b) b (fzY st.h b cells) st.h⟩ Q) :Tr cx n c st Q:=fun G w a S R hR=>
 K (dS G w b cells.length) w a ⟨S.defers,S.size,S.pre.ok.fz hb,⟨fun t=>mS S.pre.ok hb _ _ (S.pre.env.1 t),fun t s m xs e=>by
    obtain ⟨ys,hy⟩ :=qg e
    exact (S.pre.env.2 t s m ys hy).fz⟩,fun g=> (eH _ _ (hcx.glo g) (S.pre.glob g)).mono (qf S.pre.ok _)⟩ R
   fun x s G' w' a' q S' F=>hR x s G' w' a' q S' ((zK S.pre.ok hb hnb hn _).trans F)
end
end Go.Sx
namespace Go.Sx
open Go.RowKit
theorem H9 (v:Value) : (C.val v).asSv= .val v:=rfl
theorem Ia {α:Type} (f:α→List C) (r:Rt) (l:List α) : (sl f r l).asSv=sl f r l:=rfl
theorem N2 (b o n:Nat) : (C.sv b o n).asSv= .sv b o n:=rfl
theorem N3 (b n:Nat) (s:Nat×Nat) : (C.gv b n s).asSv= .sv b 0 n:=rfl
theorem N4 (b o:Nat) : (C.bp b o).asSv= .bp b o:=rfl
theorem N5 (xs:List C) : (C.kp xs).asSv= .kp xs:=rfl
theorem Ui (b n:Nat) (s:Nat×Nat) : (C.gv b n s).noR= .gv b n s:=rfl
theorem Ib (b n:Nat) (s:Nat×Nat) : (C.gv b n s).cells?=some [.gv b n s] :=rfl
theorem N6 (b n:Nat) (s:Nat×Nat) (l:List C) :eu (.gv b n s::l) =true:=rfl
theorem Ic (cx:Cx) (l:List Nat) (d:Option Nat) :nQ (cx.grow l) d=nP l d:=by cases d<;>rfl
theorem Uj (cx:Cx) (l:List Nat) : (cx.grow l).P=cx.P:=rfl
theorem Uk (cx:Cx) (l:List Nat) : (cx.grow l).N=cx.N:=rfl
theorem N7 (cx:Cx) (l:List Nat) : (cx.grow l).pu=cx.pu:=rfl
theorem BT (P:Program) (t:TypeId) (v:Value) (lo hi mx:Option C) :kg P t (.val v) lo hi mx=ez P t (.val v) lo hi mx:=rfl
theorem BU {α:Type} (f:α→List C) (P:Program) (t:TypeId) (r:Rt) (l:List α) (lo hi mx:Option C) :kg P t (sl f r l) lo hi mx=ez P t (sl f r l) lo hi mx:=rfl
theorem Fk (P:Program) (t:TypeId) (b o:Nat) (lo hi mx:Option C) :kg P t (.bp b o) lo hi mx=ez P t (.bp b o) lo hi mx:=rfl
theorem BV (P:Program) (t:TypeId) (b n:Nat) (s:Nat×Nat) (lo:C) (hi mx:Option C) :kg P t (.gv b n s) (some lo) hi mx=ez P t (.sv b 0 n) (some lo) hi mx:=rfl
def Yu (P:Program) (t:Option TD) (b n:Nat) (s:Nat×Nat) (hi:Option C) :Option Plan:=match t with
 |some d=>match d.u with
  | .slice e=>match td P e,dn hi n n with
    |some de,some h=>if (de.size,e) =s then some (vp (.gv b h s)) else none
    |_,_=>none
  |_=>none
 |none=>none
theorem Fl (P:Program) (t:TypeId) (b n:Nat) (s:Nat×Nat) (hi:Option C) :kg P t (.gv b n s) none hi none=Yu P (td P t) b n s hi:=rfl
def Yv (e:Nat) (t:Option TD) (b:Nat) (s:Nat×Nat) (h:Option Nat) :Option Plan:=match t,h with
 |some de,some h=>if (de.size,e) =s then some (vp (.gv b h s)) else none
 |_,_=>none
theorem Ul (P:Program) (e a1 b1:Nat) (z1:List Value) (b n:Nat) (s:Nat×Nat) (hi:Option C) :Yu P (some ⟨.slice e,a1,b1,z1⟩) b n s hi=Yv e (td P e) b s (dn hi n n) :=rfl
theorem Id (e:Nat) (u:TypeDesc) (s y:Nat) (z:List Value) (b h:Nat) :Yv e (some ⟨u,s,y,z⟩) b (s,e) (some h) =some (vp (.gv b h (s,e))) :=if_pos rfl
def uJ (e:Nat) (de:Option TD) (x y:C) :Option Plan:=match de with
 |none=>none
 |some de=>
  let start:Option (Nat×Option (Nat×Nat)) :=match x with
   | .val (.slice none 0 0) =>some (0,none)
   | .sl .full 0 _=>some (0,none)
   | .gv b n s=>if s= (de.size,e) then some (n,some (b,n)) else none
   |_=>none
  match start with
  |none=>none
  |some (n,b) =>
   let fin (m:Nat) (ys:List C) :Bool:=decide (ys.length=m*de.size∧0< de.size∧de.zero.length=de.size∧(n+m)*de.bytes≤140737488355328∧n+m≤9223372036854775807∧de.zero.all (·.oneCell') =true)
   match y with
   | .sv b' off m=>some (.ap b (de.size,e) m fun h=> (h.at b').bind fun cells=>if off+m*de.size≤cells.length∧fin m (((cells.drop off).take (m*de.size)).map C.noR) =true then some (((cells.drop off).take (m*de.size)).map C.noR) else none)
   |y=>match js y with
    |some (m,ys) =>if fin m ys=true then some (.ap b (de.size,e) m fun _=>some ys) else none
    |none=>none
def Yw (P:Program) (d d2:Option TD) (x y:C) :Option Plan:=match d,d2 with
 |some d,some d2=>
  if im d2.u=false then none else
  match d.u with
  | .slice e=>uJ e (td P e) x y
  |_=>none
 |_,_=>none
theorem XM (P:Program) (t t2:TypeId) (x y:C) :io P t t2 x y=Yw P (td P t) (td P t2) x y:=rfl
theorem XN (P:Program) (e e2 a1 b1 a2 b2:Nat) (z1 z2:List Value) (x y:C) :Yw P (some ⟨.slice e,a1,b1,z1⟩) (some ⟨.slice e2,a2,b2,z2⟩) x y=uJ e (td P e) x y:=rfl
section
variable {α:Type} (f:α→List C) {s:Nat} [hf:Cel f s] (e:Nat) (u:TypeDesc) (y:Nat) (z:List Value)
theorem Fm (n:Nat) (l':List α) (hz:z.length=s) (hz1:z.all (·.oneCell') =true) (h: (n+l'.length)*y≤140737488355328∧n+l'.length≤9223372036854775807) :
 decide ((cl f l').length=l'.length*s∧0< s∧z.length=s∧(n+l'.length)*y≤140737488355328∧n+l'.length≤9223372036854775807∧z.all (·.oneCell') =true) =true:=by
 simp only[decide_eq_true_eq]
 exact ⟨co (f:=f) l',hf.pos,hz,h.1,h.2,hz1⟩
theorem Um (b n:Nat) (r:Rt) (l':List α) (hz:z.length=s) (hz1:z.all (·.oneCell') =true) (h: (n+l'.length)*y≤140737488355328∧n+l'.length≤9223372036854775807) :
 uJ e (some ⟨u,s,y,z⟩) (.gv b n (s,e)) (sl f r l') =some (.ap (some (b,n)) (s,e) l'.length fun _=>some (cl f l')) :=by
 have e:=Fm f y z n l' hz hz1 h
 simp only[uJ,if_true,sl,js,C.sl?]
 rw[if_pos e]
theorem Ie (β:Type) (g:β→List C) (r:Rt) (l':List α) (hz:z.length=s) (hz1:z.all (·.oneCell') =true) (h:l'.length*y≤140737488355328∧l'.length≤9223372036854775807) :
 uJ e (some ⟨u,s,y,z⟩) (sl g .full []) (sl f r l') =some (.ap none (s,e) l'.length fun _=>some (cl f l')) :=by
 have e:=Fm f y z 0 l' hz hz1 (by simpa using h)
 simp only[uJ,sl,js,C.sl?,List.length_nil]
 rw[if_pos e]
end
section
variable (cx:Cx) (apps:List Nat) (dsts:List (Option Nat)) (l:List Oper) (id':Nat) (d:Option Nat) (e:List (Nat×C)) (h:Hp) (fs:List FP) (K:List FP→St→Prop)
def nR:List C→List C:=List.map C.noR
def nF (b n:Nat) (s:Nat×Nat) (m:Nat) (cs:List C) (o:Option (List C)) :Prop:=match o with
 |none=>False
 |some cells=>
  if (n+m)*s.1≤cells.length∧(n≠0∨m=0) then run cx apps dsts l id' (fJ d (.gv b (n+m) s) e) (h.set b (some (splice cells (n*s.1) (cs.map C.noR)))) ((4,0) ::fs) K
  else if n*s.1=cells.length then run cx apps dsts l id' (fJ d (.gv h.length (n+m) s) e) (h.set b (some eK)++[some ((cells++cs).map C.noR)]) ((4,0) ::fs) K
  else if n=0 then run cx apps dsts l id' (fJ d (.gv h.length (n+m) s) e) (h.set b (some eK)++[some (cs.map C.noR)]) ((4,0) ::fs) K else False
theorem N8 (z:FP) (s:Nat×Nat) (m:Nat) (cs:List C) :zn cx apps dsts l id' d e h fs K z none s m (some cs) =run cx apps dsts l id' (fJ d (.gv h.length m s) e) (h++[some (nR cs)]) (z::fs) K:=rfl
theorem N9 (z:FP) (b n:Nat) (s:Nat×Nat) (m:Nat) (cs:List C) :zn cx apps dsts l id' d e h fs K z (some (b,n)) s m (some cs) =nF cx apps dsts l id' d e h fs K b n s m cs (h.at b) :=rfl
theorem Oa {α:Type} (f:α→List C) {s:Nat} [hf:Cel f s] (e' b n m:Nat) (xs ys:List α) (hn:n=xs.length) (hm:m=ys.length∧0< m) :
 nF cx apps dsts l id' d e h fs K b n (s,e') m (cl f ys) (some (cl f xs)) =run cx apps dsts l id' (fJ d (.gv h.length (xs++ys).length (s,e')) e) (h.set b (some eK)++[some (cl f (xs++ys))]) ((4,0) ::fs) K:=by
 obtain ⟨hm1,hm2⟩ :=hm
 subst hn hm1
 have hp:=hf.pos
 have hl:=co (f:=f) xs
 have hml:s≤ys.length*s:=by
  have:=Nat.mul_le_mul_right s (show 1≤ys.length by omega)
  omega
 unfold nF
 simp only[]
 rw[if_neg (by rw[hl,Nat.add_mul];omega),if_pos hl.symm,←iV,fG,List.length_append]
end
@[congr] theorem Yx {cx:Cx} {apps:List Nat} {dsts:List (Option Nat)} {l:List Oper} {id':Nat} {d:Option Nat} {e:List (Nat×C)} {h:Hp} {fs:List FP} {K:List FP→St→Prop} {z:FP} {b:Option (Nat×Nat)} {s:Nat×Nat} {m:Nat} {p p':Option (List C)} (hp:p=p') :
 zn cx apps dsts l id' d e h fs K z b s m p=zn cx apps dsts l id' d e h fs K z b s m p':=by rw[hp]
@[congr] theorem XO {cx:Cx} {apps:List Nat} {dsts:List (Option Nat)} {l:List Oper} {id':Nat} {d:Option Nat} {e:List (Nat×C)} {h:Hp} {fs:List FP} {K:List FP→St→Prop} {b n:Nat} {s:Nat×Nat} {m:Nat} {cs:List C} {p p':Option (List C)} (hp:p=p') :
 nF cx apps dsts l id' d e h fs K b n s m cs p=nF cx apps dsts l id' d e h fs K b n s m cs p':=by rw[hp]
theorem XP {α:Type} (f:α→List C) {s:Nat} [hf:Cel f s] (l:List α) :nR (cl f l) =cl f l:=fG l
theorem XQ (p q:Option Plan) :ut true p q=p:=rfl
theorem XR (p q:Option Plan) :ut false p q=q:=rfl
theorem aI (k b:Nat) :eA [] k b=none:=rfl
theorem ay (x:Nat) (r:List Nat) (k b:Nat) :eA (x::r) k b=if b=x then some k else eA r (k+1) b:=rfl
def If (n:Nat) (s:Nat×Nat) :Option Nat→C
 |some j=> .gv j n s
 |none=> .top
def Ig (o n:Nat) :Option Nat→C
 |some j=> .sv j o n
 |none=> .top
def Ih (o:Nat) :Option Nat→C
 |some j=> .bp j o
 |none=> .top
theorem aZ (ρ:List Nat) (b n:Nat) (s:Nat×Nat) :cB ρ (.gv b n s) =If n s (eA ρ 0 b) :=by simp only[cB];cases eA ρ 0 b<;>rfl
theorem a0 (ρ:List Nat) (b o n:Nat) :cB ρ (.sv b o n) =Ig o n (eA ρ 0 b) :=by simp only[cB];cases eA ρ 0 b<;>rfl
theorem a7 (ρ:List Nat) (b o:Nat) :cB ρ (.bp b o) =Ih o (eA ρ 0 b) :=by simp only[cB];cases eA ρ 0 b<;>rfl
theorem af (n:Nat) (s:Nat×Nat) (j:Nat) :If n s (some j) = .gv j n s:=rfl
theorem ag (n:Nat) (s:Nat×Nat) :If n s none= .top:=rfl
theorem ah (o n j:Nat) :Ig o n (some j) = .sv j o n:=rfl
theorem aj (o n:Nat) :Ig o n none= .top:=rfl
theorem am (o j:Nat) :Ih o (some j) = .bp j o:=rfl
theorem an (o:Nat) :Ih o none= .top:=rfl
theorem aJ (ρ:List Nat) (v:Value) :cB ρ (.val v) = .val v:=by simp only[cB]
theorem aG (ρ:List Nat) :cB ρ .top= .top:=by simp only[cB]
theorem aK (ρ:List Nat) (xs:List C) :cB ρ (.agg xs) = .agg (mvCs ρ xs) :=by simp only[cB]
theorem a8 (ρ:List Nat) (xs:List C) :cB ρ (.kp xs) = .kp (mvCs ρ xs) :=by simp only[cB]
theorem ba (ρ:List Nat) (f:Nat) (xs:List C) :cB ρ (.fn f xs) = .fn f (mvCs ρ xs) :=by simp only[cB]
theorem aA (ρ:List Nat) :mvCs ρ [] = [] :=by simp only[mvCs]
theorem ao (ρ:List Nat) (c:C) (l:List C) :mvCs ρ (c::l) =cB ρ c::mvCs ρ l:=by simp only[mvCs]
mutual
theorem Ii (ρ:List Nat) : ∀c:C,flat c=true→cB ρ c=c
 | .val _,_=>by simp only[cB]
 | .agg xs,h=>by simp only[flat] at h;simp only[cB,mvCs_flat ρ xs h]
 | .tup xs,h=>by simp only[flat] at h;simp only[cB,mvCs_flat ρ xs h]
 | .top,h=>by simp[flat] at h
 | .sl _ _ _,h=>by simp[flat] at h
 | .sv _ _ _,h=>by simp[flat] at h
 | .gv _ _ _,h=>by simp[flat] at h
 | .bp _ _,h=>by simp[flat] at h
 | .kp _,h=>by simp[flat] at h
 | .fn _ _,h=>by simp[flat] at h
theorem mvCs_flat (ρ:List Nat) : ∀l:List C,flats l=true→mvCs ρ l=l
 | [],_=>by simp only[mvCs]
 |x::xs,h=>by simp only[flats,Bool.and_eq_true] at h;simp only[mvCs,Ii ρ x h.1,mvCs_flat ρ xs h.2]
end
theorem aH {α:Type} (f:α→List C) [h:Fla f] (ρ:List Nat) (l:List α) :mvCs ρ (cl f l) =cl f l:=mvCs_flat ρ _ (gH f l)
theorem bc {α:Type} (f:α→List C) [h:Fla f] (ρ:List Nat) (a:α) :mvCs ρ (f a) =f a:=mvCs_flat ρ _ (h.flat a)
theorem aY {α:Type} (f:α→List C) [h:Fla f] (ρ:List Nat) (r:Rt) (l:List α) :cB ρ (sl f r l) =sl f r l:=by
 unfold sl;simp only[cB,aH]
def hget:Hp→Nat→Option (List C)
 | [],_=>none
 |o::_,0=>o
 |_::h,k+1=>hget h k
theorem zL: ∀ (h:Hp) (k:Nat),(h[k]?).getD none=hget h k
 | [],_=>rfl
 |o::_,0=>rfl
 |_::h,k+1=>by rw[List.getElem?_cons_succ];exact zL h k
theorem bd (o:Option (List C)) (h:Hp) :hget (o::h) 0=o:=rfl
theorem bf (o:Option (List C)) (h:Hp) (k:Nat) :hget (o::h) (k+1) =hget h k:=rfl
def tU (ρ:List Nat) (h:Hp) :List Nat→Hp
 | [] => []
 |x::r=> (hget h x).map (mvCs ρ) ::tU ρ h r
theorem bg (ρ:List Nat) (h:Hp) :jf ρ h=tU ρ h ρ:=by
 have key: ∀r:List Nat,(r.map fun b=> ((h[b]?).getD none).map (mvCs ρ)) =tU ρ h r:=by
  intro r
  induction r with
  |nil=>rfl
  |cons x r ih=>rw[List.map_cons,ih,zL];rfl
 exact key ρ
theorem aB (ρ:List Nat) (h:Hp) :tU ρ h [] = [] :=rfl
theorem aq (ρ:List Nat) (h:Hp) (x:Nat) (r:List Nat) :tU ρ h (x::r) = (hget h x).map (mvCs ρ) ::tU ρ h r:=rfl
def jw (g:C→C) :List (Nat×C)→List (Nat×C)
 | [] => []
 | (k,c) ::l=> (k,g c) ::jw g l
theorem lN (g:C→C) :jw g [] = [] :=rfl
theorem kx (g:C→C) (k:Nat) (c:C) (l:List (Nat×C)) :jw g ((k,c) ::l) = (k,g c) ::jw g l:=rfl
theorem sI (g:C→C) (hg:g .top= .top) : ∀l:List (Nat×C),(fun t=>g (A l t)) =A (jw g l)
 | [] =>by funext t;exact hg
 | (k,c) ::l=>by
   funext t
   simp only[A,jw]
   split
   · rfl
   · exact congrFun (sI g hg l) t
theorem Fn {cx:Cx} {n:Nat} {Q:Ex→St→Prop} {e:List (Nat×C)} {h:Hp} (hcx:CxOK cx) {c:Code} (b:Nat) (cells:List C) (hb:h.at b=some cells) (hnb:n≤b) (hn: ∀j,j< n→((h.at j).isSome|| (h.mp j).isSome) =true∨h[j]? =some none)
 (K:Tr cx n c ⟨A (jw (cy (dG h b) b (fzY h b cells)) e),kH (dG h b) b (fzY h b cells) h⟩ Q) :Tr cx n c ⟨A e,h⟩ Q:=by
 refine Tr.fz hcx b hb hnb hn ?_
 rw[sI _ (by simp only[cy])]
 exact K
theorem Fo {cx:Cx} {n:Nat} {Q:Ex→St→Prop} {e:List (Nat×C)} {h:Hp} (hcx:CxOK cx) {c:Code} (ρ:List Nat) (hρ:rh n ρ) (K:Tr cx n c ⟨A (jw (cB ρ) e),jf ρ h⟩ Q) :Tr cx n c ⟨A e,h⟩ Q:=by
 refine Tr.mv hcx ρ hρ ?_
 rw[sI _ (aG ρ)]
 exact K
theorem mU (ok:Nat→Bool) (b:Nat) (ys:List C) (v:Value) :cy ok b ys (.val v) = .val v:=by simp only[cy]
theorem qh (ok:Nat→Bool) (b:Nat) (ys:List C) :cy ok b ys .top= .top:=by simp only[cy]
theorem qi (ok:Nat→Bool) (b:Nat) (ys xs:List C) :cy ok b ys (.agg xs) = .agg (fzCs ok b ys xs) :=by simp only[cy]
theorem qj (ok:Nat→Bool) (b:Nat) (ys xs:List C) :cy ok b ys (.tup xs) = .tup (fzCs ok b ys xs) :=by simp only[cy]
theorem sJ (ok:Nat→Bool) (b:Nat) (ys xs:List C) :cy ok b ys (.kp xs) = .kp (fzCs ok b ys xs) :=by simp only[cy]
theorem sK (ok:Nat→Bool) (b:Nat) (ys:List C) (f:Nat) (xs:List C) :cy ok b ys (.fn f xs) = .fn f (fzCs ok b ys xs) :=by simp only[cy]
theorem nG (ok:Nat→Bool) (b:Nat) (ys:List C) :fzCs ok b ys [] = [] :=by simp only[fzCs]
theorem lZ (ok:Nat→Bool) (b:Nat) (ys:List C) (x:C) (xs:List C) :fzCs ok b ys (x::xs) =cy ok b ys x::fzCs ok b ys xs:=by simp only[fzCs]
mutual
theorem Ij (ok:Nat→Bool) (b:Nat) (ys:List C) : ∀c:C,flat c=true→cy ok b ys c=c
 | .val _,_=>by simp only[cy]
 | .agg xs,h=>by simp only[flat] at h;simp only[cy,fzCs_flat ok b ys xs h]
 | .tup xs,h=>by simp only[flat] at h;simp only[cy,fzCs_flat ok b ys xs h]
 | .top,h=>by simp[flat] at h
 | .sl _ _ _,h=>by simp[flat] at h
 | .sv _ _ _,h=>by simp[flat] at h
 | .gv _ _ _,h=>by simp[flat] at h
 | .bp _ _,h=>by simp[flat] at h
 | .kp _,h=>by simp[flat] at h
 | .fn _ _,h=>by simp[flat] at h
theorem fzCs_flat (ok:Nat→Bool) (b:Nat) (ys:List C) : ∀l:List C,flats l=true→fzCs ok b ys l=l
 | [],_=>by simp only[fzCs]
 |x::xs,h=>by simp only[flats,Bool.and_eq_true] at h;simp only[fzCs,Ij ok b ys x h.1,fzCs_flat ok b ys xs h.2]
end
mutual
theorem Ik (ok:Nat→Bool) : ∀c:C,flat c=true→d8 ok c=c
 | .val _,_=>by simp only[d8]
 | .agg xs,h=>by simp only[flat] at h;simp only[d8,scrs_flat ok xs h]
 | .tup xs,h=>by simp only[flat] at h;simp only[d8,scrs_flat ok xs h]
 | .top,h=>by simp[flat] at h
 | .sl _ _ _,h=>by simp[flat] at h
 | .sv _ _ _,h=>by simp[flat] at h
 | .gv _ _ _,h=>by simp[flat] at h
 | .bp _ _,h=>by simp[flat] at h
 | .kp _,h=>by simp[flat] at h
 | .fn _ _,h=>by simp[flat] at h
theorem scrs_flat (ok:Nat→Bool) : ∀l:List C,flats l=true→scrs ok l=l
 | [],_=>by simp only[scrs]
 |x::xs,h=>by simp only[flats,Bool.and_eq_true] at h;simp only[scrs,Ik ok x h.1,scrs_flat ok xs h.2]
end
theorem mV {α:Type} (f:α→List C) [h:Fla f] (ok:Nat→Bool) (b:Nat) (ys:List C) (l:List α) :fzCs ok b ys (cl f l) =cl f l:=fzCs_flat ok b ys _ (gH f l)
theorem oE {α:Type} (f:α→List C) [h:Fla f] (ok:Nat→Bool) (b:Nat) (ys:List C) (r:Rt) (l:List α) :cy ok b ys (sl f r l) =sl f r l:=by
 unfold sl;simp only[cy,mV]
theorem Fp {α:Type} (f:α→List C) {s:Nat} [hc:Cel f s] [h:Fla f] (hp:Hp) (b:Nat) (l:List α) :fzY hp b (cl f l) =cl f l:=by
 unfold fzY;rw[scrs_flat _ _ (gH f l),fG]
def jP (ys:List C) (n:Nat) (s:Nat×Nat) :C:=if n*s.1≤ys.length then .sl .no n (ys.take (n*s.1)) else .top
theorem sL (ok:Nat→Bool) (b:Nat) (ys:List C) (b' n:Nat) (s:Nat×Nat) :cy ok b ys (.gv b' n s) =if b'=b then jP ys n s else if ok b'=true then .gv b' n s else .top:=by simp only[cy,jP]
theorem jQ {α:Type} (f:α→List C) {s:Nat} [hc:Cel f s] (e:Nat) (l:List α) (n:Nat) (h:n=l.length) :jP (cl f l) n (s,e) =sl f .no l:=by
 subst h
 have hl:=co (f:=f) l
 unfold jP
 simp only[]
 rw[if_pos (by omega),List.take_of_length_le (by omega)];rfl
theorem oF (h:Hp) (b b':Nat) :dG h b b'= (((h.at b').isSome|| (h.mp b').isSome) && b' !=b) :=rfl
attribute [go_sem] H9 Ia N2 N3 N4 N5 Ui Ib N6 Ic Uj Uk N7 BT BU Fk BV Fl Ul Id XM XN Um Ie SI N8 N9 Oa XP XQ XR Er GL MH GM MI SN qZ
theorem cr {cx:Cx} {n:Nat} {Q:Ex→St→Prop} {e:List (Nat×C)} {h:Hp} {t:Nat} {x y:Code} (ht:A e t= .val (.bool true)) (H:Tr cx n x ⟨A e,h⟩ Q) :Tr cx n (.cond (.tmp t) x y) ⟨A e,h⟩ Q:=
 Tr.condG fun KT KF hT hF=>by rw[sx,ht,kJ];exact .pos rfl (hT H)
theorem bm {cx:Cx} {n:Nat} {Q:Ex→St→Prop} {e:List (Nat×C)} {h:Hp} {t:Nat} {x y:Code} (ht:A e t= .val (.bool false)) (H:Tr cx n y ⟨A e,h⟩ Q) :Tr cx n (.cond (.tmp t) x y) ⟨A e,h⟩ Q:=
 Tr.condG fun KT KF hT hF=>by rw[sx,ht,kJ];exact .neg rfl (hF H)
theorem bR {cx:Cx} {n:Nat} {Q:Ex→St→Prop} {e:List (Nat×C)} {h:Hp} {t:Nat} {x y:Code} {p:Prop} {d:Decidable p} (ht:A e t= .val (.bool (@decide p d))) (H1:p→Tr cx n x ⟨A e,h⟩ Q) (H2: ¬p→Tr cx n y ⟨A e,h⟩ Q) :Tr cx n (.cond (.tmp t) x y) ⟨A e,h⟩ Q:=
 Tr.condG fun KT KF hT hF=>by rw[sx,ht,kJ];exact .dec (fun q=>hT (H1 q)) (fun q=>hF (H2 q))
theorem lA {α:Type} (xs ys:List α) : (xs++ys).length=xs.length+ys.length:=List.length_append
theorem lD {α:Type} (n:Nat) (xs:List α) : (xs.drop n).length=xs.length - n:=List.length_drop
theorem lT {α:Type} (n:Nat) (xs:List α) : (xs.take n).length=min n xs.length:=List.length_take
end Go.Sx
namespace Go.Sx
open Go.RowKit
def aaW (b:Bool) (c:C) (h:Hp) :Option (C×Hp) :=if b then some (c,h) else none
def Un (b:Bool) (o:Option C) (h:Hp) :Option (C×Hp) :=if b then (match o with
 |some c=>aaW (flat c) c h
 |none=>none) else none
@[congr] theorem XS {b b':Bool} {o o':Option C} {h:Hp} (hb:b=b') (ho:b'=true→o=o') :Un b o h=Un b' o' h:=by
  subst hb
  cases b with
  |false=>rfl
  |true=>rw[ho rfl]
theorem Fq {P:Program} {α:Type} (f:α→List C) (t:TypeId) (b o:Nat) (r:Rt) (l:List α) (k:Option Nat) :dv P t (.bp b o) (sl f r l) k=KC (td P t) b o (sl f r l) k:=xR P t b o r _ _ k
theorem Il {P:Program} (t:TypeId) (b o b' n:Nat) (s:Nat×Nat) (k:Option Nat) :dv P t (.bp b o) (.gv b' n s) k=sA (td P t) b o (some [.gv b' n s]) :=by
 unfold dv sA;cases td P t<;>rfl
attribute [go_sem] Fq Il Bool.and_false Bool.false_and
end Go.Sx
namespace Go.Sx
open Go.RowKit
end Go.Sx
namespace Go.Sx
open Go.RowKit
end Go.Sx
namespace Go.Sx
open Go.RowKit
section
variable {cx:Cx} {n:Nat} {Q:Ex→St→Prop} {st:St} {G:Gh} {h:Hp} {w:World} {P:Program}
def yb:C→Bool
 | .tup _=>false
 |_=>true
theorem BW {cells:List C} (hl:cH (some cells) =some cells) (k:Nat) {c':C} (hc:yb c'=true) :cH (some (cells.set k c')) =some (cells.set k c') :=by
 cases cells with
 |nil=>simp[cH]
 |cons c t=>
  cases k with
  |zero=>
   rw[List.set_cons_zero]
   unfold cH
   split
   · rename_i h2;cases h2;cases hc
   · rfl
  |succ k=>
   rw[List.set_cons_succ]
   unfold cH at hl ⊢
   split at hl
   · cases hl
   · rename_i hn
     split
     · rename_i h2;cases h2;exact absurd rfl (hn _ _)
     · rfl
theorem WorldOK.bxc (H:WorldOK G h w) {b k:Nat} {c c':C} {cells:List C} (hb:h.at b=some cells) (hk:cells[k]? =some c) (hc:CLe c c') (ht:yb c'=true) :WorldOK G (h.set b (some (cells.set k c'))) w:=by
 have hlt:=eP hb
 have hlive:=BW (iz hb) k ht
 have hkl:k< cells.length:= (List.getElem?_eq_some_iff.1 hk).1
 refine ⟨H.known,fun b' c2 x=> ?_,fun b' blk x=> ?_,fun b1 b2 c1 c2 blk x x' y y'=> ?_,H.sep,H.tlt,fun b' c2 off s m2 ys blk v x hc2 hm hv=> ?_,H.siz,H.mpoT (fun k l x=> (g4 hlt (qT hlive) k l x).2) (fun _ _ _ x=>x) (.refl G),H.mpiT (fun k l x=> (g4 hlt (qT hlive) k l x).2) (fun _ _ _ _ x=>x)⟩
 · rw[dg hlt] at x
   split at x
   · rename_i e;subst e;rw[hlive] at x;cases x
     rcases H.box b' cells hb with ⟨rfl,hE⟩ | ⟨blk,cs,e,q1,q2,q3,q4,q5⟩
     · simp at hkl
     · refine .inr ⟨blk,cs,e,q1,q2,by rw[List.length_set];exact q3,?_,q5⟩
       rw[List.length_set]
       have hsz:cs.toList.length=cs.size:=by simp
       have hlen: (cells.set k c').length= (cs.toList.take cells.length).length:=by
        rw[List.length_set,List.length_take];omega
       refine RepL.of_get hlen fun i y v hy hv=> ?_
       rw[List.getElem?_set] at hy
       split at hy
       · rename_i e2;subst e2
         (try rw[if_pos hkl] at hy);cases hy
         obtain ⟨v2,hv2,hr⟩ :=q4.get k _ hk
         rw[hv] at hv2;cases hv2
         exact hc.1 _ _ hr
       · obtain ⟨v2,hv2,hr⟩ :=q4.get i _ hy
         rw[hv] at hv2;cases hv2;exact hr
   · exact H.box b' c2 x
 · obtain ⟨⟨c0,hc0⟩,hl⟩ :=H.dom b' blk x
   refine ⟨?_,hl⟩
   by_cases e:b'=b
   · subst e;exact ⟨_,by rw[List.getElem?_set_self hlt]⟩
   · exact ⟨c0,by rw[List.getElem?_set_ne (fun h=>e h.symm)];exact hc0⟩
 · have key: ∀b' c2,Hp.at (h.set b (some (cells.set k c'))) b'=some c2→∃c0,h.at b'=some c0:=fun b' c2 x=>by
    rw[dg hlt] at x
    split at x
    · rename_i e;subst e;exact ⟨cells,hb⟩
    · exact ⟨c2,x⟩
   obtain ⟨d1,e1⟩ :=key b1 c1 x
   obtain ⟨d2,e2⟩ :=key b2 c2 x'
   exact H.inj b1 b2 d1 d2 blk e1 e2 y y'
 · rw[dg hlt] at x
   split at x
   · rename_i e;subst e;rw[hlive] at x;cases x
     rw[List.getElem?_set] at hc2
     split at hc2
     · rename_i e2;subst e2
       (try rw[if_pos hkl] at hc2);cases hc2
       rcases hc.2 s m2 ys rfl with rfl|hfull
       · exact H.own b' cells k s m2 ys blk v hb hk hm hv
       · rcases H.box b' cells hb with ⟨rfl,hE⟩ | ⟨blk2,cs,e,q1,q2,q3,q4,q5⟩
         · simp at hkl
         · obtain ⟨v2,hv2,hr⟩ :=q4.get k _ hk
           rw[q1] at hm;cases hm
           obtain ⟨fr,q6,q7⟩ :=q2
           rw[List.getElem?_take_of_lt hkl] at hv2
           rw[qb q6 _ _ hv2] at hv
           cases hv
           obtain ⟨a,rfl⟩ :=hfull _ _ hr
           exact .inl ⟨a,rfl⟩
     · exact H.own b' cells off s m2 ys blk v hb hc2 hm hv
   · exact H.own b' c2 off s m2 ys blk v x hc2 hm hv
theorem Tr.bxc {c:Code} {e:List (Nat×C)} {h:Hp} (b k:Nat) {x:C} (x':C) (cells:List C) (hb:h.at b=some cells) (hk:cells[k]? =some x) (hc:CLe x x') (ht:yb x'=true) (H:Tr cx n c ⟨A e,h.set b (some (cells.set k x'))⟩ Q) :Tr cx n c ⟨A e,h⟩ Q:=fun G w a S R hR=>
 H G w a ⟨S.defers,S.size,S.pre.ok.bxc hb hk hc ht,S.pre.env,S.pre.glob⟩ R hR
theorem XT {t e:TypeId} {s y:Nat} {z:List Value} (op:BinOp) {x:C} (hx:x.nilS?=some false) (hv: ∀v,x≠ .val v) (h:td P t=some ⟨.slice e,s,y,z⟩) (hg:P.eqGuardType P.depth t=false) :aV P op t x (.val (.slice none 0 0)) =oz op false:=by
 have he:jc P 9 t x (.val (.slice none 0 0)) =some false:=by
  unfold jc;rw[h];simp only[hx];rfl
 have h1:aV P op t x (.val (.slice none 0 0)) =gq P op t x (.val (.slice none 0 0)) :=by
  cases x with
  |val v=>exact absurd rfl (hv v)
  |_=>rfl
 rw[h1]
 unfold gq
 rw[if_pos ⟨.inr (.inl ⟨by rw[hx];rfl,rfl⟩),hg⟩]
 unfold oz
 cases op<;>simp[he,vp,Plan.pure]
end
end Go.Sx
namespace Go.Sx
open Go.RowKit Go.ChangeShapes Go.WideShapes
abbrev aaX (α:Type) :=α→(H:Type)→List (DataW H)→Prop
structure RdF (P:Program) (fs:List Field) (off z:Nat) {α:Type} (f:α→List C) (R:aaX α) :Prop where
 rd: ∀ {H:Type} {enc:TypeId×Value→H} {W:World} {base:Nat} {sp:Nat→Bool} {held:Bool} {n:Nat} {cs:List Value} {xs:List (DataW H×List MemPlace)},xs.length=fs.length→cs.length=off+z→
  (∀ (i:Nat) (fd:Field),fs[i]? =some fd→DataW.trod enc P W base sp held n fd.type ((cs.drop fd.offset).take (P.cellsOf fd.type)) =xs[i]?)→∃a,R a H (xs.map (·.1))∧RepL (GW W) (f a) (cs.drop off)∧∀u∈cs.drop off,u.oneCell'=true
end Go.Sx
namespace Go.Sx
open Go.RowKit
section
variable {cx:Cx} {n:Nat} {Q:Ex→St→Prop} {e:List (Nat×C)} {h:Hp} {b:Code} {id:Nat} {l:List Oper} {s:St}
theorem aa (hcx:CxOK cx) (apps:List Nat) (dsts:List (Option Nat)) (z:Hp) (h1:l.filterMap d7=apps) (h2:l.map (·.dst) =dsts) (h3:fO l=z) (H:Tr cx n b s Q) (E: ∀K:St→Prop,K s→run cx apps dsts l h.length e (h++z) [] (fun _ s=>K s)) :Tr cx n (.seq (.region id l.toArray false) b) ⟨A e,h⟩ Q:=
 ae fun K hK=>wd hcx apps dsts z h1 h2 h3 (E K (hK s H))
theorem bF (hcx:CxOK cx) (apps:List Nat) (dsts:List (Option Nat)) (z:Hp) (h1:l.filterMap d7=apps) (h2:l.map (·.dst) =dsts) (h3:fO l=z) (H:Q .normal s) (E: ∀K:St→Prop,K s→run cx apps dsts l h.length e (h++z) [] (fun _ s=>K s)) :Tr cx n (.region id l.toArray false) ⟨A e,h⟩ Q:=
 wd hcx apps dsts z h1 h2 h3 (E (Q .normal) H)
theorem bG (hcx:CxOK cx) (hm:cx.P.follows .mixedOrders=true) (apps:List Nat) (dsts:List (Option Nat)) (z:Hp) (h1:l.filterMap d7=apps) (h2:l.map (·.dst) =dsts) (h3:fO l=z) (hs:eI l.toArray=true) (H:Tr cx n b s Q) (E: ∀K:St→Prop,K s→run cx apps dsts l h.length e (h++z) [] (fun fs s=>go l.toArray fs.reverse=true∧K s)) :Tr cx n (.seq (.region id l.toArray true) b) ⟨A e,h⟩ Q:=
 ae fun K hK=>xN hcx hm apps dsts z h1 h2 h3 hs (E K (hK s H))
theorem gJ (hcx:CxOK cx) (hm:cx.P.follows .mixedOrders=true) (apps:List Nat) (dsts:List (Option Nat)) (z:Hp) (h1:l.filterMap d7=apps) (h2:l.map (·.dst) =dsts) (h3:fO l=z) (hs:eI l.toArray=true) (H:Q .normal s) (E: ∀K:St→Prop,K s→run cx apps dsts l h.length e (h++z) [] (fun fs s=>go l.toArray fs.reverse=true∧K s)) :Tr cx n (.region id l.toArray true) ⟨A e,h⟩ Q:=
 xN hcx hm apps dsts z h1 h2 h3 hs (E (Q .normal) H)
theorem XU (hcx:CxOK cx) (gs:List Nat) (apps:List Nat) (dsts:List (Option Nat)) (z:Hp) (h1:l.filterMap d7=apps) (h2:l.map (·.dst) =dsts) (h3:fO l=z) (H:Q .normal s) (E: ∀K:St→Prop,K s→run (cx.grow gs) apps dsts l h.length e (h++z) [] (fun _ s=>K s)) :Tr cx n (.region id l.toArray false) ⟨A e,h⟩ Q:=
 Uh hcx gs apps dsts z h1 h2 h3 (E (Q .normal) H)
theorem Uo (hcx:CxOK cx) (hm:cx.P.follows .mixedOrders=true) (gs:List Nat) (apps:List Nat) (dsts:List (Option Nat)) (z:Hp) (h1:l.filterMap d7=apps) (h2:l.map (·.dst) =dsts) (h3:fO l=z) (hs:eI l.toArray=true) (H:Tr cx n b s Q) (E: ∀K:St→Prop,K s→run (cx.grow gs) apps dsts l h.length e (h++z) [] (fun fs s=>go l.toArray fs.reverse=true∧K s)) :Tr cx n (.seq (.region id l.toArray true) b) ⟨A e,h⟩ Q:=
 ae fun K hK=>zH hcx hm gs apps dsts z h1 h2 h3 hs (E K (hK s H))
theorem oG (hcx:CxOK cx) (hm:cx.P.follows .mixedOrders=true) (gs:List Nat) (apps:List Nat) (dsts:List (Option Nat)) (z:Hp) (h1:l.filterMap d7=apps) (h2:l.map (·.dst) =dsts) (h3:fO l=z) (hs:eI l.toArray=true) (H:Q .normal s) (E: ∀K:St→Prop,K s→run (cx.grow gs) apps dsts l h.length e (h++z) [] (fun fs s=>go l.toArray fs.reverse=true∧K s)) :Tr cx n (.region id l.toArray true) ⟨A e,h⟩ Q:=
 zH hcx hm gs apps dsts z h1 h2 h3 hs (E (Q .normal) H)
theorem Tr.k (ks:List Nat) {c:Code} {e':List (Nat×C)} (H:Tr cx n c ⟨A e',h⟩ Q) (E: ∀R:List (Nat×C)→Prop,R e'→R (pk e ks) :=by intro RZ hZ;simp only[No,TG,↓bB,↓reduceIte,Nat.reduceEqDiff,reduceCtorEq];exact hZ) :Tr cx n c ⟨A e,h⟩ Q:=
 Tr.kp ks (E (fun x=>Tr cx n c ⟨A x,h⟩ Q) H)
theorem wj {t:Nat} {x y:Code} {d:Bool} (ht:A e t= .val (.bool d)) (hd:d=true) (H:Tr cx n x ⟨A e,h⟩ Q) :Tr cx n (.cond (.tmp t) x y) ⟨A e,h⟩ Q:=
 cr (ht.trans (by rw[hd])) H
theorem wl {t:Nat} {x y:Code} {d:Bool} (ht:A e t= .val (.bool d)) (hd:d=false) (H:Tr cx n y ⟨A e,h⟩ Q) :Tr cx n (.cond (.tmp t) x y) ⟨A e,h⟩ Q:=
 bm (ht.trans (by rw[hd])) H
end
theorem LT {p:Prop} (h:p:=by (simp only[bD,aO,↓bB,↓reduceIte,Nat.reduceEqDiff,aD,aP,aE,aQ,aR,and_true,true_and];all_goals (repeat' first|exact CLe.refl _|exact True.intro| (refine bM ?_;first|rfl| (simp only[List.take_zero];done)) |exact cG (by omega) |exact b8 (by omega) |exact ct (by omega) |exact cu (by omega) |with_reducible apply And.intro))) :p:=h
theorem O1 {p:Prop} (h:p:=by first|omega| (simp only[];omega)) :p:=h
end Go.Sx
