/-
   And what follows.
-/
import Derived.Deep.LoopGhost
import Derived.Test.YtcpdlhgkdogdjaaDoorPaf
set_option linter.unusedSimpArgs false
set_option linter.unusedVariables false
namespace Go.Sx
open Go.RowKit
theorem pI {F:Fence}{n:Nat}{P:Program}{Q:Exit→Act→World→Prop}{a:Act}{w:World}{c:Code}(h:c.wpIn F n P (Exit.noGoto Q) a w): (Code.scope c).wpIn F n P Q a w:=by
 intro b k cs hro hb hr;have h0: (lone (b.atR a (.code (.scope c)::k)) cs w).fenced P F:=fenced_calm hb hr rfl;have s1:Go.step P (lone (b.atR a (.code (.scope c)::k)) cs w) = .next (lone (b.atR a (.code c:: .inScope c::k)) cs w):=step_lone_go (by simp[stepG,stepG.exec,Frame.atR])
 have s2:∀a w,Go.step P (lone (b.atR a (.inScope c::k)) cs w) = .next (lone (b.atR a k) cs w):=fun a w=>step_lone_go (by simp[stepG,stepG.exec,Frame.atR])
 obtain ⟨e,a₁,w₁,hq,harr⟩:=h b (.inScope c::k) cs hro hb hr
 cases e with
 |normal=>exact ⟨.normal,a₁,w₁,hq,.head h0 s1 (StepsIn.trans harr (.one (fenced_calm hb hr rfl) (s2 _ _)))⟩
 |exit id=>
  have hx:exitTo id (.inScope c::k) =exitTo id k:=by simp[exitTo]
  exact ⟨.exit id,a₁,w₁,hq,fun k' hk=> .head h0 s1 (harr.1 k' (by rw[hx];exact hk)),
   fun hr' hk=>let ⟨k₁,h1,h2⟩:=harr.2 hr' (by rw[hx];exact hk);⟨k₁,h1,.head h0 s1 h2⟩⟩
 |goto l=>exact hq.elim
 |ret=>exact ⟨_,a₁,w₁,hq,.of_steps (.one h0 s1) harr⟩
 |panic ch=>exact ⟨_,a₁,w₁,hq,.of_steps (.one h0 s1) harr⟩
 |outgrown=>exact ⟨_,a₁,w₁,hq,.of_steps (.one h0 s1) harr⟩
theorem mU {F:Fence}{k:Nat}{P:Program}{Q:Exit→Act→World→Prop}{a:Act}{w:World}{c:Code}(I:Nat→Act→World→Prop)(n₀:Nat)(h₀:I n₀ a w)
 (round:∀n a w,I n a w→c.wpIn F k P (Exit.then (fun a' w'=> ∃n',n'< n∧I n' a' w') Q) a w): (Code.loop c).wpIn F k P Q a w:=by
 refine wpIn_loop (fun a w=> ∃n,I n a w) (fun a w=>leastOf (fun n=>I n a w)) ⟨n₀,h₀⟩ ?_;intro a w hI;refine wpIn_mono (round _ a w (leastOf_spec hI).1) ?_;intro e a' w' hq
 cases e with
 |normal=>
  obtain ⟨n',hlt,hI'⟩:=hq;exact show (∃n,I n a' w')∧leastOf (fun n=>I n a' w') < leastOf (fun n=>I n a w) from ⟨⟨n',hI'⟩,Nat.lt_of_le_of_lt ((leastOf_spec ⟨n',hI'⟩).2 n' hI') hlt⟩
 |exit id=>exact hq
 |goto l=>exact hq
 |ret=>exact hq
 |panic ch=>exact hq
 |outgrown=>exact hq
structure FrmN (n:Nat) (G₀:Gh) (w₀:World) (G:Gh) (w:World):Prop where
 os:w.os=w₀.os
 tape:w.tape=w₀.tape
 output:w.output=w₀.output
 size:w₀.heap.size≤w.heap.size
 K:∀b o u,G₀.K b o=some u→G.K b o=some u
 μ:∀b k,b< n→G₀.μ b=some k→G.μ b=some k
 σ:∀b k,b< n→G₀.σ b=some k→G.σ b=some k
 old:∀g,g< w₀.heap.size→G₀.T g=none→(∀b,G₀.μ b≠some g)→
  w.heap[g]? =w₀.heap[g]? ∧G.T g=none∧(∀b,G.μ b≠some g)∧∀o,G.K g o=G₀.K g o
theorem FrmN.of {n:Nat}{A B:Gh}{a b:World}(h:Frm A a B b):FrmN n A a B b:=⟨h.os,h.tape,h.output,h.size,h.le.K,fun b k _ x=>h.le.μ b k x,fun b k _ x=>h.le.σ b k x,h.old⟩
theorem FrmN.refl (n:Nat)(G:Gh)(w:World):FrmN n G w G w:= .of (Frm.refl G w)
theorem FrmN.trans {n:Nat}{A B D:Gh}{a b d:World}(h:FrmN n A a B b)(k:FrmN n B b D d):FrmN n A a D d:=
 ⟨k.os.trans h.os,k.tape.trans h.tape,k.output.trans h.output,Nat.le_trans h.size k.size,fun b o u x=>k.K b o u (h.K b o u x),fun b o hb x=>k.μ b o hb (h.μ b o hb x),fun b o hb x=>k.σ b o hb (h.σ b o hb x),fun g hg ht hm=>by
   obtain ⟨a1,a2,a3,a4⟩:=h.old g hg ht hm;obtain ⟨b1,b2,b3,b4⟩:=k.old g (Nat.lt_of_lt_of_le hg h.size) a2 a3;exact ⟨b1.trans a1,b2,b3,fun o=>(b4 o).trans (a4 o)⟩⟩
def DefN (w:World)(a a':Act):Prop:= ∃ds,a'.defers=ds++a.defers∧∀d∈ds,∀D,d.target= .collected D→w.heap.size≤D
structure FrmA (n:Nat) (G:Gh) (w:World) (a:Act) (G':Gh) (w':World) (a':Act):Prop where
 fr:FrmN n G w G' w'
 df:DefN w a a'
theorem FrmA.of {n:Nat}{G G':Gh}{w w':World}{a a':Act}(h:Frm G w G' w')(e:a'.defers=a.defers):FrmA n G w a G' w' a':=⟨.of h,[],by rw[e];rfl,fun _ h=>by cases h⟩
theorem FrmA.refl (n:Nat)(G:Gh)(w:World)(a:Act):FrmA n G w a G w a:= .of (Frm.refl G w) rfl
theorem FrmA.trans {n:Nat}{A B D:Gh}{a b d:World}{x y z:Act}(h:FrmA n A a x B b y)(k:FrmA n B b y D d z):FrmA n A a x D d z:=⟨h.fr.trans k.fr,by
 obtain ⟨ds,e,h1⟩:=h.df;obtain ⟨es,e2,h2⟩:=k.df;refine ⟨es++ds,by rw[e2,e,List.append_assoc],fun q hq D hD=>?_⟩;rcases List.mem_append.1 hq with hq|hq
 . exact Nat.le_trans h.fr.size (h2 q hq D hD)
 . exact h1 q hq D hD⟩
theorem FrmN.transA {n:Nat}{A B D:Gh}{b d:World}{x z:Act}(h:FrmN n A b B b)(k:FrmA n B b x D d z):FrmA n A b x D d z:=⟨h.trans k.fr,k.df⟩
def kS:Ex→Exit
 | .normal=> .normal
 | .exit id=> .exit id
 | .ret=> .ret
def oS (K:St→Prop)(Q:Ex→St→Prop):Ex→St→Prop
 | .normal,s=>K s
 |x,s=>Q x s
def sR (id:Nat)(Q:Ex→St→Prop):Ex→St→Prop
 | .exit k,s=>if k=id then Q .normal s else Q (.exit k) s
 |x,s=>Q x s
def Tr (cx:Cx)(n:Nat)(c:Code)(st:St)(Q:Ex→St→Prop):Prop:=
 ∀ (r:Option Nat),(cx.top=true→r=none)→∀ (G:Gh)(w:World)(a:Act),Sim cx G w st a→∀ (R:Exit→Act→World→Prop),
   (∀x st' G' w' a',Q x st'→Sim cx G' w' st' a'→FrmA n G w a G' w' a'→R (kS x) a' w')→c.wpIn (wF r) 0 cx.P R a w
section
variable {cx:Cx} {n:Nat} {st:St} {Q:Ex→St→Prop}
theorem Tr.mono {c:Code}{Q':Ex→St→Prop}(h:Tr cx n c st Q)(hq:∀x s,Q x s→Q' x s):Tr cx n c st Q':=
 fun r hr G w a H R hR=>h r hr G w a H R fun x s G' w' a' q=>hR x s G' w' a' (hq x s q)
theorem Tr.skip (h:Q .normal st):Tr cx n .skip st Q:=fun r hr G w a H R hR=>wpIn_skip (hR .normal st G w a h H (.refl n G w a))
theorem Tr.label {l:Nat}(h:Q .normal st):Tr cx n (.label l) st Q:=fun r hr G w a H R hR=>wpIn_label (hR .normal st G w a h H (.refl n G w a))
theorem Tr.exit {id:Nat}(h:Q (.exit id) st):Tr cx n (.exit id) st Q:=fun r hr G w a H R hR=>wpIn_exit (hR (.exit id) st G w a h H (.refl n G w a))
theorem Tr.ret (h:Q .ret st):Tr cx n .ret st Q:=fun r hr G w a H R hR=>wpIn_ret (hR .ret st G w a h H (.refl n G w a))
theorem Tr.seq {a b:Code}(h:Tr cx n a st (oS (fun s=>Tr cx n b s Q) Q)):Tr cx n (.seq a b) st Q:=fun r hr G w ac H R hR=>
 wpIn_seq (h r hr G w ac H _ fun x s G' w' a' q S F=>by
  cases x with
  |normal=>exact q r hr G' w' a' S R fun x2 s2 G2 w2 a2 q2 S2 F2=>hR x2 s2 G2 w2 a2 q2 S2 (F.trans F2)
  |exit id=>exact hR (.exit id) s G' w' a' q S F
  |ret=>exact hR .ret s G' w' a' q S F)
theorem Tr.cond {c:Operand}{x y:Code}{b:Bool}(hc:cx.ev st.env c= .val (.bool b))(h:Tr cx n (if b then x else y) st Q):Tr cx n (.cond c x y) st Q:=fun r hr G w a H R hR=>by
 have hv:=H.pre.ev c;rw[hc,aj] at hv;refine wpIn_cond (t:=b) hv ?_;cases b
 . exact h r hr G w a H R hR
 . exact h r hr G w a H R hR
theorem vX {c:Operand}{x y:Code}{b:Bool}(hc:cx.ev st.env c= .val (.bool b))(ht:b=true→Tr cx n x st Q)(hf:b=false→Tr cx n y st Q):Tr cx n (.cond c x y) st Q:=by
 cases b
 . exact Tr.cond hc (hf rfl)
 . exact Tr.cond hc (ht rfl)
theorem Tr.block {id:Nat}{c:Code}(h:Tr cx n c st (sR id Q)):Tr cx n (.block id c) st Q:=fun r hr G w a H R hR=>
 wpIn_block (h r hr G w a H _ fun x s G' w' a' q S F=>by
  cases x with
  |normal=>exact hR .normal s G' w' a' q S F
  |ret=>exact hR .ret s G' w' a' q S F
  |exit k=>
   simp only[kS,Exit.inBlock,sR] at q ⊢;split at q
   . rename_i e;rw[if_pos e];exact hR .normal s G' w' a' q S F
   . rename_i e;rw[if_neg e];exact hR (.exit k) s G' w' a' q S F)
theorem Tr.scope {c:Code}(h:Tr cx n c st Q):Tr cx n (.scope c) st Q:=fun r hr G w a H R hR=>
 pI (h r hr G w a H _ fun x s G' w' a' q S F=>by
  cases x with
  |normal=>exact hR .normal s G' w' a' q S F
  |ret=>exact hR .ret s G' w' a' q S F
  |exit k=>exact hR (.exit k) s G' w' a' q S F)
theorem Tr.loop {c:Code}(Inv:Nat→St→Prop)(m:Nat)(h0:Inv m st)(h:∀m s,Inv m s→Tr cx n c s (oS (fun s'=> ∃k,k< m∧Inv k s') Q)):Tr cx n (.loop c) st Q:=fun r hr G w a H R hR=>by
 refine mU (fun m a' w'=> ∃s G',Inv m s∧Sim cx G' w' s a'∧FrmA n G w a G' w' a') m ⟨st,G,h0,H,.refl n G w a⟩ ?_;rintro m a' w' ⟨s,G',hi,S,F⟩;refine h m s hi r hr G' w' a' S _ fun x s2 G2 w2 a2 q S2 F2=>?_
 cases x with
 |normal=>
  obtain ⟨k,hk,hik⟩:=q;exact ⟨k,hk,s2,G2,hik,S2,F.trans F2⟩
 |exit id=>exact hR (.exit id) s2 G2 w2 a2 q S2 (F.trans F2)
 |ret=>exact hR .ret s2 G2 w2 a2 q S2 (F.trans F2)
theorem Tr.region (hcx:CxOK cx){id:Nat}{ops:Array Oper}{st':St}(h:qK cx ops st=some st')(hQ:Q .normal st'):Tr cx n (.region id ops false) st Q:=fun r hr _ _ _ H _ hR=>
 CX hcx H h fun G' w' a' S F e=>hR .normal st' G' w' a' hQ S (.of F e)
theorem Ba (hcx:CxOK cx)(hm:cx.P.follows .mixedOrders=true){id:Nat}{ops:Array Oper}{st':St}(hs:d5 ops=true)(h:ma cx ops st=some st')(hQ:Q .normal st'):
 Tr cx n (.region id ops true) st Q:=fun r hr _ _ _ H _ hR=>
 ur hcx hm H hs h fun G' w' a' S F e=>hR .normal st' G' w' a' hQ S (.of F e)
def CLe (c c':C):Prop:=(∀G v,Rep G c v→Rep G c' v)∧∀s n xs,c'= .sl (.own s) n xs→c=c'∨∀G v,Rep G c v→∃a,v= .slice a n n
theorem CLe.refl (c:C):CLe c c:=⟨fun _ _ h=>h,fun _ _ _ _=> .inl rfl⟩
theorem CLe.top (c:C):CLe c .top:=⟨fun _ _ _=>by simp[Rep],fun _ _ _ e=>by cases e⟩
theorem CLe.nil (r:Rt):CLe (.val (.slice none 0 0)) (.sl r 0 []):=
 ⟨fun G v h=>by rw[aj] at h;simp only[Rep];exact ⟨none,0,h,Nat.le_refl _,Nat.zero_le _,fun _=>rfl,by simp⟩,fun s n xs e=>by cases e;exact .inr fun G v h=>⟨none,aj.1 h⟩⟩
theorem CLe.full (r:Rt)(n:Nat)(xs:List C):CLe (.sl .full n xs) (.sl r n xs):=
 ⟨fun G v h=>by simp only[Rep] at h ⊢;obtain ⟨a,cap,h1,h2,h3,h4,h5⟩:=h;exact ⟨a,cap,h1,h2,h3,fun _=>h4 trivial,h5⟩,fun s n' xs' e=>by
   cases e;exact .inr fun G v h=>by
    simp only[Rep] at h;obtain ⟨a,cap,h1,_,_,h4,_⟩:=h;exact ⟨a,by rw[h1,h4 trivial]⟩⟩
theorem CLe.noR (c:C):CLe c c.noR:=⟨fun _ _ h=>h.noR,fun _ _ _ e=>(gR e).elim⟩
theorem Tr.weaken {c:Code}{env':Nat→C}(h:∀t,CLe (st.env t) (env' t))(k:Tr cx n c ⟨env',st.h⟩ Q):Tr cx n c st Q:=fun r hr G w a H R hR=>
 k r hr G w a ⟨H.defers,H.size,H.pre.ok,⟨fun t=>(h t).1 G _ (H.pre.env.1 t),fun t s m xs e=>by
   rcases (h t).2 s m xs e with e'|e'
   . exact H.pre.env.2 t s m xs (e'.trans e)
   . obtain ⟨ad,hv⟩:=e' G _ (H.pre.env.1 t)
     rw[hv];exact .inl ⟨ad,rfl⟩⟩,H.pre.glob⟩ R hR
theorem OwnRow.cut {G:Gh}{w:World}{p:bB}{v:Value}{s m:Nat}(k:Nat)(O:OwnRow G w p v s m):OwnRow (bI G k) w p v s m:=by
 rcases O with O| ⟨g,cap,cur,e,a1,a2,a3,a4,a5,a6⟩
 . exact .inl O
 . refine .inr ⟨g,cap,cur,e,a1,a2,a3,a4,a5,fun b hb=>?_⟩
   simp only[bI] at hb;split at hb
   . exact a6 b hb
   . cases hb
theorem oT {h:Hp}{k b:Nat}:Hp.at (h.take k) b=if b< k then h.at b else none:=by
 unfold Hp.at;rw[List.getElem?_take];split<;>rfl
theorem sS {h:Hp}{k b:Nat}:Hp.mp (h.take k) b=if b< k then h.mp b else none:=by
 unfold Hp.mp;rw[List.getElem?_take];split<;>rfl
theorem sT {G:Gh}{k:Nat}:∀ (l:List C)(es:List MapEntry),noRefs k l=true→MRep G l es→MRep (bI G k) l es
 | [],_,_,r=>by simpa[MRep] using r
 | [_],_,_,r=>by simp[MRep] at r
 |c::d::l,es,hn,r=>by
  simp only[MRep] at r ⊢;simp only[noRefs,Bool.and_eq_true] at hn;obtain ⟨e,es',h1,h2,h3,h4⟩:=r;exact ⟨e,es',h1,dJ c _ hn.1 h2,dJ d _ hn.2.1 h3,sT l es' hn.2.2 h4⟩
theorem Bb {k:Nat}{o:Option (List C)}{l:List C}(h:eK o=some l)(hn:∀cells,o=some cells→noRefs k cells=true):noRefs k l=true:=by
 unfold eK at h;split at h
 . cases h
   have:=hn _ rfl;simp only[noRefs,ae,Bool.and_eq_true] at this;exact this.1.2
 . cases h
theorem WorldOK.cut {G:Gh}{h:Hp}{w:World}(H:WorldOK G h w)(k:Nat)(hb:∀ (b:Nat) cells,b< k→h[b]? =some (some cells)→noRefs k cells=true):WorldOK (bI G k) (h.take k) w:=by
 refine ⟨H.known,fun b cells hc=>?_,fun b blk hm=>?_,fun b b' c c' blk ha ha' h1 h2=>?_,fun b blk hm=>?_,H.tlt,fun b cells off s m xs blk v hc hx hm hv=>?_,fun b z hz=>?_,fun b l hb'=>?_,fun b b' l l' blk x x' y y'=>?_⟩
 . rw[oT] at hc
   split at hc
   . rename_i hbk
     rcases H.box b cells hc with ⟨hE,hE2⟩ | ⟨blk,cs,e,q1,q2,q0,q3,q4⟩
     . exact .inl ⟨hE,by simp only[bI];rw[if_pos hbk];exact hE2⟩
     . exact .inr ⟨blk,cs,e,by simp only[bI];rw[if_pos hbk];exact q1,q2,q0,noRef_repL cells _ (hb b cells hbk (fB hc)) q3,q4⟩
   . cases hc
 . simp only[bI] at hm
   split at hm
   . rename_i hbk
     obtain ⟨⟨c,hc⟩,hl⟩:=H.dom b blk hm;exact ⟨⟨c,by rw[List.getElem?_take,if_pos hbk];exact hc⟩,hl⟩
   . cases hm
 . simp only[bI] at h1 h2
   rw[oT] at ha ha';split at h1
   . rename_i hb1
     split at h2
     . rename_i hb2
       rw[if_pos hb1] at ha;rw[if_pos hb2] at ha';exact H.inj b b' c c' blk ha ha' h1 h2
     . cases h2
   . cases h1
 . simp only[bI] at hm
   split at hm
   . exact H.sep b blk hm
   . cases hm
 . rw[oT] at hc
   simp only[bI] at hm;split at hc
   . rename_i hbk
     rw[if_pos hbk] at hm;exact (H.own b cells off s m xs blk v hc hx hm hv).cut k
   . cases hc
 . simp only[bI] at hz ⊢
   split at hz
   . rename_i hbk
     obtain ⟨blk,cs,e,fr,q1,q2,q3⟩:=H.siz b z hz;exact ⟨blk,cs,e,fr,by rw[if_pos hbk];exact q1,q2,q3⟩
   . cases hz
 . rw[sS] at hb'
   split at hb'
   . rename_i hbk
     obtain ⟨blk,es,clk,q1,q2,q3⟩:=H.mpo b l hb';refine ⟨blk,es,clk,by simp only[bI];rw[if_pos hbk];exact q1,q2,sT l _ ?_ q3⟩;unfold Hp.mp at hb'
     cases hq:h[b]? with
     |none=>rw[hq] at hb';cases hb'
     |some o=>
      rw[hq] at hb';exact Bb (o:=o) hb' fun cells hc=>hb b cells hbk (by rw[hq,hc])
   . cases hb'
 . rw[sS] at x x'
   simp only[bI] at y y';split at x
   . rename_i n1
     split at x'
     . rename_i n2
       rw[if_pos n1] at y;rw[if_pos n2] at y';exact H.mpi b b' l l' blk x x' y y'
     . cases x'
   . cases x
theorem rO {G:Gh}{w:World}{k:Nat}(hk:n≤k):FrmN n G w (bI G k) w:=
 ⟨rfl,rfl,rfl,Nat.le_refl _,fun _ _ _ x=>x,fun b o hb x=>by simp only[bI];rw[if_pos (by omega)];exact x,fun b o hb x=>by simp only[bI];rw[if_pos (by omega)];exact x,fun g _ ht hm=>⟨rfl,ht,(fun b hb=>by
   simp only[bI] at hb;split at hb
   . exact hm b hb
   . cases hb),fun _=>rfl⟩⟩
end
def KC (body:St→Option (Ex×St)):Nat→St→Option (Ex×St)
 |0,_=>none
 |n+1,st=>match body st with
  |some (.normal,st') =>KC body n st'
  |r=>r
def oU (cx:Cx)(n:Nat):Code→St→Option (Ex×St)
 | .skip,st=>some (.normal,st)
 | .label _,st=>some (.normal,st)
 | .region _ ops draw,st=>if draw then (if d5 ops=true then (ma cx ops st).map fun s=>(.normal,s) else none) else (qK cx ops st).map fun s=>(.normal,s)
 | .seq a b,st=>match oU cx n a st with
   |some (.normal,st') =>oU cx n b st'
   |r=>r
 | .cond c a b,st=>match cx.ev st.env c with
   | .val (.bool true) =>oU cx n a st
   | .val (.bool false) =>oU cx n b st
   |_=>none
 | .block id c,st=>match oU cx n c st with
   |some (.exit k,st') =>if k=id then some (.normal,st') else some (.exit k,st')
   |r=>r
 | .scope c,st=>oU cx n c st
 | .loop c,st=>KC (oU cx n c) n st
 | .exit id,st=>some (.exit id,st)
 | .ret,st=>some (.ret,st)
 |_,_=>none
section
variable {cx:Cx} {n:Nat} {st:St} {Q:Ex→St→Prop} {G:Gh} {w:World} {a:Act}
theorem zo (H:Sim cx G w st a){r:ResultVar}{c:C}(h:el cx st r=some c):
 ∃v,(match r with| .tmp t=>pure (a.tmps.getD t undef) | .cell p t=>do loadVar t (←asAddr (a.tmps.getD p undef)):Sem Value).run cx.P w= .ok v w∧Rep G c v∧
  (∀s m xs,c= .sl (.own s) m xs→∃t,r= .tmp t∧OwnRow G w (0,t,0) v s m):=by
 unfold el at h
 cases r with
 |tmp t=>
  simp only[Option.some.injEq] at h;subst h;exact ⟨a.tmps.getD t undef,rfl,H.pre.env.1 t,fun s m xs e=>⟨t,rfl,H.pre.env.2 t s m xs e⟩⟩
 |cell p t=>
  simp only[] at h;split at h
  . rename_i d b off hd he
    cases hb:st.h.at b with
    |none=>rw[hb] at h;cases h
    |some cells=>
     rw[hb] at h;simp only[Option.bind_some] at h;have hr:=H.pre.env.1 p;rw[he] at hr;simp only[Rep] at hr;obtain ⟨blk,hμ,hv⟩:=hr;obtain ⟨cs,e,q1,q2,q3,q4,q5,q6⟩:=jA H.pre.ok hb hμ;obtain ⟨v,hv1,hv2,hv3⟩:=oK (P:=cx.P) (w:=w) (blk:=blk) (o0:=0) hd q2 (fun u hu=>q3 u (List.mem_of_mem_take hu)) (fun j u hu=>by rw[Nat.zero_add];exact q4 j u hu) h;rw[Nat.zero_add] at hv1;refine ⟨v,?_,hv2,fun s m xs e=>by rw[e] at hv3;exact hv3.elim⟩;have hv':a.tmps.getD p undef= .pointer (some ⟨blk,off,none⟩):=hv;simp only[Sem.run_bind,hv',asAddr,Sem.run_pure,Result.andThen_ok];simpa[Instr.loadAt,Instr.sureAddr] using hv1
  . cases h
theorem zp (H:Sim cx G w st a):∀ (rs:List ResultVar){cs:List C},rs.mapM (el cx st) =some cs→
 ∃vs:List Value,(rs.mapM (fun r=>(match r with| .tmp t=>pure (a.tmps.getD t undef) | .cell p t=>do loadVar t (←asAddr (a.tmps.getD p undef)):Sem Value))).run cx.P w= .ok vs w∧RepL G cs vs
 | [],cs,h=>by
   simp at h;subst h;exact ⟨[],by simp,by simp[RepL]⟩
 |r::rs,cs,h=>by
  simp only[List.mapM_cons,Option.bind_eq_bind,Option.pure_def] at h
  cases hr:el cx st r with
  |none=>simp[hr] at h
  |some c=>
   cases hrs:rs.mapM (el cx st) with
   |none=>simp[hr,hrs] at h
   |some cs'=>
    simp[hr,hrs] at h
    subst h;obtain ⟨v,h1,h2,_⟩:=zo H hr;obtain ⟨vs,h3,h4⟩:=zp H rs hrs;refine ⟨v::vs,?_,by simp only[RepL];exact ⟨v,vs,rfl,h2,h4⟩⟩;simp only[List.mapM_cons,Sem.run_bind,h1,Result.andThen_ok,h3,Sem.run_pure]
theorem sU (H:Sim cx G w st a){fn:Func}{c:C}(h:results cx fn st=some c):
 ∃v G',(Go.results fn a.tmps).run cx.P w= .ok v w∧Rep G' c v∧(∀s m xs,c= .sl (.own s) m xs→OwnRow G' w (2,0,0) v s m)∧WorldOK G' st.h w∧FrmN n G w G' w∧(∀c' v',Rep G c' v'→Rep G' c' v')∧G'.μ=G.μ:=by
 unfold results at h;unfold Go.results;have hl: (fn.results.mapM (fun r=>(match r with| .tmp t=>pure (a.tmps.getD t undef) | .cell p t=>do loadVar t (←asAddr (a.tmps.getD p undef)):Sem Value))).run cx.P w=
  ((fn.results.toList.mapM (fun r=>(match r with| .tmp t=>pure (a.tmps.getD t undef) | .cell p t=>do loadVar t (←asAddr (a.tmps.getD p undef)):Sem Value))).run cx.P w).andThen fun vs w'=> .ok vs.toArray w':=by
  rw[Array.mapM_eq_mapM_toList,Sem.run_map]
 split at h
 . rename_i r hrs
   obtain ⟨v,h1,h2,h3⟩:=zo H h;have hrun: (fn.results.mapM (fun r=>(match r with| .tmp t=>pure (a.tmps.getD t undef) | .cell p t=>do loadVar t (←asAddr (a.tmps.getD p undef)):Sem Value))).run cx.P w= .ok #[v] w→
    ((do let vs ←fn.results.mapM (fun r=>(match r with| .tmp t=>pure (a.tmps.getD t undef) | .cell p t=>do loadVar t (←asAddr (a.tmps.getD p undef)):Sem Value));pure (if h:vs.size=1 then vs[0] else .tuple vs)):Sem Value).run cx.P w= .ok v w:=fun hq=>by
    simp only[Sem.run_bind,hq,Result.andThen_ok,Sem.run_pure];rfl
   have hone:=hrun (by rw[hl,hrs];simp only[List.mapM_cons,List.mapM_nil,Sem.run_bind,h1,Result.andThen_ok,Sem.run_pure]);by_cases hno:c.noOwn
   . exact ⟨v,G,hone,h2,fun s m xs e=>by rw[e] at hno;exact hno.elim,H.pre.ok,FrmN.refl n G w,fun _ _ x=>x,rfl⟩
   . obtain ⟨s,m,xs,hs⟩:∃s m xs,c= .sl (.own s) m xs:=by
      cases c with
      |sl r m xs=>cases r with
       |own s=>exact ⟨_,_,_,rfl⟩
       |no=>exact absurd trivial hno
       |full=>exact absurd trivial hno
      |_=>exact absurd trivial hno
     obtain ⟨t,rfl,O⟩:=h3 s m xs hs;rcases O with O| ⟨g,cap,cur,e,a1,a2,a3,a4,a5,a6⟩
     . exact ⟨v,G,hone,h2,fun s' m' xs' e=>by rw[hs] at e;cases e;exact .inl O,H.pre.ok,FrmN.refl n G w,fun _ _ x=>x,rfl⟩
     . have le:G.Le (co G g (some (2,0,0))):=⟨fun _ _ _ x=>x,fun _ _ x=>x,fun _ _ x=>x⟩
       refine ⟨v,co G g (some (2,0,0)),hone,h2.mono le,fun s' m' xs' e'=>?_,xz H.pre.ok a2,.of (qb a2),fun c' v' x=>x.mono le,rfl⟩;rw[hs] at e';cases e';exact .inr ⟨g,cap,cur,e,a1,by simp[co],a3,a4,a5,a6⟩
 . rename_i rs hrs
   cases hm:fn.results.toList.mapM (el cx st) with
   |none=>rw[hm] at h;cases h
   |some cs=>
    rw[hm] at h;simp only[Option.map_some,Option.some.injEq] at h;subst h;obtain ⟨vs,h1,h2⟩:=zp H _ hm;refine ⟨.tuple vs.toArray,G,?_,?_,(fun s m xs e=>by cases e),H.pre.ok,FrmN.refl n G w,fun _ _ x=>x,rfl⟩
    . have:=hl
      rw[h1] at this;simp only[Result.andThen_ok] at this;have hlen:vs.length≠1:=by
       intro e;have h3:=h2.length;have h4:cs.length=fn.results.toList.length:=by
        have key:∀ (l:List ResultVar)(ds:List C),l.mapM (el cx st) =some ds→ds.length=l.length:=by
         intro l
         induction l with
         |nil=>intro ds hd;simp at hd;subst hd;rfl
         |cons r l ih=>
          intro ds hd;simp only[List.mapM_cons,Option.bind_eq_bind,Option.pure_def] at hd
          cases hr:el cx st r with
          |none=>simp[hr] at hd
          |some c=>
           cases hrs:l.mapM (el cx st) with
           |none=>simp[hr,hrs] at hd
           |some ds'=>simp[hr,hrs] at hd;subst hd;simp[ih ds' hrs]
        exact key _ _ hm
       have h5:fn.results.toList.length=1:=by omega
       obtain ⟨r,hr⟩:=List.length_eq_one_iff.1 h5;exact hrs r hr
      have hrun: ((do let vs ←fn.results.mapM (fun r=>(match r with| .tmp t=>pure (a.tmps.getD t undef) | .cell p t=>do loadVar t (←asAddr (a.tmps.getD p undef)):Sem Value));pure (if h:vs.size=1 then vs[0] else .tuple vs)):Sem Value).run cx.P w= .ok (.tuple vs.toArray) w:=by
       simp only[Sem.run_bind,this,Result.andThen_ok,Sem.run_pure];rw[dif_neg (by simpa using hlen)]
      exact hrun
    . simp only[Rep]
      exact ⟨_,rfl,by simpa using h2.map_noR⟩
def Bk (o:Obj):Prop:=(∃ds,o= .deferred ds)∨∃r,o= .loop r
structure Shut (m:Nat) (G:Gh) (w w2:World):Prop where
 os:w2.os=w.os
 tape:w2.tape=w.tape
 output:w2.output=w.output
 size:w2.heap.size=w.heap.size
 heap:∀g,w2.heap[g]? =w.heap[g]? ∨(m≤g∧(∃o,w.heap[g]? =some o∧Bk o)∧G.T g=none∧∀b,G.μ b≠some g)
theorem Shut.refl (m:Nat)(G:Gh)(w:World):Shut m G w w:=⟨rfl,rfl,rfl,rfl,fun _=> .inl rfl⟩
section
variable {m:Nat} {G:Gh} {w w2:World} (S:Shut m G w w2)
include S
theorem Shut.kept {g:Nat}{o:Obj}(h:w.heap[g]? =some o)(hd:¬Bk o):w2.heap[g]? =some o:=by
 rcases S.heap g with e| ⟨_,⟨o',e,hb⟩,_⟩
 . exact e.trans h
 . rw[h] at e;cases e;exact absurd hb hd
theorem Shut.mu {b g:Nat}(h:G.μ b=some g):w2.heap[g]? =w.heap[g]? :=by
 rcases S.heap g with e| ⟨_,_,_,e⟩
 . exact e
 . exact absurd h (e b)
theorem Shut.cell {p:Addr}{u:Value}(h:w.cell? p=some u):w2.cell? p=some u:=by
 unfold World.cell? at h ⊢
 cases ho:w.heap[p.block]? with
 |none=>rw[ho] at h;cases h
 |some o=>
  rw[ho] at h;rw[S.kept ho (fun e=>by rcases e with ⟨ds,e⟩ | ⟨r,e⟩ <;> (rw[e] at h;cases h))];exact h
theorem Shut.row {p:bB}{v:Value}{s n:Nat}(O:OwnRow G w p v s n):OwnRow G w2 p v s n:=by
 rcases O with O| ⟨g,cap,cur,e,a1,a2,a3,a4⟩
 . exact .inl O
 . exact .inr ⟨g,cap,cur,e,a1,a2,S.kept a3 (fun e=>by rcases e with ⟨ds,e⟩ | ⟨r,e⟩ <;>cases e),a4⟩
theorem Shut.ok {h:Hp}(W:WorldOK G h w):WorldOK G h w2:=by
 refine ⟨fun b o u hu=>S.cell (W.known b o u hu),fun b cells hb=>?_,fun b blk hb=>⟨(W.dom b blk hb).1,by rw[S.size];exact (W.dom b blk hb).2⟩,W.inj,W.sep,fun g p hg=>by rw[S.size];exact W.tlt g p hg,fun b cells off s n xs blk v hb hc hm hv=>?_,fun b z hz=>?_,fun b l hb=>?_,W.mpi⟩
 . rcases W.box b cells hb with q| ⟨blk,cs,e,h1,h2,h3⟩
   . exact .inl q
   . exact .inr ⟨blk,cs,e,h1,by rw[S.mu h1];exact h2,h3⟩
 . refine S.row (W.own b cells off s n xs blk v hb hc hm ?_)
   unfold World.cell? at hv ⊢;rw[S.mu hm] at hv;exact hv
 . obtain ⟨blk,cs,e,fr,h1,h2,h3⟩:=W.siz b z hz
   exact ⟨blk,cs,e,fr,h1,by rw[S.mu h1];exact h2,h3⟩
 . obtain ⟨blk,es,clk,h1,h2,h3⟩:=W.mpo b l hb
   exact ⟨blk,es,clk,h1,by rw[S.mu h1];exact h2,h3⟩
theorem Shut.sim {st:St}{a:Act}(H:Sim cx G w st a):Sim cx G w2 st { a with defers:=[] }:=
 ⟨Mks.nil,H.size,S.ok H.pre.ok,⟨H.pre.env.1,fun t s n xs e=>S.row (H.pre.env.2 t s n xs e)⟩,H.pre.glob⟩
theorem Shut.frm {n:Nat}{G0:Gh}{w0:World}(hm:m=w0.heap.size)(F:FrmN n G0 w0 G w):FrmN n G0 w0 G w2:=
 ⟨S.os.trans F.os,S.tape.trans F.tape,S.output.trans F.output,by rw[S.size];exact F.size,F.K,F.μ,F.σ,fun g hg ht hmu=>by
   obtain ⟨a1,a2⟩:=F.old g hg ht hmu;refine ⟨?_,a2⟩;rcases S.heap g with e| ⟨e,_⟩
   . exact e.trans a1
   . omega⟩
end
theorem mb {P:Program}{fn:Func}{tmps:Array Value}{R:Ending→World→Prop}{m:Nat}{G:Gh}{w:World}:∀ (ds:List Deferred){w1:World},Shut m G w w1→Mks G w1 ds→(∀d∈ds,∀D,d.target= .collected D→m≤D)→
 (∀w2,Shut m G w w2→∃v,(Go.results fn tmps).run P w2= .ok v w2∧R (.returned v) w2)→LeavesInM Fence.wide 0 P fn tmps R ds .returning w1
 | [],w1,S,_,_,h=>h w1 S
 |d::ds,w1,S,M,hm,h=>by
  obtain ⟨D,e,h1,h2,h3⟩:=M.2 d (List.mem_cons_self ..);have hD:m≤D:=hm d (List.mem_cons_self ..) D (by rw[e]);have hlt:D< w1.heap.size:=(Array.getElem?_eq_some_iff.1 h1).1;refine ⟨(fun e=>by cases e),.inl ⟨D,_,by rw[e],run_takeDeferred h1,mb ds ?_ ?_ (fun d' hd'=>hm d' (List.mem_cons_of_mem _ hd')) h⟩⟩
  . refine ⟨S.os,S.tape,S.output,by rw[World.putObj_size];exact S.size,fun g=>?_⟩
    by_cases hg:g=D
    . subst hg
      refine .inr ⟨hD,?_,h2,h3⟩;rcases S.heap g with q| ⟨_,q,_⟩
      . exact ⟨_,q.symm.trans h1,.inl ⟨_,rfl⟩⟩
      . exact q
    . rw[World.putObj_heap_other hg];exact S.heap g
  . obtain ⟨n1,n2⟩:=List.nodup_cons.1 M.1
    refine ⟨n2,fun d' hd'=>?_⟩;obtain ⟨D',e',k1,k2⟩:=M.2 d' (List.mem_cons_of_mem _ hd');refine ⟨D',e',?_,k2⟩;rw[World.putObj_heap_other (fun q=>n1 (by rw[e,←q,←e'];exact hd'))];exact k1
def QQ (cx:Cx)(fn:Func)(k:Nat)(c:C)(h':Hp):Ex→St→Prop
 | .exit _,_=>False
 |_,st'=>results cx fn st'=some c∧((st'.h.take k=h'∧ae k c=true∧∀ (b:Nat) cells,b< k→st'.h[b]? =some (some cells)→noRefs k cells=true)∨st'.h=h')
theorem G5 {f:Nat} {fn:Func} {code:Code} {args:List C} {h h':Hp} {c:C} (hf:cx.P.funcs[f]? =some fn) (hn: (fn.name== "runtime.NumGoroutine") =false) (hb:fn.body=some code)
 (hlen:args.length≤fn.ntmps) (hT:Tr { cx with N:=fn.ntmps } h.length code ⟨init args,h⟩ (QQ cx fn h.length c h')):FC cx.P cx.gl f args h c h':=by
 refine ⟨⟨fn,hf,hn,by rw[hb];rfl⟩,fun G w vs W hTg hgl hr=>?_⟩;have hvl:vs.size=args.length:=by rw[hr.length];simp
 refine callsIn_wide.1 (callsIn_of_wp_marks (F:=Fence.wide) (n:=0) hf hb trivial ?_);have hsim:Sim { cx with N:=fn.ntmps } G w ⟨init args,h⟩ { tmps:=vs++Array.replicate (fn.ntmps - vs.size) undef,defers:=[] }:=by
  refine ⟨Mks.nil,by simp;omega,W,⟨fun t=>?_,fun t s m xs e=>(gR e).elim⟩,hgl⟩;simp only[init,av,Array.getD_eq_getD_getElem?];refine Rep.noR ?_
  cases hq:args[t]? with
  |some x=>
   obtain ⟨v,hv,hrv⟩:=hr.get t x hq;have hlt:t< vs.size:=by
    have:=(List.getElem?_eq_some_iff.1 hv).1;simpa using this
   rw[Array.getElem?_append_left hlt];have hv':vs[t]? =some v:=by simpa using hv
   rw[hv'];exact hrv
  |none=>
   have hge:vs.size≤t:=by
    have:=List.getElem?_eq_none_iff.1 hq;omega
   rw[Array.getElem?_append_right hge];simp only[Option.getD_none];rw[aj]
   cases hq2: (Array.replicate (fn.ntmps - vs.size) undef)[t - vs.size]? with
   |none=>rfl
   |some u=>
    rw[Array.getElem?_replicate] at hq2;split at hq2
    . cases hq2;rfl
    . cases hq2
 have fin:∀ (st':St)(G':Gh)(w':World)(a':Act),(results cx fn st'=some c∧((st'.h.take h.length=h'∧ae h.length c=true∧∀ (b:Nat) cells,b< h.length→st'.h[b]? =some (some cells)→noRefs h.length cells=true)∨st'.h=h'))→
  Sim { cx with N:=fn.ntmps } G' w' st' a'→FrmN h.length G w G' w'→
  ∃v,(Go.results fn a'.tmps).run cx.P w'= .ok v w'∧∃v' G',Ending.returned v= .returned v'∧Rep G' c v'∧(∀s n xs,c= .sl (.own s) n xs→OwnRow G' w' (2,0,0) v' s n)∧WorldOK G' h' w'∧Frm G w G' w':=by
  rintro st' G' w' a' ⟨hres,hend⟩ S F;obtain ⟨v,G2,r1,r2,r3,r4,r5,r6,r7⟩:=sU (cx:= { cx with N:=fn.ntmps }) (n:=h.length) S (fn:=fn) (c:=c) hres;have F2:=F.trans r5;have full:∀G3,FrmN h.length G w G3 w'→Frm G w G3 w':=fun G3 F3=>
   ⟨F3.os,F3.tape,F3.output,F3.size,⟨F3.K,fun b k hm=>F3.μ b k (by
     obtain ⟨⟨cells,hc⟩,_⟩:=W.dom b k hm;exact (List.getElem?_eq_some_iff.1 hc).1) hm,fun b z hz=>F3.σ b z (by
     obtain ⟨k,_,_,_,hm,_⟩:=W.siz b z hz;obtain ⟨⟨cells,hc⟩,_⟩:=W.dom b k hm;exact (List.getElem?_eq_some_iff.1 hc).1) hz⟩,F3.old⟩
  refine ⟨v,r1,?_⟩;rcases hend with ⟨rfl,hnc,hnb⟩ |rfl
  . exact ⟨v,bI G2 h.length,rfl,dJ _ _ hnc r2,fun s m xs e=>(r3 s m xs e).cut _,r4.cut _ hnb,full _ (F2.trans (rO (Nat.le_refl _)))⟩
  . exact ⟨v,G2,rfl,r2,r3,r4,full _ F2⟩
 refine hT none (fun _=>rfl) G w _ hsim _ fun x st' G' w' a' hx S F=>?_;obtain ⟨ds,hds,hnew⟩:=F.df;rw[List.append_nil] at hds;have go: (results cx fn st'=some c∧((st'.h.take h.length=h'∧ae h.length c=true∧∀ (b:Nat) cells,b< h.length→st'.h[b]? =some (some cells)→noRefs h.length cells=true)∨st'.h=h'))→LeavesInM Fence.wide 0 cx.P fn a'.tmps (fun e w'=> ∃v G',e= .returned v∧Rep G' c v∧(∀s n xs,c= .sl (.own s) n xs→OwnRow G' w' (2,0,0) v s n)∧WorldOK G' h' w'∧Frm G w G' w') a'.defers .returning w':=fun hx=>
  mb (m:=w.heap.size) (G:=G') (w:=w') a'.defers (Shut.refl _ _ _) S.defers (by rw[hds];exact hnew) fun w2 T=>fin st' G' w2 { a' with defers:=[] } hx (T.sim S) (T.frm rfl F.fr)
 cases x with
 |exit k=>exact hx.elim
 |normal=>exact go hx
 |ret=>exact go hx
end
theorem vm (ops:Array Oper)(d:Option Nat):wc ops d= (match d with|some t=>(ops.toList.filterMap ct).contains t|none=>false):=by
 cases d<;>rfl
def splanA (cx:Cx)(apps:List Nat)(o:Oper)(env:Nat→C):Option Plan:=
 match o.op with
 | .move (.tmp p) =>some (if ((match o.dst with|some t=>apps.contains t|none=>false) || (match o.dst.map (· +1000000) with|some t=>apps.contains t|none=>false)) then .val (env p) (some p) else .pure (env p).noR)
 | .load t x=>loadPlan cx.P (match o.dst with|some t=>apps.contains t|none=>false) t (cx.evn env x)
 |_=>splan cx #[] o env
theorem p6 (cx:Cx)(ops:Array Oper)(o:Oper)(env:Nat→C):splanA cx (ops.toList.filterMap ct) o env=splan cx ops o env:=by
 unfold splanA;split
 . rename_i p ho
   unfold splan;rw[ho];simp only[G6,vm];rfl
 . rename_i t x ho
   unfold splan;rw[ho];simp only[vm];rfl
 . rename_i h1 h2
   unfold splan;simp only[];split<;>first|rfl|skip
   . rename_i x ho
     cases x with
     |tmp p=>exact absurd ho (h1 p)
     |_=>rfl
   . rename_i t x ho
     exact absurd ho (h2 t x)
def gO (dsts:List (Option Nat))(g:Option (Nat×Bool))(env:Nat→C):Option Bool:=
 match g with
 |none=>some true
 |some (j,want) =>match (dsts[j]?).bind id with
  |none=>some false
  |some t=>match (env t).noR with
   | .val (.bool b) =>some (b==want)
   | .val (.tuple _) =>some false
   |_=>none
theorem oW (ops:Array Oper)(o:Oper)(env:Nat→C):gO (ops.toList.map (·.dst)) o.guard env=dW ops o env:=by
 unfold gO dW
 cases o.guard with
 |none=>rfl
 |some g=>
  obtain ⟨j,want⟩:=g;simp only[];have: ((ops.toList.map (·.dst))[j]?).bind id= (ops[j]?).bind (·.dst):=by
   rw[List.getElem?_map,Array.getElem?_toList];cases ops[j]? <;>rfl
  rw[this];rfl
def Bc (cx:Cx)(id:Nat)(d:Option Nat)(st:St)(K:St→Prop)(p:Option Plan):Prop:=
 match p with
 |none=>False
 |some p=>match aA cx id p st.h with
  |none=>False
  |some (c,k,h') =>K ⟨put d c (br k st.env),h'⟩
def jM (cx:Cx)(apps:List Nat)(dsts:List (Option Nat)):List Oper→Nat→St→(St→Prop)→Prop
 | [],_,st,K=>K st
 |o::l,id,st,K=>kK cx.N o.dst=true∧match gO dsts o.guard st.env with
  |none=>False
  |some false=>jM cx apps dsts l (if dr o then id+1 else id) ⟨put o.dst (.val undef) st.env,st.h⟩ K
  |some true=>Bc cx id o.dst st (fun s=>jM cx apps dsts l (if dr o then id+1 else id) s K) (splanA cx apps o st.env)
theorem rP (ops:Array Oper)(k:Nat)(o:Oper)(h:ops[k]? =some o):dF ops (k+1) =if dr o then dF ops k+1 else dF ops k:=by
 unfold dF;have h':ops.toList[k]? =some o:=by simpa using h
 rw[List.take_add_one,h'];simp only[Option.toList_some,List.countP_append,List.countP_singleton];split<;>simp
theorem sV {cx:Cx}{ops:Array Oper}{base:Nat}{K:St→Prop}:∀ (l:List Oper)(k:Nat)(st:St),ops.toList.drop k=l→
 jM cx (ops.toList.filterMap ct) (ops.toList.map (·.dst)) l (base+dF ops k) st K→∃st',g8 cx ops base (List.range' k l.length) st=some st'∧K st'
 | [],k,st,_,h=>⟨st,rfl,h⟩
 |o::l,k,st,hl,h=>by
  have hk:ops[k]? =some o:=by
   have: (ops.toList.drop k)[0]? =some o:=by rw[hl];rfl
   rw[List.getElem?_drop] at this;simpa using this
  have hl':ops.toList.drop (k+1) =l:=by rw[←List.drop_drop,hl];rfl
  simp only[jM] at h;obtain ⟨hd,h⟩:=h;rw[oW,p6] at h;have hid: (if dr o then base+dF ops k+1 else base+dF ops k) =base+dF ops (k+1):=by
   rw[rP ops k o hk];split<;>omega
  rw[hid] at h;simp only[List.length_cons,List.range'_succ,g8];have next:∀s,jM cx (ops.toList.filterMap ct) (ops.toList.map (·.dst)) l (base+dF ops (k+1)) s K→step cx ops base k st=some s→∃st',(step cx ops base k st).bind (g8 cx ops base (List.range' (k+1) l.length)) =some st'∧K st':=fun s hs hst=>by
   obtain ⟨st',h1,h2⟩:=sV l (k+1) s hl' hs;exact ⟨st',by rw[hst];exact h1,h2⟩
  cases hw:dW ops o st.env with
  |none=>rw[hw] at h;exact h.elim
  |some b=>
   rw[hw] at h
   cases b with
   |false=>
    refine next _ h ?_
    unfold step;rw[hk];simp only[hd,if_true,hw]
   |true=>
    simp only[Bc] at h
    cases hp:splan cx ops o st.env with
    |none=>rw[hp] at h;exact h.elim
    |some p=>
     rw[hp] at h;simp only[] at h
     cases ha:aA cx (base+dF ops k) p st.h with
     |none=>rw[ha] at h;exact h.elim
     |some r=>
      rw[ha] at h;refine next _ h ?_
      unfold step;rw[hk];simp only[hd,if_true,hw,hp,b8,ha,Option.map_some]
theorem Bd {cx:Cx}{n:Nat}{st:St}{Q:Ex→St→Prop}(hcx:CxOK cx){id:Nat}{l:List Oper}(h:jM cx (l.filterMap ct) (l.map (·.dst)) l st.h.length ⟨st.env,st.h++List.replicate (l.countP dr) none⟩ (Q .normal)):
 Tr cx n (.region id l.toArray false) st Q:=by
 have h':jM cx (l.toArray.toList.filterMap ct) (l.toArray.toList.map (·.dst)) l (st.h.length+dF l.toArray 0) ⟨st.env,st.h++List.replicate (l.countP dr) none⟩ (Q .normal):=by simpa[dF] using h
 obtain ⟨st',h1,h2⟩:=sV l 0 _ (by simp) h';refine Tr.region hcx (st':=st') ?_ h2;unfold qK;have hc:dF l.toArray l.toArray.size=l.countP dr:=by simp[dF]
 rw[hc,List.range_eq_range'];simpa using h1
def jp (cx:Cx)(id:Nat)(d:Option Nat)(st:St)(K:FP→St→Prop)(p:Option Plan):Prop:=
 match p with
 |none=>False
 |some p=>match aA cx id p st.h with
  |none=>False
  |some (c,k,h') =>K (bd id st.h p) ⟨put d c (br k st.env),h'⟩
def f7 (cx:Cx)(apps:List Nat)(dsts:List (Option Nat)):List Oper→Nat→St→List FP→(List FP→St→Prop)→Prop
 | [],_,st,fs,K=>K fs st
 |o::l,id,st,fs,K=>kK cx.N o.dst=true∧match gO dsts o.guard st.env with
  |none=>False
  |some false=>f7 cx apps dsts l (if dr o then id+1 else id) ⟨put o.dst (.val undef) st.env,st.h⟩ ((0,0)::fs) K
  |some true=>jp cx id o.dst st (fun f s=>f7 cx apps dsts l (if dr o then id+1 else id) s (f::fs) K) (splanA cx apps o st.env)
theorem vn {cx:Cx}{ops:Array Oper}{base:Nat}{K:List FP→St→Prop}:∀ (l:List Oper)(k:Nat)(st:St)(fs:List FP),ops.toList.drop k=l→
 f7 cx (ops.toList.filterMap ct) (ops.toList.map (·.dst)) l (base+dF ops k) st fs K→∃st' gs,jL cx ops base (List.range' k l.length) st=some (st',gs)∧K (gs.reverse++fs) st'
 | [],k,st,fs,_,h=>⟨st,[],rfl,h⟩
 |o::l,k,st,fs,hl,h=>by
  have hk:ops[k]? =some o:=by
   have: (ops.toList.drop k)[0]? =some o:=by rw[hl];rfl
   rw[List.getElem?_drop] at this;simpa using this
  have hl':ops.toList.drop (k+1) =l:=by rw[←List.drop_drop,hl];rfl
  simp only[f7] at h;obtain ⟨hd,h⟩:=h;rw[oW,p6] at h;have hid: (if dr o then base+dF ops k+1 else base+dF ops k) =base+dF ops (k+1):=by
   rw[rP ops k o hk];split<;>omega
  rw[hid] at h;simp only[List.length_cons,List.range'_succ,jL];have next:∀s f,f7 cx (ops.toList.filterMap ct) (ops.toList.map (·.dst)) l (base+dF ops (k+1)) s (f::fs) K→gz cx ops base k st=some (s,f)→
   ∃st' gs,(match gz cx ops base k st with|none=>none|some (st',f) =>(jL cx ops base (List.range' (k+1) l.length) st').map fun r=>(r.1,f::r.2)) =some (st',gs)∧K (gs.reverse++fs) st':=fun s f hs hst=>by
   obtain ⟨st',gs,h1,h2⟩:=vn l (k+1) s (f::fs) hl' hs;refine ⟨st',f::gs,by rw[hst];simp only[h1,Option.map_some],?_⟩;simpa using h2
  cases hw:dW ops o st.env with
  |none=>rw[hw] at h;exact h.elim
  |some b=>
   rw[hw] at h
   cases b with
   |false=>
    refine next _ _ h ?_
    unfold gz pW;rw[hk];simp only[hd,if_true,hw,Option.map_some,br]
   |true=>
    simp only[jp] at h
    cases hp:splan cx ops o st.env with
    |none=>rw[hp] at h;exact h.elim
    |some p=>
     rw[hp] at h;simp only[] at h
     cases ha:aA cx (base+dF ops k) p st.h with
     |none=>rw[ha] at h;exact h.elim
     |some r=>
      rw[ha] at h;refine next _ _ h ?_
      unfold gz pW;rw[hk];simp only[hd,if_true,hw,hp,ha,Option.map_some]
theorem y8 {cx:Cx}{n:Nat}{st:St}{Q:Ex→St→Prop}(hcx:CxOK cx)(hm:cx.P.follows .mixedOrders=true){id:Nat}{l:List Oper}(hs:d5 l.toArray=true)
 (h:f7 cx (l.filterMap ct) (l.map (·.dst)) l st.h.length ⟨st.env,st.h++List.replicate (l.countP dr) none⟩ [] (fun fs s=>fZ l.toArray fs.reverse=true∧Q .normal s)):
 Tr cx n (.region id l.toArray true) st Q:=by
 have h':f7 cx (l.toArray.toList.filterMap ct) (l.toArray.toList.map (·.dst)) l (st.h.length+dF l.toArray 0) ⟨st.env,st.h++List.replicate (l.countP dr) none⟩ [] (fun fs s=>fZ l.toArray fs.reverse=true∧Q .normal s):=by simpa[dF] using h
 obtain ⟨st',gs,h1,h2,h3⟩:=vn l 0 _ [] (by simp) h';refine Ba hcx hm (st':=st') hs ?_ h3;unfold ma;have hc:dF l.toArray l.toArray.size=l.countP dr:=by simp[dF]
 rw[hc,List.range_eq_range'];have h1':jL cx l.toArray st.h.length (List.range' 0 l.toArray.size) ⟨st.env,st.h++List.replicate (l.countP dr) none⟩ =some (st',gs):=by simpa using h1
 rw[h1'];simp only[List.append_nil,List.reverse_reverse] at h2;simp only[h2,if_true]
theorem FC.of {cx:Cx} {f:Nat} {fn:Func} {code:Code} {args:List C} {h h':Hp} {c:C} (hN:cx.N=fn.ntmps) (hf:cx.P.funcs[f]? =some fn) (hn: (fn.name== "runtime.NumGoroutine") =false) (hb:fn.body=some code)
 (hlen:args.length≤fn.ntmps) (hT:Tr cx h.length code ⟨init args,h⟩ (QQ cx fn h.length c h')):FC cx.P cx.gl f args h c h':=by
 refine G5 hf hn hb hlen ?_;obtain ⟨P,N,gl,pu,hp⟩:=cx;simp only[] at hN;subst hN;exact hT
theorem aa {cx:Cx}{n:Nat}{st:St}{Q:Ex→St→Prop}{a b:Code}(h:∀K:St→Prop,(∀s,Tr cx n b s Q→K s)→Tr cx n a st (oS K Q)):Tr cx n (.seq a b) st Q:=
 Tr.seq (h _ fun _ x=>x)
def A:List (Nat×C)→Nat→C
 | [],_=> .top
 | (k,c)::l,t=>if t=k then c else A l t
def Le (env:Nat→C):List (Nat×C)→Prop
 | [] =>True
 | (k,c)::l=>CLe (env k) c∧Le env l
theorem Le.spec {env:Nat→C}:∀ {l:List (Nat×C)},Le env l→∀t,CLe (env t) (A l t)
 | [],_,t=>CLe.top _
 | (k,c)::l,h,t=>by
   unfold A;split
   . rename_i e;subst e;exact h.1
   . exact Le.spec h.2 t
section
variable {cx:Cx} {n:Nat} {st:St} {Q:Ex→St→Prop}
theorem Tr.live {c:Code}(l:List (Nat×C))(h:Le st.env l)(k:Tr cx n c ⟨A l,st.h⟩ Q):Tr cx n c st Q:=
 Tr.weaken (fun t=>h.spec t) k
def At {α:Type}(I:α→List (Nat×C))(H:α→Hp)(ok:α→Prop)(s:St):Prop:= ∃a,ok a∧Le s.env (I a)∧s.h=H a
theorem Mp {α:Type}{I:α→List (Nat×C)}{H:α→Hp}{ok:α→Prop}{c:Code}{s:St}(hs:At I H ok s)(h:∀a,ok a→Tr cx n c ⟨A (I a),H a⟩ Q):Tr cx n c s Q:=by
 obtain ⟨a,h1,h2,h3⟩:=hs;refine Tr.live _ h2 ?_;rw[h3];exact h a h1
theorem qL {α:Type}(I:α→List (Nat×C))(H:α→Hp)(ok:α→Prop){x y:Code}(h1:Tr cx n x st (oS (At I H ok) Q))(h2:∀a,ok a→Tr cx n y ⟨A (I a),H a⟩ Q):Tr cx n (.seq x y) st Q:=
 Tr.seq (h1.mono fun e s q=>by
  cases e with
  |normal=>exact Mp q h2
  |exit id=>exact q
  |ret=>exact q)
theorem ao {α:Type}(I:α→List (Nat×C))(H:α→Hp)(ok:α→Prop)(μ:α→Nat){c:Code}(a:α)(h0:ok a)(hl:Le st.env (I a))(hh:st.h=H a)
 (hb:∀a,ok a→Tr cx n c ⟨A (I a),H a⟩ (oS (At I H fun a'=>ok a'∧μ a'< μ a) Q)):Tr cx n (.loop c) st Q:=by
 refine Tr.loop (fun m s=> ∃a,μ a=m∧ok a∧Le s.env (I a)∧s.h=H a) (μ a) ⟨a,rfl,h0,hl,hh⟩ ?_;rintro m s ⟨a,rfl,h1,h2,h3⟩;refine Tr.live _ h2 ?_;rw[h3];refine (hb a h1).mono fun e s q=>?_
 cases e with
 |normal=>
  obtain ⟨a',⟨q1,q2⟩,q3,q4⟩:=q;exact ⟨μ a',q2,a',rfl,q1,q3,q4⟩
 |exit id=>exact q
 |ret=>exact q
end
theorem FC.frame {P:Program}{gl:Nat→C}{f:Nat}{args:List C}{c:C}(hf:FC P gl f args [] c [])(ha:noRefs 0 args=true)(hg:∀g,ae 0 (gl g) =true)(h:Hp):FC P gl f args h c h:=by
 obtain ⟨he,hf⟩:=hf;refine ⟨he,fun G w vs W hTg hgl hr=>?_⟩;have le1: (bI G 0).Le { K:=G.K,μ:=fun _=>none,T:=fun _=>none }:=⟨fun _ _ _ x=>x,fun b k x=>by simp[bI] at x,fun b k x=>by simp[bI] at x⟩;have hn:∀b,Hp.at [] b=none:=fun b=>by simp[Hp.at]
 refine Calls.mono (hf { K:=G.K,μ:=fun _=>none,T:=fun _=>none } w vs ⟨W.known,(fun b cells x=>by rw[hn] at x;cases x),(fun b blk x=>by cases x),(fun b b' c c' blk _ _ x=>by cases x),(fun b blk x=>by cases x),(fun g p x=>by cases x),(fun b cells off s n xs blk v x=>by rw[hn] at x;cases x),(fun b z x=>by cases x),(fun b l x=>by simp[Hp.mp] at x),(fun b b' l l' blk x=>by simp[Hp.mp] at x)⟩
  (fun g p x=>by cases x) (fun g=>(dJ _ _ (hg g) (hgl g)).mono le1) ((noRef_repL _ _ ha hr).mono le1)) ?_
 rintro e w' ⟨v,G2,rfl,rv,ro,W2,F⟩;have hμ2:∀b k,G2.μ b≠some k:=fun b k x=>by
  obtain ⟨⟨cells,hc⟩,_⟩:=W2.dom b k x;simp at hc
 have hσ2:∀b k,G2.σ b≠some k:=fun b k x=>by
  obtain ⟨blk,_,_,_,q,_⟩:=W2.siz b k x;exact hμ2 b blk q
 have old:=fun g (hg:g< w.heap.size) =>F.old g hg rfl (fun b x=>by cases x);have hμlt:∀b blk,G.μ b=some blk→blk< w.heap.size:=fun b blk x=>by
  exact (W.dom b blk x).2
 let G3:Gh:= { K:=G2.K,μ:=G.μ,T:=fun g=>if g< w.heap.size then G.T g else G2.T g,σ:=G.σ }
 have le23:G2.Le G3:=⟨fun _ _ _ x=>x,fun b k x=>(hμ2 b k x).elim,fun b k x=>(hσ2 b k x).elim⟩;have le13:G.Le G3:=⟨fun b o u x=>F.le.K b o u x,fun _ _ x=>x,fun _ _ x=>x⟩;refine ⟨v,G3,rfl,rv.mono le23,fun s n xs e=>?_,⟨W2.known,fun b cells hc=>?_,fun b blk x=>⟨(W.dom b blk x).1,Nat.lt_of_lt_of_le (W.dom b blk x).2 F.size⟩,W.inj,fun b blk x=>?_,fun g p x=>?_,fun b cells off s n xs blk v hc hx hm hv=>?_,fun b z hz=>?_,fun b l hb=>(by obtain ⟨blk,es,clk,q1,q2,q3⟩:=W.mpo b l hb;exact ⟨blk,es,clk,q1,(old blk (hμlt b blk q1)).1.trans q2,q3.mono le13⟩),W.mpi⟩,F.os,F.tape,F.output,F.size,le13,fun g hg ht hm=>?_⟩
 . rcases ro s n xs e with O| ⟨g,cap,cur,e,a1,a2,a3,a4,a5,a6⟩
   . exact .inl O
   . refine .inr ⟨g,cap,cur,e,a1,?_,a3,a4,a5,fun b x=>?_⟩
     . have:¬g< w.heap.size:=fun hlt=>by rw[(old g hlt).2.1] at a2;cases a2
       show (if g< w.heap.size then G.T g else G2.T g) =_;rw[if_neg this];exact a2
     . have hlt:=hμlt b g x
       rw[(old g hlt).2.1] at a2;cases a2
 . rcases W.box b cells hc with hE| ⟨blk,cs,e,q1,q2,q0,q3,q4⟩
   . exact .inl hE
   . exact .inr ⟨blk,cs,e,q1,by rw[(old blk (hμlt b blk q1)).1];exact q2,q0,q3.mono le13,q4⟩
 . have hlt:=hμlt b blk x
   refine ⟨fun o=>((old blk hlt).2.2.2 o).trans ((W.sep b blk x).1 o),?_⟩;show (if blk< w.heap.size then G.T blk else G2.T blk) =none;rw[if_pos hlt];exact (W.sep b blk x).2
 . have x': (if g< w.heap.size then G.T g else G2.T g) =some p:=x
   split at x'
   . exact Nat.lt_of_lt_of_le (W.tlt g p x') F.size
   . exact W2.tlt g p x'
 . have hlt:=hμlt b blk hm
   have hv':w.cell? ⟨blk,off,none⟩ =some v:=by
    rw[←hv];unfold World.cell?;rw[(old blk hlt).1]
   rcases W.own b cells off s n xs blk v hc hx hm hv' with O| ⟨g,cap,cur,e,a1,a2,a3,a4,a5,a6⟩
   . exact .inl O
   . have hlt:=W.tlt g _ a2
     refine .inr ⟨g,cap,cur,e,a1,?_,(old g hlt).1.trans a3,a4,fun o ho=>((old g hlt).2.2.2 o).trans (a5 o ho),a6⟩;show (if g< w.heap.size then G.T g else G2.T g) =_;rw[if_pos hlt];exact a2
 . obtain ⟨blk,cs,e,fr,q1,q2,q3⟩:=W.siz b z hz
   exact ⟨blk,cs,e,fr,q1,(old blk (hμlt b blk q1)).1.trans q2,q3⟩
 . obtain ⟨b1,b2,b3,b4⟩:=old g hg
   refine ⟨b1,?_,hm,b4⟩;show (if g< w.heap.size then G.T g else G2.T g) =none;rw[if_pos hg];exact ht
def ez:List Oper→Hp
 | [] =>[]
 |o::l=>if dr o then none::ez l else ez l
theorem rR:∀l:List Oper,ez l=List.replicate (l.countP dr) none
 | [] =>rfl
 |o::l=>by
  unfold ez;rw[List.countP_cons,rR l];split<;>simp_all [List.replicate_succ]
def bj:Nat→List C→List (Nat×C)
 |_,[] =>[]
 |k,c::cs=>(k,c.noR)::bj (k+1) cs
theorem KD:∀ (l:List C)(k t:Nat),A (bj k l) t=if k≤t then (match l[t - k]? with|some c=>c.noR|none=> .top) else .top
 | [],k,t=>by simp[bj,A]
 |c::l,k,t=>by
  simp only[bj,A,KD l (k+1) t];by_cases h:t=k
  . subst h;simp
  . simp only[if_neg h]
    by_cases h2:k≤t
    . have h3:k+1≤t:=by omega
      simp only[h2,h3,if_true];have:t - k= (t - (k+1))+1:=by omega
      rw[this];simp
    . have h3:¬k+1≤t:=by omega
      simp only[h2,h3,if_false]
theorem CLe.init (args:List C)(t:Nat):CLe (init args t) (A (bj 0 args) t):=by
 rw[KD];simp only[Nat.zero_le,if_true,Nat.sub_zero];unfold Sx.init
 cases args[t]? with
 |none=>exact CLe.top _
 |some c=>exact CLe.refl _
section
variable {cx:Cx} {n:Nat} {Q:Ex→St→Prop} {e:List (Nat×C)} {h:Hp}
theorem QR (hcx:CxOK cx){id:Nat}{l:List Oper}(H:jM cx (l.filterMap ct) (l.map (·.dst)) l h.length ⟨A e,h++ez l⟩ (Q .normal)):Tr cx n (.region id l.toArray false) ⟨A e,h⟩ Q:=by
 rw[rR] at H;exact Bd hcx H
theorem Mq (hcx:CxOK cx)(hm:cx.P.follows .mixedOrders=true){id:Nat}{l:List Oper}(hs:d5 l.toArray=true)
 (H:f7 cx (l.filterMap ct) (l.map (·.dst)) l h.length ⟨A e,h++ez l⟩ [] (fun fs s=>fZ l.toArray fs.reverse=true∧Q .normal s)):Tr cx n (.region id l.toArray true) ⟨A e,h⟩ Q:=by
 rw[rR] at H;exact y8 hcx hm hs H
theorem Tr.blk {id:Nat}{c:Code}{st:St}(H:Tr cx n c st (sR id Q)):Tr cx n (.block id c) st Q:=Tr.block H
end
def jN (cx:Cx)(st:St):List ResultVar→Option C
 | [r] =>el cx st r
 |rs=>(rs.mapM (el cx st)).map fun cs=> .tup (cs.map C.noR)
def KE (cx:Cx)(rs:List ResultVar)(c:C):Ex→St→Prop
 | .exit _,_=>False
 |_,st=>jN cx st rs=some c
theorem aH {cx:Cx} {f:Nat} {fn:Func} {code:Code} {args:List C} {c:C} {rs:List ResultVar} (hN:cx.N=fn.ntmps) (hf:cx.P.funcs[f]? =some fn) (hn: (fn.name== "runtime.NumGoroutine") =false) (hb:fn.body=some code)
 (hrs:fn.results=rs.toArray) (hlen:args.length≤fn.ntmps) (hc:ae 0 c=true) (hT:Tr cx 0 code ⟨A (bj 0 args),[]⟩ (KE cx rs c)):FC cx.P cx.gl f args [] c []:=by
 refine FC.of hN hf hn hb hlen ?_;refine Tr.weaken (fun t=>CLe.init args t) (hT.mono fun x st q=>?_);have key:jN cx st rs=some c→results cx fn st=some c∧((st.h.take 0= []∧ae 0 c=true∧∀ (b:Nat) cells,b< 0→st.h[b]? =some (some cells)→noRefs 0 cells=true)∨st.h= []):=fun q=>by
  refine ⟨?_,.inl ⟨by simp,hc,fun b cells hb=>absurd hb (Nat.not_lt_zero b)⟩⟩;rw[←q];unfold results;rw[hrs];rcases rs with _| ⟨r,_| ⟨r2,rs⟩⟩ <;>rfl
 cases x with
 |exit k=>exact q
 |normal=>exact key q
 |ret=>exact key q
theorem aT (k:Nat)(c:C)(l:List (Nat×C))(t:Nat):A ((k,c)::l) t=if t=k then c else A l t:=rfl
theorem dE (env:Nat→C):br none env=env:=rfl
theorem zt (k:Nat)(l:List (Nat×C)):br (some k) (A l) =A ((k,(A l k).noR)::l):=by
 funext t
 simp only[br,A]
theorem ga (cx:Cx)(env:Nat→C)(t:Nat):cx.ev env (.tmp t) =env t:=rfl
theorem xa (cx:Cx)(env:Nat→C)(v:Value):cx.ev env (.const v) = .val v:=rfl
open Classical in
noncomputable def jq {α:Type}(enc:α→List C)(out:α→C)(args:List C):Option C:=
 if h:∃a,enc a=args then some (out h.choose) else none
theorem C8 {α:Type}{enc:α→List C}{out:α→C}(hi:∀a b,enc a=enc b→out a=out b)(a:α):jq enc out (enc a) =some (out a):=by
 have h:∃b,enc b=enc a:=⟨a,rfl⟩;unfold jq;rw[dif_pos h];exact congrArg some (hi _ _ h.choose_spec)
theorem oY {α:Type}{enc:α→List C}{out:α→C}{args:List C}{c:C}(h:jq enc out args=some c):∃a,enc a=args∧out a=c:=by
 unfold jq at h;split at h
 . rename_i h2;exact ⟨_,h2.choose_spec,Option.some.inj h⟩
 . cases h
def ext (pu:Nat→List C→Option C)(f:Nat)(sp:List C→Option C):Nat→List C→Option C:=fun g args=>if g=f then sp args else pu g args
theorem qM {pu:Nat→List C→Option C}{f:Nat}{sp:List C→Option C}(args:List C):ext pu f sp f args=sp args:=if_pos rfl
theorem oZ {pu:Nat→List C→Option C}{f g:Nat}{sp:List C→Option C}(h:g≠f)(args:List C):ext pu f sp g args=pu g args:=if_neg h
theorem CxOK.ext {P:Program}{km:TypeId→Value→Bool}{gl:Nat→C}{pu:Nat→List C→Option C}{hp:Nat→List C→Hp→Option (C×Hp)}{N M:Nat}(hcx:CxOK ⟨P,N,gl,pu,hp,fun _=>false,km,true⟩)(hg:∀g,ae 0 (gl g) =true)
 {α:Type} {enc:α→List C} {out:α→C} {f:Nat} (he:∀a,noRefs 0 (enc a) =true) (h:∀a,FC P gl f (enc a) [] (out a) []):CxOK ⟨P,M,gl,Sx.ext pu f (jq enc out),hp,fun _=>false,km,true⟩:=by
 refine ⟨hg,fun g args c hc k=>?_,fun g args k c k' hc=>hcx.hp g args k c k' hc,hcx.km⟩;by_cases hgf:g=f
 . subst hgf
   have hc':jq enc out args=some c:=by rw[←hc];exact (qM args).symm
   obtain ⟨a,rfl,rfl⟩:=oY hc';exact (h a).frame (he a) hg k
 . have hc':pu g args=some c:=by rw[←hc];exact (oZ hgf args).symm
   exact hcx.pu g args c hc' k
theorem CxOK.rnd {cx:Cx}(hcx:CxOK cx):CxOK { cx with top:=false }:=⟨hcx.glo,hcx.pu,hcx.hp,hcx.km⟩
theorem Bf {P:Program}{km:TypeId→Value→Bool}{gl:Nat→C}{N:Nat}(hg:∀g,ae 0 (gl g) =true)(hk:∀k u,km k u=true→Go.Maps.Keyed P k∧∃l,keyOf P k u=some l):CxOK ⟨P,N,gl,fun _ _=>none,fun _ _ _=>none,fun _=>false,km,true⟩:=
 ⟨hg,fun _ _ _ h _=>(Option.some_ne_none _ h.symm).elim,fun _ _ _ _ _ h=>(Option.some_ne_none _ h.symm).elim,hk⟩
theorem CxOK.zero {P:Program}{gl:Nat→C}{N:Nat}(hg:∀g,ae 0 (gl g) =true):CxOK ⟨P,N,gl,fun _ _=>none,fun _ _ _=>none,fun _=>false,fun _ _=>false,true⟩:=
 Bf hg fun _ _ h=>by cases h
theorem CxOK.reN {P:Program}{km:TypeId→Value→Bool}{gl:Nat→C}{pu:Nat→List C→Option C}{hp:Nat→List C→Hp→Option (C×Hp)}{N M:Nat}(hcx:CxOK ⟨P,N,gl,pu,hp,fun _=>false,km,true⟩):CxOK ⟨P,M,gl,pu,hp,fun _=>false,km,true⟩:=⟨hcx.glo,hcx.pu,hcx.hp,hcx.km⟩
def dQ (N:Nat):Option Nat→Prop
 |some d=>d< N
 |none=>True
theorem G7 (N d:Nat):dQ N (some d) = (d< N):=rfl
theorem G8 (N:Nat):dQ N none=True:=rfl
theorem zu (N:Nat)(d:Option Nat):kK N d=true↔dQ N d:=by
 cases d<;>simp[kK,dQ]
def dR:Option Nat→C→List (Nat×C)→List (Nat×C)
 |some d,c,e=>(d,c)::e
 |none,_,e=>e
theorem gC (d:Option Nat)(c:C)(e:List (Nat×C)):put d c (A e) =A (dR d c e):=by
 cases d<;>rfl
def nT (apps:List Nat):Option Nat→Bool
 |some t=>apps.contains t
 |none=>false
theorem Mr (d:Option Nat):nT [] d=false:=by cases d<;>rfl
theorem G9 (a:Nat)(l:List Nat)(t:Nat):nT (a::l) (some t) = (t==a||nT l (some t)):=by
 by_cases hh:t=a<;>simp[nT,hh]
def vp (c:C):Plan:= .val c none
theorem Ms (c:C):Plan.pure c=vp c:=rfl
def on (cx:Cx)(e:List (Nat×C))(x:Operand):C:=(cx.ev (A e) x).noR
def vo (cx:Cx)(e:List (Nat×C))(x:Operand):C:=cx.ev (A e) x
def vr (cx:Cx)(e:List (Nat×C)):List Operand→List C
 | [] =>[]
 |x::l=>on cx e x::vr cx e l
def vt (cx:Cx)(e:List (Nat×C)):List (Nat×Operand)→List (Nat×C)
 | [] =>[]
 | (i,x)::l=>(i,on cx e x)::vt cx e l
theorem C9 (cx:Cx)(e:List (Nat×C))(l:List Operand):l.map (cx.evn (A e)) =vr cx e l:=by
 induction l with
 |nil=>rfl
 |cons x l ih=>simp only[List.map_cons,ih,vr];rfl
theorem Da (cx:Cx)(e:List (Nat×C))(l:List (Nat×Operand)): (l.map fun x=>(x.1,cx.evn (A e) x.2)) =vt cx e l:=by
 induction l with
 |nil=>rfl
 |cons x l ih=>obtain ⟨i,x⟩:=x;simp only[List.map_cons,ih,vt];rfl
theorem QS (cx:Cx)(e:List (Nat×C))(t:Nat):on cx e (.tmp t) = (A e t).noR:=rfl
theorem Ha (cx:Cx)(e:List (Nat×C))(v:Value):on cx e (.const v) = .val v:=rfl
theorem Dc (cx:Cx)(e:List (Nat×C))(g:Nat):on cx e (.global g) = (cx.gl g).noR:=by
 unfold on;simp only[Cx.ev];cases hh:cx.gl g<;>first|rfl|skip
 rename_i r n xs;cases r<;>rfl
theorem Mt (cx:Cx)(e:List (Nat×C))(f:Nat):on cx e (.func f) = .fn f []:=rfl
theorem Mu (cx:Cx)(e:List (Nat×C))(t:Nat):vo cx e (.tmp t) =A e t:=rfl
theorem Dd (cx:Cx)(e:List (Nat×C))(v:Value):vo cx e (.const v) = .val v:=rfl
theorem Hb (t:Nat):dO (.tmp t) =some t:=rfl
theorem Bg (v:Value):dO (.const v) =none:=rfl
theorem Mv (v:Value): (C.val v).noR= .val v:=rfl
theorem Hc (n:Nat)(xs:List C): (C.sl .full n xs).noR= .sl .full n xs:=rfl
theorem QT (n:Nat)(xs:List C): (C.sl .no n xs).noR= .sl .no n xs:=rfl
theorem QU (b o n:Nat): (C.sv b o n).noR= .sv b o n:=rfl
theorem QV (b o:Nat): (C.bp b o).noR= .bp b o:=rfl
theorem QW (xs:List C): (C.kp xs).noR= .kp xs:=rfl
theorem Mw (xs:List C): (C.agg xs).noR= .agg xs:=rfl
theorem Mx (xs:List C): (C.tup xs).noR= .tup xs:=rfl
theorem QX (f:Nat)(xs:List C): (C.fn f xs).noR= .fn f xs:=rfl
theorem My:C.top.noR= .top:=rfl
theorem De (k:IntKind)(n:Int): (C.val (.int k n)).share= .val (.int k n):=rfl
theorem Bh (b:Bool): (C.val (.bool b)).share= .val (.bool b):=rfl
theorem Hd (b o n:Nat): (C.sv b o n).share= .sv b o n:=rfl
theorem He (b o:Nat): (C.bp b o).share= .bp b o:=rfl
theorem Dg (xs:List C): (C.agg xs).share= .agg xs:=rfl
theorem Hf (f:Nat)(xs:List C): (C.fn f xs).share= .fn f xs:=rfl
def kV:List C→List C
 | [] =>[]
 |c::l=>c.share::kV l
theorem vu (l:List C):l.map C.share=kV l:=by
 induction l with
 |nil=>rfl
 |cons x l ih=>simp only[List.map_cons,ih,kV]
def GB (b:Bool)(P Q:Prop):Prop:=(b=true→P)∧(b=false→Q)
theorem zv (P Q:Prop):GB true P Q=P:=by simp[GB]
theorem xb (P Q:Prop):GB false P Q=Q:=by simp[GB]
theorem GB.mk {b:Bool}{P Q:Prop}(h:b=true→P)(k:b=false→Q):GB b P Q:=⟨h,k⟩
theorem GB.pos {b:Bool}{P Q:Prop}(hb:b=true)(h:P):GB b P Q:=⟨fun _=>h,fun e=>(Bool.noConfusion (hb.symm.trans e))⟩
theorem GB.neg {b:Bool}{P Q:Prop}(hb:b=false)(h:Q):GB b P Q:=⟨fun e=>(Bool.noConfusion (hb.symm.trans e)),fun _=>h⟩
@[congr] theorem acb {b b':Bool} {P Q:Prop} (h:b=b'):GB b P Q=GB b' P Q:=by rw[h]
theorem GB.dec {p:Prop}[Decidable p]{P Q:Prop}(h:p→P)(k:¬p→Q):GB (decide p) P Q:=⟨fun e=>h (by simpa using e),fun e=>k (by simpa using e)⟩
def AN (p q:Prop):Prop:=p∧q
@[congr] theorem acd {p p' q:Prop} (h:p=p'):AN p q=AN p' q:=by rw[h]
theorem Mz (q:Prop):AN True q=q:=by simp[AN]
def run (cx:Cx)(apps:List Nat)(dsts:List (Option Nat))(l:List Oper)(id:Nat)(e:List (Nat×C))(h:Hp)(fs:List FP)(K:List FP→St→Prop):Prop:=
 f7 cx apps dsts l id ⟨A e,h⟩ fs K
section
variable (cx:Cx) (apps:List Nat) (dsts:List (Option Nat)) (l:List Oper) (id id':Nat) (d:Option Nat) (e:List (Nat×C)) (h:Hp) (fs:List FP) (K:List FP→St→Prop)
def cG (p:Option Plan):Prop:=jp cx id d ⟨A e,h⟩ (fun f s=>f7 cx apps dsts l id' s (f::fs) K) p
def Dh (b:Nat)(o:Option C):Prop:=match o with
 |none=>False
 |some c=>run cx apps dsts l id' (dR d c e) h ((1,b)::fs) K
def zw (k:Option Nat)(b:Nat)(o:Option (List C×C)):Prop:=match o with
 |none=>False
 |some r=>f7 cx apps dsts l id' ⟨put d r.2 (br k (A e)),h.set b (some r.1)⟩ ((2,b)::fs) K
def Di (b off:Nat)(o:Option (List C)):Prop:=match o with
 |none=>False
 |some cells=>match cells[off]? with
  |none=>False
  |some x=>run cx apps dsts l id' (dR d x e) (h.set b (some (cells.set off x.noR))) ((3,b)::fs) K
def vv (o:Option (C×Hp)):Prop:=match o with
 |none=>False
 |some r=>run cx apps dsts l id' (dR d r.1 e) r.2 ((4,0)::fs) K
def Dj (cells:List C)(g:Nat→C)(o:Option (Option (List C))):Prop:=match o with
 |some none=>run cx apps dsts l id' (dR d (g id) e) (h.set id (some cells)) ((2,id)::fs) K
 |_=>False
theorem Dk (c:C):cG cx apps dsts l id id' d e h fs K (some (vp c)) =run cx apps dsts l id' (dR d c e) h ((0,0)::fs) K:=by
 show f7 _ _ _ _ _ ⟨put d c (br none (A e)),h⟩ _ _=_;rw[dE,gC];rfl
theorem Hg (c:C):cG cx apps dsts l id id' d e h fs K (some (.val c none)) =run cx apps dsts l id' (dR d c e) h ((0,0)::fs) K:=Dk ..
theorem Hh (c:C)(k:Nat):cG cx apps dsts l id id' d e h fs K (some (.val c (some k))) =run cx apps dsts l id' (dR d c ((k,(A e k).noR)::e)) h ((0,0)::fs) K:=by
 show f7 _ _ _ _ _ ⟨put d c (br (some k) (A e)),h⟩ _ _=_;rw[zt,gC];rfl
theorem QY (b:Nat)(f:List C→Option C):cG cx apps dsts l id id' d e h fs K (some (.rd b f)) =Dh cx apps dsts l id' d e h fs K b ((h.at b).bind f):=by
 unfold cG Dh jp;simp only[aA]
 cases (h.at b).bind f with
 |none=>rfl
 |some c=>
  simp only[Option.map_some,dE,gC];rfl
theorem QZ (b:Nat)(f:List C→Option (List C×C))(k:Option Nat):cG cx apps dsts l id id' d e h fs K (some (.wr b f k)) =zw cx apps dsts l id' d e h fs K k b ((h.at b).bind f):=by
 unfold cG zw jp;simp only[aA]
 cases (h.at b).bind f with
 |none=>rfl
 |some c=>simp only[Option.map_some];rfl
theorem Q0 (b off:Nat):cG cx apps dsts l id id' d e h fs K (some (.xr b off)) =Di cx apps dsts l id' d e h fs K b off (h.at b):=by
 unfold cG Di jp;simp only[aA]
 cases h.at b with
 |none=>rfl
 |some cells=>
  simp only[Option.bind_some]
  cases cells[off]? with
  |none=>rfl
  |some x=>simp only[Option.map_some,dE,gC];rfl
theorem MA (cells:List C)(g:Nat→C):cG cx apps dsts l id id' d e h fs K (some (.new cells g)) =Dj cx apps dsts l id id' d e h fs K cells g (h[id]?):=by
 unfold cG Dj jp;simp only[aA]
 cases h[id]? with
 |none=>rfl
 |some o=>cases o with
  |none=>simp only[dE,gC];rfl
  |some o=>rfl
theorem Hi (f:Nat)(az:List C):cG cx apps dsts l id id' d e h fs K (some (.call f az)) =vv cx apps dsts l id' d e fs K (cx.hp f az h):=by
 unfold cG vv jp;simp only[aA]
 cases cx.hp f az h with
 |none=>rfl
 |some c=>simp only[Option.map_some,dE,gC];rfl
def ace (o:Option (List C))(h:Hp):FP:=if o.isSome=true then (5,h.length) else (4,0)
def zx (z:FP)(b:Option (Nat×Nat))(s:Nat×Nat)(m:Nat)(o:Option (List C)):Prop:=match o with
 |none=>False
 |some cs=>match b with
  |none=>run cx apps dsts l id' (dR d (.gv h.length m s) e) (h++[some (cs.map C.noR)]) (z::fs) K
  |some (b,n) =>match h.at b with
   |none=>False
   |some cells=>
    if (n+m)*s.1≤cells.length∧(n≠0∨m=0) then run cx apps dsts l id' (dR d (.gv b (n+m) s) e) (h.set b (some (splice cells (n*s.1) (cs.map C.noR)))) ((4,0)::fs) K
    else if n*s.1=cells.length then run cx apps dsts l id' (dR d (.gv h.length (n+m) s) e) (h.set b (some cM)++[some ((cells++cs).map C.noR)]) ((4,0)::fs) K
    else if n=0 then run cx apps dsts l id' (dR d (.gv h.length (n+m) s) e) (h.set b (some cM)++[some (cs.map C.noR)]) ((4,0)::fs) K else False
theorem Q2 (b:Option (Nat×Nat))(s:Nat×Nat)(m:Nat)(ys:Hp→Option (List C)):cG cx apps dsts l id id' d e h fs K (some (.ap b s m ys)) =zx cx apps dsts l id' d e h fs K (ace (ys []) h) b s m (ys h):=by
 unfold cG zx jp;simp only[aA]
 cases ys h with
 |none=>rfl
 |some cs=>
  simp only[Option.bind_some]
  cases b with
  |none=>simp only[dE,gC];rfl
  |some q=>
   obtain ⟨b,n⟩:=q;simp only[]
   cases h.at b with
   |none=>rfl
   |some cells=>
    simp only[Option.bind_some];by_cases h1: (n+m)*s.1≤cells.length∧(n≠0∨m=0)
    . rw[if_pos h1,if_pos h1];simp only[dE,gC];rfl
    . rw[if_neg h1,if_neg h1]
      by_cases h2:n*s.1=cells.length
      . rw[if_pos h2,if_pos h2];simp only[dE,gC];rfl
      . rw[if_neg h2,if_neg h2]
        by_cases h3:n=0
        . rw[if_pos h3,if_pos h3];simp only[dE,gC];rfl
        . rw[if_neg h3,if_neg h3]
theorem Hj (b:Nat)(c:C):Dh cx apps dsts l id' d e h fs K b (some c) =run cx apps dsts l id' (dR d c e) h ((1,b)::fs) K:=rfl
theorem Dl (b:Nat)(cells:List C)(c:C):zw cx apps dsts l id' d e h fs K none b (some (cells,c)) =run cx apps dsts l id' (dR d c e) (h.set b (some cells)) ((2,b)::fs) K:=by
 show f7 _ _ _ _ _ ⟨put d c (br none (A e)),_⟩ _ _=_;rw[dE,gC];rfl
theorem Dm (k b:Nat)(cells:List C)(c:C):zw cx apps dsts l id' d e h fs K (some k) b (some (cells,c)) =run cx apps dsts l id' (dR d c ((k,(A e k).noR)::e)) (h.set b (some cells)) ((2,b)::fs) K:=by
 show f7 _ _ _ _ _ ⟨put d c (br (some k) (A e)),_⟩ _ _=_;rw[zt,gC];rfl
theorem Hk (c:C)(h':Hp):vv cx apps dsts l id' d e fs K (some (c,h')) =run cx apps dsts l id' (dR d c e) h' ((4,0)::fs) K:=rfl
theorem Hl (cells:List C)(g:Nat→C):Dj cx apps dsts l id id' d e h fs K cells g (some none) =run cx apps dsts l id' (dR d (g id) e) (h.set id (some cells)) ((2,id)::fs) K:=rfl
theorem MB:run cx apps dsts [] id e h fs K=K fs ⟨A e,h⟩:=rfl
end
@[congr] theorem aad {cx:Cx} {apps:List Nat} {dsts:List (Option Nat)} {l:List Oper} {id id':Nat} {d:Option Nat} {e:List (Nat×C)} {h:Hp} {fs:List FP} {K:List FP→St→Prop} {p p':Option Plan} (hp:p=p'):
   cG cx apps dsts l id id' d e h fs K p=cG cx apps dsts l id id' d e h fs K p':=by rw[hp]
@[congr] theorem aae {cx:Cx} {apps:List Nat} {dsts:List (Option Nat)} {l:List Oper} {id':Nat} {d:Option Nat} {e:List (Nat×C)} {h:Hp} {fs:List FP} {K:List FP→St→Prop} {b:Nat} {p p':Option C} (hp:p=p'):
   Dh cx apps dsts l id' d e h fs K b p=Dh cx apps dsts l id' d e h fs K b p':=by rw[hp]
@[congr] theorem aaf {cx:Cx} {apps:List Nat} {dsts:List (Option Nat)} {l:List Oper} {id':Nat} {d:Option Nat} {e:List (Nat×C)} {h:Hp} {fs:List FP} {K:List FP→St→Prop} {k:Option Nat} {b:Nat} {p p':Option (List C×C)} (hp:p=p'):
   zw cx apps dsts l id' d e h fs K k b p=zw cx apps dsts l id' d e h fs K k b p':=by rw[hp]
@[congr] theorem aag {cx:Cx} {apps:List Nat} {dsts:List (Option Nat)} {l:List Oper} {id':Nat} {d:Option Nat} {e:List (Nat×C)} {h:Hp} {fs:List FP} {K:List FP→St→Prop} {b off:Nat} {p p':Option (List C)} (hp:p=p'):
   Di cx apps dsts l id' d e h fs K b off p=Di cx apps dsts l id' d e h fs K b off p':=by rw[hp]
@[congr] theorem aah {cx:Cx} {apps:List Nat} {dsts:List (Option Nat)} {l:List Oper} {id':Nat} {d:Option Nat} {e:List (Nat×C)} {fs:List FP} {K:List FP→St→Prop} {p p':Option (C×Hp)} (hp:p=p'):
   vv cx apps dsts l id' d e fs K p=vv cx apps dsts l id' d e fs K p':=by rw[hp]
@[congr] theorem aai {cx:Cx} {apps:List Nat} {dsts:List (Option Nat)} {l:List Oper} {id id':Nat} {d:Option Nat} {e:List (Nat×C)} {h:Hp} {fs:List FP} {K:List FP→St→Prop} {cells:List C} {g:Nat→C} {p p':Option (Option (List C))} (hp:p=p'):
   Dj cx apps dsts l id id' d e h fs K cells g p=Dj cx apps dsts l id id' d e h fs K cells g p':=by rw[hp]
@[congr] theorem aaj {cx:Cx} {apps:List Nat} {dsts:List (Option Nat)} {l:List Oper} {id id':Nat} {e:List (Nat×C)} {h h':Hp} {fs:List FP} {K:List FP→St→Prop} (hi:id=id') (hh:h=h'):
   run cx apps dsts l id e h fs K=run cx apps dsts l id' e h' fs K:=by rw[hh,hi]
theorem MC (cx:Cx)(apps:List Nat)(dsts:List (Option Nat))(l:List Oper)(id d:Nat)(c:C)(e:List (Nat×C))(h:Hp)(fs:List FP)(K:List FP→St→Prop):
 run cx apps dsts l id (dR (some d) c e) h fs K=run cx apps dsts l id ((d,c)::e) h fs K:=rfl
theorem MD (cx:Cx)(apps:List Nat)(dsts:List (Option Nat))(l:List Oper)(id:Nat)(c:C)(e:List (Nat×C))(h:Hp)(fs:List FP)(K:List FP→St→Prop):
 run cx apps dsts l id (dR none c e) h fs K=run cx apps dsts l id e h fs K:=rfl
end Go.Sx
