/-
   And what follows.
-/
import Derived.Test.YtmoaeemdlompaaaDoorPam
import Derived.Test.YtmoaeemdlompaaaDoorPak
import Derived.Test.YtmoaeemdlompaaaDoorPal
set_option linter.unusedSimpArgs false
set_option linter.unusedVariables false
namespace Go.Sx
open Go.RowKit
mutual
def bS (r:Nat→Nat):C→C
 | .sv b o n=> .sv (r b) o n
 | .gv b n s=> .gv (r b) n s
 | .bp b o=> .bp (r b) o
 | .mp b=> .mp (r b)
 | .bt b t n=> .bt (r b) t n
 | .sl q n xs=> .sl q n (bkCs r xs)
 | .kp xs=> .kp (bkCs r xs)
 | .agg xs=> .agg (bkCs r xs)
 | .tup xs=> .tup (bkCs r xs)
 | .fn f xs=> .fn f (bkCs r xs)
 | .top=> .top
 | .val v=> .val v
def bkCs (r:Nat→Nat):List C→List C
 | [] =>[]
 |x::xs=>bS r x::bkCs r xs
end
theorem lF (r:Nat→Nat):∀xs:List C,bkCs r xs=xs.map (bS r)
 | [] =>rfl
 |x::xs=>by simp[bkCs,lF r xs]
structure BkG (r:Nat→Nat) (A B:Gh):Prop where
 K:∀b o u,A.K b o=some u→B.K b o=some u
 μ:∀i k,A.μ i=some k→B.μ (r i) =some k
 σ:∀i z,A.σ i=some z→B.σ (r i) =some z
mutual
theorem kL {r:Nat→Nat}{A B:Gh}(h:BkG r A B):∀ (c:C)(v:Value),Rep A c v→Rep B (bS r c) v
 | .top,_,_=>by simp[bS,Rep]
 | .val u,v,q=>by simpa[bS,Rep] using q
 | .sl q n xs,v,x=>by
   simp only[bS,Rep] at x ⊢
   obtain ⟨a,cap,h1,h2,h3,h4,h5⟩:=x
   refine ⟨a,cap,h1,h2,h3,h4,?_⟩
   rcases h5 with h5| ⟨blk,off,ha,hk⟩
   . left;rw[h5];rfl
   . exact .inr ⟨blk,off,ha,bkC_repK h xs blk off hk⟩
 | .sv b off n,v,x=>by
   simp only[bS,Rep] at x ⊢
   obtain ⟨a,cap,h1,h2,h3,h4⟩:=x
   exact ⟨a,cap,h1,h2,h3,fun hz=>by obtain ⟨blk,q1,q2⟩:=h4 hz;exact ⟨blk,h.μ _ _ q1,q2⟩⟩
 | .gv b m s,v,x=>by
   simp only[bS,Rep] at x ⊢
   obtain ⟨a,cap,h1,h2,h3,h4⟩:=x
   refine ⟨a,cap,h1,h2,h3,?_⟩
   rcases h4 with h4| ⟨blk,q1,q2,q3⟩
   . exact .inl h4
   . exact .inr ⟨blk,h.μ _ _ q1,q2,h.σ _ _ q3⟩
 | .bp b off,v,x=>by
   simp only[bS,Rep] at x ⊢
   obtain ⟨blk,h1,h2⟩:=x
   exact ⟨blk,h.μ _ _ h1,h2⟩
 | .mp b,v,x=>by
   simp only[bS,Rep] at x ⊢
   obtain ⟨blk,h1,h2⟩:=x
   exact ⟨blk,h.μ _ _ h1,h2⟩
 | .bt b t n,v,x=>by
   simp only[bS,Rep] at x ⊢
   obtain ⟨blk,h1,h2,h3⟩:=x
   exact ⟨blk,h.μ _ _ h1,h2,h.σ _ _ h3⟩
 | .kp xs,v,x=>by
   simp only[bS,Rep] at x ⊢
   obtain ⟨blk,off,h1,h2⟩:=x
   exact ⟨blk,off,h1,bkC_repK h xs blk off h2⟩
 | .agg xs,v,x=>by
   simp only[bS,Rep] at x ⊢
   obtain ⟨vs,h1,h2,h3⟩:=x
   exact ⟨vs,h1,bkC_repL h xs _ h2,h3⟩
 | .tup xs,v,x=>by
   simp only[bS,Rep] at x ⊢
   obtain ⟨vs,h1,h2⟩:=x
   exact ⟨vs,h1,bkC_repL h xs _ h2⟩
 | .fn f xs,v,x=>by
   simp only[bS,Rep] at x ⊢
   obtain ⟨vs,h1,h2⟩:=x
   exact ⟨vs,h1,bkC_repL h xs _ h2⟩
theorem bkC_repL {r:Nat→Nat}{A B:Gh}(h:BkG r A B):∀ (xs:List C)(vs:List Value),RepL A xs vs→RepL B (bkCs r xs) vs
 | [],vs,q=>by simpa[bkCs,RepL] using q
 |x::xs,vs,q=>by
  simp only[bkCs,RepL] at q ⊢
  obtain ⟨v,vs',h1,h2,h3⟩:=q
  exact ⟨v,vs',h1,kL h x v h2,bkC_repL h xs vs' h3⟩
theorem bkC_repK {r:Nat→Nat}{A B:Gh}(h:BkG r A B):∀ (xs:List C)(blk off:Nat),RepK A blk off xs→RepK B blk off (bkCs r xs)
 | [],_,_,_=>by simp[bkCs,RepK]
 |x::xs,blk,off,q=>by
  simp only[bkCs,RepK] at q ⊢
  obtain ⟨⟨u,h1,h2,h3⟩,h4⟩:=q
  exact ⟨⟨u,h.K _ _ _ h1,h2,kL h x u h3⟩,bkC_repK h xs blk (off+1) h4⟩
end
theorem vm {r:Nat→Nat}{A B:Gh}(h:BkG r A B):∀ (l:List C)(es:List MapEntry),MRep A l es→MRep B (bkCs r l) es
 | [],_,q=>by simpa[MRep,bkCs] using q
 | [_],_,q=>by simp[MRep] at q
 |k::v::l,es,q=>by
  simp only[MRep,bkCs] at q ⊢
  obtain ⟨e,es',h1,h2,h3,h4⟩:=q
  exact ⟨e,es',h1,kL h k _ h2,kL h v _ h3,vm h l es' h4⟩
theorem w4 {r:Nat→Nat}{c:C}{s m:Nat}{xs:List C}(h:bS r c= .sl (.own s) m xs):∃ys,c= .sl (.own s) m ys:=by
 cases c<;>simp only[bS] at h<;>cases h
 exact ⟨_,rfl⟩
theorem B7 {r:Nat→Nat}{c:C}{u:Value}(h:bS r c= .val u):c= .val u:=by
 cases c<;>simp only[bS] at h<;>cases h
 rfl
theorem B8 {r:Nat→Nat}{c:C}{xs:List C}(h:bS r c= .tup xs):∃ys,c= .tup ys∧xs=bkCs r ys:=by
 cases c<;>simp only[bS] at h<;>cases h
 exact ⟨_,rfl,rfl⟩
theorem JM {r:Nat→Nat}{o:Option (List C)}{cells:List C}(h:bE (o.map (bkCs r)) =some cells):∃c0,bE o=some c0∧cells=bkCs r c0:=by
 have h1:=dB h
 cases o with
 |none=>cases h1
 |some c0=>
  simp only[Option.map_some,Option.some.injEq] at h1
  refine ⟨c0,?_,h1.symm⟩
  subst h1
  cases c0 with
  |nil=>rfl
  |cons x l=>
   cases x with
   |tup xs=>simp only[Option.map_some,bkCs,bS] at h;cases h
   |_=>rfl
theorem Pp {r:Nat→Nat}{o:Option (List C)}{l:List C}(h:ec (o.map (bkCs r)) =some l):∃l0,ec o=some l0∧l=bkCs r l0:=by
 cases o with
 |none=>cases h
 |some c0=>exact rq (Fs:=bkCs r) (lF r) (fun _ _=>B7) (fun _ _=>B8) h
def fg (ρ:List Nat)(L:Nat)(i:Nat):Nat:=match ρ[i]? with
 |some b=>b
 |none=>L+(i - ρ.length)
def eg (ρ:List Nat)(L:Nat)(b:Nat):Option Nat:=if b< L then da ρ 0 b else some (ρ.length+(b - L))
def lO (ρ:List Nat)(H h':Hp):Hp:=
 ((List.range H.length).map fun b=>match da ρ 0 b with
   |some i=>((h'[i]?).getD none).map (bkCs (fg ρ H.length))
   |none=>(H[b]?).getD none)++(h'.drop ρ.length).map (Option.map (bkCs (fg ρ H.length)))
section
variable {ρ:List Nat} {H h':Hp}
theorem tI (hn:ρ.Nodup)(hl:∀b∈ρ,b< H.length)(i:Nat):eg ρ H.length (fg ρ H.length i) =some i:=by
 unfold eg fg
 cases hi:ρ[i]? with
 |some b=>
  simp only[]
  rw[if_pos (hl b (List.mem_of_getElem? hi)),im hn hi,Nat.zero_add]
 |none=>
  simp only[]
  have:ρ.length≤i:=List.getElem?_eq_none_iff.1 hi
  rw[if_neg (by omega)]
  congr 1;omega
theorem nJ {b i:Nat}(h:eg ρ H.length b=some i):fg ρ H.length i=b:=by
 unfold eg at h
 unfold fg
 split at h
 . have:=(d9 h).2
   rw[Nat.sub_zero] at this
   rw[this]
 . cases h
   rw[List.getElem?_eq_none (by omega)]
   simp only[]
   omega
theorem nK (b:Nat): (lO ρ H h')[b]? =match eg ρ H.length b with
 |some i=>if b< H.length then some (((h'[i]?).getD none).map (bkCs (fg ρ H.length))) else (h'[i]?).map (Option.map (bkCs (fg ρ H.length)))
 |none=>H[b]? :=by
 unfold lO eg
 by_cases hb:b< H.length
 . rw[List.getElem?_append_left (by simpa using hb),List.getElem?_map,List.getElem?_range hb,if_pos hb]
   simp only[Option.map_some]
   cases hl:da ρ 0 b with
   |some i=>simp only[hb,if_true]
   |none=>simp only[];rw[List.getElem?_eq_getElem hb];rfl
 . rw[List.getElem?_append_right (by simp;omega),if_neg hb]
   simp only[List.length_map,List.length_range,List.getElem?_map,List.getElem?_drop,hb,if_false]
theorem qi {b:Nat}{cells:List C}(h: (lO ρ H h').at b=some cells): (∃i c0,eg ρ H.length b=some i∧h'.at i=some c0∧cells=bkCs (fg ρ H.length) c0)∨(eg ρ H.length b=none∧H.at b=some cells):=by
 unfold Hp.at at h
 rw[nK] at h
 cases hs:eg ρ H.length b with
 |none=>rw[hs] at h;exact .inr ⟨rfl,h⟩
 |some i=>
  rw[hs] at h
  left
  have:∃o,h'[i]? =some o∧bE (o.map (bkCs (fg ρ H.length))) =some cells:=by
   simp only[] at h
   split at h
   . cases hq:h'[i]? with
     |none=>rw[hq] at h;cases h
     |some o=>rw[hq] at h;exact ⟨o,rfl,h⟩
   . cases hq:h'[i]? with
     |none=>rw[hq] at h;cases h
     |some o=>rw[hq] at h;exact ⟨o,rfl,h⟩
  obtain ⟨o,h1,h2⟩:=this
  obtain ⟨c0,h3,h4⟩:=JM h2
  exact ⟨i,c0,rfl,by unfold Hp.at;rw[h1];exact h3,h4⟩
theorem vn {b:Nat}{l:List C}(h: (lO ρ H h').mp b=some l): (∃i l0,eg ρ H.length b=some i∧h'.mp i=some l0∧l=bkCs (fg ρ H.length) l0)∨(eg ρ H.length b=none∧H.mp b=some l):=by
 unfold Hp.mp at h
 rw[nK] at h
 cases hs:eg ρ H.length b with
 |none=>rw[hs] at h;exact .inr ⟨rfl,h⟩
 |some i=>
  rw[hs] at h
  left
  have:∃o,h'[i]? =some o∧ec (o.map (bkCs (fg ρ H.length))) =some l:=by
   simp only[] at h
   split at h
   . cases hq:h'[i]? with
     |none=>rw[hq] at h;cases h
     |some o=>rw[hq] at h;exact ⟨o,rfl,h⟩
   . cases hq:h'[i]? with
     |none=>rw[hq] at h;cases h
     |some o=>rw[hq] at h;exact ⟨o,rfl,h⟩
  obtain ⟨o,h1,h2⟩:=this
  obtain ⟨c0,h3,h4⟩:=Pp h2
  exact ⟨i,c0,rfl,by unfold Hp.mp;rw[h1];exact h3,h4⟩
theorem EQ {b i:Nat}{c0:List C}(hs:eg ρ H.length b=some i)(h:h'[i]? =some (some c0)): (lO ρ H h')[b]? =some (some (bkCs (fg ρ H.length) c0)):=by
 rw[nK,hs]
 simp only[h]
 split<;>rfl
end
open Classical in
noncomputable def d4 (ρ:List Nat)(L z:Nat)(G G2:Gh):Gh where
 K:=G2.K
 μ:=fun b=>match eg ρ L b with
  |some i=>G2.μ i
  |none=>G.μ b
 T:=fun g=>match G2.T g with
  |some p=>some (if p.1=1 then (1,fg ρ L p.2.1,p.2.2) else p)
  |none=>if g< z∧(cB ρ G).T g=none then G.T g else none
 σ:=fun b=>match eg ρ L b with
  |some i=>G2.σ i
  |none=>G.σ b
theorem sx {P:Program}{gl:Nat→C}{f:Nat}{args:List C}{c:C}{H h':Hp}(ρ:List Nat)(hn:ρ.Nodup)(hlive:∀b∈ρ,(H.at b).isSome=true∨(H.mp b).isSome=true)
 (hD:∀b,b< H.length→b∉ρ→(H.at b).isSome=true∨(H.mp b).isSome=true∨H[b]? =some none)
 (hf:FC P gl f (mvCs ρ args) (gf ρ H) c h') (hg:∀g,ah 0 (gl g) =true):
 FC P gl f args H (bS (fg ρ H.length) c) (lO ρ H h'):=by
 obtain ⟨he,hf⟩:=hf
 refine ⟨he,fun G w vs W hTg hgl hr=>?_⟩
 have hl:∀b∈ρ,b< H.length:=fun b hb=>by
  rcases hlive b hb with h|h
  . obtain ⟨x,hx⟩:=Option.isSome_iff_exists.1 h;exact dy hx
  . obtain ⟨x,hx⟩:=Option.isSome_iff_exists.1 h;exact uy hx
 have W1:WorldOK (cB ρ G) (gf ρ H) w:=W.mv hn
 have hT1:∀g,G.T g=none→(cB ρ G).T g=none:=fun g h=>by simp only[cB,h]
 have hT1b:∀g b o,G.T g=some (1,b,o)→b∉ρ→(cB ρ G).T g=none:=fun g b o h hb=>by
  simp only[cB,h,if_true]
  cases hq:da ρ 0 b with
  |none=>rfl
  |some j=>have:=(d9 hq).2;exact (hb (List.mem_of_getElem? this)).elim
 refine Calls.mono (hf (cB ρ G) w vs W1 (fun g p x=>by
  simp only[cB] at x
  cases hq:G.T g with
  |none=>rw[hq] at x;cases x
  |some q=>
   rw[hq] at x
   have:=hTg g q hq
   simp only[this,if_true] at x
   cases hz:da ρ 0 q.2.1 with
   |none=>rw[hz] at x;cases x
   |some j=>rw[hz] at x;cases x;rfl) (fun g=>sr (hg g) (hgl g)) (mvC_repL _ _ hr)) ?_
 rintro e w' ⟨v,G2,rfl,rv,ro,W2,F⟩
 have hμ1:∀i blk,(cB ρ G).μ i=some blk→∃b,ρ[i]? =some b∧G.μ b=some blk:=fun i blk x=>by
  simp only[cB] at x
  cases hq:ρ[i]? with
  |none=>rw[hq] at x;cases x
  |some q=>rw[hq] at x;exact ⟨q,rfl,x⟩
 have hout:∀b blk,eg ρ H.length b=none→G.μ b=some blk→((H.at b).isSome=true∨(H.mp b).isSome=true)∧∀i,(cB ρ G).μ i≠some blk:=fun b blk hs hm=>by
  obtain ⟨⟨c1,hc1⟩,_⟩:=W.dom b blk hm
  have hbl:=(List.getElem?_eq_some_iff.1 hc1).1
  have hbρ:b∉ρ:=fun hb=>by
   obtain ⟨i,hi⟩:=List.getElem?_of_mem hb
   have:=tI (H:=H) hn hl i
   unfold fg at this
   rw[hi] at this
   rw[hs] at this;cases this
  have hlv: (H.at b).isSome=true∨(H.mp b).isSome=true:=by
   rcases hD b hbl hbρ with h|h|h
   . exact .inl h
   . exact .inr h
   . rw[hc1] at h;cases h
  refine ⟨hlv,fun i hi=>?_⟩
  obtain ⟨q,hq,hqm⟩:=hμ1 i blk hi
  have hqρ:=List.mem_of_getElem? hq
  have hne:b≠q:=fun e=>hbρ (e▸hqρ)
  rcases hlv with h1|h1<;>rcases hlive q hqρ with h2|h2<;>obtain ⟨x1,y1⟩:=Option.isSome_iff_exists.1 h1<;>obtain ⟨x2,y2⟩:=Option.isSome_iff_exists.1 h2
  . exact hne (W.inj b q _ _ blk y1 y2 hm hqm)
  . obtain ⟨k,es,clk,q1,q2,_⟩:=W.mpo q x2 y2
    rw[hqm] at q1;cases q1
    obtain ⟨cs,e,⟨fr,r2,_⟩,_⟩:=W.bx y1 hm
    rw[q2] at r2;cases r2
  . obtain ⟨k,es,clk,q1,q2,_⟩:=W.mpo b x1 y1
    rw[hm] at q1;cases q1
    obtain ⟨cs,e,⟨fr,r2,_⟩,_⟩:=W.bx y2 hqm
    rw[q2] at r2;cases r2
  . exact hne (W.mpi b q _ _ blk y1 y2 hm hqm)
 have hobl:∀b blk,eg ρ H.length b=none→G.μ b=some blk→w'.heap[blk]? =w.heap[blk]? ∧G2.T blk=none∧(∀i,G2.μ i≠some blk)∧∀o,G2.K blk o=G.K blk o:=fun b blk hs hm=>
  F.old blk (W.dom b blk hm).2 (hT1 _ (W.sep b blk hm).2) (hout b blk hs hm).2
 have hμlt:∀b blk,G.μ b=some blk→blk< w.heap.size:=fun b blk x=>(W.dom b blk x).2
 have hrow:∀g b o,G.T g=some (1,b,o)→b∉ρ→w'.heap[g]? =w.heap[g]? ∧G2.T g=none∧(∀i,G2.μ i≠some g)∧∀o,G2.K g o=G.K g o:=fun g b o hg hb=>
  F.old g (W.tlt g _ hg) (hT1b g b o hg hb) (fun i hi=>by
   obtain ⟨q,_,hq⟩:=hμ1 i g hi
   have:=(W.sep q g hq).2;rw[hg] at this;cases this)
 have gk:BkG (fg ρ H.length) G2 (d4 ρ H.length w.heap.size G G2):=⟨fun _ _ _ x=>x,fun i k x=>by simp only[d4,tI hn hl];exact x,fun i z x=>by simp only[d4,tI hn hl];exact x⟩
 have le3:G.Le (d4 ρ H.length w.heap.size G G2):=by
  refine ⟨fun b o u x=>F.le.K b o u x,fun b k x=>?_,fun b z x=>?_⟩
  . simp only[d4]
    cases hs:eg ρ H.length b with
    |none=>exact x
    |some i=>
     simp only[]
     have hb:=nJ hs
     refine F.le.μ i k ?_
     obtain ⟨⟨c1,hc1⟩,_⟩:=W.dom b k x
     have hbl:=(List.getElem?_eq_some_iff.1 hc1).1
     simp only[eg,hbl,if_true] at hs
     have:=(d9 hs).2
     rw[Nat.sub_zero] at this
     simp only[cB,this];exact x
  . simp only[d4]
    cases hs:eg ρ H.length b with
    |none=>exact x
    |some i=>
     simp only[]
     refine F.le.σ i z ?_
     obtain ⟨blk,_,_,_,q1,_⟩:=W.siz b z x
     obtain ⟨⟨c1,hc1⟩,_⟩:=W.dom b blk q1
     have hbl:=(List.getElem?_eq_some_iff.1 hc1).1
     simp only[eg,hbl,if_true] at hs
     have:=(d9 hs).2
     rw[Nat.sub_zero] at this
     simp only[cB,this];exact x
 have hSρ:∀b,eg ρ H.length b=none→b∉ρ:=fun b hs hb=>by
  obtain ⟨i,hi⟩:=List.getElem?_of_mem hb
  have:=tI (H:=H) hn hl i
  unfold fg at this
  rw[hi] at this
  rw[hs] at this;cases this
 have ownI:∀ (p p':bD)(u:Value)(s n:Nat),OwnRow G2 w' p u s n→p'= (if p.1=1 then (1,fg ρ H.length p.2.1,p.2.2) else p)→OwnRow (d4 ρ H.length w.heap.size G G2) w' p' u s n:=fun p p' u s n O hp=>by
  rcases O with O| ⟨g,cap,cur,e,a1,a2,a3,a4,a5,a6⟩
  . exact .inl O
  . refine .inr ⟨g,cap,cur,e,a1,by simp only[d4,a2];rw[hp],a3,a4,a5,fun b hb=>?_⟩
    simp only[d4] at hb
    cases hs:eg ρ H.length b with
    |some i=>rw[hs] at hb;exact a6 i hb
    |none=>
     rw[hs] at hb
     have:=(hobl b g hs hb).2.1
     rw[a2] at this;cases this
 refine ⟨v,d4 ρ H.length w.heap.size G G2,rfl,kL gk c v rv,fun s n xs e=>?_,⟨fun blk off u x=>W2.known blk off u x,fun b cells hb=>?_,fun b blk hm=>?_,fun b b' c1 c2 blk hb hb' hm hm'=>?_,fun b blk hm=>?_,fun g p hp=>?_,fun b cells off s n xs blk u hb hc hm hv=>?_,fun b z hz=>?_,fun b l hb=>?_,fun b b' l l' blk hb hb' hm hm'=>?_⟩,F.os,F.tape,F.output,F.size,le3,fun g hg' ht hm=>?_⟩
 . obtain ⟨ys,hy⟩:=w4 e
   exact ownI _ _ v s n (ro s n ys hy) rfl
 . rcases qi hb with ⟨i,c0,hs,h1,rfl⟩ | ⟨hs,h1⟩
   . rcases W2.box i c0 h1 with ⟨hE,hE2⟩ | ⟨blk,cs,e,q1,q2,q3,q4,q5⟩
     . exact .inl ⟨by rw[hE];rfl,by simp only[d4,hs];exact hE2⟩
     . have hlen: (bkCs (fg ρ H.length) c0).length=c0.length:=by rw[lF];simp
       exact .inr ⟨blk,cs,e,by simp only[d4,hs];exact q1,q2,by rw[hlen];exact q3,by rw[hlen];exact bkC_repL gk _ _ q4,q5⟩
   . rcases W.box b cells h1 with ⟨hE,hE2⟩ | ⟨blk,cs,e,q1,q2,q3,q4,q5⟩
     . exact .inl ⟨hE,by simp only[d4,hs];exact hE2⟩
     . exact .inr ⟨blk,cs,e,by simp only[d4,hs];exact q1,by rw[(hobl b blk hs q1).1];exact q2,q3,q4.mono le3,q5⟩
 . simp only[d4] at hm
   cases hs:eg ρ H.length b with
   |some i=>
    rw[hs] at hm
    obtain ⟨⟨c1,hc1⟩,hlt⟩:=W2.dom i blk hm
    exact ⟨⟨_,EQ hs hc1⟩,hlt⟩
   |none=>
    rw[hs] at hm
    obtain ⟨⟨c1,hc1⟩,hlt⟩:=W.dom b blk hm
    exact ⟨⟨c1,by rw[nK,hs];exact hc1⟩,Nat.lt_of_lt_of_le hlt F.size⟩
 . simp only[d4] at hm hm'
   rcases qi hb with ⟨i,c0,hs,h1,_⟩ | ⟨hs,h1⟩ <;>rcases qi hb' with ⟨i',c0',hs',h1',_⟩ | ⟨hs',h1'⟩
   . rw[hs] at hm
     rw[hs'] at hm'
     have:=W2.inj i i' _ _ blk h1 h1' hm hm'
     subst this
     rw[←nJ hs,←nJ hs']
   . rw[hs] at hm
     rw[hs'] at hm'
     exact ((hobl b' blk hs' hm').2.2.1 i hm).elim
   . rw[hs] at hm
     rw[hs'] at hm'
     exact ((hobl b blk hs hm).2.2.1 i' hm').elim
   . rw[hs] at hm
     rw[hs'] at hm'
     exact W.inj b b' _ _ blk h1 h1' hm hm'
 . simp only[d4] at hm
   cases hs:eg ρ H.length b with
   |some i=>
    rw[hs] at hm
    obtain ⟨s1,s2⟩:=W2.sep i blk hm
    refine ⟨s1,?_⟩
    simp only[d4,s2]
    split
    . rename_i hc
      cases hq:G.T blk with
      |none=>rfl
      |some p=>
       have hp1:=hTg blk p hq
       obtain ⟨p1,pb,po⟩:=p
       simp only at hp1
       subst hp1
       have hpb:pb∉ρ:=fun hb=>by
        obtain ⟨j,hj⟩:=List.getElem?_of_mem hb
        have h1:=hc.2
        simp only[cB,hq,if_true,im (k:=0) hn hj] at h1
        cases h1
       exact ((hrow blk pb po hq hpb).2.2.1 i hm).elim
    . rfl
   |none=>
    rw[hs] at hm
    obtain ⟨s1,s2⟩:=W.sep b blk hm
    obtain ⟨o1,o2,o3,o4⟩:=hobl b blk hs hm
    refine ⟨fun o=>(o4 o).trans (s1 o),?_⟩
    simp only[d4,o2,s2]
    split<;>rfl
 . simp only[d4] at hp
   cases hq:G2.T g with
   |some p2=>exact W2.tlt g p2 hq
   |none=>
    rw[hq] at hp
    simp only[] at hp
    split at hp
    . exact Nat.lt_of_lt_of_le (W.tlt g p hp) F.size
    . cases hp
 . simp only[d4] at hm
   rcases qi hb with ⟨i,c0,hs,h1,rfl⟩ | ⟨hs,h1⟩
   . rw[hs] at hm
     rw[lF,List.getElem?_map] at hc
     cases hq:c0[off]? with
     |none=>rw[hq] at hc;cases hc
     |some y=>
      rw[hq] at hc
      simp only[Option.map_some,Option.some.injEq] at hc
      obtain ⟨ys,rfl⟩:=w4 hc
      refine ownI _ _ u s n (W2.own i c0 off s n ys blk u h1 hq hm hv) ?_
      rw[if_pos rfl,nJ hs]
   . rw[hs] at hm
     have hcell:w'.cell? ⟨blk,off,none⟩ =w.cell? ⟨blk,off,none⟩:=by
      unfold World.cell?;rw[(hobl b blk hs hm).1]
     rcases W.own b cells off s n xs blk u h1 hc hm (by rw[←hcell];exact hv) with O| ⟨g,cap,cur,e,a1,a2,a3,a4,a5,a6⟩
     . exact .inl O
     . have hbρ:=hSρ b hs
       obtain ⟨o1,o2,o3,o4⟩:=hrow g b off a2 hbρ
       refine .inr ⟨g,cap,cur,e,a1,?_,o1.trans a3,a4,fun o ho=>(o4 o).trans (a5 o ho),fun b' hb'=>?_⟩
       . simp only[d4,o2]
         rw[if_pos ⟨W.tlt g _ a2,hT1b g b off a2 hbρ⟩];exact a2
       . simp only[d4] at hb'
         cases hs':eg ρ H.length b' with
         |some i=>rw[hs'] at hb';exact o3 i hb'
         |none=>rw[hs'] at hb';exact a6 b' hb'
 . simp only[d4] at hz ⊢
   cases hs:eg ρ H.length b with
   |some i=>
    rw[hs] at hz
    exact W2.siz i z hz
   |none=>
    rw[hs] at hz
    obtain ⟨blk,cs,e,fr,q1,q2,q3⟩:=W.siz b z hz
    exact ⟨blk,cs,e,fr,q1,(hobl b blk hs q1).1.trans q2,q3⟩
 . rcases vn hb with ⟨i,l0,hs,h1,rfl⟩ | ⟨hs,h1⟩
   . obtain ⟨blk,es,clk,q1,q2,q3⟩:=W2.mpo i l0 h1
     exact ⟨blk,es,clk,by simp only[d4,hs];exact q1,q2,vm gk _ _ q3⟩
   . obtain ⟨blk,es,clk,q1,q2,q3⟩:=W.mpo b l h1
     exact ⟨blk,es,clk,by simp only[d4,hs];exact q1,(hobl b blk hs q1).1.trans q2,q3.mono le3⟩
 . simp only[d4] at hm hm'
   rcases vn hb with ⟨i,c0,hs,h1,_⟩ | ⟨hs,h1⟩ <;>rcases vn hb' with ⟨i',c0',hs',h1',_⟩ | ⟨hs',h1'⟩
   . rw[hs] at hm
     rw[hs'] at hm'
     have:=W2.mpi i i' _ _ blk h1 h1' hm hm'
     subst this
     rw[←nJ hs,←nJ hs']
   . rw[hs] at hm
     rw[hs'] at hm'
     exact ((hobl b' blk hs' hm').2.2.1 i hm).elim
   . rw[hs] at hm
     rw[hs'] at hm'
     exact ((hobl b blk hs hm).2.2.1 i' hm').elim
   . rw[hs] at hm
     rw[hs'] at hm'
     exact W.mpi b b' _ _ blk h1 h1' hm hm'
 . obtain ⟨o1,o2,o3,o4⟩:=F.old g hg' (hT1 g ht) (fun i hi=>by obtain ⟨q,_,hq⟩:=hμ1 i g hi;exact hm q hq)
   refine ⟨o1,?_,fun b hb=>?_,o4⟩
   . simp only[d4,o2,ht];split<;>rfl
   . simp only[d4] at hb
     cases hs:eg ρ H.length b with
     |some i=>rw[hs] at hb;exact o3 i hb
     |none=>rw[hs] at hb;exact hm b hb
end Go.Sx
namespace Go.Sx
open Go.RowKit
theorem gB (n:Nat):∀ (k s b:Nat),da (List.range' n k) s b=if n≤b∧b< n+k then some (s+(b - n)) else none
 |0,s,b=>by
  rw[if_neg (by omega)];rfl
 |k+1,s,b=>by
  rw[List.range'_succ]
  simp only[da]
  by_cases h:b=n
  . rw[if_pos h,if_pos (by omega)];congr 1;omega
  . rw[if_neg h,gB (n+1) k (s+1) b]
    by_cases h2:n≤b∧b< n+(k+1)
    . rw[if_pos (by omega),if_pos h2];congr 1;omega
    . rw[if_neg (by omega),if_neg h2]
section
variable {n k:Nat}
theorem jp {b:Nat}(h:b< k):da (List.range' n k) 0 (n+b) =some b:=by
 rw[gB,if_pos (by omega)];congr 1;omega
mutual
theorem SK:∀c:C,ah k c=true→bn (List.range' n k) (bS (n+ ·) c) =c
 | .top,_=>by simp only[bS,bn]
 | .val v,_=>by simp only[bS,bn]
 | .sv b o m,h=>by simp only[ah,decide_eq_true_eq] at h;simp only[bS,bn,jp h]
 | .gv b m s,h=>by simp only[ah,decide_eq_true_eq] at h;simp only[bS,bn,jp h]
 | .bp b o,h=>by simp only[ah,decide_eq_true_eq] at h;simp only[bS,bn,jp h]
 | .mp b,h=>by simp only[ah,decide_eq_true_eq] at h;simp only[bS,bn,jp h]
 | .bt b t m,h=>by simp only[ah,decide_eq_true_eq] at h;simp only[bS,bn,jp h]
 | .sl r m xs,h=>by simp only[ah] at h;simp only[bS,bn,mv_bks xs h]
 | .kp xs,h=>by simp only[ah] at h;simp only[bS,bn,mv_bks xs h]
 | .agg xs,h=>by simp only[ah] at h;simp only[bS,bn,mv_bks xs h]
 | .tup xs,h=>by simp only[ah] at h;simp only[bS,bn,mv_bks xs h]
 | .fn f xs,h=>by simp only[ah] at h;simp only[bS,bn,mv_bks xs h]
theorem mv_bks:∀l:List C,noRefs k l=true→mvCs (List.range' n k) (bkCs (n+ ·) l) =l
 | [],_=>by simp only[bkCs,mvCs]
 |x::l,h=>by
  simp only[noRefs,Bool.and_eq_true] at h
  simp only[bkCs,mvCs,SK x h.1,mv_bks l h.2]
end
end
def cR (n:Nat)(h:Hp):Hp:=h.map (Option.map (bkCs (n+ ·)))
def iF (o:Option (List C)):Bool:=(bE o).isSome|| (ec o).isSome||o.isNone
theorem kM (n:Nat):cR n [] = []:=rfl
theorem gV (n:Nat)(o:Option (List C))(h:Hp):cR n (o::h) =o.map (bkCs (n+ ·))::cR n h:=rfl
theorem w5 {r:Nat→Nat}{o:Option (List C)}(h: (bE o).isSome=true): (bE (o.map (bkCs r))).isSome=true:=by
 cases o with
 |none=>exact h
 |some cells=>
  cases cells with
  |nil=>rfl
  |cons c l=>cases c<;>first|rfl| (simp only[bE] at h;cases h)
theorem GV {r:Nat→Nat}{o:Option (List C)}(h: (ec o).isSome=true): (ec (o.map (bkCs r))).isSome=true:=by
 obtain ⟨l,hl⟩:=Option.isSome_iff_exists.1 h
 unfold ec at hl
 split at hl
 . cases hl;rfl
 . cases hl
theorem FC.pre {P:Program}{gl:Nat→C}{f:Nat}{args:List C}{c:C}{X h':Hp}(hf:FC P gl f args X c h')(pre:Hp)(hpre:∀o∈pre,iF o=true)(hX:∀o∈X,((bE o).isSome|| (ec o).isSome) =true)
 (hn:noRefs X.length args=true) (hnX:∀o∈X,∀cells,o=some cells→noRefs X.length cells=true) (hk:X.length≤h'.length) (hg:∀g,ah 0 (gl g) =true):
 FC P gl f (bkCs (pre.length+ ·) args) (pre++cR pre.length X) (bS (pre.length+ ·) c) (pre++cR pre.length h'):=by
 have hρl: (List.range' pre.length X.length).length=X.length:=by simp
 have hHl: (pre++cR pre.length X).length=pre.length+X.length:=by simp[cR]
 have hget:∀i,(pre++cR pre.length X)[pre.length+i]? = (X[i]?).map (Option.map (bkCs (pre.length+ ·))):=fun i=>by
  rw[List.getElem?_append_right (by omega)]
  unfold cR
  rw[List.getElem?_map,show pre.length+i - pre.length=i by omega]
 have hmv:gf (List.range' pre.length X.length) (pre++cR pre.length X) =X:=by
  unfold gf
  apply List.ext_getElem?
  intro i
  rw[List.getElem?_map]
  by_cases hi:i< X.length
  . rw[List.getElem?_range' hi,Option.map_some,Nat.one_mul,hget]
    rw[List.getElem?_eq_getElem hi]
    simp only[Option.map_some,Option.getD_some]
    congr 1
    cases hx:X[i] with
    |none=>rfl
    |some cells=>
     simp only[Option.map_some]
     congr 1
     exact mv_bks cells (hnX _ (List.getElem_mem hi) cells hx)
  . rw[List.getElem?_eq_none (by rw[hρl];omega),List.getElem?_eq_none (by omega)];rfl
 have hR:fg (List.range' pre.length X.length) (pre++cR pre.length X).length= (pre.length+ ·):=by
  funext i
  unfold fg
  by_cases hi:i< X.length
  . rw[List.getElem?_range' hi];simp
  . rw[List.getElem?_eq_none (by rw[hρl];omega)]
    simp only[hρl,hHl]
    omega
 have:=sx (P:=P) (gl:=gl) (f:=f) (args:=bkCs (pre.length+ ·) args) (c:=c) (H:=pre++cR pre.length X) (h':=h') (List.range' pre.length X.length) List.nodup_range' (fun b hb=>by
  obtain ⟨h1,h2⟩:=List.mem_range'_1.1 hb
  obtain ⟨i,rfl⟩:∃i,b=pre.length+i:=⟨b - pre.length,by omega⟩
  have hi:i< X.length:=by omega
  have h3:=hX _ (List.getElem_mem hi)
  simp only[Bool.or_eq_true] at h3
  unfold Hp.at Hp.mp
  rw[hget,List.getElem?_eq_getElem hi]
  exact h3.imp (fun h=>w5 h) (fun h=>GV h))
  (fun b hb hnb=>by
    rw[hHl] at hb
    have hlt:b< pre.length:=by
     rcases Nat.lt_or_ge b pre.length with h|h
     . exact h
     . exact (hnb (List.mem_range'_1.2 ⟨h,by omega⟩)).elim
    have h3:=hpre _ (List.getElem_mem hlt)
    unfold Hp.at Hp.mp
    rw[List.getElem?_append_left hlt,List.getElem?_eq_getElem hlt]
    simp only[iF,Bool.or_eq_true] at h3
    rcases h3 with (h|h) |h
    . exact .inl h
    . exact .inr (.inl h)
    . exact .inr (.inr (by congr 1;exact Option.isNone_iff_eq_none.1 h)))
  (by rw[hmv,mv_bks args hn];exact hf) hg
 rw[hR] at this
 have hH:lO (List.range' pre.length X.length) (pre++cR pre.length X) h'=pre++cR pre.length h':=by
  have hS:lO (List.range' pre.length X.length) (pre++cR pre.length X) h'= ((List.range (pre.length+X.length)).map fun b=>match da (List.range' pre.length X.length) 0 b with
   |some i=>((h'[i]?).getD none).map (bkCs (pre.length+ ·))
   |none=>((pre++cR pre.length X)[b]?).getD none)++(h'.drop X.length).map (Option.map (bkCs (pre.length+ ·))):=by
   unfold lO;rw[hR,hHl,hρl] <;>rfl
  rw[hS,List.range_add,List.map_append,List.append_assoc]
  congr 1
  . apply List.ext_getElem?
    intro i
    rw[List.getElem?_map]
    by_cases hi:i< pre.length
    . rw[List.getElem?_range hi,Option.map_some,gB,if_neg (by omega)]
      simp only[]
      rw[List.getElem?_append_left hi,List.getElem?_eq_getElem hi];rfl
    . rw[List.getElem?_eq_none (by simp;omega),List.getElem?_eq_none (by omega)];rfl
  . unfold cR
    rw[List.map_map]
    conv=>rhs;rw[←List.take_append_drop X.length h',List.map_append]
    congr 1
    apply List.ext_getElem?
    intro i
    rw[List.getElem?_map,List.getElem?_map,List.getElem?_take]
    by_cases hi:i< X.length
    . rw[List.getElem?_range hi,if_pos hi,List.getElem?_eq_getElem (by omega)]
      simp only[Option.map_some,Function.comp,jp hi]
      rw[List.getElem?_eq_getElem (by omega)];rfl
    . rw[List.getElem?_eq_none (by simp;omega),if_neg hi];rfl
 rw[hH] at this
 exact this
theorem FC.never {P:Program}{gl:Nat→C}{f:Nat}{args:List C}{c:C}{h':Hp}(he:iN P f)(b t n:Nat)(l:List C)(ha:args= .bt b t n::l):FC P gl f args [] c h':=by
 refine ⟨he,fun G w vs W _ _ hr=>?_⟩
 subst ha
 simp only[RepL,Rep] at hr
 obtain ⟨v,vs',_,⟨blk,h1,_⟩,_⟩:=hr
 obtain ⟨⟨c,hc⟩,_⟩:=W.dom b blk h1
 cases hc
end Go.Sx
namespace Go.Sx
open Go.RowKit
end Go.Sx
namespace Go.Sx
open Go.RowKit
def gW (n k s:Nat)(i:Nat):Nat:=if i< k then n+i else n+s+i
theorem Pq {P:Program}{gl:Nat→C}{f:Nat}{args:List C}{c:C}{X h':Hp}(hf:FC P gl f args X c h')(pre suf:Hp)(hpre:∀o∈pre,iF o=true)(hsuf:∀o∈suf,iF o=true)(hX:∀o∈X,((bE o).isSome|| (ec o).isSome) =true)
 (hn:noRefs X.length args=true) (hnX:∀o∈X,∀cells,o=some cells→noRefs X.length cells=true) (hk:X.length≤h'.length) (hg:∀g,ah 0 (gl g) =true):
 FC P gl f (bkCs (pre.length+ ·) args) (pre++(cR pre.length X++suf)) (bS (gW pre.length X.length suf.length) c)
  (pre++((h'.take X.length).map (Option.map (bkCs (gW pre.length X.length suf.length)))++(suf++(h'.drop X.length).map (Option.map (bkCs (gW pre.length X.length suf.length)))))):=by
 have hρl: (List.range' pre.length X.length).length=X.length:=by simp
 have hHl: (pre++(cR pre.length X++suf)).length=pre.length+(X.length+suf.length):=by simp[cR]
 have hget:∀i,i< X.length→(pre++(cR pre.length X++suf))[pre.length+i]? = (X[i]?).map (Option.map (bkCs (pre.length+ ·))):=fun i hi=>by
  rw[List.getElem?_append_right (by omega),show pre.length+i - pre.length=i by omega,List.getElem?_append_left (by simp[cR];omega)]
  unfold cR
  rw[List.getElem?_map]
 have hmv:gf (List.range' pre.length X.length) (pre++(cR pre.length X++suf)) =X:=by
  unfold gf
  apply List.ext_getElem?
  intro i
  rw[List.getElem?_map]
  by_cases hi:i< X.length
  . rw[List.getElem?_range' hi,Option.map_some,Nat.one_mul,hget i hi]
    rw[List.getElem?_eq_getElem hi]
    simp only[Option.map_some,Option.getD_some]
    congr 1
    cases hx:X[i] with
    |none=>rfl
    |some cells=>
     simp only[Option.map_some]
     congr 1
     exact mv_bks cells (hnX _ (List.getElem_mem hi) cells hx)
  . rw[List.getElem?_eq_none (by rw[hρl];omega),List.getElem?_eq_none (by omega)];rfl
 have hR:fg (List.range' pre.length X.length) (pre++(cR pre.length X++suf)).length=gW pre.length X.length suf.length:=by
  funext i
  unfold fg gW
  by_cases hi:i< X.length
  . rw[List.getElem?_range' hi,if_pos hi];simp
  . rw[List.getElem?_eq_none (by rw[hρl];omega),if_neg hi]
    simp only[hρl,hHl]
    omega
 have:=sx (P:=P) (gl:=gl) (f:=f) (args:=bkCs (pre.length+ ·) args) (c:=c) (H:=pre++(cR pre.length X++suf)) (h':=h') (List.range' pre.length X.length) List.nodup_range' (fun b hb=>by
  obtain ⟨h1,h2⟩:=List.mem_range'_1.1 hb
  obtain ⟨i,rfl⟩:∃i,b=pre.length+i:=⟨b - pre.length,by omega⟩
  have hi:i< X.length:=by omega
  have h3:=hX _ (List.getElem_mem hi)
  simp only[Bool.or_eq_true] at h3
  unfold Hp.at Hp.mp
  rw[hget i hi,List.getElem?_eq_getElem hi]
  exact h3.imp (fun h=>w5 h) (fun h=>GV h))
  (fun b hb hnb=>by
    rw[hHl] at hb
    have key:∃o,(pre++(cR pre.length X++suf))[b]? =some o∧iF o=true:=by
     rcases Nat.lt_or_ge b pre.length with h|h
     . exact ⟨_,by rw[List.getElem?_append_left h,List.getElem?_eq_getElem h],hpre _ (List.getElem_mem h)⟩
     . have h2:pre.length+X.length≤b:=by
        rcases Nat.lt_or_ge b (pre.length+X.length) with h2|h2
        . exact (hnb (List.mem_range'_1.2 ⟨h,h2⟩)).elim
        . exact h2
       have h3:b - pre.length - X.length< suf.length:=by omega
       refine ⟨suf[b - pre.length - X.length],?_,hsuf _ (List.getElem_mem h3)⟩
       rw[List.getElem?_append_right h,List.getElem?_append_right (by simp[cR];omega)]
       rw[show (cR pre.length X).length=X.length by simp[cR],List.getElem?_eq_getElem h3]
    obtain ⟨o,ho,h3⟩:=key
    unfold Hp.at Hp.mp
    rw[ho]
    simp only[iF,Bool.or_eq_true] at h3
    rcases h3 with (h|h) |h
    . exact .inl h
    . exact .inr (.inl h)
    . exact .inr (.inr (by congr 1;exact Option.isNone_iff_eq_none.1 h)))
  (by rw[hmv,mv_bks args hn];exact hf) hg
 rw[hR] at this
 have hH:lO (List.range' pre.length X.length) (pre++(cR pre.length X++suf)) h'=pre++((h'.take X.length).map (Option.map (bkCs (gW pre.length X.length suf.length)))++(suf++(h'.drop X.length).map (Option.map (bkCs (gW pre.length X.length suf.length))))):=by
  have hS:lO (List.range' pre.length X.length) (pre++(cR pre.length X++suf)) h'= ((List.range (pre.length+(X.length+suf.length))).map fun b=>match da (List.range' pre.length X.length) 0 b with
   |some i=>((h'[i]?).getD none).map (bkCs (gW pre.length X.length suf.length))
   |none=>((pre++(cR pre.length X++suf))[b]?).getD none)++(h'.drop X.length).map (Option.map (bkCs (gW pre.length X.length suf.length))):=by
   unfold lO;rw[hR,hHl,hρl] <;>rfl
  rw[hS,List.range_add,List.range_add,List.map_append,List.map_append,List.map_append,List.append_assoc,List.append_assoc]
  congr 1
  . apply List.ext_getElem?
    intro i
    rw[List.getElem?_map]
    by_cases hi:i< pre.length
    . rw[List.getElem?_range hi,Option.map_some,gB,if_neg (by omega)]
      simp only[]
      rw[List.getElem?_append_left hi,List.getElem?_eq_getElem hi];rfl
    . rw[List.getElem?_eq_none (by simp;omega),List.getElem?_eq_none (by omega)];rfl
  . congr 1
    . apply List.ext_getElem?
      intro i
      rw[List.map_map,List.getElem?_map,List.getElem?_map,List.getElem?_take]
      by_cases hi:i< X.length
      . rw[List.getElem?_range hi,if_pos hi,List.getElem?_eq_getElem (by omega)]
        simp only[Option.map_some,Function.comp,jp hi]
        rw[List.getElem?_eq_getElem (by omega)];rfl
      . rw[List.getElem?_eq_none (by simp;omega),if_neg hi];rfl
    . congr 1
      apply List.ext_getElem?
      intro i
      rw[List.map_map,List.map_map,List.getElem?_map]
      by_cases hi:i< suf.length
      . rw[List.getElem?_range hi]
        simp only[Option.map_some,Function.comp]
        rw[gB,if_neg (by omega)]
        simp only[]
        rw[List.getElem?_append_right (by omega),List.getElem?_append_right (by simp[cR] <;>omega)]
        rw[show pre.length+(X.length+i) - pre.length - (cR pre.length X).length=i by simp[cR] <;>omega,List.getElem?_eq_getElem hi];rfl
      . rw[List.getElem?_eq_none (by simp;omega),List.getElem?_eq_none (by omega)];rfl
 rw[hH] at this
 exact this
end Go.Sx
namespace Go.Sx
open Go.RowKit
def za (cx:Cx)(rs:List ResultVar)(c:C)(k:Nat)(h':Hp):Ex→St→Prop
 | .exit _,_=>False
 |_,st=>gP cx st rs=some c∧st.h.take k=h'
theorem JN (cx:Cx)(rs:List ResultVar)(c:C)(k:Nat)(h':Hp)(st:St):za cx rs c k h' .ret st= (gP cx st rs=some c∧st.h.take k=h'):=rfl
theorem JO (cx:Cx)(rs:List ResultVar)(c:C)(k:Nat)(h':Hp)(st:St):za cx rs c k h' .normal st= (gP cx st rs=some c∧st.h.take k=h'):=rfl
def jM (k:Nat):Hp→Bool
 | [] =>true
 |none::l=>jM k l
 |some cells::l=>noRefs k cells && jM k l
theorem ry (k:Nat):∀ (h:Hp),jM k h=true→∀ (b:Nat)(cells:List C),h[b]? =some (some cells)→noRefs k cells=true
 | [],_,b,cells,hb=>by simp at hb
 |o::l,h,0,cells,hb=>by
  simp at hb;subst hb
  simp only[jM,Bool.and_eq_true] at h;exact h.1
 |o::l,h,b+1,cells,hb=>by
  refine ry k l ?_ b cells (by simpa using hb)
  cases o with
  |none=>exact h
  |some c=>simp only[jM,Bool.and_eq_true] at h;exact h.2
theorem nL (k:Nat):jM k [] =true:=rfl
theorem lG (k:Nat)(cells:List C)(l:Hp):jM k (some cells::l) = (noRefs k cells && jM k l):=rfl
theorem JP {k:Nat}{h:Hp}(hh:jM k h=true):∀o∈h,∀cells,o=some cells→noRefs k cells=true:=fun o ho cells e=>by
 subst e
 obtain ⟨b,hb⟩:=List.getElem?_of_mem ho
 exact ry k h hh b cells hb
theorem iq {cx:Cx} {f:Nat} {fn:Func} {code:Code} {args:List C} {h h':Hp} {c:C} {rs:List ResultVar} (hN:cx.N=fn.ntmps) (hf:cx.P.funcs[f]? =some fn) (hn: (fn.name== "runtime.NumGoroutine") =false) (hb:fn.body=some code)
 (hrs:fn.results=rs.toArray) (hlen:args.length≤fn.ntmps) (hc:ah h.length c=true) (hh:jM h.length h'=true) (hT:Tr cx h.length code ⟨A (bQ 0 args),h⟩ (za cx rs c h.length h')):FC cx.P cx.gl f args h c h':=by
 refine FC.of hN hf hn hb hlen ?_
 refine ju (fun t=>CLe.init args t) (hT.mono fun x st q=>?_)
 have key:gP cx st rs=some c∧st.h.take h.length=h'→results cx fn st=some c∧((st.h.take h.length=h'∧ah h.length c=true∧∀ (b:Nat) cells,b< h.length→st.h[b]? =some (some cells)→noRefs h.length cells=true)∨st.h=h'):=fun q=>by
  refine ⟨?_,.inl ⟨q.2,hc,fun b cells hb hx=>ry _ _ hh b cells ?_⟩⟩
  . rw[←q.1]
    unfold results
    rw[hrs]
    rcases rs with _| ⟨r,_| ⟨r2,rs⟩⟩ <;>rfl
  . rw[←q.2,List.getElem?_take,if_pos hb];exact hx
 cases x with
 |exit k=>exact q
 |normal=>exact key q
 |ret=>exact key q
attribute [go_sem] JN JO nL lG
end Go.Sx
namespace Go.Sx
open Go.RowKit
section
variable {cx:Cx} {n:Nat} {st:St} {Q:Ex→St→Prop} {G:Gh} {w:World} {h:Hp} {b:Nat} {cells:List C}
mutual
theorem gX (H:WorldOK G h w)(hb:h.at b=some cells){ys:List C}(hys:∀blk,G.μ b=some blk→RepK (cA G w b cells.length) blk 0 ys):∀ (c:C)(v:Value),Rep G c v→Rep (cA G w b cells.length) (bg (cr h b) b ys c) v
 | .top,_,_=>by simp[bg,Rep]
 | .val u,v,r=>by simpa[bg,Rep] using r
 | .sl r n xs,v,x=>by
   simp only[bg,Rep] at x ⊢
   obtain ⟨a,cap,h1,h2,h3,h4,h5⟩:=x
   refine ⟨a,cap,h1,h2,h3,h4,?_⟩
   rcases h5 with h5| ⟨blk,off,ha,hk⟩
   . left;rw[h5];rfl
   . exact .inr ⟨blk,off,ha,fzC_repKY H hb hys xs blk off hk⟩
 | .sv b' off n,v,x=>by
   simp only[bg]
   split
   . rename_i e
     subst e
     split
     . rename_i hle
       simp only[Rep] at x ⊢
       obtain ⟨a,cap,h1,h2,h3,h4⟩:=x
       refine ⟨a,cap,h1,h2,h3,by simp,?_⟩
       by_cases hn:n=0
       . left;subst hn;simp
       . right
         obtain ⟨blk,q1,q2⟩:=h4 hn
         refine ⟨blk,off,q2,?_⟩
         have:=(hys _ q1).drop off
         rw[Nat.zero_add] at this
         exact this.take n
     . simp[Rep]
   . split
     . rename_i hok
       simp only[Rep] at x ⊢
       obtain ⟨a,cap,h1,h2,h3,h4⟩:=x
       exact ⟨a,cap,h1,h2,h3,fun hz=>by obtain ⟨blk,q1,q2⟩:=h4 hz;exact ⟨blk,dL H hb hok q1,q2⟩⟩
     . simp[Rep]
 | .gv b' m s,v,x=>by
   simp only[bg]
   split
   . rename_i e
     subst e
     split
     . rename_i hle
       simp only[Rep] at x ⊢
       obtain ⟨a,cap,h1,h2,h3,h4⟩:=x
       refine ⟨a,cap,h1,h2,h3,by simp,?_⟩
       rcases h4 with ⟨rfl,_⟩ | ⟨blk,q1,q2,q3⟩
       . left;simp
       . right
         exact ⟨blk,0,q2,(hys _ q1).take _⟩
     . simp[Rep]
   . split
     . rename_i hok
       simp only[Rep] at x ⊢
       obtain ⟨a,cap,h1,h2,h3,h4⟩:=x
       refine ⟨a,cap,h1,h2,h3,?_⟩
       rcases h4 with h4| ⟨blk,q1,q2,q3⟩
       . exact .inl h4
       . exact .inr ⟨blk,dL H hb hok q1,q2,lw H hb hok q3⟩
     . simp[Rep]
 | .mp b',v,x=>by
   simp only[bg]
   split
   . simp[Rep]
   . split
     . rename_i hok
       simp only[Rep] at x ⊢
       obtain ⟨blk,h1,h2⟩:=x
       exact ⟨blk,dL H hb hok h1,h2⟩
     . simp[Rep]
 | .bt b' t n,v,x=>by
   simp only[bg]
   split
   . simp[Rep]
   . split
     . rename_i hok
       simp only[Rep] at x ⊢
       obtain ⟨blk,h1,h2,h3⟩:=x
       exact ⟨blk,dL H hb hok h1,h2,lw H hb hok h3⟩
     . simp[Rep]
 | .bp b' off,v,x=>by
   simp only[bg]
   split
   . rename_i e
     subst e
     simp only[Rep] at x ⊢
     obtain ⟨blk,h1,h2⟩:=x
     refine ⟨blk,off,h2,?_⟩
     have:=(hys _ h1).drop off
     rwa [Nat.zero_add] at this
   . split
     . rename_i hok
       simp only[Rep] at x ⊢
       obtain ⟨blk,h1,h2⟩:=x
       exact ⟨blk,dL H hb hok h1,h2⟩
     . simp[Rep]
 | .kp xs,v,x=>by
   simp only[bg,Rep] at x ⊢
   obtain ⟨blk,off,h1,h2⟩:=x
   exact ⟨blk,off,h1,fzC_repKY H hb hys xs blk off h2⟩
 | .agg xs,v,x=>by
   simp only[bg,Rep] at x ⊢
   obtain ⟨vs,h1,h2,h3⟩:=x
   exact ⟨vs,h1,fzC_repLY H hb hys xs _ h2,h3⟩
 | .tup xs,v,x=>by
   simp only[bg,Rep] at x ⊢
   obtain ⟨vs,h1,h2⟩:=x
   exact ⟨vs,h1,fzC_repLY H hb hys xs _ h2⟩
 | .fn f xs,v,x=>by
   simp only[bg,Rep] at x ⊢
   obtain ⟨vs,h1,h2⟩:=x
   exact ⟨vs,h1,fzC_repLY H hb hys xs _ h2⟩
theorem fzC_repLY (H:WorldOK G h w)(hb:h.at b=some cells){ys:List C}(hys:∀blk,G.μ b=some blk→RepK (cA G w b cells.length) blk 0 ys):∀ (xs:List C)(vs:List Value),RepL G xs vs→RepL (cA G w b cells.length) (fzCs (cr h b) b ys xs) vs
 | [],vs,r=>by simpa[fzCs,RepL] using r
 |x::xs,vs,r=>by
  simp only[fzCs,RepL] at r ⊢
  obtain ⟨v,vs',h1,h2,h3⟩:=r
  exact ⟨v,vs',h1,gX H hb hys x v h2,fzC_repLY H hb hys xs vs' h3⟩
theorem fzC_repKY (H:WorldOK G h w)(hb:h.at b=some cells){ys:List C}(hys:∀blk,G.μ b=some blk→RepK (cA G w b cells.length) blk 0 ys):∀ (xs:List C)(blk off:Nat),RepK G blk off xs→RepK (cA G w b cells.length) blk off (fzCs (cr h b) b ys xs)
 | [],_,_,_=>by simp[fzCs,RepK]
 |x::xs,blk,off,r=>by
  simp only[fzCs,RepK] at r ⊢
  obtain ⟨⟨u,h1,h2,h3⟩,h4⟩:=r
  exact ⟨⟨u,(ny H _).K _ _ _ h1,h2,gX H hb hys x u h3⟩,fzC_repKY H hb hys xs blk (off+1) h4⟩
end
theorem sy (H:WorldOK G h w)(hb:h.at b=some cells){ys:List C}(hys:∀blk,G.μ b=some blk→RepK (cA G w b cells.length) blk 0 ys):∀ (l:List C)(es:List MapEntry),MRep G l es→MRep (cA G w b cells.length) (fzCs (cr h b) b ys l) es
 | [],_,r=>by simpa[MRep,fzCs] using r
 | [_],_,r=>by simp[MRep] at r
 |k::v::l,es,r=>by
  simp only[MRep,fzCs] at r ⊢
  obtain ⟨e,es',h1,h2,h3,h4⟩:=r
  exact ⟨e,es',h1,gX H hb hys k _ h2,gX H hb hys v _ h3,sy H hb hys l es' h4⟩
theorem WorldOK.fzY (H:WorldOK G h w)(hb:h.at b=some cells){ys:List C}(hys:∀blk,G.μ b=some blk→RepK (cA G w b cells.length) blk 0 ys):WorldOK (cA G w b cells.length) (iz (cr h b) b ys h) w:=by
 have hlen:=dy hb
 have hμ:∀ {j blk},(cA G w b cells.length).μ j=some blk→G.μ j=some blk∧j≠b∧G.μ b≠some blk:=fun {j blk} x=>by
  simp only[cA] at x
  split at x
  . cases x
  . rename_i hne
    refine ⟨x,fun e=>hne (.inl e),fun e=>hne (.inr ⟨blk,e,x⟩)⟩
 refine ⟨fun blk off u hk=>?_,fun j c' hj=>?_,fun j blk hm=>?_,fun j j' c c' blk hj hj' hm hm'=>?_,fun j blk hm=>?_,H.tlt,fun j c' off s m xs blk v hj hc hm hv=>?_,fun j z hz=>?_,fun j l hj=>?_,fun j j' l l' blk x x' y y'=>?_⟩
 . simp only[cA] at hk
   split at hk
   . exact hk
   . exact H.known blk off u hk
 . obtain ⟨hne,c0,h2,rfl⟩:=io hb hj
   have hok:cr h b j=true:=by simp[cr,h2,hne]
   rcases H.box j c0 h2 with ⟨hE,hE2⟩ | ⟨blk,cs,e,q1,q2,q3,q4,q5⟩
   . refine .inl ⟨by rw[hE];rfl,?_⟩
     simp only[cA]
     split
     . rfl
     . exact hE2
   . have hl: (fzCs (cr h b) b ys c0).length=c0.length:=by rw[fv];simp
     exact .inr ⟨blk,cs,e,dL H hb hok q1,q2,by rw[hl];exact q3,by rw[hl];exact fzC_repLY H hb hys _ _ q4,q5⟩
 . obtain ⟨h1,h2,h3⟩:=hμ hm
   obtain ⟨⟨c,hc⟩,hl⟩:=H.dom j blk h1
   refine ⟨⟨fzCs (cr h b) b ys c,?_⟩,hl⟩
   unfold iz
   rw[List.getElem?_set,if_neg (Ne.symm h2),List.getElem?_map,hc];rfl
 . obtain ⟨h1,_,_⟩:=hμ hm
   obtain ⟨h1',_,_⟩:=hμ hm'
   obtain ⟨_,c0,g2,_⟩:=io hb hj
   obtain ⟨_,c0',g2',_⟩:=io hb hj'
   exact H.inj j j' _ _ blk g2 g2' h1 h1'
 . obtain ⟨h1,h2,h3⟩:=hμ hm
   obtain ⟨s1,s2⟩:=H.sep j blk h1
   refine ⟨fun o=>?_,s2⟩
   simp only[cA]
   rw[if_neg (fun x=>h3 x.1)]
   exact s1 o
 . obtain ⟨h1,_,_⟩:=hμ hm
   obtain ⟨_,c0,g2,rfl⟩:=io hb hj
   rw[fv,List.getElem?_map] at hc
   cases hq:c0[off]? with
   |none=>rw[hq] at hc;cases hc
   |some y=>
    rw[hq] at hc
    simp only[Option.map_some,Option.some.injEq] at hc
    obtain ⟨zs,rfl⟩:=nz hc
    exact (H.own j c0 off s m zs blk v g2 hq h1 hv).fz
 . simp only[cA] at hz ⊢
   split at hz
   . cases hz
   . rename_i hne
     obtain ⟨blk,cs,e,fr,q1,q2,q3⟩:=H.siz j z hz
     exact ⟨blk,cs,e,fr,by rw[if_neg hne];exact q1,q2,q3⟩
 . obtain ⟨n1,l0,n2,rfl⟩:=kH hlen hj
   obtain ⟨blk,es,clk,q1,q2,q3⟩:=H.mpo j l0 n2
   have hok:cr h b j=true:=by simp[cr,n2,n1]
   exact ⟨blk,es,clk,dL H hb hok q1,q2,sy H hb hys l0 _ q3⟩
 . obtain ⟨n1,l0,n2,rfl⟩:=kH hlen x
   obtain ⟨n1',l0',n2',rfl⟩:=kH hlen x'
   exact H.mpi j j' _ _ blk n2 n2' (hμ y).1 (hμ y').1
def ix (h:Hp)(b:Nat)(cells:List C):Nat→List C
 |0=>fzY h b cells
 |m+1=>(fzCs (cr h b) b (ix h b cells m) cells).map C.noR
theorem oL (H:WorldOK G h w)(hb:h.at b=some cells):∀ (m:Nat)(blk:Nat),G.μ b=some blk→RepK (cA G w b cells.length) blk 0 (ix h b cells m)
 |0,blk,hm=>pW H hb hm
 |m+1,blk,hm=>by
  have ih:=oL H hb m
  obtain ⟨cs,e,⟨fr,q2,_⟩,q0,q3,q4⟩:=H.bx hb hm
  have hl: (ix h b cells (m+1)).length=cells.length:=by simp[ix,fv]
  refine RepK.of_get fun i x hx=>?_
  have hil:i< cells.length:=by have:=(List.getElem?_eq_some_iff.1 hx).1;rwa [hl] at this
  simp only[ix] at hx
  rw[fv,List.map_map,List.getElem?_map] at hx
  cases hc:cells[i]? with
  |none=>rw[hc] at hx;cases hx
  |some y=>
   rw[hc] at hx
   simp only[Option.map_some,Option.some.injEq,Function.comp] at hx
   subst hx
   obtain ⟨u,hu,hr⟩:=q3.get i y hc
   rw[List.getElem?_take,if_pos hil] at hu
   refine ⟨u,?_,q4 u (List.mem_of_getElem? hu),(gX H hb ih y u hr).noR⟩
   simp only[cA,Nat.zero_add]
   rw[if_pos ⟨hm,hil⟩]
   exact nq q2 _ _ hu
theorem Pr (hcx:CxOK cx){c:Code}(b m:Nat){cells:List C}(hb:st.h.at b=some cells)(hnb:n≤b)(hn:∀j,j< n→((st.h.at j).isSome|| (st.h.mp j).isSome) =true∨st.h[j]? =some none)
 (K:Tr cx n c ⟨fun t=>bg (cr st.h b) b (ix st.h b cells m) (st.env t),iz (cr st.h b) b (ix st.h b cells m) st.h⟩ Q):Tr cx n c st Q:=fun r hr G w a S R hR=>
 K r hr (cA G w b cells.length) w a ⟨S.defers.same (fun _ h=>h) (fun g h b' hb'=>by
     simp only[cA] at hb'
     split at hb'
     . cases hb'
     . exact h b' hb'),S.size,S.pre.ok.fzY hb (oL S.pre.ok hb m),⟨fun t=>gX S.pre.ok hb (oL S.pre.ok hb m) _ _ (S.pre.env.1 t),fun t s m' xs e=>by
     obtain ⟨ys,hy⟩:=nz e
     exact (S.pre.env.2 t s m' ys hy).fz⟩,fun g=>(dl _ _ (hcx.glo g) (S.pre.glob g)).mono (ny S.pre.ok _)⟩ R
   fun x s G' w' a' q S' F=>hR x s G' w' a' q S' ((wX S.pre.ok hb hnb hn _).transA F)
end
theorem JQ {cx:Cx}{n:Nat}{Q:Ex→St→Prop}{e:List (Nat×C)}{h:Hp}(hcx:CxOK cx){c:Code}(b m:Nat)(cells:List C)(hb:h.at b=some cells)(hnb:n≤b)(hn:∀j,j< n→((h.at j).isSome|| (h.mp j).isSome) =true∨h[j]? =some none)
 (K:Tr cx n c ⟨A (gz (bg (cr h b) b (ix h b cells m)) e),iz (cr h b) b (ix h b cells m) h⟩ Q):Tr cx n c ⟨A e,h⟩ Q:=by
 refine Pr hcx b m hb hnb hn ?_
 rw[qa _ (by simp only[bg])]
 exact K
end Go.Sx
namespace Go.Sx
end Go.Sx
namespace Go.Sx
open Go.RowKit Go.Proofs
set_option maxRecDepth 10000
abbrev ab:=List UInt8×List UInt8
def eC (x:ab):List C:=[.val (str x.1),.val (str x.2)]
instance:Cel eC 2:=⟨fun _=>rfl,fun _=>rfl,by decide,fun _ _=>rfl⟩
instance:Fla eC:=⟨fun _=>rfl⟩
instance:Inj eC:=⟨fun a b h=>by
 obtain ⟨a1,a2⟩:=a;obtain ⟨b1,b2⟩:=b
 simp only[eC,List.cons.injEq,C.val.injEq,aQ,and_true] at h
 obtain ⟨rfl,rfl⟩:=h;rfl⟩
theorem Pw:td Tryd.prog 129=some ⟨.func #[3,3] #[29] false,1,8,[.nilFunc]⟩:=by kernel_rfl
theorem Px:td Tryd.prog 139=some ⟨.func #[3,3] #[] false,1,8,[.nilFunc]⟩:=by kernel_rfl
theorem Py: (Value.nilFunc).oneCell'=true:=rfl
attribute [go_sem] Pw Px Py
theorem nQ {P:Program}{t i ft k:Nat}{fs:Array Field}{fd:Field}{de:TD}{s y:Nat}{z:List Value}(h1:td P t=some ⟨.struct fs,s,y,z⟩)(h2:fs[i]? =some fd)(ht:fd.type=ft)(hk:fd.offset=k)(h3:td P ft=some de)(h4:¬de.size=0)(b o:Nat):aI P t (.bp b o) i=some (vp (.bp b (o+k))):=by
 subst ht hk
 unfold aI;simp only[h1,h2,h3,if_neg h4];rfl
theorem tJ {P:Program}{t i ft k:Nat}{fs:Array Field}{fd:Field}{de:TD}{s y:Nat}{z:List Value}(h1:td P t=some ⟨.struct fs,s,y,z⟩)(h2:fs[i]? =some fd)(ht:fd.type=ft)(hk:fd.offset=k)(h3:td P ft=some de)(h4:¬de.size=0)(xs:List C)(h:k≤xs.length):aI P t (.kp xs) i=some (vp (.kp (xs.drop k))):=by
 subst ht hk
 unfold aI;simp only[h1,h2,h3,if_neg h4,if_pos h];rfl
theorem zd (l:List ab)(k:Nat)(h:k< l.length):dA ((cl eC l).drop (k*2)) 0=some (.val (str (gt l k).1)):=by
 rw[lj]
 unfold dA
 have e:gt l k=l[k]:=by simp[gt,List.getD,List.getElem?_eq_getElem h]
 rw[show k*2+0=k*2+0 from rfl,nv (f:=eC) l k 0 (by decide),List.getElem?_eq_getElem h,e]
 rfl
theorem tK (l:List ab)(k:Nat)(h:k< l.length):dA ((cl eC l).drop (k*2+1)) 0=some (.val (str (gt l k).2)):=by
 rw[lj]
 unfold dA
 have e:gt l k=l[k]:=by simp[gt,List.getD,List.getElem?_eq_getElem h]
 rw[show k*2+1+0=k*2+1 from rfl,nv (f:=eC) l k 1 (by decide),List.getElem?_eq_getElem h,e]
 rfl
theorem JW (l:List ab)(k:Nat)(h:k< l.length):dA (cl eC l) (k*2+1) =some (.val (str (gt l k).2)):=by
 have:=tK l k h;rwa [lj] at this
theorem JX (t:ab):List.map C.noR (eC t) =eC t:=rfl
theorem GY (t:ab):dA (eC t) 0=some (.val (str t.1)):=rfl
theorem GZ (t:ab):dA (eC t) 1=some (.val (str t.2)):=rfl
theorem JY (a b:Value):dA [.val a,.val b] 0=some (.val a):=rfl
theorem Cc (u:TypeDesc)(y:Nat)(z:List Value)(a e:List UInt8)(hz:z.length=2)(h1:z.all (·.oneCell') =true):jy (some ⟨u,2,y,z⟩) 1 [(0,.agg [.val (str a),.val (str e)])] =some (vp (sl eC .full [(a,e)])):=by
 unfold jy
 simp only[hz,h1]
 rw[if_pos ⟨by decide,by decide,trivial,trivial⟩]
 have hr: (bO z 1).length=2:=by simp[bO,hz]
 unfold ed
 have hc:C.cells? (.agg [.val (str a),.val (str e)]) =some [.val (str a),.val (str e)]:=rfl
 simp only[hc]
 rw[if_pos ⟨rfl,by omega⟩]
 unfold ed
 simp only[Option.map_some,splice,Nat.zero_mul,List.take_zero,List.nil_append,Nat.zero_add]
 rw[List.drop_of_length_le (by rw[hr];exact Nat.le_refl _),List.append_nil]
 rfl
theorem JZ (a b x:C):ef [a,b] 0 [x] =some ([x,b],.val undef):=rfl
theorem J0 (a b x:C):ef [a,b] 1 [x] =some ([a,x],.val undef):=rfl
theorem J1 (a b c d x:C):ef [a,b,c,d] 0 [x] =some ([x,b,c,d],.val undef):=rfl
theorem J2 (a b c d x:C):ef [a,b,c,d] 1 [x] =some ([a,x,c,d],.val undef):=rfl
theorem J3 (a b c d x:C):ef [a,b,c,d] 2 [x] =some ([a,b,x,d],.val undef):=rfl
theorem J4 (a b c d x:C):ef [a,b,c,d] 3 [x] =some ([a,b,c,x],.val undef):=rfl
theorem J5 (a b c d x:C):A7 [a,b,c,d] 0 x=some ([x,b,c,d],.val undef):=rfl
theorem J6 (a b c d x:C):A7 [a,b,c,d] 3 x=some ([a,b,c,x],.val undef):=rfl
theorem J7 (a b c d x y z w:C):ef [a,b,c,d] 0 [x,y,z,w] =some ([x,y,z,w],.val undef):=rfl
theorem J8 (b o:Nat):aI Tryd.prog 41 (.bp b o) 0=some (vp (.bp b (o+0))):= @nQ Tryd.prog 41 0 9 0 _ _ _ _ _ _ qT rfl rfl rfl rK (by decide) b o
theorem ze (l:List ab)(k:Nat)(h:k< l.length):aI Tryd.prog 41 (.kp ((cl eC l).drop (k*2))) 0=some (vp (.kp ((cl eC l).drop (k*2)))):=by
 have hl:=bj (f:=eC) l
 rw[@tJ Tryd.prog 41 0 9 0 _ _ _ _ _ _ qT rfl rfl rfl rK (by decide) _ (by rw[List.length_drop,hl];omega),List.drop_drop] <;>rfl
theorem J9 (b o:Nat):aI Tryd.prog 41 (.bp b o) 1=some (vp (.bp b (o+1))):= @nQ Tryd.prog 41 1 9 1 _ _ _ _ _ _ qT rfl rfl rfl rK (by decide) b o
theorem zf (l:List ab)(k:Nat)(h:k< l.length):aI Tryd.prog 41 (.kp ((cl eC l).drop (k*2))) 1=some (vp (.kp ((cl eC l).drop (k*2+1)))):=by
 have hl:=bj (f:=eC) l
 rw[@tJ Tryd.prog 41 1 9 1 _ _ _ _ _ _ qT rfl rfl rfl rK (by decide) _ (by rw[List.length_drop,hl];omega),List.drop_drop] <;>rfl
theorem Ka (l:List ab)(k:Nat)(h:k< l.length):aI Tryd.prog 75 (.kp ((cl eC l).drop (k*2))) 0=some (vp (.kp ((cl eC l).drop (k*2)))):=by
 have hl:=bj (f:=eC) l
 rw[@tJ Tryd.prog 75 0 9 0 _ _ _ _ _ _ ye rfl rfl rfl rK (by decide) _ (by rw[List.length_drop,hl];omega),List.drop_drop] <;>rfl
theorem Kb (l:List ab)(k:Nat)(h:k< l.length):aI Tryd.prog 75 (.kp ((cl eC l).drop (k*2))) 1=some (vp (.kp ((cl eC l).drop (k*2+1)))):=by
 have hl:=bj (f:=eC) l
 rw[@tJ Tryd.prog 75 1 9 1 _ _ _ _ _ _ ye rfl rfl rfl rK (by decide) _ (by rw[List.length_drop,hl];omega),List.drop_drop] <;>rfl
theorem Kc (b o:Nat):aI Tryd.prog 50 (.bp b o) 0=some (vp (.bp b (o+0))):= @nQ Tryd.prog 50 0 3 0 _ _ _ _ _ _ lZ rfl rfl rfl rJ (by decide) b o
theorem Kd (a b c d:C):aI Tryd.prog 50 (.kp [a,b,c,d]) 0=some (vp (.kp ([a,b,c,d].drop 0))):= @tJ Tryd.prog 50 0 3 0 _ _ _ _ _ _ lZ rfl rfl rfl rJ (by decide) _ (by show 0≤4;decide)
theorem Ke (b o:Nat):aI Tryd.prog 50 (.bp b o) 1=some (vp (.bp b (o+1))):= @nQ Tryd.prog 50 1 3 1 _ _ _ _ _ _ lZ rfl rfl rfl rJ (by decide) b o
theorem Kf (a b c d:C):aI Tryd.prog 50 (.kp [a,b,c,d]) 1=some (vp (.kp ([a,b,c,d].drop 1))):= @tJ Tryd.prog 50 1 3 1 _ _ _ _ _ _ lZ rfl rfl rfl rJ (by decide) _ (by show 1≤4;decide)
theorem Kg (b o:Nat):aI Tryd.prog 50 (.bp b o) 2=some (vp (.bp b (o+2))):= @nQ Tryd.prog 50 2 33 2 _ _ _ _ _ _ lZ rfl rfl rfl ur (by decide) b o
theorem Kh (a b c d:C):aI Tryd.prog 50 (.kp [a,b,c,d]) 2=some (vp (.kp ([a,b,c,d].drop 2))):= @tJ Tryd.prog 50 2 33 2 _ _ _ _ _ _ lZ rfl rfl rfl ur (by decide) _ (by show 2≤4;decide)
theorem Ki (b o:Nat):aI Tryd.prog 50 (.bp b o) 3=some (vp (.bp b (o+3))):= @nQ Tryd.prog 50 3 48 3 _ _ _ _ _ _ lZ rfl rfl rfl Ct (by decide) b o
theorem G4 (b o:Nat):aI Tryd.prog 102 (.bp b o) 0=some (vp (.bp b (o+0))):= @nQ Tryd.prog 102 0 47 0 _ _ _ _ _ _ pq rfl rfl rfl Ns (by decide) b o
theorem G5 (b o:Nat):aI Tryd.prog 102 (.bp b o) 1=some (vp (.bp b (o+1))):= @nQ Tryd.prog 102 1 48 1 _ _ _ _ _ _ pq rfl rfl rfl Ct (by decide) b o
theorem G6 (b o:Nat):aI Tryd.prog 102 (.bp b o) 2=some (vp (.bp b (o+2))):= @nQ Tryd.prog 102 2 3 2 _ _ _ _ _ _ pq rfl rfl rfl rJ (by decide) b o
theorem G7 (b o:Nat):aI Tryd.prog 102 (.bp b o) 3=some (vp (.bp b (o+3))):= @nQ Tryd.prog 102 3 4 3 _ _ _ _ _ _ pq rfl rfl rfl Nn (by decide) b o
attribute [go_sem] Cc J8 J9 Kc Kd Ke Kf Kg Kh Ki G4 G5 G6 G7
attribute [go_sem high] J5 J6 JW JZ J0 zd tK JX GY GZ JY J1 J2 J3 J4 J7 ze zf Ka Kb
end Go.Sx
namespace Go.Sx
open Go.RowKit Go.Proofs
def bl (a b:List UInt8):Bool:=Op.bytesLess a b
theorem oQ (b:List UInt8):bl [] b=decide (0< b.length):=by cases b<;>simp[bl,Op.bytesLess]
theorem f7 (a:List UInt8):bl a [] =false:=by cases a<;>simp[bl,Op.bytesLess]
theorem j4 (x y:UInt8)(a b:List UInt8):bl (x::a) (y::b) =if x< y then true else if y< x then false else bl a b:=by
 show (decide (x< y) || (x==y && Op.bytesLess a b)) =_
 by_cases h:x< y
 . simp[h]
 . by_cases h':y< x
   . have e:¬x=y:=fun e=>by subst e;exact h h'
     simp[h,h',e]
   . have e:x=y:=by
      apply UInt8.toNat_inj.1;rw[UInt8.lt_iff_toNat_lt] at h h';omega
     simp[e,bl]
theorem zg:∀a:List UInt8,bl a a=false
 | [] =>f7 []
 |x::a=>by rw[j4,if_neg (by rw[UInt8.lt_iff_toNat_lt];omega),if_neg (by rw[UInt8.lt_iff_toNat_lt];omega)];exact zg a
theorem tL:∀a b:List UInt8,(bl a b||decide (a=b)) = !bl b a
 | [],[] =>by rw[f7];rfl
 | [],y::b=>by rw[oQ,f7];rfl
 |x::a,[] =>by rw[f7,oQ];rfl
 |x::a,y::b=>by
  rw[j4,j4]
  have ih:=tL a b
  by_cases h:x< y
  . have h':¬y< x:=by rw[UInt8.lt_iff_toNat_lt] at h ⊢;omega
    rw[if_pos h,if_neg h',if_pos h];rfl
  . by_cases h':y< x
    . rw[if_neg h,if_pos h',if_pos h']
      have:¬ (x::a=y::b):=fun e=>by injection e with e _;subst e;exact h h'
      rw[decide_eq_false this];rfl
    . have e:x=y:=by
       apply UInt8.toNat_inj.1;rw[UInt8.lt_iff_toNat_lt] at h h';omega
      subst e
      rw[if_neg h,if_neg h,if_neg h,if_neg h,←ih]
      congr 1;simp
theorem iR:∀ {a b c:List UInt8},bl a b=true→bl b c=true→bl a c=true
 |a,b,[],h1,h2=>by rw[f7] at h2;cases h2
 |a,[],c,h1,h2=>by rw[f7] at h1;cases h1
 | [],y::b,z::c,h1,h2=>by rw[oQ];rfl
 |x::a,y::b,z::c,h1,h2=>by
  rw[j4] at h1 h2 ⊢
  simp only[UInt8.lt_iff_toNat_lt] at h1 h2 ⊢
  by_cases hxy:x.toNat< y.toNat
  . by_cases hyz:y.toNat< z.toNat
    . rw[if_pos (by omega)]
    . rw[if_neg hyz] at h2
      by_cases hzy:z.toNat< y.toNat
      . rw[if_pos hzy] at h2;cases h2
      . rw[if_pos (by omega)]
  . rw[if_neg hxy] at h1
    by_cases hyx:y.toNat< x.toNat
    . rw[if_pos hyx] at h1;cases h1
    . rw[if_neg hyx] at h1
      by_cases hyz:y.toNat< z.toNat
      . rw[if_pos (by omega)]
      . rw[if_neg hyz] at h2
        by_cases hzy:z.toNat< y.toNat
        . rw[if_pos hzy] at h2;cases h2
        . rw[if_neg hzy] at h2
          rw[if_neg (by omega),if_neg (by omega)]
          exact iR h1 h2
theorem Cd {a b c:List UInt8}(h1:bl a b=true)(h2:bl c b=false):bl a c=true:=by
 have:=tL b c
 rw[h2] at this
 by_cases e:b=c
 . rw[←e];exact h1
 . rw[decide_eq_false e,Bool.or_false] at this;exact iR h1 this
def dY (a b:List UInt8):Int:=if bl a b then -1 else if a=b then 0 else 1
section
variable {P:Program} {t:TypeId}
theorem Pz (x y:List UInt8):aq P .leq t (.val (str x)) (.val (str y)) =some (vp (.val (.bool (!bl y x)))):=by
 simp only[str,kB,bW,ii,Option.map_some]
 rw[←tL x y]
 congr 5
 by_cases h:x=y<;>simp[h]
theorem PA (x y:List UInt8):aq P .geq t (.val (str x)) (.val (str y)) =some (vp (.val (.bool (!bl x y)))):=by
 simp only[str,kB,bW,ii,Option.map_some];rfl
theorem Kj (x y:List UInt8):aq P .lss t (.val (str x)) (.val (str y)) =some (vp (.val (.bool (bl x y)))):=GJ P t x y
end
attribute [go_sem] Pz PA
attribute [go_sem high] Kj
def ofT (tag:Int)(parts:List (List UInt8)):List UInt8:=(eA (bU tag parts)).take 16
theorem cS (tag:Int)(parts:List (List UInt8)): (ofT tag parts).length=16:=by unfold ofT;rw[List.length_take,wh];rfl
theorem gD (tag:Int)(a b:List UInt8)(ha:a.length< 1000000)(hb:b.length< 1000000): (bU tag [a,b]).length< 1099511627776:=by
 have h1:=uq a (by omega)
 have h2:=uq b (by omega)
 unfold bU
 simp only[List.flatMap_cons,List.flatMap_nil,List.append_nil,List.length_cons,List.length_append];omega
theorem tM (tag:Int)(a:List UInt8)(ha:a.length< 1000000): (bU tag [a]).length< 1099511627776:=by
 have h1:=uq a (by omega)
 unfold bU
 simp only[List.flatMap_cons,List.flatMap_nil,List.append_nil,List.length_cons];omega
def fJ (a b:List UInt8):List UInt8:=ofT 4 [a,b]
theorem cp (a b:List UInt8): (fJ a b).length=16:=cS _ _
def d5 (x:ab):List UInt8:=ofT 3 [x.1,x.2]
theorem cf (x:ab): (d5 x).length=16:=cS _ _
def d6 (n:Nat)(d:List UInt8):List UInt8:=if n=0 then ofT 4 [co ((0:Nat):Int)] else ofT 4 [co ((n:Nat):Int),d]
theorem eE (n:Nat)(d:List UInt8): (d6 n d).length=16:=by unfold d6;split<;>exact cS _ _
def gh (n:Nat):Nat→Nat→Nat
 |0,m=>m
 |f+1,m=>if 2*m< n then gh n f (2*m) else m
def aD (n:Nat):Nat:=gh n n 1
theorem zh (n:Nat):∀ (f g m:Nat),0< m→n - m≤f→n - m≤g→gh n f m=gh n g m
 |0,0,m,_,_,_=>rfl
 |0,g+1,m,h0,h1,h2=>by unfold gh;rw[if_neg (by omega)]
 |f+1,0,m,h0,h1,h2=>by unfold gh;rw[if_neg (by omega)]
 |f+1,g+1,m,h0,h1,h2=>by
  unfold gh
  split
  . exact zh n f g (2*m) (by omega) (by omega) (by omega)
  . rfl
theorem EU {n m:Nat}(h:2*m< n)(h0:0< m):gh n n m=gh n n (2*m):=by
 obtain ⟨k,rfl⟩:∃k,n=k+1:=⟨n - 1,by omega⟩
 show (if 2*m< k+1 then gh (k+1) k (2*m) else m) =_
 rw[if_pos h]
 exact zh _ _ _ _ (by omega) (by omega) (by omega)
theorem EV {n m:Nat}(h:¬2*m< n):gh n n m=m:=by
 cases n with
 |zero=>rfl
 |succ k=>show (if 2*m< k+1 then gh (k+1) k (2*m) else m) =_;rw[if_neg h]
theorem zi (n:Nat):∀f m,0< m→m< n→0< gh n f m∧gh n f m< n
 |0,m,h1,h2=>⟨h1,h2⟩
 |f+1,m,h1,h2=>by
  unfold gh;split
  . exact zi n f (2*m) (by omega) (by omega)
  . exact ⟨h1,h2⟩
theorem fw {n:Nat}(h:1< n):0< aD n∧aD n< n:=zi n n 1 (by omega) h
def cK (l:List ab):Nat→Nat→Nat→List UInt8
 |0,a,_=>d5 (gt l a)
 |d+1,a,b=>if b - a≤1 then d5 (gt l a) else fJ (cK l d a (a+aD (b - a))) (cK l d (a+aD (b - a)) b)
theorem eF (l:List ab):∀d a b,(cK l d a b).length=16
 |0,a,b=>cf _
 |d+1,a,b=>by unfold cK;split;exact cf _;exact cp _ _
theorem vR (n:Nat):∀f k,2 ^ k< n→n - 2 ^ k≤f→∃j,gh n f (2 ^ k) =2 ^ j∧2 ^ j< n∧n≤2*2 ^ j
 |0,k,h1,h2=>⟨k,rfl,h1,by omega⟩
 |f+1,k,h1,h2=>by
  unfold gh
  have h3:=Nat.two_pow_pos k
  split
  . rename_i h
    have e:2*2 ^ k=2 ^ (k+1):=by rw[Nat.pow_succ];omega
    rw[e] at h ⊢
    exact vR n f (k+1) h (by omega)
  . exact ⟨k,rfl,h1,by omega⟩
theorem eW {n d:Nat}(h1:1< n)(h:n≤2 ^ (d+1)):aD n≤2 ^ d∧n - aD n≤2 ^ d:=by
 obtain ⟨j,e,h2,h3⟩:=vR n n 0 (by omega) (by omega)
 have e':aD n=2 ^ j:=e
 rw[e']
 have hj:j< d+1:=(Nat.pow_lt_pow_iff_right (by omega:1< 2)).1 (Nat.lt_of_lt_of_le h2 h)
 have:2 ^ j≤2 ^ d:=Nat.pow_le_pow_right (by omega) (by omega)
 omega
theorem mt (l:List ab):∀ (d e a b:Nat),b - a≤2 ^ d→b - a≤2 ^ e→cK l d a b=cK l e a b
 |0,0,a,b,_,_=>rfl
 |0,e+1,a,b,h1,h2=>by
  have:b - a≤1:=h1
  unfold cK;rw[if_pos this]
 |d+1,0,a,b,h1,h2=>by
  have:b - a≤1:=h2
  unfold cK;rw[if_pos this]
 |d+1,e+1,a,b,h1,h2=>by
  unfold cK
  split
  . rfl
  . rename_i h
    have hh:=fw (n:=b - a) (by omega)
    have g1:=eW (by omega) h1
    have g2:=eW (by omega) h2
    rw[mt l d e a (a+aD (b - a)) (by omega) (by omega),mt l d e (a+aD (b - a)) b (by omega) (by omega)]
def iu (l:List ab):List UInt8:=cK l 12 0 l.length
theorem og (l:List ab): (iu l).length=16:=eF _ _ _ _
def cg (x:ab):Bool:=decide (65536< x.1.length) ||decide (65536< x.2.length)
def eG (l:List ab):Nat→Bool
 |0=>true
 |i+1=>eG l i && (decide (i=0) ||bl (gt l (i - 1)).1 (gt l i).1)
def bR (l:List ab):Nat:=if 4096< l.length∨l.any cg=true then 4 else if eG l l.length=true then 0 else 1
end Go.Sx
