/-
   And what follows.
-/
import Derived.WalkKit
import Derived.Orders
import Derived.Deep.MidRow
import Derived.Deep.Draws
import Derived.Scope
import Derived.OrdersIn
import Derived.RangeFuncRecord
set_option linter.unusedSimpArgs false
set_option linter.unusedVariables false
namespace Go.Sx
open Go.RowKit
theorem fo:True∧True:=⟨⟨⟩,⟨⟩⟩
theorem ia:True∧True∧True:=⟨⟨⟩,⟨⟩,⟨⟩⟩
theorem jd:True∧True∧True∧True:=⟨⟨⟩,⟨⟩,⟨⟩,⟨⟩⟩
theorem AX:True∧True∧True∧True∧True:=⟨⟨⟩,⟨⟩,⟨⟩,⟨⟩,⟨⟩⟩
theorem wM:True∧True∧True∧True∧True∧True:=⟨⟨⟩,⟨⟩,⟨⟩,⟨⟩,⟨⟩,⟨⟩⟩
theorem AY:True∧True∧True∧True∧True∧True∧True:=⟨⟨⟩,⟨⟩,⟨⟩,⟨⟩,⟨⟩,⟨⟩,⟨⟩⟩
theorem QJ:True∧True∧True∧True∧True∧True∧True∧True:=⟨⟨⟩,⟨⟩,⟨⟩,⟨⟩,⟨⟩,⟨⟩,⟨⟩,⟨⟩⟩
theorem aca:True∧True∧True∧True∧True∧True∧True∧True∧True:=⟨⟨⟩,⟨⟩,⟨⟩,⟨⟩,⟨⟩,⟨⟩,⟨⟩,⟨⟩,⟨⟩⟩
theorem XJ:True∧True∧True∧True∧True∧True∧True∧True∧True∧True:=⟨⟨⟩,⟨⟩,⟨⟩,⟨⟩,⟨⟩,⟨⟩,⟨⟩,⟨⟩,⟨⟩,⟨⟩⟩
theorem XK:True∧True∧True∧True∧True∧True∧True∧True∧True∧True∧True:=⟨⟨⟩,⟨⟩,⟨⟩,⟨⟩,⟨⟩,⟨⟩,⟨⟩,⟨⟩,⟨⟩,⟨⟩,⟨⟩⟩
theorem XL:True∧True∧True∧True∧True∧True∧True∧True∧True∧True∧True∧True:=⟨⟨⟩,⟨⟩,⟨⟩,⟨⟩,⟨⟩,⟨⟩,⟨⟩,⟨⟩,⟨⟩,⟨⟩,⟨⟩,⟨⟩⟩
theorem XM:True∧True∧True∧True∧True∧True∧True∧True∧True∧True∧True∧True∧True∧True∧True∧True∧True∧True∧True:=⟨⟨⟩,⟨⟩,⟨⟩,⟨⟩,⟨⟩,⟨⟩,⟨⟩,⟨⟩,⟨⟩,⟨⟩,⟨⟩,⟨⟩,⟨⟩,⟨⟩,⟨⟩,⟨⟩,⟨⟩,⟨⟩,⟨⟩⟩
abbrev bB:=Nat×Nat×Nat
inductive Rt where
 |no
 |full
 |own (s:Nat)
inductive C where
 |top
 |val (v:Value)
 |sl (r:Rt) (n:Nat) (xs:List C)
 |sv (b off n:Nat)
 |bp (b off:Nat)
 |kp (xs:List C)
 |agg (xs:List C)
 |tup (xs:List C)
 |fn (f:Nat) (caps:List C)
 |gv (b n:Nat) (s:Nat×Nat)
 |mp (b:Nat)
 |bt (b t n:Nat)
structure Gh where
 K:Nat→Nat→Option Value
 μ:Nat→Option Nat
 T:Nat→Option bB
 σ:Nat→Option (Nat×Nat):=fun _=>none
mutual
def Rep (G:Gh):C→Value→Prop
 | .top,_=>True
 | .val u,v=>v=u
 | .sl r n xs,v=> ∃a cap,v= .slice a n cap∧n≤cap∧cap≤maxLen∧(r= .full→cap=n)∧
  (xs= []∨∃blk off,a=some ⟨blk,off,none⟩∧RepK G blk off xs)
 | .sv b off n,v=> ∃a cap,v= .slice a n cap∧n≤cap∧cap≤maxLen∧(n≠0→∃blk,G.μ b=some blk∧a=some ⟨blk,off,none⟩)
 | .bp b off,v=> ∃blk,G.μ b=some blk∧v= .pointer (some ⟨blk,off,none⟩)
 | .kp xs,v=> ∃blk off,v= .pointer (some ⟨blk,off,none⟩)∧RepK G blk off xs
 | .agg xs,v=> ∃vs,v= .agg vs∧RepL G xs vs.toList∧∀u∈vs.toList,u.oneCell'=true
 | .tup xs,v=> ∃vs,v= .tuple vs∧RepL G xs vs.toList
 | .fn f caps,v=> ∃vs,v= .func (.func f) #[] vs∧RepL G caps vs.toList
 | .gv b n s,v=> ∃a cap,v= .slice a n cap∧n≤cap∧cap≤maxLen∧((n=0∧cap=0)∨∃blk,G.μ b=some blk∧a=some ⟨blk,0,none⟩∧G.σ b=some (cap*s.1,s.2))
 | .mp b,v=> ∃blk,G.μ b=some blk∧v= .map (some blk)
 | .bt b t n,v=> ∃blk,G.μ b=some blk∧v= .pointer (some ⟨blk,0,none⟩)∧G.σ b=some (n,t)
def RepL (G:Gh):List C→List Value→Prop
 | [],vs=>vs= []
 |x::xs,vs=> ∃v vs',vs=v::vs'∧Rep G x v∧RepL G xs vs'
def RepK (G:Gh)(blk off:Nat):List C→Prop
 | [] =>True
 |x::xs=>(∃u,G.K blk off=some u∧u.oneCell'=true∧Rep G x u)∧RepK G blk (off+1) xs
end
structure Gh.Le (G G':Gh):Prop where
 K:∀b o u,G.K b o=some u→G'.K b o=some u
 μ:∀b k,G.μ b=some k→G'.μ b=some k
 σ:∀b k,G.σ b=some k→G'.σ b=some k
theorem Gh.Le.refl (G:Gh):G.Le G:=⟨fun _ _ _ h=>h,fun _ _ h=>h,fun _ _ h=>h⟩
theorem Gh.Le.trans {A B D:Gh}(h:A.Le B)(k:B.Le D):A.Le D:=⟨fun b o u x=>k.K b o u (h.K b o u x),fun b o x=>k.μ b o (h.μ b o x),fun b o x=>k.σ b o (h.σ b o x)⟩
mutual
theorem Rep.mono {G G':Gh}(h:G.Le G'):∀ (c:C)(v:Value),Rep G c v→Rep G' c v
 | .top,_,_=>by simp[Rep]
 | .val u,v,r=>by simpa[Rep] using r
 | .sl r n xs,v,x=>by
   simp only[Rep] at x ⊢;obtain ⟨a,cap,h1,h2,h3,h4,h5⟩:=x;refine ⟨a,cap,h1,h2,h3,h4,?_⟩;rcases h5 with h5| ⟨blk,off,ha,hk⟩
   . exact .inl h5
   . exact .inr ⟨blk,off,ha,RepK.mono h xs blk off hk⟩
 | .sv b off n,v,x=>by
   simp only[Rep] at x ⊢;obtain ⟨a,cap,h1,h2,h3,h4⟩:=x;exact ⟨a,cap,h1,h2,h3,fun hn=>by obtain ⟨blk,q1,q2⟩:=h4 hn;exact ⟨blk,h.μ _ _ q1,q2⟩⟩
 | .gv b n s,v,x=>by
   simp only[Rep] at x ⊢;obtain ⟨a,cap,h1,h2,h3,h4⟩:=x;refine ⟨a,cap,h1,h2,h3,?_⟩;rcases h4 with h4| ⟨blk,q1,q2,q3⟩
   . exact .inl h4
   . exact .inr ⟨blk,h.μ _ _ q1,q2,h.σ _ _ q3⟩
 | .bp b off,v,x=>by
   simp only[Rep] at x ⊢;obtain ⟨blk,h1,h2⟩:=x;exact ⟨blk,h.μ _ _ h1,h2⟩
 | .mp b,v,x=>by
   simp only[Rep] at x ⊢;obtain ⟨blk,h1,h2⟩:=x;exact ⟨blk,h.μ _ _ h1,h2⟩
 | .bt b t n,v,x=>by
   simp only[Rep] at x ⊢;obtain ⟨blk,h1,h2,h3⟩:=x;exact ⟨blk,h.μ _ _ h1,h2,h.σ _ _ h3⟩
 | .kp xs,v,x=>by
   simp only[Rep] at x ⊢;obtain ⟨blk,off,h1,h2⟩:=x;exact ⟨blk,off,h1,RepK.mono h xs blk off h2⟩
 | .agg xs,v,x=>by
   simp only[Rep] at x ⊢;obtain ⟨vs,h1,h2,h3⟩:=x;exact ⟨vs,h1,RepL.mono h xs _ h2,h3⟩
 | .tup xs,v,x=>by
   simp only[Rep] at x ⊢;obtain ⟨vs,h1,h2⟩:=x;exact ⟨vs,h1,RepL.mono h xs _ h2⟩
 | .fn f xs,v,x=>by
   simp only[Rep] at x ⊢;obtain ⟨vs,h1,h2⟩:=x;exact ⟨vs,h1,RepL.mono h xs _ h2⟩
theorem RepL.mono {G G':Gh}(h:G.Le G'):∀ (xs:List C)(vs:List Value),RepL G xs vs→RepL G' xs vs
 | [],vs,r=>by simpa[RepL] using r
 |x::xs,vs,r=>by
  simp only[RepL] at r ⊢;obtain ⟨v,vs',h1,h2,h3⟩:=r;exact ⟨v,vs',h1,Rep.mono h x v h2,RepL.mono h xs vs' h3⟩
theorem RepK.mono {G G':Gh}(h:G.Le G'):∀ (xs:List C)(blk off:Nat),RepK G blk off xs→RepK G' blk off xs
 | [],_,_,_=>by simp[RepK]
 |x::xs,blk,off,r=>by
  simp only[RepK] at r ⊢;obtain ⟨⟨u,h1,h2,h3⟩,h4⟩:=r;exact ⟨⟨u,h.K _ _ _ h1,h2,Rep.mono h x u h3⟩,RepK.mono h xs blk (off+1) h4⟩
end
def C.noR:C→C
 | .sl (.own _) n xs=> .sl .no n xs
 |c=>c
theorem Rep.noR {G:Gh}{c:C}{v:Value}(h:Rep G c v):Rep G c.noR v:=by
 unfold C.noR;split
 . simp only[Rep] at h ⊢
   obtain ⟨a,cap,h1,h2,h3,_,h5⟩:=h;exact ⟨a,cap,h1,h2,h3,by simp,h5⟩
 . exact h
theorem RepL.length {G:Gh}:∀ {xs:List C}{vs:List Value},RepL G xs vs→xs.length=vs.length
 | [],vs,h=>by simp only[RepL] at h;subst h;rfl
 |x::xs,vs,h=>by
  simp only[RepL] at h;obtain ⟨v,vs',rfl,_,h3⟩:=h;simp[RepL.length h3]
theorem RepL.get {G:Gh}:∀ {xs:List C}{vs:List Value},RepL G xs vs→∀ (i:Nat)(x:C),xs[i]? =some x→∃v,vs[i]? =some v∧Rep G x v
 | [],vs,_,i,x,hx=>by simp at hx
 |y::xs,vs,h,i,x,hx=>by
  simp only[RepL] at h;obtain ⟨v,vs',rfl,h2,h3⟩:=h
  cases i with
  |zero=>simp at hx;subst hx;exact ⟨v,by simp,h2⟩
  |succ i=>simpa using RepL.get h3 i x (by simpa using hx)
theorem RepL.of_get {G:Gh}:∀ {xs:List C}{vs:List Value},xs.length=vs.length→
 (∀ (i:Nat)(x:C)(v:Value),xs[i]? =some x→vs[i]? =some v→Rep G x v)→RepL G xs vs
 | [],vs,h,_=>by cases vs with|nil=>simp[RepL] |cons a b=>simp at h
 |y::xs,vs,h,H=>by
  cases vs with
  |nil=>simp at h
  |cons v vs=>
   simp only[RepL];exact ⟨v,vs,rfl,H 0 y v (by simp) (by simp),RepL.of_get (by simpa using h) fun i x v hx hv=>H (i+1) x v (by simpa using hx) (by simpa using hv)⟩
theorem RepK.get {G:Gh}{blk:Nat}:∀ {xs:List C}{off:Nat},RepK G blk off xs→∀ (i:Nat)(x:C),xs[i]? =some x→
 ∃u,G.K blk (off+i) =some u∧u.oneCell'=true∧Rep G x u
 | [],off,_,i,x,hx=>by simp at hx
 |y::xs,off,h,i,x,hx=>by
  simp only[RepK] at h
  cases i with
  |zero=>simp at hx;subst hx;simpa using h.1
  |succ i=>
   have:=RepK.get h.2 i x (by simpa using hx);simpa[Nat.add_assoc,Nat.add_comm 1 i] using this
theorem RepK.of_get {G:Gh}{blk:Nat}:∀ {xs:List C}{off:Nat},(∀ (i:Nat)(x:C),xs[i]? =some x→
 ∃u,G.K blk (off+i) =some u∧u.oneCell'=true∧Rep G x u)→RepK G blk off xs
 | [],off,_=>by simp[RepK]
 |y::xs,off,h=>by
  simp only[RepK];exact ⟨by simpa using h 0 y (by simp),RepK.of_get fun i x hx=>by simpa[Nat.add_assoc,Nat.add_comm 1 i] using h (i+1) x (by simpa using hx)⟩
theorem RepK.drop {G:Gh}{blk off:Nat}{xs:List C}(h:RepK G blk off xs)(k:Nat):RepK G blk (off+k) (xs.drop k):=
 RepK.of_get fun i x hx=>by
  rw[List.getElem?_drop] at hx;simpa[Nat.add_assoc] using h.get (k+i) x hx
theorem RepK.take {G:Gh}{blk off:Nat}{xs:List C}(h:RepK G blk off xs)(k:Nat):RepK G blk off (xs.take k):=
 RepK.of_get fun i x hx=>by
  rw[List.getElem?_take] at hx;split at hx
  . exact h.get i x hx
  . cases hx
theorem RepK.append {G:Gh}{blk off:Nat}{xs ys:List C}(h:RepK G blk off xs)(k:RepK G blk (off+xs.length) ys):RepK G blk off (xs++ys):=
 RepK.of_get fun i x hx=>by
  rw[List.getElem?_append] at hx;split at hx
  . exact h.get i x hx
  . have:=k.get _ x hx
    rwa [show off+xs.length+(i - xs.length) =off+i from by omega] at this
theorem RepK.values {G:Gh}{blk:Nat}:∀ {xs:List C}{off:Nat},RepK G blk off xs→
 ∃vs:List Value,vs.length=xs.length∧RepL G xs vs∧(∀ (j:Nat)(u:Value),vs[j]? =some u→G.K blk (off+j) =some u)∧∀u∈vs,u.oneCell'=true
 | [],off,_=>⟨[],rfl,by simp[RepL],by simp,by simp⟩
 |x::xs,off,h=>by
  simp only[RepK] at h;obtain ⟨⟨u,h1,h2,h3⟩,h4⟩:=h;obtain ⟨vs,a1,a2,a3,a4⟩:=RepK.values h4;refine ⟨u::vs,by simp[a1],by simp only[RepL];exact ⟨u,vs,rfl,h3,a2⟩,?_,?_⟩
  . intro j w hj
    cases j with
    |zero=>simp at hj;subst hj;simpa using h1
    |succ j=>simpa[Nat.add_assoc,Nat.add_comm 1 j] using a3 j w (by simpa using hj)
  . intro w hw
    rcases List.mem_cons.1 hw with rfl|hw
    . exact h2
    . exact a4 w hw
def OwnRow (G:Gh)(w:World)(p:bB)(v:Value)(s n:Nat):Prop:=
 (∃a,v= .slice a n n)∨
 ∃g cap cur e,v= .slice (some ⟨g,0,none⟩) n cap∧G.T g=some p∧w.heap[g]? =some (.cells cur e (0,0))∧cur.size=cap*s∧
  (∀o,n*s≤o→G.K g o=none)∧(∀b,G.μ b≠some g)
abbrev Hp:=List (Option (List C))
def aR:Option (List C)→Option (List C)
 |some (.tup _::_) =>none
 |o=>o
theorem dN {o:Option (List C)}{cells:List C}(h:aR o=some cells):o=some cells:=by
 unfold aR at h;split at h
 . cases h
 . exact h
def cM:List C:=[.tup []]
def Hp.at (h:Hp)(b:Nat):Option (List C):=(h[b]?).bind aR
def eK:Option (List C)→Option (List C)
 |some (.tup (.val (.bool true)::l)::_) =>some l
 |_=>none
def dq (l:List C):List C:=[.tup (.val (.bool true)::l)]
def Hp.mp (h:Hp)(b:Nat):Option (List C):=(h[b]?).bind eK
def MRep (G:Gh):List C→List MapEntry→Prop
 | [],es=>es= []
 | [_],_=>False
 |k::v::l,es=> ∃e es',es=e::es'∧Rep G k e.key∧Rep G v e.val∧MRep G l es'
theorem MRep.mono {G G':Gh}(h:G.Le G'):∀ (l:List C)(es:List MapEntry),MRep G l es→MRep G' l es
 | [],_,r=>by simpa[MRep] using r
 | [_],_,r=>by simp[MRep] at r
 |k::v::l,es,r=>by
  simp only[MRep] at r ⊢;obtain ⟨e,es',h1,h2,h3,h4⟩:=r;exact ⟨e,es',h1,h2.mono h,h3.mono h,MRep.mono h l es' h4⟩
theorem QK {o:Option (List C)}{l:List C}(h:eK o=some l):aR o=none:=by
 unfold eK at h;split at h
 . rfl
 . cases h
theorem wN {h:Hp}{b:Nat}{l:List C}(hb:h.mp b=some l):b< h.length:=by
 unfold Hp.mp at hb
 cases hq:h[b]? with
 |none=>rw[hq] at hb;cases hb
 |some o=>exact (List.getElem?_eq_some_iff.1 hq).1
theorem pP {h:Hp}{b b':Nat}{o:Option (List C)}(hb:b< h.length):Hp.mp (h.set b o) b'=if b'=b then eK o else h.mp b':=by
 unfold Hp.mp;rw[List.getElem?_set];by_cases e:b=b'
 . subst e;rw[if_pos rfl,if_pos hb,if_pos rfl];rfl
 . rw[if_neg e,if_neg (fun x=>e x.symm)]
theorem l5 {h:Hp}{o:Option (List C)}{b:Nat}:Hp.mp (h++[o]) b=if b=h.length then eK o else h.mp b:=by
 unfold Hp.mp;by_cases hb:b=h.length
 . subst hb;simp
 . rw[if_neg hb]
   rcases Nat.lt_or_ge b h.length with hl|hl
   . rw[List.getElem?_append_left hl]
   . rw[List.getElem?_append_right hl,List.getElem?_eq_none (by simp;omega),List.getElem?_eq_none hl]
theorem rI {o:Option (List C)}{cells:List C}(h:aR o=some cells):eK o=none:=by
 cases hm:eK o with
 |none=>rfl
 |some l=>rw[QK hm] at h;cases h
theorem uk {G:Gh}{cells:List C}{vs:List Value}(hr:RepL G cells vs)(h1:∀v∈vs,v.oneCell'=true):eK (some cells) =none:=by
 cases cells with
 |nil=>rfl
 |cons c cs=>
  cases c with
  |tup xs=>
   exfalso
   simp only[RepL] at hr;obtain ⟨v,vs',rfl,hv,_⟩:=hr;simp only[Rep] at hv;obtain ⟨us,rfl,_⟩:=hv;have:=h1 _ (List.mem_cons_self ..);cases this
  |_=>rfl
def RowIs (o:Option Obj)(cs:Array Value)(e:TypeId):Prop:= ∃fr:Nat×Nat,o=some (.cells cs e fr)∧(fr.2=0∨cs.size≤fr.1)
theorem RowIs.of {cs:Array Value}{e:TypeId}:RowIs (some (.cells cs e (0,0))) cs e:=⟨(0,0),rfl,.inl rfl⟩
structure WorldOK (G:Gh) (h:Hp) (w:World):Prop where
 known:∀blk off u,G.K blk off=some u→w.cell? ⟨blk,off,none⟩ =some u
 box:∀b cells,h.at b=some cells→(cells= []∧G.μ b=none)∨∃blk cs e,G.μ b=some blk∧RowIs w.heap[blk]? cs e∧cells.length≤cs.size∧RepL G cells (cs.toList.take cells.length)∧∀v∈cs.toList,v.oneCell'=true
 dom:∀b blk,G.μ b=some blk→(∃cells,h[b]? =some (some cells))∧blk< w.heap.size
 inj:∀b b' cells cells' blk,h.at b=some cells→h.at b'=some cells'→G.μ b=some blk→G.μ b'=some blk→b=b'
 sep:∀b blk,G.μ b=some blk→(∀o,G.K blk o=none)∧G.T blk=none
 tlt:∀g p,G.T g=some p→g< w.heap.size
 own:∀b cells off s n xs blk v,h.at b=some cells→cells[off]? =some (.sl (.own s) n xs)→G.μ b=some blk→w.cell? ⟨blk,off,none⟩ =some v→OwnRow G w (1,b,off) v s n
 siz:∀b z,G.σ b=some z→∃blk cs e fr,G.μ b=some blk∧w.heap[blk]? =some (.cells cs e fr)∧cs.size=z.1∧e=z.2
 mpo:∀b l,h.mp b=some l→∃blk es clk,G.μ b=some blk∧w.heap[blk]? =some (.map es clk)∧MRep G l es.toList
 mpi:∀b b' l l' blk,h.mp b=some l→h.mp b'=some l'→G.μ b=some blk→G.μ b'=some blk→b=b'
structure Frm (G₀:Gh) (w₀:World) (G:Gh) (w:World):Prop where
 os:w.os=w₀.os
 tape:w.tape=w₀.tape
 output:w.output=w₀.output
 size:w₀.heap.size≤w.heap.size
 le:G₀.Le G
 old:∀g,g< w₀.heap.size→G₀.T g=none→(∀b,G₀.μ b≠some g)→
  w.heap[g]? =w₀.heap[g]? ∧G.T g=none∧(∀b,G.μ b≠some g)∧∀o,G.K g o=G₀.K g o
theorem Frm.refl (G:Gh)(w:World):Frm G w G w:=⟨rfl,rfl,rfl,Nat.le_refl _,.refl G,fun _ _ h1 h2=>⟨rfl,h1,h2,fun _=>rfl⟩⟩
theorem Frm.trans {A B D:Gh}{a b d:World}(h:Frm A a B b)(k:Frm B b D d):Frm A a D d:=
 ⟨k.os.trans h.os,k.tape.trans h.tape,k.output.trans h.output,Nat.le_trans h.size k.size,h.le.trans k.le,fun g hg ht hm=>by
   obtain ⟨a1,a2,a3,a4⟩:=h.old g hg ht hm;obtain ⟨b1,b2,b3,b4⟩:=k.old g (Nat.lt_of_lt_of_le hg h.size) a2 a3;exact ⟨b1.trans a1,b2,b3,fun o=>(b4 o).trans (a4 o)⟩⟩
structure TD where
 u:TypeDesc
 size:Nat
 bytes:Nat
 zero:List Value
def td (P:Program)(t:TypeId):Option TD:=
 match P.underlying t,P.info? t with
 |some u,some i=>match i.zero with
  |some z=>some ⟨u,i.size,i.bytes,z.cells.toList⟩
  |none=>none
 |_,_=>none
def TD.isAgg (d:TD):Bool:=match d.u with| .struct _| .array _ _=>true|_=>false
structure Cx where
 P:Program
 N:Nat
 gl:Nat→C
 pu:Nat→List C→Option C
 hp:Nat→List C→Hp→Option (C×Hp)
 gr:Nat→Bool:=fun _=>false
 km:TypeId→Value→Bool:=fun _ _=>false
 top:Bool:=true
structure St where
 env:Nat→C
 h:Hp
def adD:C→Option Value
 | .val v=>some v
 |_=>none
def C.int?:C→Option (IntKind×Int)
 | .val (.int k n) =>some (k,n)
 |_=>none
def C.sl?:C→Option (Nat×List C)
 | .sl _ n xs=>some (n,xs)
 | .val (.slice none 0 0) =>some (0,[])
 |_=>none
def C.share:C→C
 | .val (.slice none 0 0) => .sl .no 0 []
 | .sl .full n xs=> .sl .no n xs
 |c=>c.noR
def C.cells?:C→Option (List C)
 | .agg xs=>some (xs.map C.noR)
 | .val (.agg vs) =>if vs.toList.all (·.oneCell') then some (vs.toList.map .val) else none
 | .val v=>if v.oneCell' then some [.val v] else none
 | .sl r n xs=>some [(C.sl r n xs).noR]
 | .sv b o n=>some [.sv b o n]
 | .bp b o=>some [.bp b o]
 | .kp xs=>some [.kp xs]
 | .fn f cs=>some [.fn f cs]
 | .gv b n s=>some [.gv b n s]
 | .mp b=>some [.mp b]
 | .bt b t n=>some [.bt b t n]
 | .top| .tup _=>none
def C.asSv:C→C
 | .gv b n _=> .sv b 0 n
 |c=>c
def splice (xs:List C)(o:Nat)(ys:List C):List C:=xs.take o++ys++xs.drop (o+ys.length)
def bW (op:BinOp):Value→Value→Option Value
 | .int k a,.int k' b=>
   match op with
   | .shl=>if b< 0 then none else some (.int k (k.wrap (a*2 ^ (min b.toNat k.bits))))
   | .shr=>if b< 0 then none else some (.int k (a.fdiv (2 ^ (min b.toNat k.bits))))
   |_=>if k≠k' then none else
    match op with
    | .add=>some (.int k (k.wrap (a+b)))
    | .sub=>some (.int k (k.wrap (a - b)))
    | .mul=>some (.int k (k.wrap (a*b)))
    | .quo=>if b=0 then none else some (.int k (k.wrap (a.tdiv b)))
    | .rem=>if b=0 then none else some (.int k (a.tmod b))
    | .and=>some (.int k (k.wrap (BitVec.ofInt k.bits a &&& BitVec.ofInt k.bits b).toNat))
    | .or=>some (.int k (k.wrap (BitVec.ofInt k.bits a|||BitVec.ofInt k.bits b).toNat))
    | .xor=>some (.int k (k.wrap (BitVec.ofInt k.bits a ^^^ BitVec.ofInt k.bits b).toNat))
    | .andNot=>some (.int k (k.wrap (BitVec.ofInt k.bits a &&& ~~~BitVec.ofInt k.bits b).toNat))
    | .eql=>some (.bool (a==b))
    | .neq=>some (.bool (a !=b))
    | .lss=>some (.bool (decide (a< b)))
    | .leq=>some (.bool (decide (a≤b)))
    | .gtr=>some (.bool (decide (a>b)))
    | .geq=>some (.bool (decide (a≥b)))
    |_=>none
 | .string a,.string b=>
   match op with
   | .add=>if a.size+b.size≤9223372036854775807 then some (.string (a++b)) else none
   | .eql=>some (.bool (a.toList==b.toList))
   | .neq=>some (.bool (!(a.toList==b.toList)))
   | .lss=>some (.bool (Op.bytesLess a.toList b.toList))
   | .leq=>some (.bool (Op.bytesLess a.toList b.toList||a.toList==b.toList))
   | .gtr=>some (.bool (!(Op.bytesLess a.toList b.toList||a.toList==b.toList)))
   | .geq=>some (.bool (!Op.bytesLess a.toList b.toList))
   |_=>none
 | .bool a,.bool b=>
   match op with
   | .eql=>some (.bool (a==b))
   | .neq=>some (.bool (!(a==b)))
   |_=>none
 |_,_=>none
def fa:List C→Option (List Int)
 | [] =>some []
 | .val (.int .u8 n)::r=>(fa r).map (n:: ·)
 |_::_=>none
def iO (b:UInt8):C:= .val (.int .u8 b.toNat)
def mV (ns:List Int):ByteArray:=⟨(ns.map fun n=>UInt8.ofNat n.toNat).toArray⟩
inductive Plan where
 |val (c:C) (kill:Option Nat)
 |rd (b:Nat) (f:List C→Option C)
 |wr (b:Nat) (f:List C→Option (List C×C)) (kill:Option Nat)
 |xr (b off:Nat)
 |new (cells:List C) (g:Nat→C)
 |call (f:Nat) (args:List C)
 |ap (b:Option (Nat×Nat)) (s:Nat×Nat) (m:Nat) (ys:Hp→Option (List C))
 |mo (f:Hp→Option (C×Hp))
 |cw (b:Nat) (f:List C→Option (List C×C))
def Plan.pure (c:C):Plan:= .val c none
def Cx.ev (cx:Cx)(env:Nat→C):Operand→C
 | .tmp t=>env t
 | .const v=> .val v
 | .global g=>(cx.gl g).noR
 | .func f=> .fn f []
def Cx.evn (cx:Cx)(env:Nat→C)(x:Operand):C:=(cx.ev env x).noR
def dO:Operand→Option Nat
 | .tmp t=>some t
 |_=>none
mutual
def fJ:C→Option Value
 | .val v=>some v
 | .agg xs=>(valQs xs).map fun l=> .agg l.toArray
 |_=>none
def valQs:List C→Option (List Value)
 | [] =>some []
 |x::xs=>match fJ x,valQs xs with
  |some v,some l=>some (v::l)
  |_,_=>none
end
def zq:Value→Value→Option Bool
 | .int k a,.int k' b=>if k=k' then some (a==b) else none
 | .string a,.string b=>some (a.data.toList==b.data.toList)
 | .bool a,.bool b=>some (a==b)
 |_,_=>none
def zr:List Value→List Value→Option Bool
 | [],[] =>some true
 |a::az,b::bs=>match zq a b with
  |some true=>zr az bs
  |some false=>some false
  |none=>none
 |_,_=>none
def vq:Value→Value→Option Bool
 | .agg a,.agg b=>zr a.toList b.toList
 |a,b=>zq a b
def fx (cx:Cx)(kt:TypeId)(k:Value):List C→Nat→Option (Option (Nat×C))
 | [],_=>some none
 | .val u::v::l,i=>if cx.km kt u=true then (match vq k u with
  |some true=>(match fx cx kt k l (i+1) with
   |some none=>some (some (i,v))
   |_=>none)
  |some false=>fx cx kt k l (i+1)
  |none=>none) else none
 |_,_=>none
def lz (P:Program)(t:TypeId):Option (TypeId×TypeId):=match td P t with
 |some d=>match d.u with
  | .map k e=>some (k,e)
  |_=>none
 |none=>none
def C7 (P:Program)(e:TypeId):Option C:=match P.info? e with
 |some i=>match i.zero with
  |some (.agg vs) =>if vs.toList.all (·.oneCell') =true then some (.agg (vs.toList.map .val)) else none
  |some z=>if z.oneCell'=true then some (.val z) else none
  |none=>none
 |none=>none
def sW (P:Program)(et:TypeId)(ok:Bool)(h:Hp)(r:Option (Nat×C)):Option (C×Hp):=
 let q:Option (C×Bool):=match r with
  |some (_,v) =>some (v.noR,true)
  |none=>(C7 P et).map (·,false)
 q.map fun r=>(if ok=true then .tup [r.1,.val (.bool r.2)] else r.1,h)
def nS (cx:Cx)(t:TypeId)(b:Nat)(k:Value)(ok:Bool)(h:Hp):Option (C×Hp):=match lz cx.P t with
 |some (kt,et) =>if cx.km kt k=true then (h.mp b).bind fun ents=>(fx cx kt k ents 0).bind (sW cx.P et ok h) else none
 |none=>none
def v9 (b:Nat)(k:Value)(x:C)(h:Hp)(ents:List C)(r:Option (Nat×C)):C×Hp:=
 (.val undef,h.set b (some (dq (match r with
   |some (i,_) =>ents.set (2*i+1) x
   |none=>ents++[.val k,x]))))
def qI (cx:Cx)(t:TypeId)(b:Nat)(k:Value)(x:C)(h:Hp):Option (C×Hp):=match lz cx.P t with
 |some (kt,_) =>if cx.km kt k=true then (h.mp b).bind fun ents=>(fx cx kt k ents 0).map (v9 b k x h ents) else none
 |none=>none
def wa (b:Nat)(h:Hp)(ents:List C)(r:Option (Nat×C)):C×Hp:=
 (.val (.tuple #[]),h.set b (some (dq (match r with
   |some (i,_) =>ents.take (2*i)++ents.drop (2*i+2)
   |none=>ents))))
def qJ (cx:Cx)(t:TypeId)(b:Nat)(k:Value)(h:Hp):Option (C×Hp):=match lz cx.P t with
 |some (kt,_) =>if cx.km kt k=true then (h.mp b).bind fun ents=>(fx cx kt k ents 0).map (wa b h ents) else none
 |none=>none
def sX (h:Hp):Option (C×Hp):=some (.mp h.length,h++[some (dq [])])
def fK (P:Program)(t:TypeId):Option Plan:=(lz P t).map fun _=> .mo sX
def eR (cx:Cx)(t:TypeId)(m k:C)(ok:Bool):Option Plan:=match m,fJ k with
 | .mp b,some kv=>some (.mo (nS cx t b kv ok))
 |_,_=>none
def fL (cx:Cx)(t:TypeId)(m k x:C):Option Plan:=match m,fJ k with
 | .mp b,some kv=>some (.mo (qI cx t b kv x))
 |_,_=>none
def fM (cx:Cx)(t:TypeId)(m k:C):Option Plan:=match m,fJ k with
 | .mp b,some kv=>some (.mo (qJ cx t b kv))
 |_,_=>none
def ct (o:Oper):Option Nat:=match o.op with
 | .call { callee:= .builtin .append,args,.. } =>(match (args[0]? :Option Operand) with|some (Operand.tmp u) =>some u|_=>none)
 | .assign (.tmp u) =>some (u+1000000)
 |_=>none
def wc (ops:Array Oper)(d:Option Nat):Bool:=
 match d with
 |none=>false
 |some t=>(ops.toList.filterMap ct).contains t
def G6 (ops:Array Oper)(d:Option Nat):Bool:=wc ops d||wc ops (d.map (· +1000000))
def cA (d:TD)(cells:List C)(off:Nat):Option C:=
 if d.isAgg then (if off+d.size≤cells.length then some (.agg (((cells.drop off).take d.size).map C.noR)) else none)
 else (cells[off]?).map C.noR
def dP (c:C)(n:Nat):Option Nat:=
 match c.int? with
 |some (_,i) =>if 0≤i∧i< n then some i.toNat else none
 |none=>none
def cp (c:Option C)(dflt most:Nat):Option Nat:=
 match c with
 |none=>some dflt
 |some c=>match c.int? with
  |some (_,i) =>if 0≤i∧i≤most then some i.toNat else none
  |none=>none
def kT (P:Program)(u:TypeDesc):Option (Nat→Option (Nat×Nat)):=
 match u with
 | .struct fields=>(fields.toList.mapM fun f=>(td P f.type).map fun d=>(f.offset,d.size)).map fun pl i=>pl[i]?
 | .array _ e=>(td P e).map fun d i=>some (i*d.size,d.size)
 |_=>none
def f8 (pl:Nat→Option (Nat×Nat))(cells:List C):List (Nat×C)→Option (List C)
 | [] =>some cells
 | (i,c)::rest=>match pl i,c.cells? with
   |some (off,size),some cs=>if cs.length=size∧off+size≤cells.length then f8 pl (splice cells off cs) rest else none
   |_,_=>none
def bG (z:List Value):Nat→List C
 |0=>[]
 |n+1=>z.map .val++bG z n
def je (c:C):Option (Nat×List C):=
 match c with
 | .val (.string s) =>some (s.size,s.data.toList.map iO)
 |c=>c.sl?
def fO (P:Program)(src dst:TypeId)(c:C):Option Plan:=
 match td P src,td P dst with
 |some ds,some dd=>
  match ds.u,dd.u,c with
  |_,.int k,.val (.int _ n) =>some (.pure (.val (.int k (k.wrap n))))
  |_,.string,.val (.string s) =>some (.pure (.val (.string s)))
  | .string,.slice e,.val (.string s) =>match td P e with
    |some de=>(match de.u with
     | .int .u8=>if s.size≤140737488355328 then some (.pure (.sl .no s.size (s.data.toList.map iO))) else none
     |_=>none)
    |none=>none
  | .slice e,.string,c=>match td P e with
    |some de=>(match de.u with
     | .int .u8=>(match c with
       | .sv b off n=>some (.rd b fun cells=>if off+n≤cells.length then (fa ((cells.drop off).take n)).map fun ns=> .val (.string (mV ns)) else none)
       |c=>match c.sl? with
        |some (n,xs) =>if xs.length=n then (fa xs).map fun ns=> .pure (.val (.string (mV ns))) else none
        |none=>none)
     |_=>none)
    |none=>none
  |_,_,_=>none
 |_,_=>none
def d6 (P:Program)(t:TypeId)(c:C)(lo hi mx:Option C):Option Plan:=
 match td P t with
 |none=>none
 |some d=>
  match d.u,c with
  | .string,.val (.string s) =>
    if mx.isSome then none else
    match cp hi s.size s.size with
    |some h=>(match cp lo 0 h with
     |some l=>some (.pure (.val (.string (s.extract l h))))
     |none=>none)
    |none=>none
  | .slice e,.sv b off n=>match td P e with
    |some de=>
     if mx.isSome then none else
     (match cp hi n n with
     |some h=>(match cp lo 0 h with
      |some l=>some (.pure (.sv b (off+l*de.size) (h - l)))
      |none=>none)
     |none=>none)
    |none=>none
  | .slice e,c=>match td P e,c.sl? with
    |some de,some (n,xs) =>
     if xs.length=n*de.size∧(mx.isNone∨hi.isSome) then
      (match cp mx n n with
      |some m=>(match cp hi n (if mx.isSome then m else n) with
       |some h=>(match cp lo 0 h with
        |some l=>some (.pure (.sl (if mx.isSome∧m=h then .full else .no) (h - l) ((xs.drop (l*de.size)).take ((h - l)*de.size))))
        |none=>none)
       |none=>none)
      |none=>none)
     else none
    |_,_=>none
  | .array n e,.bp b off=>match td P e with
    |some de=>
     if mx.isSome∨65536< n then none else
     (match cp hi n n with
     |some h=>(match cp lo 0 h with
      |some l=>some (.pure (.sv b (off+l*de.size) (h - l)))
      |none=>none)
     |none=>none)
    |none=>none
  | .array n e,.kp xs=>match td P e with
    |some de=>
     if mx.isSome∨65536< n∨xs.length< n*de.size then none else
     (match cp hi n n with
     |some h=>(match cp lo 0 h with
      |some l=>some (.pure (.sl .no (h - l) ((xs.drop (l*de.size)).take ((h - l)*de.size))))
      |none=>none)
     |none=>none)
    |none=>none
  |_,_=>none
def dD (P:Program)(t:TypeId)(c i:C):Option Plan:=
 match td P t with
 |none=>none
 |some d=>
  match d.u,c with
  | .array n e,.bp b off=>match td P e,dP i n with
    |some de,some k=>some (.pure (.bp b (off+k*de.size)))
    |_,_=>none
  | .array n e,.kp xs=>match td P e,dP i n with
    |some de,some k=>if n*de.size≤xs.length then some (.pure (.kp (xs.drop (k*de.size)))) else none
    |_,_=>none
  | .slice e,.sv b off n=>match td P e,dP i n with
    |some de,some k=>some (.pure (.bp b (off+k*de.size)))
    |_,_=>none
  | .slice e,.sl _ n xs=>match td P e,dP i n with
    |some de,some k=>if xs.length=n*de.size∧xs≠[] then some (.pure (.kp (xs.drop (k*de.size)))) else none
    |_,_=>none
  |_,_=>none
def C.agg?:C→Option (List C)
 | .agg xs=>some xs
 | .val (.agg vs) =>if vs.toList.all (·.oneCell') then some (vs.toList.map .val) else none
 |_=>none
def gx (P:Program)(t:TypeId)(c i:C):Option Plan:=
 match td P t with
 |none=>none
 |some d=>
  match d.u,c with
  | .string,.val (.string s) =>match dP i s.size with
    |some k=>(s.data[k]?).map fun b=> .pure (iO b)
    |none=>none
  | .array n e,c=>match td P e,dP i n,c.agg? with
    |some de,some k,some xs=>(cA de xs (k*de.size)).map .pure
    |_,_,_=>none
  |_,_=>none
def kU (P:Program)(t:TypeId)(c:C)(f:Nat):Option Plan:=
 match td P t with
 |none=>none
 |some d=>
  match d.u with
  | .struct fields=>match fields[f]?,c.agg? with
    |some fd,some xs=>(match td P fd.type with
     |some de=>(cA de xs fd.offset).map .pure
     |none=>none)
    |_,_=>none
  |_=>none
def an (P:Program)(t:TypeId)(c:C)(f:Nat):Option Plan:=
 match td P t with
 |none=>none
 |some d=>
  match d.u with
  | .struct fields=>match fields[f]? with
    |some fd=>(match td P fd.type with
     |some de=>if de.size=0 then none else
      (match c with
      | .bp b off=>some (.pure (.bp b (off+fd.offset)))
      | .bt b _ _=>some (.pure (.bp b fd.offset))
      | .kp xs=>if fd.offset≤xs.length then some (.pure (.kp (xs.drop fd.offset))) else none
      |_=>none)
     |none=>none)
    |none=>none
  |_=>none
def loadPlan (P:Program)(own:Bool)(t:TypeId)(c:C):Option Plan:=
 match td P t with
 |none=>none
 |some d=>
  match c with
  | .bp b off=>
    if own∧d.isAgg=false then some (.xr b off)
    else some (.rd b fun cells=>cA d cells off)
  | .kp xs=>(cA d xs off0).map .pure
  |_=>none
where off0:=0
def cq (P:Program)(t:TypeId)(c:C)(x:C)(xt:Option Nat):Option Plan:=
 match td P t with
 |none=>none
 |some d=>
  match c with
  | .bp b off=>match x with
    | .sl r n xs=>if d.size=1 then some (.wr b (fun cells=>if off< cells.length then some (cells.set off (.sl r n xs),.val undef) else none) xt) else none
    |x=>match x.cells? with
     |some cs=>if cs.length=d.size then some (.wr b (fun cells=>if off+cs.length≤cells.length then some (splice cells off cs,.val undef) else none) none) else none
     |none=>none
  |_=>none
def ic:TypeDesc→Bool
 | .slice _| .string=>true
 |_=>false
theorem kJ {u:TypeDesc}(h:ic u=true): (∃e,u= .slice e)∨u= .string:=by
 cases u<;>simp[ic] at h ⊢
def eh (P:Program)(t t2:TypeId)(x y:C)(xt:Option Nat):Option Plan:=
 match td P t,td P t2 with
 |none,_=>none
 |_,none=>none
 |some d,some d2=>
  if ic d2.u=false then none else
  match d.u with
  | .slice e=>match td P e with
    |none=>none
    |some de=>
     let fin (n:Nat) (xs:List C) (m:Nat) (ys:List C):Option C:=
      if xs.length=n*de.size∧ys.length=m*de.size∧0< de.size∧de.zero.length=de.size∧(n+m)*de.bytes≤140737488355328∧n+m≤9223372036854775807 then some (.sl (.own de.size) (n+m) (xs++ys)) else none
     let start:Option (Nat×List C×Option Nat):=match x with
      | .val (.slice none 0 0) =>some (0,[],none)
      | .sl .full n xs=>some (n,xs,none)
      | .sl (.own s) n xs=>if s=de.size then some (n,xs,xt) else none
      |_=>none
     match start with
     |none=>none
     |some (n,xs,k) =>
      match y with
      | .sv b off m=>if k.isSome then some (.wr b (fun cells=>(if off+m*de.size≤cells.length then fin n xs m (((cells.drop off).take (m*de.size)).map C.noR) else none).map fun c=>(cells,c)) k)
        else some (.rd b fun cells=>if off+m*de.size≤cells.length then fin n xs m (((cells.drop off).take (m*de.size)).map C.noR) else none)
      |y=>match je y with
       |some (m,ys) =>(fin n xs m ys).map fun c=> .val c k
       |none=>none
  |_=>none
def gP (P:Program)(d d2:TD)(x y:C):Option Plan:=
 match d2.u,d.u,y with
 | .int .i64,.slice e,.val (.int .i64 m) =>match td P e with
   |some de=>match x with
    | .gv b n s=>if s= (de.size,e)∧0≤m∧m≤65536∧(n+m.toNat)*de.bytes≤140737488355328∧n+m.toNat≤9223372036854775807∧0< de.size∧de.zero.length=de.size∧de.zero.all (·.oneCell') =true then
     some (.ap (some (b,n)) (de.size,e) m.toNat fun _=>some (bG de.zero m.toNat)) else none
    |_=>none
   |none=>none
 |_,_,_=>none
def ig (P:Program)(t t2:TypeId)(x y:C):Option Plan:=
 match td P t,td P t2 with
 |some d,some d2=>
  if ic d2.u=false then gP P d d2 x y else
  match d.u with
  | .slice e=>match td P e with
    |none=>none
    |some de=>
     let start:Option (Nat×Option (Nat×Nat)):=match x with
      | .val (.slice none 0 0) =>some (0,none)
      | .sl .full 0 _=>some (0,none)
      | .gv b n s=>if s= (de.size,e) then some (n,some (b,n)) else none
      |_=>none
     match start with
     |none=>none
     |some (n,b) =>
      let fin (m:Nat) (ys:List C):Bool:=decide (ys.length=m*de.size∧0< de.size∧de.zero.length=de.size∧(n+m)*de.bytes≤140737488355328∧n+m≤9223372036854775807∧de.zero.all (·.oneCell') =true)
      match y with
      | .sv b' off m=>some (.ap b (de.size,e) m fun h=>(h.at b').bind fun cells=>if off+m*de.size≤cells.length∧fin m (((cells.drop off).take (m*de.size)).map C.noR) =true then some (((cells.drop off).take (m*de.size)).map C.noR) else none)
      |y=>match je y with
       |some (m,ys) =>if fin m ys=true then some (.ap b (de.size,e) m fun _=>some ys) else none
       |none=>none
  |_=>none
 |_,_=>none
def lB (P:Program)(src dst:TypeId)(c:C):Option Plan:=
 match td P src,td P dst with
 |some ds,some dd=>match ds.u,dd.u,c with
  | .string,.slice e,.val (.string s) =>match td P e with
    |some de=>(match de.u with
     | .int .u8=>if s.size≤140737488355328 then some (.ap none (1,e) s.size fun _=>some (s.data.toList.map iO)) else none
     |_=>none)
    |none=>none
  |_,_,_=>none
 |_,_=>none
def mc (P:Program)(t:TypeId)(b n:Nat)(s:Nat×Nat)(hi:Option C):Option Plan:=
 match td P t with
 |some d=>match d.u with
  | .slice e=>match td P e,cp hi n n with
    |some de,some h=>if (de.size,e) =s then some (.pure (.gv b h s)) else none
    |_,_=>none
  |_=>none
 |none=>none
def ii (P:Program)(t:TypeId)(x y:C):Option Plan:=
 match td P t with
 |none=>none
 |some d=>
  match d.u with
  | .slice e=>match td P e with
    |none=>none
    |some de=>match x,je y with
     | .sv b off n,some (m,ys) =>
       if ys.length=m*de.size∧0< n then some (.wr b (fun cells=>if off+n*de.size≤cells.length then some (splice cells off ((ys.take (min m n*de.size)).map C.noR),.val (.int .i64 (min m n:Nat))) else none) none) else none
     |_,_=>none
  |_=>none
def jC (P:Program)(t:TypeId)(x:C):Option Plan:=
 match td P t with
 |none=>none
 |some d=>
  match d.u,x with
  | .string,.val (.string s) =>some (.pure (.val (.int .i64 s.size)))
  | .array n _,_=>some (.pure (.val (.int .i64 n)))
  | .slice _,.sv _ _ n=>some (.pure (.val (.int .i64 n)))
  | .slice _,x=>x.sl?.map fun r=> .pure (.val (.int .i64 r.1))
  |_,_=>none
def C.nilS?:C→Option Bool
 | .val (.slice a _ _) =>some a.isNone
 | .sl _ _ (_::_) =>some false
 | .sv _ _ (_+1) =>some false
 | .gv _ (_+1) _=>some false
 |_=>none
def C.nilP?:C→Option Bool
 | .val (.pointer none) =>some true
 | .bp _ _=>some false
 | .bt _ _ _=>some false
 | .kp _=>some false
 |_=>none
def Be:Option Bool→Option Bool→Option Bool
 |some true,some b=>some b
 |some a,some true=>some a
 |_,_=>none
def oX (f:C→C→Option Bool)(de:TD)(xs ys:List C):List Nat→Option Bool
 | [] =>some true
 |i::l=>match cA de xs (i*de.size),cA de ys (i*de.size) with
  |some a,some b=>(match f a b with
   |some true=>oX f de xs ys l
   |r=>r)
  |_,_=>none
def rQ (P:Program)(f:TypeId→C→C→Option Bool)(xs ys:List C):List Field→Option Bool
 | [] =>some true
 |fd::l=>if fd.name≠ "_" then (match td P fd.type with
  |some de=>(match cA de xs fd.offset,cA de ys fd.offset with
   |some a,some b=>(match f fd.type a b with
    |some true=>rQ P f xs ys l
    |r=>r)
   |_,_=>none)
  |none=>none) else rQ P f xs ys l
def gL (P:Program):Nat→TypeId→C→C→Option Bool
 |0,_,_,_=>none
 |d+1,t,x,y=>match td P t with
  |none=>none
  |some dt=>match dt.u with
   | .bool=>(match x,y with
     | .val (.bool a),.val (.bool b) =>some (a==b)
     |_,_=>none)
   | .int _=>(match x,y with
     | .val (.int k a),.val (.int k' b) =>if k=k' then some (a==b) else none
     |_,_=>none)
   | .string=>(match x,y with
     | .val (.string a),.val (.string b) =>some (a.toList==b.toList)
     |_,_=>none)
   | .struct fields=>if P.stoodInHeld t=true then none else (match x.agg?,y.agg? with
     |some xs,some ys=>rQ P (gL P d) xs ys fields.toList
     |_,_=>none)
   | .array n e=>(match td P e,x.agg?,y.agg? with
     |some de,some xs,some ys=>oX (gL P d e) de xs ys (List.range' 0 n)
     |_,_,_=>none)
   | .slice _=>Be x.nilS? y.nilS?
   | .pointer _=>Be x.nilP? y.nilP?
   |_=>none
def ji (P:Program)(op:BinOp)(t:TypeId)(x y:C):Option Plan:=
 if ((x.agg?.isSome=true∧y.agg?.isSome=true)∨(x.nilS?.isSome=true∧y.nilS?.isSome=true)∨(x.nilP?.isSome=true∧y.nilP?.isSome=true))∧P.eqGuardType P.depth t=false then
  match op with
  | .eql=>(gL P 9 t x y).map fun b=> .pure (.val (.bool b))
  | .neq=>(gL P 9 t x y).map fun b=> .pure (.val (.bool !b))
  |_=>none
 else none
def aw (P:Program)(op:BinOp)(t:TypeId)(x y:C):Option Plan:=
 match x,y with
 | .val a,.val b=>match a,b,td P t with
   | .bool _,.bool _,some d=>(match d.u with| .bool=>(bW op a b).map fun v=> .pure (.val v) |_=>none)
   | .int _ _,.int _ _,_=>(bW op a b).map fun v=> .pure (.val v)
   | .string _,.string _,_=>(bW op a b).map fun v=> .pure (.val v)
   |_,_,_=>ji P op t x y
 |_,_=>ji P op t x y
def gM (op:UnOp)(x:C):Option Plan:=
 match op,x with
 | .neg,.val (.int k n) =>some (.pure (.val (.int k (k.wrap (0 - n)))))
 | .xor,.val (.int k n) =>some (.pure (.val (.int k (k.wrap (BitVec.ofInt k.bits (if k.signed then -1 else k.max) ^^^ BitVec.ofInt k.bits n).toNat))))
 | .not,.val (.bool b) =>some (.pure (.val (.bool !b)))
 |_,_=>none
mutual
def ae (k:Nat):C→Bool
 | .sl _ _ xs=>noRefs k xs
 | .sv b _ _=>decide (b< k)
 | .bp b _=>decide (b< k)
 | .kp xs=>noRefs k xs
 | .agg xs=>noRefs k xs
 | .tup xs=>noRefs k xs
 | .fn _ xs=>noRefs k xs
 | .top=>true
 | .val _=>true
 | .gv b _ _=>decide (b< k)
 | .mp b=>decide (b< k)
 | .bt b _ _=>decide (b< k)
def noRefs (k:Nat):List C→Bool
 | [] =>true
 |x::xs=>ae k x && noRefs k xs
end
mutual
def flat:C→Bool
 | .val _=>true
 | .agg xs=>flats xs
 | .tup xs=>flats xs
 |_=>false
def flats:List C→Bool
 | [] =>true
 |x::xs=>flat x && flats xs
end
def ik (b:Nat)(cells:List C):C→C
 | .sv b' off n=>if b'=b∧off+n≤cells.length then .sl .no n (((cells.drop off).take n).map C.noR) else .sv b' off n
 | .bp b' off=>if b'=b then .kp ((cells.drop off).map C.noR) else .bp b' off
 | .gv b' n s=>if b'=b∧n*s.1≤cells.length then .sl .no n ((cells.take (n*s.1)).map C.noR) else .gv b' n s
 |c=>c
def gB (b:Nat)(cells:List C):List C→List C
 | [] =>[]
 |c::l=>ik b cells c::gB b cells l
def oneB (b:Nat):List C→Option Nat
 | [] =>some b
 | .sv b' _ _::l=>if b'=b then oneB b l else none
 | .bp b' _::l=>if b'=b then oneB b l else none
 | .gv b' _ _::l=>if b'=b then oneB b l else none
 |_::l=>oneB b l
def f9:List C→Option Nat
 | [] =>none
 | .sv b _ _::l=>oneB b l
 | .bp b _::l=>oneB b l
 | .gv b _ _::l=>oneB b l
 |_::l=>f9 l
def rdPu (cx:Cx)(g:Nat)(az:List C)(b:Nat)(cells:List C):Option C:=
 if noRefs 0 (gB b cells az) =true then (match cx.pu g (gB b cells az) with
  |some c=>if flat c=true then some c else none
  |none=>none) else none
mutual
def g7 (b:Nat)(ys:List C):C→C
 | .gv b' n s=>if b'=b∧n*s.1≤ys.length then .sl .no n (ys.take (n*s.1)) else .gv b' n s
 | .sl r n xs=> .sl r n (dpCs b ys xs)
 | .agg xs=> .agg (dpCs b ys xs)
 |c=>c
def dpCs (b:Nat)(ys:List C):List C→List C
 | [] =>[]
 |x::xs=>g7 b ys x::dpCs b ys xs
end
def rdE (cx:Cx)(g:Nat)(az:List C)(b:Nat)(cells:List C):Option C:=
 if noRefs 0 (dpCs b (cells.map C.noR) az) =true then (match cx.pu g (dpCs b (cells.map C.noR) az) with
  |some c=>if flat c=true then some c else none
  |none=>none) else none
def dA:List Nat→Nat→Nat→Option Nat
 | [],_,_=>none
 |x::r,k,b=>if b=x then some k else dA r (k+1) b
mutual
def aU (ρ:List Nat):C→C
 | .sv b o n=>match dA ρ 0 b with|some j=> .sv j o n|none=> .top
 | .gv b n s=>match dA ρ 0 b with|some j=> .gv j n s|none=> .top
 | .bp b o=>match dA ρ 0 b with|some j=> .bp j o|none=> .top
 | .mp b=>match dA ρ 0 b with|some j=> .mp j|none=> .top
 | .bt b t n=>match dA ρ 0 b with|some j=> .bt j t n|none=> .top
 | .sl r n xs=> .sl r n (mvCs ρ xs)
 | .kp xs=> .kp (mvCs ρ xs)
 | .agg xs=> .agg (mvCs ρ xs)
 | .tup xs=> .tup (mvCs ρ xs)
 | .fn f xs=> .fn f (mvCs ρ xs)
 | .top=> .top
 | .val v=> .val v
def mvCs (ρ:List Nat):List C→List C
 | [] =>[]
 |x::xs=>aU ρ x::mvCs ρ xs
end
def w9 (cx:Cx)(g:Nat)(az:List C)(b:Nat)(cells:List C):Option (List C×C):=
 match cx.hp g (mvCs [b] az) [some (mvCs [b] cells)] with
 |some (c,[some cells']) =>if ae 0 c=true∧noRefs 0 cells'=true then some (cells',c) else none
 |_=>none
def kf (cx:Cx)(f:C)(args:List C):Option Plan:=
 match f with
 | .fn g caps=>
   let az:=args.map C.share++caps
   match cx.pu g az with
   |some c=>some (.pure c)
   |none=>match f9 az with
    |some b=>match cx.hp g az [] with
     |some (_,[]) =>some (.call g az)
     |some (_,_::_) =>some (.cw b (w9 cx g az b))
     |none=>some (.rd b (rdPu cx g az b))
    |none=>if cx.gr (1000000+g) =true then some (.rd 0 (rdE cx g az 0)) else some (.call g az)
 |_=>none
def fy (isMax:Bool)(x y:C):Option Plan:=
 match x,y with
 | .val (.int k a),.val (.int k' b) =>if k=k' then some (.pure (.val (.int k (if isMax then (if a< b then b else a) else (if b< a then b else a))))) else none
 |_,_=>none
def splan (cx:Cx)(ops:Array Oper)(o:Oper)(env:Nat→C):Option Plan:=
 let ev:=cx.evn env
 let P:=cx.P
 match o.op with
 | .move x=>match x with
   | .tmp p=>some (if G6 ops o.dst then .val (env p) (some p) else .pure (env p).noR)
   |x=>some (.pure (ev x))
 | .assign x=>some (.val (cx.ev env x) (dO x))
 | .pick c a b=>match ev c with
   | .val (.bool true) =>some (.pure (ev a))
   | .val (.bool false) =>some (.pure (ev b))
   |_=>none
 | .alloc t=>match td P t with
   |some d=>if d.zero.all (·.oneCell') then some (.new (d.zero.map .val) fun id=>if o.dst.any cx.gr=true then .bt id t d.zero.length else .bp id 0) else none
   |none=>none
 | .box _ x=>(ev x).cells?.map fun cs=> .new cs fun id=> .bp id 0
 | .build t parts=>match td P t with
   |some d=>if d.zero.all (·.oneCell') =false then none else ((kT P d.u).bind fun pl=>f8 pl (d.zero.map .val) (parts.toList.map fun x=>(x.1,ev x.2))).map fun cs=> .pure (.agg cs)
   |none=>none
 | .buildSlice t n parts=>match td P t with
   |some d=>(match d.u with
    | .slice e=>(match td P e with
      |some de=>if n*de.size≤65536∧n≤65536∧de.zero.length=de.size∧de.zero.all (·.oneCell') =true then
       (f8 (fun i=>some (i*de.size,de.size)) (bG de.zero n) (parts.toList.map fun x=>(x.1,ev x.2))).map fun cs=>if o.dst.any cx.gr=true then .ap none (de.size,e) n fun _=>some cs else .pure (.sl .full n cs) else none
      |none=>none)
    |_=>none)
   |none=>none
 | .load t x=>loadPlan P (wc ops o.dst) t (ev x)
 | .store t x y=>cq P t (ev x) (cx.ev env y) (dO y)
 | .nilCheck x=>match ev x with
   | .bp b k=>some (.pure (.bp b k))
   | .bt b t n=>some (.pure (.bt b t n))
   | .kp xs=>some (.pure (.kp xs))
   | .fn f cs=>some (.pure (.fn f cs))
   |_=>none
 | .binOp op t x y _=>aw P op t (ev x) (ev y)
 | .unOp op _ x=>gM op (ev x)
 | .convert s d x=>if o.dst.any cx.gr=true then lB P s d (ev x) else fO P s d (ev x).asSv
 | .sliceToArrayPointer t x=>match td P t with
   |some d=>(match d.u with
    | .array n e=>(match td P e,ev x with
      |some _,.sv b off m=>if n≤m∧n≠0 then some (.pure (.bp b off)) else none
      |some _,.gv b m _=>if n≤m∧n≠0 then some (.pure (.bp b 0)) else none
      |some de,c=>(match c.sl? with
       |some (m,xs) =>if n≤m∧xs≠[]∧xs.length=m*de.size then some (.pure (.kp xs)) else none
       |none=>none)
      |_,_=>none)
    |_=>none)
   |none=>none
 | .makeFunc (.func f) first caps=>if first.isEmpty then some (.pure (.fn f (caps.toList.map fun x=>(ev x).share))) else none
 | .makeSlice t l c=>match td P t,(ev l).int?,(ev c).int? with
   |some d,some (_,n),some (_,m) =>(match d.u with
    | .slice e=>(match td P e with
      |some de=>if 0≤n∧n=m∧de.bytes*n≤140737488355328∧n≤9223372036854775807∧de.zero.length=de.size∧de.zero.all (·.oneCell') =true then some (.new (bG de.zero n.toNat) fun id=>if o.dst.any cx.gr=true then .gv id n.toNat (de.size,e) else .sv id 0 n.toNat) else none
      |none=>none)
    |_=>none)
   |_,_,_=>none
 | .slice t x lo hi mx=>match ev x,lo,mx with
   | .gv b n s,none,none=>mc P t b n s (hi.map ev)
   |c,_,_=>d6 P t c.asSv (lo.map ev) (hi.map ev) (mx.map ev)
 | .fieldAddr t x f=>an P t (ev x) f
 | .field t x f=>kU P t (ev x) f
 | .indexAddr t x i=>dD P t (ev x).asSv (ev i)
 | .index t x i=>gx P t (ev x) (ev i)
 | .extract x i=>match ev x with
   | .tup xs=>(xs[i]?).map fun c=> .pure c.noR
   |_=>none
 | .call c=>match c.callee with
   | .builtin b=>(match b,c.args.toList,c.argTypes.toList with
     | .len,[x],[t] =>jC P t (ev x).asSv
     | .append,[x,y],[t,t2] =>if o.dst.any cx.gr=true then ig P t t2 (ev x) (ev y).asSv else eh P t t2 (cx.ev env x) (ev y).asSv (dO x)
     | .copy,[x,y],[t,_] =>ii P t (ev x).asSv (ev y).asSv
     | .min,[x,y],_=>fy false (ev x) (ev y)
     | .max,[x,y],_=>fy true (ev x) (ev y)
     | .delete,[x,y],[t,_] =>fM cx t (ev x) (ev y)
     |_,_,_=>none)
   | .value f=>kf cx (ev f) (c.args.toList.map ev)
   | .invoke _ _=>none
 | .makeMap t none=>fK P t
 | .lookup t x k ok=>eR cx t (ev x) (ev k) ok
 | .mapUpdate t m k x=>fL cx t (ev m) (ev k) (ev x)
 |_=>none
def put (d:Option Nat)(c:C)(env:Nat→C):Nat→C:=match d with
 |some d=>fun t=>if t=d then c else env t
 |none=>env
def br (k:Option Nat)(env:Nat→C):Nat→C:=match k with
 |some p=>fun t=>if t=p then (env p).noR else env t
 |none=>env
def da (o:Option (List C)):Bool:=(aR o).isSome|| (eK o).isSome||o.isNone
def aA (cx:Cx)(id:Nat)(p:Plan)(h:Hp):Option (C×Option Nat×Hp):=
 match p with
 | .val c k=>some (c,k,h)
 | .rd b f=>((h.at b).bind f).map fun c=>(c,none,h)
 | .wr b f k=>((h.at b).bind f).map fun r=>(r.2,k,h.set b (some r.1))
 | .xr b off=>(h.at b).bind fun cells=>(cells[off]?).map fun x=>(x,none,h.set b (some (cells.set off x.noR)))
 | .new cells g=>match h[id]? with
   |some none=>some (g id,none,h.set id (some cells))
   |_=>none
 | .call f az=>(cx.hp f az h).map fun r=>(r.1,none,r.2)
 | .mo f=>(f h).map fun r=>(r.1,none,r.2)
 | .cw b f=>if h.all da=true then ((h.at b).bind f).map fun r=>(r.2,none,h.set b (some r.1)) else none
 | .ap b s m ys=>(ys h).bind fun cs=>match b with
   |none=>some (.gv h.length m s,none,h++[some (cs.map C.noR)])
   |some (b,n) =>(h.at b).bind fun cells=>
    if (n+m)*s.1≤cells.length∧(n≠0∨m=0) then some (.gv b (n+m) s,none,h.set b (some (splice cells (n*s.1) (cs.map C.noR))))
    else if n*s.1=cells.length then some (.gv h.length (n+m) s,none,h.set b (some cM)++[some ((cells++cs).map C.noR)])
    else if n=0 then some (.gv h.length (n+m) s,none,h.set b (some cM)++[some (cs.map C.noR)]) else none
def b8 (cx:Cx)(id:Nat)(p:Plan)(st:St):Option (C×St):=(aA cx id p st.h).map fun r=>(r.1,⟨br r.2.1 st.env,r.2.2⟩)
def dW (ops:Array Oper)(o:Oper)(env:Nat→C):Option Bool:=
 match o.guard with
 |none=>some true
 |some (j,want) =>match (ops[j]?).bind (·.dst) with
  |none=>some false
  |some t=>match (env t).noR with
   | .val (.bool b) =>some (b==want)
   | .val (.tuple _) =>some false
   |_=>none
def dr (o:Oper):Bool:=match o.op with
 | .alloc _| .box _ _| .makeSlice _ _ _=>true
 |_=>false
def dF (ops:Array Oper)(i:Nat):Nat:=(ops.toList.take i).countP dr
def kK (N:Nat)(d:Option Nat):Bool:=match d with
 |some d=>decide (d< N)
 |none=>true
def step (cx:Cx)(ops:Array Oper)(base i:Nat)(st:St):Option St:=
 match ops[i]? with
 |none=>none
 |some o=>if kK cx.N o.dst=true then
   match dW ops o st.env with
   |none=>none
   |some false=>some ⟨put o.dst (.val undef) st.env,st.h⟩
   |some true=>match splan cx ops o st.env with
    |none=>none
    |some p=>match b8 cx (base+dF ops i) p st with
     |none=>none
     |some (c,st') =>some ⟨put o.dst c st'.env,st'.h⟩
  else none
def g8 (cx:Cx)(ops:Array Oper)(base:Nat):List Nat→St→Option St
 | [],st=>some st
 |i::l,st=>(step cx ops base i st).bind (g8 cx ops base l)
def qK (cx:Cx)(ops:Array Oper)(st:St):Option St:=
 g8 cx ops st.h.length (List.range ops.size) ⟨st.env,st.h++List.replicate (dF ops ops.size) none⟩
inductive Ex where
 |normal
 |exit (id:Nat)
 |ret
def el (cx:Cx)(st:St)(r:ResultVar):Option C:=
 match r with
 | .tmp t=>some (st.env t)
 | .cell a t=>match td cx.P t,st.env a with
   |some d,.bp b off=>(st.h.at b).bind fun cells=>cA d cells off
   |_,_=>none
def results (cx:Cx)(fn:Func)(st:St):Option C:=
 match fn.results.toList with
 | [r] =>el cx st r
 |rs=>(rs.mapM (el cx st)).map fun cs=> .tup (cs.map C.noR)
def init (args:List C):Nat→C:=fun t=>((args[t]?).getD (.val undef)).noR
structure Ext (G:Gh) (w:World) (G':Gh) (w':World):Prop where
 os:w'.os=w.os
 tape:w'.tape=w.tape
 output:w'.output=w.output
 size:w.heap.size≤w'.heap.size
 heap:∀g,g< w.heap.size→w'.heap[g]? =w.heap[g]?
 K:∀g,g< w.heap.size→∀o,G'.K g o=G.K g o
 T:∀g,g< w.heap.size→G'.T g=G.T g
 μ:∀b,G'.μ b=G.μ b∨(G.μ b=none∧∃k,w.heap.size≤k∧G'.μ b=some k)
 σ:∀b z,G.σ b=some z→G'.σ b=some z
def gD (G:Gh)(w:World)(env:Nat→C)(f:Nat→Value):Prop:=
 (∀t,Rep G (env t) (f t))∧∀t s n xs,env t= .sl (.own s) n xs→OwnRow G w (0,t,0) (f t) s n
theorem iS (w:World)(o:Obj): (w.alloc o).heap[w.heap.size]? =some o:=by
 show (w.heap.push o)[w.heap.size]? =some o;simp
theorem iT (w:World)(o:Obj)(i:Nat)(h:i< w.heap.size): (w.alloc o).heap[i]? =w.heap[i]? :=by
 show (w.heap.push o)[i]? =w.heap[i]?;rw[Array.getElem?_push,if_neg (by omega)]
section
variable {G G':Gh} {h h':Hp} {w w':World}
theorem WorldOK.klt (H:WorldOK G h w){g o:Nat}{u:Value}(hk:G.K g o=some u):g< w.heap.size:=
 block_lt_of_cell (H.known g o u hk)
theorem WorldOK.knone (H:WorldOK G h w){g:Nat}(hg:w.heap.size≤g)(o:Nat):G.K g o=none:=by
 cases hk:G.K g o with
 |none=>rfl
 |some u=>have:=H.klt hk;omega
theorem WorldOK.tnone (H:WorldOK G h w){g:Nat}(hg:w.heap.size≤g):G.T g=none:=by
 cases hk:G.T g with
 |none=>rfl
 |some u=>have:=H.tlt g u hk;omega
theorem WorldOK.μlt (H:WorldOK G h w){b blk:Nat}(hb:G.μ b=some blk):blk< w.heap.size:=(H.dom b blk hb).2
theorem WorldOK.bx (H:WorldOK G h w){b blk:Nat}{cells:List C}(hb:h.at b=some cells)(hm:G.μ b=some blk):
 ∃cs e,RowIs w.heap[blk]? cs e∧cells.length≤cs.size∧RepL G cells (cs.toList.take cells.length)∧∀v∈cs.toList,v.oneCell'=true:=by
 rcases H.box b cells hb with ⟨_,hE⟩ | ⟨blk',cs,e,q1,q2,q3,q4,q5⟩
 . rw[hm] at hE;cases hE
 . rw[hm] at q1;cases q1;exact ⟨cs,e,q2,q3,q4,q5⟩
theorem Ext.le (E:Ext G w G' w')(H:WorldOK G h w):G.Le G':=
 ⟨fun b o u hk=>by rw[E.K b (H.klt hk)];exact hk,fun b k hk=>by
   rcases E.μ b with e| ⟨e,_⟩
   . rw[e];exact hk
   . rw[e] at hk;exact absurd hk (by simp),fun b k hk=>E.σ b k hk⟩
theorem Ext.μold (E:Ext G w G' w'){g b:Nat}(hg:g< w.heap.size)(hm:G.μ b≠some g):G'.μ b≠some g:=by
 rcases E.μ b with e| ⟨_,k,hk,e⟩
 . rw[e];exact hm
 . rw[e];intro h;cases h;omega
theorem Ext.frm (E:Ext G w G' w')(H:WorldOK G h w):Frm G w G' w':=
 ⟨E.os,E.tape,E.output,E.size,E.le H,fun g hg ht hm=>⟨E.heap g hg,by rw[E.T g hg];exact ht,fun b=>E.μold hg (hm b),fun o=>E.K g hg o⟩⟩
theorem Ext.cell (E:Ext G w G' w'){a:Addr}(ha:a.block< w.heap.size):w'.cell? a=w.cell? a:=World.cell?_of_block (E.heap a.block ha)
theorem Ext.own (E:Ext G w G' w')(H:WorldOK G h w){p:bB}{v:Value}{s n:Nat}(O:OwnRow G w p v s n):OwnRow G' w' p v s n:=by
 rcases O with O| ⟨g,cap,cur,e,hv,ht,hg,hs,hk,hm⟩
 . exact .inl O
 . have hlt:=H.tlt g p ht
   refine .inr ⟨g,cap,cur,e,hv,by rw[E.T g hlt];exact ht,by rw[E.heap g hlt];exact hg,hs,fun o ho=>by rw[E.K g hlt];exact hk o ho,fun b=>E.μold hlt (hm b)⟩
theorem Ext.env (E:Ext G w G' w')(H:WorldOK G h w){env:Nat→C}{f:Nat→Value}(O:gD G w env f):gD G' w' env f:=
 ⟨fun t=>(O.1 t).mono (E.le H),fun t s n xs he=>E.own H (O.2 t s n xs he)⟩
def commit (G:Gh)(b:Nat)(vs:List Value):Gh:= { G with K:=fun g o=>if g=b then vs[o]? else G.K g o }
def co (G:Gh)(b:Nat)(p:Option bB):Gh:= { G with T:=fun g=>if g=b then p else G.T g }
theorem WorldOK.mpoT {G G':Gh}{h h':Hp}{w w':World}(H:WorldOK G h w)(hm:∀b l,h'.mp b=some l→h.mp b=some l)(hh:∀ (blk:Nat) es clk,w.heap[blk]? =some (Obj.map es clk)→w'.heap[blk]? =some (Obj.map es clk))(le:G.Le G'):
 ∀b l,h'.mp b=some l→∃blk es clk,G'.μ b=some blk∧w'.heap[blk]? =some (Obj.map es clk)∧MRep G' l es.toList:=fun b l hb=>by
 obtain ⟨blk,es,clk,h1,h2,h3⟩:=H.mpo b l (hm b l hb);exact ⟨blk,es,clk,le.μ _ _ h1,hh _ _ _ h2,h3.mono le⟩
theorem WorldOK.mpiT {G G':Gh}{h h':Hp}{w:World}(H:WorldOK G h w)(hm:∀b l,h'.mp b=some l→h.mp b=some l)(hμ:∀b l blk,h'.mp b=some l→G'.μ b=some blk→G.μ b=some blk):
 ∀b b' l l' blk,h'.mp b=some l→h'.mp b'=some l'→G'.μ b=some blk→G'.μ b'=some blk→b=b':=fun b b' l l' blk x x' y y'=>
 H.mpi b b' l l' blk (hm b l x) (hm b' l' x') (hμ b l blk x y) (hμ b' l' blk x' y')
theorem gQ {h:Hp}{b:Nat}{o:Option (List C)}(hb:b< h.length)(ho:eK o=none):∀k l,Hp.mp (h.set b o) k=some l→k≠b∧h.mp k=some l:=fun k l hk=>by
 rw[pP hb] at hk;split at hk
 . rw[ho] at hk;cases hk
 . rename_i e;exact ⟨e,hk⟩
theorem uy {w w':World}(hs:∀g,g< w.heap.size→w'.heap[g]? =w.heap[g]?):∀ (blk:Nat) es clk,w.heap[blk]? =some (Obj.map es clk)→w'.heap[blk]? =some (Obj.map es clk):=fun blk es clk hb=>by
 rw[hs blk (by have:=(Array.getElem?_eq_some_iff.1 hb).1;exact this)];exact hb
theorem Ext.commit {G:Gh}{w w':World}(vs:List Value)(p:Option bB)(hos:w'.os=w.os)(ht:w'.tape=w.tape)(ho:w'.output=w.output)
 (hh:∃ob,w'.heap=w.heap.push ob):Ext G w (co (Sx.commit G w.heap.size vs) w.heap.size p) w':=by
 obtain ⟨ob,hh⟩:=hh;refine ⟨hos,ht,ho,by rw[hh];simp,fun g hg=>by rw[hh,Array.getElem?_push,if_neg (by omega)],fun g hg o=>?_,fun g hg=>?_,fun b=> .inl rfl,?_⟩
 . simp only[co,Sx.commit];rw[if_neg (by omega)]
 . simp only[co];rw[if_neg (by omega)];rfl
 . exact fun _ _ x=>x
theorem WorldOK.commit (H:WorldOK G h w)(vs:List Value)(p:Option bB)(cs:Array Value)(e:TypeId)(fr:Nat×Nat)(hos:w'.os=w.os)(ht:w'.tape=w.tape)(ho:w'.output=w.output)
 (hh:w'.heap=w.heap.push (.cells cs e fr)) (hv:∀ (j:Nat)(u:Value),vs[j]? =some u→cs[j]? =some u):
 WorldOK (co (Sx.commit G w.heap.size vs) w.heap.size p) h w'∧Ext G w (co (Sx.commit G w.heap.size vs) w.heap.size p) w':=by
 have E:Ext G w (co (Sx.commit G w.heap.size vs) w.heap.size p) w':=Ext.commit vs p hos ht ho ⟨_,hh⟩;have hnew:w'.heap[w.heap.size]? =some (.cells cs e fr):=by rw[hh];simp
 refine ⟨⟨?_,?_,fun b blk hb=>⟨(H.dom b blk hb).1,Nat.lt_of_lt_of_le (H.dom b blk hb).2 E.size⟩,H.inj,?_,?_,?_,?_,H.mpoT (fun _ _ x=>x) (uy E.heap) (E.le H),H.mpiT (fun _ _ x=>x) (fun _ _ _ _ x=>x)⟩,E⟩
 . intro blk off u hk
   simp only[co,Sx.commit] at hk;split at hk
   . rename_i hb
     subst hb;simp only[World.cell?,hnew];simpa using hv off u hk
   . rw[E.cell (H.klt hk)]
     exact H.known blk off u hk
 . intro b cells hb
   rcases H.box b cells hb with hE| ⟨blk,cs',e',h1,h2,h0,h3,h4⟩
   . exact .inl hE
   . exact .inr ⟨blk,cs',e',h1,by rw[E.heap blk (H.μlt h1)];exact h2,h0,h3.mono (E.le H),h4⟩
 . intro b blk hb
   have hlt:=H.μlt hb;obtain ⟨h1,h2⟩:=H.sep b blk hb;exact ⟨fun o=>by rw[E.K blk hlt];exact h1 o,by rw[E.T blk hlt];exact h2⟩
 . intro g q hg
   simp only[co] at hg;split at hg
   . subst_vars;rw[hh];simp
   . have:=H.tlt g q hg;rw[hh];simp;omega
 . intro b cells off s n xs blk v hb hc hm hv'
   have hlt:=H.μlt hm;rw[E.cell hlt] at hv';exact E.own H (H.own b cells off s n xs blk v hb hc hm hv')
 . intro b z hz
   obtain ⟨blk,cs',e',fr',h1,h2,h3⟩:=H.siz b z hz;exact ⟨blk,cs',e',fr',h1,by rw[E.heap blk (H.μlt h1)];exact h2,h3⟩
theorem WorldOK.same (H:WorldOK G h w)(hh:w'.heap=w.heap):WorldOK G h w':=by
 have hc:∀a,w'.cell? a=w.cell? a:=fun a=>by simp only[World.cell?,hh]
 refine ⟨fun b o u hk=>by rw[hc];exact H.known b o u hk,fun b c hb=>by rw[hh];exact H.box b c hb,fun b blk hb=>by rw[hh];exact H.dom b blk hb,H.inj,H.sep,fun g p hg=>by rw[hh];exact H.tlt g p hg,?_,fun b z hz=>by rw[hh];exact H.siz b z hz,fun b l hb=>by rw[hh];exact H.mpo b l hb,H.mpi⟩;intro b cells off s n xs blk v hb hx hm hv;rw[hc] at hv;rcases H.own b cells off s n xs blk v hb hx hm hv with O| ⟨g,cap,cur,e,q1,q2,q3,q4⟩
 . exact .inl O
 . exact .inr ⟨g,cap,cur,e,q1,q2,by rw[hh];exact q3,q4⟩
theorem Ext.same (hos:w'.os=w.os)(ht:w'.tape=w.tape)(ho:w'.output=w.output)(hh:w'.heap=w.heap):Ext G w G w':=
 ⟨hos,ht,ho,by rw[hh];exact Nat.le_refl _,fun g _=>by rw[hh],fun _ _ _=>rfl,fun _ _=>rfl,fun _=> .inl rfl,fun _ _ x=>x⟩
theorem fB {h:Hp}{b:Nat}{cells:List C}(hb:h.at b=some cells):h[b]? =some (some cells):=by
 unfold Hp.at at hb
 cases hq:h[b]? with
 |none=>rw[hq] at hb;cases hb
 |some o=>rw[hq] at hb;rw[dN hb]
theorem dI {h:Hp}{b:Nat}{cells:List C}(hb:h.at b=some cells):b< h.length:=(List.getElem?_eq_some_iff.1 (fB hb)).1
theorem cd {h:Hp}{b:Nat}(hb:b< h.length)(cells:List C)(b':Nat):Hp.at (h.set b (some cells)) b'=if b'=b then aR (some cells) else h.at b':=by
 unfold Hp.at;rw[List.getElem?_set];split
 . rename_i e
   subst e;simp[hb]
 . rename_i e
   rw[if_neg (Ne.symm e)]
def eB (G:Gh)(b blk:Nat)(z:Nat×Nat):Gh:= { G with μ:=fun b'=>if b'=b then some blk else G.μ b',σ:=fun b'=>if b'=b then some z else G.σ b' }
theorem uz (H:WorldOK G h w)(id:Nat)(hid:h[id]? =some none)(cells:List C)(vs:Array Value)(e:TypeId)(hw:w'=w.alloc (.cells vs e))
 (hr:RepL G cells vs.toList) (h1:∀v∈vs.toList,v.oneCell'=true) (hno:∀ (off s n:Nat)(xs:List C),cells[off]? ≠some (C.sl (.own s) n xs)):
 WorldOK (eB G id w.heap.size (vs.size,e)) (h.set id (some cells)) w'∧Ext G w (eB G id w.heap.size (vs.size,e)) w':=by
 subst hw;have hlen:id< h.length:=(List.getElem?_eq_some_iff.1 hid).1;have hμ0:G.μ id=none:=by
  cases hm:G.μ id with
  |none=>rfl
  |some k=>obtain ⟨⟨c,hc⟩,_⟩:=H.dom id k hm;rw[hid] at hc;cases hc
 have E:Ext G w (eB G id w.heap.size (vs.size,e)) (w.alloc (.cells vs e)):=by
  refine ⟨rfl,rfl,rfl,by simp,fun g hg=>iT w _ g hg,fun _ _ _=>rfl,fun _ _=>rfl,fun b=>?_,fun b z x=>?_⟩
  rotate_left
  . have hbi:b≠id:=fun e=>by
     obtain ⟨k,_,_,_,q,_⟩:=H.siz b z x;rw[e,hμ0] at q;cases q
    simp only[eB,hbi,if_false];exact x
  simp only[eB];by_cases hb:b=id
  . subst hb;exact .inr ⟨hμ0,w.heap.size,Nat.le_refl _,by simp⟩
  . exact .inl (by simp[hb])
 have hmp:=gQ (o:=some cells) hlen (uk hr h1);refine ⟨⟨?_,?_,?_,?_,?_,?_,?_,?_,H.mpoT (fun b l x=>(hmp b l x).2) (uy E.heap) (E.le H),H.mpiT (fun b l x=>(hmp b l x).2) (fun b l blk x y=>by simp only[eB] at y;rw[if_neg (hmp b l x).1] at y;exact y)⟩,E⟩
 . intro blk off u hk
   have hk':G.K blk off=some u:=hk;rw[E.cell (H.klt hk')];exact H.known blk off u hk'
 . intro b cs hb
   rw[cd hlen] at hb;by_cases hbi:b=id
   . subst hbi
     rw[if_pos rfl] at hb;have hb':=dN hb;simp only[Option.some.injEq] at hb';subst hb';have hl:cells.length=vs.toList.length:=hr.length;refine .inr ⟨w.heap.size,vs,e,by simp[eB],by rw[iS w _];exact .of,by rw[hl];simp,?_,h1⟩;rw[hl,List.take_length];exact hr.mono (E.le H)
   . rw[if_neg hbi] at hb
     rcases H.box b cs hb with ⟨hE,hE2⟩ | ⟨blk,cs',e',q1,q2,q0,q3,q4⟩
     . exact .inl ⟨hE,by simp[eB,hbi,hE2]⟩
     . exact .inr ⟨blk,cs',e',by simp[eB,hbi,q1],by rw[iT w _ blk (H.μlt q1)];exact q2,q0,q3.mono (E.le H),q4⟩
 . intro b blk hb
   rw[List.getElem?_set];by_cases hbi:b=id
   . subst hbi
     simp only[eB,if_true,Option.some.injEq] at hb;subst hb;exact ⟨⟨cells,by rw[if_pos rfl,if_pos hlen]⟩,by simp⟩
   . simp only[eB,hbi,if_false] at hb
     obtain ⟨⟨c,hc⟩,hl⟩:=H.dom b blk hb;exact ⟨⟨c,by rw[if_neg (Ne.symm hbi)];exact hc⟩,Nat.lt_of_lt_of_le hl E.size⟩
 . intro b b' c c' blk ha ha' hb hb'
   rw[cd hlen] at ha ha';simp only[eB] at hb hb';split at hb<;>split at hb'
   . omega
   . simp only[Option.some.injEq] at hb;have:=H.μlt hb';omega
   . simp only[Option.some.injEq] at hb';have:=H.μlt hb;omega
   . rename_i n1 n2
     rw[if_neg n1] at ha;rw[if_neg n2] at ha';exact H.inj b b' c c' blk ha ha' hb hb'
 . intro b blk hb
   simp only[eB] at hb;split at hb
   . simp only[Option.some.injEq] at hb
     subst hb;exact ⟨fun o=>H.knone (Nat.le_refl _) o,H.tnone (Nat.le_refl _)⟩
   . exact H.sep b blk hb
 . intro g p hg
   have:=H.tlt g p hg;simp;omega
 . intro b cs off s n xs blk v hb hc hm hv
   rw[cd hlen] at hb;by_cases hbi:b=id
   . rw[if_pos hbi] at hb
     have hb':=dN hb;simp only[Option.some.injEq] at hb';subst hb';exact absurd hc (hno off s n xs)
   . rw[if_neg hbi] at hb
     simp only[eB,hbi,if_false] at hm;have hlt:=H.μlt hm;rw[E.cell hlt] at hv;exact E.own H (H.own b cs off s n xs blk v hb hc hm hv)
 . intro b z hz
   by_cases hbi:b=id
   . subst hbi
     simp only[eB,if_true,Option.some.injEq] at hz;subst hz;exact ⟨w.heap.size,vs,e,(0,0),by simp[eB],by rw[iS w _],rfl,rfl⟩
   simp only[eB,hbi,if_false] at hz;obtain ⟨blk,cs',e',fr',q1,q2,q3⟩:=H.siz b z hz;exact ⟨blk,cs',e',fr',by simp[eB,hbi,q1],by rw[iT w _ blk (H.μlt q1)];exact q2,q3⟩
theorem WorldOK.setBox (H:WorldOK G h w)(b blk:Nat)(hb:G.μ b=some blk){cells0:List C}(hc0:h.at b=some cells0)(cells:List C)(vs:Array Value)(hg:G'= { G with T:=G'.T })
 (hw:w'=w.setRow blk vs) (hsz:∀cs e fr,w.heap[blk]? =some (.cells cs e fr)→vs.size=cs.size)
 (hl:cells.length≤vs.size) (hr:RepL G cells (vs.toList.take cells.length)) (h1:∀v∈vs.toList,v.oneCell'=true)
 (hT:∀g,G'.T g=none↔G.T g=none) (hTo:∀g b' o,b'≠b→(G.T g=some (1,b',o)→G'.T g=some (1,b',o)))
 (hown:∀ (off s n:Nat)(xs:List C)(v:Value),cells[off]? =some (C.sl (.own s) n xs)→vs[off]? =some v→OwnRow G' w (1,b,off) v s n):
 WorldOK G' (h.set b (some cells)) w':=by
 obtain ⟨cs0,e,fr,q2,hfr⟩:∃cs0 e,RowIs w.heap[blk]? cs0 e:=by
  rcases H.box b cells0 hc0 with ⟨_,hE⟩ | ⟨blk',cs0,e,q1,q2,_⟩
  . rw[hb] at hE;cases hE
  . rw[hb] at q1;cases q1;exact ⟨cs0,e,q2⟩
 have hlen:b< h.length:=dI hc0;have hK:G'.K=G.K:=by rw[hg]
 have hμ:G'.μ=G.μ:=by rw[hg]
 have hσ:G'.σ=G.σ:=by rw[hg]
 have le:G.Le G':=⟨fun _ _ _ x=>by rw[hK];exact x,fun _ _ x=>by rw[hμ];exact x,fun _ _ x=>by rw[hσ];exact x⟩;have hblk:w'.heap[blk]? =some (.cells vs e fr):=by rw[hw];exact setRow_heap w blk cs0 vs e fr q2
 have hvc:vs.size=cs0.size:=hsz _ _ _ q2;have hoth:∀g,g≠blk→w'.heap[g]? =w.heap[g]? :=fun g hne=>by rw[hw];exact setRow_other w blk g vs hne
 have hsize:w'.heap.size=w.heap.size:=by rw[hw];simp
 have mv:∀ {p:bB}{v:Value}{s n:Nat},OwnRow G' w p v s n→OwnRow G' w' p v s n:=by
  intro p v s n O;rcases O with O| ⟨g,cap,cur,e',a1,a2,a3,a4,a5,a6⟩
  . exact .inl O
  . have hne:g≠blk:=fun e=>a6 b (by rw[hμ,hb,e])
    exact .inr ⟨g,cap,cur,e',a1,a2,by rw[hoth g hne];exact a3,a4,a5,a6⟩
 have hmp:=gQ (o:=some cells) hlen (uk hr fun v hv=>h1 v (List.mem_of_mem_take hv));refine ⟨?_,?_,?_,?_,?_,?_,?_,?_,H.mpoT (fun b l x=>(hmp b l x).2) (fun k es clk hk=>by rw[hoth k (fun e=>by rw[e,q2] at hk;cases hk)];exact hk) le,H.mpiT (fun b l x=>(hmp b l x).2) (fun b l k x y=>by rw[hμ] at y;exact y)⟩
 . intro g off u hk
   rw[hK] at hk;have hne:g≠blk:=fun e=>by rw[e,(H.sep b blk hb).1 off] at hk;cases hk
   have:=H.known g off u hk;rw[←this];exact World.cell?_of_block (hoth g hne)
 . intro b' cs hb'
   rw[cd hlen] at hb';by_cases hbi:b'=b
   . subst hbi
     rw[if_pos rfl] at hb';have hb'':=dN hb';simp only[Option.some.injEq] at hb'';subst hb'';exact .inr ⟨blk,vs,e,by rw[hμ];exact hb,⟨fr,hblk,by rw[hvc];exact hfr⟩,hl,hr.mono le,h1⟩
   . rw[if_neg hbi] at hb'
     rcases H.box b' cs hb' with ⟨hE,hE2⟩ | ⟨blk2,cs',e',r1,r2,r0,r3,r4⟩
     . exact .inl ⟨hE,by rw[hμ];exact hE2⟩
     . have hne:blk2≠blk:=fun e=>hbi (H.inj b' b _ _ blk hb' hc0 (e▸r1) hb)
       exact .inr ⟨blk2,cs',e',by rw[hμ];exact r1,by rw[hoth blk2 hne];exact r2,r0,r3.mono le,r4⟩
 . intro b' blk' hm
   rw[hμ] at hm;rw[List.getElem?_set,hsize];obtain ⟨⟨c,hc⟩,hl'⟩:=H.dom b' blk' hm;by_cases hbi:b'=b
   . subst hbi
     exact ⟨⟨cells,by rw[if_pos rfl,if_pos hlen]⟩,hl'⟩
   . exact ⟨⟨c,by rw[if_neg (Ne.symm hbi)];exact hc⟩,hl'⟩
 . intro b1 b2 c1 c2 k ha1 ha2
   rw[hμ];rw[cd hlen] at ha1 ha2;have f:∀ (x:Nat)(c:List C),(if x=b then aR (some cells) else h.at x) =some c→∃c',h.at x=some c':=fun x c hx=>by
    split at hx
    . rename_i e';subst e';exact ⟨_,hc0⟩
    . exact ⟨_,hx⟩
   obtain ⟨d1,hd1⟩:=f b1 c1 ha1;obtain ⟨d2,hd2⟩:=f b2 c2 ha2;exact H.inj b1 b2 d1 d2 k hd1 hd2
 . intro b' k hm
   rw[hμ] at hm;obtain ⟨s1,s2⟩:=H.sep b' k hm;exact ⟨fun o=>by rw[hK];exact s1 o,(hT k).2 s2⟩
 . intro g p hgp
   have:G.T g≠none:=fun e=>by rw[(hT g).2 e] at hgp;cases hgp
   obtain ⟨q,hq⟩:=Option.ne_none_iff_exists'.1 this;have:=H.tlt g q hq;rw[hsize];exact this
 . intro b' cs off s n xs k v hb' hc hm hv
   rw[cd hlen] at hb';rw[hμ] at hm;by_cases hbi:b'=b
   . subst hbi
     rw[if_pos rfl] at hb';have hb'':=dN hb';simp only[Option.some.injEq] at hb'';subst hb'';rw[hb] at hm;cases hm;have hv2:vs[off]? =some v:=by
      have:w'.cell? ⟨blk,off,none⟩ =vs[off]? :=by simp[World.cell?,hblk]
      rw[←this];exact hv
     exact mv (hown off s n xs v hc hv2)
   . rw[if_neg hbi] at hb'
     have hne:k≠blk:=fun e=>hbi (H.inj b' b _ _ blk hb' hc0 (e▸hm) hb);have hv2:w.cell? ⟨k,off,none⟩ =some v:=by rw[←hv];exact (World.cell?_of_block (hoth k hne)).symm
     refine mv ?_;rcases H.own b' cs off s n xs k v hb' hc hm hv2 with O| ⟨g,cap,cur,e',a1,a2,a3,a4,a5,a6⟩
     . exact .inl O
     . exact .inr ⟨g,cap,cur,e',a1,hTo g b' off hbi a2,a3,a4,by rw[hK];exact a5,by rw[hμ];exact a6⟩
 . intro b' z hz
   rw[hσ] at hz;obtain ⟨k,cs',e',fr',r1,r2,r3⟩:=H.siz b' z hz;rw[hμ];by_cases hk:k=blk
   . subst hk
     exact ⟨k,vs,e,fr,r1,hblk,(hsz _ _ _ r2).trans r3.1,by rw[q2] at r2;cases r2;exact r3.2⟩
   . exact ⟨k,cs',e',fr',r1,by rw[hoth k hk];exact r2,r3⟩
end
end Go.Sx
