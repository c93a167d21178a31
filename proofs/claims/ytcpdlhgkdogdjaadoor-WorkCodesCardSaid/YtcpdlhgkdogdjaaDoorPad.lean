/-
   And what follows.
-/
import Derived.Maps.Keyed
import Derived.Test.YtcpdlhgkdogdjaaDoorPac
set_option linter.unusedSimpArgs false
set_option linter.unusedVariables false
namespace Go.Sx
open Go.RowKit
section
variable {cx:Cx} {G G':Gh} {h:Hp} {w w':World} {st:St} {a:Act} {o:Oper} {P:Program}
def cr (G:Gh)(id blk:Nat)(z:Nat×Nat):Gh:= { G with μ:=fun b=>if b=id then some blk else G.μ b,σ:=fun b=>if b=id then some z else G.σ b }
theorem WorldOK.μnone (H:WorldOK G h w){id:Nat}(hid:h.length≤id):G.μ id=none:=by
 cases hm:G.μ id with
 |none=>rfl
 |some k=>obtain ⟨⟨c,hc⟩,_⟩:=H.dom id k hm;rw[List.getElem?_eq_none hid] at hc;cases hc
theorem WorldOK.σnone (H:WorldOK G h w){id:Nat}(hid:h.length≤id):G.σ id=none:=by
 cases hm:G.σ id with
 |none=>rfl
 |some k=>obtain ⟨blk,cs,e,fr,hc,_⟩:=H.siz id k hm;rw[H.μnone hid] at hc;cases hc
theorem zk (H:WorldOK G h w){id blk:Nat}{z:Nat×Nat}(hid:h.length≤id):G.Le (cr G id blk z):=
 ⟨fun _ _ _ x=>x,fun b k x=>by
   have:b≠id:=fun e=>by rw[e,H.μnone hid] at x;cases x
   simp only[cr];rw[if_neg this];exact x,fun b k x=>by
   have:b≠id:=fun e=>by rw[e,H.σnone hid] at x;cases x
   simp only[cr];rw[if_neg this];exact x⟩
theorem cL (h:Hp)(o:Option (List C))(b:Nat):Hp.at (h++[o]) b=if b=h.length then aR o else h.at b:=by
 unfold Hp.at;by_cases hb:b=h.length
 . subst hb;simp
 . rw[if_neg hb]
   rcases Nat.lt_or_ge b h.length with hl|hl
   . rw[List.getElem?_append_left hl]
   . rw[List.getElem?_append_right hl,List.getElem?_eq_none (by simp;omega),List.getElem?_eq_none hl]
theorem qD {h:Hp}{o:Option (List C)}(ho:eK o=none):∀b l,Hp.mp (h++[o]) b=some l→b≠h.length∧h.mp b=some l:=fun b l hb=>by
 rw[l5] at hb;split at hb
 . rw[ho] at hb;cases hb
 . rename_i e;exact ⟨e,hb⟩
theorem zl {cells:List C}(h:aR (some cells) =some cells):eK (some (cells.map C.noR)) =none:=by
 cases cells with
 |nil=>rfl
 |cons x l=>
  cases x with
  |tup xs=>cases h
  |sl r n xs=>cases r<;>rfl
  |_=>rfl
theorem um {h:Hp}{b:Nat}{cells:List C}(hb:h.at b=some cells):aR (some cells) =some cells:=by
 have:=hb;unfold Hp.at at this;rw[fB hb] at this;exact this
theorem WorldOK.virt (H:WorldOK G h w):WorldOK G (h++[some []]) w:=by
 have hm:=H.μnone (Nat.le_refl _);refine ⟨H.known,fun b cells hb=>?_,fun b blk x=>?_,fun b b' c c' blk x x' y y'=>?_,H.sep,H.tlt,fun b cells off s n xs blk v hb hc hm' hv=>?_,H.siz,H.mpoT (fun b l x=>(qD rfl b l x).2) (fun _ _ _ x=>x) (.refl G),H.mpiT (fun b l x=>(qD rfl b l x).2) (fun _ _ _ _ x=>x)⟩
 . rw[cL] at hb
   split at hb
   . rename_i e;subst e;cases hb;exact .inl ⟨rfl,hm⟩
   . exact H.box b cells hb
 . obtain ⟨⟨c,hc⟩,hl⟩:=H.dom b blk x
   refine ⟨⟨c,?_⟩,hl⟩;rw[List.getElem?_append_left (List.getElem?_eq_some_iff.1 hc).1];exact hc
 . rw[cL] at x x'
   split at x
   . subst_vars;rw[hm] at y;cases y
   . split at x'
     . subst_vars;rw[hm] at y';cases y'
     . exact H.inj b b' c c' blk x x' y y'
 . rw[cL] at hb
   split at hb
   . cases hb;simp at hc
   . exact H.own b cells off s n xs blk v hb hc hm' hv
theorem WorldOK.die (H:WorldOK G h w){b:Nat}{cells:List C}(hb:h.at b=some cells):WorldOK G (h.set b (some cM)) w:=by
 have hlen:=dI hb;have hd:aR (some cM) =none:=rfl;refine ⟨H.known,fun k cs hk=>?_,fun k blk x=>?_,fun k k' c c' blk x x' y y'=>?_,H.sep,H.tlt,fun k cs off s n xs blk v hk hc hm' hv=>?_,H.siz,H.mpoT (fun b l x=>(gQ hlen rfl b l x).2) (fun _ _ _ x=>x) (.refl G),H.mpiT (fun b l x=>(gQ hlen rfl b l x).2) (fun _ _ _ _ x=>x)⟩
 . rw[cd hlen,hd] at hk
   split at hk
   . cases hk
   . exact H.box k cs hk
 . obtain ⟨⟨c,hc⟩,hl⟩:=H.dom k blk x
   refine ⟨?_,hl⟩;rw[List.getElem?_set];by_cases e:b=k
   . rw[if_pos e,if_pos hlen];exact ⟨_,rfl⟩
   . rw[if_neg e];exact ⟨c,hc⟩
 . rw[cd hlen,hd] at x x'
   split at x
   . cases x
   . split at x'
     . cases x'
     . exact H.inj k k' c c' blk x x' y y'
 . rw[cd hlen,hd] at hk
   split at hk
   . cases hk
   . exact H.own k cs off s n xs blk v hk hc hm' hv
theorem wP (H:WorldOK G h w){id blk:Nat}{z:Nat×Nat}{p:bB}{v:Value}{s n:Nat}(hblk: (∃b,G.μ b=some blk)∨w.heap.size≤blk)(O:OwnRow G w p v s n):OwnRow (cr G id blk z) w p v s n:=by
 rcases O with O| ⟨g,cap,cur,e,a1,a2,a3,a4,a5,a6⟩
 . exact .inl O
 . refine .inr ⟨g,cap,cur,e,a1,a2,a3,a4,a5,fun b=>?_⟩
   simp only[cr];split
   . intro x
     cases x;rcases hblk with ⟨b',hb'⟩ |hblk
     . exact a6 b' hb'
     . have:=H.tlt _ _ a2;omega
   . exact a6 b
theorem jK (H:WorldOK G h w)(cells:List C)(vs:Array Value)(e:TypeId)(fr:Nat×Nat)(hfr:fr.2=0∨vs.size≤fr.1)(hos:w'.os=w.os)(ht:w'.tape=w.tape)(ho:w'.output=w.output)
 (hh:w'.heap=w.heap.push (.cells vs e fr)) (hl:cells.length≤vs.size) (hr:RepL G cells (vs.toList.take cells.length)) (h1:∀v∈vs.toList,v.oneCell'=true) (hno:∀x∈cells,x.noOwn):
 WorldOK (cr G h.length w.heap.size (vs.size,e)) (h++[some cells]) w'∧Ext G w (cr G h.length w.heap.size (vs.size,e)) w':=by
 have hm:=H.μnone (Nat.le_refl _);have hs:=H.σnone (Nat.le_refl _);have hnew:w'.heap[w.heap.size]? =some (.cells vs e fr):=by rw[hh];simp
 have hold:∀g,g< w.heap.size→w'.heap[g]? =w.heap[g]? :=fun g hg=>by rw[hh,Array.getElem?_push,if_neg (by omega)]
 have hsz:w'.heap.size=w.heap.size+1:=by rw[hh];simp
 have E:Ext G w (cr G h.length w.heap.size (vs.size,e)) w':=by
  refine ⟨hos,ht,ho,by omega,hold,fun _ _ _=>rfl,fun _ _=>rfl,fun b=>?_,fun b z x=>?_⟩
  . simp only[cr]
    by_cases hb:b=h.length
    . subst hb;exact .inr ⟨hm,w.heap.size,Nat.le_refl _,by simp⟩
    . exact .inl (by simp[hb])
  . have:b≠h.length:=fun e=>by rw[e,hs] at x;cases x
    simp only[cr];rw[if_neg this];exact x
 have hmp:=qD (h:=h) (o:=some cells) (uk hr fun v hv=>h1 v (List.mem_of_mem_take hv));refine ⟨⟨?_,?_,?_,?_,?_,?_,?_,?_,H.mpoT (fun b l x=>(hmp b l x).2) (uy E.heap) (E.le H),H.mpiT (fun b l x=>(hmp b l x).2) (fun b l blk x y=>by simp only[cr] at y;rw[if_neg (hmp b l x).1] at y;exact y)⟩,E⟩
 . intro blk off u hk
   have hk':G.K blk off=some u:=hk;rw[E.cell (H.klt hk')];exact H.known blk off u hk'
 . intro b cs hb
   rw[cL] at hb;split at hb
   . rename_i hbi
     subst hbi;have hb':=dN hb;simp only[Option.some.injEq] at hb';subst hb';exact .inr ⟨w.heap.size,vs,e,by simp[cr],⟨fr,hnew,hfr⟩,hl,hr.mono (E.le H),h1⟩
   . rename_i hbi
     rcases H.box b cs hb with ⟨hE,hE2⟩ | ⟨blk,cs',e',q1,q2,q0,q3,q4⟩
     . exact .inl ⟨hE,by simp[cr,hbi,hE2]⟩
     . exact .inr ⟨blk,cs',e',by simp[cr,hbi,q1],by rw[hold blk (H.μlt q1)];exact q2,q0,q3.mono (E.le H),q4⟩
 . intro b blk hb
   simp only[cr] at hb;split at hb
   . rename_i hbi;subst hbi;cases hb
     exact ⟨⟨cells,by simp⟩,by omega⟩
   . obtain ⟨⟨c,hc⟩,hl⟩:=H.dom b blk hb
     exact ⟨⟨c,by rw[List.getElem?_append_left (List.getElem?_eq_some_iff.1 hc).1];exact hc⟩,by omega⟩
 . intro b b' c c' blk ha ha' hb hb'
   rw[cL] at ha ha';simp only[cr] at hb hb';split at hb<;>split at hb'
   . omega
   . simp only[Option.some.injEq] at hb;have:=H.μlt hb';omega
   . simp only[Option.some.injEq] at hb';have:=H.μlt hb;omega
   . rename_i n1 n2
     rw[if_neg n1] at ha;rw[if_neg n2] at ha';exact H.inj b b' c c' blk ha ha' hb hb'
 . intro b blk hb
   simp only[cr] at hb;split at hb
   . simp only[Option.some.injEq] at hb
     subst hb;exact ⟨fun o=>H.knone (Nat.le_refl _) o,H.tnone (Nat.le_refl _)⟩
   . exact H.sep b blk hb
 . intro g p hg
   have:=H.tlt g p hg;omega
 . intro b cs off s n xs blk v hb hc hm' hv
   rw[cL] at hb;split at hb
   . have hb':=dN hb
     simp only[Option.some.injEq] at hb';subst hb';exact (hno _ (List.mem_of_getElem? hc)).elim
   . rename_i hbi
     simp only[cr,hbi,if_false] at hm';have hlt:=H.μlt hm';rw[E.cell hlt] at hv;exact E.own H (H.own b cs off s n xs blk v hb hc hm' hv)
 . intro b z hz
   simp only[cr] at hz;split at hz
   . rename_i hbi;subst hbi;cases hz
     exact ⟨w.heap.size,vs,e,fr,by simp[cr],hnew,rfl,rfl⟩
   . rename_i hbi
     obtain ⟨blk,cs',e',fr',q1,q2,q3⟩:=H.siz b z hz;exact ⟨blk,cs',e',fr',by simp[cr,hbi,q1],by rw[hold blk (H.μlt q1)];exact q2,q3⟩
theorem WorldOK.rename (H:WorldOK G h w){b blk:Nat}{z:Nat×Nat}{cells:List C}(hb:h.at b=some cells)(hμ:G.μ b=some blk)(hσ:G.σ b=some z)(hno:∀x∈cells,x.noOwn):
 WorldOK (cr G h.length blk z) (h.set b (some cM)++[some cells]) w:=by
 have hlen:=dI hb;have hd:aR (some cM) =none:=rfl;have le:=zk (blk:=blk) (z:=z) H (Nat.le_refl h.length);have hat:∀k,Hp.at (h.set b (some cM)++[some cells]) k=if k=h.length then some cells else if k=b then none else h.at k:=fun k=>by
  rw[cL,List.length_set];split
  . have:=hb
    unfold Hp.at at this;rw[fB hb] at this;exact this
  . rw[cd hlen,hd]
 have hbne:b≠h.length:=by omega
 have hmp:∀k l,Hp.mp (h.set b (some cM)++[some cells]) k=some l→k≠h.length∧h.mp k=some l:=fun k l x=>by
  obtain ⟨n1,n2⟩:=qD (rI (um hb)) k l x;rw[List.length_set] at n1;exact ⟨n1,(gQ hlen rfl k l n2).2⟩
 refine ⟨H.known,fun k cs hk=>?_,fun k q x=>?_,fun k k' c c' q x x' y y'=>?_,fun k q x=>?_,H.tlt,fun k cs off s n xs q v hk hc hm' hv=>?_,fun k z' x=>?_,H.mpoT (fun b l x=>(hmp b l x).2) (fun _ _ _ x=>x) le,H.mpiT (fun b l x=>(hmp b l x).2) (fun b l blk x y=>by simp only[cr] at y;rw[if_neg (hmp b l x).1] at y;exact y)⟩
 . rw[hat] at hk
   split at hk
   . rename_i e
     subst e;cases hk;obtain ⟨cs',e',q1,q2,q3,q4⟩:=H.bx hb hμ;exact .inr ⟨blk,cs',e',by simp[cr],q1,q2,q3.mono le,q4⟩
   . split at hk
     . cases hk
     . rename_i n1 n2
       rcases H.box k cs hk with ⟨hE,hE2⟩ | ⟨q,cs',e',q1,q2,q0,q3,q4⟩
       . exact .inl ⟨hE,by simp[cr,n1,hE2]⟩
       . exact .inr ⟨q,cs',e',by simp[cr,n1,q1],q2,q0,q3.mono le,q4⟩
 . simp only[cr] at x
   split at x
   . rename_i e;subst e;cases x
     refine ⟨⟨cells,?_⟩,H.μlt hμ⟩;rw[List.getElem?_append_right (by simp)];simp
   . obtain ⟨⟨c,hc⟩,hl⟩:=H.dom k q x
     have hkl:=(List.getElem?_eq_some_iff.1 hc).1;refine ⟨?_,hl⟩;rw[List.getElem?_append_left (by simpa using hkl),List.getElem?_set];by_cases e:b=k
     . rw[if_pos e,if_pos hlen];exact ⟨_,rfl⟩
     . rw[if_neg e];exact ⟨c,hc⟩
 . rw[hat] at x x'
   simp only[cr] at y y';split at x<;>split at x'
   . omega
   . rename_i e1 e2
     rw[if_pos e1] at y;rw[if_neg e2] at y';split at x'
     . cases x'
     . rename_i n2
       cases y;exact absurd (H.inj k' b _ _ _ x' hb y' hμ) n2
   . rename_i e1 e2
     rw[if_neg e1] at y;rw[if_pos e2] at y';split at x
     . cases x
     . rename_i n2
       cases y';exact absurd (H.inj k b _ _ _ x hb y hμ) n2
   . rename_i e1 e2
     rw[if_neg e1] at y;rw[if_neg e2] at y';split at x
     . cases x
     . split at x'
       . cases x'
       . exact H.inj k k' c c' q x x' y y'
 . simp only[cr] at x
   split at x
   . cases x;exact H.sep b _ hμ
   . exact H.sep k q x
 . rw[hat] at hk
   split at hk
   . cases hk
     exact (hno _ (List.mem_of_getElem? hc)).elim
   . rename_i n1
     split at hk
     . cases hk
     . simp only[cr] at hm'
       rw[if_neg n1] at hm';exact wP H (.inl ⟨b,hμ⟩) (H.own k cs off s n xs q v hk hc hm' hv)
 . simp only[cr] at x ⊢
   split at x
   . rename_i e
     cases x;obtain ⟨q,cs',e',fr',q1,q2,q3⟩:=H.siz b _ hσ;rw[hμ] at q1;cases q1
     exact ⟨blk,cs',e',fr',by rw[if_pos e],q2,q3⟩
   . rename_i e
     obtain ⟨q,cs',e',fr',q1,q2,q3⟩:=H.siz k z' x;exact ⟨q,cs',e',fr',by rw[if_neg e];exact q1,q2,q3⟩
theorem WorldOK.noRs (H:WorldOK G h w){b:Nat}{cells:List C}(hb:h.at b=some cells):WorldOK G (h.set b (some (cells.map C.noR))) w:=by
 have hlen:=dI hb;refine ⟨H.known,fun k cs hk=>?_,fun k blk x=>?_,fun k k' c c' blk x x' y y'=>?_,H.sep,H.tlt,fun k cs off s n xs blk v hk hc hm' hv=>?_,H.siz,H.mpoT (fun b l x=>(gQ hlen (zl (um hb)) b l x).2) (fun _ _ _ x=>x) (.refl G),H.mpiT (fun b l x=>(gQ hlen (zl (um hb)) b l x).2) (fun _ _ _ _ x=>x)⟩
 . rw[cd hlen] at hk
   split at hk
   . rename_i e
     subst e;have hk':=dN hk;simp only[Option.some.injEq] at hk';subst hk';rcases H.box k cells hb with ⟨hE,hE2⟩ | ⟨q,cs',e',q1,q2,q0,q3,q4⟩
     . exact .inl ⟨by rw[hE];rfl,hE2⟩
     . exact .inr ⟨q,cs',e',q1,q2,by simpa using q0,by rw[List.length_map];exact q3.map_noR,q4⟩
   . exact H.box k cs hk
 . obtain ⟨⟨c,hc⟩,hl⟩:=H.dom k blk x
   refine ⟨?_,hl⟩;rw[List.getElem?_set];by_cases e:b=k
   . rw[if_pos e,if_pos hlen];exact ⟨_,rfl⟩
   . rw[if_neg e];exact ⟨c,hc⟩
 . have f:∀ (x:Nat)(c:List C),Hp.at (h.set b (some (cells.map C.noR))) x=some c→∃c',h.at x=some c':=fun x c hx=>by
    rw[cd hlen] at hx;split at hx
    . rename_i e';subst e';exact ⟨_,hb⟩
    . exact ⟨_,hx⟩
   obtain ⟨d1,hd1⟩:=f k c x;obtain ⟨d2,hd2⟩:=f k' c' x';exact H.inj k k' d1 d2 blk hd1 hd2 y y'
 . rw[cd hlen] at hk
   split at hk
   . have hk':=dN hk
     simp only[Option.some.injEq] at hk';subst hk';obtain ⟨y,_,hy⟩:=List.mem_map.1 (List.mem_of_getElem? hc);exact (gR hy).elim
   . exact H.own k cs off s n xs blk v hk hc hm' hv
theorem py (z:Array Value)(h:∀v∈z.toList,v.oneCell'=true)(n:Nat):∀u∈ (Builtin.zeroCells z n).toList,u.oneCell'=true:=by
 exact pj z h n
theorem GN {cells:List C}(h:aR (some cells) =some cells):aR (some (cells.map C.noR)) =some (cells.map C.noR):=by
 cases cells with
 |nil=>rfl
 |cons x l=>
  cases x with
  |tup xs=>cases h
  |sl r n xs=>cases r<;>rfl
  |_=>rfl
theorem fv {h:Hp}{b:Nat}{cells:List C}(hb:h.at b=some cells):aR (some cells) =some cells:=by
 have:=hb;unfold Hp.at at this;rw[fB hb] at this;exact this
theorem nq {h:Hp}{b:Nat}{cells:List C}(hb:h.at b=some cells):h.set b (some cells) =h:=by
 apply List.ext_getElem?;intro j;rw[List.getElem?_set];split
 . rename_i hj
   subst hj;rw[if_pos (dI hb),fB hb]
 . rfl
section ASrcS
variable {P:Program} {w:World}
theorem vg (n:Int)(h: -9223372036854775808≤n)(h2:n< 9223372036854775808):IntKind.wrap .i64 n=n:=by
 have e:IntKind.wrap .i64 n=if n % 18446744073709551616≥9223372036854775808 then n % 18446744073709551616 - 18446744073709551616 else n % 18446744073709551616:=by
  simp[IntKind.wrap,IntKind.bits,IntKind.signed]
 rw[e];split<;>omega
def ASrc (P:Program)(w:World)(d2 de:TD)(e:TypeId)(yv:Value)(m:Nat)(news:List Value):Prop:=
 (ic d2.u=true∧qj P w de.size yv m news)∨
 (d2.u= .int .i64∧yv= .int .i64 m∧m≤65536∧m*de.bytes≤140737488355328∧0< de.size∧(∃i z,P.info? e=some i∧i.zero=some z∧z.cells.size=de.size∧news= (Builtin.zeroCells z.cells m).toList)∧∀u∈news,u.oneCell'=true)
theorem ASrc.one {d2 de:TD}{e:TypeId}{yv:Value}{m:Nat}{news:List Value}(h:ASrc P w d2 de e yv m news):∀u∈news,u.oneCell'=true:=by
 rcases h with ⟨_,h⟩ | ⟨_,_,_,_,_,_,h⟩
 . exact h.2.2
 . exact h
theorem QL (t t2 ty e:TypeId)(d d2 de:TD)(z:Value)(i:TypeInfo)(hd:td P t=some d)(hde:d.u= .slice e)(he:td P e=some de)(hi:P.info? e=some i)(hz:i.zero=some z)
 (hd2:td P t2=some d2)
 (b:Option Addr) (n cap:Nat) (olds:List Value) (ho:qj P w de.size (.slice b n cap) n olds) (yv:Value) (m:Nat) (news:List Value) (hA:ASrc P w d2 de e yv m news)
 (hg:cap< n+m) (h63:n+m≤9223372036854775807) (hfit: (n+m)*de.bytes≤140737488355328):
 (Builtin.append_ #[t,t2] ty #[.slice b n cap,yv]).run P w=
   .ok (.slice (some ⟨w.heap.size,0,none⟩) (n+m) (grownCap w (n+m) cap e))
    (w.drew.alloc (.cells (olds++news++(Builtin.zeroCells z.cells (grownCap w (n+m) cap e - (n+m))).toList).toArray e)):=by
 rcases hA with ⟨hn2,hs⟩ | ⟨hu2,rfl,hm,hmb,hp,⟨i',z',hi',hz',hzs,rfl⟩,_⟩
 . exact m6 t t2 ty e d d2 de z i hd hde he hi hz hd2 hn2 b n cap olds ho yv m news hs hg h63 hfit
 rw[hi] at hi';cases hi'
 rw[hz] at hz';cases hz'
 obtain ⟨_,i',z',hi',hsz,hby,hz',_⟩:=aQ he;rw[hi] at hi';cases hi';have hn:¬ (n+m≤cap):=by omega
 have h63':¬ (9223372036854775807< ((n:Int)+(m:Int))):=by omega
 have hff:=growslice_fits (need:=n+m) (old:=cap) (bytes:=i.bytes) (by omega) (by rw[hby];exact hfit);have h48':¬ (281474976710656< Builtin.nextslicecap (n+m) cap*i.bytes):=by omega
 have hfo:=ho.2.1 w.drew rfl;rw[←hsz] at hfo;have hw:IntKind.i64.wrap (m:Int) =m:=by
  exact vg _ (by omega) (by omega)
 have hb0:¬ (281474976710656< (m:Int)*(i.bytes:Int)):=by
  rw[hby];have: ((m*de.bytes:Nat):Int)≤140737488355328:=Int.ofNat_le.2 hmb;rw[Int.natCast_mul] at this;omega
 have hm0:¬ ((m:Int) < 0):=by omega
 have fin: (olds.toArray++Builtin.zeroCells z.cells m++Builtin.zeroCells z.cells (grownCap w (n+m) cap e - (n+m))) = (olds++(Builtin.zeroCells z.cells m).toList++(Builtin.zeroCells z.cells (grownCap w (n+m) cap e - (n+m))).toList).toArray:=by
  apply Array.ext';simp
 rw[←fin];by_cases hz0:m=0
 . have e0:Builtin.zeroCells z.cells m= #[]:=by simp[Builtin.zeroCells,hz0]
   have ht:=eq_true hz0;simp[Builtin.append_,aZ hd,hde,aZ hd2,hu2,sizeOf,typeInfo,zeroValue,hi,hz,hn,h63',h48',Question.forced,hfo,newRow,grownCap,asInt,asIntOf,hw,hb0,hm0,e0,ht]
 . have hs0:¬i.size=0:=by omega
   simp[Builtin.append_,aZ hd,hde,aZ hd2,hu2,sizeOf,typeInfo,zeroValue,hi,hz,hn,h63',h48',Question.forced,hfo,newRow,grownCap,asInt,asIntOf,hw,hb0,hm0,hz0,hs0]
   exact fun h=>absurd h (Nat.mul_ne_zero hz0 hs0)
theorem CN {m:Nat}(hm:m≤65536):IntKind.i64.wrap (m:Int) =m:=vg _ (by omega) (by omega)
theorem Kz (t t2 ty e:TypeId)(d d2 de:TD)(hd:td P t=some d)(hde:d.u= .slice e)(he:td P e=some de)
 (hd2:td P t2=some d2)
 (g n cap:Nat) (cur:Array Value) (e':TypeId) (hgr:RowIs w.heap[g]? cur e') (yv:Value) (m:Nat) (news:List Value) (hA:ASrc P w d2 de e yv m news)
 (hnl:news.length=m*de.size) (hg:n+m≤cap) (hfit: (n+m)*de.size≤cur.size):
 (Builtin.append_ #[t,t2] ty #[.slice (some ⟨g,0,none⟩) n cap,yv]).run P w=
   .ok (.slice (some ⟨g,0,none⟩) (n+m) cap) (w.setRow g (cur.toList.take (n*de.size)++news++cur.toList.drop (n*de.size+news.length)).toArray):=by
 rcases hA with ⟨hn2,hs⟩ | ⟨hu2,rfl,hm,hmb,hp,⟨i',z',hi',hz',hzs,hnw⟩,h1⟩
 . exact n6 t t2 ty e d d2 de hd hde he hd2 hn2 g n cap cur e' hgr yv m news hs hnl hg hfit
 obtain ⟨_,i,z,hi,hsz,hby,hz,_⟩:=aQ he;rw[hi] at hi';obtain rfl:i=i':=by simpa using hi'
 rw[hz] at hz';obtain rfl:z=z':=by simpa using hz'
 obtain ⟨fr,hgr,hfr⟩:=hgr;have hst:=eL P g (n*i.size) e' fr news 0 cur w hgr hfr (by rw[hnl,Nat.add_zero,hsz,←Nat.add_mul];exact hfit) h1;simp only[Nat.add_zero] at hst;rw[hsz] at hst;have hw:=CN hm;have hb0:¬ (281474976710656< (m:Int)*(i.bytes:Int)):=by
  rw[hby];have: ((m*de.bytes:Nat):Int)≤140737488355328:=Int.ofNat_le.2 hmb;rw[Int.natCast_mul] at this;omega
 have hm0:¬ ((m:Int) < 0):=by omega
 by_cases hz0:m=0
 . have e0:Builtin.zeroCells z.cells m= #[]:=by simp[Builtin.zeroCells,hz0]
   have ht:=eq_true hz0;rw[e0] at hnw;subst hnw;simp[Builtin.append_,aZ hd,hde,aZ hd2,hu2,bS he,hg,dc,typeInfo,zeroValue,hi,hz,asInt,asIntOf,hw,hb0,hm0,e0,ht,hst]
 . have hs0:¬de.size=0:=by omega
   rw[hnw] at hst;rw[hnw];simp[Builtin.append_,aZ hd,hde,aZ hd2,hu2,bS he,hg,dc,typeInfo,zeroValue,hi,hz,asInt,asIntOf,hw,hb0,hm0,hz0,hs0,hst]
   exact fun h=>absurd h (Nat.mul_ne_zero hz0 hs0)
theorem CO (t t2 ty e:TypeId)(d d2 de:TD)(hd:td P t=some d)(hde:d.u= .slice e)(he:td P e=some de)
 (hd2:td P t2=some d2) (b:Option Addr) (n:Nat) (yv:Value) (hA:ASrc P w d2 de e yv 0 []):
 (Builtin.append_ #[t,t2] ty #[.slice b n n,yv]).run P w= .ok (.slice b n n) w:=by
 rcases hA with ⟨hn2,hs⟩ | ⟨hu2,rfl,hm,hmb,hp,⟨i',z',hi',hz',hzs,hnw⟩,h1⟩
 . exact k8 t t2 ty e d d2 de hd hde he hd2 hn2 b n yv hs
 obtain ⟨_,i,z,hi,hsz,hby,hz,_⟩:=aQ he;have hw:IntKind.i64.wrap 0=0:=CN (Nat.zero_le _)
 cases b with
 |none=>simp[Builtin.append_,aZ hd,hde,aZ hd2,hu2,bS he,asInt,asIntOf,hw,typeInfo,hi]
 |some ad=>simp[Builtin.append_,aZ hd,hde,aZ hd2,hu2,bS he,asInt,asIntOf,hw,typeInfo,hi,storeCells]
end ASrcS
theorem pT (H:Pre cx G w st a)(d:bB){t t2 ty e:TypeId}{dt d2 de:TD}(hd:td cx.P t=some dt)(hde:dt.u= .slice e)(he:td cx.P e=some de)
 (hd2:td cx.P t2=some d2)
 {xc:C} {xv:Value} (hx:Rep G xc xv) {n:Nat} {b:Option (Nat×Nat)}
 (hs: (n=0∧b=none∧∃ad,xv= .slice ad 0 0)∨(∃b',b=some (b',n)∧xc= .gv b' n (de.size,e)))
 {yv:Value} {m:Nat} {ys:List C} {news:List Value} (hnl:news.length=ys.length) (hry:RepL G ys news) (hsrc:ASrc cx.P w d2 de e yv m news)
 (h2:ys.length=m*de.size) (h3:0< de.size) (h4:de.zero.length=de.size) (h5: (n+m)*de.bytes≤140737488355328) (h6:n+m≤9223372036854775807) (hz1:de.zero.all (·.oneCell') =true)
 {f:Hp→Option (List C)} (hf:f st.h=some ys) {id:Nat} {c:C} {st':St} (hact:b8 cx id (.ap b (de.size,e) m f) st=some (c,st')):
 ∃v w' G',(Builtin.append_ #[t,t2] ty #[xv,yv]).run cx.P w= .ok v w'∧Out G w st' (av a) d c v G' w':=by
 have hml:maxLen=9223372036854775807:=by decide
 obtain ⟨_,i,z,hi,hsz,hby,hz,hzz⟩:=aQ he;have hzl:z.cells.size=de.size:=by rw[←h4,←hzz];simp
 have hry':RepL G (ys.map C.noR) news:=hry.map_noR;have nor:∀ (l:List C),∀x∈l.map C.noR,x.noOwn:=fun l x hx=>by obtain ⟨y,_,rfl⟩:=List.mem_map.1 hx;exact cQ y
 simp only[b8,aA,hf,Option.bind_some] at hact;have fresh:∀ (st0:St)(H0:WorldOK G st0.h w)(henv:gD G w st0.env (av a))(ad:Option Addr)(cap:Nat)(hxv:xv= .slice ad n cap)(hgr:cap< n+m)(olds:List Value)(xs:List C)(o1:olds.length=n*de.size)
  (o2:RepL G (xs.map C.noR) olds) (o3:qj cx.P w de.size (.slice ad n cap) n olds),
  ∃v w' G',(Builtin.append_ #[t,t2] ty #[xv,yv]).run cx.P w= .ok v w'∧Out G w ⟨st0.env,st0.h++[some ((xs++ys).map C.noR)]⟩ (av a) d (.gv st0.h.length (n+m) (de.size,e)) v G' w':=by
  intro st0 H0 henv ad cap hxv hgr olds xs o1 o2 o3;subst hxv;have hrun:=QL (P:=cx.P) (w:=w) t t2 ty e dt d2 de z i hd hde he hi hz hd2 ad n cap olds o3 yv m news hsrc hgr h6 h5;have hge:=grownCap_ge w (n+m) cap e;have hcm':grownCap w (n+m) cap e≤maxLen:=grownCap_le_maxLen w (n+m) cap e (by omega);have hrep:=o2.append hry';rw[←List.map_append] at hrep;have hlen:=hrep.length;obtain ⟨W,E⟩:=jK (w':=w.drew.alloc (.cells (olds++news++(Builtin.zeroCells z.cells (grownCap w (n+m) cap e - (n+m))).toList).toArray e)) H0 ((xs++ys).map C.noR)
   (olds++news++(Builtin.zeroCells z.cells (grownCap w (n+m) cap e - (n+m))).toList).toArray e (0,0) (.inl rfl) rfl rfl rfl rfl (by rw[hlen];simp) (by
     rw[hlen];simp only[List.take_append,List.length_append,Nat.sub_self,List.take_zero,List.append_nil,List.toList_toArray];rw[List.take_of_length_le (by simp),List.take_of_length_le (l:=news) (by simp)];exact hrep) (by
     intro u hu;simp only[List.mem_append] at hu;rcases hu with (hu|hu) |hu
     . exact o3.2.2 u hu
     . exact hsrc.one u hu
     . exact py z.cells (fun v hv=>by rw[hzz] at hv;exact (List.all_eq_true.1 hz1) v hv) _ u hu) (nor _)
  refine ⟨_,_,_,hrun,⟨?_,by simp,W,E.env H0 henv,E.frm H0⟩⟩;simp only[Rep];refine ⟨_,_,rfl,hge,hcm',.inr ⟨w.heap.size,by simp[cr],rfl,?_⟩⟩;simp only[cr,if_true,Option.some.injEq,Prod.mk.injEq,and_true];simp only[List.size_toArray,List.length_append,Array.length_toList,jY];rw[o1,hnl,h2,hzl,←Nat.add_mul,←Nat.add_mul];congr 1
  omega
 have nothing:∀ (ad:Option Addr)(cap:Nat),xv= .slice ad n cap→cap=n→m=0→(Builtin.append_ #[t,t2] ty #[xv,yv]).run cx.P w= .ok xv w:=by
  intro ad cap h1 h2' h3';subst h1 h2' h3';have hn0:news= []:=List.eq_nil_of_length_eq_zero (by rw[hnl,h2,Nat.zero_mul]);refine CO t t2 ty e dt d2 de hd hde he hd2 ad _ yv ?_;rw[hn0] at hsrc;exact hsrc
 rcases hs with ⟨rfl,rfl,ad,hxv⟩ | ⟨b',rfl,hxc⟩
 . simp only[Option.map_some,Option.some.injEq,Prod.mk.injEq] at hact
   obtain ⟨rfl,rfl⟩:=hact;by_cases hm:m=0
   . have hrun:=nothing ad 0 hxv rfl hm
     subst hm;have hy0:ys= []:=List.eq_nil_of_length_eq_zero (by rw[h2,Nat.zero_mul]);subst hy0;refine ⟨_,_,G,hrun,⟨?_,by simp,H.ok.virt,H.env,Frm.refl G w⟩⟩;simp only[Rep];exact ⟨ad,0,hxv,Nat.le_refl _,by omega,.inl ⟨trivial,rfl⟩⟩
   . have:=fresh st H.ok H.env ad 0 hxv (by omega) [] [] (by simp) (by simp[RepL]) ⟨fun w'=>by simp[Builtin.lenOf],fun w' _=>by cases ad<;>simp[Builtin.firstCells,loadCells,loadCellsFrom],by simp⟩
     simpa[br] using this
 . subst hxc
   have hsv:=gE hx;simp only[Rep] at hx;obtain ⟨ad,cap,hxv,hnc,hcm,hdj⟩:=hx;simp only[] at hact
   cases hb:st.h.at b' with
   |none=>rw[hb] at hact;cases hact
   |some cells=>
    rw[hb] at hact;simp only[Option.bind_some] at hact;split at hact
    . rename_i hA
      simp only[Option.map_some,Option.some.injEq,Prod.mk.injEq] at hact;obtain ⟨rfl,rfl⟩:=hact;rcases hdj with ⟨rfl,rfl⟩ | ⟨blk,hμ,rfl,hσ⟩
      . have hm:m=0:=by omega
        have hrun:=nothing ad 0 hxv rfl hm;subst hm;have hy0:ys= []:=List.eq_nil_of_length_eq_zero (by rw[h2,Nat.zero_mul]);subst hy0;have hsp:splice cells (0*de.size) ([].map C.noR) =cells:=by simp[splice]
        rw[hsp,nq hb];refine ⟨_,_,G,hrun,⟨?_,by simp,H.ok,H.env,Frm.refl G w⟩⟩;simp only[Rep];exact ⟨ad,0,hxv,Nat.le_refl _,by omega,.inl ⟨trivial,rfl⟩⟩
      . obtain ⟨blk',cs0,e0,fr0,r1,r2,r3,r3e⟩:=H.ok.siz b' _ hσ
        rw[hμ] at r1;cases r1
        obtain ⟨old,e',q1,q2,W,rfl,w1,w2,w3⟩:=np H hμ hb (off:=n*de.size) (nor ys) hry' hsrc.one (by rw[List.length_map,h2,←Nat.add_mul];exact hA.1);obtain ⟨cs1,e1,⟨fr1,r4,_⟩,r5,_⟩:=H.ok.bx hb hμ;rw[r2] at r4;cases r4
        have hco:old=cs0:=by obtain ⟨fr',q,_⟩:=q1;rw[r2] at q;cases q;rfl
        have hcap:n+m≤cap:=Nat.le_of_mul_le_mul_right (by omega: (n+m)*de.size≤cap*de.size) h3;subst hxv;have hrun:=Kz (P:=cx.P) (w:=w) (ty:=ty) t t2 e dt d2 de hd hde he hd2 blk n cap old e' q1 yv m news hsrc (by rw[hnl,h2]) hcap (by rw[hco,r3];exact Nat.mul_le_mul_right _ hcap);refine ⟨_,_,G,hrun,⟨?_,by simp,w1,w2,w3⟩⟩;simp only[Rep];exact ⟨_,cap,rfl,hcap,hcm,.inr ⟨blk,hμ,rfl,hσ⟩⟩
    . rename_i hA
      have moved:∀cells0:List C,cells0=cells.take (n*de.size)→n*de.size=cells0.length→n*de.size≤cells.length→m≠0→
       ∃v w' G',(Builtin.append_ #[t,t2] ty #[xv,yv]).run cx.P w= .ok v w'∧Out G w ⟨st.env,st.h.set b' (some cM)++[some ((cells0++ys).map C.noR)]⟩ (av a) d (.gv st.h.length (n+m) (de.size,e)) v G' w':=by
       intro cells0 hc0 hB hle hmp;by_cases hgr:cap< n+m
       . obtain ⟨olds,o1,o2,o3⟩:=te (P:=cx.P) H.ok hb (by omega:0+n*de.size≤cells.length) hsv
         have hxs: (cells.drop 0).take (n*de.size) =cells0:=by rw[hc0];simp
         rw[hxs] at o2;have:=fresh ⟨st.env,st.h.set b' (some cM)⟩ (H.ok.die hb) H.env ad cap hxv hgr olds cells0 o1 o2 (hxv▸o3);simpa[br] using this
       . rcases hdj with ⟨rfl,rfl⟩ | ⟨blk,hμ,rfl,hσ⟩
         . omega
         . have hlive:=GN (fv hb)
           have W1:=H.ok.noRs hb;have hb1:Hp.at (st.h.set b' (some (cells.map C.noR))) b'=some (cells.map C.noR):=by rw[cd (dI hb),if_pos rfl,hlive]
           have W2:=W1.rename hb1 hμ hσ (nor _);rw[List.set_set,List.length_set] at W2;have hat:Hp.at (st.h.set b' (some cM)++[some (cells.map C.noR)]) st.h.length=some (cells.map C.noR):=by
            rw[cL,List.length_set,if_pos rfl,hlive]
           obtain ⟨cs1,e1,⟨fr1,r4,hfr⟩,r5,r6,r7⟩:=H.ok.bx hb hμ;obtain ⟨blk',cs0,e0,fr0,r1,r2,r3,r3e⟩:=H.ok.siz b' _ hσ;rw[hμ] at r1;cases r1
           rw[r4] at r2;cases r2
           have r6take:RepL G ((cells.map C.noR).take (n*de.size)) (cs1.toList.take (n*de.size)):=by
            have h0:=RepL.take r6.map_noR (n*de.size)
            rwa [List.take_take,Nat.min_eq_left hle] at h0
           have hcap:n+m≤cap:=by omega
           have hcm2: (n+m)*de.size≤cs1.size:=by rw[r3];exact Nat.mul_le_mul_right _ hcap
           subst hxv;have hrun:=Kz (P:=cx.P) (w:=w) (ty:=ty) t t2 e dt d2 de hd hde he hd2 blk n cap cs1 e1 ⟨fr1,r4,hfr⟩ yv m news hsrc (by rw[hnl,h2]) hcap hcm2;have le:=zk (blk:=blk) (z:=(cap*de.size,e)) H.ok (Nat.le_refl st.h.length);have hnd:n*de.size+news.length= (n+m)*de.size:=by rw[hnl,h2,Nat.add_mul]
           have hlen: ((cells0++ys).map C.noR).length= (n+m)*de.size:=by rw[List.length_map,List.length_append,←hB,h2,Nat.add_mul]
           have hsz: (cs1.toList.take (n*de.size)++news++cs1.toList.drop (n*de.size+news.length)).toArray.size=cs1.size:=by simp;omega
           have W3:=W2.setBox (G':=cr G st.h.length blk (cap*de.size,e)) st.h.length blk (by simp[cr]) hat ((cells0++ys).map C.noR)
            (cs1.toList.take (n*de.size)++news++cs1.toList.drop (n*de.size+news.length)).toArray rfl rfl (fun cs e fr x=>by rw[r4] at x;cases x;exact hsz) (by rw[hsz,hlen];exact hcm2)
            (by
              rw[hlen,←hnd,List.toList_toArray,List.take_append_of_le_length (by simp;omega),List.take_of_length_le (by simp;omega),List.map_append];exact (RepL.append (by rw[hc0,List.map_take];exact r6take) hry').mono le) (by
              intro u hu;simp only[List.mem_append] at hu;rcases hu with (hu|hu) |hu
              . exact r7 u (List.mem_of_mem_take hu)
              . exact hsrc.one u hu
              . exact r7 u (List.mem_of_mem_drop hu)) (fun _=>Iff.rfl) (fun _ _ _ _ x=>x) (fun off s n xs v hx _=>(nor _ _ (List.mem_of_getElem? hx)).elim)
           have hlist: (st.h.set b' (some cM)++[some (cells.map C.noR)]).set st.h.length (some ((cells0++ys).map C.noR)) =st.h.set b' (some cM)++[some ((cells0++ys).map C.noR)]:=by
            rw[List.set_append_right _ _ (by simp)];simp
           rw[hlist] at W3;refine ⟨_,_,_,hrun,⟨?_,by simp,W3,?_,?_⟩⟩
           . simp only[Rep]
             exact ⟨_,cap,rfl,hcap,hcm,.inr ⟨blk,by simp[cr],rfl,by simp[cr]⟩⟩
           . exact oL (b:=st.h.length) (by simp[cr]) _ ⟨fun t=>(H.env.1 t).mono le,fun t s n xs he=>wP H.ok (.inl ⟨b',hμ⟩) (H.env.2 t s n xs he)⟩
           . refine ⟨rfl,rfl,rfl,by simp,le,fun g _ ht hmu=>⟨setRow_other w blk g _ (fun q=>hmu b' (q▸hμ)),ht,fun k=>?_,fun _=>rfl⟩⟩
             simp only[cr];split
             . intro x;cases x;exact hmu b' hμ
             . exact hmu k
      split at hact
      . rename_i hB
        simp only[Option.map_some,Option.some.injEq,Prod.mk.injEq] at hact;obtain ⟨rfl,rfl⟩:=hact;have hmp:m≠0:=fun hm=>hA ⟨by rw[hm,Nat.add_zero,hB];exact Nat.le_refl _,.inr hm⟩;exact moved cells (by rw[hB];simp) hB (Nat.le_of_eq hB) hmp
      . split at hact
        . rename_i hB
          simp only[Option.map_some,Option.some.injEq,Prod.mk.injEq] at hact;obtain ⟨rfl,rfl⟩:=hact;subst hB;have hmp:m≠0:=fun hm=>hA ⟨by rw[hm];simp,.inr hm⟩;exact moved [] (by simp) (by simp) (by simp) hmp
        . cases hact
theorem nt (z:List Value):∀n,(bG z n).length=n*z.length
 |0=>by simp[bG]
 |n+1=>by simp[bG,nt z n,Nat.add_mul,Nat.add_comm]
theorem vV (z:Array Value)(n:Nat):RepL G (bG z.toList n) (Builtin.zeroCells z n).toList:=jk z _ rfl n
theorem A1 (H:Pre cx G w st a){t t2:TypeId}{x y:Operand}{p:Plan}(ho:o.op= .call { callee:= .builtin .append,args:= #[x,y],argTypes:= #[t,t2] })
 {yc:C} (hy:Rep G yc (a.eval y)) {dt d2:TD} (hd:td cx.P t=some dt) (hd2:td cx.P t2=some d2) (hp:gP cx.P dt d2 (cx.evn st.env x) yc=some p) {id:Nat} {c:C} {st':St} (hact:b8 cx id p st=some (c,st')) (d:bB):OpOK cx.P o a G w st' d c:=by
 have hx:=H.evn x;have hex:=eS (P:=cx.P) (w:=w) (a:=a) .append #[x,y] #[t,t2] (Builtin.append_ #[t,t2] o.type #[a.eval x,a.eval y]) ho (fun cs=>by simp[builtin]);unfold gP at hp;split at hp
 . rename_i e m hu2 hu
   split at hp
   . rename_i de he
     split at hp
     . rename_i b n s hc
       split at hp
       . rename_i hf
         cases hp;obtain ⟨hs,f0,f1,f2,f3,f4,f5,f6⟩:=hf;subst hs;obtain ⟨_,i,z,hi,hsz,hby,hz,hzz⟩:=aQ he;have hzs:z.cells.size=de.size:=by rw[←f5,←hzz];simp
         have hyv:=aj.1 hy;obtain ⟨k,rfl⟩:∃k:Nat,m= (k:Int):=⟨m.toNat,by omega⟩;simp only[Int.toNat_natCast] at hact f2 f3;have hr:RepL G (bG de.zero k) (Builtin.zeroCells z.cells k).toList:=by
          have:=vV (G:=G) z.cells k
          rwa [hzz] at this
         obtain ⟨v,w',G',r1,r2⟩:=pT H d (ty:=o.type) hd hu he hd2 (xc:= .gv b n (de.size,e)) (by rw[←hc];exact hx) (.inr ⟨b,rfl,rfl⟩) (by rw[nt,f5,Array.length_toList,jY,hzs]) hr
          (.inr ⟨hu2,hyv,by omega,by rw[Nat.add_mul] at f2;omega,f4,⟨i,z,hi,hz,hzs,rfl⟩,py z.cells (fun v hv=>by rw[hzz] at hv;exact (List.all_eq_true.1 f6) v hv) k⟩)
          (by rw[nt,f5]) f4 f5 f2 f3 f6 rfl hact
         exact bO (by rw[hex,r1];rfl) ⟨G',r2⟩
       . cases hp
     . cases hp
   . cases hp
 . cases hp
theorem Mc (H:Pre cx G w st a){t t2:TypeId}{x y:Operand}{p:Plan}(ho:o.op= .call { callee:= .builtin .append,args:= #[x,y],argTypes:= #[t,t2] })
 {yc:C} (hy:Rep G yc (a.eval y)) (hp:ig cx.P t t2 (cx.evn st.env x) yc=some p) {id:Nat} {c:C} {st':St} (hact:b8 cx id p st=some (c,st')) (d:bB):OpOK cx.P o a G w st' d c:=by
 have hx:=H.evn x;have hex:=eS (P:=cx.P) (w:=w) (a:=a) .append #[x,y] #[t,t2] (Builtin.append_ #[t,t2] o.type #[a.eval x,a.eval y]) ho (fun cs=>by simp[builtin]);unfold ig at hp;split at hp
 . rename_i dt d2 hd hd2
   split at hp
   . exact A1 H ho hy hd hd2 hp hact d
   rename_i hn2;split at hp
   . rename_i e hu
     split at hp
     . cases hp
     rename_i de he;simp only[] at hp;have start:∀n b,(match cx.evn st.env x with
      | .val (.slice none 0 0) =>some (0,(none:Option (Nat×Nat)))
      | .sl .full 0 _=>some (0,none)
      | .gv b n s=>if s= (de.size,e) then some (n,some (b,n)) else none
      |_=>none) =some (n,b)→(n=0∧b=none∧∃ad,a.eval x= .slice ad 0 0)∨(∃b',b=some (b',n)∧cx.evn st.env x= .gv b' n (de.size,e)):=by
      intro n b hs;split at hs
      . rename_i hc
        cases hs;rw[hc,aj] at hx;exact .inl ⟨rfl,rfl,none,hx⟩
      . rename_i xs hc
        cases hs;rw[hc] at hx;simp only[Rep] at hx;obtain ⟨ad,cap,h1,_,_,h4,_⟩:=hx;exact .inl ⟨rfl,rfl,ad,by rw[h1,h4 trivial]⟩
      . rename_i b' n' s hc
        split at hs
        . rename_i hsz
          cases hs;exact .inr ⟨b',rfl,by rw[hc,hsz]⟩
        . cases hs
      . cases hs
     split at hp
     . cases hp
     rename_i n b hs;have hst:=start n b hs;split at hp
     . rename_i b' off m
       cases hp;have hact':=hact;simp only[b8,aA] at hact'
       cases hb:st.h.at b' with
       |none=>rw[hb] at hact';cases hact'
       |some cells=>
        rw[hb] at hact';simp only[Option.bind_some] at hact';split at hact'
        . rename_i hf
          obtain ⟨hoff,hfin⟩:=hf;simp only[decide_eq_true_eq] at hfin;obtain ⟨f1,f2,f3,f4,f5,f6⟩:=hfin;obtain ⟨news,n1,n2,n3⟩:=te (P:=cx.P) H.ok hb hoff hy;obtain ⟨v,w',G',r1,r2⟩:=pT H d (ty:=o.type) hd hu he hd2 hx hst (by rw[n1,f1]) n2 (.inl ⟨by simpa using hn2,n3⟩) f1 f2 f3 f4 f5 f6 (by
           rw[hb];simp only[Option.bind_some];rw[if_pos ⟨hoff,by simp only[decide_eq_true_eq];exact ⟨f1,f2,f3,f4,f5,f6⟩⟩]) hact
          exact bO (by rw[hex,r1];rfl) ⟨G',r2⟩
        . cases hact'
     . rename_i hnsv
       split at hp
       . rename_i m ys hsrc
         split at hp
         . rename_i hfin
           cases hp;simp only[decide_eq_true_eq] at hfin;obtain ⟨f1,f2,f3,f4,f5,f6⟩:=hfin;obtain ⟨news,n1,n2,n3⟩:=xP (P:=cx.P) H.ok hsrc f1 hy;obtain ⟨v,w',G',r1,r2⟩:=pT H d (ty:=o.type) hd hu he hd2 hx hst n1 n2 (.inl ⟨by simpa using hn2,n3⟩) f1 f2 f3 f4 f5 f6 rfl hact;exact bO (by rw[hex,r1];rfl) ⟨G',r2⟩
         . cases hp
       . cases hp
   . cases hp
 . cases hp
theorem GO (H:Pre cx G w st a){s d:TypeId}{x:Operand}{p:Plan}(ho:o.op= .convert s d x)(hp:lB cx.P s d (cx.evn st.env x) =some p)
 {id:Nat} {c:C} {st':St} (hact:b8 cx id p st=some (c,st')) (dp:bB):OpOK cx.P o a G w st' dp c:=by
 have hx:=H.evn x;have hex: (execOp a.eval o).run cx.P w= ((convert s d (a.eval x)).run cx.P w).andThen fun v w'=> .ok (.value v) w':=by
  simp only[execOp,ho,Sem.run_bind,Sem.run_pure]
 unfold lB at hp;split at hp
 . rename_i ds dd hs hd
   split at hp
   . rename_i e str hsu hdu hc
     split at hp
     . rename_i de he
       split at hp
       . rename_i heu
         split at hp
         . rename_i hle
           cases hp;simp only[b8,aA,Option.bind_some,Option.map_some,Option.some.injEq,Prod.mk.injEq] at hact;obtain ⟨rfl,rfl⟩:=hact;rw[hc,aj] at hx;have hrun:=run_bytes_of_string (P:=cx.P) w s d e str (hsu▸(aQ hs).1) (hdu▸(aQ hd).1) (heu▸(aQ he).1);have hml:maxLen=9223372036854775807:=by decide
           have hge:=grownCap_ge w str.size 0 e;have hbr: (bytesRow str (grownCap w str.size 0 e)).toList= (str.data.toList.map fun b=>Value.int .u8 b.toNat)++List.replicate (grownCap w str.size 0 e - str.size) (.int .u8 0):=by
            simp[bytesRow]
           have hsz: (bytesRow str (grownCap w str.size 0 e)).size=grownCap w str.size 0 e:=by
            have:=congrArg List.length hbr;simp only[Array.length_toList,List.length_append,List.length_map,List.length_replicate] at this;have h2:str.data.size=str.size:=rfl;omega
           have hlen: ((str.data.toList.map iO).map C.noR).length=str.size:=by simp
           obtain ⟨W,E⟩:=jK (w':=w.drew.alloc (.cells (bytesRow str (grownCap w str.size 0 e)) e ((bytesRow str (grownCap w str.size 0 e)).size,(bytesRow str (grownCap w str.size 0 e)).size+1)))
            H.ok ((str.data.toList.map iO).map C.noR) _ e _ (.inr (Nat.le_refl _)) rfl rfl rfl rfl (by rw[hlen,hsz];exact hge) (by
             rw[hlen,hbr,List.take_append_of_le_length (by simp),List.take_of_length_le (by simp)];refine RepL.of_get (by simp) fun i z v hz hv=>?_;simp only[List.getElem?_map] at hz hv
             cases hb:str.data.toList[i]? with
             |none=>rw[hb] at hz;cases hz
             |some b=>rw[hb] at hz hv;cases hz;cases hv;exact aj.2 rfl) (by
             intro u hu;rw[hbr] at hu;rcases List.mem_append.1 hu with hu|hu
             . obtain ⟨b,_,rfl⟩:=List.mem_map.1 hu;rfl
             . obtain ⟨_,rfl⟩:=List.mem_replicate.1 hu;rfl) (fun x hx=>by obtain ⟨y,_,rfl⟩:=List.mem_map.1 hx;exact cQ y)
           refine bO (by rw[hex,hx,hrun];rfl) ⟨_,?_,by simp,W,E.env H.ok H.env,E.frm H.ok⟩;simp only[Rep];refine ⟨_,_,rfl,hge,grownCap_le_maxLen w str.size 0 e (by omega),.inr ⟨w.heap.size,by simp[cr],rfl,?_⟩⟩;simp only[cr,if_true,hsz,Nat.mul_one]
         . cases hp
       . cases hp
     . cases hp
   . cases hp
 . cases hp
theorem sF {pl:Nat→Option (Nat×Nat)}:∀ {l:List (Nat×C)}{cells cs:List C},f8 pl cells l=some cs→cs.length=cells.length
 | [],cells,cs,h=>by simp only[f8,Option.some.injEq] at h;rw[h]
 | (i,c)::rest,cells,cs,h=>by
   simp only[f8] at h;split at h
   . rename_i off size cs' h1 h2
     split at h
     . rename_i hc
       have:=sF h;rw[this];unfold splice;simp only[List.length_append,List.length_take,List.length_drop];omega
     . cases h
   . cases h
theorem CP (H:Pre cx G w st a)(dp:bB){t e:TypeId}{d de:TD}{n:Nat}{parts:Array (Nat×Operand)}{cs:List C}(hd:td cx.P t=some d)(hu:d.u= .slice e)(he:td cx.P e=some de)
 (hz1:de.zero.all (·.oneCell') =true) (hn:n*de.size≤65536∧n≤65536∧de.zero.length=de.size)
 (h:f8 (fun i=>some (i*de.size,de.size)) (bG de.zero n) (parts.toList.map fun x=>(x.1,cx.evn st.env x.2)) =some cs):
 ∃v w' G',(Instr.buildSlice t n (parts.map fun (i,x) =>(i,a.eval x))).run cx.P w= .ok v w'∧Out G w ⟨st.env,st.h++[some (cs.map C.noR)]⟩ (av a) dp (.gv st.h.length n (de.size,e)) v G' w':=by
 obtain ⟨cs',f2,f3,hrun⟩:=oa H hd hu he hz1 hn h;have hml:maxLen=9223372036854775807:=by decide
 have hl:cs'.size=n*de.size:=by
  have h1:=f2.length;have h2:=sF h;have h3:∀q,(bG de.zero q).length=q*de.size:=by
   intro q
   induction q with
   |zero=>simp[bG]
   |succ q ih=>simp[bG,ih,hn.2.2,Nat.add_mul];omega
  rw[h3] at h2;simp at h1;omega
 have hcl: (cs.map C.noR).length=cs'.toList.length:=by rw[List.length_map];exact f2.length
 obtain ⟨W,E⟩:=jK (w':=w.alloc (.cells cs' e)) H.ok (cs.map C.noR) cs' e (0,0) (.inl rfl) rfl rfl rfl rfl (by rw[hcl];simp) (by rw[hcl,List.take_length];exact f2.map_noR) f3
  (fun x hx=>by obtain ⟨y,_,rfl⟩:=List.mem_map.1 hx;exact cQ y)
 refine ⟨_,_,_,hrun,⟨?_,by simp,W,E.env H.ok H.env,E.frm H.ok⟩⟩;simp only[Rep];exact ⟨_,_,rfl,Nat.le_refl _,by omega,.inr ⟨w.heap.size,by simp[cr],rfl,by simp[cr,hl]⟩⟩
theorem CQ (H:Pre cx G w st a){t:TypeId}{x:Operand}{hi:Option Operand}{p:Plan}{b n:Nat}{s:Nat×Nat}(hx:Rep G (.gv b n s) (a.eval x))
 (h:mc cx.P t b n s (hi.map (cx.evn st.env)) =some p):
 ∃c v,p= .val c none∧c.noOwn∧(Instr.sliceAt t (a.eval x) none (hi.map a.eval) none).run cx.P w= .ok v w∧Rep G c v:=by
 unfold mc at h;split at h
 . rename_i d hd
   have hud:=(aQ hd).1;split at h
   . rename_i e hs
     split at h
     . rename_i de hh hde hhe
       split at h
       . rename_i hsz
         cases h;simp only[Rep] at hx;obtain ⟨ad,cap,hxv,hnc,hcm,hdj⟩:=hx;unfold Instr.sliceAt;simp only[Sem.run_bind,aZ hd,Result.andThen_ok];rw[hs,hxv];simp only[Instr.slice,Sem.run_bind,aZ hd,Result.andThen_ok,hs];have b1:=dm H hhe;have hhn:hh≤n:=by rcases b1 with ⟨_,rfl⟩ | ⟨y,kd,_,_,hl⟩ <;>omega
         have hrun:=iW (P:=cx.P) (w:=w) true n cap none (hi.map a.eval) 0 hh
          (by rcases b1 with ⟨rfl,rfl⟩ | ⟨y,kd,rfl,e,hl⟩ <;>simp[*];omega)
          (by simp)
         simp only[Option.map_none,hrun,Result.andThen_ok,Sem.run_pure,bS hde];refine ⟨_,_,rfl,trivial,rfl,?_⟩;simp only[Rep];refine ⟨_,_,rfl,by omega,by omega,?_⟩;rcases hdj with ⟨rfl,rfl⟩ | ⟨blk,q1,rfl,q2⟩
         . left;omega
         . by_cases h0:cap=0
           . left;omega
           . right
             refine ⟨blk,q1,?_,by simpa using q2⟩;rw[if_neg h0];simp[dc]
       . cases h
     . cases h
   . cases h
 . cases h
end
end Go.Sx
namespace Go.Sx
open Go.RowKit Go.ChangeMaps Go.Maps
section
variable {cx:Cx} {G:Gh} {h:Hp} {w:World} {st:St} {a:Act} {o:Oper} {P:Program}
theorem wQ {a b:Value}{r:Bool}(h:zq a b=some r): (r=true→a=b)∧(r=false→a≠b):=by
 unfold zq at h;split at h
 . rename_i k x k' y
   split at h
   . rename_i hk
     subst hk;cases h;constructor
     . intro e;rw[beq_iff_eq.1 e]
     . intro e e2;cases e2;simp at e
   . cases h
 . rename_i x y
   cases h;constructor
   . intro e
     have e':=beq_iff_eq.1 e;obtain ⟨⟨x⟩⟩:=x;obtain ⟨⟨y⟩⟩:=y;simp only at e';rw[e']
   . intro e e2;cases e2;simp at e
 . cases h
   constructor
   . intro e;rw[beq_iff_eq.1 e]
   . intro e e2;cases e2;simp at e
 . cases h
theorem wR:∀ {a b:List Value}{r:Bool},zr a b=some r→(r=true→a=b)∧(r=false→a≠b)
 | [],[],r,h=>by cases h;exact ⟨fun _=>rfl,fun e=>by cases e⟩
 |x::a,y::b,r,h=>by
  unfold zr at h
  cases hq:zq x y with
  |none=>rw[hq] at h;cases h
  |some q=>
   have h1:=wQ hq;rw[hq] at h
   cases q with
   |true=>
    have h2:=wR (a:=a) (b:=b) h;rw[h1.1 rfl];exact ⟨fun e=>by rw[h2.1 e],fun e e2=>h2.2 e (List.cons.inj e2).2⟩
   |false=>
    cases h;exact ⟨fun e=>absurd e (by simp),fun _ e2=>h1.2 rfl (List.cons.inj e2).1⟩
 | [],_::_,r,h=>by cases h
 |_::_,[],r,h=>by cases h
theorem Md {a b:Value}{r:Bool}(h:vq a b=some r): (r=true→a=b)∧(r=false→a≠b):=by
 unfold vq at h;split at h
 . rename_i x y
   have:=wR h;obtain ⟨x⟩:=x;obtain ⟨y⟩:=y;exact ⟨fun e=>by have:=this.1 e;simp only at this;rw[this],fun e e2=>by cases e2;exact this.2 e rfl⟩
 . exact wQ h
mutual
theorem oN:∀ {c:C}{u v:Value},fJ c=some u→Rep G c v→v=u
 | .val x,u,v,h,r=>by
   simp only[fJ,Option.some.injEq] at h;rw[aj] at r;rw[r,h]
 | .agg xs,u,v,h,r=>by
   simp only[fJ] at h
   cases hq:valQs xs with
   |none=>rw[hq] at h;cases h
   |some l=>
    rw[hq] at h;cases h;simp only[Rep] at r;obtain ⟨vs,rfl,hr,_⟩:=r;rw[←valQs_rep hq hr]
 | .top,u,v,h,r=>by simp[fJ] at h
 | .sl _ _ _,u,v,h,r=>by simp[fJ] at h
 | .sv _ _ _,u,v,h,r=>by simp[fJ] at h
 | .bp _ _,u,v,h,r=>by simp[fJ] at h
 | .kp _,u,v,h,r=>by simp[fJ] at h
 | .tup _,u,v,h,r=>by simp[fJ] at h
 | .fn _ _,u,v,h,r=>by simp[fJ] at h
 | .gv _ _ _,u,v,h,r=>by simp[fJ] at h
 | .mp _,u,v,h,r=>by simp[fJ] at h
 | .bt _ _ _,u,v,h,r=>by simp[fJ] at h
theorem valQs_rep:∀ {xs:List C}{us vs:List Value},valQs xs=some us→RepL G xs vs→vs=us
 | [],us,vs,h,r=>by
   simp only[valQs,Option.some.injEq] at h;simp only[RepL] at r;rw[r,←h]
 |x::xs,us,vs,h,r=>by
  simp only[valQs] at h
  cases hq:fJ x with
  |none=>rw[hq] at h;cases h
  |some v0=>
   cases hq2:valQs xs with
   |none=>rw[hq,hq2] at h;cases h
   |some l=>
    rw[hq,hq2] at h;cases h;simp only[RepL] at r;obtain ⟨v,vs',rfl,h1,h2⟩:=r;rw[oN hq h1,valQs_rep hq2 h2]
end
theorem l6 {kt:TypeId}{k:Value}:∀ (ents:List C)(es:List MapEntry)(i:Nat)(r:Option (Nat×C)),MRep G ents es→fx cx kt k ents i=some r→
 (∀e∈es,cx.km kt e.key=true)∧(match r with
   |none=> ∀e∈es,e.key≠k
   |some (n,v) => ∃j e,n=i+j∧es[j]? =some e∧e.key=k∧Rep G v e.val∧∀j' e',es[j']? =some e'→e'.key=k→j'=j)
 | [],es,i,r,hm,h=>by
   simp only[fx,Option.some.injEq] at h;simp only[MRep] at hm;subst h hm;exact ⟨fun e he=>by simp at he,fun e he=>by simp at he⟩
 | [_],es,i,r,hm,h=>by simp[MRep] at hm
 |c::v::l,es,i,r,hm,h=>by
  simp only[MRep] at hm;obtain ⟨e,es',rfl,h1,h2,h3⟩:=hm;unfold fx at h;split at h
  . rename_i he;cases he
  . rename_i i l9 i9 u v' l' he
    simp only[List.cons.injEq] at he;obtain ⟨rfl,rfl,rfl⟩:=he;rw[aj] at h1;split at h
    . rename_i hmk
      cases hq:vq k u with
      |none=>rw[hq] at h;cases h
      |some q=>
       have hs:=Md hq;rw[hq] at h
       cases q with
       |true=>
        simp only at h
        cases hr:fx cx kt k l (i+1) with
        |none=>rw[hr] at h;cases h
        |some r2=>
         rw[hr] at h
         cases r2 with
         |some _=>cases h
         |none=>
          cases h;obtain ⟨g1,g2⟩:=l6 l es' (i+1) none h3 hr;refine ⟨fun x hx=>?_,0,e,by omega,rfl,by rw[h1,hs.1 rfl],h2,fun j' e' hj hk=>?_⟩
          . rcases List.mem_cons.1 hx with rfl|hx
            . rw[h1];exact hmk
            . exact g1 x hx
          . cases j' with
            |zero=>rfl
            |succ j'=>exact absurd hk (g2 e' (List.mem_of_getElem? (by simpa using hj)))
       |false=>
        simp only at h;obtain ⟨g1,g2⟩:=l6 l es' (i+1) r h3 h;have hne:e.key≠k:=by rw[h1];exact fun x=>hs.2 rfl x.symm
        refine ⟨fun x hx=>?_,?_⟩
        . rcases List.mem_cons.1 hx with rfl|hx
          . rw[h1];exact hmk
          . exact g1 x hx
        . cases r with
          |none=>
           intro x hx;rcases List.mem_cons.1 hx with rfl|hx
           . exact hne
           . exact g2 x hx
          |some p=>
           obtain ⟨n,v2⟩:=p;obtain ⟨j,e',a1,a2,a3,a4,a5⟩:=g2;refine ⟨j+1,e',by omega,by simpa using a2,a3,a4,fun j' e2 hj hk=>?_⟩
           cases j' with
           |zero=>simp at hj;subst hj;exact absurd hk hne
           |succ j'=>rw[a5 j' e2 (by simpa using hj) hk]
    . cases h
  . cases h
theorem oO {t kt et:TypeId}(h:lz P t=some (kt,et)):P.underlying t=some (.map kt et):=by
 unfold lz at h;split at h
 . rename_i d hd
   split at h
   . rename_i k e hu
     cases h;rw[←hu];exact (aQ hd).1
   . cases h
 . cases h
theorem GP {e:TypeId}{c:C}(h:C7 P e=some c):∃z,(zeroValue e).run P w= .ok z w∧Rep G c z∧c.noOwn:=by
 unfold C7 at h;split at h
 . rename_i i hi
   split at h
   . rename_i vs hz
     split at h
     . rename_i h1
       cases h;refine ⟨.agg vs,by simp[zeroValue,typeInfo,hi,hz],?_,trivial⟩;simp only[Rep];refine ⟨vs,rfl,?_,fun u hu=>List.all_eq_true.1 h1 u hu⟩;have:∀l:List Value,RepL G (l.map .val) l:=fun l=>by
        induction l with
        |nil=>rfl
        |cons x l ih=>simp only[List.map_cons,RepL];exact ⟨x,l,rfl,aj.2 rfl,ih⟩
       exact this _
     . cases h
   . rename_i z hza hz
     split at h
     . cases h
       exact ⟨z,by simp[zeroValue,typeInfo,hi,hz],aj.2 rfl,trivial⟩
     . cases h
   . cases h
 . cases h
theorem vW {blk:Nat}{o o0:Obj}(h:w.heap[blk]? =some o0): (setBlock w blk o).heap[blk]? =some o:=by
 have hl:=(Array.getElem?_eq_some_iff.1 h).1;show (w.heap.setIfInBounds blk o)[blk]? =_;simp[hl]
theorem nM {blk g:Nat}{o:Obj}(h:g≠blk): (setBlock w blk o).heap[g]? =w.heap[g]? :=by
 show (w.heap.setIfInBounds blk o)[g]? =_;rw[Array.getElem?_setIfInBounds_ne (Ne.symm h)]
theorem lf {blk:Nat}{o:Obj}: (setBlock w blk o).heap.size=w.heap.size:=by
 show (w.heap.setIfInBounds blk o).size=_;simp
theorem GQ (l:List C):eK (some (dq l)) =some l:=rfl
theorem sG (l:List C):aR (some (dq l)) =none:=rfl
theorem pz {blk:Nat}{es:Array MapEntry}{clk:Nat}{ob:Obj}(hb:w.heap[blk]? =some (.map es clk)){p:bB}{v:Value}{s n:Nat}(O:OwnRow G w p v s n):OwnRow G (setBlock w blk ob) p v s n:=by
 rcases O with O| ⟨g,cap,cur,e,a1,a2,a3,a4⟩
 . exact .inl O
 . have hne:g≠blk:=fun e2=>by rw[e2,hb] at a3;cases a3
   exact .inr ⟨g,cap,cur,e,a1,a2,by rw[nM hne];exact a3,a4⟩
theorem WorldOK.setMap (H:WorldOK G h w){b blk:Nat}{l0:List C}{es:Array MapEntry}{clk:Nat}(hb:h.mp b=some l0)(hμ:G.μ b=some blk)(hw:w.heap[blk]? =some (.map es clk))(l:List C)(es':Array MapEntry)(clk':Nat)(hr:MRep G l es'.toList):
 WorldOK G (h.set b (some (dq l))) (setBlock w blk (.map es' clk'))∧Frm G w G (setBlock w blk (.map es' clk')):=by
 have hlen:=wN hb;have hat:∀k cells,Hp.at (h.set b (some (dq l))) k=some cells→k≠b∧h.at k=some cells:=fun k cells x=>by
  rw[cd hlen,sG] at x;split at x
  . cases x
  . rename_i e;exact ⟨e,x⟩
 have oth:∀ {g:Nat},g≠blk→(setBlock w blk (.map es' clk')).heap[g]? =w.heap[g]? :=fun hne=>nM hne;refine ⟨⟨fun k off u hk=>?_,fun k cells hk=>?_,fun k q hq=>?_,fun k k' c c' q x x' y y'=>H.inj k k' c c' q (hat k c x).2 (hat k' c' x').2 y y',H.sep,fun g p hg=>by rw[lf];exact H.tlt g p hg,fun k cells off s n xs q v hk hc hm hv=>?_,fun k z hz=>?_,fun k lk hk=>?_,fun k k' lk lk' q x x' y y'=>?_⟩,⟨rfl,rfl,rfl,by rw[lf];exact Nat.le_refl _,.refl G,fun g _ ht hm=>⟨oth (fun e=>hm b (e▸hμ)),ht,hm,fun _=>rfl⟩⟩⟩
 . have hne:k≠blk:=fun e=>by rw[e,(H.sep b blk hμ).1 off] at hk;cases hk
   rw[World.cell?_of_block (oth hne)];exact H.known k off u hk
 . obtain ⟨_,hk'⟩:=hat k cells hk
   rcases H.box k cells hk' with hE| ⟨q,cs,e,q1,⟨fr,q2,q2'⟩,q3,q4,q5⟩
   . exact .inl hE
   . have hne:q≠blk:=fun e=>by rw[e,hw] at q2;cases q2
     exact .inr ⟨q,cs,e,q1,⟨fr,by rw[oth hne];exact q2,q2'⟩,q3,q4,q5⟩
 . obtain ⟨⟨c,hc⟩,hl⟩:=H.dom k q hq
   refine ⟨?_,by rw[lf];exact hl⟩;rw[List.getElem?_set];by_cases e:b=k
   . rw[if_pos e,if_pos hlen];exact ⟨_,rfl⟩
   . rw[if_neg e];exact ⟨c,hc⟩
 . obtain ⟨_,hk'⟩:=hat k cells hk
   have hne:q≠blk:=fun e=>by
    rcases H.box k cells hk' with ⟨_,hE⟩ | ⟨q',cs,e',q1,⟨fr,q2,_⟩,_⟩
    . rw[hm] at hE;cases hE
    . rw[hm] at q1;cases q1;rw[e,hw] at q2;cases q2
   rw[World.cell?_of_block (oth hne)] at hv;exact pz hw (H.own k cells off s n xs q v hk' hc hm hv)
 . obtain ⟨q,cs,e,fr,q1,q2,q3⟩:=H.siz k z hz
   have hne:q≠blk:=fun e=>by rw[e,hw] at q2;cases q2
   exact ⟨q,cs,e,fr,q1,by rw[oth hne];exact q2,q3⟩
 . rw[pP hlen] at hk
   split at hk
   . rename_i e
     subst e;cases hk;exact ⟨blk,es',clk',hμ,vW hw,hr⟩
   . rename_i e
     obtain ⟨q,es2,clk2,q1,q2,q3⟩:=H.mpo k lk hk;have hne:q≠blk:=fun e2=>e (H.mpi k b lk l0 blk hk hb (e2▸q1) hμ);exact ⟨q,es2,clk2,q1,by rw[oth hne];exact q2,q3⟩
 . rw[pP hlen] at x x'
   have f:∀ (i:Nat)(z:List C),(if i=b then eK (some (dq l)) else h.mp i) =some z→∃z',h.mp i=some z':=fun i z hz=>by
    split at hz
    . rename_i e;subst e;exact ⟨_,hb⟩
    . exact ⟨_,hz⟩
   obtain ⟨d1,e1⟩:=f k lk x;obtain ⟨d2,e2⟩:=f k' lk' x';exact H.mpi k k' d1 d2 q e1 e2 y y'
theorem ly {blk:Nat}{es:Array MapEntry}{clk:Nat}{ob:Obj}(hb:w.heap[blk]? =some (.map es clk)){env:Nat→C}{f:Nat→Value}(E:gD G w env f):gD G (setBlock w blk ob) env f:=
 ⟨E.1,fun t s n xs e=>pz hb (E.2 t s n xs e)⟩
theorem WorldOK.newMap (H:WorldOK G h w):WorldOK { G with μ:=fun b=>if b=h.length then some w.heap.size else G.μ b } (h++[some (dq [])]) (w.alloc (.map #[] 0))∧Ext G w { G with μ:=fun b=>if b=h.length then some w.heap.size else G.μ b } (w.alloc (.map #[] 0)):=by
 have hm:=H.μnone (Nat.le_refl h.length);have E:Ext G w { G with μ:=fun b=>if b=h.length then some w.heap.size else G.μ b } (w.alloc (.map #[] 0)):=by
  refine ⟨rfl,rfl,rfl,by simp,fun g hg=>iT w _ g hg,fun _ _ _=>rfl,fun _ _=>rfl,fun b=>?_,fun _ _ x=>x⟩;by_cases hb:b=h.length
  . subst hb;exact .inr ⟨hm,w.heap.size,Nat.le_refl _,by simp⟩
  . exact .inl (by simp[hb])
 have le:=E.le H;have hat:∀k cells,Hp.at (h++[some (dq [])]) k=some cells→k≠h.length∧h.at k=some cells:=fun k cells x=>by
  rw[cL,sG] at x;split at x
  . cases x
  . rename_i e;exact ⟨e,x⟩
 have hμ':∀ {k q:Nat},k≠h.length→(if k=h.length then some w.heap.size else G.μ k) =some q→G.μ k=some q:=fun hk x=>by rwa [if_neg hk] at x
 refine ⟨⟨fun blk off u hk=>?_,fun k cells hk=>?_,fun k q hq=>?_,fun k k' c c' q x x' y y'=>H.inj k k' c c' q (hat k c x).2 (hat k' c' x').2 (hμ' (hat k c x).1 y) (hμ' (hat k' c' x').1 y'),fun k q hq=>?_,fun g p hg=>?_,fun k cells off s n xs q v hk hc hm' hv=>?_,fun k z hz=>?_,fun k lk hk=>?_,fun k k' lk lk' q x x' y y'=>?_⟩,E⟩
 . have hk':G.K blk off=some u:=hk
   rw[E.cell (H.klt hk')];exact H.known blk off u hk'
 . obtain ⟨n1,hk'⟩:=hat k cells hk
   rcases H.box k cells hk' with ⟨hE,hE2⟩ | ⟨q,cs,e,q1,q2,q3,q4,q5⟩
   . exact .inl ⟨hE,by show (if k=h.length then _ else _) =_;rw[if_neg n1];exact hE2⟩
   . exact .inr ⟨q,cs,e,le.μ _ _ q1,by rw[E.heap q (H.μlt q1)];exact q2,q3,q4.mono le,q5⟩
 . have hq': (if k=h.length then some w.heap.size else G.μ k) =some q:=hq
   by_cases e:k=h.length
   . subst e
     rw[if_pos rfl] at hq';cases hq'
     exact ⟨⟨_,by simp;rfl⟩,by simp⟩
   . obtain ⟨⟨c,hc⟩,hl⟩:=H.dom k q (hμ' e hq')
     exact ⟨⟨c,by rw[List.getElem?_append_left (List.getElem?_eq_some_iff.1 hc).1];exact hc⟩,Nat.lt_of_lt_of_le hl E.size⟩
 . have hq': (if k=h.length then some w.heap.size else G.μ k) =some q:=hq
   by_cases e:k=h.length
   . subst e
     rw[if_pos rfl] at hq';cases hq'
     exact ⟨fun o=>H.knone (Nat.le_refl _) o,H.tnone (Nat.le_refl _)⟩
   . exact H.sep k q (hμ' e hq')
 . have:=H.tlt g p hg
   simp;omega
 . obtain ⟨n1,hk'⟩:=hat k cells hk
   have hm2:=hμ' n1 hm';rw[E.cell (H.μlt hm2)] at hv;exact E.own H (H.own k cells off s n xs q v hk' hc hm2 hv)
 . obtain ⟨q,cs,e,fr,q1,q2,q3⟩:=H.siz k z hz
   exact ⟨q,cs,e,fr,le.μ _ _ q1,by rw[E.heap q (H.μlt q1)];exact q2,q3⟩
 . rw[l5] at hk
   split at hk
   . rename_i e
     subst e;cases hk;exact ⟨w.heap.size,#[],0,by show (if _ then _ else _) =_;rw[if_pos rfl],iS w _,by simp[MRep]⟩
   . rename_i e
     obtain ⟨q,es2,clk2,q1,q2,q3⟩:=H.mpo k lk hk;exact ⟨q,es2,clk2,le.μ _ _ q1,by rw[E.heap q (H.μlt q1)];exact q2,q3.mono le⟩
 . have y1: (if k=h.length then some w.heap.size else G.μ k) =some q:=y
   have y2: (if k'=h.length then some w.heap.size else G.μ k') =some q:=y';rw[l5] at x x';split at y1<;>split at y2
   . omega
   . have:=H.μlt y2;cases y1;omega
   . have:=H.μlt y1;cases y2;omega
   . rename_i n1 n2
     rw[if_neg n1] at x;rw[if_neg n2] at x';exact H.mpi k k' _ _ q x x' y1 y2
theorem y5 {α:Type}{l:List α}{j:Nat}{x:α}(h:l[j]? =some x):j< l.length:=(List.getElem?_eq_some_iff.1 h).1
theorem Me (hcx:True)(H:Pre cx G w st a){t:TypeId}(ho:o.op= .makeMap t none){p:Plan}(hp:fK cx.P t=some p){id:Nat}{c:C}{st':St}(hact:b8 cx id p st=some (c,st'))(d:bB):OpOK cx.P o a G w st' d c:=by
 unfold fK at hp
 cases hq:lz cx.P t with
 |none=>rw[hq] at hp;cases hp
 |some kt=>
  rw[hq] at hp;cases hp;simp only[b8,aA,sX,Option.map_some,Option.some.injEq,Prod.mk.injEq] at hact;obtain ⟨rfl,rfl⟩:=hact;obtain ⟨W,E⟩:=H.ok.newMap;refine bO (v:= .map (some w.heap.size)) (w':=w.alloc (.map #[] 0)) (by simp[execOp,ho,Instr.makeMap]) ⟨_,⟨?_,by simp,W,E.env H.ok H.env,E.frm H.ok⟩⟩;simp only[Rep];exact ⟨w.heap.size,by simp,rfl⟩
theorem GR (hmk:∀k u,cx.km k u=true→Keyed cx.P k∧∃l,keyOf cx.P k u=some l)(H:Pre cx G w st a){t:TypeId}{x y:Operand}{ok:Bool}(ho:o.op= .lookup t x y ok){p:Plan}(hp:eR cx t (cx.evn st.env x) (cx.evn st.env y) ok=some p)
 {id:Nat} {c:C} {st':St} (hact:b8 cx id p st=some (c,st')) (d:bB):OpOK cx.P o a G w st' d c:=by
 have hx:=H.evn x;have hy:=H.evn y;unfold eR at hp;split at hp
 . rename_i b kv hm hk
   cases hp;rw[hm] at hx;simp only[Rep] at hx;obtain ⟨blk,hμ,hxv⟩:=hx;have hyv:=oN hk hy;simp only[b8,aA,nS] at hact;split at hact
   . rename_i kt et hkt
     have hu:=oO hkt;split at hact
     . rename_i hmkk
       obtain ⟨K,lk,hlk⟩:=hmk _ _ hmkk
       cases hmp:st.h.mp b with
       |none=>rw[hmp] at hact;cases hact
       |some ents=>
        rw[hmp] at hact;simp only[Option.bind_some] at hact;obtain ⟨blk',es,clk,q1,q2,q3⟩:=H.ok.mpo b ents hmp;rw[hμ] at q1;cases q1
        cases hf:fx cx kt kv ents 0 with
        |none=>rw[hf] at hact;cases hact
        |some r=>
         rw[hf] at hact;simp only[Option.bind_some,sW] at hact;obtain ⟨g1,g2⟩:=l6 ents es.toList 0 r q3 hf;have hkeys:∀e∈es.toList,∃l,keyOf cx.P kt e.key=some l:=fun e he=>(hmk _ _ (g1 e he)).2
         cases r with
         |none=>
          simp only at hact g2
          cases hz:C7 cx.P et with
          |none=>rw[hz] at hact;cases hact
          |some zc=>
           rw[hz] at hact;obtain ⟨z,z1,z2,z3⟩:=GP (w:=w) (G:=G) hz;simp only[Option.map_some,Option.some.injEq,Prod.mk.injEq] at hact;obtain ⟨rfl,rfl⟩:=hact;rcases K.find w hlk es.toList hkeys with ⟨h1,h2⟩ | ⟨j,e0,h1,h2,h3⟩
           . refine OpOK.pure H (v:=if ok then .tuple #[z,.bool false] else z) ?_ ?_ ?_
             . simp[execOp,ho,hxv,hyv,Instr.lookup,run_underlying hu,MapKept.run_getObj_map q2,K.check w _ hlk,h1,z1,Result.andThen]
             . cases ok
               . exact z2
               . simp only[if_true,Rep]
                 refine ⟨_,rfl,?_⟩;simp only[RepL];exact ⟨_,_,rfl,z2,_,_,rfl,aj.2 rfl,rfl⟩
             . cases ok
               . exact z3
               . trivial
           . exact absurd h3 (g2 e0 (List.mem_of_getElem? h2))
         |some q=>
          obtain ⟨n,v0⟩:=q;simp only at hact g2;obtain ⟨j,e,a1,a2,a3,a4,a5⟩:=g2;simp only[Option.map_some,Option.some.injEq,Prod.mk.injEq] at hact;obtain ⟨rfl,rfl⟩:=hact;rcases K.find w hlk es.toList hkeys with ⟨h1,h2⟩ | ⟨j2,e0,h1,h2,h3⟩
          . exact absurd a3 (h2 e (List.mem_of_getElem? a2))
          . have hj:=a5 j2 e0 h2 h3
            subst hj;rw[a2] at h2;cases h2
            refine OpOK.pure H (v:=if ok then .tuple #[e.val,.bool true] else e.val) ?_ ?_ ?_
            . simp[execOp,ho,hxv,hyv,Instr.lookup,run_underlying hu,MapKept.run_getObj_map q2,K.check w _ hlk,h1,Result.andThen]
            . cases ok
              . exact a4.noR
              . simp only[if_true,Rep]
                refine ⟨_,rfl,?_⟩;simp only[RepL];exact ⟨_,_,rfl,a4.noR,_,_,rfl,aj.2 rfl,rfl⟩
            . cases ok
              . exact cQ _
              . trivial
     . cases hact
   . cases hact
 . cases hp
theorem MRep.set:∀ {l:List C}{es:List MapEntry}{j:Nat}{e:MapEntry}{x:C},MRep G l es→es[j]? =some e→∀e':MapEntry,e'.key=e.key→Rep G x e'.val→MRep G (l.set (2*j+1) x) (es.set j e')
 | [],es,j,e,x,h,hj,e',_,_=>by simp only[MRep] at h;subst h;simp at hj
 | [_],es,j,e,x,h,hj,e',_,_=>by simp[MRep] at h
 |k::v::l,es,j,e,x,h,hj,e',hk,hr=>by
  simp only[MRep] at h;obtain ⟨e0,es',rfl,h1,h2,h3⟩:=h
  cases j with
  |zero=>
   simp at hj;subst hj
   show MRep G (k::x::l) (e'::es');simp only[MRep];exact ⟨e',es',rfl,by rw[hk];exact h1,hr,h3⟩
  |succ j=>
   have e1:2*(j+1)+1= (2*j+1)+1+1:=by omega
   rw[e1,List.set_cons_succ,List.set_cons_succ,List.set_cons_succ];simp only[MRep];exact ⟨e0,_,rfl,h1,h2,MRep.set h3 (by simpa using hj) e' hk hr⟩
theorem MRep.push:∀ {l:List C}{es:List MapEntry}{x y:C}{e:MapEntry},MRep G l es→Rep G x e.key→Rep G y e.val→MRep G (l++[x,y]) (es++[e])
 | [],es,x,y,e,h,h1,h2=>by
   simp only[MRep] at h;subst h
   show MRep G [x,y] [e];simp only[MRep];exact ⟨e,[],rfl,h1,h2,rfl⟩
 | [_],es,x,y,e,h,_,_=>by simp[MRep] at h
 |k::v::l,es,x,y,e,h,h1,h2=>by
  simp only[MRep] at h;obtain ⟨e0,es',rfl,g1,g2,g3⟩:=h;show MRep G (k::v:: (l++[x,y])) (e0:: (es'++[e]));simp only[MRep];exact ⟨e0,_,rfl,g1,g2,MRep.push g3 h1 h2⟩
theorem MRep.del:∀ {l:List C}{es:List MapEntry}{j:Nat},MRep G l es→MRep G (l.take (2*j)++l.drop (2*j+2)) (es.eraseIdx j)
 | [],es,j,h=>by simp only[MRep] at h;subst h;simp[MRep]
 | [_],es,j,h=>by simp[MRep] at h
 |k::v::l,es,j,h=>by
  simp only[MRep] at h;obtain ⟨e0,es',rfl,g1,g2,g3⟩:=h
  cases j with
  |zero=>exact g3
  |succ j=>
   have e1:2*(j+1) =2*j+1+1:=by omega
   have e2:2*(j+1)+2= (2*j+2)+1+1:=by omega
   rw[e2,e1,List.take_succ_cons,List.take_succ_cons,List.drop_succ_cons,List.drop_succ_cons,List.eraseIdx_cons_succ];simp only[List.cons_append,MRep];exact ⟨e0,_,rfl,g1,g2,MRep.del g3⟩
theorem Mf (hmk:∀k u,cx.km k u=true→Keyed cx.P k∧∃l,keyOf cx.P k u=some l)(H:Pre cx G w st a){t:TypeId}{m x y:Operand}(ho:o.op= .mapUpdate t m x y){p:Plan}(hp:fL cx t (cx.evn st.env m) (cx.evn st.env x) (cx.evn st.env y) =some p)
 {id:Nat} {c:C} {st':St} (hact:b8 cx id p st=some (c,st')) (d:bB):OpOK cx.P o a G w st' d c:=by
 have hm:=H.evn m;have hx:=H.evn x;have hy:=H.evn y;unfold fL at hp;split at hp
 . rename_i b kv hme hk
   cases hp;rw[hme] at hm;simp only[Rep] at hm;obtain ⟨blk,hμ,hmv⟩:=hm;have hxv:=oN hk hx;simp only[b8,aA,qI] at hact;split at hact
   . rename_i kt et hkt
     have hu:=oO hkt;split at hact
     . rename_i hmkk
       obtain ⟨K,lk,hlk⟩:=hmk _ _ hmkk
       cases hmp:st.h.mp b with
       |none=>rw[hmp] at hact;cases hact
       |some ents=>
        rw[hmp] at hact;simp only[Option.bind_some] at hact;obtain ⟨blk',es,clk,q1,q2,q3⟩:=H.ok.mpo b ents hmp;rw[hμ] at q1;cases q1
        cases hf:fx cx kt kv ents 0 with
        |none=>rw[hf] at hact;cases hact
        |some r=>
         rw[hf] at hact;simp only[Option.map_some,v9,Option.some.injEq,Prod.mk.injEq] at hact;obtain ⟨rfl,rfl⟩:=hact;obtain ⟨g1,g2⟩:=l6 ents es.toList 0 r q3 hf;have hkeys:∀e∈es.toList,∃l,keyOf cx.P kt e.key=some l:=fun e he=>(hmk _ _ (g1 e he)).2
         cases r with
         |none=>
          simp only at g2 ⊢;rcases K.find w hlk es.toList hkeys with ⟨h1,h2⟩ | ⟨j,e0,h1,h2,h3⟩
          . obtain ⟨W,F⟩:=H.ok.setMap hmp hμ q2 (ents++[.val kv,cx.evn st.env y]) (es.push ⟨kv,a.eval y,clk⟩) (clk+1) (by rw[Array.toList_push];exact q3.push (aj.2 rfl) hy)
            refine iq (w':=setBlock w blk (.map (es.push ⟨kv,a.eval y,clk⟩) (clk+1))) ?_ ⟨G,⟨aj.2 rfl,by simp,W,ly q2 H.env,F⟩⟩;simp[execOp,ho,hmv,hxv,Instr.mapUpdate,run_underlying hu,MapKept.run_getObj_map q2,K.check w _ hlk,h1,MapKept.run_setObj_map _ q2,Result.andThen,setBlock]
          . exact absurd h3 (g2 e0 (List.mem_of_getElem? h2))
         |some q=>
          obtain ⟨n,v0⟩:=q;simp only at g2 ⊢;obtain ⟨j,e,a1,a2,a3,a4,a5⟩:=g2;rw[Nat.zero_add] at a1;subst a1;rcases K.find w hlk es.toList hkeys with ⟨h1,h2⟩ | ⟨j2,e0,h1,h2,h3⟩
          . exact absurd a3 (h2 e (List.mem_of_getElem? a2))
          . have hj:=a5 j2 e0 h2 h3
            subst hj;rw[a2] at h2;cases h2
            have hje:es[j2]? =some e:=by simpa using a2
            have hlist: (es.modify j2 (fun e'=> { e' with key:=kv,val:=a.eval y })).toList=es.toList.set j2 { e with key:=kv,val:=a.eval y }:=by rw[Array.toList_modify,modify_eq_set _ _ _ _ a2]
            obtain ⟨W,F⟩:=H.ok.setMap hmp hμ q2 (ents.set (2*j2+1) (cx.evn st.env y)) (es.modify j2 (fun e'=> { e' with key:=kv,val:=a.eval y })) clk (by rw[hlist];exact q3.set a2 _ a3.symm hy);refine iq (w':=setBlock w blk (.map (es.modify j2 (fun e'=> { e' with key:=kv,val:=a.eval y })) clk)) ?_ ⟨G,⟨aj.2 rfl,by simp,W,ly q2 H.env,F⟩⟩;simp[execOp,ho,hmv,hxv,Instr.mapUpdate,run_underlying hu,MapKept.run_getObj_map q2,K.check w _ hlk,h1,hje,a3,K.stays w hlk,MapKept.run_setObj_map _ q2,Result.andThen,setBlock]
     . cases hact
   . cases hact
 . cases hp
theorem Mg (hmk:∀k u,cx.km k u=true→Keyed cx.P k∧∃l,keyOf cx.P k u=some l)(H:Pre cx G w st a){t t2:TypeId}{m x:Operand}(ho:o.op= .call { callee:= .builtin .delete,args:= #[m,x],argTypes:= #[t,t2] }){p:Plan}(hp:fM cx t (cx.evn st.env m) (cx.evn st.env x) =some p)
 {id:Nat} {c:C} {st':St} (hact:b8 cx id p st=some (c,st')) (d:bB):OpOK cx.P o a G w st' d c:=by
 have hm:=H.evn m;have hx:=H.evn x;have hex:=eS (P:=cx.P) (w:=w) (a:=a) .delete #[m,x] #[t,t2] (Builtin.delete_ #[t,t2] o.type #[a.eval m,a.eval x]) ho (fun cs=>by simp[builtin]);unfold fM at hp;split at hp
 . rename_i b kv hme hk
   cases hp;rw[hme] at hm;simp only[Rep] at hm;obtain ⟨blk,hμ,hmv⟩:=hm;have hxv:=oN hk hx;simp only[b8,aA,qJ] at hact;split at hact
   . rename_i kt et hkt
     have hu:=oO hkt;split at hact
     . rename_i hmkk
       obtain ⟨K,lk,hlk⟩:=hmk _ _ hmkk
       cases hmp:st.h.mp b with
       |none=>rw[hmp] at hact;cases hact
       |some ents=>
        rw[hmp] at hact;simp only[Option.bind_some] at hact;obtain ⟨blk',es,clk,q1,q2,q3⟩:=H.ok.mpo b ents hmp;rw[hμ] at q1;cases q1
        cases hf:fx cx kt kv ents 0 with
        |none=>rw[hf] at hact;cases hact
        |some r=>
         rw[hf] at hact;simp only[Option.map_some,wa,Option.some.injEq,Prod.mk.injEq] at hact;obtain ⟨rfl,rfl⟩:=hact;obtain ⟨g1,g2⟩:=l6 ents es.toList 0 r q3 hf;have hkeys:∀e∈es.toList,∃l,keyOf cx.P kt e.key=some l:=fun e he=>(hmk _ _ (g1 e he)).2
         cases r with
         |none=>
          simp only at g2 ⊢;rcases K.find w hlk es.toList hkeys with ⟨h1,h2⟩ | ⟨j,e0,h1,h2,h3⟩
          . obtain ⟨W,F⟩:=H.ok.setMap hmp hμ q2 ents es clk q3
            refine bO (v:= .tuple #[]) (w':=setBlock w blk (.map es clk)) ?_ ⟨G,⟨aj.2 rfl,by simp,W,ly q2 H.env,F⟩⟩;rw[hex];simp[Builtin.delete_,hmv,hxv,run_underlying hu,MapKept.run_getObj_map q2,K.check w _ hlk,h1,MapKept.run_setObj_map _ q2,Result.andThen,setBlock]
          . exact absurd h3 (g2 e0 (List.mem_of_getElem? h2))
         |some q=>
          obtain ⟨n,v0⟩:=q;simp only at g2 ⊢;obtain ⟨j,e,a1,a2,a3,a4,a5⟩:=g2;rw[Nat.zero_add] at a1;subst a1;rcases K.find w hlk es.toList hkeys with ⟨h1,h2⟩ | ⟨j2,e0,h1,h2,h3⟩
          . exact absurd a3 (h2 e (List.mem_of_getElem? a2))
          . have hj:=a5 j2 e0 h2 h3
            subst hj;have hjs:j2< es.size:=by simpa using y5 a2
            have hsub: (es.eraseIdxIfInBounds j2).toList=es.toList.eraseIdx j2:=by
             unfold Array.eraseIdxIfInBounds;rw[dif_pos hjs];simp
            obtain ⟨W,F⟩:=H.ok.setMap hmp hμ q2 (ents.take (2*j2)++ents.drop (2*j2+2)) (es.eraseIdxIfInBounds j2) clk (by rw[hsub];exact q3.del);refine bO (v:= .tuple #[]) (w':=setBlock w blk (.map (es.eraseIdxIfInBounds j2) clk)) ?_ ⟨G,⟨aj.2 rfl,by simp,W,ly q2 H.env,F⟩⟩;rw[hex];simp[Builtin.delete_,hmv,hxv,run_underlying hu,MapKept.run_getObj_map q2,K.check w _ hlk,h1,MapKept.run_setObj_map _ q2,Result.andThen,setBlock]
     . cases hact
   . cases hact
 . cases hp
end
end Go.Sx
