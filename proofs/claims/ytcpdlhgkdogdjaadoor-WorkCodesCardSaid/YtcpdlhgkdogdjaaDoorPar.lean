/-
   And what follows.
-/
import Derived.Test.YtcpdlhgkdogdjaaDoorPaq
set_option linter.unusedSimpArgs false
set_option linter.unusedVariables false
namespace Go.Sx
open Go.RowKit Go.Proofs
theorem Pj {pu:Nat→List C→Option C}(hnr:∀f xs,noRefs 0 xs=false→pu f xs=none){α:Type}{enc:α→List C}{out:α→C}{f:Nat}(he:∀a,noRefs 0 (enc a) =true):∀g xs,noRefs 0 xs=false→Sx.ext pu f (jq enc out) g xs=none:=fun g xs hr=>by
 by_cases hgf:g=f
 . subst hgf
   rw[qM]
   cases hq:jq enc out xs with
   |none=>rfl
   |some c=>
    obtain ⟨a,rfl,_⟩:=oY hq;rw[he a] at hr;cases hr
 . rw[oZ hgf];exact hnr g xs hr
theorem Vj {x y:ID}:iD x=iD y↔x=y:=⟨fun h=>Inj.inj _ _ h,fun h=>by rw[h]⟩
theorem Vk {x y:aI}:pC x=pC y↔x=y:=⟨fun h=>Inj.inj _ _ h,fun h=>by rw[h]⟩
section
variable {gl:Nat→C} {pu:Nat→List C→Option C}
noncomputable def Cc (hgn:∀g,ae 0 (gl g) =true):Mk Tryd.prog gl 64 Unit where
 args:=fun _=>[]
 r:=fun _=> .agg [.gv 3 1 (1,46)]
 Y:=fun _=>[some [.gv 3 1 (1,46)],some (cl pC exPs),some [.val (str bN),.gv 1 3 (7,37)],some [.gv 2 1 (2,48)]]
 nr:=fun _=>rfl
 inj:=fun _ _ _=>⟨rfl,rfl⟩
 fc:=fun _=>acG (M:=0) (pu:=fun _ _=>none) (CxOK.zero hgn)
noncomputable def J1 (hgn:∀g,ae 0 (gl g) =true):Nat→List C→Hp→Option (C×Hp):=(Cc hgn).tab (fun _ _ _=>none)
theorem acU (hgn:∀g,ae 0 (gl g) =true)(h:CxOK (ax gl 0 pu)):CxOK (cJ gl 0 pu (J1 hgn)):=xS (qp h) (Cc hgn)
theorem Pk (hgn:∀g,ae 0 (gl g) =true):∀pre:Hp,OkH pre→J1 hgn 64 [] pre=some (.agg [.gv (pre.length+3) 1 (1,46)],pre++[some [.gv (pre.length+3) 1 (1,46)],some (cl pC exPs),some [.val (str bN),.gv (pre.length+1) 3 (7,37)],some [.gv (pre.length+2) 1 (2,48)]]):=fun pre h=>by
 have e:=(Cc hgn).look (fun _ _ _=>none) () pre h;unfold J1;refine e.trans ?_;have e1:∀n,dS n ((Cc hgn).Y ()) = [some [.gv (n+3) 1 (1,46)],some (cl pC exPs),some [.val (str bN),.gv (n+1) 3 (7,37)],some [.gv (n+2) 1 (2,48)]]:=fun n=>by
  show [_,_,_,_] =_;simp only[Option.map_some,bkCs,bZ,bks_nr _ _ (bQ pC 0 exPs)]
 rw[e1];rfl
end
set_option maxRecDepth 100000
set_option maxHeartbeats 8000000
def NF (w:ah)(id:ID)(n:Nat):Prop:= ∀j,j< n→¬ (gt (bm w) j).2.1=id
theorem ac1 (w:ah)(id:ID):NF w id (oV w 0):=fun j hj=>absurd hj (by rw[acI];omega)
theorem ac2 {w:ah}{id:ID}{v:Nat}(h:NF w id (oV w v)):NF w id (oV w v+oA v (gt w v) 0):=h
theorem ac3 {w:ah}{id:ID}{v a:Nat}(h:NF w id (oV w v+oA v (gt w v) a)):NF w id (oV w v+(oA v (gt w v) a+0)):=h
theorem ac4 {w:ah}{id:ID}{v a j:Nat}(hv:v< w.length)(ha:a< (gt w v).length)(hj:j< (gt (gt w v) a).2.length)(h:NF w id (oV w v+(oA v (gt w v) a+j)))(hn:¬ (gt (gt (gt w v) a).2 j).1=id):NF w id (oV w v+(oA v (gt w v) a+(j+1))):=fun k hk=>by
 by_cases e:k=oV w v+(oA v (gt w v) a+j)
 . rw[e,(yn w v a j hv ha hj).1];exact hn
 . exact h k (by omega)
theorem ac5 {w:ah}{id:ID}{v a:Nat}(h:NF w id (oV w v+(oA v (gt w v) a+(gt (gt w v) a).2.length))):NF w id (oV w v+oA v (gt w v) (a+1)):=by rw[Va];exact h
theorem ac6 {w:ah}{id:ID}{v:Nat}(h:NF w id (oV w v+oA v (gt w v) (gt w v).length)):NF w id (oV w (v+1)):=by rw[Vc];rw[Vb] at h;exact h
theorem ac7 {w:ah}{id:ID}(h:NF w id (oV w w.length)):dj w id= ((0,0,0),false):=LB (by rw[Vd] at h;exact h)
theorem PC {w:ah}{id:ID}{v a j:Nat}(hv:v< w.length)(ha:a< (gt w v).length)(hj:j< (gt (gt w v) a).2.length)(h:NF w id (oV w v+(oA v (gt w v) a+j)))(hn: (gt (gt (gt w v) a).2 j).1=id):dj w id= ((v,a,j),true):=by
 have e:=yn w v a j hv ha hj;have:=LA (id:=id) e.2 h (by rw[e.1];exact hn);rw[this,e.1]
theorem gn {p:Prop}(e:p:=by intro KZ hZ;simp -implicitDefEqProofs (disch:=first|omega| (simp only[go_sem,lA,lD,lT,hw1,hvl,hal] <;>omega) |decide) only[go_sem,↓reduceIte,Nat.reduceEqDiff,reduceCtorEq,Nat.reduceLT,Nat.reduceBEq,Nat.reduceAdd,h60,hy];with_reducible exact hZ):p:=e
theorem VW {p:Prop}(e:p:=by intro KZ hZ;simp -implicitDefEqProofs (disch:=first|omega| (simp only[go_sem,lA,lD,lT,hw1,hvl,hal] <;>omega) |decide) only[go_sem,↓reduceIte,Nat.reduceEqDiff,reduceCtorEq,Nat.reduceLT,Nat.reduceBEq,Nat.reduceAdd,h60,hy];with_reducible refine And.intro ?_ hZ;first|exact rfl|decide):p:=e
theorem FJ {p:Prop}(e:p:=by simp -implicitDefEqProofs (disch:=first|omega| (simp only[go_sem,lA,lD,lT,hw1,hvl,hal] <;>omega) |decide) only[go_sem,↓reduceIte,Nat.reduceEqDiff,reduceCtorEq];all_goals (first| (rw[hR];done) | (rw[hR];rfl))):p:=e
theorem ac8 {gl:Nat→C}{M:Nat}{pu:Nat→List C→Option C}(hcx:CxOK (ax gl M pu))(h60:∀a b:ID,pu 60 [.agg (iD a),.agg (iD b)] =some (.val (.bool (decide (a=b)))))(w:ah)(id:ID)(hw:WB w):FC Tryd.prog gl 33 [.agg [sl vC .no w],.agg (iD id)] [] (.tup [.agg [.val (nI (dj w id).1.1),.val (nI (dj w id).1.2.1),.val (nI (dj w id).1.2.2)],.val (.bool (dj w id).2)]) []:=by
 replace hcx:=hcx.reN (M:=56);refine aH (cx:=ax gl 56 pu) (rs:=[.cell 4 60,.tmp 5]) rfl Tryd.func33 rfl rfl rfl (by simp only[List.length_cons,List.length_nil];decide) (by simp only[go_sem]) ?_;simp only[bj,go_sem];have hy:=True.intro;have hw1:=hw.1;have ⟨hvl,hal⟩:=fo;refine Tr.w hcx [] _ [none,none,none] rfl rfl rfl ?_ gn;refine aa fun K1 hK1=>?_;refine Tr.w hcx [] _ [] rfl rfl rfl ?_ gn;refine Tr.k [2,3,4,6] ?_;refine Tr.blk ?_;refine Tr.k [2,3,4,6] ?_;refine aL hcx 0 [sl vC .no w] ?_;refine aL hcx 1 (iD id) ?_;refine aW hcx [2] ?_;refine ao (α:=Nat) (fun a=>[(2,?v2_1),(3,?v3_1),(4,?v4_1),(6,.val (nI a))]) (fun a=>[some [.val (nI 0),.val (nI 0),.val (nI 0)]]) (fun a=>a≤w.length∧NF w id (oV w a)) (fun a=>w.length - a) (0) ⟨Nat.zero_le _,ac1 w id⟩ ?le_1 ?hh_1 ?bd_1
 case hh_1=>exact rfl
 case le_1=>exact LT
 rintro v ⟨hv0,hF⟩;refine aa fun K2 hK2=>?_;refine Tr.w hcx [] _ [] rfl rfl rfl ?_ gn;refine af rfl (fun hc14=>?_) (fun hc14=>?_)
 ·
  have hvl:=hw.2.1 v hc14;refine Tr.skip ?_;refine hK2 _ ?_;refine aa fun K3 hK3=>?_;refine Tr.blk ?_;refine Tr.w hcx [] _ [] rfl rfl rfl ?_ gn;refine Tr.k [2,3,4,6,7] ?_;refine Tr.blk ?_;refine ao (α:=Nat) (fun a=>[(2,?v2_2),(3,?v3_2),(4,?v4_2),(6,?v6_2),(7,.val (nI a))]) (fun a=>[some [.val (nI 0),.val (nI 0),.val (nI 0)]]) (fun a=>a≤(gt w v).length∧NF w id (oV w v+oA v (gt w v) a)) (fun a=>(gt w v).length - a) (0) ⟨Nat.zero_le _,ac2 hF⟩ ?le_2 ?hh_2 ?bd_2
  case hh_2=>exact rfl
  case le_2=>exact LT
  rintro k ⟨ha0,hA⟩;refine aa fun K4 hK4=>?_;refine Tr.w hcx [] _ [] rfl rfl rfl ?_ gn;refine af rfl (fun hc25=>?_) (fun hc25=>?_)
  ·
   have hal:=hw.2.2 v k hc14 hc25;refine Tr.skip ?_;refine hK4 _ ?_;refine aa fun K5 hK5=>?_;refine Tr.blk ?_;refine Tr.w hcx [1000037] _ [] rfl rfl rfl ?_ gn;refine Tr.w hcx [] _ [] rfl rfl rfl ?_ gn;refine Tr.k [2,3,4,6,7,8,9] ?_;refine Tr.blk ?_;refine ao (α:=Nat) (fun a=>[(2,?v2_3),(3,?v3_3),(4,?v4_3),(6,?v6_3),(7,?v7_3),(8,?v8_3),(9,.val (nI a))]) (fun a=>[some [.val (nI 0),.val (nI 0),.val (nI 0)]]) (fun a=>a≤(gt (gt w v) k).2.length∧NF w id (oV w v+(oA v (gt w v) k+a))) (fun a=>(gt (gt w v) k).2.length - a) (0) ⟨Nat.zero_le _,ac3 hA⟩ ?le_3 ?hh_3 ?bd_3
   case hh_3=>exact rfl
   case le_3=>exact LT
   rintro j ⟨hj0,hJ⟩;refine aa fun K6 hK6=>?_;refine Tr.w hcx [] _ [] rfl rfl rfl ?_ gn;refine af rfl (fun hc41=>?_) (fun hc41=>?_)
   ·
    refine Tr.skip ?_;refine hK6 _ ?_;refine aa fun K7 hK7=>?_;refine Tr.blk ?_;refine cf hcx bM [] _ [] rfl rfl rfl rfl ?_ VW;refine af rfl (fun hc50=>?_) (fun hc50=>?_)
    ·
     have hR:=PC hc14 hc25 hc41 hJ hc50;refine Tr.w hcx [] _ [] rfl rfl rfl ?_ gn;exact Tr.ret FJ
    refine Tr.skip ?_;refine hK7 _ ?_;refine Tr.v hcx [1000043] _ [] rfl rfl rfl ?_ gn;exact ⟨j+1,⟨⟨by omega,ac4 hc14 hc25 hc41 hJ hc50⟩,O1⟩,LT,rfl⟩
   obtain rfl:j= (gt (gt w v) k).2.length:=by omega
   refine Tr.exit ?_;refine hK5 _ ?_;refine Tr.v hcx [1000027] _ [] rfl rfl rfl ?_ gn;exact ⟨k+1,⟨⟨by omega,ac5 hJ⟩,O1⟩,LT,rfl⟩
  obtain rfl:k= (gt w v).length:=by omega
  refine Tr.exit ?_;refine hK3 _ ?_;refine Tr.v hcx [1000016] _ [] rfl rfl rfl ?_ gn;exact ⟨v+1,⟨⟨by omega,ac6 hA⟩,O1⟩,LT,rfl⟩
 obtain rfl:v=w.length:=by omega
 have hR:=ac7 hF;refine Tr.exit ?_;refine hK1 _ ?_;refine Tr.w hcx [] _ [] rfl rfl rfl ?_ gn;exact Tr.ret FJ
end Go.Sx
namespace Go.Sx
open Go.RowKit
end Go.Sx
namespace Go.Sx
open Go.RowKit Go.Proofs
set_option maxRecDepth 100000
set_option maxHeartbeats 8000000
def fV (n v0 m:Nat)(w:ah):List C:=(cl vC w).set v0 (.gv (n+1) m (2,48))
def fA (n a0 m:Nat)(V:bE):List C:=(cl aC V).set (a0*2+1) (.gv (n+2) m (7,37))
theorem pq {α:Type}(l:List α)(x y:α)(k i:Nat)(h:l.length=i): (l++[x]).set k y=if k=i then l++[y] else l.set k y++[x]:=by
 subst h;rw[List.set_append];split
 . rename_i hk;rw[if_neg (by omega)]
 . rename_i hk
   split
   . rename_i e;subst e;rw[Nat.sub_self];rfl
   . rename_i e
     rw[List.set_eq_of_length_le (by omega:l.length≤k)];obtain ⟨d,hd⟩:∃d,k - l.length=d+1:=⟨k - l.length - 1,by omega⟩;rw[hd];rfl
theorem wt {α:Type}[Inhabited α](f:α→List C)(l:List α)(i:Nat)(h:i< l.length):cl f (l.take (i+1)) =cl f (l.take i)++f (gt l i):=by
 rw[←eX l i h,jO];congr 1
 rw[cg];simp[cl]
theorem Vl {n v0 m i:Nat}{w:ah}(h:i< w.length)(c:¬i=v0):fV n v0 m (w.take i)++[sl aC .no (gt w i)] =fV n v0 m (w.take (i+1)):=by
 unfold fV;rw[wt vC w i h];show _= (cl vC (w.take i)++[sl aC .no (gt w i)]).set v0 _;rw[pq _ _ _ _ i (by rw[aD (f:=vC),List.length_take];omega),if_neg (fun e=>c e.symm)]
theorem Vm {n m i:Nat}{w:ah}(h:i< w.length):fV n i m (w.take i)++[.gv (n+1) m (2,48)] =fV n i m (w.take (i+1)):=by
 unfold fV;rw[wt vC w i h];show _= (cl vC (w.take i)++[sl aC .no (gt w i)]).set i _;rw[pq _ _ _ _ i (by rw[aD (f:=vC),List.length_take];omega),if_pos rfl,List.set_eq_of_length_le (by rw[aD (f:=vC),List.length_take];omega)]
theorem Vn {n a0 m i:Nat}{V:bE}(h:i< V.length)(c:¬i=a0):fA n a0 m (V.take i)++[.val (str (gt V i).1),sl pC .no (gt V i).2] =fA n a0 m (V.take (i+1)):=by
 unfold fA;rw[wt aC V i h];show _= (cl aC (V.take i)++([C.val (str (gt V i).1)]++[sl pC .no (gt V i).2])).set (a0*2+1) _;have hl: (cl aC (V.take i)).length=i*2:=by rw[aD (f:=aC),List.length_take];omega
 rw[←List.append_assoc,pq _ _ _ _ (i*2+1) (by rw[List.length_append,hl];rfl),if_neg (by omega)];rw[List.set_append];split
 . rw[List.append_assoc];rfl
 . rename_i q
   rw[List.set_eq_of_length_le (l:=[C.val (str (gt V i).1)]) (by show 1≤_;omega),List.set_eq_of_length_le (by omega),List.append_assoc];rfl
theorem Vo {n m i:Nat}{V:bE}(h:i< V.length):fA n i m (V.take i)++[.val (str (gt V i).1),.gv (n+2) m (7,37)] =fA n i m (V.take (i+1)):=by
 unfold fA;rw[wt aC V i h];show _= (cl aC (V.take i)++([C.val (str (gt V i).1)]++[sl pC .no (gt V i).2])).set (i*2+1) _;have hl: (cl aC (V.take i)).length=i*2:=by rw[aD (f:=aC),List.length_take];omega
 rw[←List.append_assoc,pq _ _ _ _ (i*2+1) (by rw[List.length_append,hl];rfl),if_pos rfl,List.set_eq_of_length_le (by omega),List.append_assoc];rfl
def bV (n v0 a0 m:Nat)(w:ah)(i:Nat):List C:=if i≤v0 then [] else fA n a0 m (gt w v0)
def bA (v0 a0:Nat)(w:ah)(i:Nat):List C:=if i≤v0 then [] else cl pC (gt (gt w v0) a0).2
def bL (a0:Nat)(V:bE)(k:Nat):List C:=if k≤a0 then [] else cl pC (gt V a0).2
theorem Vp {n v0 a0 m i:Nat}{w:ah}(c:¬i=v0):bV n v0 a0 m w (i+1) =bV n v0 a0 m w i:=by
 unfold bV;by_cases h:i≤v0
 . rw[if_pos (by omega),if_pos h]
 . rw[if_neg (by omega),if_neg h]
theorem Vq {v0 a0 i:Nat}{w:ah}(c:¬i=v0):bA v0 a0 w (i+1) =bA v0 a0 w i:=by
 unfold bA;by_cases h:i≤v0
 . rw[if_pos (by omega),if_pos h]
 . rw[if_neg (by omega),if_neg h]
theorem Vr {a0 k:Nat}{V:bE}(c:¬k=a0):bL a0 V (k+1) =bL a0 V k:=by
 unfold bL;by_cases h:k≤a0
 . rw[if_pos (by omega),if_pos h]
 . rw[if_neg (by omega),if_neg h]
theorem acV {n i a0 m:Nat}{w:ah}:bV n i a0 m w i= []:=if_pos (Nat.le_refl _)
theorem acW {i a0:Nat}{w:ah}:bA i a0 w i= []:=if_pos (Nat.le_refl _)
theorem acX {k:Nat}{V:bE}:bL k V k= []:=if_pos (Nat.le_refl _)
theorem acY {n i a0 m:Nat}{w:ah}:bV n i a0 m w (i+1) =fA n a0 m (gt w i):=if_neg (by omega)
theorem acZ {i a0:Nat}{w:ah}:bA i a0 w (i+1) =cl pC (gt (gt w i) a0).2:=if_neg (by omega)
theorem ac0 {k:Nat}{V:bE}:bL k V (k+1) =cl pC (gt V k).2:=if_neg (by omega)
theorem J2 (x:aI)(l:List ID):pB (pC x) 6 (sl iD (.own 3) l) =some ((pC x).set 6 (sl iD (.own 3) l),.val undef):=rfl
theorem uV (x:aI)(c:C): ((pC x).set 6 c).set 6 (sl iD .no x.2.2.2.2) =pC x:=rfl
theorem Pl (u:TypeDesc)(y:Nat)(t:List UInt8)(b n:Nat)(s:Nat×Nat):fD (some ⟨u,2,y,[str [],.slice none 0 0]⟩) 1 [(0,.agg [.val (str t),.gv b n s])] =some (vp (.sl .full 1 [.val (str t),.gv b n s])):=rfl
theorem Pm (u:TypeDesc)(y:Nat)(b n:Nat)(s:Nat×Nat):fD (some ⟨u,1,y,[.slice none 0 0]⟩) 1 [(0,.agg [.gv b n s])] =some (vp (.sl .full 1 [.gv b n s])):=rfl
attribute [go_sem high] J2 Pl Pm
theorem Vs (u:TypeDesc)(b n:Nat)(x y:C)(h:n≤1000000):rx 48 (some ⟨u,2,40,[str [],.slice none 0 0]⟩) (.gv b n (2,48)) (.sl .full 1 [x,y]) =some (.ap (some (b,n)) (2,48) 1 fun _=>some [x,y]):=by
 simp only[rx,if_true,je,C.sl?];rw[if_pos];simp only[decide_eq_true_eq];exact ⟨rfl,by decide,rfl,by omega,by omega,rfl⟩
theorem Vt (u:TypeDesc)(b n:Nat)(x:C)(h:n≤1000000):rx 46 (some ⟨u,1,24,[.slice none 0 0]⟩) (.gv b n (1,46)) (.sl .full 1 [x]) =some (.ap (some (b,n)) (1,46) 1 fun _=>some [x]):=by
 simp only[rx,if_true,je,C.sl?];rw[if_pos];simp only[decide_eq_true_eq];exact ⟨rfl,by decide,rfl,by omega,by omega,rfl⟩
theorem sr {l:List C}(h:aR (some l) =some l)(i b n:Nat)(s:Nat×Nat):aR (some (l.set i (.gv b n s))) =some (l.set i (.gv b n s)):=by
 cases l with
 |nil=>rfl
 |cons x l=>
  cases i with
  |zero=>rfl
  |succ i=>
   cases x with
   |tup xs=>cases h
   |_=>rfl
theorem Aq (n v0 m:Nat)(w:ah):aR (some (fV n v0 m w)) =some (fV n v0 m w):=sr (iQ vC w) ..
theorem Ar (n v0 m:Nat)(w:bE):aR (some (fA n v0 m w)) =some (fA n v0 m w):=sr (iQ aC w) ..
theorem Fo (n v0 m:Nat)(w:ah): (fV n v0 m w).map C.noR=fV n v0 m w:=by unfold fV;rw[List.map_set,dL];rfl
theorem Fp (n v0 m:Nat)(w:bE): (fA n v0 m w).map C.noR=fA n v0 m w:=by unfold fA;rw[List.map_set,dL];rfl
theorem Vu (n v0 m:Nat)(w:ah): (fV n v0 m w).length=w.length:=by unfold fV;rw[List.length_set,aD (f:=vC),Nat.mul_one]
theorem yu (n v0 m:Nat)(w:bE): (fA n v0 m w).length=w.length*2:=by unfold fA;rw[List.length_set,aD (f:=aC)]
theorem kC (ρ:List Nat)(x:C):∀ (l:List C)(i:Nat),mvCs ρ (l.set i x) = (mvCs ρ l).set i (aU ρ x)
 | [],_=>rfl
 |y::l,0=>rfl
 |y::l,i+1=>by simp only[List.set_cons_succ,mvCs,kC ρ x l i]
theorem wu {ρ:List Nat}{n v0 m:Nat}{w:ah}(h:∀m,aU ρ (.gv (n+1) m (2,48)) = .gv (n+1) m (2,48)):mvCs ρ (fV n v0 m w) =fV n v0 m w:=by unfold fV;rw[kC,c9,h]
theorem tM {ρ:List Nat}{n v0 m:Nat}{w:bE}(h:∀m,aU ρ (.gv (n+2) m (7,37)) = .gv (n+2) m (7,37)):mvCs ρ (fA n v0 m w) =fA n v0 m w:=by unfold fA;rw[kC,c9,h]
theorem Cd {ρ:List Nat}{n v0 a0 m i:Nat}{w:ah}(h:∀m,aU ρ (.gv (n+2) m (7,37)) = .gv (n+2) m (7,37)):mvCs ρ (bV n v0 a0 m w i) =bV n v0 a0 m w i:=by unfold bV;split;rfl;exact tM h
theorem Ce {ρ:List Nat}{v0 a0 i:Nat}{w:ah}:mvCs ρ (bA v0 a0 w i) =bA v0 a0 w i:=by unfold bA;split;rfl;exact c9 ..
theorem Cf {ρ:List Nat}{a0 i:Nat}{w:bE}:mvCs ρ (bL a0 w i) =bL a0 w i:=by unfold bL;split;rfl;exact c9 ..
theorem Fq (n i m:Nat)(w:ah):fV n i m (w.take i) =cl vC (w.take i):=by
 unfold fV;rw[List.set_eq_of_length_le];rw[aD (f:=vC),List.length_take];omega
theorem Fr (n i m:Nat)(w:bE):fA n i m (w.take i) =cl aC (w.take i):=by
 unfold fA;rw[List.set_eq_of_length_le];rw[aD (f:=aC),List.length_take];omega
theorem j4 (k:Nat)(x:C)(hx:ae k x=true):∀ (l:List C)(i:Nat),noRefs k l=true→noRefs k (l.set i x) =true
 | [],_,h=>h
 |y::l,0,h=>by simp only[List.set_cons_zero,noRefs,Bool.and_eq_true] at h ⊢;exact ⟨hx,h.2⟩
 |y::l,i+1,h=>by simp only[List.set_cons_succ,noRefs,Bool.and_eq_true] at h ⊢;exact ⟨h.1,j4 k x hx l i h.2⟩
section
variable (cx:Cx) (apps:List Nat) (dsts:List (Option Nat)) (l:List Oper) (id':Nat) (d:Option Nat) (e:List (Nat×C)) (h:Hp) (fs:List FP) (K:List FP→St→Prop)
theorem kD (b n m k e':Nat)(cells cs:List C)(h1:cells.map C.noR=cells)(h2:cs.map C.noR=cs)(hn:n*k=cells.length)(hm:0< m)(hk:0< k):
 ju cx apps dsts l id' d e h fs K b n (k,e') m cs (some cells) =run cx apps dsts l id' (dR d (.gv h.length (n+m) (k,e')) e) (h.set b (some cM)++[some (cells++cs)]) ((4,0)::fs) K:=by
 have hml:k≤m*k:=by
  have:=Nat.mul_le_mul_right k (show 1≤m by omega);omega
 unfold ju;simp only[];rw[if_neg (by rw[←hn,Nat.add_mul];omega),if_pos hn,List.map_append,h1,h2]
theorem J3 (b n:Nat)(V:bE)(t:List UInt8)(b' n':Nat)(s':Nat×Nat)(hn:n*2= (cl aC V).length):ju cx apps dsts l id' d e h fs K b n (2,48) 1 [.val (str t),.gv b' n' s'] (some (cl aC V)) =run cx apps dsts l id' (dR d (.gv h.length (n+1) (2,48)) e) (h.set b (some cM)++[some (cl aC V++[.val (str t),.gv b' n' s'])]) ((4,0)::fs) K:=
 kD cx apps dsts l id' d e h fs K b n 1 2 48 _ _ (dL ..) rfl hn (by decide) (by decide)
theorem J4 (b n:Nat)(V:ah)(b' n':Nat)(s':Nat×Nat)(hn:n*1= (cl vC V).length):ju cx apps dsts l id' d e h fs K b n (1,46) 1 [.gv b' n' s'] (some (cl vC V)) =run cx apps dsts l id' (dR d (.gv h.length (n+1) (1,46)) e) (h.set b (some cM)++[some (cl vC V++[.gv b' n' s'])]) ((4,0)::fs) K:=
 kD cx apps dsts l id' d e h fs K b n 1 1 46 _ _ (dL ..) rfl hn (by decide) (by decide)
theorem J5 (b n:Nat)(n0 a0 m0:Nat)(V:bE)(x:dG)(hn:n*2= (fA n0 a0 m0 V).length):ju cx apps dsts l id' d e h fs K b n (2,48) 1 (cl aC [x]) (some (fA n0 a0 m0 V)) =run cx apps dsts l id' (dR d (.gv h.length (n+1) (2,48)) e) (h.set b (some cM)++[some (fA n0 a0 m0 V++[.val (str x.1),sl pC .no x.2])]) ((4,0)::fs) K:=
 kD cx apps dsts l id' d e h fs K b n 1 2 48 _ _ (Fp ..) rfl hn (by decide) (by decide)
theorem J6 (b n:Nat)(n0 a0 m0:Nat)(V:ah)(x:bE)(hn:n*1= (fV n0 a0 m0 V).length):ju cx apps dsts l id' d e h fs K b n (1,46) 1 (cl vC [x]) (some (fV n0 a0 m0 V)) =run cx apps dsts l id' (dR d (.gv h.length (n+1) (1,46)) e) (h.set b (some cM)++[some (fV n0 a0 m0 V++[sl aC .no x])]) ((4,0)::fs) K:=
 kD cx apps dsts l id' d e h fs K b n 1 1 46 _ _ (Fo ..) rfl hn (by decide) (by decide)
end
theorem mL (ρ:List Nat)(r:List C):∀l:List C,mvCs ρ (l++r) =mvCs ρ l++mvCs ρ r
 | [] =>rfl
 |x::l=>by simp only[List.cons_append,mvCs,mL ρ r l]
theorem Za (t:List UInt8)(n:Nat):mvCs [0,7,2,3,4,5] [.val (str t),.gv 2 n (7,37)] = [.val (str t),.gv 2 n (7,37)]:=rfl
theorem Zb (t:List UInt8)(l:List aI):mvCs [0,7,2,3,4,5] [.val (str t),sl pC .no l] = [.val (str t),sl pC .no l]:=by simp only[mvCs,jR,aU]
theorem Zc (n:Nat):mvCs [6,1,2,3,4] [.gv 1 n (2,48)] = [.gv 1 n (2,48)]:=rfl
theorem Zd (l:bE):mvCs [6,1,2,3,4] [sl aC .no l] = [sl aC .no l]:=by simp only[mvCs,jR]
theorem Vv (a0:Nat)(V:bE):bL a0 V V.length=cl pC (gt V a0).2:=by
 unfold bL;split
 . rename_i h
   have:gt V a0=default:=by unfold gt List.getD;rw[List.getElem?_eq_none h];rfl
   rw[this];rfl
 . rfl
theorem Vw (n v0 a0 m:Nat)(w:ah):bV n v0 a0 m w w.length=fA n a0 m (gt w v0):=by
 unfold bV;split
 . rename_i h
   have:gt w v0=default:=by unfold gt List.getD;rw[List.getElem?_eq_none h];rfl
   rw[this];rfl
 . rfl
theorem Vx (v0 a0:Nat)(w:ah):bA v0 a0 w w.length=cl pC (gt (gt w v0) a0).2:=by
 unfold bA;split
 . rename_i h
   have:gt w v0=default:=by unfold gt List.getD;rw[List.getElem?_eq_none h];rfl
   rw[this];rfl
 . rfl
attribute [go_sem] Aq Ar Fo Fp Vu yu Vs Vt J3 J4 J5 J6
theorem bg {p:Prop}(e:p:=by intro KZ hZ;simp -implicitDefEqProofs (maxSteps:=2000000) (disch:=first|omega| (simp only[go_sem,lA,lD,lT,hVl,hLl,hwl,List.length_take] <;>omega) |decide) only[go_sem,↓reduceIte,Nat.reduceEqDiff,reduceCtorEq,Nat.reduceLT,Nat.reduceBEq,Nat.reduceAdd,hVx,hLx,c1,c2,hy];with_reducible exact hZ):p:=e
theorem Pn {p:Prop}(e:p:=by simp -implicitDefEqProofs (disch:=first|omega| (simp only[go_sem,lA,lD,lT,hVl,hLl,hwl,List.length_take] <;>omega) |decide) only[go_sem,↓reduceIte,Nat.reduceEqDiff,reduceCtorEq];all_goals (rfl)):p:=e
theorem Ze {gl:Nat→C}{M:Nat}{pu:Nat→List C→Option C}(hcx:CxOK (ax gl M pu))(w:ah)(v0 a0:Nat)(hw:WG w):FC Tryd.prog gl 20 [.agg [sl vC .no w]] [] (.agg [.gv 0 w.length (1,46)]) [some (fV 0 v0 (gt w v0).length w),some (fA 0 a0 (gt (gt w v0) a0).2.length (gt w v0)),some (cl pC (gt (gt w v0) a0).2),some [.gv 0 w.length (1,46)]]:=by
 replace hcx:=hcx.reN (M:=87);refine gc (cx:=ax gl 87 pu) (rs:=[.cell 2 29]) rfl Tryd.func20 rfl rfl rfl (by simp only[List.length_cons,List.length_nil];decide) ?_;simp only[bj,go_sem];have ⟨c1,c2,hy⟩:=ia;have hwl:=hw.n;have ⟨hVx,hLx,hVl,hLl⟩:=jd;refine Tr.w hcx [] _ [none,none] rfl rfl rfl ?_ bg;refine aL hcx 0 [sl vC .no w] ?_;refine Tr.w hcx [] _ [none] rfl rfl rfl ?_ bg;refine aa fun K1 hK1=>?_;refine Tr.w hcx [] _ [] rfl rfl rfl ?_ bg;refine Tr.k [1,2,3,4] ?_;refine Tr.blk ?_;refine Tr.k [1,2,3,4] ?_;refine aW hcx [1,2] ?_;refine Tr.virt ?_;refine Tr.virt ?_;refine Tr.virt ?_;simp only[List.cons_append,List.nil_append];refine Tr.bxc 1 0 (.gv 2 0 (1,46)) _ rfl rfl (rY ..) rfl ?_;simp only[List.set_cons_succ,List.set_cons_zero];refine aW hcx [2,3,4,0,1] ?_;refine ao (α:=Nat) (fun a=>[(1,?v1_1),(2,?v2_1),(3,?v3_1),(4,.val (nI a))]) (fun a=>[some (fV 0 v0 (gt w v0).length (w.take a)),some (bV 0 v0 a0 (gt (gt w v0) a0).2.length w a),some (bA v0 a0 w a),some [.val (.slice none 0 0)],some [.gv 0 a (1,46)]]) (fun a=>a≤w.length) (fun a=>w.length - a) (0) (Nat.zero_le _) ?le_1 ?hh_1 ?bd_1
 case hh_1=>exact rfl
 case le_1=>exact LT
 rintro i hi;refine aa fun K2 hK2=>?_;refine Tr.w hcx [] _ [] rfl rfl rfl ?_ bg;refine af rfl (fun hc15=>?_) (fun hc15=>?_)
 ·
  obtain ⟨V,hV⟩:∃V,gt w i=V:=⟨_,rfl⟩;have hVx:=hV;have hwv:=(hw.v _ (bc w i hc15));rw[hV] at hwv;have hVl:=hwv.1;refine Tr.skip ?_;refine hK2 _ ?_;refine aa fun K3 hK3=>?_;refine Tr.blk ?_;by_cases c1:i=v0
  ·
   subst c1;have c1:=True.intro;simp only[acV,acW,Fq,hV];refine Tr.w hcx [] _ [none] rfl rfl rfl ?_ bg;refine aa fun K4 hK4=>?_;refine Tr.w hcx [] _ [] rfl rfl rfl ?_ bg;refine Tr.k [1,2,3,4,5,6] ?_;refine Tr.blk ?_;refine Tr.bxc 5 0 (.gv 1 0 (2,48)) _ rfl rfl (rY ..) rfl ?_;simp only[List.set_cons_succ,List.set_cons_zero];refine ao (α:=Nat) (fun a=>[(1,?v1_2),(2,?v2_2),(3,?v3_2),(4,?v4_2),(5,?v5_2),(6,.val (nI a))]) (fun a=>[some (cl vC (w.take i)),some (fA 0 a0 (gt V a0).2.length (V.take a)),some (bL a0 V a),some [.val (.slice none 0 0)],some [.gv 0 i (1,46)],some [.gv 1 a (2,48)]]) (fun a=>a≤V.length) (fun a=>V.length - a) (0) (Nat.zero_le _) ?le_2 ?hh_2 ?bd_2
   case hh_2=>exact rfl
   case le_2=>exact LT
   rintro k hk;refine aa fun K5 hK5=>?_;refine Tr.w hcx [] _ [] rfl rfl rfl ?_ bg;refine af rfl (fun hc26=>?_) (fun hc26=>?_)
   ·
    obtain ⟨L,hL⟩:∃L,(gt V k).2=L:=⟨_,rfl⟩;have hLx:=hL;have hwa:=hwv.2 _ (bc V k hc26);rw[hL] at hwa;have hLl:=hwa.2.1;refine Tr.skip ?_;refine hK5 _ ?_;refine Tr.k [1,2,3,4,5,6] ?_;refine aa fun K6 hK6=>?_;refine Tr.blk ?_;by_cases c2:k=a0
    ·
     subst c2;have c2:=True.intro;simp only[acX,Fr,hL];skip;refine Tr.w hcx [] _ [none] rfl rfl rfl ?_ bg;refine Tr.k [1,2,3,4,5,6,7] ?_;refine Tr.w hcx [1000049] _ [] rfl rfl rfl ?_ bg;refine aa fun K7 hK7=>?_;refine Tr.w hcx [] _ [] rfl rfl rfl ?_ bg;refine Tr.k [1,2,3,4,5,6,7,8,9] ?_;refine Tr.blk ?_;refine Tr.bxc 6 1 (.gv 2 0 (7,37)) _ rfl rfl (rY ..) rfl ?_;simp only[List.set_cons_succ,List.set_cons_zero];refine ao (α:=Nat) (fun a=>[(1,?v1_3),(2,?v2_3),(3,?v3_3),(4,?v4_3),(5,?v5_3),(6,?v6_3),(7,?v7_3),(8,?v8_3),(9,.val (nI a))]) (fun a=>[some (cl vC (w.take i)),some (cl aC (V.take k)),some (cl pC (L.take a)),some [.val (.slice none 0 0)],some [.gv 0 i (1,46)],some [.gv 1 k (2,48)],some [.val (str (gt V k).1),.gv 2 a (7,37)]]) (fun a=>a≤L.length) (fun a=>L.length - a) (0) (Nat.zero_le _) ?le_3 ?hh_3 ?bd_3
     case hh_3=>exact rfl
     case le_3=>exact LT
     rintro j hj;refine aa fun K8 hK8=>?_;refine Tr.w hcx [] _ [] rfl rfl rfl ?_ bg;refine af rfl (fun hc53=>?_) (fun hc53=>?_)
     ·
      have hPg:=(hwa.2.2 _ (bc L j hc53)).2.1;refine Tr.skip ?_;refine hK8 _ ?_;refine aa fun K9 hK9=>?_;refine Tr.blk ?_;refine Tr.w hcx [] _ [none] rfl rfl rfl ?_ bg;refine Tr.w hcx [60] _ [] rfl rfl rfl ?_ bg;refine Tr.k [1,2,3,4,5,6,7,8,9,10] ?_;refine Tr.bxc 7 6 (sl iD .no (gt L j).2.2.2.2) ((pC (gt L j)).set 6 (sl iD (.own 3) (gt L j).2.2.2.2)) rfl rfl (CLe.noR (sl iD (.own 3) _)) rfl ?_;simp only[uV];simp only[List.set_cons_succ,List.set_cons_zero];refine s9 hcx [72] [69] _ [] rfl rfl rfl ?_ bg;refine hK9 _ ?_;refine Tr.k [1,2,3,4,5,6,7,8,9] ?_;refine aW hcx [0,1,8,3,4,5,6] ?_;refine Tr.v hcx [1000055] _ [] rfl rfl rfl ?_ bg;exact ⟨j+1,⟨(by omega),O1⟩,LT,by simp only[eX L _ hc53,List.length_take,Nat.min_eq_left (show j+1≤L.length by omega)]⟩
     refine Tr.exit ?_;refine hK7 _ ?_;obtain rfl:j=L.length:=by omega
     rw[List.take_length];refine s9 hcx [78] [75] _ [] rfl rfl rfl ?_ bg;refine hK6 _ ?_;refine Tr.k [1,2,3,4,5,6] ?_;refine aW hcx [0,7,2,3,4,5] ?_;simp only[mL,c9,Za];refine Tr.v hcx [1000028] _ [] rfl rfl rfl ?_ bg;exact ⟨k+1,⟨(by omega),O1⟩,LT,by simp only[←Vo hc26,ac0,Fr,hLx] <;>rfl⟩
    skip;skip;refine Tr.w hcx [] _ [none] rfl rfl rfl ?_ bg;refine Tr.k [1,2,3,4,5,6,7] ?_;refine Tr.w hcx [1000049] _ [] rfl rfl rfl ?_ bg;refine aa fun K10 hK10=>?_;refine Tr.w hcx [] _ [] rfl rfl rfl ?_ bg;refine Tr.k [1,2,3,4,5,6,7,8,9] ?_;refine Tr.blk ?_;refine Tr.bxc 6 1 (sl pC (.own 7) []) _ rfl rfl (ay rfl) rfl ?_;simp only[List.set_cons_succ,List.set_cons_zero];refine ao (α:=Nat) (fun a=>[(1,?v1_4),(2,?v2_4),(3,?v3_4),(4,?v4_4),(5,?v5_4),(6,?v6_4),(7,?v7_4),(8,?v8_4),(9,.val (nI a))]) (fun a=>[some (cl vC (w.take i)),some (fA 0 a0 (gt V a0).2.length (V.take k)),some (bL a0 V k),some [.val (.slice none 0 0)],some [.gv 0 i (1,46)],some [.gv 1 k (2,48)],some [.val (str (gt V k).1),sl pC (.own 7) (L.take a)]]) (fun a=>a≤L.length) (fun a=>L.length - a) (0) (Nat.zero_le _) ?le_4 ?hh_4 ?bd_4
    case hh_4=>exact rfl
    case le_4=>exact LT
    rintro j hj;refine aa fun K11 hK11=>?_;refine Tr.w hcx [] _ [] rfl rfl rfl ?_ bg;refine af rfl (fun hc53=>?_) (fun hc53=>?_)
    ·
     have hPg:=(hwa.2.2 _ (bc L j hc53)).2.1;refine Tr.skip ?_;refine hK11 _ ?_;refine aa fun K12 hK12=>?_;refine Tr.blk ?_;refine Tr.w hcx [] _ [none] rfl rfl rfl ?_ bg;refine Tr.w hcx [60] _ [] rfl rfl rfl ?_ bg;refine Tr.k [1,2,3,4,5,6,7,8,9,10] ?_;refine Tr.bxc 7 6 (sl iD .no (gt L j).2.2.2.2) ((pC (gt L j)).set 6 (sl iD (.own 3) (gt L j).2.2.2.2)) rfl rfl (CLe.noR (sl iD (.own 3) _)) rfl ?_;simp only[uV];simp only[List.set_cons_succ,List.set_cons_zero];refine Tr.v hcx [69] _ [] rfl rfl rfl ?_ bg;refine hK12 _ ?_;refine Tr.k [1,2,3,4,5,6,7,8,9] ?_;refine aW hcx [0,1,2,3,4,5,6] ?_;simp only[tM (ρ:=[0,1,2,3,4,5,6]) (n:=0) (fun _=>rfl),Cf (ρ:=[0,1,2,3,4,5,6])];refine Tr.v hcx [1000055] _ [] rfl rfl rfl ?_ bg;exact ⟨j+1,⟨(by omega),O1⟩,LT,by simp only[←eX L _ hc53] <;>rfl⟩
    refine Tr.exit ?_;refine hK10 _ ?_;obtain rfl:j=L.length:=by omega
    rw[List.take_length];refine s9 hcx [78] [75] _ [] rfl rfl rfl ?_ bg;refine hK6 _ ?_;refine Tr.k [1,2,3,4,5,6] ?_;refine aW hcx [0,7,2,3,4,5] ?_;simp only[mL,Zb,Cf,tM (ρ:=[0,7,2,3,4,5]) (n:=0) (fun _=>rfl)];refine Tr.v hcx [1000028] _ [] rfl rfl rfl ?_ bg;exact ⟨k+1,⟨(by omega),O1⟩,LT,by simp only[←Vn hc26 c2,Vr c2,hLx] <;>rfl⟩
   refine Tr.exit ?_;refine hK4 _ ?_;obtain rfl:k=V.length:=by omega
   rw[List.take_length];refine s9 hcx [84] [81] _ [] rfl rfl rfl ?_ bg;refine hK3 _ ?_;refine Tr.k [1,2,3,4] ?_;refine aW hcx [6,1,2,3,4] ?_;simp only[mL,c9,Zc,Cf,tM (ρ:=[6,1,2,3,4]) (n:=0) (fun _=>rfl)];refine Tr.v hcx [1000017] _ [] rfl rfl rfl ?_ bg;exact ⟨i+1,⟨(by omega),O1⟩,LT,by simp only[←Vm hc15,acY,acZ,Fq,Vv,hVx] <;>rfl⟩
  skip;refine Tr.w hcx [] _ [none] rfl rfl rfl ?_ bg;refine aa fun K13 hK13=>?_;refine Tr.w hcx [] _ [] rfl rfl rfl ?_ bg;refine Tr.k [1,2,3,4,5,6] ?_;refine Tr.blk ?_;refine Tr.bxc 5 0 (sl aC (.own 2) []) _ rfl rfl (ay rfl) rfl ?_;simp only[List.set_cons_succ,List.set_cons_zero];refine ao (α:=Nat) (fun a=>[(1,?v1_5),(2,?v2_5),(3,?v3_5),(4,?v4_5),(5,?v5_5),(6,.val (nI a))]) (fun a=>[some (fV 0 v0 (gt w v0).length (w.take i)),some (bV 0 v0 a0 (gt (gt w v0) a0).2.length w i),some (bA v0 a0 w i),some [.val (.slice none 0 0)],some [.gv 0 i (1,46)],some [sl aC (.own 2) (V.take a)]]) (fun a=>a≤V.length) (fun a=>V.length - a) (0) (Nat.zero_le _) ?le_5 ?hh_5 ?bd_5
  case hh_5=>exact rfl
  case le_5=>exact LT
  rintro k hk;refine aa fun K14 hK14=>?_;refine Tr.w hcx [] _ [] rfl rfl rfl ?_ bg;refine af rfl (fun hc26=>?_) (fun hc26=>?_)
  ·
   obtain ⟨L,hL⟩:∃L,(gt V k).2=L:=⟨_,rfl⟩;have hLx:=hL;have hwa:=hwv.2 _ (bc V k hc26);rw[hL] at hwa;have hLl:=hwa.2.1;refine Tr.skip ?_;refine hK14 _ ?_;refine Tr.k [1,2,3,4,5,6] ?_;refine aa fun K15 hK15=>?_;refine Tr.blk ?_;have c2:=True.intro;refine Tr.w hcx [] _ [none] rfl rfl rfl ?_ bg;refine Tr.k [1,2,3,4,5,6,7] ?_;refine Tr.w hcx [1000049] _ [] rfl rfl rfl ?_ bg;refine aa fun K16 hK16=>?_;refine Tr.w hcx [] _ [] rfl rfl rfl ?_ bg;refine Tr.k [1,2,3,4,5,6,7,8,9] ?_;refine Tr.blk ?_;refine Tr.bxc 6 1 (sl pC (.own 7) []) _ rfl rfl (ay rfl) rfl ?_;simp only[List.set_cons_succ,List.set_cons_zero];refine ao (α:=Nat) (fun a=>[(1,?v1_6),(2,?v2_6),(3,?v3_6),(4,?v4_6),(5,?v5_6),(6,?v6_6),(7,?v7_6),(8,?v8_6),(9,.val (nI a))]) (fun a=>[some (fV 0 v0 (gt w v0).length (w.take i)),some (bV 0 v0 a0 (gt (gt w v0) a0).2.length w i),some (bA v0 a0 w i),some [.val (.slice none 0 0)],some [.gv 0 i (1,46)],some [sl aC (.own 2) (V.take k)],some [.val (str (gt V k).1),sl pC (.own 7) (L.take a)]]) (fun a=>a≤L.length) (fun a=>L.length - a) (0) (Nat.zero_le _) ?le_6 ?hh_6 ?bd_6
   case hh_6=>exact rfl
   case le_6=>exact LT
   rintro j hj;refine aa fun K17 hK17=>?_;refine Tr.w hcx [] _ [] rfl rfl rfl ?_ bg;refine af rfl (fun hc53=>?_) (fun hc53=>?_)
   ·
    have hPg:=(hwa.2.2 _ (bc L j hc53)).2.1;refine Tr.skip ?_;refine hK17 _ ?_;refine aa fun K18 hK18=>?_;refine Tr.blk ?_;refine Tr.w hcx [] _ [none] rfl rfl rfl ?_ bg;refine Tr.w hcx [60] _ [] rfl rfl rfl ?_ bg;refine Tr.k [1,2,3,4,5,6,7,8,9,10] ?_;refine Tr.bxc 7 6 (sl iD .no (gt L j).2.2.2.2) ((pC (gt L j)).set 6 (sl iD (.own 3) (gt L j).2.2.2.2)) rfl rfl (CLe.noR (sl iD (.own 3) _)) rfl ?_;simp only[uV];simp only[List.set_cons_succ,List.set_cons_zero];refine Tr.v hcx [69] _ [] rfl rfl rfl ?_ bg;refine hK18 _ ?_;refine Tr.k [1,2,3,4,5,6,7,8,9] ?_;refine aW hcx [0,1,2,3,4,5,6] ?_;simp only[wu (ρ:=[0,1,2,3,4,5,6]) (n:=0) (fun _=>rfl),Cd (ρ:=[0,1,2,3,4,5,6]) (n:=0) (fun _=>rfl),Ce (ρ:=[0,1,2,3,4,5,6])];refine Tr.v hcx [1000055] _ [] rfl rfl rfl ?_ bg;exact ⟨j+1,⟨(by omega),O1⟩,LT,by simp only[←eX L _ hc53] <;>rfl⟩
   refine Tr.exit ?_;refine hK16 _ ?_;obtain rfl:j=L.length:=by omega
   rw[List.take_length];refine Tr.v hcx [75] _ [] rfl rfl rfl ?_ bg;refine hK15 _ ?_;refine Tr.k [1,2,3,4,5,6] ?_;refine aW hcx [0,1,2,3,4,5] ?_;simp only[wu (ρ:=[0,1,2,3,4,5]) (n:=0) (fun _=>rfl),Cd (ρ:=[0,1,2,3,4,5]) (n:=0) (fun _=>rfl),Ce (ρ:=[0,1,2,3,4,5])];refine Tr.v hcx [1000028] _ [] rfl rfl rfl ?_ bg;exact ⟨k+1,⟨(by omega),O1⟩,LT,by simp only[←eX V _ hc26,←hL] <;>rfl⟩
  refine Tr.exit ?_;refine hK13 _ ?_;obtain rfl:k=V.length:=by omega
  rw[List.take_length];refine s9 hcx [84] [81] _ [] rfl rfl rfl ?_ bg;refine hK3 _ ?_;refine Tr.k [1,2,3,4] ?_;refine aW hcx [6,1,2,3,4] ?_;simp only[mL,Zd,Ce,Cd (ρ:=[6,1,2,3,4]) (n:=0) (fun _=>rfl),wu (ρ:=[6,1,2,3,4]) (n:=0) (fun _=>rfl)];refine Tr.v hcx [1000017] _ [] rfl rfl rfl ?_ bg;exact ⟨i+1,⟨(by omega),O1⟩,LT,by simp only[←Vl hc15 c1,Vp c1,Vq c1,hVx] <;>rfl⟩
 refine Tr.exit ?_;refine hK1 _ ?_;obtain rfl:i=w.length:=by omega
 rw[List.take_length];refine Tr.w hcx [] _ [] rfl rfl rfl ?_ bg;refine Tr.k [2] ?_;refine aW hcx [0,1,2,3] ?_;simp only[Vw,Vx];simp only[wu (ρ:=[0,1,2,3]) (n:=0) (fun _=>rfl),tM (ρ:=[0,1,2,3]) (n:=0) (fun _=>rfl),c9];exact Tr.ret Pn
theorem lE {l:List C}{k:Nat}{x:C}(h:k< l.length)(hx:x.noR=x):cb (l.set k x) k=some x:=by
 unfold cb;rw[List.getElem?_set_self h];simp[hx]
theorem tN {l:List C}{k j:Nat}{x:C}(h:¬j=k):cb (l.set k x) j=cb l j:=by
 unfold cb;rw[List.getElem?_set_ne (fun e=>h e.symm)]
theorem qw {n m i:Nat}{w:ah}(h:i< w.length):cb (fV n i m w) i=some (.gv (n+1) m (2,48)):=lE (by rw[aD (f:=vC),Nat.mul_one];exact h) rfl
theorem Ft {n v0 m i:Nat}{w:ah}(h:i< w.length)(c:¬i=v0):cb (fV n v0 m w) i=some (sl aC .no (gt w i)):=(tN c).trans (tA w i h)
theorem vQ {n m k:Nat}{V:bE}(h:k< V.length):cb (fA n k m V) (k*2+1) =some (.gv (n+2) m (7,37)):=lE (by rw[aD (f:=aC)];omega) rfl
theorem Fu {n a0 m k:Nat}{V:bE}(h:k< V.length)(c:¬k=a0):cb (fA n a0 m V) (k*2+1) =some (sl pC .no (gt V k).2):=(tN (by omega)).trans (tz V k h)
theorem Zf (k n v0 m:Nat)(w:ah)(h:n+1< k):noRefs k (fV n v0 m w) =true:=j4 k _ (by simp[ae,h]) _ _ (bQ vC k w)
theorem Zg (k n v0 m:Nat)(w:bE)(h:n+2< k):noRefs k (fA n v0 m w) =true:=j4 k _ (by simp[ae,h]) _ _ (bQ aC k w)
theorem uW {v0 m a0 m2:Nat}(w:ah)(V:bE)(l:List aI)(k:Nat)(h:2< k):jG k [some (fV 0 v0 m w),some (fA 0 a0 m2 V),some (cl pC l)] =true:=by
 simp only[jG,Zf k 0 v0 m w (by omega),Zg k 0 a0 m2 V (by omega),bQ pC k l,Bool.and_self]
theorem dM {p:Prop}(e:p:=by intro KZ hZ;simp -implicitDefEqProofs (maxSteps:=2000000) (disch:=first|omega| (simp only[go_sem,lA,lD,lT,hVl,hwl] <;>omega) |decide) only[go_sem,↓reduceIte,Nat.reduceEqDiff,reduceCtorEq,Nat.reduceLT,Nat.reduceBEq,Nat.reduceAdd,hVV,hR,hR2,c1,c2,hy];with_reducible exact hZ):p:=e
theorem Po {p:Prop}(e:p:=by simp -implicitDefEqProofs (disch:=first|omega| (simp only[go_sem,lA,lD,lT,hVl,hwl] <;>omega) |decide) only[go_sem,↓reduceIte,Nat.reduceEqDiff,reduceCtorEq];all_goals (exact ⟨rfl,rfl⟩)):p:=e
theorem Zh {gl:Nat→C}{M:Nat}{pu:Nat→List C→Option C}(hcx:CxOK (ax gl M pu))(w:ah)(v0 a0:Nat)(hw:WG w):FC Tryd.prog gl 14 [.agg [.gv 0 w.length (1,46)]] [some (fV 0 v0 (gt w v0).length w),some (fA 0 a0 (gt (gt w v0) a0).2.length (gt w v0)),some (cl pC (gt (gt w v0) a0).2)] (sl pC (.own 7) (cm w)) [some (fV 0 v0 (gt w v0).length w),some (fA 0 a0 (gt (gt w v0) a0).2.length (gt w v0)),some (cl pC (gt (gt w v0) a0).2)]:=by
 replace hcx:=hcx.reN (M:=37);refine n5 (cx:=ax gl 37 pu) (rs:=[.tmp 2]) rfl Tryd.func14 rfl rfl rfl (by simp only[List.length_cons,List.length_nil];decide) (by simp only[go_sem]) (uW _ _ _ 3 (by decide)) ?_;simp only[bj,go_sem];have ⟨c1,c2,hy⟩:=ia;have hwl:=hw.n;have hal:=hw.al;have ⟨hVV,hVl,hR,hR2⟩:=jd;refine Tr.w hcx [] _ [none] rfl rfl rfl ?_ dM;refine Tr.w hcx [] _ [] rfl rfl rfl ?_ dM;refine aa fun K1 hK1=>?_;refine Tr.w hcx [] _ [] rfl rfl rfl ?_ dM;refine Tr.k [1,3,4] ?_;refine Tr.blk ?_;refine ao (α:=Nat) (fun a=>[(1,?v1_1),(3,sl pC (.own 7) (pV w a)),(4,.val (nI a))]) (fun a=>[some (fV 0 v0 (gt w v0).length w),some (fA 0 a0 (gt (gt w v0) a0).2.length (gt w v0)),some (cl pC (gt (gt w v0) a0).2),some [.gv 0 w.length (1,46)]]) (fun a=>a≤w.length) (fun a=>w.length - a) (0) (Nat.zero_le _) ?le_1 ?hh_1 ?bd_1
 case hh_1=>exact rfl
 case le_1=>exact LT
 rintro v hv;have hp:=wp w v;refine aa fun K2 hK2=>?_;refine Tr.w hcx [] _ [] rfl rfl rfl ?_ dM;refine af rfl (fun hc10=>?_) (fun hc10=>?_)
 ·
  obtain ⟨V,hV⟩:∃V,gt w v=V:=⟨_,rfl⟩;have hVV:=hV;have hwv:=hw.v _ (bc w v hc10);rw[hV] at hwv;have hVl:=hwv.1;refine Tr.skip ?_;refine hK2 _ ?_;refine aa fun K3 hK3=>?_;refine Tr.blk ?_;by_cases c1:v=v0
  ·
   subst c1;have c1:=True.intro;simp only[hV];have hR:=qw (n:=0) (m:=V.length) hc10;refine Tr.w hcx [] _ [] rfl rfl rfl ?_ dM;refine Tr.k [1,3,4,5] ?_;refine Tr.blk ?_;refine ao (α:=Nat) (fun a=>[(1,?v1_2),(3,sl pC (.own 7) (pV w v++pA V a)),(4,?v4_2),(5,.val (nI a))]) (fun a=>[some (fV 0 v V.length w),some (fA 0 a0 (gt V a0).2.length V),some (cl pC (gt V a0).2),some [.gv 0 w.length (1,46)]]) (fun a=>a≤V.length) (fun a=>V.length - a) (0) (Nat.zero_le _) ?le_2 ?hh_2 ?bd_2
   case hh_2=>exact rfl
   case le_2=>(simp only[aX,aK,↓aT,↓reduceIte,Nat.reduceEqDiff,aE,aM,aF,aN,aO,and_true,true_and];all_goals (repeat' first|exact CLe.refl _|exact True.intro| (refine ay ?_;first|rfl| (simp only[List.take_zero];done)) |exact aV (by omega) |exact aB (by omega) |exact aJ (by omega) |exact aP (by omega) |with_reducible apply And.intro));all_goals (first|exact CLe.refl _| (rw[show pA V 0= [] from rfl,List.append_nil];exact CLe.refl _))
   rintro k hk;have hp2:=tE w v (k+1) hc10;rw[hV] at hp2;refine aa fun K4 hK4=>?_;refine Tr.w hcx [] _ [] rfl rfl rfl ?_ dM;refine af rfl (fun hc21=>?_) (fun hc21=>?_)
   ·
    have hAk:=(hwv.2 _ (bc V k hc21)).2.1;rw[qq V k hc21,List.length_append] at hp2;refine Tr.skip ?_;refine hK4 _ ?_;refine aa fun K5 hK5=>?_;refine Tr.blk ?_;by_cases c2:k=a0
    ·
     subst c2;have c2:=True.intro;have hR2:=vQ (n:=0) (m:=(gt V k).2.length) hc21;skip;refine Tr.v hcx [24,1000035] _ [] rfl rfl rfl ?_ dM;refine hK5 _ ?_;refine Tr.k [1,3,4,5] ?_;refine Tr.v hcx [1000023] _ [] rfl rfl rfl ?_ dM;refine ⟨k+1,⟨(by omega),O1⟩,?_,rfl⟩
     (simp only[aX,aK,↓aT,↓reduceIte,Nat.reduceEqDiff,aE,aM,aF,aN,aO,and_true,true_and];all_goals (repeat' first|exact CLe.refl _|exact True.intro| (refine ay ?_;first|rfl| (simp only[List.take_zero];done)) |exact aV (by omega) |exact aB (by omega) |exact aJ (by omega) |exact aP (by omega) |with_reducible apply And.intro))
     all_goals (first| (rw[qq V k hc21,List.append_assoc];exact CLe.refl _) |exact CLe.refl _)
    have hR2:=Fu (n:=0) (m:=(gt V a0).2.length) hc21 c2;skip;refine Tr.v hcx [24,1000035] _ [] rfl rfl rfl ?_ dM;refine hK5 _ ?_;refine Tr.k [1,3,4,5] ?_;refine Tr.v hcx [1000023] _ [] rfl rfl rfl ?_ dM;refine ⟨k+1,⟨(by omega),O1⟩,?_,rfl⟩
    (simp only[aX,aK,↓aT,↓reduceIte,Nat.reduceEqDiff,aE,aM,aF,aN,aO,and_true,true_and];all_goals (repeat' first|exact CLe.refl _|exact True.intro| (refine ay ?_;first|rfl| (simp only[List.take_zero];done)) |exact aV (by omega) |exact aB (by omega) |exact aJ (by omega) |exact aP (by omega) |with_reducible apply And.intro))
    all_goals (first| (rw[qq V k hc21,List.append_assoc];exact CLe.refl _) |exact CLe.refl _)
   obtain rfl:k=V.length:=by omega
   refine Tr.exit ?_;refine hK3 _ ?_;refine Tr.v hcx [1000012] _ [] rfl rfl rfl ?_ dM;refine ⟨v+1,⟨(by omega),O1⟩,?_,by simp only[hV]⟩
   (simp only[aX,aK,↓aT,↓reduceIte,Nat.reduceEqDiff,aE,aM,aF,aN,aO,and_true,true_and];all_goals (repeat' first|exact CLe.refl _|exact True.intro| (refine ay ?_;first|rfl| (simp only[List.take_zero];done)) |exact aV (by omega) |exact aB (by omega) |exact aJ (by omega) |exact aP (by omega) |with_reducible apply And.intro))
   all_goals (first| (rw[uQ w v hc10,hV];exact CLe.refl _) |exact CLe.refl _)
  have hR:=Ft (n:=0) (m:=(gt w v0).length) hc10 c1;rw[hV] at hR;refine Tr.w hcx [] _ [] rfl rfl rfl ?_ dM;refine Tr.k [1,3,4,5] ?_;refine Tr.blk ?_;refine ao (α:=Nat) (fun a=>[(1,?v1_3),(3,sl pC (.own 7) (pV w v++pA V a)),(4,?v4_3),(5,.val (nI a))]) (fun a=>[some (fV 0 v0 (gt w v0).length w),some (fA 0 a0 (gt (gt w v0) a0).2.length (gt w v0)),some (cl pC (gt (gt w v0) a0).2),some [.gv 0 w.length (1,46)]]) (fun a=>a≤V.length) (fun a=>V.length - a) (0) (Nat.zero_le _) ?le_3 ?hh_3 ?bd_3
  case hh_3=>exact rfl
  case le_3=>(simp only[aX,aK,↓aT,↓reduceIte,Nat.reduceEqDiff,aE,aM,aF,aN,aO,and_true,true_and];all_goals (repeat' first|exact CLe.refl _|exact True.intro| (refine ay ?_;first|rfl| (simp only[List.take_zero];done)) |exact aV (by omega) |exact aB (by omega) |exact aJ (by omega) |exact aP (by omega) |with_reducible apply And.intro));all_goals (first|exact CLe.refl _| (rw[show pA V 0= [] from rfl,List.append_nil];exact CLe.refl _))
  rintro k hk;have hp2:=tE w v (k+1) hc10;rw[hV] at hp2;refine aa fun K6 hK6=>?_;refine Tr.w hcx [] _ [] rfl rfl rfl ?_ dM;refine af rfl (fun hc21=>?_) (fun hc21=>?_)
  ·
   have hAk:=(hwv.2 _ (bc V k hc21)).2.1;rw[qq V k hc21,List.length_append] at hp2;refine Tr.skip ?_;refine hK6 _ ?_;refine aa fun K7 hK7=>?_;refine Tr.blk ?_;have c2:=True.intro;refine Tr.v hcx [24,1000035] _ [] rfl rfl rfl ?_ dM;refine hK7 _ ?_;refine Tr.k [1,3,4,5] ?_;refine Tr.v hcx [1000023] _ [] rfl rfl rfl ?_ dM;refine ⟨k+1,⟨(by omega),O1⟩,?_,rfl⟩
   (simp only[aX,aK,↓aT,↓reduceIte,Nat.reduceEqDiff,aE,aM,aF,aN,aO,and_true,true_and];all_goals (repeat' first|exact CLe.refl _|exact True.intro| (refine ay ?_;first|rfl| (simp only[List.take_zero];done)) |exact aV (by omega) |exact aB (by omega) |exact aJ (by omega) |exact aP (by omega) |with_reducible apply And.intro))
   all_goals (first| (rw[qq V k hc21,List.append_assoc];exact CLe.refl _) |exact CLe.refl _)
  obtain rfl:k=V.length:=by omega
  refine Tr.exit ?_;refine hK3 _ ?_;refine Tr.v hcx [1000012] _ [] rfl rfl rfl ?_ dM;refine ⟨v+1,⟨(by omega),O1⟩,?_,rfl⟩
  (simp only[aX,aK,↓aT,↓reduceIte,Nat.reduceEqDiff,aE,aM,aF,aN,aO,and_true,true_and];all_goals (repeat' first|exact CLe.refl _|exact True.intro| (refine ay ?_;first|rfl| (simp only[List.take_zero];done)) |exact aV (by omega) |exact aB (by omega) |exact aJ (by omega) |exact aP (by omega) |with_reducible apply And.intro))
  all_goals (first| (rw[uQ w v hc10,hV];exact CLe.refl _) |exact CLe.refl _)
 obtain rfl:v=w.length:=by omega
 rw[←qr];refine Tr.exit ?_;refine hK1 _ ?_;refine Tr.w hcx [1000036] _ [] rfl rfl rfl ?_ dM;exact Tr.ret Po
theorem yx {l:List C}{k:Nat}{x:C}(h:k< l.length)(hx:x.noR=x):eA (l.set k x) k 1=some (.agg [x]):=by
 unfold eA;rw[if_pos (by rw[List.length_set];omega),List.drop_eq_getElem_cons (by rw[List.length_set];exact h),List.take_succ_cons,List.take_zero,List.getElem_set_self];simp[hx]
theorem Fv {n m i:Nat}{w:ah}(h:i< w.length):eA (fV n i m w) i 1=some (.agg [.gv (n+1) m (2,48)]):=yx (by rw[aD (f:=vC),Nat.mul_one];exact h) rfl
end Go.Sx
namespace Go.Sx
open Go.RowKit
mutual
theorem Lg {r:Nat→Nat}{k:Nat}(hr:∀i,i< k→r i=i):∀c:C,ae k c=true→bZ r c=c
 | .val _,_=>by simp only[bZ]
 | .top,_=>by simp only[bZ]
 | .agg xs,h=>by simp only[ae] at h;simp only[bZ,bks_id hr xs h]
 | .tup xs,h=>by simp only[ae] at h;simp only[bZ,bks_id hr xs h]
 | .kp xs,h=>by simp only[ae] at h;simp only[bZ,bks_id hr xs h]
 | .sl _ _ xs,h=>by simp only[ae] at h;simp only[bZ,bks_id hr xs h]
 | .fn _ xs,h=>by simp only[ae] at h;simp only[bZ,bks_id hr xs h]
 | .sv _ _ _,h=>by simp only[ae,decide_eq_true_eq] at h;simp only[bZ,hr _ h]
 | .gv _ _ _,h=>by simp only[ae,decide_eq_true_eq] at h;simp only[bZ,hr _ h]
 | .bp _ _,h=>by simp only[ae,decide_eq_true_eq] at h;simp only[bZ,hr _ h]
 | .bt _ _ _,h=>by simp only[ae,decide_eq_true_eq] at h;simp only[bZ,hr _ h]
 | .mp _,h=>by simp only[ae,decide_eq_true_eq] at h;simp only[bZ,hr _ h]
theorem bks_id {r:Nat→Nat}{k:Nat}(hr:∀i,i< k→r i=i):∀l:List C,noRefs k l=true→bkCs r l=l
 | [],_=>by simp only[bkCs]
 |x::xs,h=>by simp only[noRefs,Bool.and_eq_true] at h;simp only[bkCs,Lg hr x h.1,bks_id hr xs h.2]
end
theorem th {r:Nat→Nat}{k:Nat}(hr:∀i,i< k→r i=i):∀h:Hp,jG k h=true→h.map (Option.map (bkCs r)) =h
 | [],_=>rfl
 |none::h,q=>by simp only[jG] at q;simp only[List.map_cons,Option.map_none,th hr h q]
 |some c::h,q=>by simp only[jG,Bool.and_eq_true] at q;simp only[List.map_cons,Option.map_some,bks_id hr c q.1,th hr h q.2]
noncomputable def hpS (hp:Nat→List C→Hp→Option (C×Hp))(f:Nat)(az:List C)(X:Hp)(r:C×Hp):Nat→List C→Hp→Option (C×Hp):=fun g xs h=>open Classical in if g=f∧xs=az∧h.take X.length=X∧OkH (h.drop X.length) then some (r.1,r.2++h.drop X.length) else hp g xs h
theorem n8 (hp:Nat→List C→Hp→Option (C×Hp))(f:Nat)(az:List C)(X:Hp)(r:C×Hp)(suf:Hp)(hs:OkH suf):hpS hp f az X r f az (X++suf) =some (r.1,r.2++suf):=by
 unfold hpS;rw[if_pos ⟨rfl,rfl,by simp,by simpa using hs⟩];simp
theorem Jk (hp:Nat→List C→Hp→Option (C×Hp)){f g:Nat}(az:List C)(X:Hp)(r:C×Hp)(h:g≠f)(xs:List C)(h':Hp):hpS hp f az X r g xs h'=hp g xs h':=by unfold hpS;rw[if_neg fun e=>h e.1]
theorem ql {P:Program}{gl:Nat→C}{km:TypeId→Value→Bool}{pu:Nat→List C→Option C}{hp:Nat→List C→Hp→Option (C×Hp)}{N M:Nat}(hcx:CxOK ⟨P,N,gl,pu,hp,fun _=>false,km,true⟩){f:Nat}{az:List C}{X:Hp}{r:C×Hp}(hf:FC P gl f az X r.1 r.2)
 (hl:r.2.length=X.length) (al:∀o∈X,((aR o).isSome|| (eK o).isSome) =true) (na:noRefs X.length az=true) (nx:jG X.length X=true) (nc:ae X.length r.1=true) (ny:jG X.length r.2=true):
 CxOK ⟨P,M,gl,pu,hpS hp f az X r,fun _=>false,km,true⟩:=by
 refine ⟨hcx.glo,hcx.pu,fun g xs h c k' hc=>?_,hcx.km⟩;by_cases e:g=f∧xs=az∧h.take X.length=X∧OkH (h.drop X.length)
 . have hc:hpS hp f az X r g xs h=some (c,k'):=hc
   obtain ⟨rfl,rfl,e1,e2⟩:=e;obtain ⟨suf,rfl⟩:∃suf,h=X++suf:=⟨h.drop X.length,by conv=>lhs;rw[←List.take_append_drop X.length h,e1]⟩;rw[List.drop_left] at e2;rw[n8 _ _ _ _ _ _ e2] at hc;cases hc;have h0:∀i,i< X.length→(0+ ·) i=i:=fun i _=>Nat.zero_add i;have h1:∀i,i< X.length→mE 0 X.length suf.length i=i:=fun i hi=>by unfold mE;rw[if_pos hi,Nat.zero_add]
   have q:=SX hf [] suf (fun o ho=>by cases ho) e2 al na (Oy nx) (by rw[hl];exact Nat.le_refl _) hcx.glo;simp only[List.length_nil,List.nil_append] at q;rw[bks_id h0 _ na,Lg h1 _ nc,List.take_of_length_le (by omega),List.drop_of_length_le (by omega),List.map_nil,List.append_nil,th h1 _ ny,show dS 0 X=X from th h0 _ nx] at q;exact q
 . have hc:hpS hp f az X r g xs h=some (c,k'):=hc
   unfold hpS at hc;rw[if_neg e] at hc;exact hcx.hp g xs h c k' hc
end Go.Sx
namespace Go.Sx
open Go.RowKit Go.Proofs
set_option maxRecDepth 100000
set_option maxHeartbeats 8000000
def txt9:List (List UInt8):=[[],[32,97],[97,32],[97,32,32,98],[97,10],[64],[98,32,64],[126,33],[97,127]]
def As (a c:Nat)(y:Int):List Int:=[(a:Int),-1,(c:Int),y]
theorem yy (a c:Nat)(y:Int): (As a c y).length=4:=rfl
theorem uX:txt9.length=9:=rfl
def lq (p:aI)(y:Int):Nat→aI
 |0=>((gt (As 6 5 y) (ag y 4),p.1.2),p.2)
 |1=>((p.1.1,gt (As 64 63 y) (ag y 4),p.1.2.2),p.2)
 |2=>((p.1.1,p.1.2.1,gt (As 1024 1023 y) (ag y 4)),p.2)
 |3=>(p.1,((ag y 7:Nat):Int) - 1,p.2.2)
 |4=>(p.1,p.2.1,((ag y 7:Nat):Int) - 1,p.2.2.2)
 |5=>(p.1,p.2.1,p.2.2.1,gt txt9 (ag y 9),p.2.2.2.2)
 |6=>(p.1,p.2.1,p.2.2.1,p.2.2.2.1,p.2.2.2.2++[(((0:Nat):Int),((ag y 9:Nat):Int),((0:Nat):Int))])
 |7=>(p.1,p.2.1,p.2.2.1,p.2.2.2.1,[(-1,((0:Nat):Int),((ag y 2:Nat):Int))])
 |8=>((((0:Nat):Int),((ag y 8:Nat):Int),((0:Nat):Int)),p.2)
 |_=>(p.1,p.2.1,p.2.2.1,p.2.2.2.1++[32,64],p.2.2.2.2)
def dT (p:aI)(how y:Int):aI:=lq p y (ag how 10)
theorem Vy {p:aI}{y:Int}{n:Nat}(h0:¬n=0)(h1:¬n=1)(h2:¬n=2)(h3:¬n=3)(h4:¬n=4)(h5:¬n=5)(h6:¬n=6)(h7:¬n=7)(h8:¬n=8):lq p y n= (p.1,p.2.1,p.2.2.1,p.2.2.2.1++[32,64],p.2.2.2.2):=by
 rcases n with _|_|_|_|_|_|_|_|_|n
 all_goals first|rfl|omega
theorem yz (L:List aI)(j:Nat)(x:aI)(h:j< L.length):cj (cl pC L) (j*7) (pC x) =some (cl pC (L.set j x),.val undef):=by
 have hl:=aD (f:=pC) L;have e:=mf (f:=pC) L j x h;unfold cj;rw[if_pos (by rw[E6];omega),←e]
theorem J7 (x:aI)(l:List ID):pB (pC x) 6 (sl iD .full l) =some ((pC x).set 6 (sl iD .full l),.val undef):=rfl
theorem yA (x:aI)(c:C)(l:List ID): ((pC x).set 6 c).set 6 (sl iD .no l) =pC (x.1,x.2.1,x.2.2.1,x.2.2.2.1,l):=rfl
attribute [go_sem high] yz J7
theorem Vz (p:aI)(x:Int):cj (pC p) 0 [.val (.int .i64 x)] =some (pC ((x,p.1.2),p.2),.val undef):=rfl
theorem VA (p:aI)(x:Int):cj (pC p) 1 [.val (.int .i64 x)] =some (pC ((p.1.1,x,p.1.2.2),p.2),.val undef):=rfl
theorem VB (p:aI)(x:Int):cj (pC p) 2 [.val (.int .i64 x)] =some (pC ((p.1.1,p.1.2.1,x),p.2),.val undef):=rfl
theorem VC (p:aI)(x:Int):cj (pC p) 3 [.val (.int .i64 x)] =some (pC (p.1,x,p.2.2),.val undef):=rfl
theorem VD (p:aI)(x:Int):cj (pC p) 4 [.val (.int .i64 x)] =some (pC (p.1,p.2.1,x,p.2.2.2),.val undef):=rfl
theorem VE (p:aI)(x:List UInt8):cj (pC p) 5 [.val (str x)] =some (pC (p.1,p.2.1,p.2.2.1,x,p.2.2.2.2),.val undef):=rfl
theorem VF (p:aI)(a b c:Nat):cj (pC p) 0 [.val (nI a),.val (nI b),.val (nI c)] =some (pC (((a:Int),(b:Int),(c:Int)),p.2),.val undef):=rfl
theorem VG (a c:Nat)(y:Int):cO 4 (cl iC ((((List.map Int.ofNat ((List.replicate 4 0).set 0 a)).set 1 (-1)).set 2 (c:Int)).set 3 y)) [] =some (vp (sl iC .full (As a c y))):=rfl
theorem Au:sl sC .full ((((((((((List.replicate 9 []).set 0 []).set 1 [32,97]).set 2 [97,32]).set 3 [97,32,32,98]).set 4 [97,10]).set 5 [64]).set 6 [98,32,64]).set 7 [126,33]).set 8 [97,127]) =sl sC .full txt9:=rfl
attribute [go_sem high] VG Vz VA VB VC VD VE VF
def tit4:List (List UInt8):=[[],[97,32,64],[32,98],[116,104,101]]
def setL (w:ah)(v a:Nat)(l:List aI):ah:=w.set v ((gt w v).set a ((gt (gt w v) a).1,l))
def Fw (w:ah)(v a:Nat)(y:Int):Nat→ah
 |0=>w++List.replicate (ag y 9) []
 |1=>w.set v ((gt w v).set a (gt tit4 (ag (y.tdiv ((4:Nat):Int)) 4),(gt (gt w v) a).2))
 |2=>w.set v (gt w v++[gt (gt w v) a])
 |3=>if 0< (gt (gt w v) a).2.length then setL w v a ((gt (gt w v) a).2.drop 1) else w
 |4=>if 1< (gt (gt w v) a).2.length then setL w v a (((gt (gt w v) a).2.set 0 (gt (gt (gt w v) a).2 ((gt (gt w v) a).2.length - 1))).set ((gt (gt w v) a).2.length - 1) (gt (gt (gt w v) a).2 0)) else w
 |5=>w.set v (gt w v++List.replicate (62+ag (y.tdiv ((4:Nat):Int)) 3) ([120],[]))
 |6=>w.set v []
 |_=>setL w v a ((gt (gt w v) a).2++[eI [y,y.tdiv ((8:Nat):Int)] 0 (((0:Nat):Int),((ag y 12:Nat):Int),((0:Nat):Int))])
def cR (w:ah)(how y:Int):ah:=
 if 0< (cm w).length∧ag how 2=0 then
  (fun s:Nat×Nat×Nat=>setL w s.1 s.2.1 ((gt (gt w s.1) s.2.1).2.set s.2.2 (dT (gt (gt (gt w s.1) s.2.1).2 s.2.2) (how.tdiv ((2:Nat):Int)) (y.tdiv ((8:Nat):Int))))) (dj w (gt (cm w) (ag y (cm w).length)).1).1
 else if w.length=0 then List.replicate (ag y 10) []
 else if (gt w (ag y w.length)).length≤ag (y.tdiv ((2:Nat):Int)) (max (gt w (ag y w.length)).length 1) then w.set (ag y w.length) (List.replicate (ag y 66) ([],[]))
 else Fw w (ag y w.length) (ag (y.tdiv ((2:Nat):Int)) (max (gt w (ag y w.length)).length 1)) y (ag (how.tdiv ((2:Nat):Int)) 8)
theorem yB {ρ:List Nat}{n k v0 m:Nat}{w:ah}(h:∀m,aU ρ (.gv (n+1) m (2,48)) = .gv (k+1) m (2,48)):mvCs ρ (fV n v0 m w) =fV k v0 m w:=by unfold fV;rw[kC,c9,h]
theorem Fx {ρ:List Nat}{n k v0 m:Nat}{w:bE}(h:∀m,aU ρ (.gv (n+2) m (7,37)) = .gv (k+2) m (7,37)):mvCs ρ (fA n v0 m w) =fA k v0 m w:=by unfold fA;rw[kC,c9,h]
theorem kE (ok:Nat→Bool)(b:Nat)(ys:List C)(x:C):∀ (l:List C)(i:Nat),fzCs ok b ys (l.set i x) = (fzCs ok b ys l).set i (bh ok b ys x)
 | [],_=>by simp only[List.set_nil,fzCs]
 |y::l,0=>by simp only[List.set_cons_zero,fzCs]
 |y::l,i+1=>by simp only[List.set_cons_succ,fzCs,kE ok b ys x l i]
theorem om (V:bE)(a:Nat)(l:List aI): (cl aC V).set (a*2+1) (sl pC .no l) =cl aC (V.set a ((gt V a).1,l)):=by
 induction V generalizing a with
 |nil=>rfl
 |cons x V ih=>
  cases a with
  |zero=>rfl
  |succ a=>
   rw[cg,List.set_cons_succ,cg];show (C.val (str x.1)::sl pC .no x.2::cl aC V).set ((a+1)*2+1) _=_;rw[show (a+1)*2+1= (a*2+1)+1+1 by omega,List.set_cons_succ,List.set_cons_succ,ih];rfl
theorem oo (w:ah)(v:Nat)(V:bE): (cl vC w).set v (sl aC .no V) =cl vC (w.set v V):=by
 induction w generalizing v with
 |nil=>rfl
 |cons x w ih=>
  cases v with
  |zero=>rfl
  |succ v=>
   rw[cg,List.set_cons_succ,cg];show (sl aC .no x::cl vC w).set (v+1) _=_;rw[List.set_cons_succ,ih];rfl
theorem j5 (l:List aI)(n:Nat)(h:n=l.length):jS (cl pC l) n (7,37) =sl pC .no l:=n4 pC 37 l n h
theorem yC (l:List dG)(n:Nat)(h:n=l.length):jS (cl aC l) n (2,48) =sl aC .no l:=n4 aC 48 l n h
theorem gi (l:List bE)(n:Nat)(h:n=l.length):jS (cl vC l) n (1,46) =sl vC .no l:=n4 vC 46 l n h
theorem Zi {ok:Nat→Bool}{a m:Nat}{V:bE}{l:List aI}(h:m=l.length):fzCs ok 2 (cl pC l) (fA 0 a m V) =cl aC (V.set a ((gt V a).1,l)):=by
 unfold fA;rw[kE,kw,qi,if_pos rfl,j5 l m h,om]
theorem Lx {ok:Nat→Bool}{v m:Nat}{w:ah}{V:bE}(h:m=V.length):fzCs ok 1 (cl aC V) (fV 0 v m w) =cl vC (w.set v V):=by
 unfold fV;rw[kE,kw,qi,if_pos rfl,yC V m h,oo]
theorem Fy {w:ah}{v a:Nat}:setL w v a (gt (gt w v) a).2=w:=by
 have h:∀ {α:Type}[Inhabited α](l:List α)(i:Nat),l.set i (gt l i) =l:=fun l i=>by
  apply List.ext_getElem?;intro j;rw[List.getElem?_set];split
  . rename_i e;subst e
    split
    . rename_i hj;simp[gt,List.getD,List.getElem?_eq_getElem hj]
    . rename_i hj;rw[List.getElem?_eq_none (by omega)]
  . rfl
 unfold setL;rw[show ((gt (gt w v) a).1,(gt (gt w v) a).2) =gt (gt w v) a from rfl,h,h]
end Go.Sx
namespace Go.Sx
open Go.RowKit
section
variable {cx:Cx} {n:Nat} {Q:Ex→St→Prop}
theorem xT {c:Code}{e:List (Nat×C)}{h:Hp}(b:Nat)(cells cells':List C)(hb:h.at b=some cells)(hl:cells.length=cells'.length)(hc:∀ (k:Nat) (x x':C),cells[k]? =some x→cells'[k]? =some x'→CLe x x'∧k7 x'=true)(H:Tr cx n c ⟨A e,h.set b (some cells')⟩ Q):Tr cx n c ⟨A e,h⟩ Q:=by
 have hlt:=dI hb;have hset:∀k (hk1:k< cells.length) (hk2:k< cells'.length),(cells'.take k++cells.drop k).set k cells'[k] =cells'.take (k+1)++cells.drop (k+1):=by
  intro k hk1 hk2;rw[List.set_append_right _ _ (by rw[List.length_take];omega),List.length_take,Nat.min_eq_left (by omega),Nat.sub_self,List.drop_eq_getElem_cons hk1,List.set_cons_zero,List.take_add_one,List.getElem?_eq_getElem hk2];simp only[Option.toList_some,List.append_assoc,List.singleton_append]
 have live:∀k,k≤cells.length→aR (some (cells'.take k++cells.drop k)) =some (cells'.take k++cells.drop k):=by
  intro k
  induction k with
  |zero=>intro _;simpa using fv hb
  |succ k ih=>
   intro hk;have hk1:k< cells.length:=by omega
   have hk2:k< cells'.length:=by omega
   rw[←hset k hk1 hk2];exact jT (ih (by omega)) k (hc k _ _ (List.getElem?_eq_getElem hk1) (List.getElem?_eq_getElem hk2)).2
 have key:∀k,k≤cells.length→Tr cx n c ⟨A e,h.set b (some (cells'.take k++cells.drop k))⟩ Q→Tr cx n c ⟨A e,h⟩ Q:=by
  intro k
  induction k with
  |zero=>
   intro _ H;rw[List.take_zero,List.nil_append,List.drop_zero,nq hb] at H;exact H
  |succ k ih=>
   intro hk H;refine ih (by omega) ?_;have hk1:k< cells.length:=by omega
   have hk2:k< cells'.length:=by omega
   have hg: (cells'.take k++cells.drop k)[k]? =some cells[k]:=by
    rw[List.getElem?_append_right (by rw[List.length_take];omega),List.length_take,Nat.min_eq_left (by omega),Nat.sub_self,List.getElem?_drop,Nat.add_zero,List.getElem?_eq_getElem hk1]
   obtain ⟨h1,h2⟩:=hc k _ _ (List.getElem?_eq_getElem hk1) (List.getElem?_eq_getElem hk2);have hat:Hp.at (h.set b (some (cells'.take k++cells.drop k))) b=some (cells'.take k++cells.drop k):=by
    rw[cd hlt,if_pos rfl,live k (by omega)]
   refine Tr.bxc b k cells'[k] _ hat hg h1 h2 ?_;rw[hset k hk1 hk2,List.set_set];exact H
 refine key cells.length (Nat.le_refl _) ?_;rw[List.take_of_length_le (by omega),List.drop_length,List.append_nil];exact H
end
end Go.Sx
namespace Go.Sx
open Go.RowKit Go.Proofs
def zV (_:Unit):List C:=[.val (.slice none 0 0)]
def zA (_:Unit):List C:=[.val (str []),.val (.slice none 0 0)]
instance:Sca zV (fun _=> .val (.slice none 0 0)):=⟨fun _=>rfl,fun _=>rfl,fun _=>rfl,fun _ _=>rfl⟩
instance:Cel zA 2:=⟨fun _=>rfl,fun _=>rfl,by decide,fun _ _=>rfl⟩
instance:Nrf zV:=⟨fun k x=>rfl⟩
instance:Nrf zA:=⟨fun k x=>rfl⟩
def gj (n:Nat):List Unit:=List.replicate n ()
theorem Pp (n:Nat): (gj n).length=n:=List.length_replicate
theorem Fz (n:Nat):bG [.slice none 0 0] n=cl zV (gj n):=by
 induction n with
 |zero=>rfl
 |succ n ih=>show C.val (.slice none 0 0)::bG _ n=cl zV (()::gj n);rw[ih];rfl
theorem VH (n:Nat):bG [.string ⟨#[]⟩,.slice none 0 0] n=cl zA (gj n):=by
 induction n with
 |zero=>rfl
 |succ n ih=>show C.val (str [])::C.val (.slice none 0 0)::bG _ n=cl zA (()::gj n);rw[ih];rfl
theorem Ly (n:Nat)(h:n≤1000):uv Tryd.prog true (some ⟨.slice 46,1,24,[.slice none 0 0]⟩) (.val (nI n)) (.val (nI n)) =some (.new (cl zV (gj n)) fun id=> .gv id n (1,46)):=by
 unfold uv;have e1: (C.val (nI n)).int?=some (.i64,(n:Int)):=rfl;simp only[e1,wB];rw[if_pos ⟨by omega,trivial,by omega,by omega,rfl,rfl⟩];rw[show ((n:Nat):Int).toNat=n from rfl,Fz];rfl
theorem Lz (n:Nat)(h:n≤1000):uv Tryd.prog true (some ⟨.slice 48,1,24,[.slice none 0 0]⟩) (.val (nI n)) (.val (nI n)) =some (.new (cl zA (gj n)) fun id=> .gv id n (2,48)):=by
 unfold uv;have e1: (C.val (nI n)).int?=some (.i64,(n:Int)):=rfl;simp only[e1,ui];rw[if_pos ⟨by omega,trivial,by omega,by omega,rfl,rfl⟩];rw[show ((n:Nat):Int).toNat=n from rfl,VH];rfl
theorem VI (n k:Nat)(x:C)(h: (cl zV (gj n))[k]? =some x):x= .val (.slice none 0 0):=by
 have:∀n,cl zV (gj n) =List.replicate n (.val (.slice none 0 0)):=by
  intro n;induction n with
  |zero=>rfl
  |succ n ih=>rw[List.replicate_succ,←ih];rfl
 rw[this,List.getElem?_replicate] at h;split at h
 . cases h;rfl
 . cases h
theorem VJ (n k:Nat)(x:C)(h: (cl vC (List.replicate n []))[k]? =some x):x=sl aC .no []:=by
 have:∀n,cl vC (List.replicate n []) =List.replicate n (sl aC .no []):=by
  intro n;induction n with
  |zero=>rfl
  |succ n ih=>rw[List.replicate_succ,List.replicate_succ,←ih];rfl
 rw[this,List.getElem?_replicate] at h;split at h
 . cases h;rfl
 . cases h
theorem Cg (l:ah)(n:Nat): (cl vC l++cl zV (gj n)).length= (cl vC (l++List.replicate n [])).length∧∀ (k:Nat)(x x':C),(cl vC l++cl zV (gj n))[k]? =some x→(cl vC (l++List.replicate n []))[k]? =some x'→CLe x x'∧k7 x'=true:=by
 rw[jO];refine ⟨by rw[List.length_append,List.length_append,aD (f:=zV),aD (f:=vC) (List.replicate n []),Pp,List.length_replicate],fun k x x' h1 h2=>?_⟩;by_cases hk:k< (cl vC l).length
 . rw[List.getElem?_append_left hk] at h1 h2
   rw[h1] at h2;cases h2;refine ⟨CLe.refl _,?_⟩;have:∀ (l:ah)(k:Nat)(x:C),(cl vC l)[k]? =some x→k7 x=true:=by
    intro l
    induction l with
    |nil=>intro k x h;simp[cl] at h
    |cons a l ih=>
     intro k x h;rw[cg] at h
     cases k with
     |zero=>cases h;rfl
     |succ k=>exact ih k x h
   exact this l k x h1
 . rw[List.getElem?_append_right (by omega)] at h1 h2
   rw[VI _ _ _ h1,VJ _ _ _ h2];exact ⟨CLe.nil _,rfl⟩
theorem FB (n:Nat): (cl zV (gj n)).length= (cl vC (List.replicate n [])).length∧∀ (k:Nat)(x x':C),(cl zV (gj n))[k]? =some x→(cl vC (List.replicate n []))[k]? =some x'→CLe x x'∧k7 x'=true:=Cg [] n
theorem FD (n:Nat): (cl zA (gj n)).length= (cl aC (List.replicate n ([],[]))).length∧∀ (k:Nat)(x x':C),(cl zA (gj n))[k]? =some x→(cl aC (List.replicate n ([],[])))[k]? =some x'→CLe x x'∧k7 x'=true:=by
 induction n with
 |zero=>exact ⟨rfl,fun k x x' h=>by simp[cl,gj] at h⟩
 |succ n ih=>
  have e1:cl zA (gj (n+1)) = .val (str []):: .val (.slice none 0 0)::cl zA (gj n):=rfl;have e2:cl aC (List.replicate (n+1) ([],[])) = .val (str [])::sl pC .no []::cl aC (List.replicate n ([],[])):=rfl;rw[e1,e2];refine ⟨by simp only[List.length_cons,ih.1],fun k x x' h1 h2=>?_⟩;rcases k with _|_|k
  . cases h1;cases h2;exact ⟨CLe.refl _,rfl⟩
  . cases h1;cases h2;exact ⟨CLe.nil _,rfl⟩
  . exact ih.2 k x x' h1 h2
theorem iK (y:Int)(k:Nat)(hy: -9223372036854775808≤y∧y≤9223372036854775807): -9223372036854775808≤y.tdiv (k:Int)∧y.tdiv (k:Int)≤9223372036854775807:=by
 have h1: (y.tdiv (k:Int)).natAbs≤y.natAbs:=by
  rw[Int.natAbs_tdiv];exact Nat.div_le_self _ _
 by_cases hp:0≤y
 . have h3:0≤y.tdiv (k:Int):=Int.tdiv_nonneg hp (Int.natCast_nonneg k)
   omega
 . have h3:y.tdiv (k:Int)≤0:=by
    have:=Int.tdiv_nonneg (a:= -y) (b:=(k:Int)) (by omega) (Int.natCast_nonneg k);rw[Int.neg_tdiv] at this;omega
   omega
theorem VK (w:ah)(v:Nat)(c:C)(h:v< w.length):cj (cl vC w) v [c] =some ((cl vC w).set v c,.val undef):=by
 have hl: (cl vC w).length=w.length:=by rw[aD (f:=vC),Nat.mul_one]
 unfold cj;rw[if_pos (by rw[hl];exact h)];unfold splice;rw[List.set_eq_take_append_cons_drop,if_pos (by omega)];simp
theorem Pq (n m:Nat)(w:ah)(v:Nat)(c:C)(h:v< w.length):cj (fV n v m w) v [c] =some ((cl vC w).set v c,.val undef):=by
 have hl: (cl vC w).length=w.length:=by rw[aD (f:=vC),Nat.mul_one]
 unfold cj fV;rw[if_pos (by rw[List.length_set,hl];exact h)];unfold splice;rw[show ∀l:List C,l.take v++[c]++l.drop (v+[c].length) =l.take v++c::l.drop (v+1) from fun l=>by simp];have e:=List.set_eq_take_append_cons_drop (l:=(cl vC w).set v (.gv (n+1) m (2,48))) (i:=v) (a:=c);rw[if_pos (by rw[List.length_set];omega)] at e;rw[←e,List.set_set]
theorem J8 (V:bE)(b:Nat)(t:List UInt8): (cl aC V).set (b*2) (.val (str t)) =cl aC (V.set b (t,(gt V b).2)):=by
 induction V generalizing b with
 |nil=>rfl
 |cons x V ih=>
  cases b with
  |zero=>rfl
  |succ b=>
   rw[cg,List.set_cons_succ,cg];show (C.val (str x.1)::sl pC .no x.2::cl aC V).set ((b+1)*2) _=_;rw[show (b+1)*2=b*2+1+1 by omega,List.set_cons_succ,List.set_cons_succ,ih];rfl
theorem VL (V:bE)(k:Nat)(c:C)(h:k< V.length*2):cj (cl aC V) k [c] =some ((cl aC V).set k c,.val undef):=by
 have hl: (cl aC V).length=V.length*2:=aD (f:=aC) V;unfold cj;rw[if_pos (by rw[hl];exact h)];unfold splice;rw[List.set_eq_take_append_cons_drop,if_pos (by omega)];simp
theorem VM (V:bE)(b:Nat)(t:List UInt8)(h:b< V.length):cj (cl aC V) (b*2) [.val (str t)] =some (cl aC (V.set b (t,(gt V b).2)),.val undef):=by rw[VL V _ _ (by omega),J8]
theorem FE {α:Type}[Inhabited α](l:List α)(i:Nat):l.set i (gt l i) =l:=by
 apply List.ext_getElem?;intro j;rw[List.getElem?_set];split
 . rename_i e;subst e
   split
   . rename_i hj;simp[gt,List.getD,List.getElem?_eq_getElem hj]
   . rename_i hj;rw[List.getElem?_eq_none (by omega)]
 . rfl
theorem VN (x y:Int)(hx: -9223372036854775808≤x∧x≤9223372036854775807)(hy: -9223372036854775808≤y∧y≤9223372036854775807):LI [x,y]:=by
 refine ⟨by show 2≤_;decide,?_⟩;intro i hi
 match i,hi with
 |0,_=>exact hx
 |1,_=>exact hy
 |i+2,h=>exact absurd h (by simp)
theorem VO {ok:Nat→Bool}{b n v m:Nat}{w:ah}{ys:List C}(hb:¬n+1=b)(h:ok (n+1) =true):fzCs ok b ys (fV n v m w) =fV n v m w:=by
 unfold fV;rw[kE,kw,qi,if_neg hb,if_pos h]
theorem J9 (ok:Nat→Bool)(b:Nat)(ys:List C):fzCs ok b ys cM=cM:=rfl
theorem Av:sl sC .full ((((([]::List.replicate 3 []:List (List UInt8)).set 0 []).set 1 [97,32,64]).set 2 [32,98]).set 3 [116,104,101]) =sl sC .full tit4:=rfl
theorem yD:sl sC .full (((((List.replicate 4 []:List (List UInt8)).set 0 []).set 1 [97,32,64]).set 2 [32,98]).set 3 [116,104,101]) =sl sC .full tit4:=rfl
theorem uY:tit4.length=4:=rfl
theorem FF (L:List aI)(h:0< L.length):eA (cl pC L) 0 7=some (.agg (pC (gt L 0))):=by
 cases L with
 |nil=>simp at h
 |cons x L=>rfl
theorem FG (L:List aI)(x:aI)(h:0< L.length):cj (cl pC L) 0 (pC x) =some (cl pC (L.set 0 x),.val undef):=by
 have:=yz L 0 x h
 rwa [Nat.zero_mul] at this
theorem Zj {w:ah}{v b:Nat}{y:Int}{n:Nat}(h0:¬n=0)(h1:¬n=1)(h2:¬n=2)(h3:¬n=3)(h4:¬n=4)(h5:¬n=5)(h6:¬n=6):Fw w v b y n=setL w v b ((gt (gt w v) b).2++[eI [y,y.tdiv ((8:Nat):Int)] 0 (((0:Nat):Int),((ag y 12:Nat):Int),((0:Nat):Int))]):=by
 rcases n with _|_|_|_|_|_|_|n
 all_goals first|rfl|omega
theorem FH (y z:Int):sl iC .full ((((List.replicate 2 0).set 0 y)).set 1 z) =sl iC .full [y,z]:=rfl
theorem VP {n v m:Nat}{w:ah}(h:v< w.length): (fV n v m w)[v]? =some (.gv (n+1) m (2,48)):=by
 unfold fV;rw[List.getElem?_set_self (by rw[aD (f:=vC)];omega)]
theorem VQ (V:bE)(b:Nat)(l:List aI)(h:b< V.length):pB (cl aC V) (b*2+1) (sl pC .no l) =some (cl aC (V.set b ((gt V b).1,l)),.val undef):=by
 have hl: (cl aC V).length=V.length*2:=aD (f:=aC) V;unfold pB;rw[if_pos (by omega),om]
theorem VR (V:bE)(b:Nat)(l:List aI)(h:b< V.length):pB (cl aC V) (b*2+1) (sl pC (.own 7) l) =some ((cl aC V).set (b*2+1) (sl pC (.own 7) l),.val undef):=by
 have hl: (cl aC V).length=V.length*2:=aD (f:=aC) V;unfold pB;rw[if_pos (by omega)]
theorem Pr (w:ah)(v b n:Nat)(s:Nat×Nat):aR (some ((cl vC w).set v (.gv b n s))) =some ((cl vC w).set v (.gv b n s)):=sr (iQ vC w) ..
theorem Ka (w:ah)(v:Nat):aR (some ((cl vC w).set v (.val (.slice none 0 0)))) =some ((cl vC w).set v (.val (.slice none 0 0))):=jT (iQ vC w) v rfl
theorem Ps (V:bE)(k:Nat)(r:Rt)(l:List aI):aR (some ((cl aC V).set k (sl pC r l))) =some ((cl aC V).set k (sl pC r l)):=jT (iQ aC V) k rfl
attribute [go_sem] Pr Ka Ps
theorem Pt (v m:Nat)(w:ah): (fV 0 v m w).set v (.gv 1 m (2,48)) =fV 0 v m w:=by unfold fV;rw[List.set_set]
theorem Pu (u:TypeDesc)(y:Nat)(x:dG):fD (some ⟨u,2,y,[str [],.slice none 0 0]⟩) 1 [(0,.agg (aC x))] =some (vp (sl aC .full [x])):=rfl
theorem Pv (u:TypeDesc)(y:Nat)(t:List UInt8):fD (some ⟨u,2,y,[str [],.slice none 0 0]⟩) 1 [(0,.agg [.val (str t),.val (.slice none 0 0)])] =some (vp (.sl .full 1 [.val (str t),.val (.slice none 0 0)])):=rfl
theorem VS (P:Program)(e b n k:Nat)(u:TypeDesc)(z z2:List Value)(he:td P e=some ⟨u,1,24,[.slice none 0 0]⟩)(h:n≤1000000∧k≤1000):gP P ⟨.slice e,1,24,z⟩ ⟨.int .i64,1,8,z2⟩ (.gv b n (1,e)) (.val (.int .i64 (k:Int))) =some (.ap (some (b,n)) (1,e) k fun _=>some (cl zV (gj k))):=by
 unfold gP;simp only[he];have h0:0≤(k:Int):=by omega
 have h1: (k:Int)≤65536:=by omega
 rw[if_pos ⟨trivial,h0,h1,by rw[Int.toNat_natCast];omega,by rw[Int.toNat_natCast];omega,by decide,rfl,rfl⟩,Int.toNat_natCast,Fz]
theorem Zk (b n k:Nat)(h:n≤1000000∧k≤1000):gP Tryd.prog ⟨.slice 46,1,24,[.slice none 0 0]⟩ ⟨.int .i64,1,8,[nI 0]⟩ (.gv b n (1,46)) (.val (nI k)) =some (.ap (some (b,n)) (1,46) k fun _=>some (cl zV (gj k))):=VS Tryd.prog 46 b n k _ _ _ wB h
theorem Pw (u:TypeDesc)(y:Nat):fD (some ⟨u,7,y,[nI 0,nI 0,nI 0,nI 0,nI 0,str [],.slice none 0 0]⟩) 0 [] =some (vp (sl pC .full [])):=rfl
theorem Px (y z:Int):cO 2 (cl iC ((List.map Int.ofNat (List.replicate 2 0)).set 0 y)) [(1,.val (.int .i64 z))] =some (vp (sl iC .full [y,z])):=rfl
theorem Zl (n:Nat)(s:Nat×Nat):aU [0,3,2] (.gv 3 n s) = .gv 1 n s:=rfl
attribute [go_sem high] Px
section
variable (cx:Cx) (apps:List Nat) (dsts:List (Option Nat)) (l:List Oper) (id':Nat) (d:Option Nat) (e:List (Nat×C)) (h:Hp) (fs:List FP) (K:List FP→St→Prop)
theorem Py (b n m:Nat)(w:ah)(hn:n=w.length)(hm:0< m):ju cx apps dsts l id' d e h fs K b n (1,46) m (cl zV (gj m)) (some (cl vC w)) =run cx apps dsts l id' (dR d (.gv h.length (n+m) (1,46)) e) (h.set b (some cM)++[some (cl vC w++cl zV (gj m))]) ((4,0)::fs) K:=
 kD cx apps dsts l id' d e h fs K b n m 1 46 _ _ (dL ..) (dL ..) (by rw[aD (f:=vC),hn]) hm (by decide)
theorem Kb (b n:Nat)(w:ah)(hn:n=w.length):ju cx apps dsts l id' d e h fs K b n (1,46) 0 (cl zV (gj 0)) (some (cl vC w)) =run cx apps dsts l id' (dR d (.gv b n (1,46)) e) (h.set b (some (cl vC w))) ((4,0)::fs) K:=by
 have hl: (cl vC w).length=n:=by rw[aD (f:=vC),Nat.mul_one,hn]
 have hs:splice (cl vC w) (n*1) ((cl zV (gj 0)).map C.noR) =cl vC w:=by
  show (cl vC w).take (n*1)++[]++(cl vC w).drop (n*1+0) =_;simp
 unfold ju;simp only[];rw[if_pos ⟨by simp only[Nat.add_zero,Nat.mul_one];omega,.inr trivial⟩,hs];rfl
theorem Kc (b n:Nat)(V:bE)(t:List UInt8)(hn:n*2= (cl aC V).length):ju cx apps dsts l id' d e h fs K b n (2,48) 1 [.val (str t),.val (.slice none 0 0)] (some (cl aC V)) =run cx apps dsts l id' (dR d (.gv h.length (n+1) (2,48)) e) (h.set b (some cM)++[some (cl aC V++[.val (str t),.val (.slice none 0 0)])]) ((4,0)::fs) K:=
 kD cx apps dsts l id' d e h fs K b n 1 2 48 _ _ (dL ..) rfl hn (by decide) (by decide)
end
theorem Pz (V:bE)(t:List UInt8)(x:C): (cl aC V++[.val (str t),x])[V.length*2+1]? =some x:=by
 rw[List.getElem?_append_right (by rw[aD (f:=aC)];omega),aD (f:=aC),show V.length*2+1 - V.length*2=1 by omega];rfl
theorem PA (V:bE)(t:List UInt8)(x:C): (cl aC V++[.val (str t),x]).set (V.length*2+1) (sl pC .no []) =cl aC (V++[(t,[])]):=by
 rw[List.set_append_right _ _ (by rw[aD (f:=aC)];omega),aD (f:=aC),show V.length*2+1 - V.length*2=1 by omega,jO];rfl
theorem FI (V:bE)(i:Nat)(x:dG):V++List.replicate i x++[x] =V++List.replicate (i+1) x:=by
 rw[List.replicate_succ',List.append_assoc]
theorem Kd (V:bE)(t:List UInt8)(x:C):aR (some (cl aC V++[.val (str t),x])) =some (cl aC V++[.val (str t),x]):=by
 cases V with
 |nil=>rfl
 |cons a V=>rw[cg];rfl
attribute [go_sem] Py Kb Zk Pw Kd Kc Pu Pv
attribute [go_sem high] Pt VQ VR VP
attribute [go_sem] Zi Lx VO kE J9
attribute [go_sem high] FF FG
attribute [go_sem high] VK Pq VM
end Go.Sx
