/-
   And what follows.
-/
import Derived.Test.YtmoaeemdlompaaaDoorPan
set_option linter.unusedSimpArgs false
set_option linter.unusedVariables false
namespace Go.Sx
open Go.RowKit Go.Proofs
set_option maxRecDepth 100000
set_option maxHeartbeats 8000000
theorem m7 (x y:List UInt8) : ((List.replicate 2 []).set 0 x).set 1 y= [x,y] :=rfl
theorem Pf {a:List UInt8} (h:a.length=16) :a.take 16=a:=List.take_of_length_le (by omega)
theorem i6 (n:Nat) :C.val (.int .i64 ((n:Nat) :Int)) =C.val (nI n) :=rfl
theorem nZ {p:Prop} (e:p:=by intro KZ hZ;simp -implicitDefEqProofs (disch:=first|omega| (simp only[go_sem,lA,lD,lT] <;>omega) |decide) only[go_sem,↓reduceIte,Nat.reduceEqDiff,reduceCtorEq,Nat.reduceLT,Nat.reduceBEq,Nat.reduceAdd,hy];with_reducible exact hZ) :p:=e
theorem Pg {p:Prop} (e:p:=by simp -implicitDefEqProofs (disch:=first|omega| (simp only[go_sem,lA,lD,lT] <;>omega) |decide) only[go_sem,↓reduceIte,Nat.reduceEqDiff,reduceCtorEq];all_goals (rw[←hm.2.2,Iw (by omega)])) :p:=e
theorem YR {gl:Nat→C} {M:Nat} {pu:Nat→List C→Option C} (hcx:CxOK (aN gl M pu)) (x y:Nat) (hab:x≤y∧y≤4611686018427387000) :FC Tryd.prog gl 81 [.val (nI x),.val (nI y)] [] (.val (nI (x+aU (y - x)))) [] :=by
 replace hcx:=hcx.reN (M:=17)
 refine bY (cx:=aN gl 17 pu) (rs:= [.tmp 4]) rfl Tryd.func81 rfl rfl rfl (by simp only[List.length_cons,List.length_nil];decide) (by simp only[go_sem]) ?_
 simp only[cM,go_sem]
 have hy:=True.intro
 refine aa hcx [] _ [] rfl rfl rfl ?_ nZ
 refine aa hcx [] _ [] rfl rfl rfl ?_ nZ
 refine Tr.k [0,1,5] ?_
 refine ae fun K1 hK1=> ?_
 refine Tr.blk ?_
 refine cj (α:=Nat) (fun a=> [(0,?v0_1),(1,?v1_1),(5,.val (nI a))]) (fun a=> ?h_1) (fun a=>0< a∧a≤(y - x)+1∧jh (y - x) (y - x) a=aU (y - x)) (fun a=> (y - x) - a) (1) ⟨by omega,by omega,rfl⟩ ?le_1 ?hh_1 ?bd_1
 case hh_1=>exact rfl
 case le_1=>exact LT
 rintro m hm
 refine ae fun K2 hK2=> ?_
 refine aa hcx [] _ [] rfl rfl rfl ?_ nZ
 refine bR rfl (fun hc11=> ?_) (fun hc11=> ?_)
 ·
  refine Tr.skip ?_
  refine hK2 _ ?_
  refine Tr.blk ?_
  refine bF hcx [1000013] _ [] rfl rfl rfl ?_ nZ
  exact ⟨m*2,⟨⟨by omega,by omega,by rw[←hm.2.2,Iv (by omega) hm.1,Nat.mul_comm]⟩,O1⟩,LT,rfl⟩
 refine Tr.exit ?_
 refine hK1 _ ?_
 refine aa hcx [1000016] _ [] rfl rfl rfl ?_ nZ
 exact Tr.ret Pg
theorem ms {p:Prop} (e:p:=by intro KZ hZ;simp -implicitDefEqProofs (disch:=first|omega| (simp only[go_sem,lA,lD,lT] <;>omega) |decide) only[go_sem,↓reduceIte,Nat.reduceEqDiff,reduceCtorEq,Nat.reduceLT,Nat.reduceBEq,Nat.reduceAdd,hy];with_reducible exact hZ) :p:=e
theorem Li {p:Prop} (e:p:=by simp -implicitDefEqProofs (disch:=first|omega| (simp only[go_sem,lA,lD,lT] <;>omega) |decide) only[go_sem,↓reduceIte,Nat.reduceEqDiff,reduceCtorEq];all_goals (rw[←hm.2.2,Iw (by omega)])) :p:=e
theorem U6 {gl:Nat→C} {M:Nat} {pu:Nat→List C→Option C} (hcx:CxOK (aN gl M pu)) (n:Nat) (hn:n≤4611686018427387000) :FC Tryd.prog gl 106 [.val (nI n)] [] (.val (nI (aU n))) [] :=by
 replace hcx:=hcx.reN (M:=11)
 refine bY (cx:=aN gl 11 pu) (rs:= [.tmp 2]) rfl Tryd.func106 rfl rfl rfl (by simp only[List.length_cons,List.length_nil];decide) (by simp only[go_sem]) ?_
 simp only[cM,go_sem]
 have hy:=True.intro
 refine aa hcx [] _ [] rfl rfl rfl ?_ ms
 refine aa hcx [] _ [] rfl rfl rfl ?_ ms
 refine Tr.k [0,3] ?_
 refine ae fun K1 hK1=> ?_
 refine Tr.blk ?_
 refine cj (α:=Nat) (fun a=> [(0,?v0_1),(3,.val (nI a))]) (fun a=> ?h_1) (fun a=>0< a∧a≤n+1∧jh n n a=aU n) (fun a=>n - a) (1) ⟨by omega,by omega,rfl⟩ ?le_1 ?hh_1 ?bd_1
 case hh_1=>exact rfl
 case le_1=>exact LT
 rintro m hm
 refine ae fun K2 hK2=> ?_
 refine aa hcx [] _ [] rfl rfl rfl ?_ ms
 refine bR rfl (fun hc7=> ?_) (fun hc7=> ?_)
 ·
  refine Tr.skip ?_
  refine hK2 _ ?_
  refine Tr.blk ?_
  refine bF hcx [1000009] _ [] rfl rfl rfl ?_ ms
  exact ⟨2*m,⟨⟨by omega,by omega,by rw[←hm.2.2,Iv (by omega) hm.1]⟩,O1⟩,LT,rfl⟩
 refine Tr.exit ?_
 refine hK1 _ ?_
 refine aa hcx [1000010] _ [] rfl rfl rfl ?_ ms
 exact Tr.ret Li
theorem Cm {p:Prop} (e:p:=by intro KZ hZ;simp -implicitDefEqProofs (disch:=first|omega| (simp only[go_sem,lA,lD,lT,dw] <;>omega) |decide) only[go_sem,↓reduceIte,Nat.reduceEqDiff,reduceCtorEq,Nat.reduceLT,Nat.reduceBEq,Nat.reduceAdd,m7,e,hy];with_reducible exact hZ) :p:=e
theorem Ph {p:Prop} (e:p:=by simp -implicitDefEqProofs (disch:=first|omega| (simp only[go_sem,lA,lD,lT,dw] <;>omega) |decide) only[go_sem,↓reduceIte,Nat.reduceEqDiff,reduceCtorEq];all_goals (rfl)) :p:=e
theorem YS {gl:Nat→C} {M:Nat} {pu:Nat→List C→Option C} (hcx:CxOK (aN gl M pu)) (h78: ∀ (tag:Int) (parts:List (List UInt8)),(cK tag parts).length< 1099511627776→pu 78 [.val (.int .i64 tag),sl sC .no parts] =some (.agg (cl bC (ofT tag parts)))) (x:ab) (hx:x.1.length≤65536∧x.2.length≤65536) :FC Tryd.prog gl 80 [.agg (eC x)] [] (.agg (cl bC (fU x))) [] :=by
 replace hcx:=hcx.reN (M:=9)
 refine bY (cx:=aN gl 9 pu) (rs:= [.cell 2 29]) rfl Tryd.func80 rfl rfl rfl (by simp only[List.length_cons,List.length_nil];decide) (by simp only[go_sem]) ?_
 simp only[cM,go_sem]
 have hy:=True.intro
 have e:pu 78 [.val (nI 3),sl sC .no [x.1,x.2]] =some (.agg (cl bC (fU x))) :=h78 3 [x.1,x.2] (fT 3 _ _ (by omega) (by omega))
 refine aa hcx [] _ [none,none] rfl rfl rfl ?_ Cm
 refine aa hcx [] _ [] rfl rfl rfl ?_ Cm
 exact Tr.ret Ph
theorem Pi {p:Prop} (e:p:=by intro KZ hZ;simp -implicitDefEqProofs (disch:=first|omega| (simp only[go_sem,lA,lD,lT,ha,hb,dA] <;>omega) |decide) only[go_sem,↓reduceIte,Nat.reduceEqDiff,reduceCtorEq,Nat.reduceLT,Nat.reduceBEq,Nat.reduceAdd,m7,ta,tb,e,hy];with_reducible exact hZ) :p:=e
theorem Pj {p:Prop} (e:p:=by intro KZ hZ;simp -implicitDefEqProofs (disch:=first|omega| (simp only[go_sem,lA,lD,lT,ha,hb,dA] <;>omega) |decide) only[go_sem,↓reduceIte,Nat.reduceEqDiff,reduceCtorEq,Nat.reduceLT,Nat.reduceBEq,Nat.reduceAdd,m7,ta,tb,e,hy];refine And.intro ?_ hZ;exact rfl) :p:=e
theorem Pk {p:Prop} (e:p:=by simp -implicitDefEqProofs (disch:=first|omega| (simp only[go_sem,lA,lD,lT,ha,hb,dA] <;>omega) |decide) only[go_sem,↓reduceIte,Nat.reduceEqDiff,reduceCtorEq];all_goals (rfl)) :p:=e
theorem YT {gl:Nat→C} {M:Nat} {pu:Nat→List C→Option C} (hcx:CxOK (aN gl M pu)) (h78: ∀ (tag:Int) (parts:List (List UInt8)),(cK tag parts).length< 1099511627776→pu 78 [.val (.int .i64 tag),sl sC .no parts] =some (.agg (cl bC (ofT tag parts)))) (a b:List UInt8) (ha:a.length=16) (hb:b.length=16) :FC Tryd.prog gl 82 [.agg (cl bC a),.agg (cl bC b)] [] (.agg (cl bC (iH a b))) [] :=by
 replace hcx:=hcx.reN (M:=11)
 refine bY (cx:=aN gl 11 pu) (rs:= [.cell 4 29]) rfl Tryd.func82 rfl rfl rfl (by simp only[List.length_cons,List.length_nil];decide) (by simp only[go_sem]) ?_
 simp only[cM,go_sem]
 have hy:=True.intro
 have hin:=fT 4 a b (by omega) (by omega)
 have e:pu 78 [.val (nI 4),sl sC .no [a,b]] =some (.agg (cl bC (iH a b))) :=h78 4 [a,b] hin
 have ta:=Pf ha
 have tb:=Pf hb
 refine aa hcx [] _ [none,none,none] rfl rfl rfl ?_ Pi
 refine bG hcx cJ [] _ [] rfl rfl rfl rfl ?_ Pj
 exact Tr.ret Pk
theorem wN {p:Prop} (e:p:=by intro KZ hZ;simp -implicitDefEqProofs (disch:=first|omega| (simp only[go_sem,lA,lD,lT] <;>omega) |decide) only[go_sem,↓reduceIte,Nat.reduceEqDiff,reduceCtorEq,Nat.reduceLT,Nat.reduceBEq,Nat.reduceAdd,b1,hy];with_reducible exact hZ) :p:=e
theorem Cn {p:Prop} (e:p:=by simp -implicitDefEqProofs (disch:=first|omega| (simp only[go_sem,lA,lD,lT] <;>omega) |decide) only[go_sem,↓reduceIte,Nat.reduceEqDiff,reduceCtorEq];all_goals (simp[du,b1])) :p:=e
theorem YU {gl:Nat→C} {M:Nat} {pu:Nat→List C→Option C} (hcx:CxOK (aN gl M pu)) (x:ab) (hx:x.1.length< 9223372036854775808∧x.2.length< 9223372036854775808) :FC Tryd.prog gl 54 [.agg (eC x)] [] (.val (.bool (du x))) [] :=by
 replace hcx:=hcx.reN (M:=13)
 refine bY (cx:=aN gl 13 pu) (rs:= [.tmp 2]) rfl Tryd.func54 rfl rfl rfl (by simp only[List.length_cons,List.length_nil];decide) (by simp only[go_sem]) ?_
 simp only[cM,go_sem]
 have b1:=True.intro
 have hy:=True.intro
 refine aa hcx [] _ [none] rfl rfl rfl ?_ wN
 by_cases b1:65536< x.1.length
 ·
  refine aa hcx [1000012] [some 3,some 4,some 5,some 6,some 7,some 8,some 9,some 10,some 11,some 12,some 2] [] rfl rfl rfl ?_ wN
  exact Tr.ret Cn
 refine aa hcx [1000012] [some 3,some 4,some 5,some 6,some 7,some 8,some 9,some 10,some 11,some 12,some 2] [] rfl rfl rfl ?_ wN
 exact Tr.ret Cn
theorem wO {p:Prop} (e:p:=by intro KZ hZ;simp -implicitDefEqProofs (disch:=first|omega| (simp only[go_sem,lA,lD,lT,hwl,gB,hd,eb,hw0] <;>omega) |decide) only[go_sem,↓reduceIte,Nat.reduceEqDiff,reduceCtorEq,Nat.reduceLT,Nat.reduceBEq,Nat.reduceAdd,m7,e0,e1,w0,w1,td,hy];with_reducible exact hZ) :p:=e
theorem Pl {p:Prop} (e:p:=by intro KZ hZ;simp -implicitDefEqProofs (disch:=first|omega| (simp only[go_sem,lA,lD,lT,hwl,gB,hd,eb,hw0] <;>omega) |decide) only[go_sem,↓reduceIte,Nat.reduceEqDiff,reduceCtorEq,Nat.reduceLT,Nat.reduceBEq,Nat.reduceAdd,m7,e0,e1,w0,w1,td,hy];refine And.intro ?_ hZ;exact rfl) :p:=e
theorem Co {p:Prop} (e:p:=by simp -implicitDefEqProofs (disch:=first|omega| (simp only[go_sem,lA,lD,lT,hwl,gB,hd,eb,hw0] <;>omega) |decide) only[go_sem,↓reduceIte,Nat.reduceEqDiff,reduceCtorEq];all_goals (first| (rw[gA,if_pos hc6];done) | (rw[gA,if_neg hc6];done))) :p:=e
theorem YV {gl:Nat→C} {M:Nat} {pu:Nat→List C→Option C} (hcx:CxOK (aN gl M pu)) (h78: ∀ (tag:Int) (parts:List (List UInt8)),(cK tag parts).length< 1099511627776→pu 78 [.val (.int .i64 tag),sl sC .no parts] =some (.agg (cl bC (ofT tag parts)))) (h39: ∀n:Int,-9223372036854775808≤n∧n≤9223372036854775807→pu 39 [.val (.int .i64 n)] =some (sl bC (.own 1) (cW n))) (n:Nat) (d:List UInt8) (hn:n≤4096) (hd:d.length=16) :FC Tryd.prog gl 50 [.val (nI n),.agg (cl bC d)] [] (.agg (cl bC (gA n d))) [] :=by
 replace hcx:=hcx.reN (M:=18)
 refine bY (cx:=aN gl 18 pu) (rs:= [.cell 4 29]) rfl Tryd.func50 rfl rfl rfl (by simp only[List.length_cons,List.length_nil];decide) (by simp only[go_sem]) ?_
 simp only[cM,go_sem]
 have hy:=True.intro
 have w0:pu 39 [.val (nI 0)] =some (sl bC (.own 1) (cW ((0:Nat) :Int))) :=h39 ((0:Nat) :Int) (by omega)
 have w1:pu 39 [.val (nI n)] =some (sl bC (.own 1) (cW ((n:Nat) :Int))) :=h39 ((n:Nat) :Int) (by omega)
 have hwl:=l6 n (by omega)
 have hw0:=l6 0 (by omega)
 have e0:pu 78 [.val (nI 4),sl sC .no [cW ((0:Nat) :Int)]] =some (.agg (cl bC (ofT 4 [cW ((0:Nat) :Int)]))) :=h78 4 _ (qL 4 _ (by omega))
 have e1:pu 78 [.val (nI 4),sl sC .no [cW ((n:Nat) :Int),d]] =some (.agg (cl bC (ofT 4 [cW ((n:Nat) :Int),d]))) :=h78 4 _ (fT 4 _ _ (by omega) (by omega))
 have td:=Pf hd
 refine aa hcx [] _ [none,none] rfl rfl rfl ?_ wO
 refine ae fun K1 hK1=> ?_
 refine aa hcx [] _ [] rfl rfl rfl ?_ wO
 refine bR rfl (fun hc6=> ?_) (fun hc6=> ?_)
 ·
  refine aa hcx [] _ [] rfl rfl rfl ?_ wO
  exact Tr.ret Co
 refine Tr.skip ?_
 refine hK1 _ ?_
 refine bG hcx cJ [] _ [] rfl rfl rfl rfl ?_ Pl
 exact Tr.ret Co
end Go.Sx
namespace Go.Sx
open Go.RowKit Go.Proofs
set_option maxRecDepth 100000
set_option maxHeartbeats 8000000
theorem wT (l:List ab) (i:Nat) (h:i< l.length) : (l.take (i+1)).any du= ((l.take i).any du||du (gt l i)) :=by
 rw[dN l i h,List.any_append];simp
theorem wU {l:List ab} {i:Nat} (h:i< l.length) (hb:du (gt l i) =true) :l.any du=true:=by
 rw[List.any_eq_true];exact ⟨_,kA l i h,hb⟩
theorem mw {l:List ab} (h:4096< l.length∨l.any du=true) :cV l=4:=if_pos h
theorem wV {l:List ab} (h: ¬ (4096< l.length∨l.any du=true)) (h2:fV l l.length=true) :cV l=0:=by unfold cV;rw[if_neg h,if_pos h2]
theorem CQ {l:List ab} (h: ¬ (4096< l.length∨l.any du=true)) (h2: ¬fV l l.length=true) :cV l=1:=by unfold cV;rw[if_neg h,if_neg h2]
theorem yZ {l:List ab} {i:Nat} (hi:0< i) (h2:bl (gt l (i - 1)).1 (gt l i).1=false) : ∀n,i< n→fV l n=false
 |0,h=>by omega
 |n+1,h=>by
  by_cases e:i=n
  · subst e;unfold fV;rw[h2,decide_eq_false (by omega)];simp
  · unfold fV;rw[yZ hi h2 n (by omega)];rfl
theorem rE {l:List ab} {i:Nat} (h:fV l i=true) (h2:i=0∨bl (gt l (i - 1)).1 (gt l i).1=true) :fV l (i+1) =true:=by
 unfold fV;rw[h]
 rcases h2 with h2|h2
 · rw[decide_eq_true h2];rfl
 · rw[h2];simp
theorem PD {x:ab} (h:65536< x.1.length) :du x=true:=by simp[du,h]
theorem PE {x:ab} (h:65536< x.2.length) :du x=true:=by simp[du,h]
theorem y0 {l:List ab} {i n:Nat} (hi:0< i) (h2:bl (gt l (i - 1)).1 (gt l i).1=false) (h:i< n) : ¬fV l n=true:=by rw[yZ hi h2 n h];simp
theorem wW {l:List ab} {i:Nat} (h1: ¬i< l.length) (h2:i≤l.length∨i=1) (h:i≤l.length→fV l i=true) :fV l l.length=true:=by
 by_cases e:l.length=0
 · rw[e];rfl
 · have e:i=l.length:=by omega
   rw[←e];exact h (by omega)
def LB (l:List ab) :Prop:=l.length< 4611686018427387000∧∀i,i< l.length→(gt l i).1.length< 9223372036854775808∧(gt l i).2.length< 9223372036854775808
def kY (l:List ab) :Int:= (((l.findIdx? du).map fun n=> ((n:Nat) :Int)).getD (-1))
theorem PF {l:List ab} {i:Nat} (h:i< l.length) (h0: (l.take i).any du=false) (hb:du (gt l i) =true) :kY l= ((i:Nat) :Int) :=by
 have e:gt l i=l[i] :=by simp[gt,List.getD,List.getElem?_eq_getElem h]
 have:l.findIdx? du=some i:=by
  rw[List.findIdx?_eq_some_iff_getElem]
  refine ⟨h,by rw[←e];exact hb,fun j hj=> ?_⟩
  rw[List.any_eq_false] at h0
  have:=h0 l[j] (by rw[List.mem_take_iff_getElem];exact ⟨j,by omega,rfl⟩)
  simpa using this
 unfold kY;rw[this];rfl
theorem PG {l:List ab} (h0:l.any du=false) :kY l= -1:=by
 have:l.findIdx? du=none:=by
  rw[List.findIdx?_eq_none_iff];rw[List.any_eq_false] at h0;intro x hx;simpa using h0 x hx
 unfold kY;rw[this];rfl
theorem Lo (l:List ab) : (0≤kY l) = (l.any du=true) :=by
 unfold kY
 cases h:l.findIdx? du with
 |none=>
  rw[List.findIdx?_eq_none_iff] at h
  have:l.any du=false:=by rw[List.any_eq_false];intro x hx;simp[h x hx]
  simp[this]
 |some n=>
  rw[List.findIdx?_eq_some_iff_getElem] at h
  obtain ⟨h1,h2,_⟩ :=h
  have:l.any du=true:=by rw[List.any_eq_true];exact ⟨_,List.getElem_mem h1,h2⟩
  simp[this]
theorem FM (l:List ab) :decide ((0:Int)≤kY l) =l.any du:=by rw[Bool.eq_iff_iff,decide_eq_true_eq,Lo]
theorem jl {p:Prop} (e:p:=by intro KZ hZ;simp -implicitDefEqProofs (disch:=first|omega| (simp only[go_sem,lA,lD,lT] <;>omega) |decide) only[go_sem,↓reduceIte,Nat.reduceEqDiff,reduceCtorEq,Nat.reduceLT,Nat.reduceBEq,Nat.reduceAdd,b1,hy];with_reducible exact hZ) :p:=e
theorem CR {p:Prop} (e:p:=by simp -implicitDefEqProofs (disch:=first|omega| (simp only[go_sem,lA,lD,lT] <;>omega) |decide) only[go_sem,↓reduceIte,Nat.reduceEqDiff,reduceCtorEq];all_goals (first| (rw[PF hc9 hi.2 b1] <;>rfl) | (rw[hiF] <;>rfl))) :p:=e
theorem Y2 {gl:Nat→C} {M:Nat} {pu:Nat→List C→Option C} (hcx:CxOK (aN gl M pu)) (h54: ∀x:ab,x.1.length< 9223372036854775808∧x.2.length< 9223372036854775808→pu 54 [.agg (eC x)] =some (.val (.bool (du x)))) (l:List ab) (hl:LB l) :FC Tryd.prog gl 87 [sl eC .no l,.fn 54 []] [] (.val (.int .i64 (kY l))) [] :=by
 replace hcx:=hcx.reN (M:=19)
 refine bY (cx:=aN gl 19 pu) (rs:= [.tmp 4]) rfl Tryd.func87 rfl rfl rfl (by simp only[List.length_cons,List.length_nil];decide) (by simp only[go_sem]) ?_
 simp only[cM,go_sem]
 have b1:=True.intro
 have hy:=True.intro
 have hl1:=hl.1
 refine aa hcx [] _ [] rfl rfl rfl ?_ jl
 refine ae fun K1 hK1=> ?_
 refine aa hcx [] _ [] rfl rfl rfl ?_ jl
 refine Tr.k [0,1,7,8] ?_
 refine Tr.blk ?_
 refine cj (α:=Nat) (fun a=> [(0,?v0_1),(1,?v1_1),(7,?v7_1),(8,.val (nI a))]) (fun a=> ?h_1) (fun a=>a≤l.length∧(l.take a).any du=false) (fun a=>l.length - a) (0) ⟨Nat.zero_le _,by rw[List.take_zero];rfl⟩ ?le_1 ?hh_1 ?bd_1
 case hh_1=>exact rfl
 case le_1=>exact LT
 rintro i hi
 refine aa hcx [] _ [] rfl rfl rfl ?_ jl
 refine ae fun K2 hK2=> ?_
 refine bR rfl (fun hc9=> ?_) (fun hc9=> ?_)
 ·
  have e54:=h54 (gt l i) (hl.2 i hc9)
  refine Tr.skip ?_
  refine hK2 _ ?_
  refine ae fun K3 hK3=> ?_
  refine Tr.blk ?_
  refine aa hcx [1000010] _ [] rfl rfl rfl ?_ jl
  by_cases b1:du (gt l i) =true
  ·
   have e54b:=b1
   have hy:= @e54
   refine aa hcx [] _ [] rfl rfl rfl ?_ jl
   refine cr rfl ?_
   have hy:=True.intro
   refine aa hcx [1000017] _ [] rfl rfl rfl ?_ jl
   exact Tr.ret CR
  have e54b:=Bool.eq_false_iff.2 b1
  have hy:= @e54
  refine aa hcx [] _ [] rfl rfl rfl ?_ jl
  refine bm rfl ?_
  refine Tr.skip ?_
  refine hK3 _ ?_
  have hy:=True.intro
  refine bF hcx [] _ [] rfl rfl rfl ?_ jl
  exact ⟨i+1,⟨⟨by omega,by rw[wT l i hc9,hi.2,e54b];rfl⟩,O1⟩,LT,rfl⟩
 have hiF:=PG (l:=l) (by rw[←List.take_of_length_le (show l.length≤i by omega)];exact hi.2)
 refine Tr.exit ?_
 refine hK1 _ ?_
 refine aa hcx [] _ [] rfl rfl rfl ?_ jl
 exact Tr.ret CR
theorem CS {p:Prop} (e:p:=by intro KZ hZ;simp -implicitDefEqProofs (disch:=first|omega| (simp only[go_sem,lA,lD,lT] <;>omega) |decide) only[go_sem,↓reduceIte,Nat.reduceEqDiff,reduceCtorEq,Nat.reduceLT,Nat.reduceBEq,Nat.reduceAdd,e87,hy];with_reducible exact hZ) :p:=e
theorem PH {p:Prop} (e:p:=by simp -implicitDefEqProofs (disch:=first|omega| (simp only[go_sem,lA,lD,lT] <;>omega) |decide) only[go_sem,↓reduceIte,Nat.reduceEqDiff,reduceCtorEq];all_goals (exact congrArg (fun z=>some (C.val (.bool z))) (FM l))) :p:=e
theorem Y3 {gl:Nat→C} {M:Nat} {pu:Nat→List C→Option C} (hcx:CxOK (aN gl M pu)) (h87: ∀l:List ab,LB l→pu 87 [sl eC .no l,.fn 54 []] =some (.val (.int .i64 (kY l)))) (l:List ab) (hl:LB l) :FC Tryd.prog gl 53 [sl eC .no l,.fn 54 []] [] (.val (.bool (l.any du))) [] :=by
 replace hcx:=hcx.reN (M:=9)
 refine bY (cx:=aN gl 9 pu) (rs:= [.tmp 4]) rfl Tryd.func53 rfl rfl rfl (by simp only[List.length_cons,List.length_nil];decide) (by simp only[go_sem]) ?_
 simp only[cM,go_sem]
 have hy:=True.intro
 have e87:=h87 l hl
 refine aa hcx [] _ [] rfl rfl rfl ?_ CS
 refine aa hcx [1000008] _ [] rfl rfl rfl ?_ CS
 exact Tr.ret PH
theorem gf {p:Prop} (e:p:=by intro KZ hZ;simp -implicitDefEqProofs (disch:=first|omega| (simp only[go_sem,lA,lD,lT] <;>omega) |decide) only[go_sem,↓reduceIte,Nat.reduceEqDiff,reduceCtorEq,Nat.reduceLT,Nat.reduceBEq,Nat.reduceAdd,e53,b1,b2,b3,b4,hy];with_reducible exact hZ) :p:=e
theorem wX {p:Prop} (e:p:=by intro KZ hZ;simp -implicitDefEqProofs (disch:=first|omega| (simp only[go_sem,lA,lD,lT] <;>omega) |decide) only[go_sem,↓reduceIte,Nat.reduceEqDiff,reduceCtorEq,Nat.reduceLT,Nat.reduceBEq,Nat.reduceAdd,e53,b1,b2,b3,b4,hy];refine And.intro ?_ hZ;exact rfl) :p:=e
theorem rF {p:Prop} (e:p:=by simp -implicitDefEqProofs (disch:=first|omega| (simp only[go_sem,lA,lD,lT] <;>omega) |decide) only[go_sem,↓reduceIte,Nat.reduceEqDiff,reduceCtorEq];all_goals (first| (rw[mw (Or.inl b1)];done) | (rw[mw (Or.inr b2)];done) | (rw[CQ hno (y0 b3 b4 hc14)];done) | (rw[wV hno (wW hc14 (Or.inl hi.1) (fun _=>hi.2))];done))) :p:=e
theorem Y4 {gl:Nat→C} {M:Nat} {pu:Nat→List C→Option C} (hcx:CxOK (aN gl M pu)) (h53: ∀l:List ab,LB l→pu 53 [sl eC .no l,.fn 54 []] =some (.val (.bool (l.any du)))) (l:List ab) (hl:LB l) :FC Tryd.prog gl 15 [sl eC .no l] [] (.val (nI (cV l))) [] :=by
 replace hcx:=hcx.reN (M:=33)
 refine bY (cx:=aN gl 33 pu) (rs:= [.tmp 2]) rfl Tryd.func15 rfl rfl rfl (by simp only[List.length_cons,List.length_nil];decide) (by simp only[go_sem]) ?_
 simp only[cM,go_sem]
 have b1:=True.intro
 have b2:=True.intro
 have b3:=True.intro
 have b4:=True.intro
 have hy:=True.intro
 have e53:=h53 l hl
 have hl1:=hl.1
 refine aa hcx [] _ [] rfl rfl rfl ?_ gf
 refine ae fun K1 hK1=> ?_
 by_cases b1:4096< l.length
 ·
  refine aa hcx [] [some 4,some 5,some 6,some 7,some 8,some 9,some 10] [] rfl rfl rfl ?_ gf
  refine cr rfl ?_
  refine aa hcx [] _ [] rfl rfl rfl ?_ gf
  exact Tr.ret rF
 by_cases b2:l.any du=true
 ·
  skip
  refine aa hcx [] [some 4,some 5,some 6,some 7,some 8,some 9,some 10] [] rfl rfl rfl ?_ gf
  refine cr rfl ?_
  refine aa hcx [] _ [] rfl rfl rfl ?_ gf
  exact Tr.ret rF
 have hno: ¬ (4096< l.length∨l.any du=true) :=fun h=>h.elim b1 b2
 replace b2:=Bool.eq_false_iff.2 b2
 refine aa hcx [] [some 4,some 5,some 6,some 7,some 8,some 9,some 10] [] rfl rfl rfl ?_ gf
 refine bm rfl ?_
 refine Tr.skip ?_
 refine hK1 _ ?_
 refine ae fun K2 hK2=> ?_
 refine aa hcx [] _ [] rfl rfl rfl ?_ gf
 refine Tr.k [0,12,13] ?_
 refine Tr.blk ?_
 refine cj (α:=Nat) (fun a=> [(0,?v0_1),(12,?v12_1),(13,.val (nI a))]) (fun a=> ?h_1) (fun a=>a≤l.length∧fV l a=true) (fun a=>l.length - a) (0) ⟨Nat.zero_le _,rfl⟩ ?le_1 ?hh_1 ?bd_1
 case hh_1=>exact rfl
 case le_1=>exact LT
 rintro i hi
 refine aa hcx [] _ [] rfl rfl rfl ?_ gf
 refine ae fun K3 hK3=> ?_
 refine bR rfl (fun hc14=> ?_) (fun hc14=> ?_)
 ·
  refine Tr.skip ?_
  refine hK3 _ ?_
  refine ae fun K4 hK4=> ?_
  refine Tr.blk ?_
  refine aa hcx [1000015] _ [] rfl rfl rfl ?_ gf
  by_cases b3:0< i
  ·
   by_cases b4:bl (gt l (i - 1)).1 (gt l i).1=true
   ·
    skip
    have hb:i=0∨bl (gt l (i - 1)).1 (gt l i).1=true:=Or.inr b4
    refine bG hcx cJ [] [some 16,some 17,some 18,some 19,some 20,some 21,some 22,some 23,some 24,some 25,some 26,some 27,some 28,some 29,some 30,some 31] [] rfl rfl rfl rfl ?_ wX
    refine bm rfl ?_
    refine Tr.skip ?_
    refine hK4 _ ?_
    refine bF hcx [] _ [] rfl rfl rfl ?_ gf
    exact ⟨i+1,⟨⟨by omega,rE hi.2 hb⟩,O1⟩,LT,rfl⟩
   replace b4:=Bool.eq_false_iff.2 b4
   have hb:=True.intro
   refine bG hcx cJ [] [some 16,some 17,some 18,some 19,some 20,some 21,some 22,some 23,some 24,some 25,some 26,some 27,some 28,some 29,some 30,some 31] [] rfl rfl rfl rfl ?_ wX
   refine cr rfl ?_
   refine aa hcx [] _ [] rfl rfl rfl ?_ gf
   exact Tr.ret rF
  have hb:i=0∨bl (gt l (i - 1)).1 (gt l i).1=true:=Or.inl (by omega)
  refine bG hcx cJ [] [some 16,some 17,some 18,some 19,some 20,some 21,some 22,some 23,some 24,some 25,some 26,some 27,some 28,some 29,some 30,some 31] [] rfl rfl rfl rfl ?_ wX
  refine bm rfl ?_
  refine Tr.skip ?_
  refine hK4 _ ?_
  refine bF hcx [] _ [] rfl rfl rfl ?_ gf
  exact ⟨i+1,⟨⟨by omega,rE hi.2 hb⟩,O1⟩,LT,rfl⟩
 refine Tr.exit ?_
 refine hK2 _ ?_
 refine aa hcx [] _ [] rfl rfl rfl ?_ gf
 exact Tr.ret rF
theorem fg {p:Prop} (e:p:=by intro KZ hZ;simp -implicitDefEqProofs (disch:=first|omega| (simp only[go_sem,lA,lD,lT] <;>omega) |decide) only[go_sem,↓reduceIte,Nat.reduceEqDiff,reduceCtorEq,Nat.reduceLT,Nat.reduceBEq,Nat.reduceAdd,b3,b4,b5,hy];with_reducible exact hZ) :p:=e
theorem CT {p:Prop} (e:p:=by intro KZ hZ;simp -implicitDefEqProofs (disch:=first|omega| (simp only[go_sem,lA,lD,lT] <;>omega) |decide) only[go_sem,↓reduceIte,Nat.reduceEqDiff,reduceCtorEq,Nat.reduceLT,Nat.reduceBEq,Nat.reduceAdd,b3,b4,b5,hy];refine And.intro ?_ hZ;exact rfl) :p:=e
theorem n0 {p:Prop} (e:p:=by simp -implicitDefEqProofs (disch:=first|omega| (simp only[go_sem,lA,lD,lT] <;>omega) |decide) only[go_sem,↓reduceIte,Nat.reduceEqDiff,reduceCtorEq];all_goals (first| (rw[mw (Or.inl hc7)];done) | (rw[mw (Or.inr (wU hc11 (PD b3)))];done) | (rw[mw (Or.inr (wU hc11 (PE b4)))];done) | (rw[CQ hno (y0 hi.1 b5 hc33)];done) | (rw[wV hno (wW hc33 hi.2.1 hi.2.2)];done))) :p:=e
theorem Y5 {gl:Nat→C} {M:Nat} {pu:Nat→List C→Option C} (hcx:CxOK (aN gl M pu)) (l:List ab) (hl:LB l) :FC Tryd.prog gl 16 [sl eC .no l] [] (.val (nI (cV l))) [] :=by
 replace hcx:=hcx.reN (M:=48)
 refine bY (cx:=aN gl 48 pu) (rs:= [.tmp 2]) rfl Tryd.func16 rfl rfl rfl (by simp only[List.length_cons,List.length_nil];decide) (by simp only[go_sem]) ?_
 simp only[cM,go_sem]
 have b3:=True.intro
 have b4:=True.intro
 have b5:=True.intro
 have hy:=True.intro
 have hl1:=hl.1
 refine aa hcx [] _ [] rfl rfl rfl ?_ fg
 refine ae fun K1 hK1=> ?_
 refine aa hcx [] _ [] rfl rfl rfl ?_ fg
 refine bR rfl (fun hc7=> ?_) (fun hc7=> ?_)
 ·
  have b1:=hc7
  refine aa hcx [] _ [] rfl rfl rfl ?_ fg
  exact Tr.ret n0
 have b1:=hc7
 refine Tr.skip ?_
 refine hK1 _ ?_
 refine ae fun K2 hK2=> ?_
 refine aa hcx [] _ [] rfl rfl rfl ?_ fg
 refine Tr.k [0,3] ?_
 refine Tr.blk ?_
 refine cj (α:=Nat) (fun a=> [(0,?v0_1),(3,.val (nI a))]) (fun a=> ?h_1) (fun a=>a≤l.length∧(l.take a).any du=false) (fun a=>l.length - a) (0) ⟨Nat.zero_le _,by rw[List.take_zero];rfl⟩ ?le_1 ?hh_1 ?bd_1
 case hh_1=>exact rfl
 case le_1=>exact LT
 rintro i hi
 refine ae fun K3 hK3=> ?_
 refine aa hcx [] _ [] rfl rfl rfl ?_ fg
 refine bR rfl (fun hc11=> ?_) (fun hc11=> ?_)
 ·
  have hlb:=hl.2 i hc11
  refine Tr.skip ?_
  refine hK3 _ ?_
  refine ae fun K4 hK4=> ?_
  refine Tr.blk ?_
  by_cases b3:65536< (gt l i).1.length
  ·
   refine aa hcx [] [some 14,some 15,some 16,some 17,some 18,some 19,some 20,some 21,some 22,some 23,some 24,some 25,some 26,some 27,some 28,some 29] [] rfl rfl rfl ?_ fg
   refine cr rfl ?_
   refine aa hcx [] _ [] rfl rfl rfl ?_ fg
   exact Tr.ret n0
  by_cases b4:65536< (gt l i).2.length
  ·
   refine aa hcx [] [some 14,some 15,some 16,some 17,some 18,some 19,some 20,some 21,some 22,some 23,some 24,some 25,some 26,some 27,some 28,some 29] [] rfl rfl rfl ?_ fg
   refine cr rfl ?_
   refine aa hcx [] _ [] rfl rfl rfl ?_ fg
   exact Tr.ret n0
  refine aa hcx [] [some 14,some 15,some 16,some 17,some 18,some 19,some 20,some 21,some 22,some 23,some 24,some 25,some 26,some 27,some 28,some 29] [] rfl rfl rfl ?_ fg
  refine bm rfl ?_
  refine Tr.skip ?_
  refine hK4 _ ?_
  refine bF hcx [1000013] _ [] rfl rfl rfl ?_ fg
  exact ⟨i+1,⟨⟨by omega,by rw[wT l i hc11,hi.2];simp[du,b3,b4]⟩,O1⟩,LT,rfl⟩
 have hno: ¬ (4096< l.length∨l.any du=true) :=fun h=>h.elim b1 (by rw[←List.take_of_length_le (show l.length≤i by omega),hi.2];simp)
 refine Tr.exit ?_
 refine hK2 _ ?_
 refine ae fun K5 hK5=> ?_
 refine aa hcx [] _ [] rfl rfl rfl ?_ fg
 refine Tr.k [0,4] ?_
 refine Tr.blk ?_
 refine cj (α:=Nat) (fun a=> [(0,?v0_2),(4,.val (nI a))]) (fun a=> ?h_2) (fun a=>0< a∧(a≤l.length∨a=1)∧(a≤l.length→fV l a=true)) (fun a=>l.length - a) (1) ⟨by omega,Or.inr rfl,fun _=>rfl⟩ ?le_2 ?hh_2 ?bd_2
 case hh_2=>exact rfl
 case le_2=>exact LT
 rintro i hi
 refine ae fun K6 hK6=> ?_
 refine aa hcx [] _ [] rfl rfl rfl ?_ fg
 refine bR rfl (fun hc33=> ?_) (fun hc33=> ?_)
 ·
  refine Tr.skip ?_
  refine hK6 _ ?_
  refine ae fun K7 hK7=> ?_
  refine Tr.blk ?_
  by_cases b5:bl (gt l (i - 1)).1 (gt l i).1=true
  ·
   skip
   refine bG hcx cJ [] _ [] rfl rfl rfl rfl ?_ CT
   refine bm rfl ?_
   refine Tr.skip ?_
   refine hK7 _ ?_
   refine bF hcx [1000035] _ [] rfl rfl rfl ?_ fg
   exact ⟨i+1,⟨⟨by omega,by omega,fun _=>rE (hi.2.2 (by omega)) (Or.inr b5)⟩,O1⟩,LT,rfl⟩
  replace b5:=Bool.eq_false_iff.2 b5
  refine bG hcx cJ [] _ [] rfl rfl rfl rfl ?_ CT
  refine cr rfl ?_
  refine aa hcx [] _ [] rfl rfl rfl ?_ fg
  exact Tr.ret n0
 refine Tr.exit ?_
 refine hK5 _ ?_
 refine aa hcx [] _ [] rfl rfl rfl ?_ fg
 exact Tr.ret n0
end Go.Sx
namespace Go.Sx
open Go.RowKit Go.Proofs
set_option maxRecDepth 100000
set_option maxHeartbeats 8000000
def bE (n:Int) (m:Nat) :Nat:= ((if n< 0 then -(n+1) else n).tmod (m:Int)).toNat
theorem rL (n:Int) (m:Nat) : (((bE n m:Nat) :Int)) = (if n< 0 then -(n+1) else n).tmod (m:Int) :=by
 unfold bE
 refine Int.toNat_of_nonneg (Int.tmod_nonneg _ ?_)
 split<;>omega
theorem ex (n:Int) {m:Nat} (h:0< m) :bE n m< m:=by
 have h1:=rL n m
 have h2:=Int.tmod_lt_of_pos (if n< 0 then -(n+1) else n) (b:= (m:Int)) (by omega)
 omega
def j3 (l:List Int) (i m:Nat) :Nat:=if l.length≤i then 0 else bE (gt l i) m
theorem rM (l:List Int) (i:Nat) {m:Nat} (h:0< m) :j3 l i m< m:=by
 unfold j3;split
 · exact h
 · exact ex _ h
def LI (l:List Int) :Prop:=l.length≤9223372036854775807∧∀i,i< l.length→ -9223372036854775808≤gt l i∧gt l i≤9223372036854775807
def eN (n:Nat) :List UInt8:=if n % 3=0 then [UInt8.ofNat (97+n / 3)] else [UInt8.ofNat (97+n / 3),UInt8.ofNat (97+n % 3)]
def vals5:List (List UInt8) := [[],[49],[50],[97,32,98],[49,50]]
def er (l:List Int) :Nat→List ab×Nat
 |0=> ([],0)
 |i+1=> ((er l i).1++[(eN ((er l i).2+j3 l (2*i) 3),gt vals5 (j3 l (2*i+1) 5))],(er l i).2+j3 l (2*i) 3+1)
def kB (l:List Int) :Nat:=min ((l.length+1) / 2) 11
def hV (l:List Int) :List ab:= (er l (kB l)).1
theorem iY (l:List Int) : ∀i,(er l i).1.length=i
 |0=>rfl
 |i+1=>by simp[er,iY l i]
theorem to (l:List Int) : ∀i,(er l i).2≤3*i
 |0=>Nat.zero_le _
 |i+1=>by
  have h:=to l i
  have h2:=rM l (2*i) (m:=3) (by omega)
  simp only[er];omega
theorem w5 (n:Nat) :1≤(eN n).length∧(eN n).length≤2:=by unfold eN;split<;>simp
def lS (l:List ab) (n:Int) :List UInt8:=
 let k:=bE n (3*l.length+5)
 if k< l.length then (gt l k).1 else if k< 2*l.length then (gt l (k - l.length)).1++[97] else if k=2*l.length then [] else eN k
theorem Vb {l:List ab} {n:Int} {k:Nat} (hk:bE n (3*l.length+5) =k) (h:k< l.length) :lS l n= (gt l k).1:=by subst hk;exact if_pos h
theorem Vc {l:List ab} {n:Int} {k:Nat} (hk:bE n (3*l.length+5) =k) (h: ¬k< l.length) (h2:k< 2*l.length) :lS l n= (gt l (k - l.length)).1++[97] :=by subst hk;unfold lS;simp only[];rw[if_neg h,if_pos h2]
theorem Vd {l:List ab} {n:Int} {k:Nat} (hk:bE n (3*l.length+5) =k) (h2:k=2*l.length) :lS l n= [] :=by subst hk;unfold lS;simp only[];rw[if_neg (by omega),if_neg (by omega),if_pos h2]
theorem Ve {l:List ab} {n:Int} {k:Nat} (hk:bE n (3*l.length+5) =k) (h: ¬k< l.length) (h2: ¬k< 2*l.length) (h3: ¬k=2*l.length) :lS l n=eN k:=by subst hk;unfold lS;simp only[];rw[if_neg h,if_neg h2,if_neg h3]
theorem lc {x y:List UInt8} (h:x=y) : (some (C.val (str x))) =some (C.val (str y)) :=by rw[h]
theorem n5 {p:Prop} (e:p:=by intro KZ hZ;simp -implicitDefEqProofs (disch:=first|omega| (simp only[go_sem,lA,lD,lT] <;>omega) |decide) only[go_sem,↓reduceIte,Nat.reduceEqDiff,reduceCtorEq,Nat.reduceLT,Nat.reduceBEq,Nat.reduceAdd,hy];with_reducible exact hZ) :p:=e
theorem C1 {p:Prop} (e:p:=by simp -implicitDefEqProofs (disch:=first|omega| (simp only[go_sem,lA,lD,lT] <;>omega) |decide) only[go_sem,↓reduceIte,Nat.reduceEqDiff,reduceCtorEq];all_goals (exact congrArg (fun z=>some (C.val (.int .i64 z))) (by rw[rL];first| (rw[if_pos (by omega)];rfl) |rw[if_neg (by omega)]))) :p:=e
theorem Y7 {gl:Nat→C} {M:Nat} {pu:Nat→List C→Option C} (hcx:CxOK (aN gl M pu)) (n:Int) (m:Nat) (hn: -9223372036854775808≤n∧n≤9223372036854775807∧0< m∧m≤9223372036854775807) :FC Tryd.prog gl 17 [.val (.int .i64 n),.val (nI m)] [] (.val (nI (bE n m))) [] :=by
 replace hcx:=hcx.reN (M:=13)
 refine bY (cx:=aN gl 13 pu) (rs:= [.tmp 4]) rfl Tryd.func17 rfl rfl rfl (by simp only[List.length_cons,List.length_nil];decide) (by simp only[go_sem]) ?_
 simp only[cM,go_sem]
 have hy:=True.intro
 refine aa hcx [] _ [] rfl rfl rfl ?_ n5
 refine ae fun K1 hK1=> ?_
 refine aa hcx [] _ [] rfl rfl rfl ?_ n5
 refine bR rfl (fun hc6=> ?_) (fun hc6=> ?_)
 ·
  refine bF hcx [1000009] _ [] rfl rfl rfl ?_ n5
  refine hK1 _ ?_
  refine aa hcx [1000012] _ [] rfl rfl rfl ?_ n5
  exact Tr.ret C1
 refine Tr.skip ?_
 refine hK1 _ ?_
 refine aa hcx [1000012] _ [] rfl rfl rfl ?_ n5
 exact Tr.ret C1
theorem rN {p:Prop} (e:p:=by intro KZ hZ;simp -implicitDefEqProofs (disch:=first|omega| (simp only[go_sem,lA,lD,lT] <;>omega) |decide) only[go_sem,↓reduceIte,Nat.reduceEqDiff,reduceCtorEq,Nat.reduceLT,Nat.reduceBEq,Nat.reduceAdd,h17,Nat.not_lt_zero,hy];with_reducible exact hZ) :p:=e
theorem C2 {p:Prop} (e:p:=by simp -implicitDefEqProofs (disch:=first|omega| (simp only[go_sem,lA,lD,lT] <;>omega) |decide) only[go_sem,↓reduceIte,Nat.reduceEqDiff,reduceCtorEq];all_goals (exact congrArg (fun z=>some (C.val (nI z))) (by unfold j3;first|rw[if_pos hc14] |rw[if_neg hc14]))) :p:=e
theorem Y8 {gl:Nat→C} {M:Nat} {pu:Nat→List C→Option C} (hcx:CxOK (aN gl M pu)) (h17: ∀ (n:Int) (m:Nat),-9223372036854775808≤n∧n≤9223372036854775807∧0< m∧m≤9223372036854775807→pu 17 [.val (.int .i64 n),.val (nI m)] =some (.val (nI (bE n m)))) (l:List Int) (i m:Nat) (hl:LI l) (hi:i≤1000000) (hm:0< m∧m≤9223372036854775807) :FC Tryd.prog gl 48 [sl iC .no l,.val (nI i),.val (nI m)] [] (.val (nI (j3 l i m))) [] :=by
 replace hcx:=hcx.reN (M:=21)
 refine bY (cx:=aN gl 21 pu) (rs:= [.tmp 6]) rfl Tryd.func48 rfl rfl rfl (by simp only[List.length_cons,List.length_nil];decide) (by simp only[go_sem]) ?_
 simp only[cM,go_sem]
 have hy:=True.intro
 have hl1:=hl.1
 refine aa hcx [] _ [] rfl rfl rfl ?_ rN
 refine ae fun K1 hK1=> ?_
 refine aa hcx [] [some 7,some 8,some 9,some 10,some 11,some 12,some 13,some 14] [] rfl rfl rfl ?_ rN
 refine bR rfl (fun hc14=> ?_) (fun hc14=> ?_)
 ·
  refine aa hcx [] _ [] rfl rfl rfl ?_ rN
  exact Tr.ret C2
 have hb1:=hl.2 i (by omega)
 refine Tr.skip ?_
 refine hK1 _ ?_
 refine aa hcx [1000020] _ [] rfl rfl rfl ?_ rN
 exact Tr.ret C2
theorem rO {p:Prop} (e:p:=by intro KZ hZ;simp -implicitDefEqProofs (disch:=first|omega| (simp only[go_sem,lA,lD,lT] <;>omega) |decide) only[go_sem,↓reduceIte,Nat.reduceEqDiff,reduceCtorEq,Nat.reduceLT,Nat.reduceBEq,Nat.reduceAdd,hy];with_reducible exact hZ) :p:=e
theorem C3 {p:Prop} (e:p:=by simp -implicitDefEqProofs (disch:=first|omega| (simp only[go_sem,lA,lD,lT] <;>omega) |decide) only[go_sem,↓reduceIte,Nat.reduceEqDiff,reduceCtorEq];all_goals (exact lc (by unfold eN;first|rw[if_pos hc5] |rw[if_neg hc5] <;>rfl))) :p:=e
theorem Y9 {gl:Nat→C} {M:Nat} {pu:Nat→List C→Option C} (hcx:CxOK (aN gl M pu)) (n:Nat) (hn:n≤1000000000000) :FC Tryd.prog gl 49 [.val (nI n)] [] (.val (str (eN n))) [] :=by
 replace hcx:=hcx.reN (M:=22)
 refine bY (cx:=aN gl 22 pu) (rs:= [.tmp 2]) rfl Tryd.func49 rfl rfl rfl (by simp only[List.length_cons,List.length_nil];decide) (by simp only[go_sem]) ?_
 simp only[cM,go_sem]
 have hy:=True.intro
 refine aa hcx [] _ [] rfl rfl rfl ?_ rO
 refine ae fun K1 hK1=> ?_
 refine aa hcx [] _ [] rfl rfl rfl ?_ rO
 refine bR rfl (fun hc5=> ?_) (fun hc5=> ?_)
 ·
  refine aa hcx [1000011] _ [] rfl rfl rfl ?_ rO
  exact Tr.ret C3
 refine Tr.skip ?_
 refine hK1 _ ?_
 refine aa hcx [1000021] _ [] rfl rfl rfl ?_ rO
 exact Tr.ret C3
theorem mB {p:Prop} (e:p:=by intro KZ hZ;simp -implicitDefEqProofs (disch:=first|omega| (simp only[go_sem,lA,lD,lT] <;>omega) |decide) only[go_sem,↓reduceIte,Nat.reduceEqDiff,reduceCtorEq,Nat.reduceLT,Nat.reduceBEq,Nat.reduceAdd,hy];with_reducible exact hZ) :p:=e
theorem PS {p:Prop} (e:p:=by intro KZ hZ;simp -implicitDefEqProofs (disch:=first|omega| (simp only[go_sem,lA,lD,lT] <;>omega) |decide) only[go_sem,↓reduceIte,Nat.reduceEqDiff,reduceCtorEq,Nat.reduceLT,Nat.reduceBEq,Nat.reduceAdd,hy];refine And.intro ?_ hZ;exact rfl) :p:=e
theorem PT {p:Prop} (e:p:=by simp -implicitDefEqProofs (disch:=first|omega| (simp only[go_sem,lA,lD,lT] <;>omega) |decide) only[go_sem,↓reduceIte,Nat.reduceEqDiff,reduceCtorEq];all_goals (rw[List.take_length])) :p:=e
theorem Za {gl:Nat→C} {M:Nat} {pu:Nat→List C→Option C} (hcx:CxOK (aN gl M pu)) (l:List ab) (hl:l.length≤1000000) :FC Tryd.prog gl 13 [sl eC .no l] [] (sl eC (.own 2) l) [] :=by
 replace hcx:=hcx.reN (M:=26)
 refine bY (cx:=aN gl 26 pu) (rs:= [.tmp 2]) rfl Tryd.func13 rfl rfl rfl (by simp only[List.length_cons,List.length_nil];decide) (by simp only[go_sem]) ?_
 simp only[cM,go_sem]
 have hy:=True.intro
 refine aa hcx [] _ [] rfl rfl rfl ?_ mB
 refine aa hcx [] _ [] rfl rfl rfl ?_ mB
 refine ae fun K1 hK1=> ?_
 refine aa hcx [] _ [] rfl rfl rfl ?_ mB
 refine Tr.k [0,3,4] ?_
 refine Tr.blk ?_
 refine cj (α:=Nat) (fun a=> [(0,?v0_1),(3,sl eC (.own 2) (l.take a)),(4,.val (nI a))]) (fun a=> ?h_1) (fun a=>a≤l.length) (fun a=>l.length - a) (0) (Nat.zero_le _) ?le_1 ?hh_1 ?bd_1
 case hh_1=>exact rfl
 case le_1=>exact LT
 rintro i hi
 refine ae fun K2 hK2=> ?_
 refine aa hcx [] _ [] rfl rfl rfl ?_ mB
 refine bR rfl (fun hc8=> ?_) (fun hc8=> ?_)
 ·
  refine Tr.skip ?_
  refine hK2 _ ?_
  refine ae fun K3 hK3=> ?_
  refine Tr.blk ?_
  refine gJ hcx cJ [11,1000024] _ [] rfl rfl rfl rfl ?_ PS
  refine hK3 _ ?_
  refine bF hcx [1000010] _ [] rfl rfl rfl ?_ mB
  refine ⟨i+1,⟨by omega,O1⟩,?_,rfl⟩
  (simp only[bD,aO,↓bB,↓reduceIte,Nat.reduceEqDiff,aD,aP,aE,aQ,aR,and_true,true_and];all_goals (repeat' first|exact CLe.refl _|exact True.intro| (refine bM ?_;first|rfl| (simp only[List.take_zero];done)) |exact cG (by omega) |exact b8 (by omega) |exact ct (by omega) |exact cu (by omega) |with_reducible apply And.intro))
  all_goals (refine dK ?_;rw[←t7 l i hc8])
 obtain rfl:i=l.length:=by omega
 refine Tr.exit ?_
 refine hK1 _ ?_
 refine aa hcx [1000025] _ [] rfl rfl rfl ?_ mB
 exact Tr.ret PT
theorem mC {p:Prop} (e:p:=by intro KZ hZ;simp -implicitDefEqProofs (disch:=first|omega| (simp only[go_sem,lA,lD,lT] <;>omega) |decide) only[go_sem,↓reduceIte,Nat.reduceEqDiff,reduceCtorEq,Nat.reduceLT,Nat.reduceBEq,Nat.reduceAdd,hy];with_reducible exact hZ) :p:=e
theorem PU {p:Prop} (e:p:=by intro KZ hZ;simp -implicitDefEqProofs (disch:=first|omega| (simp only[go_sem,lA,lD,lT] <;>omega) |decide) only[go_sem,↓reduceIte,Nat.reduceEqDiff,reduceCtorEq,Nat.reduceLT,Nat.reduceBEq,Nat.reduceAdd,hy];refine And.intro ?_ hZ;exact rfl) :p:=e
theorem PV {p:Prop} (e:p:=by simp -implicitDefEqProofs (disch:=first|omega| (simp only[go_sem,lA,lD,lT] <;>omega) |decide) only[go_sem,↓reduceIte,Nat.reduceEqDiff,reduceCtorEq];all_goals (rw[List.take_length])) :p:=e
theorem Zb {gl:Nat→C} {M:Nat} {pu:Nat→List C→Option C} (hcx:CxOK (aN gl M pu)) (l:List ab) (hl:l.length≤1000000) :FC Tryd.prog gl 18 [sl eC .no l] [] (sl eC (.own 2) l) [] :=by
 replace hcx:=hcx.reN (M:=26)
 refine bY (cx:=aN gl 26 pu) (rs:= [.tmp 2]) rfl Tryd.func18 rfl rfl rfl (by simp only[List.length_cons,List.length_nil];decide) (by simp only[go_sem]) ?_
 simp only[cM,go_sem]
 have hy:=True.intro
 refine aa hcx [] _ [] rfl rfl rfl ?_ mC
 refine aa hcx [] _ [] rfl rfl rfl ?_ mC
 refine ae fun K1 hK1=> ?_
 refine aa hcx [] _ [] rfl rfl rfl ?_ mC
 refine Tr.k [0,3,4] ?_
 refine Tr.blk ?_
 refine cj (α:=Nat) (fun a=> [(0,?v0_1),(3,sl eC (.own 2) (l.take a)),(4,.val (nI a))]) (fun a=> ?h_1) (fun a=>a≤l.length) (fun a=>l.length - a) (0) (Nat.zero_le _) ?le_1 ?hh_1 ?bd_1
 case hh_1=>exact rfl
 case le_1=>exact LT
 rintro i hi
 refine ae fun K2 hK2=> ?_
 refine aa hcx [] _ [] rfl rfl rfl ?_ mC
 refine bR rfl (fun hc8=> ?_) (fun hc8=> ?_)
 ·
  refine Tr.skip ?_
  refine hK2 _ ?_
  refine ae fun K3 hK3=> ?_
  refine Tr.blk ?_
  refine gJ hcx cJ [11,1000024] _ [] rfl rfl rfl rfl ?_ PU
  refine hK3 _ ?_
  refine bF hcx [1000010] _ [] rfl rfl rfl ?_ mC
  refine ⟨i+1,⟨by omega,O1⟩,?_,rfl⟩
  (simp only[bD,aO,↓bB,↓reduceIte,Nat.reduceEqDiff,aD,aP,aE,aQ,aR,and_true,true_and];all_goals (repeat' first|exact CLe.refl _|exact True.intro| (refine bM ?_;first|rfl| (simp only[List.take_zero];done)) |exact cG (by omega) |exact b8 (by omega) |exact ct (by omega) |exact cu (by omega) |with_reducible apply And.intro))
  all_goals (refine dK ?_;rw[←t7 l i hc8])
 obtain rfl:i=l.length:=by omega
 refine Tr.exit ?_
 refine hK1 _ ?_
 refine aa hcx [1000025] _ [] rfl rfl rfl ?_ mC
 exact Tr.ret PV
end Go.Sx
namespace Go.Sx
open Go.RowKit Go.Proofs
set_option maxRecDepth 100000
set_option maxHeartbeats 8000000
def fM (l:List ab) (k:List UInt8) (i:Nat) :Nat:= ((l.take i).filter fun x=>bl x.1 k).length
def br (l:List ab) (k:List UInt8) :Nat:=fM l k l.length
theorem rT {l:List ab} {k:List UInt8} {i:Nat} (h:i< l.length) (hb:bl (gt l i).1 k=true) :fM l k (i+1) =fM l k i+1:=by
 unfold fM;rw[dN l i h,List.filter_append];simp[hb]
theorem rU {l:List ab} {k:List UInt8} {i:Nat} (h:i< l.length) (hb:bl (gt l i).1 k=false) :fM l k (i+1) =fM l k i:=by
 unfold fM;rw[dN l i h,List.filter_append];simp[hb]
theorem FV (l:List ab) (k:List UInt8) (i:Nat) :fM l k i≤i:=by
 unfold fM
 have h1:=List.length_filter_le (fun x:ab=>bl x.1 k) (l.take i)
 have h2:=List.length_take_le i l
 omega
def ld (l:List ab) (k:List UInt8) :Option Nat:=l.findIdx? fun x=>decide (x.1=k)
def g5 (l:List ab) (k:List UInt8) :Int:= ((ld l k).map fun n=> ((n:Nat) :Int)).getD (-1)
theorem Wz {l:List ab} {k:List UInt8} {i:Nat} (h:i< l.length) (h0: ∀j< i,(gt l j).1≠k) (hb: (gt l i).1=k) :ld l k=some i:=by
 have e: ∀j (hj:j< l.length),gt l j=l[j] :=fun j hj=>by simp[gt,List.getD,List.getElem?_eq_getElem hj]
 unfold ld
 rw[List.findIdx?_eq_some_iff_getElem]
 refine ⟨h,by rw[←e i h];simp[hb],fun j hj=> ?_⟩
 rw[←e j (by omega)];simp[h0 j hj]
theorem WA {l:List ab} {k:List UInt8} (h0: ∀j< l.length,(gt l j).1≠k) :ld l k=none:=by
 have e: ∀j (hj:j< l.length),gt l j=l[j] :=fun j hj=>by simp[gt,List.getD,List.getElem?_eq_getElem hj]
 unfold ld
 rw[List.findIdx?_eq_none_iff]
 intro x hx
 obtain ⟨j,hj,rfl⟩ :=List.mem_iff_getElem.1 hx
 rw[←e j hj];simp[h0 j hj]
theorem RM {l:List ab} {k:List UInt8} {i:Nat} (h:i< l.length) (h0: ∀j< i,(gt l j).1≠k) (hb: (gt l i).1=k) :C.val (nI i) =C.val (.int .i64 (g5 l k)) :=by unfold g5;rw[Wz h h0 hb];rfl
theorem RN {l:List ab} {k:List UInt8} (h0: ∀j< l.length,(gt l j).1≠k) :C.val (.int .i64 (-1)) =C.val (.int .i64 (g5 l k)) :=by unfold g5;rw[WA h0];rfl
theorem aax {l:List ab} {k:List UInt8} {i:Nat} (h: ∀j< i,(gt l j).1≠k) (hb: ¬ (gt l i).1=k) : ∀j< i+1,(gt l j).1≠k:=fun j hj=>by
 by_cases e:j=i
 · rw[e];exact hb
 · exact h j (by omega)
def ib (l:List ab) (a b:List UInt8) (i:Nat) :List ab:= (l.take i).filter fun x=> !bl x.1 a && bl x.1 b
theorem vY {l:List ab} {a b:List UInt8} {i:Nat} (h:i< l.length) (h1:bl (gt l i).1 a=false) (h2:bl (gt l i).1 b=true) :ib l a b i++[gt l i] =ib l a b (i+1) :=by
 unfold ib;rw[dN l i h,List.filter_append];simp[h1,h2]
theorem lU {l:List ab} {a b:List UInt8} {i:Nat} (h:i< l.length) (h1:bl (gt l i).1 a=true∨bl (gt l i).1 b=false) :ib l a b i=ib l a b (i+1) :=by
 unfold ib;rw[dN l i h,List.filter_append];rcases h1 with h1|h1<;>simp[h1]
theorem y3 (l:List ab) (a b:List UInt8) (i:Nat) : (ib l a b i).length≤i:=by
 have h1:=List.length_filter_le (fun x:ab=> !bl x.1 a && bl x.1 b) (l.take i)
 have h2:=List.length_take_le i l
 unfold ib;omega
theorem RO {x y:ab} (h: ¬x.1=y.1) : ¬x=y:=fun e=>h (by rw[e])
theorem RP {x y:ab} (h: ¬x.2=y.2) : ¬x=y:=fun e=>h (by rw[e])
theorem WB {x y:ab} (h:x.1=y.1) (h2:x.2=y.2) :x=y:=Prod.ext h h2
theorem RQ {l:List Int} {i:Nat} (h1:2*i< l.length) (h2:i< 11) :i< kB l:=by unfold kB;omega
theorem De {l:List Int} {i:Nat} (h:i≤kB l) (h1: ¬ (2*i< l.length∧i< 11)) :i=kB l:=by unfold kB at h ⊢;omega
theorem tz (l:List Int) :kB l≤11:=by unfold kB;omega
theorem Lt:sl sC .full ((((((List.replicate 5 ([] :List UInt8)).set 0 []).set 1 [49]).set 2 [50]).set 3 [97,32,98]).set 4 [49,50]) =sl sC .full vals5:=rfl
theorem y4:vals5.length=5:=rfl
theorem iU {p:Prop} (e:p:=by intro KZ hZ;simp -implicitDefEqProofs (disch:=first|omega| (simp only[go_sem,lA,lD,lT,hle] <;>omega) |decide) only[go_sem,↓reduceIte,Nat.reduceEqDiff,reduceCtorEq,Nat.reduceLT,Nat.reduceBEq,Nat.reduceAdd,b1,hy];with_reducible exact hZ) :p:=e
theorem RR {p:Prop} (e:p:=by simp -implicitDefEqProofs (disch:=first|omega| (simp only[go_sem,lA,lD,lT,hle] <;>omega) |decide) only[go_sem,↓reduceIte,Nat.reduceEqDiff,reduceCtorEq];all_goals (rfl)) :p:=e
theorem aay {gl:Nat→C} {M:Nat} {pu:Nat→List C→Option C} (hcx:CxOK (aN gl M pu)) (l:List ab) (k:List UInt8) (hl:l.length≤1000000) :FC Tryd.prog gl 58 [sl eC .no l,.val (str k)] [] (.val (nI (br l k))) [] :=by
 replace hcx:=hcx.reN (M:=23)
 refine bY (cx:=aN gl 23 pu) (rs:= [.tmp 4]) rfl Tryd.func58 rfl rfl rfl (by simp only[List.length_cons,List.length_nil];decide) (by simp only[go_sem]) ?_
 simp only[cM,go_sem]
 have b1:=True.intro
 have hy:=True.intro
 have hle:=FV l k
 refine aa hcx [] _ [] rfl rfl rfl ?_ iU
 refine aa hcx [] _ [] rfl rfl rfl ?_ iU
 refine ae fun K1 hK1=> ?_
 refine aa hcx [] _ [] rfl rfl rfl ?_ iU
 refine Tr.k [0,1,5,6] ?_
 refine Tr.blk ?_
 refine cj (α:=Nat) (fun a=> [(0,?v0_1),(1,?v1_1),(5,.val (nI (fM l k a))),(6,.val (nI a))]) (fun a=> ?h_1) (fun a=>a≤l.length) (fun a=>l.length - a) (0) (Nat.zero_le _) ?le_1 ?hh_1 ?bd_1
 case hh_1=>exact rfl
 case le_1=>exact LT
 rintro i hi
 refine ae fun K2 hK2=> ?_
 refine aa hcx [] _ [] rfl rfl rfl ?_ iU
 refine bR rfl (fun hc10=> ?_) (fun hc10=> ?_)
 ·
  have hli:=hle i
  refine Tr.skip ?_
  refine hK2 _ ?_
  refine ae fun K3 hK3=> ?_
  refine Tr.blk ?_
  by_cases b1:bl (gt l i).1 k=true
  ·
   have hb:=b1
   refine aa hcx [] _ [] rfl rfl rfl ?_ iU
   refine cr rfl ?_
   refine bF hcx [1000021] _ [] rfl rfl rfl ?_ iU
   refine hK3 _ ?_
   refine bF hcx [1000012] _ [] rfl rfl rfl ?_ iU
   refine ⟨i+1,⟨by omega,O1⟩,?_,rfl⟩
   (simp only[bD,aO,↓bB,↓reduceIte,Nat.reduceEqDiff,aD,aP,aE,aQ,aR,and_true,true_and];all_goals (repeat' first|exact CLe.refl _|exact True.intro| (refine bM ?_;first|rfl| (simp only[List.take_zero];done)) |exact cG (by omega) |exact b8 (by omega) |exact ct (by omega) |exact cu (by omega) |with_reducible apply And.intro))
   all_goals (refine cG ?_;first| (rw[rT hc10 hb];done) | (rw[rU hc10 hb];done))
  replace b1:=Bool.eq_false_iff.2 b1
  have hb:=b1
  refine aa hcx [] _ [] rfl rfl rfl ?_ iU
  refine bm rfl ?_
  refine Tr.skip ?_
  refine hK3 _ ?_
  refine bF hcx [1000012] _ [] rfl rfl rfl ?_ iU
  refine ⟨i+1,⟨by omega,O1⟩,?_,rfl⟩
  (simp only[bD,aO,↓bB,↓reduceIte,Nat.reduceEqDiff,aD,aP,aE,aQ,aR,and_true,true_and];all_goals (repeat' first|exact CLe.refl _|exact True.intro| (refine bM ?_;first|rfl| (simp only[List.take_zero];done)) |exact cG (by omega) |exact b8 (by omega) |exact ct (by omega) |exact cu (by omega) |with_reducible apply And.intro))
  all_goals (refine cG ?_;first| (rw[rT hc10 hb];done) | (rw[rU hc10 hb];done))
 obtain rfl:i=l.length:=by omega
 refine Tr.exit ?_
 refine hK1 _ ?_
 refine aa hcx [1000022] _ [] rfl rfl rfl ?_ iU
 exact Tr.ret RR
theorem lf {p:Prop} (e:p:=by intro KZ hZ;simp -implicitDefEqProofs (disch:=first|omega| (simp only[go_sem,lA,lD,lT] <;>omega) |decide) only[go_sem,↓reduceIte,Nat.reduceEqDiff,reduceCtorEq,Nat.reduceLT,Nat.reduceBEq,Nat.reduceAdd,hy];with_reducible exact hZ) :p:=e
theorem Df {p:Prop} (e:p:=by simp -implicitDefEqProofs (disch:=first|omega| (simp only[go_sem,lA,lD,lT] <;>omega) |decide) only[go_sem,↓reduceIte,Nat.reduceEqDiff,reduceCtorEq];all_goals (first|exact congrArg some (RM hc9 hi.2 hc18) |exact congrArg some (RN fun j hj=>hi.2 j (by omega)))) :p:=e
theorem aaz {gl:Nat→C} {M:Nat} {pu:Nat→List C→Option C} (hcx:CxOK (aN gl M pu)) (l:List ab) (k:List UInt8) (hl:l.length≤1000000) :FC Tryd.prog gl 35 [sl eC .no l,.val (str k)] [] (.val (.int .i64 (g5 l k))) [] :=by
 replace hcx:=hcx.reN (M:=20)
 refine bY (cx:=aN gl 20 pu) (rs:= [.tmp 4]) rfl Tryd.func35 rfl rfl rfl (by simp only[List.length_cons,List.length_nil];decide) (by simp only[go_sem]) ?_
 simp only[cM,go_sem]
 have hy:=True.intro
 refine aa hcx [] _ [] rfl rfl rfl ?_ lf
 refine ae fun K1 hK1=> ?_
 refine aa hcx [] _ [] rfl rfl rfl ?_ lf
 refine Tr.k [0,1,5] ?_
 refine Tr.blk ?_
 refine cj (α:=Nat) (fun a=> [(0,?v0_1),(1,?v1_1),(5,.val (nI a))]) (fun a=> ?h_1) (fun a=>a≤l.length∧∀j< a,(gt l j).1≠k) (fun a=>l.length - a) (0) ⟨Nat.zero_le _,fun j hj=>absurd hj (Nat.not_lt_zero j)⟩ ?le_1 ?hh_1 ?bd_1
 case hh_1=>exact rfl
 case le_1=>exact LT
 rintro i hi
 refine ae fun K2 hK2=> ?_
 refine aa hcx [] _ [] rfl rfl rfl ?_ lf
 refine bR rfl (fun hc9=> ?_) (fun hc9=> ?_)
 ·
  refine Tr.skip ?_
  refine hK2 _ ?_
  refine ae fun K3 hK3=> ?_
  refine Tr.blk ?_
  refine aa hcx [] _ [] rfl rfl rfl ?_ lf
  refine bR rfl (fun hc18=> ?_) (fun hc18=> ?_)
  ·
   refine aa hcx [1000019] _ [] rfl rfl rfl ?_ lf
   exact Tr.ret Df
  refine Tr.skip ?_
  refine hK3 _ ?_
  refine bF hcx [1000011] _ [] rfl rfl rfl ?_ lf
  exact ⟨i+1,⟨⟨by omega,aax hi.2 hc18⟩,O1⟩,LT,rfl⟩
 refine Tr.exit ?_
 refine hK1 _ ?_
 refine aa hcx [] _ [] rfl rfl rfl ?_ lf
 exact Tr.ret Df
theorem jn {p:Prop} (e:p:=by intro KZ hZ;simp -implicitDefEqProofs (disch:=first|omega| (simp only[go_sem,lA,lD,lT] <;>omega) |decide) only[go_sem,↓reduceIte,Nat.reduceEqDiff,reduceCtorEq,Nat.reduceLT,Nat.reduceBEq,Nat.reduceAdd,eq_self,decide_true,decide_false,not_true_eq_false,not_false_eq_true,b1,b2,hy];with_reducible exact hZ) :p:=e
theorem xd {p:Prop} (e:p:=by intro KZ hZ;simp -implicitDefEqProofs (disch:=first|omega| (simp only[go_sem,lA,lD,lT] <;>omega) |decide) only[go_sem,↓reduceIte,Nat.reduceEqDiff,reduceCtorEq,Nat.reduceLT,Nat.reduceBEq,Nat.reduceAdd,eq_self,decide_true,decide_false,not_true_eq_false,not_false_eq_true,b1,b2,hy];with_reducible refine And.intro ?_ hZ;first|exact rfl|decide) :p:=e
theorem rV {p:Prop} (e:p:=by simp -implicitDefEqProofs (disch:=first|omega| (simp only[go_sem,lA,lD,lT] <;>omega) |decide) only[go_sem,↓reduceIte,Nat.reduceEqDiff,reduceCtorEq];all_goals (first| (rw[Ol hc10];done) | (rw[FB (i:=i) (RO b1)];done) | (rw[FB (i:=i) (RP b2)];done) | (rw[Uw hc14 hq hi.2];done))) :p:=e
theorem aaA {gl:Nat→C} {M:Nat} {pu:Nat→List C→Option C} (hcx:CxOK (aN gl M pu)) (x y:List ab) (hx:x.length≤1000000) (hy0:y.length≤1000000) :FC Tryd.prog gl 34 [sl eC .no x,sl eC .no y] [] (.val (.bool (decide (x=y)))) [] :=by
 replace hcx:=hcx.reN (M:=41)
 refine bY (cx:=aN gl 41 pu) (rs:= [.tmp 4]) rfl Tryd.func34 rfl rfl rfl (by simp only[List.length_cons,List.length_nil];decide) (by simp only[go_sem]) ?_
 simp only[cM,go_sem]
 have b1:=True.intro
 have b2:=True.intro
 have hy:=True.intro
 refine aa hcx [] _ [] rfl rfl rfl ?_ jn
 refine ae fun K1 hK1=> ?_
 refine aa hcx [] _ [] rfl rfl rfl ?_ jn
 refine bR rfl (fun hc10=> ?_) (fun hc10=> ?_)
 ·
  refine aa hcx [] _ [] rfl rfl rfl ?_ jn
  exact Tr.ret rV
 have hq:x.length=y.length:=by omega
 refine Tr.skip ?_
 refine hK1 _ ?_
 refine ae fun K2 hK2=> ?_
 refine aa hcx [] _ [] rfl rfl rfl ?_ jn
 refine Tr.k [0,1,5] ?_
 refine Tr.blk ?_
 refine cj (α:=Nat) (fun a=> [(0,?v0_1),(1,?v1_1),(5,.val (nI a))]) (fun a=> ?h_1) (fun a=>a≤x.length∧x.take a=y.take a) (fun a=>x.length - a) (0) ⟨Nat.zero_le _,rfl⟩ ?le_1 ?hh_1 ?bd_1
 case hh_1=>exact rfl
 case le_1=>exact LT
 rintro i hi
 refine ae fun K3 hK3=> ?_
 refine aa hcx [] _ [] rfl rfl rfl ?_ jn
 refine bR rfl (fun hc14=> ?_) (fun hc14=> ?_)
 ·
  refine Tr.skip ?_
  refine hK3 _ ?_
  refine Tr.k [0,1,5] ?_
  refine ae fun K4 hK4=> ?_
  refine Tr.blk ?_
  by_cases b1: (gt x i).1= (gt y i).1
  ·
   by_cases b2: (gt x i).2= (gt y i).2
   ·
    refine bG hcx cJ [] [some 17,some 18,some 19,some 20,some 21,some 22,some 23,some 24,some 25,some 26,some 27,some 28,some 29,some 30,some 31,some 32,some 33,some 34,some 35,some 36,some 37,some 38,some 39,some 40] [] rfl rfl rfl rfl ?_ xd
    refine Tr.k [0,1,5,40] ?_
    refine bm rfl ?_
    refine Tr.skip ?_
    refine hK4 _ ?_
    refine bF hcx [1000016] _ [] rfl rfl rfl ?_ jn
    exact ⟨i+1,⟨⟨by omega,B2 hc14 hq hi.2 (WB b1 b2)⟩,O1⟩,LT,rfl⟩
   refine bG hcx cJ [] [some 17,some 18,some 19,some 20,some 21,some 22,some 23,some 24,some 25,some 26,some 27,some 28,some 29,some 30,some 31,some 32,some 33,some 34,some 35,some 36,some 37,some 38,some 39,some 40] [] rfl rfl rfl rfl ?_ xd
   refine Tr.k [0,1,5,40] ?_
   refine cr rfl ?_
   refine aa hcx [] _ [] rfl rfl rfl ?_ jn
   exact Tr.ret rV
  refine bG hcx cJ [] [some 17,some 18,some 19,some 20,some 21,some 22,some 23,some 24,some 25,some 26,some 27,some 28,some 29,some 30,some 31,some 32,some 33,some 34,some 35,some 36,some 37,some 38,some 39,some 40] [] rfl rfl rfl rfl ?_ xd
  refine Tr.k [0,1,5,40] ?_
  refine cr rfl ?_
  refine aa hcx [] _ [] rfl rfl rfl ?_ jn
  exact Tr.ret rV
 refine Tr.exit ?_
 refine hK2 _ ?_
 refine aa hcx [] _ [] rfl rfl rfl ?_ jn
 exact Tr.ret rV
theorem gP {p:Prop} (e:p:=by intro KZ hZ;simp -implicitDefEqProofs (disch:=first|omega| (simp only[go_sem,lA,lD,lT,hle] <;>omega) |decide) only[go_sem,↓reduceIte,Nat.reduceEqDiff,reduceCtorEq,Nat.reduceLT,Nat.reduceBEq,Nat.reduceAdd,b1,b2,hy];with_reducible exact hZ) :p:=e
theorem RS {p:Prop} (e:p:=by simp -implicitDefEqProofs (disch:=first|omega| (simp only[go_sem,lA,lD,lT,hle] <;>omega) |decide) only[go_sem,↓reduceIte,Nat.reduceEqDiff,reduceCtorEq];all_goals (rfl)) :p:=e
theorem aaB {gl:Nat→C} {M:Nat} {pu:Nat→List C→Option C} (hcx:CxOK (aN gl M pu)) (l:List ab) (x y:List UInt8) (hl:l.length≤1000000) :FC Tryd.prog gl 36 [sl eC .no l,.val (str x),.val (str y)] [] (sl eC (.own 2) (ib l x y l.length)) [] :=by
 replace hcx:=hcx.reN (M:=39)
 refine bY (cx:=aN gl 39 pu) (rs:= [.tmp 6]) rfl Tryd.func36 rfl rfl rfl (by simp only[List.length_cons,List.length_nil];decide) (by simp only[go_sem]) ?_
 simp only[cM,go_sem]
 have b1:=True.intro
 have b2:=True.intro
 have hy:=True.intro
 have hle:=y3 l x y
 refine aa hcx [] _ [] rfl rfl rfl ?_ gP
 refine aa hcx [] _ [] rfl rfl rfl ?_ gP
 refine ae fun K1 hK1=> ?_
 refine aa hcx [] _ [] rfl rfl rfl ?_ gP
 refine Tr.k [0,1,2,7,8] ?_
 refine Tr.blk ?_
 refine cj (α:=Nat) (fun a=> [(0,?v0_1),(1,?v1_1),(2,?v2_1),(7,sl eC (.own 2) (ib l x y a)),(8,.val (nI a))]) (fun a=> ?h_1) (fun a=>a≤l.length) (fun a=>l.length - a) (0) (Nat.zero_le _) ?le_1 ?hh_1 ?bd_1
 case hh_1=>exact rfl
 case le_1=>exact LT
 rintro i hi
 refine ae fun K2 hK2=> ?_
 refine aa hcx [] _ [] rfl rfl rfl ?_ gP
 refine bR rfl (fun hc12=> ?_) (fun hc12=> ?_)
 ·
  have hli:=hle i
  refine Tr.skip ?_
  refine hK2 _ ?_
  refine ae fun K3 hK3=> ?_
  refine Tr.blk ?_
  by_cases b1:bl (gt l i).1 x=true
  ·
   skip
   refine aa hcx [] [some 15,some 16,some 17,some 18,some 19,some 20,some 21,some 22,some 23,some 24,some 25,some 26,some 27,some 28,some 29,some 30] [] rfl rfl rfl ?_ gP
   refine bm rfl ?_
   refine Tr.skip ?_
   refine hK3 _ ?_
   refine Tr.k [0,1,2,7,8] ?_
   refine bF hcx [1000014] _ [] rfl rfl rfl ?_ gP
   refine ⟨i+1,⟨by omega,O1⟩,?_,rfl⟩
   (simp only[bD,aO,↓bB,↓reduceIte,Nat.reduceEqDiff,aD,aP,aE,aQ,aR,and_true,true_and];all_goals (repeat' first|exact CLe.refl _|exact True.intro| (refine bM ?_;first|rfl| (simp only[List.take_zero];done)) |exact cG (by omega) |exact b8 (by omega) |exact ct (by omega) |exact cu (by omega) |with_reducible apply And.intro))
   all_goals (refine dK ?_;first|exact vY hc12 b1 b2|exact lU hc12 (Or.inl b1) |exact lU hc12 (Or.inr b2))
  replace b1:=Bool.eq_false_iff.2 b1
  by_cases b2:bl (gt l i).1 y=true
  ·
   skip
   refine aa hcx [] [some 15,some 16,some 17,some 18,some 19,some 20,some 21,some 22,some 23,some 24,some 25,some 26,some 27,some 28,some 29,some 30] [] rfl rfl rfl ?_ gP
   refine cr rfl ?_
   refine bF hcx [31,1000037] _ [] rfl rfl rfl ?_ gP
   refine hK3 _ ?_
   refine Tr.k [0,1,2,7,8] ?_
   refine bF hcx [1000014] _ [] rfl rfl rfl ?_ gP
   refine ⟨i+1,⟨by omega,O1⟩,?_,rfl⟩
   (simp only[bD,aO,↓bB,↓reduceIte,Nat.reduceEqDiff,aD,aP,aE,aQ,aR,and_true,true_and];all_goals (repeat' first|exact CLe.refl _|exact True.intro| (refine bM ?_;first|rfl| (simp only[List.take_zero];done)) |exact cG (by omega) |exact b8 (by omega) |exact ct (by omega) |exact cu (by omega) |with_reducible apply And.intro))
   all_goals (refine dK ?_;first|exact vY hc12 b1 b2|exact lU hc12 (Or.inl b1) |exact lU hc12 (Or.inr b2))
  replace b2:=Bool.eq_false_iff.2 b2
  refine aa hcx [] [some 15,some 16,some 17,some 18,some 19,some 20,some 21,some 22,some 23,some 24,some 25,some 26,some 27,some 28,some 29,some 30] [] rfl rfl rfl ?_ gP
  refine bm rfl ?_
  refine Tr.skip ?_
  refine hK3 _ ?_
  refine Tr.k [0,1,2,7,8] ?_
  refine bF hcx [1000014] _ [] rfl rfl rfl ?_ gP
  refine ⟨i+1,⟨by omega,O1⟩,?_,rfl⟩
  (simp only[bD,aO,↓bB,↓reduceIte,Nat.reduceEqDiff,aD,aP,aE,aQ,aR,and_true,true_and];all_goals (repeat' first|exact CLe.refl _|exact True.intro| (refine bM ?_;first|rfl| (simp only[List.take_zero];done)) |exact cG (by omega) |exact b8 (by omega) |exact ct (by omega) |exact cu (by omega) |with_reducible apply And.intro))
  all_goals (refine dK ?_;first|exact vY hc12 b1 b2|exact lU hc12 (Or.inl b1) |exact lU hc12 (Or.inr b2))
 obtain rfl:i=l.length:=by omega
 refine Tr.exit ?_
 refine hK1 _ ?_
 refine aa hcx [1000038] _ [] rfl rfl rfl ?_ gP
 exact Tr.ret RS
theorem jo {p:Prop} (e:p:=by intro KZ hZ;simp -implicitDefEqProofs (disch:=first|omega| (simp only[go_sem,lA,lD,lT] <;>omega) |decide) only[go_sem,↓reduceIte,Nat.reduceEqDiff,reduceCtorEq,Nat.reduceLT,Nat.reduceBEq,Nat.reduceAdd,e17,hy];with_reducible exact hZ) :p:=e
theorem rW {p:Prop} (e:p:=by simp -implicitDefEqProofs (disch:=first|omega| (simp only[go_sem,lA,lD,lT] <;>omega) |decide) only[go_sem,↓reduceIte,Nat.reduceEqDiff,reduceCtorEq];all_goals (first|exact lc (Vb hk0 hc15).symm|exact lc (Vc hk0 hc15 hc25).symm|exact lc (Vd hk0 hc39).symm|exact lc (Ve hk0 hc15 hc25 hc39).symm)) :p:=e
theorem aaC {gl:Nat→C} {M:Nat} {pu:Nat→List C→Option C} (hcx:CxOK (aN gl M pu)) (h17: ∀ (n:Int) (m:Nat),-9223372036854775808≤n∧n≤9223372036854775807∧0< m∧m≤9223372036854775807→pu 17 [.val (.int .i64 n),.val (nI m)] =some (.val (nI (bE n m)))) (h49: ∀n:Nat,n≤1000000000000→pu 49 [.val (nI n)] =some (.val (str (eN n)))) (l:List ab) (n:Int) (hl:l.length≤1000000) (hk: ∀i,i< l.length→(gt l i).1.length< 1000000) (hn: -9223372036854775808≤n∧n≤9223372036854775807) :FC Tryd.prog gl 20 [sl eC .no l,.val (.int .i64 n)] [] (.val (str (lS l n))) [] :=by
 replace hcx:=hcx.reN (M:=42)
 refine bY (cx:=aN gl 42 pu) (rs:= [.tmp 4]) rfl Tryd.func20 rfl rfl rfl (by simp only[List.length_cons,List.length_nil];decide) (by simp only[go_sem]) ?_
 simp only[cM,go_sem]
 have hy:=True.intro
 have e17:pu 17 [.val (.int .i64 n),.val (nI (3*l.length+5))] =some (.val (nI (bE n (3*l.length+5)))) :=h17 n _ ⟨hn.1,hn.2,by omega,by omega⟩
 have hlt:=ex n (m:=3*l.length+5) (by omega)
 obtain ⟨k,hk0⟩ : ∃k,bE n (3*l.length+5) =k:= ⟨_,rfl⟩
 rw[hk0] at e17 hlt
 refine aa hcx [] _ [] rfl rfl rfl ?_ jo
 refine aa hcx [1000011] _ [] rfl rfl rfl ?_ jo
 refine ae fun K1 hK1=> ?_
 refine aa hcx [] _ [] rfl rfl rfl ?_ jo
 refine bR rfl (fun hc15=> ?_) (fun hc15=> ?_)
 ·
  refine aa hcx [1000020] _ [] rfl rfl rfl ?_ jo
  exact Tr.ret rW
 refine Tr.skip ?_
 refine hK1 _ ?_
 refine ae fun K2 hK2=> ?_
 refine aa hcx [] _ [] rfl rfl rfl ?_ jo
 refine bR rfl (fun hc25=> ?_) (fun hc25=> ?_)
 ·
  have hkk:=hk (k - l.length) (by omega)
  refine aa hcx [1000034] _ [] rfl rfl rfl ?_ jo
  refine Tr.k [4] ?_
  exact Tr.ret rW
 refine Tr.skip ?_
 refine hK2 _ ?_
 refine ae fun K3 hK3=> ?_
 refine aa hcx [] _ [] rfl rfl rfl ?_ jo
 refine bR rfl (fun hc39=> ?_) (fun hc39=> ?_)
 ·
  refine aa hcx [] _ [] rfl rfl rfl ?_ jo
  exact Tr.ret rW
 refine Tr.skip ?_
 refine hK3 _ ?_
 refine Tr.k [5] ?_
 have e49:=h49 k (by omega)
 have hy:= @e49
 refine aa hcx [1000041] _ [] rfl rfl rfl ?_ jo
 exact Tr.ret rW
theorem gQ {p:Prop} (e:p:=by intro KZ hZ;simp -implicitDefEqProofs (disch:=first|omega| (simp only[go_sem,lA,lD,lT,iY,y4] <;>omega) |decide) only[go_sem,↓reduceIte,Nat.reduceEqDiff,reduceCtorEq,Nat.reduceLT,Nat.reduceBEq,Nat.reduceAdd,b1,b2,hy];with_reducible exact hZ) :p:=e
theorem Dg {p:Prop} (e:p:=by simp -implicitDefEqProofs (disch:=first|omega| (simp only[go_sem,lA,lD,lT,iY,y4] <;>omega) |decide) only[go_sem,↓reduceIte,Nat.reduceEqDiff,reduceCtorEq];all_goals (rw[hV,←hiE])) :p:=e
theorem aaD {gl:Nat→C} {M:Nat} {pu:Nat→List C→Option C} (hcx:CxOK (aN gl M pu)) (h48: ∀ (l:List Int) (i m:Nat),LI l→i≤1000000→0< m∧m≤9223372036854775807→pu 48 [sl iC .no l,.val (nI i),.val (nI m)] =some (.val (nI (j3 l i m)))) (h49: ∀n:Nat,n≤1000000000000→pu 49 [.val (nI n)] =some (.val (str (eN n)))) (l:List Int) (hl:LI l) :FC Tryd.prog gl 10 [sl iC .no l] [] (sl eC (.own 2) (hV l)) [] :=by
 replace hcx:=hcx.reN (M:=39)
 refine bY (cx:=aN gl 39 pu) (rs:= [.tmp 2]) rfl Tryd.func10 rfl rfl rfl (by simp only[List.length_cons,List.length_nil];decide) (by simp only[go_sem]) ?_
 simp only[cM,go_sem]
 have b1:=True.intro
 have b2:=True.intro
 have hy:=True.intro
 have hl1:=hl.1
 have hN:=tz l
 refine aa hcx [] _ [] rfl rfl rfl ?_ gQ
 refine aa hcx [] _ [] rfl rfl rfl ?_ gQ
 refine aa hcx [] _ [] rfl rfl rfl ?_ gQ
 refine ae fun K1 hK1=> ?_
 refine aa hcx [] _ [] rfl rfl rfl ?_ gQ
 refine Tr.k [0,3,4,5] ?_
 refine Tr.blk ?_
 refine cj (α:=Nat) (fun a=> [(0,?v0_1),(3,sl eC (.own 2) (er l a).1),(4,.val (.int .i64 (((er l a).2:Int) - 1))),(5,.val (nI a))]) (fun a=> ?h_1) (fun a=>a≤kB l) (fun a=>kB l - a) (0) (Nat.zero_le _) ?le_1 ?hh_1 ?bd_1
 case hh_1=>exact rfl
 case le_1=> (simp only[bD,aO,↓bB,↓reduceIte,Nat.reduceEqDiff,aD,aP,aE,aQ,aR,and_true,true_and];all_goals (repeat' first|exact CLe.refl _|exact True.intro| (refine bM ?_;first|rfl| (simp only[List.take_zero];done)) |exact cG (by omega) |exact b8 (by omega) |exact ct (by omega) |exact cu (by omega) |with_reducible apply And.intro));all_goals exact b8 (by simp[er])
 rintro i hi
 refine ae fun K2 hK2=> ?_
 by_cases b1:2*i< l.length
 ·
  by_cases b2:i< 11
  ·
   have hiN:=RQ b1 b2
   refine aa hcx [] [some 6,some 7,some 8,some 9,some 10,some 11,some 12,some 13,some 14] [] rfl rfl rfl ?_ gQ
   refine cr rfl ?_
   refine Tr.skip ?_
   refine hK2 _ ?_
   refine ae fun K3 hK3=> ?_
   refine Tr.blk ?_
   have e48:=h48 l (2*i) 3 hl (by omega) (by omega)
   have e48b:=h48 l (2*i+1) 5 hl (by omega) (by omega)
   have hat:=to l i
   have ha3:=rM l (2*i) (m:=3) (by omega)
   have ha5:=rM l (2*i+1) (m:=5) (by omega)
   have e49:pu 49 [.val (.int .i64 (((er l i).2:Int) - 1+((1:Nat) :Int)+((j3 l (2*i) 3:Nat) :Int)))] =some (.val (str (eN ((er l i).2+j3 l (2*i) 3)))) :=by
    rw[show (((er l i).2:Int) - 1+((1:Nat) :Int)+((j3 l (2*i) 3:Nat) :Int)) = (((er l i).2+j3 l (2*i) 3:Nat) :Int) by omega]
    exact h49 _ (by omega)
   have hy:= @e48
   refine aa hcx [1000023] _ [] rfl rfl rfl ?_ gQ
   refine Tr.k [0,3,4,5] ?_
   have hy:=And.intro @e49 (And.intro @e48b @Lt)
   refine bF hcx [24,1000037] _ [] rfl rfl rfl ?_ gQ
   refine hK3 _ ?_
   have hy:=True.intro
   refine bF hcx [1000016] _ [] rfl rfl rfl ?_ gQ
   refine ⟨i+1,⟨by omega,O1⟩,?_,rfl⟩
   (simp only[bD,aO,↓bB,↓reduceIte,Nat.reduceEqDiff,aD,aP,aE,aQ,aR,and_true,true_and];all_goals (repeat' first|exact CLe.refl _|exact True.intro| (refine bM ?_;first|rfl| (simp only[List.take_zero];done)) |exact cG (by omega) |exact b8 (by omega) |exact ct (by omega) |exact cu (by omega) |with_reducible apply And.intro))
   all_goals first| (refine dK ?_;rfl) | (refine b8 ?_;simp only[er];omega)
  skip
  refine aa hcx [] [some 6,some 7,some 8,some 9,some 10,some 11,some 12,some 13,some 14] [] rfl rfl rfl ?_ gQ
  refine bm rfl ?_
  refine Tr.exit ?_
  refine hK1 _ ?_
  have hiE:=De hi (by omega)
  refine aa hcx [1000038] _ [] rfl rfl rfl ?_ gQ
  exact Tr.ret Dg
 refine aa hcx [] [some 6,some 7,some 8,some 9,some 10,some 11,some 12,some 13,some 14] [] rfl rfl rfl ?_ gQ
 refine bm rfl ?_
 refine Tr.exit ?_
 refine hK1 _ ?_
 have hiE:=De hi (by omega)
 refine aa hcx [1000038] _ [] rfl rfl rfl ?_ gQ
 exact Tr.ret Dg
end Go.Sx
