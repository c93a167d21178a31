/-
   And what follows.
-/
import Derived.Test.YtmoaeemdlompaaaDoorPan
set_option linter.unusedSimpArgs false
set_option linter.unusedVariables false
namespace Go.Sx
open Go.RowKit Go.Proofs
set_option maxRecDepth 100000
set_option maxHeartbeats 8000000
theorem kR (x y:List UInt8): ((List.replicate 2 []).set 0 x).set 1 y= [x,y]:=rfl
theorem KE {a:List UInt8}(h:a.length=16):a.take 16=a:=List.take_of_length_le (by omega)
theorem iK (n:Nat):C.val (.int .i64 ((n:Nat):Int)) =C.val (nI n):=rfl
theorem lS {p:Prop}(e:p:=by intro KZ hZ;simp -implicitDefEqProofs (disch:=first|omega| (simp only[go_sem,lA,lD,lT] <;>omega) |decide) only[go_sem,↓reduceIte,Nat.reduceEqDiff,reduceCtorEq,Nat.reduceLT,Nat.reduceBEq,Nat.reduceAdd,hy];with_reducible exact hZ):p:=e
theorem KG {p:Prop}(e:p:=by simp -implicitDefEqProofs (disch:=first|omega| (simp only[go_sem,lA,lD,lT] <;>omega) |decide) only[go_sem,↓reduceIte,Nat.reduceEqDiff,reduceCtorEq];all_goals (rw[←hm.2.2,EV (by omega)])):p:=e
theorem TH {gl:Nat→C}{M:Nat}{pu:Nat→List C→Option C}(hcx:CxOK (ao gl M pu))(x y:Nat)(hab:x≤y∧y≤4611686018427387000):FC Tryd.prog gl 81 [.val (nI x),.val (nI y)] [] (.val (nI (x+aD (y - x)))) []:=by
 replace hcx:=hcx.reN (M:=17)
 refine aP (cx:=ao gl 17 pu) (rs:=[.tmp 4]) rfl Tryd.func81 rfl rfl rfl (by simp only[List.length_cons,List.length_nil];decide) (by simp only[go_sem]) ?_
 simp only[bQ,go_sem]
 have hy:=True.intro
 refine aa hcx [] _ [] rfl rfl rfl ?_ lS
 refine aa hcx [] _ [] rfl rfl rfl ?_ lS
 refine Tr.k [0,1,5] ?_
 refine ae fun K1 hK1=>?_
 refine Tr.blk ?_
 refine aX (α:=Nat) (fun a=>[(0,?v0_1),(1,?v1_1),(5,.val (nI a))]) (fun a=>?h_1) (fun a=>0< a∧a≤(y - x)+1∧gh (y - x) (y - x) a=aD (y - x)) (fun a=>(y - x) - a) (1) ⟨by omega,by omega,rfl⟩ ?le_1 ?hh_1 ?bd_1
 case hh_1=>exact rfl
 case le_1=>exact LT
 rintro m hm
 refine ae fun K2 hK2=>?_
 refine aa hcx [] _ [] rfl rfl rfl ?_ lS
 refine bq rfl (fun hc11=>?_) (fun hc11=>?_)
 ·
  refine Tr.skip ?_
  refine hK2 _ ?_
  refine Tr.blk ?_
  refine br hcx [1000013] _ [] rfl rfl rfl ?_ lS
  exact ⟨m*2,⟨⟨by omega,by omega,by rw[←hm.2.2,EU (by omega) hm.1,Nat.mul_comm]⟩,O1⟩,LT,rfl⟩
 refine Tr.exit ?_
 refine hK1 _ ?_
 refine aa hcx [1000016] _ [] rfl rfl rfl ?_ lS
 exact Tr.ret KG
theorem j7 {p:Prop}(e:p:=by intro KZ hZ;simp -implicitDefEqProofs (disch:=first|omega| (simp only[go_sem,lA,lD,lT] <;>omega) |decide) only[go_sem,↓reduceIte,Nat.reduceEqDiff,reduceCtorEq,Nat.reduceLT,Nat.reduceBEq,Nat.reduceAdd,hy];with_reducible exact hZ):p:=e
theorem Hg {p:Prop}(e:p:=by simp -implicitDefEqProofs (disch:=first|omega| (simp only[go_sem,lA,lD,lT] <;>omega) |decide) only[go_sem,↓reduceIte,Nat.reduceEqDiff,reduceCtorEq];all_goals (rw[←hm.2.2,EV (by omega)])):p:=e
theorem P9 {gl:Nat→C}{M:Nat}{pu:Nat→List C→Option C}(hcx:CxOK (ao gl M pu))(n:Nat)(hn:n≤4611686018427387000):FC Tryd.prog gl 106 [.val (nI n)] [] (.val (nI (aD n))) []:=by
 replace hcx:=hcx.reN (M:=11)
 refine aP (cx:=ao gl 11 pu) (rs:=[.tmp 2]) rfl Tryd.func106 rfl rfl rfl (by simp only[List.length_cons,List.length_nil];decide) (by simp only[go_sem]) ?_
 simp only[bQ,go_sem]
 have hy:=True.intro
 refine aa hcx [] _ [] rfl rfl rfl ?_ j7
 refine aa hcx [] _ [] rfl rfl rfl ?_ j7
 refine Tr.k [0,3] ?_
 refine ae fun K1 hK1=>?_
 refine Tr.blk ?_
 refine aX (α:=Nat) (fun a=>[(0,?v0_1),(3,.val (nI a))]) (fun a=>?h_1) (fun a=>0< a∧a≤n+1∧gh n n a=aD n) (fun a=>n - a) (1) ⟨by omega,by omega,rfl⟩ ?le_1 ?hh_1 ?bd_1
 case hh_1=>exact rfl
 case le_1=>exact LT
 rintro m hm
 refine ae fun K2 hK2=>?_
 refine aa hcx [] _ [] rfl rfl rfl ?_ j7
 refine bq rfl (fun hc7=>?_) (fun hc7=>?_)
 ·
  refine Tr.skip ?_
  refine hK2 _ ?_
  refine Tr.blk ?_
  refine br hcx [1000009] _ [] rfl rfl rfl ?_ j7
  exact ⟨2*m,⟨⟨by omega,by omega,by rw[←hm.2.2,EU (by omega) hm.1]⟩,O1⟩,LT,rfl⟩
 refine Tr.exit ?_
 refine hK1 _ ?_
 refine aa hcx [1000010] _ [] rfl rfl rfl ?_ j7
 exact Tr.ret Hg
theorem zw {p:Prop}(e:p:=by intro KZ hZ;simp -implicitDefEqProofs (disch:=first|omega| (simp only[go_sem,lA,lD,lT,cf] <;>omega) |decide) only[go_sem,↓reduceIte,Nat.reduceEqDiff,reduceCtorEq,Nat.reduceLT,Nat.reduceBEq,Nat.reduceAdd,kR,e,hy];with_reducible exact hZ):p:=e
theorem KH {p:Prop}(e:p:=by simp -implicitDefEqProofs (disch:=first|omega| (simp only[go_sem,lA,lD,lT,cf] <;>omega) |decide) only[go_sem,↓reduceIte,Nat.reduceEqDiff,reduceCtorEq];all_goals (rfl)):p:=e
theorem TI {gl:Nat→C}{M:Nat}{pu:Nat→List C→Option C}(hcx:CxOK (ao gl M pu))(h78:∀ (tag:Int) (parts:List (List UInt8)),(bU tag parts).length< 1099511627776→pu 78 [.val (.int .i64 tag),sl sC .no parts] =some (.agg (cl bC (ofT tag parts))))(x:ab)(hx:x.1.length≤65536∧x.2.length≤65536):FC Tryd.prog gl 80 [.agg (eC x)] [] (.agg (cl bC (d5 x))) []:=by
 replace hcx:=hcx.reN (M:=9)
 refine aP (cx:=ao gl 9 pu) (rs:=[.cell 2 29]) rfl Tryd.func80 rfl rfl rfl (by simp only[List.length_cons,List.length_nil];decide) (by simp only[go_sem]) ?_
 simp only[bQ,go_sem]
 have hy:=True.intro
 have e:pu 78 [.val (nI 3),sl sC .no [x.1,x.2]] =some (.agg (cl bC (d5 x))):=h78 3 [x.1,x.2] (gD 3 _ _ (by omega) (by omega))
 refine aa hcx [] _ [none,none] rfl rfl rfl ?_ zw
 refine aa hcx [] _ [] rfl rfl rfl ?_ zw
 exact Tr.ret KH
theorem KI {p:Prop}(e:p:=by intro KZ hZ;simp -implicitDefEqProofs (disch:=first|omega| (simp only[go_sem,lA,lD,lT,ha,hb,cp] <;>omega) |decide) only[go_sem,↓reduceIte,Nat.reduceEqDiff,reduceCtorEq,Nat.reduceLT,Nat.reduceBEq,Nat.reduceAdd,kR,ta,tb,e,hy];with_reducible exact hZ):p:=e
theorem KJ {p:Prop}(e:p:=by intro KZ hZ;simp -implicitDefEqProofs (disch:=first|omega| (simp only[go_sem,lA,lD,lT,ha,hb,cp] <;>omega) |decide) only[go_sem,↓reduceIte,Nat.reduceEqDiff,reduceCtorEq,Nat.reduceLT,Nat.reduceBEq,Nat.reduceAdd,kR,ta,tb,e,hy];refine And.intro ?_ hZ;exact rfl):p:=e
theorem KK {p:Prop}(e:p:=by simp -implicitDefEqProofs (disch:=first|omega| (simp only[go_sem,lA,lD,lT,ha,hb,cp] <;>omega) |decide) only[go_sem,↓reduceIte,Nat.reduceEqDiff,reduceCtorEq];all_goals (rfl)):p:=e
theorem TJ {gl:Nat→C}{M:Nat}{pu:Nat→List C→Option C}(hcx:CxOK (ao gl M pu))(h78:∀ (tag:Int) (parts:List (List UInt8)),(bU tag parts).length< 1099511627776→pu 78 [.val (.int .i64 tag),sl sC .no parts] =some (.agg (cl bC (ofT tag parts))))(a b:List UInt8)(ha:a.length=16)(hb:b.length=16):FC Tryd.prog gl 82 [.agg (cl bC a),.agg (cl bC b)] [] (.agg (cl bC (fJ a b))) []:=by
 replace hcx:=hcx.reN (M:=11)
 refine aP (cx:=ao gl 11 pu) (rs:=[.cell 4 29]) rfl Tryd.func82 rfl rfl rfl (by simp only[List.length_cons,List.length_nil];decide) (by simp only[go_sem]) ?_
 simp only[bQ,go_sem]
 have hy:=True.intro
 have hin:=gD 4 a b (by omega) (by omega)
 have e:pu 78 [.val (nI 4),sl sC .no [a,b]] =some (.agg (cl bC (fJ a b))):=h78 4 [a,b] hin
 have ta:=KE ha
 have tb:=KE hb
 refine aa hcx [] _ [none,none,none] rfl rfl rfl ?_ KI
 refine ce hcx dR [] _ [] rfl rfl rfl rfl ?_ KJ
 exact Tr.ret KK
theorem t7 {p:Prop}(e:p:=by intro KZ hZ;simp -implicitDefEqProofs (disch:=first|omega| (simp only[go_sem,lA,lD,lT] <;>omega) |decide) only[go_sem,↓reduceIte,Nat.reduceEqDiff,reduceCtorEq,Nat.reduceLT,Nat.reduceBEq,Nat.reduceAdd,b1,hy];with_reducible exact hZ):p:=e
theorem zx {p:Prop}(e:p:=by simp -implicitDefEqProofs (disch:=first|omega| (simp only[go_sem,lA,lD,lT] <;>omega) |decide) only[go_sem,↓reduceIte,Nat.reduceEqDiff,reduceCtorEq];all_goals (simp[cg,b1])):p:=e
theorem TK {gl:Nat→C}{M:Nat}{pu:Nat→List C→Option C}(hcx:CxOK (ao gl M pu))(x:ab)(hx:x.1.length< 9223372036854775808∧x.2.length< 9223372036854775808):FC Tryd.prog gl 54 [.agg (eC x)] [] (.val (.bool (cg x))) []:=by
 replace hcx:=hcx.reN (M:=13)
 refine aP (cx:=ao gl 13 pu) (rs:=[.tmp 2]) rfl Tryd.func54 rfl rfl rfl (by simp only[List.length_cons,List.length_nil];decide) (by simp only[go_sem]) ?_
 simp only[bQ,go_sem]
 have b1:=True.intro
 have hy:=True.intro
 refine aa hcx [] _ [none] rfl rfl rfl ?_ t7
 by_cases b1:65536< x.1.length
 ·
  refine aa hcx [1000012] [some 3,some 4,some 5,some 6,some 7,some 8,some 9,some 10,some 11,some 12,some 2] [] rfl rfl rfl ?_ t7
  exact Tr.ret zx
 refine aa hcx [1000012] [some 3,some 4,some 5,some 6,some 7,some 8,some 9,some 10,some 11,some 12,some 2] [] rfl rfl rfl ?_ t7
 exact Tr.ret zx
theorem t8 {p:Prop}(e:p:=by intro KZ hZ;simp -implicitDefEqProofs (disch:=first|omega| (simp only[go_sem,lA,lD,lT,hwl,eE,hd,cS,hw0] <;>omega) |decide) only[go_sem,↓reduceIte,Nat.reduceEqDiff,reduceCtorEq,Nat.reduceLT,Nat.reduceBEq,Nat.reduceAdd,kR,e0,e1,w0,w1,td,hy];with_reducible exact hZ):p:=e
theorem KL {p:Prop}(e:p:=by intro KZ hZ;simp -implicitDefEqProofs (disch:=first|omega| (simp only[go_sem,lA,lD,lT,hwl,eE,hd,cS,hw0] <;>omega) |decide) only[go_sem,↓reduceIte,Nat.reduceEqDiff,reduceCtorEq,Nat.reduceLT,Nat.reduceBEq,Nat.reduceAdd,kR,e0,e1,w0,w1,td,hy];refine And.intro ?_ hZ;exact rfl):p:=e
theorem zy {p:Prop}(e:p:=by simp -implicitDefEqProofs (disch:=first|omega| (simp only[go_sem,lA,lD,lT,hwl,eE,hd,cS,hw0] <;>omega) |decide) only[go_sem,↓reduceIte,Nat.reduceEqDiff,reduceCtorEq];all_goals (first| (rw[d6,if_pos hc6];done) | (rw[d6,if_neg hc6];done))):p:=e
theorem TL {gl:Nat→C}{M:Nat}{pu:Nat→List C→Option C}(hcx:CxOK (ao gl M pu))(h78:∀ (tag:Int) (parts:List (List UInt8)),(bU tag parts).length< 1099511627776→pu 78 [.val (.int .i64 tag),sl sC .no parts] =some (.agg (cl bC (ofT tag parts))))(h39:∀n:Int,-9223372036854775808≤n∧n≤9223372036854775807→pu 39 [.val (.int .i64 n)] =some (sl bC (.own 1) (co n)))(n:Nat)(d:List UInt8)(hn:n≤4096)(hd:d.length=16):FC Tryd.prog gl 50 [.val (nI n),.agg (cl bC d)] [] (.agg (cl bC (d6 n d))) []:=by
 replace hcx:=hcx.reN (M:=18)
 refine aP (cx:=ao gl 18 pu) (rs:=[.cell 4 29]) rfl Tryd.func50 rfl rfl rfl (by simp only[List.length_cons,List.length_nil];decide) (by simp only[go_sem]) ?_
 simp only[bQ,go_sem]
 have hy:=True.intro
 have w0:pu 39 [.val (nI 0)] =some (sl bC (.own 1) (co ((0:Nat):Int))):=h39 ((0:Nat):Int) (by omega)
 have w1:pu 39 [.val (nI n)] =some (sl bC (.own 1) (co ((n:Nat):Int))):=h39 ((n:Nat):Int) (by omega)
 have hwl:=ms n (by omega)
 have hw0:=ms 0 (by omega)
 have e0:pu 78 [.val (nI 4),sl sC .no [co ((0:Nat):Int)]] =some (.agg (cl bC (ofT 4 [co ((0:Nat):Int)]))):=h78 4 _ (tM 4 _ (by omega))
 have e1:pu 78 [.val (nI 4),sl sC .no [co ((n:Nat):Int),d]] =some (.agg (cl bC (ofT 4 [co ((n:Nat):Int),d]))):=h78 4 _ (gD 4 _ _ (by omega) (by omega))
 have td:=KE hd
 refine aa hcx [] _ [none,none] rfl rfl rfl ?_ t8
 refine ae fun K1 hK1=>?_
 refine aa hcx [] _ [] rfl rfl rfl ?_ t8
 refine bq rfl (fun hc6=>?_) (fun hc6=>?_)
 ·
  refine aa hcx [] _ [] rfl rfl rfl ?_ t8
  exact Tr.ret zy
 refine Tr.skip ?_
 refine hK1 _ ?_
 refine ce hcx dR [] _ [] rfl rfl rfl rfl ?_ KL
 exact Tr.ret zy
end Go.Sx
namespace Go.Sx
open Go.RowKit Go.Proofs
set_option maxRecDepth 100000
set_option maxHeartbeats 8000000
theorem ua (l:List ab)(i:Nat)(h:i< l.length): (l.take (i+1)).any cg= ((l.take i).any cg||cg (gt l i)):=by
 rw[dG l i h,List.any_append];simp
theorem ub {l:List ab}{i:Nat}(h:i< l.length)(hb:cg (gt l i) =true):l.any cg=true:=by
 rw[List.any_eq_true];exact ⟨_,Pv l i h,hb⟩
theorem j9 {l:List ab}(h:4096< l.length∨l.any cg=true):bR l=4:=if_pos h
theorem zG {l:List ab}(h:¬ (4096< l.length∨l.any cg=true))(h2:eG l l.length=true):bR l=0:=by unfold bR;rw[if_neg h,if_pos h2]
theorem zH {l:List ab}(h:¬ (4096< l.length∨l.any cg=true))(h2:¬eG l l.length=true):bR l=1:=by unfold bR;rw[if_neg h,if_neg h2]
theorem vZ {l:List ab}{i:Nat}(hi:0< i)(h2:bl (gt l (i - 1)).1 (gt l i).1=false):∀n,i< n→eG l n=false
 |0,h=>by omega
 |n+1,h=>by
  by_cases e:i=n
  . subst e;unfold eG;rw[h2,decide_eq_false (by omega)];simp
  . unfold eG;rw[vZ hi h2 n (by omega)];rfl
theorem oX {l:List ab}{i:Nat}(h:eG l i=true)(h2:i=0∨bl (gt l (i - 1)).1 (gt l i).1=true):eG l (i+1) =true:=by
 unfold eG;rw[h]
 rcases h2 with h2|h2
 . rw[decide_eq_true h2];rfl
 . rw[h2];simp
theorem KU {x:ab}(h:65536< x.1.length):cg x=true:=by simp[cg,h]
theorem KV {x:ab}(h:65536< x.2.length):cg x=true:=by simp[cg,h]
theorem v5 {l:List ab}{i n:Nat}(hi:0< i)(h2:bl (gt l (i - 1)).1 (gt l i).1=false)(h:i< n):¬eG l n=true:=by rw[vZ hi h2 n h];simp
theorem uc {l:List ab}{i:Nat}(h1:¬i< l.length)(h2:i≤l.length∨i=1)(h:i≤l.length→eG l i=true):eG l l.length=true:=by
 by_cases e:l.length=0
 . rw[e];rfl
 . have e:i=l.length:=by omega
   rw[←e];exact h (by omega)
def LB (l:List ab):Prop:=l.length< 4611686018427387000∧∀i,i< l.length→(gt l i).1.length< 9223372036854775808∧(gt l i).2.length< 9223372036854775808
def iV (l:List ab):Int:=(((l.findIdx? cg).map fun n=>((n:Nat):Int)).getD (-1))
theorem KW {l:List ab}{i:Nat}(h:i< l.length)(h0: (l.take i).any cg=false)(hb:cg (gt l i) =true):iV l= ((i:Nat):Int):=by
 have e:gt l i=l[i]:=by simp[gt,List.getD,List.getElem?_eq_getElem h]
 have:l.findIdx? cg=some i:=by
  rw[List.findIdx?_eq_some_iff_getElem]
  refine ⟨h,by rw[←e];exact hb,fun j hj=>?_⟩
  rw[List.any_eq_false] at h0
  have:=h0 l[j] (by rw[List.mem_take_iff_getElem];exact ⟨j,by omega,rfl⟩)
  simpa using this
 unfold iV;rw[this];rfl
theorem KX {l:List ab}(h0:l.any cg=false):iV l= -1:=by
 have:l.findIdx? cg=none:=by
  rw[List.findIdx?_eq_none_iff];rw[List.any_eq_false] at h0;intro x hx;simpa using h0 x hx
 unfold iV;rw[this];rfl
theorem Hi (l:List ab): (0≤iV l) = (l.any cg=true):=by
 unfold iV
 cases h:l.findIdx? cg with
 |none=>
  rw[List.findIdx?_eq_none_iff] at h
  have:l.any cg=false:=by rw[List.any_eq_false];intro x hx;simp[h x hx]
  simp[this]
 |some n=>
  rw[List.findIdx?_eq_some_iff_getElem] at h
  obtain ⟨h1,h2,_⟩:=h
  have:l.any cg=true:=by rw[List.any_eq_true];exact ⟨_,List.getElem_mem h1,h2⟩
  simp[this]
theorem Ch (l:List ab):decide ((0:Int)≤iV l) =l.any cg:=by rw[Bool.eq_iff_iff,decide_eq_true_eq,Hi]
theorem gm {p:Prop}(e:p:=by intro KZ hZ;simp -implicitDefEqProofs (disch:=first|omega| (simp only[go_sem,lA,lD,lT] <;>omega) |decide) only[go_sem,↓reduceIte,Nat.reduceEqDiff,reduceCtorEq,Nat.reduceLT,Nat.reduceBEq,Nat.reduceAdd,b1,hy];with_reducible exact hZ):p:=e
theorem zI {p:Prop}(e:p:=by simp -implicitDefEqProofs (disch:=first|omega| (simp only[go_sem,lA,lD,lT] <;>omega) |decide) only[go_sem,↓reduceIte,Nat.reduceEqDiff,reduceCtorEq];all_goals (first| (rw[KW hc9 hi.2 b1] <;>rfl) | (rw[hiF] <;>rfl))):p:=e
theorem TQ {gl:Nat→C}{M:Nat}{pu:Nat→List C→Option C}(hcx:CxOK (ao gl M pu))(h54:∀x:ab,x.1.length< 9223372036854775808∧x.2.length< 9223372036854775808→pu 54 [.agg (eC x)] =some (.val (.bool (cg x))))(l:List ab)(hl:LB l):FC Tryd.prog gl 87 [sl eC .no l,.fn 54 []] [] (.val (.int .i64 (iV l))) []:=by
 replace hcx:=hcx.reN (M:=19)
 refine aP (cx:=ao gl 19 pu) (rs:=[.tmp 4]) rfl Tryd.func87 rfl rfl rfl (by simp only[List.length_cons,List.length_nil];decide) (by simp only[go_sem]) ?_
 simp only[bQ,go_sem]
 have b1:=True.intro
 have hy:=True.intro
 have hl1:=hl.1
 refine aa hcx [] _ [] rfl rfl rfl ?_ gm
 refine ae fun K1 hK1=>?_
 refine aa hcx [] _ [] rfl rfl rfl ?_ gm
 refine Tr.k [0,1,7,8] ?_
 refine Tr.blk ?_
 refine aX (α:=Nat) (fun a=>[(0,?v0_1),(1,?v1_1),(7,?v7_1),(8,.val (nI a))]) (fun a=>?h_1) (fun a=>a≤l.length∧(l.take a).any cg=false) (fun a=>l.length - a) (0) ⟨Nat.zero_le _,by rw[List.take_zero];rfl⟩ ?le_1 ?hh_1 ?bd_1
 case hh_1=>exact rfl
 case le_1=>exact LT
 rintro i hi
 refine aa hcx [] _ [] rfl rfl rfl ?_ gm
 refine ae fun K2 hK2=>?_
 refine bq rfl (fun hc9=>?_) (fun hc9=>?_)
 ·
  have e54:=h54 (gt l i) (hl.2 i hc9)
  refine Tr.skip ?_
  refine hK2 _ ?_
  refine ae fun K3 hK3=>?_
  refine Tr.blk ?_
  refine aa hcx [1000010] _ [] rfl rfl rfl ?_ gm
  by_cases b1:cg (gt l i) =true
  ·
   have e54b:=b1
   have hy:= @e54
   refine aa hcx [] _ [] rfl rfl rfl ?_ gm
   refine bM rfl ?_
   have hy:=True.intro
   refine aa hcx [1000017] _ [] rfl rfl rfl ?_ gm
   exact Tr.ret zI
  have e54b:=Bool.eq_false_iff.2 b1
  have hy:= @e54
  refine aa hcx [] _ [] rfl rfl rfl ?_ gm
  refine bF rfl ?_
  refine Tr.skip ?_
  refine hK3 _ ?_
  have hy:=True.intro
  refine br hcx [] _ [] rfl rfl rfl ?_ gm
  exact ⟨i+1,⟨⟨by omega,by rw[ua l i hc9,hi.2,e54b];rfl⟩,O1⟩,LT,rfl⟩
 have hiF:=KX (l:=l) (by rw[←List.take_of_length_le (show l.length≤i by omega)];exact hi.2)
 refine Tr.exit ?_
 refine hK1 _ ?_
 refine aa hcx [] _ [] rfl rfl rfl ?_ gm
 exact Tr.ret zI
theorem zJ {p:Prop}(e:p:=by intro KZ hZ;simp -implicitDefEqProofs (disch:=first|omega| (simp only[go_sem,lA,lD,lT] <;>omega) |decide) only[go_sem,↓reduceIte,Nat.reduceEqDiff,reduceCtorEq,Nat.reduceLT,Nat.reduceBEq,Nat.reduceAdd,e87,hy];with_reducible exact hZ):p:=e
theorem KY {p:Prop}(e:p:=by simp -implicitDefEqProofs (disch:=first|omega| (simp only[go_sem,lA,lD,lT] <;>omega) |decide) only[go_sem,↓reduceIte,Nat.reduceEqDiff,reduceCtorEq];all_goals (exact congrArg (fun z=>some (C.val (.bool z))) (Ch l))):p:=e
theorem TR {gl:Nat→C}{M:Nat}{pu:Nat→List C→Option C}(hcx:CxOK (ao gl M pu))(h87:∀l:List ab,LB l→pu 87 [sl eC .no l,.fn 54 []] =some (.val (.int .i64 (iV l))))(l:List ab)(hl:LB l):FC Tryd.prog gl 53 [sl eC .no l,.fn 54 []] [] (.val (.bool (l.any cg))) []:=by
 replace hcx:=hcx.reN (M:=9)
 refine aP (cx:=ao gl 9 pu) (rs:=[.tmp 4]) rfl Tryd.func53 rfl rfl rfl (by simp only[List.length_cons,List.length_nil];decide) (by simp only[go_sem]) ?_
 simp only[bQ,go_sem]
 have hy:=True.intro
 have e87:=h87 l hl
 refine aa hcx [] _ [] rfl rfl rfl ?_ zJ
 refine aa hcx [1000008] _ [] rfl rfl rfl ?_ zJ
 exact Tr.ret KY
theorem el {p:Prop}(e:p:=by intro KZ hZ;simp -implicitDefEqProofs (disch:=first|omega| (simp only[go_sem,lA,lD,lT] <;>omega) |decide) only[go_sem,↓reduceIte,Nat.reduceEqDiff,reduceCtorEq,Nat.reduceLT,Nat.reduceBEq,Nat.reduceAdd,e53,b1,b2,b3,b4,hy];with_reducible exact hZ):p:=e
theorem ud {p:Prop}(e:p:=by intro KZ hZ;simp -implicitDefEqProofs (disch:=first|omega| (simp only[go_sem,lA,lD,lT] <;>omega) |decide) only[go_sem,↓reduceIte,Nat.reduceEqDiff,reduceCtorEq,Nat.reduceLT,Nat.reduceBEq,Nat.reduceAdd,e53,b1,b2,b3,b4,hy];refine And.intro ?_ hZ;exact rfl):p:=e
theorem oY {p:Prop}(e:p:=by simp -implicitDefEqProofs (disch:=first|omega| (simp only[go_sem,lA,lD,lT] <;>omega) |decide) only[go_sem,↓reduceIte,Nat.reduceEqDiff,reduceCtorEq];all_goals (first| (rw[j9 (Or.inl b1)];done) | (rw[j9 (Or.inr b2)];done) | (rw[zH hno (v5 b3 b4 hc14)];done) | (rw[zG hno (uc hc14 (Or.inl hi.1) (fun _=>hi.2))];done))):p:=e
theorem TT {gl:Nat→C}{M:Nat}{pu:Nat→List C→Option C}(hcx:CxOK (ao gl M pu))(h53:∀l:List ab,LB l→pu 53 [sl eC .no l,.fn 54 []] =some (.val (.bool (l.any cg))))(l:List ab)(hl:LB l):FC Tryd.prog gl 15 [sl eC .no l] [] (.val (nI (bR l))) []:=by
 replace hcx:=hcx.reN (M:=33)
 refine aP (cx:=ao gl 33 pu) (rs:=[.tmp 2]) rfl Tryd.func15 rfl rfl rfl (by simp only[List.length_cons,List.length_nil];decide) (by simp only[go_sem]) ?_
 simp only[bQ,go_sem]
 have b1:=True.intro
 have b2:=True.intro
 have b3:=True.intro
 have b4:=True.intro
 have hy:=True.intro
 have e53:=h53 l hl
 have hl1:=hl.1
 refine aa hcx [] _ [] rfl rfl rfl ?_ el
 refine ae fun K1 hK1=>?_
 by_cases b1:4096< l.length
 ·
  refine aa hcx [] [some 4,some 5,some 6,some 7,some 8,some 9,some 10] [] rfl rfl rfl ?_ el
  refine bM rfl ?_
  refine aa hcx [] _ [] rfl rfl rfl ?_ el
  exact Tr.ret oY
 by_cases b2:l.any cg=true
 ·
  skip
  refine aa hcx [] [some 4,some 5,some 6,some 7,some 8,some 9,some 10] [] rfl rfl rfl ?_ el
  refine bM rfl ?_
  refine aa hcx [] _ [] rfl rfl rfl ?_ el
  exact Tr.ret oY
 have hno:¬ (4096< l.length∨l.any cg=true):=fun h=>h.elim b1 b2
 replace b2:=Bool.eq_false_iff.2 b2
 refine aa hcx [] [some 4,some 5,some 6,some 7,some 8,some 9,some 10] [] rfl rfl rfl ?_ el
 refine bF rfl ?_
 refine Tr.skip ?_
 refine hK1 _ ?_
 refine ae fun K2 hK2=>?_
 refine aa hcx [] _ [] rfl rfl rfl ?_ el
 refine Tr.k [0,12,13] ?_
 refine Tr.blk ?_
 refine aX (α:=Nat) (fun a=>[(0,?v0_1),(12,?v12_1),(13,.val (nI a))]) (fun a=>?h_1) (fun a=>a≤l.length∧eG l a=true) (fun a=>l.length - a) (0) ⟨Nat.zero_le _,rfl⟩ ?le_1 ?hh_1 ?bd_1
 case hh_1=>exact rfl
 case le_1=>exact LT
 rintro i hi
 refine aa hcx [] _ [] rfl rfl rfl ?_ el
 refine ae fun K3 hK3=>?_
 refine bq rfl (fun hc14=>?_) (fun hc14=>?_)
 ·
  refine Tr.skip ?_
  refine hK3 _ ?_
  refine ae fun K4 hK4=>?_
  refine Tr.blk ?_
  refine aa hcx [1000015] _ [] rfl rfl rfl ?_ el
  by_cases b3:0< i
  ·
   by_cases b4:bl (gt l (i - 1)).1 (gt l i).1=true
   ·
    skip
    have hb:i=0∨bl (gt l (i - 1)).1 (gt l i).1=true:=Or.inr b4
    refine ce hcx dR [] [some 16,some 17,some 18,some 19,some 20,some 21,some 22,some 23,some 24,some 25,some 26,some 27,some 28,some 29,some 30,some 31] [] rfl rfl rfl rfl ?_ ud
    refine bF rfl ?_
    refine Tr.skip ?_
    refine hK4 _ ?_
    refine br hcx [] _ [] rfl rfl rfl ?_ el
    exact ⟨i+1,⟨⟨by omega,oX hi.2 hb⟩,O1⟩,LT,rfl⟩
   replace b4:=Bool.eq_false_iff.2 b4
   have hb:=True.intro
   refine ce hcx dR [] [some 16,some 17,some 18,some 19,some 20,some 21,some 22,some 23,some 24,some 25,some 26,some 27,some 28,some 29,some 30,some 31] [] rfl rfl rfl rfl ?_ ud
   refine bM rfl ?_
   refine aa hcx [] _ [] rfl rfl rfl ?_ el
   exact Tr.ret oY
  have hb:i=0∨bl (gt l (i - 1)).1 (gt l i).1=true:=Or.inl (by omega)
  refine ce hcx dR [] [some 16,some 17,some 18,some 19,some 20,some 21,some 22,some 23,some 24,some 25,some 26,some 27,some 28,some 29,some 30,some 31] [] rfl rfl rfl rfl ?_ ud
  refine bF rfl ?_
  refine Tr.skip ?_
  refine hK4 _ ?_
  refine br hcx [] _ [] rfl rfl rfl ?_ el
  exact ⟨i+1,⟨⟨by omega,oX hi.2 hb⟩,O1⟩,LT,rfl⟩
 refine Tr.exit ?_
 refine hK2 _ ?_
 refine aa hcx [] _ [] rfl rfl rfl ?_ el
 exact Tr.ret oY
theorem dM {p:Prop}(e:p:=by intro KZ hZ;simp -implicitDefEqProofs (disch:=first|omega| (simp only[go_sem,lA,lD,lT] <;>omega) |decide) only[go_sem,↓reduceIte,Nat.reduceEqDiff,reduceCtorEq,Nat.reduceLT,Nat.reduceBEq,Nat.reduceAdd,b3,b4,b5,hy];with_reducible exact hZ):p:=e
theorem zK {p:Prop}(e:p:=by intro KZ hZ;simp -implicitDefEqProofs (disch:=first|omega| (simp only[go_sem,lA,lD,lT] <;>omega) |decide) only[go_sem,↓reduceIte,Nat.reduceEqDiff,reduceCtorEq,Nat.reduceLT,Nat.reduceBEq,Nat.reduceAdd,b3,b4,b5,hy];refine And.intro ?_ hZ;exact rfl):p:=e
theorem lU {p:Prop}(e:p:=by simp -implicitDefEqProofs (disch:=first|omega| (simp only[go_sem,lA,lD,lT] <;>omega) |decide) only[go_sem,↓reduceIte,Nat.reduceEqDiff,reduceCtorEq];all_goals (first| (rw[j9 (Or.inl hc7)];done) | (rw[j9 (Or.inr (ub hc11 (KU b3)))];done) | (rw[j9 (Or.inr (ub hc11 (KV b4)))];done) | (rw[zH hno (v5 hi.1 b5 hc33)];done) | (rw[zG hno (uc hc33 hi.2.1 hi.2.2)];done))):p:=e
theorem TU {gl:Nat→C}{M:Nat}{pu:Nat→List C→Option C}(hcx:CxOK (ao gl M pu))(l:List ab)(hl:LB l):FC Tryd.prog gl 16 [sl eC .no l] [] (.val (nI (bR l))) []:=by
 replace hcx:=hcx.reN (M:=48)
 refine aP (cx:=ao gl 48 pu) (rs:=[.tmp 2]) rfl Tryd.func16 rfl rfl rfl (by simp only[List.length_cons,List.length_nil];decide) (by simp only[go_sem]) ?_
 simp only[bQ,go_sem]
 have b3:=True.intro
 have b4:=True.intro
 have b5:=True.intro
 have hy:=True.intro
 have hl1:=hl.1
 refine aa hcx [] _ [] rfl rfl rfl ?_ dM
 refine ae fun K1 hK1=>?_
 refine aa hcx [] _ [] rfl rfl rfl ?_ dM
 refine bq rfl (fun hc7=>?_) (fun hc7=>?_)
 ·
  have b1:=hc7
  refine aa hcx [] _ [] rfl rfl rfl ?_ dM
  exact Tr.ret lU
 have b1:=hc7
 refine Tr.skip ?_
 refine hK1 _ ?_
 refine ae fun K2 hK2=>?_
 refine aa hcx [] _ [] rfl rfl rfl ?_ dM
 refine Tr.k [0,3] ?_
 refine Tr.blk ?_
 refine aX (α:=Nat) (fun a=>[(0,?v0_1),(3,.val (nI a))]) (fun a=>?h_1) (fun a=>a≤l.length∧(l.take a).any cg=false) (fun a=>l.length - a) (0) ⟨Nat.zero_le _,by rw[List.take_zero];rfl⟩ ?le_1 ?hh_1 ?bd_1
 case hh_1=>exact rfl
 case le_1=>exact LT
 rintro i hi
 refine ae fun K3 hK3=>?_
 refine aa hcx [] _ [] rfl rfl rfl ?_ dM
 refine bq rfl (fun hc11=>?_) (fun hc11=>?_)
 ·
  have hlb:=hl.2 i hc11
  refine Tr.skip ?_
  refine hK3 _ ?_
  refine ae fun K4 hK4=>?_
  refine Tr.blk ?_
  by_cases b3:65536< (gt l i).1.length
  ·
   refine aa hcx [] [some 14,some 15,some 16,some 17,some 18,some 19,some 20,some 21,some 22,some 23,some 24,some 25,some 26,some 27,some 28,some 29] [] rfl rfl rfl ?_ dM
   refine bM rfl ?_
   refine aa hcx [] _ [] rfl rfl rfl ?_ dM
   exact Tr.ret lU
  by_cases b4:65536< (gt l i).2.length
  ·
   refine aa hcx [] [some 14,some 15,some 16,some 17,some 18,some 19,some 20,some 21,some 22,some 23,some 24,some 25,some 26,some 27,some 28,some 29] [] rfl rfl rfl ?_ dM
   refine bM rfl ?_
   refine aa hcx [] _ [] rfl rfl rfl ?_ dM
   exact Tr.ret lU
  refine aa hcx [] [some 14,some 15,some 16,some 17,some 18,some 19,some 20,some 21,some 22,some 23,some 24,some 25,some 26,some 27,some 28,some 29] [] rfl rfl rfl ?_ dM
  refine bF rfl ?_
  refine Tr.skip ?_
  refine hK4 _ ?_
  refine br hcx [1000013] _ [] rfl rfl rfl ?_ dM
  exact ⟨i+1,⟨⟨by omega,by rw[ua l i hc11,hi.2];simp[cg,b3,b4]⟩,O1⟩,LT,rfl⟩
 have hno:¬ (4096< l.length∨l.any cg=true):=fun h=>h.elim b1 (by rw[←List.take_of_length_le (show l.length≤i by omega),hi.2];simp)
 refine Tr.exit ?_
 refine hK2 _ ?_
 refine ae fun K5 hK5=>?_
 refine aa hcx [] _ [] rfl rfl rfl ?_ dM
 refine Tr.k [0,4] ?_
 refine Tr.blk ?_
 refine aX (α:=Nat) (fun a=>[(0,?v0_2),(4,.val (nI a))]) (fun a=>?h_2) (fun a=>0< a∧(a≤l.length∨a=1)∧(a≤l.length→eG l a=true)) (fun a=>l.length - a) (1) ⟨by omega,Or.inr rfl,fun _=>rfl⟩ ?le_2 ?hh_2 ?bd_2
 case hh_2=>exact rfl
 case le_2=>exact LT
 rintro i hi
 refine ae fun K6 hK6=>?_
 refine aa hcx [] _ [] rfl rfl rfl ?_ dM
 refine bq rfl (fun hc33=>?_) (fun hc33=>?_)
 ·
  refine Tr.skip ?_
  refine hK6 _ ?_
  refine ae fun K7 hK7=>?_
  refine Tr.blk ?_
  by_cases b5:bl (gt l (i - 1)).1 (gt l i).1=true
  ·
   skip
   refine ce hcx dR [] _ [] rfl rfl rfl rfl ?_ zK
   refine bF rfl ?_
   refine Tr.skip ?_
   refine hK7 _ ?_
   refine br hcx [1000035] _ [] rfl rfl rfl ?_ dM
   exact ⟨i+1,⟨⟨by omega,by omega,fun _=>oX (hi.2.2 (by omega)) (Or.inr b5)⟩,O1⟩,LT,rfl⟩
  replace b5:=Bool.eq_false_iff.2 b5
  refine ce hcx dR [] _ [] rfl rfl rfl rfl ?_ zK
  refine bM rfl ?_
  refine aa hcx [] _ [] rfl rfl rfl ?_ dM
  exact Tr.ret lU
 refine Tr.exit ?_
 refine hK5 _ ?_
 refine aa hcx [] _ [] rfl rfl rfl ?_ dM
 exact Tr.ret lU
end Go.Sx
namespace Go.Sx
open Go.RowKit Go.Proofs
set_option maxRecDepth 100000
set_option maxHeartbeats 8000000
def eo (n:Int)(m:Nat):Nat:=((if n< 0 then -(n+1) else n).tmod (m:Int)).toNat
theorem oZ (n:Int)(m:Nat): (((eo n m:Nat):Int)) = (if n< 0 then -(n+1) else n).tmod (m:Int):=by
 unfold eo
 refine Int.toNat_of_nonneg (Int.tmod_nonneg _ ?_)
 split<;>omega
theorem rF (n:Int){m:Nat}(h:0< m):eo n m< m:=by
 have h1:=oZ n m
 have h2:=Int.tmod_lt_of_pos (if n< 0 then -(n+1) else n) (b:=(m:Int)) (by omega)
 omega
def iW (l:List Int)(i m:Nat):Nat:=if l.length≤i then 0 else eo (gt l i) m
theorem o5 (l:List Int)(i:Nat){m:Nat}(h:0< m):iW l i m< m:=by
 unfold iW;split
 . exact h
 . exact rF _ h
def LI (l:List Int):Prop:=l.length≤9223372036854775807∧∀i,i< l.length→ -9223372036854775808≤gt l i∧gt l i≤9223372036854775807
def js (s:List UInt8)(n:Nat):List UInt8:=s.take n
def jP (n:Nat):List UInt8:=if n % 3=0 then [UInt8.ofNat (97+n / 3)] else [UInt8.ofNat (97+n / 3),UInt8.ofNat (97+n % 3)]
def vals5:List (List UInt8):=[[],[49],[50],[97,32,98],[49,50]]
def eH (l:List Int):Nat→List ab×Nat
 |0=>([],0)
 |i+1=>((eH l i).1++[(jP ((eH l i).2+iW l (2*i) 3),gt vals5 (iW l (2*i+1) 5))],(eH l i).2+iW l (2*i) 3+1)
def jQ (l:List Int):Nat:=min ((l.length+1) / 2) 11
def gG (l:List Int):List ab:=(eH l (jQ l)).1
theorem iX (l:List Int):∀i,(eH l i).1.length=i
 |0=>rfl
 |i+1=>by simp[eH,iX l i]
theorem v6 (l:List Int):∀i,(eH l i).2≤3*i
 |0=>Nat.zero_le _
 |i+1=>by
  have h:=v6 l i
  have h2:=o5 l (2*i) (m:=3) (by omega)
  simp only[eH];omega
theorem Ci (n:Nat):1≤(jP n).length∧(jP n).length≤2:=by unfold jP;split<;>simp
def gH (r:List (List UInt8×List UInt8)):List ab:=(r.take 8).map fun x=>(js x.1 40,js x.2 40)
theorem ue {x y:List UInt8}(h:x=y): (some (C.val (str x))) =some (C.val (str y)):=by rw[h]
theorem lV {p:Prop}(e:p:=by intro KZ hZ;simp -implicitDefEqProofs (disch:=first|omega| (simp only[go_sem,lA,lD,lT] <;>omega) |decide) only[go_sem,↓reduceIte,Nat.reduceEqDiff,reduceCtorEq,Nat.reduceLT,Nat.reduceBEq,Nat.reduceAdd,hy];with_reducible exact hZ):p:=e
theorem zL {p:Prop}(e:p:=by simp -implicitDefEqProofs (disch:=first|omega| (simp only[go_sem,lA,lD,lT] <;>omega) |decide) only[go_sem,↓reduceIte,Nat.reduceEqDiff,reduceCtorEq];all_goals (exact congrArg (fun z=>some (C.val (.int .i64 z))) (by rw[oZ];first| (rw[if_pos (by omega)];rfl) |rw[if_neg (by omega)]))):p:=e
theorem TV {gl:Nat→C}{M:Nat}{pu:Nat→List C→Option C}(hcx:CxOK (ao gl M pu))(n:Int)(m:Nat)(hn: -9223372036854775808≤n∧n≤9223372036854775807∧0< m∧m≤9223372036854775807):FC Tryd.prog gl 17 [.val (.int .i64 n),.val (nI m)] [] (.val (nI (eo n m))) []:=by
 replace hcx:=hcx.reN (M:=13)
 refine aP (cx:=ao gl 13 pu) (rs:=[.tmp 4]) rfl Tryd.func17 rfl rfl rfl (by simp only[List.length_cons,List.length_nil];decide) (by simp only[go_sem]) ?_
 simp only[bQ,go_sem]
 have hy:=True.intro
 refine aa hcx [] _ [] rfl rfl rfl ?_ lV
 refine ae fun K1 hK1=>?_
 refine aa hcx [] _ [] rfl rfl rfl ?_ lV
 refine bq rfl (fun hc6=>?_) (fun hc6=>?_)
 ·
  refine br hcx [1000009] _ [] rfl rfl rfl ?_ lV
  refine hK1 _ ?_
  refine aa hcx [1000012] _ [] rfl rfl rfl ?_ lV
  exact Tr.ret zL
 refine Tr.skip ?_
 refine hK1 _ ?_
 refine aa hcx [1000012] _ [] rfl rfl rfl ?_ lV
 exact Tr.ret zL
theorem o6 {p:Prop}(e:p:=by intro KZ hZ;simp -implicitDefEqProofs (disch:=first|omega| (simp only[go_sem,lA,lD,lT] <;>omega) |decide) only[go_sem,↓reduceIte,Nat.reduceEqDiff,reduceCtorEq,Nat.reduceLT,Nat.reduceBEq,Nat.reduceAdd,h17,Nat.not_lt_zero,hy];with_reducible exact hZ):p:=e
theorem zM {p:Prop}(e:p:=by simp -implicitDefEqProofs (disch:=first|omega| (simp only[go_sem,lA,lD,lT] <;>omega) |decide) only[go_sem,↓reduceIte,Nat.reduceEqDiff,reduceCtorEq];all_goals (exact congrArg (fun z=>some (C.val (nI z))) (by unfold iW;first|rw[if_pos hc14] |rw[if_neg hc14]))):p:=e
theorem TW {gl:Nat→C}{M:Nat}{pu:Nat→List C→Option C}(hcx:CxOK (ao gl M pu))(h17:∀ (n:Int) (m:Nat),-9223372036854775808≤n∧n≤9223372036854775807∧0< m∧m≤9223372036854775807→pu 17 [.val (.int .i64 n),.val (nI m)] =some (.val (nI (eo n m))))(l:List Int)(i m:Nat)(hl:LI l)(hi:i≤1000000)(hm:0< m∧m≤9223372036854775807):FC Tryd.prog gl 48 [sl iC .no l,.val (nI i),.val (nI m)] [] (.val (nI (iW l i m))) []:=by
 replace hcx:=hcx.reN (M:=21)
 refine aP (cx:=ao gl 21 pu) (rs:=[.tmp 6]) rfl Tryd.func48 rfl rfl rfl (by simp only[List.length_cons,List.length_nil];decide) (by simp only[go_sem]) ?_
 simp only[bQ,go_sem]
 have hy:=True.intro
 have hl1:=hl.1
 refine aa hcx [] _ [] rfl rfl rfl ?_ o6
 refine ae fun K1 hK1=>?_
 refine aa hcx [] [some 7,some 8,some 9,some 10,some 11,some 12,some 13,some 14] [] rfl rfl rfl ?_ o6
 refine bq rfl (fun hc14=>?_) (fun hc14=>?_)
 ·
  refine aa hcx [] _ [] rfl rfl rfl ?_ o6
  exact Tr.ret zM
 have hb1:=hl.2 i (by omega)
 refine Tr.skip ?_
 refine hK1 _ ?_
 refine aa hcx [1000020] _ [] rfl rfl rfl ?_ o6
 exact Tr.ret zM
theorem o7 {p:Prop}(e:p:=by intro KZ hZ;simp -implicitDefEqProofs (disch:=first|omega| (simp only[go_sem,lA,lD,lT] <;>omega) |decide) only[go_sem,↓reduceIte,Nat.reduceEqDiff,reduceCtorEq,Nat.reduceLT,Nat.reduceBEq,Nat.reduceAdd,hy];with_reducible exact hZ):p:=e
theorem zN {p:Prop}(e:p:=by simp -implicitDefEqProofs (disch:=first|omega| (simp only[go_sem,lA,lD,lT] <;>omega) |decide) only[go_sem,↓reduceIte,Nat.reduceEqDiff,reduceCtorEq];all_goals (exact ue (by unfold jP;first|rw[if_pos hc5] |rw[if_neg hc5] <;>rfl))):p:=e
theorem TX {gl:Nat→C}{M:Nat}{pu:Nat→List C→Option C}(hcx:CxOK (ao gl M pu))(n:Nat)(hn:n≤1000000000000):FC Tryd.prog gl 49 [.val (nI n)] [] (.val (str (jP n))) []:=by
 replace hcx:=hcx.reN (M:=22)
 refine aP (cx:=ao gl 22 pu) (rs:=[.tmp 2]) rfl Tryd.func49 rfl rfl rfl (by simp only[List.length_cons,List.length_nil];decide) (by simp only[go_sem]) ?_
 simp only[bQ,go_sem]
 have hy:=True.intro
 refine aa hcx [] _ [] rfl rfl rfl ?_ o7
 refine ae fun K1 hK1=>?_
 refine aa hcx [] _ [] rfl rfl rfl ?_ o7
 refine bq rfl (fun hc5=>?_) (fun hc5=>?_)
 ·
  refine aa hcx [1000011] _ [] rfl rfl rfl ?_ o7
  exact Tr.ret zN
 refine Tr.skip ?_
 refine hK1 _ ?_
 refine aa hcx [1000021] _ [] rfl rfl rfl ?_ o7
 exact Tr.ret zN
theorem o8 {p:Prop}(e:p:=by intro KZ hZ;simp -implicitDefEqProofs (disch:=first|omega| (simp only[go_sem,lA,lD,lT] <;>omega) |decide) only[go_sem,↓reduceIte,Nat.reduceEqDiff,reduceCtorEq,Nat.reduceLT,Nat.reduceBEq,Nat.reduceAdd,hy];with_reducible exact hZ):p:=e
theorem zO {p:Prop}(e:p:=by simp -implicitDefEqProofs (disch:=first|omega| (simp only[go_sem,lA,lD,lT] <;>omega) |decide) only[go_sem,↓reduceIte,Nat.reduceEqDiff,reduceCtorEq];all_goals (first|rfl|exact ue (List.take_of_length_le (by omega)).symm)):p:=e
theorem TY {gl:Nat→C}{M:Nat}{pu:Nat→List C→Option C}(hcx:CxOK (ao gl M pu))(s:List UInt8)(n:Nat)(hs:s.length< 9223372036854775808)(hn:n≤1000000):FC Tryd.prog gl 21 [.val (str s),.val (nI n)] [] (.val (str (js s n))) []:=by
 replace hcx:=hcx.reN (M:=13)
 refine aP (cx:=ao gl 13 pu) (rs:=[.tmp 4]) rfl Tryd.func21 rfl rfl rfl (by simp only[List.length_cons,List.length_nil];decide) (by simp only[go_sem]) ?_
 simp only[bQ,go_sem]
 have hy:=True.intro
 refine aa hcx [] _ [] rfl rfl rfl ?_ o8
 refine ae fun K1 hK1=>?_
 refine aa hcx [] _ [] rfl rfl rfl ?_ o8
 refine bq rfl (fun hc8=>?_) (fun hc8=>?_)
 ·
  refine aa hcx [1000011] _ [] rfl rfl rfl ?_ o8
  exact Tr.ret zO
 refine Tr.skip ?_
 refine hK1 _ ?_
 refine aa hcx [1000012] _ [] rfl rfl rfl ?_ o8
 exact Tr.ret zO
theorem ka {p:Prop}(e:p:=by intro KZ hZ;simp -implicitDefEqProofs (disch:=first|omega| (simp only[go_sem,lA,lD,lT] <;>omega) |decide) only[go_sem,↓reduceIte,Nat.reduceEqDiff,reduceCtorEq,Nat.reduceLT,Nat.reduceBEq,Nat.reduceAdd,hy];with_reducible exact hZ):p:=e
theorem La {p:Prop}(e:p:=by intro KZ hZ;simp -implicitDefEqProofs (disch:=first|omega| (simp only[go_sem,lA,lD,lT] <;>omega) |decide) only[go_sem,↓reduceIte,Nat.reduceEqDiff,reduceCtorEq,Nat.reduceLT,Nat.reduceBEq,Nat.reduceAdd,hy];refine And.intro ?_ hZ;exact rfl):p:=e
theorem Lb {p:Prop}(e:p:=by simp -implicitDefEqProofs (disch:=first|omega| (simp only[go_sem,lA,lD,lT] <;>omega) |decide) only[go_sem,↓reduceIte,Nat.reduceEqDiff,reduceCtorEq];all_goals (rw[List.take_length])):p:=e
theorem TZ {gl:Nat→C}{M:Nat}{pu:Nat→List C→Option C}(hcx:CxOK (ao gl M pu))(l:List ab)(hl:l.length≤1000000):FC Tryd.prog gl 13 [sl eC .no l] [] (sl eC (.own 2) l) []:=by
 replace hcx:=hcx.reN (M:=26)
 refine aP (cx:=ao gl 26 pu) (rs:=[.tmp 2]) rfl Tryd.func13 rfl rfl rfl (by simp only[List.length_cons,List.length_nil];decide) (by simp only[go_sem]) ?_
 simp only[bQ,go_sem]
 have hy:=True.intro
 refine aa hcx [] _ [] rfl rfl rfl ?_ ka
 refine aa hcx [] _ [] rfl rfl rfl ?_ ka
 refine ae fun K1 hK1=>?_
 refine aa hcx [] _ [] rfl rfl rfl ?_ ka
 refine Tr.k [0,3,4] ?_
 refine Tr.blk ?_
 refine aX (α:=Nat) (fun a=>[(0,?v0_1),(3,sl eC (.own 2) (l.take a)),(4,.val (nI a))]) (fun a=>?h_1) (fun a=>a≤l.length) (fun a=>l.length - a) (0) (Nat.zero_le _) ?le_1 ?hh_1 ?bd_1
 case hh_1=>exact rfl
 case le_1=>exact LT
 rintro i hi
 refine ae fun K2 hK2=>?_
 refine aa hcx [] _ [] rfl rfl rfl ?_ ka
 refine bq rfl (fun hc8=>?_) (fun hc8=>?_)
 ·
  refine Tr.skip ?_
  refine hK2 _ ?_
  refine ae fun K3 hK3=>?_
  refine Tr.blk ?_
  refine gA hcx dR [11,1000024] _ [] rfl rfl rfl rfl ?_ La
  refine hK3 _ ?_
  refine br hcx [1000010] _ [] rfl rfl rfl ?_ ka
  refine ⟨i+1,⟨by omega,O1⟩,?_,rfl⟩
  (simp only[bJ,bc,↓bG,↓reduceIte,Nat.reduceEqDiff,aY,bu,aZ,bv,bz,and_true,true_and];all_goals (repeat' first|exact CLe.refl _|exact True.intro| (refine aW ?_;first|rfl| (simp only[List.take_zero];done)) |exact bN (by omega) |exact aO (by omega) |exact bd (by omega) |exact bA (by omega) |with_reducible apply And.intro))
  all_goals (refine du ?_;rw[←rH l i hc8])
 obtain rfl:i=l.length:=by omega
 refine Tr.exit ?_
 refine hK1 _ ?_
 refine aa hcx [1000025] _ [] rfl rfl rfl ?_ ka
 exact Tr.ret Lb
theorem kb {p:Prop}(e:p:=by intro KZ hZ;simp -implicitDefEqProofs (disch:=first|omega| (simp only[go_sem,lA,lD,lT] <;>omega) |decide) only[go_sem,↓reduceIte,Nat.reduceEqDiff,reduceCtorEq,Nat.reduceLT,Nat.reduceBEq,Nat.reduceAdd,hy];with_reducible exact hZ):p:=e
theorem Lc {p:Prop}(e:p:=by intro KZ hZ;simp -implicitDefEqProofs (disch:=first|omega| (simp only[go_sem,lA,lD,lT] <;>omega) |decide) only[go_sem,↓reduceIte,Nat.reduceEqDiff,reduceCtorEq,Nat.reduceLT,Nat.reduceBEq,Nat.reduceAdd,hy];refine And.intro ?_ hZ;exact rfl):p:=e
theorem Ld {p:Prop}(e:p:=by simp -implicitDefEqProofs (disch:=first|omega| (simp only[go_sem,lA,lD,lT] <;>omega) |decide) only[go_sem,↓reduceIte,Nat.reduceEqDiff,reduceCtorEq];all_goals (rw[List.take_length])):p:=e
theorem T0 {gl:Nat→C}{M:Nat}{pu:Nat→List C→Option C}(hcx:CxOK (ao gl M pu))(l:List ab)(hl:l.length≤1000000):FC Tryd.prog gl 18 [sl eC .no l] [] (sl eC (.own 2) l) []:=by
 replace hcx:=hcx.reN (M:=26)
 refine aP (cx:=ao gl 26 pu) (rs:=[.tmp 2]) rfl Tryd.func18 rfl rfl rfl (by simp only[List.length_cons,List.length_nil];decide) (by simp only[go_sem]) ?_
 simp only[bQ,go_sem]
 have hy:=True.intro
 refine aa hcx [] _ [] rfl rfl rfl ?_ kb
 refine aa hcx [] _ [] rfl rfl rfl ?_ kb
 refine ae fun K1 hK1=>?_
 refine aa hcx [] _ [] rfl rfl rfl ?_ kb
 refine Tr.k [0,3,4] ?_
 refine Tr.blk ?_
 refine aX (α:=Nat) (fun a=>[(0,?v0_1),(3,sl eC (.own 2) (l.take a)),(4,.val (nI a))]) (fun a=>?h_1) (fun a=>a≤l.length) (fun a=>l.length - a) (0) (Nat.zero_le _) ?le_1 ?hh_1 ?bd_1
 case hh_1=>exact rfl
 case le_1=>exact LT
 rintro i hi
 refine ae fun K2 hK2=>?_
 refine aa hcx [] _ [] rfl rfl rfl ?_ kb
 refine bq rfl (fun hc8=>?_) (fun hc8=>?_)
 ·
  refine Tr.skip ?_
  refine hK2 _ ?_
  refine ae fun K3 hK3=>?_
  refine Tr.blk ?_
  refine gA hcx dR [11,1000024] _ [] rfl rfl rfl rfl ?_ Lc
  refine hK3 _ ?_
  refine br hcx [1000010] _ [] rfl rfl rfl ?_ kb
  refine ⟨i+1,⟨by omega,O1⟩,?_,rfl⟩
  (simp only[bJ,bc,↓bG,↓reduceIte,Nat.reduceEqDiff,aY,bu,aZ,bv,bz,and_true,true_and];all_goals (repeat' first|exact CLe.refl _|exact True.intro| (refine aW ?_;first|rfl| (simp only[List.take_zero];done)) |exact bN (by omega) |exact aO (by omega) |exact bd (by omega) |exact bA (by omega) |with_reducible apply And.intro))
  all_goals (refine du ?_;rw[←rH l i hc8])
 obtain rfl:i=l.length:=by omega
 refine Tr.exit ?_
 refine hK1 _ ?_
 refine aa hcx [1000025] _ [] rfl rfl rfl ?_ kb
 exact Tr.ret Ld
end Go.Sx
namespace Go.Sx
open Go.RowKit Go.Proofs
set_option maxRecDepth 100000
set_option maxHeartbeats 8000000
def fV (l:List ab)(k:List UInt8)(i:Nat):Nat:=((l.take i).filter fun x=>bl x.1 k).length
def bm (l:List ab)(k:List UInt8):Nat:=fV l k l.length
theorem Qf {l:List ab}{k:List UInt8}{i:Nat}(h:i< l.length)(hb:bl (gt l i).1 k=true):fV l k (i+1) =fV l k i+1:=by
 unfold fV;rw[dG l i h,List.filter_append];simp[hb]
theorem Qg {l:List ab}{k:List UInt8}{i:Nat}(h:i< l.length)(hb:bl (gt l i).1 k=false):fV l k (i+1) =fV l k i:=by
 unfold fV;rw[dG l i h,List.filter_append];simp[hb]
theorem T2 (l:List ab)(k:List UInt8)(i:Nat):fV l k i≤i:=by
 unfold fV
 have h1:=List.length_filter_le (fun x:ab=>bl x.1 k) (l.take i)
 have h2:=List.length_take_le i l
 omega
theorem Li {l:List Int}{i:Nat}(h1:2*i< l.length)(h2:i< 11):i< jQ l:=by unfold jQ;omega
theorem zP {l:List Int}{i:Nat}(h:i≤jQ l)(h1:¬ (2*i< l.length∧i< 11)):i=jQ l:=by unfold jQ at h ⊢;omega
theorem v7 (l:List Int):jQ l≤11:=by unfold jQ;omega
def lW (r:List ab)(i:Nat):List ab:=(r.take i).map fun x:ab=>(js x.1 40,js x.2 40)
theorem Cj (r:List ab)(i:Nat): (lW r i).length≤i:=by unfold lW;rw[List.length_map];exact List.length_take_le _ _
theorem Lj (r:List ab)(i:Nat)(h:i< r.length):lW r i++[(js (gt r i).1 40,js (gt r i).2 40)] =lW r (i+1):=by
 unfold lW;rw[dG r i h,List.map_append];rfl
theorem Lk (r:List ab)(i:Nat)(h:i≤r.length∧i≤8)(h1:¬ (i< r.length∧i< 8)):lW r i=gH r:=by
 unfold lW gH
 by_cases e:r.length< 8
 . rw[List.take_of_length_le (by omega),List.take_of_length_le (by omega)]
 . rw[show i=8 by omega]
theorem Hj:sl sC .full ((((((List.replicate 5 ([]:List UInt8)).set 0 []).set 1 [49]).set 2 [50]).set 3 [97,32,98]).set 4 [49,50]) =sl sC .full vals5:=rfl
theorem v8:vals5.length=5:=rfl
theorem eQ {p:Prop}(e:p:=by intro KZ hZ;simp -implicitDefEqProofs (disch:=first|omega| (simp only[go_sem,lA,lD,lT,iX,v8] <;>omega) |decide) only[go_sem,↓reduceIte,Nat.reduceEqDiff,reduceCtorEq,Nat.reduceLT,Nat.reduceBEq,Nat.reduceAdd,b1,b2,hy];with_reducible exact hZ):p:=e
theorem zQ {p:Prop}(e:p:=by simp -implicitDefEqProofs (disch:=first|omega| (simp only[go_sem,lA,lD,lT,iX,v8] <;>omega) |decide) only[go_sem,↓reduceIte,Nat.reduceEqDiff,reduceCtorEq];all_goals (rw[gG,←hiE])):p:=e
theorem T4 {gl:Nat→C}{M:Nat}{pu:Nat→List C→Option C}(hcx:CxOK (ao gl M pu))(h48:∀ (l:List Int) (i m:Nat),LI l→i≤1000000→0< m∧m≤9223372036854775807→pu 48 [sl iC .no l,.val (nI i),.val (nI m)] =some (.val (nI (iW l i m))))(h49:∀n:Nat,n≤1000000000000→pu 49 [.val (nI n)] =some (.val (str (jP n))))(l:List Int)(hl:LI l):FC Tryd.prog gl 10 [sl iC .no l] [] (sl eC (.own 2) (gG l)) []:=by
 replace hcx:=hcx.reN (M:=39)
 refine aP (cx:=ao gl 39 pu) (rs:=[.tmp 2]) rfl Tryd.func10 rfl rfl rfl (by simp only[List.length_cons,List.length_nil];decide) (by simp only[go_sem]) ?_
 simp only[bQ,go_sem]
 have b1:=True.intro
 have b2:=True.intro
 have hy:=True.intro
 have hl1:=hl.1
 have hN:=v7 l
 refine aa hcx [] _ [] rfl rfl rfl ?_ eQ
 refine aa hcx [] _ [] rfl rfl rfl ?_ eQ
 refine aa hcx [] _ [] rfl rfl rfl ?_ eQ
 refine ae fun K1 hK1=>?_
 refine aa hcx [] _ [] rfl rfl rfl ?_ eQ
 refine Tr.k [0,3,4,5] ?_
 refine Tr.blk ?_
 refine aX (α:=Nat) (fun a=>[(0,?v0_1),(3,sl eC (.own 2) (eH l a).1),(4,.val (.int .i64 (((eH l a).2:Int) - 1))),(5,.val (nI a))]) (fun a=>?h_1) (fun a=>a≤jQ l) (fun a=>jQ l - a) (0) (Nat.zero_le _) ?le_1 ?hh_1 ?bd_1
 case hh_1=>exact rfl
 case le_1=>(simp only[bJ,bc,↓bG,↓reduceIte,Nat.reduceEqDiff,aY,bu,aZ,bv,bz,and_true,true_and];all_goals (repeat' first|exact CLe.refl _|exact True.intro| (refine aW ?_;first|rfl| (simp only[List.take_zero];done)) |exact bN (by omega) |exact aO (by omega) |exact bd (by omega) |exact bA (by omega) |with_reducible apply And.intro));all_goals exact aO (by simp[eH])
 rintro i hi
 refine ae fun K2 hK2=>?_
 by_cases b1:2*i< l.length
 ·
  by_cases b2:i< 11
  ·
   have hiN:=Li b1 b2
   refine aa hcx [] [some 6,some 7,some 8,some 9,some 10,some 11,some 12,some 13,some 14] [] rfl rfl rfl ?_ eQ
   refine bM rfl ?_
   refine Tr.skip ?_
   refine hK2 _ ?_
   refine ae fun K3 hK3=>?_
   refine Tr.blk ?_
   have e48:=h48 l (2*i) 3 hl (by omega) (by omega)
   have e48b:=h48 l (2*i+1) 5 hl (by omega) (by omega)
   have hat:=v6 l i
   have ha3:=o5 l (2*i) (m:=3) (by omega)
   have ha5:=o5 l (2*i+1) (m:=5) (by omega)
   have e49:pu 49 [.val (.int .i64 (((eH l i).2:Int) - 1+((1:Nat):Int)+((iW l (2*i) 3:Nat):Int)))] =some (.val (str (jP ((eH l i).2+iW l (2*i) 3)))):=by
    rw[show (((eH l i).2:Int) - 1+((1:Nat):Int)+((iW l (2*i) 3:Nat):Int)) = (((eH l i).2+iW l (2*i) 3:Nat):Int) by omega]
    exact h49 _ (by omega)
   have hy:= @e48
   refine aa hcx [1000023] _ [] rfl rfl rfl ?_ eQ
   refine Tr.k [0,3,4,5] ?_
   have hy:=And.intro @e49 (And.intro @e48b @Hj)
   refine br hcx [24,1000037] _ [] rfl rfl rfl ?_ eQ
   refine hK3 _ ?_
   have hy:=True.intro
   refine br hcx [1000016] _ [] rfl rfl rfl ?_ eQ
   refine ⟨i+1,⟨by omega,O1⟩,?_,rfl⟩
   (simp only[bJ,bc,↓bG,↓reduceIte,Nat.reduceEqDiff,aY,bu,aZ,bv,bz,and_true,true_and];all_goals (repeat' first|exact CLe.refl _|exact True.intro| (refine aW ?_;first|rfl| (simp only[List.take_zero];done)) |exact bN (by omega) |exact aO (by omega) |exact bd (by omega) |exact bA (by omega) |with_reducible apply And.intro))
   all_goals first| (refine du ?_;rfl) | (refine aO ?_;simp only[eH];omega)
  skip
  refine aa hcx [] [some 6,some 7,some 8,some 9,some 10,some 11,some 12,some 13,some 14] [] rfl rfl rfl ?_ eQ
  refine bF rfl ?_
  refine Tr.exit ?_
  refine hK1 _ ?_
  have hiE:=zP hi (by omega)
  refine aa hcx [1000038] _ [] rfl rfl rfl ?_ eQ
  exact Tr.ret zQ
 refine aa hcx [] [some 6,some 7,some 8,some 9,some 10,some 11,some 12,some 13,some 14] [] rfl rfl rfl ?_ eQ
 refine bF rfl ?_
 refine Tr.exit ?_
 refine hK1 _ ?_
 have hiE:=zP hi (by omega)
 refine aa hcx [1000038] _ [] rfl rfl rfl ?_ eQ
 exact Tr.ret zQ
theorem gn {p:Prop}(e:p:=by intro KZ hZ;simp -implicitDefEqProofs (disch:=first|omega| (simp only[go_sem,lA,lD,lT,hsm] <;>omega) |decide) only[go_sem,↓reduceIte,Nat.reduceEqDiff,reduceCtorEq,Nat.reduceLT,Nat.reduceBEq,Nat.reduceAdd,b1,b2,hy];with_reducible exact hZ):p:=e
theorem Ll {p:Prop}(e:p:=by intro KZ hZ;simp -implicitDefEqProofs (disch:=first|omega| (simp only[go_sem,lA,lD,lT,hsm] <;>omega) |decide) only[go_sem,↓reduceIte,Nat.reduceEqDiff,reduceCtorEq,Nat.reduceLT,Nat.reduceBEq,Nat.reduceAdd,b1,b2,hy];with_reducible refine And.intro ?_ hZ;first|exact rfl|decide):p:=e
theorem zR {p:Prop}(e:p:=by simp -implicitDefEqProofs (disch:=first|omega| (simp only[go_sem,lA,lD,lT,hsm] <;>omega) |decide) only[go_sem,↓reduceIte,Nat.reduceEqDiff,reduceCtorEq];all_goals (rw[Lk r i hi (by omega)])):p:=e
theorem T5 {gl:Nat→C}{M:Nat}{pu:Nat→List C→Option C}(hcx:CxOK (ao gl M pu))(h21:∀ (s:List UInt8) (n:Nat),s.length< 9223372036854775808→n≤1000000→pu 21 [.val (str s),.val (nI n)] =some (.val (str (js s n))))(r:List ab)(hl:r.length< 9223372036854775808)(hs:∀i,i< r.length→(gt r i).1.length< 9223372036854775808∧(gt r i).2.length< 9223372036854775808):FC Tryd.prog gl 11 [sl eC .no r] [] (sl eC (.own 2) (gH r)) []:=by
 replace hcx:=hcx.reN (M:=32)
 refine aP (cx:=ao gl 32 pu) (rs:=[.tmp 2]) rfl Tryd.func11 rfl rfl rfl (by simp only[List.length_cons,List.length_nil];decide) (by simp only[go_sem]) ?_
 simp only[bQ,go_sem]
 have b1:=True.intro
 have b2:=True.intro
 have hy:=True.intro
 have hsm:=Cj r
 refine aa hcx [] _ [] rfl rfl rfl ?_ gn
 refine aa hcx [] _ [] rfl rfl rfl ?_ gn
 refine ae fun K1 hK1=>?_
 refine aa hcx [] _ [] rfl rfl rfl ?_ gn
 refine Tr.k [0,3,4] ?_
 refine Tr.blk ?_
 refine aX (α:=Nat) (fun a=>[(0,?v0_1),(3,sl eC (.own 2) (lW r a)),(4,.val (nI a))]) (fun a=>?h_1) (fun a=>a≤r.length∧a≤8) (fun a=>8 - a) (0) ⟨Nat.zero_le _,Nat.zero_le _⟩ ?le_1 ?hh_1 ?bd_1
 case hh_1=>exact rfl
 case le_1=>exact LT
 rintro i hi
 refine ae fun K2 hK2=>?_
 by_cases b1:i< r.length
 ·
  by_cases b2:i< 8
  ·
   have e1:=h21 (gt r i).1 40 (hs i b1).1 (by omega)
   have e2:=h21 (gt r i).2 40 (hs i b1).2 (by omega)
   have hsi:=hsm i
   refine aa hcx [] [some 5,some 6,some 7,some 8,some 9,some 10,some 11,some 12] [] rfl rfl rfl ?_ gn
   refine bM rfl ?_
   refine Tr.skip ?_
   refine hK2 _ ?_
   refine Tr.k [0,3,4] ?_
   refine ae fun K3 hK3=>?_
   refine Tr.blk ?_
   have hy:=And.intro @e1 @e2
   refine gA hcx dR [15,1000030] _ [] rfl rfl rfl rfl ?_ Ll
   refine hK3 _ ?_
   have hy:=True.intro
   refine br hcx [1000014] _ [] rfl rfl rfl ?_ gn
   refine ⟨i+1,⟨by omega,O1⟩,?_,rfl⟩
   (simp only[bJ,bc,↓bG,↓reduceIte,Nat.reduceEqDiff,aY,bu,aZ,bv,bz,and_true,true_and];all_goals (repeat' first|exact CLe.refl _|exact True.intro| (refine aW ?_;first|rfl| (simp only[List.take_zero];done)) |exact bN (by omega) |exact aO (by omega) |exact bd (by omega) |exact bA (by omega) |with_reducible apply And.intro))
   all_goals (refine du ?_;exact Lj r i b1)
  skip
  refine aa hcx [] [some 5,some 6,some 7,some 8,some 9,some 10,some 11,some 12] [] rfl rfl rfl ?_ gn
  refine bF rfl ?_
  refine Tr.exit ?_
  refine hK1 _ ?_
  refine aa hcx [1000031] _ [] rfl rfl rfl ?_ gn
  exact Tr.ret zR
 refine aa hcx [] [some 5,some 6,some 7,some 8,some 9,some 10,some 11,some 12] [] rfl rfl rfl ?_ gn
 refine bF rfl ?_
 refine Tr.exit ?_
 refine hK1 _ ?_
 refine aa hcx [1000031] _ [] rfl rfl rfl ?_ gn
 exact Tr.ret zR
end Go.Sx
namespace Go.Sx
open Go.RowKit
def b8 (f:Nat)(pre:List C):Nat→C
 |0=> .top
 |d+1=> .kp [.fn f (pre++[b8 f pre d])]
theorem JR (f:Nat)(pre:List C)(d:Nat): (b8 f pre d).noR=b8 f pre d:=by cases d<;>rfl
theorem qj (k:Nat)(x:C):∀l:List C,noRefs k (l++[x]) = (noRefs k l && ah k x)
 | [] =>by simp[noRefs]
 |y::l=>by simp only[List.cons_append,noRefs,qj k x l,Bool.and_assoc]
theorem mq (k f:Nat)(pre:List C)(h:noRefs k pre=true):∀d,ah k (b8 f pre d) =true
 |0=>rfl
 |d+1=>by simp only[b8,ah,noRefs,qj,h,mq k f pre h d,Bool.and_self]
theorem vo (r:Nat→Nat)(x:C):∀l:List C,bkCs r (l++[x]) =bkCs r l++[bS r x]
 | [] =>by simp[bkCs]
 |y::l=>by simp only[List.cons_append,bkCs,vo r x l]
theorem vr (r:Nat→Nat)(f:Nat)(pre:List C):∀d,bS r (b8 f pre d) =b8 f (bkCs r pre) d
 |0=>by simp only[b8,bS]
 |d+1=>by simp only[b8,bS,bkCs,vo,vr r f pre d]
theorem vt (ρ:List Nat)(x:C):∀l:List C,mvCs ρ (l++[x]) =mvCs ρ l++[bn ρ x]
 | [] =>by simp[mvCs]
 |y::l=>by simp only[List.cons_append,mvCs,vt ρ x l]
theorem vu (ρ:List Nat)(f:Nat)(pre:List C):∀d,bn ρ (b8 f pre d) =b8 f (mvCs ρ pre) d
 |0=>by simp only[b8,bn]
 |d+1=>by simp only[b8,bn,mvCs,vt,vu ρ f pre d]
theorem oM (ok:Nat→Bool)(b:Nat)(ys:List C)(x:C):∀l:List C,fzCs ok b ys (l++[x]) =fzCs ok b ys l++[bg ok b ys x]
 | [] =>by simp[fzCs]
 |y::l=>by simp only[List.cons_append,fzCs,oM ok b ys x l]
theorem vv (ok:Nat→Bool)(x:C):∀l:List C,scrs ok (l++[x]) =scrs ok l++[cQ ok x]
 | [] =>by simp[scrs]
 |y::l=>by simp only[List.cons_append,scrs,vv ok x l]
theorem qk (ok:Nat→Bool)(b:Nat)(ys:List C)(f:Nat)(pre:List C):∀d,bg ok b ys (b8 f pre d) =b8 f (fzCs ok b ys pre) d
 |0=>by simp only[b8,bg]
 |d+1=>by simp only[b8,bg,fzCs,oM,qk ok b ys f pre d]
theorem sz (h:Hp)(b f:Nat)(pre:List C)(h1:scrs (cr h b) pre=pre)(h2:∀ys,fzCs (cr h b) b ys pre=pre):∀m,ix h b [.fn f (pre++[.bp b 0])] m= [.fn f (pre++[b8 f pre m])]
 |0=>by
  have e:cr h b b=false:=by simp[cr]
  simp only[ix,fzY,scrs,cQ,vv,h1,e,Bool.false_eq_true,if_false];rfl
 |m+1=>by
  simp only[ix,fzCs,bg,oM,h2,sz h b f pre h1 h2 m,if_true,List.drop_zero,List.map_cons,List.map_nil]
  rfl
section
variable (ok:Nat→Bool) (b:Nat) (ys:List C)
theorem ql (b' o n:Nat):bg ok b ys (.sv b' o n) =if b'=b then (if o+n≤ys.length then .sl .no n ((ys.drop o).take n) else .top) else if ok b'=true then .sv b' o n else .top:=by simp only[bg]
theorem qm (b' o:Nat):bg ok b ys (.bp b' o) =if b'=b then .kp (ys.drop o) else if ok b'=true then .bp b' o else .top:=by simp only[bg]
theorem qn (b':Nat):bg ok b ys (.mp b') =if b'=b then .top else if ok b'=true then .mp b' else .top:=by simp only[bg]
theorem qo (b' t n:Nat):bg ok b ys (.bt b' t n) =if b'=b then .top else if ok b'=true then .bt b' t n else .top:=by simp only[bg]
theorem vw (b o n:Nat):cQ ok (.sv b o n) =if ok b=true then .sv b o n else .top:=by simp only[cQ]
theorem vx (b n:Nat)(s:Nat×Nat):cQ ok (.gv b n s) =if ok b=true then .gv b n s else .top:=by simp only[cQ]
theorem vy (b o:Nat):cQ ok (.bp b o) =if ok b=true then .bp b o else .top:=by simp only[cQ]
theorem vz (b:Nat):cQ ok (.mp b) =if ok b=true then .mp b else .top:=by simp only[cQ]
theorem vA (b t n:Nat):cQ ok (.bt b t n) =if ok b=true then .bt b t n else .top:=by simp only[cQ]
theorem vB (xs:List C):cQ ok (.kp xs) = .kp (scrs ok xs):=by simp only[cQ]
theorem rz (xs:List C):cQ ok (.agg xs) = .agg (scrs ok xs):=by simp only[cQ]
theorem vC (f:Nat)(xs:List C):cQ ok (.fn f xs) = .fn f (scrs ok xs):=by simp only[cQ]
theorem rA:cQ ok .top= .top:=by simp only[cQ]
theorem rB (v:Value):cQ ok (.val v) = .val v:=by simp only[cQ]
theorem oN:scrs ok [] = []:=by simp only[scrs]
theorem mr (x:C)(xs:List C):scrs ok (x::xs) =cQ ok x::scrs ok xs:=by simp only[scrs]
theorem nM {α:Type}(f:α→List C)[h:Fla f](l:List α):scrs ok (cl f l) =cl f l:=scrs_flat ok _ (eM f l)
theorem vE {α:Type}(f:α→List C)[h:Fla f](r:Rt)(l:List α):cQ ok (sl f r l) =sl f r l:=by unfold sl;simp only[cQ,nM]
theorem vF (h:Hp):iz ok b ys h= (h.map fun o=>o.map (fzCs ok b ys)).set b (some dP):=rfl
theorem B9 (h:Hp)(cells:List C):fzY h b cells= (scrs (cr h b) cells).map C.noR:=rfl
end
section
variable {cx:Cx} {Q:Ex→St→Prop} {e:List (Nat×C)} {h:Hp} {c:Code}
theorem nN (hcx:CxOK cx)(b:Nat)(cells:List C){e':List (Nat×C)}{h':Hp}(H:Tr cx 0 c ⟨A e',h'⟩ Q)
 (hb:h.at b=some cells:=by simp only[go_sem])
 (E:∀K:List (Nat×C)→Hp→Prop,K e' h'→K (gz (bg (cr h b) b (fzY h b cells)) e) (iz (cr h b) b (fzY h b cells) h):=by
   intro KZ hZ
   simp -implicitDefEqProofs only[go_sem,B9,B2,vF,jo,ip,nE,nF,nG,nH,qb,qc,qd,ql,qm,qn,qo,qe,lE,jH,kK,vw,vx,vy,vz,vA,vB,rz,vC,rA,rB,vE,oN,mr,nM,qk,mn,Option.isSome_some,Option.isSome_none,Nat.reduceBNe,Bool.true_and,Bool.and_true,Bool.false_and,Bool.true_or,Bool.false_or,↓reduceIte,Nat.reduceEqDiff,reduceCtorEq,Nat.zero_ne_one,Nat.one_ne_zero]
   with_reducible exact hZ):Tr cx 0 c ⟨A e,h⟩ Q:=
 B0 hcx b cells hb (Nat.zero_le _) (fun j hj=>absurd hj (Nat.not_lt_zero j)) (E (fun x y=>Tr cx 0 c ⟨A x,y⟩ Q) H)
theorem zb (hcx:CxOK cx)(b m f:Nat)(pre:List C){e':List (Nat×C)}{h':Hp}(H:Tr cx 0 c ⟨A e',h'⟩ Q)
 (hb:h.at b=some [.fn f (pre++[.bp b 0])]:=by simp only[go_sem])
 (h1:scrs (cr h b) pre=pre:=by simp -implicitDefEqProofs only[go_sem,vw,vx,vy,vz,vA,vB,rz,vC,rA,rB,vE,oN,mr,nM,mn,Option.isSome_some,Nat.reduceBNe,Bool.true_and,Bool.true_or,↓reduceIte,Nat.reduceEqDiff,reduceCtorEq])
 (h2:∀ys,fzCs (cr h b) b ys pre=pre:=by intro ys;simp -implicitDefEqProofs only[go_sem,nE,nF,nG,nH,qb,qc,qd,ql,qm,qn,qo,qe,lE,jH,kK,mn,Option.isSome_some,Nat.reduceBNe,Bool.true_and,Bool.true_or,↓reduceIte,Nat.reduceEqDiff,reduceCtorEq])
 (E:∀K:List (Nat×C)→Hp→Prop,K e' h'→K (gz (bg (cr h b) b [.fn f (pre++[b8 f pre m])]) e) (iz (cr h b) b [.fn f (pre++[b8 f pre m])] h):=by
   intro KZ hZ
   simp -implicitDefEqProofs only[go_sem,vF,jo,ip,nE,nF,nG,nH,qb,qc,qd,ql,qm,qn,qo,qe,lE,jH,kK,qk,mn,Option.isSome_some,Option.isSome_none,Nat.reduceBNe,Bool.true_and,Bool.and_true,Bool.false_and,Bool.true_or,Bool.false_or,↓reduceIte,Nat.reduceEqDiff,reduceCtorEq,Nat.zero_ne_one,Nat.one_ne_zero]
   with_reducible exact hZ):Tr cx 0 c ⟨A e,h⟩ Q:=
 JQ hcx b m _ hb (Nat.zero_le _) (fun j hj=>absurd hj (Nat.not_lt_zero j)) (by rw[sz h b f pre h1 h2 m];exact E (fun x y=>Tr cx 0 c ⟨A x,y⟩ Q) H)
end
theorem SL {P:Program}{t e:TypeId}{s y:Nat}{z:List Value}(op:BinOp)(a:Option Addr)(n c:Nat)(h:td P t=some ⟨.slice e,s,y,z⟩)(hg:P.eqGuardType P.depth t=false):aq P op t (.val (.slice a n c)) (.val (.slice none 0 0)) =lN op a.isNone:=by
 have he:gb P 9 t (.val (.slice a n c)) (.val (.slice none 0 0)) =some a.isNone:=by
  unfold gb;rw[h]
  show uO (some a.isNone) (some true) =_
  cases a<;>rfl
 show eT P op t _ _=_
 unfold eT
 rw[if_pos ⟨.inr (.inl ⟨rfl,rfl⟩),hg⟩]
 unfold lN
 cases op<;>simp[he,vp,Plan.pure]
theorem RepL.pick {G:Gh}{x:C}:∀ {pre post:List C}{vs:List Value},RepL G (pre++x::post) vs→∃v,Rep G x v∧RepL G (pre++ .val v::post) vs
 | [],post,vs,h=>by
   simp only[List.nil_append,RepL] at h ⊢
   obtain ⟨v,vs',rfl,h1,h2⟩:=h
   exact ⟨v,h1,v,vs',rfl,aj.2 rfl,h2⟩
 |p::pre,post,vs,h=>by
  simp only[List.cons_append,RepL] at h ⊢
  obtain ⟨v,vs',rfl,h1,h2⟩:=h
  obtain ⟨u,g1,g2⟩:=RepL.pick h2
  exact ⟨u,g1,v,vs',rfl,h1,g2⟩
theorem ER {P:Program}{gl:Nat→C}{f:Nat}{pre post:List C}{h h':Hp}{c:C}{r:Rt}(he:iN P f)(H:∀ (a:Option Addr) (cap:Nat),cap≤maxLen→FC P gl f (pre++ .val (.slice a 0 cap)::post) h c h'):FC P gl f (pre++ .sl r 0 []::post) h c h':=by
 refine ⟨he,fun G w vs W hT hg hr=>?_⟩
 obtain ⟨v,h1⟩:∃v,Rep G (.sl r 0 []) v∧RepL G (pre++ .val v::post) vs.toList:=RepL.pick hr
 obtain ⟨q,hl⟩:=h1
 simp only[Rep] at q
 obtain ⟨a,cap,rfl,_,h3,_,_⟩:=q
 exact (H a cap h3).2 G w vs W hT hg hl
theorem Ca (a:Option Addr)(cap:Nat)(h:cap≤maxLen):CLe (.val (.slice a 0 cap)) (.sl .no 0 []):=
 ⟨fun G v q=>by rw[aj] at q;simp only[Rep];exact ⟨a,cap,q,Nat.zero_le _,h,fun e=>(by cases e),by simp⟩,fun s n xs e=>by cases e⟩
theorem ES (b f:Nat)(pre:List C)(d:Nat)(l:List C):d8 b (b8 f pre d::l) =d8 b l:=by cases d<;>rfl
attribute [go_sem] JR ES
end Go.Sx
namespace Go.Sx
open Go.RowKit Go.Proofs
set_option maxRecDepth 100000
set_option maxHeartbeats 8000000
theorem Rv (l:List ab)(d:Nat):b8 79 [.kp [sl eC .no l]] (d+1) = .kp [.fn 79 [.kp [sl eC .no l],b8 79 [.kp [sl eC .no l]] d]]:=rfl
def OkL (l:List ab):Prop:=l.length≤4096∧∀i,i< l.length→(gt l i).1.length≤65536∧(gt l i).2.length≤65536
theorem iL {l:List ab}(h:¬bR l=4):OkL l:=by
 unfold bR at h
 split at h
 . exact absurd rfl h
 . rename_i hn
   refine ⟨by omega,fun i hi=>?_⟩
   have:cg (gt l i) =false:=Bool.eq_false_iff.2 fun e=>hn (Or.inr (ub hi e))
   simp[cg] at this;omega
theorem ph {l:List ab}{d a b:Nat}(h:b - a≤1):cK l d a b=d5 (gt l a):=by
 cases d with
 |zero=>rfl
 |succ d=>unfold cK;rw[if_pos h]
theorem ul {l:List ab}{d a b:Nat}(h:¬b - a≤1):cK l (d+1) a b=fJ (cK l d a (a+aD (b - a))) (cK l d (a+aD (b - a)) b):=by
 rw[cK,if_neg h]
def cZ (l:List ab):List UInt8:=d6 l.length (iu l)
theorem fh (l:List ab): (cZ l).length=16:=eE _ _
def dO (l:List ab):List UInt8×Nat:=if bR l=0 then (cZ l,0) else (List.replicate 16 0,bR l)
theorem wa {l:List ab}(h:¬bR l=0):dO l= (List.replicate 16 0,bR l):=if_neg h
theorem nh {l:List ab}(h:bR l=0):dO l= (cZ l,0):=if_pos h
theorem z4 {l:List ab}(h:l.length=0)(d:List UInt8):d6 0 d=cZ l:=by unfold cZ;rw[h];rfl
theorem qP {p:Prop}(e:p:=by intro KZ hZ;simp -implicitDefEqProofs (disch:=first|omega| (simp only[go_sem,lA,lD,lT,cf] <;>omega) |decide) only[go_sem,↓reduceIte,Nat.reduceEqDiff,reduceCtorEq,Nat.reduceLT,Nat.reduceBEq,Nat.reduceAdd,hy];with_reducible exact hZ):p:=e
theorem Hk {p:Prop}(e:p:=by simp -implicitDefEqProofs (disch:=first|omega| (simp only[go_sem,lA,lD,lT,cf] <;>omega) |decide) only[go_sem,↓reduceIte,Nat.reduceEqDiff,reduceCtorEq];all_goals (rw[ph hab.2.2])):p:=e
theorem Gj {gl:Nat→C}{M:Nat}{pu:Nat→List C→Option C}(hcx:CxOK (ao gl M pu))(h80:∀x:ab,x.1.length≤65536∧x.2.length≤65536→pu 80 [.agg (eC x)] =some (.agg (cl bC (d5 x))))(l:List ab)(d a b:Nat)(hl:OkL l)(hab:a< b∧b≤l.length∧b - a≤1):FC Tryd.prog gl 79 [.val (nI a),.val (nI b),.kp [sl eC .no l],b8 79 [.kp [sl eC .no l]] d] [] (.agg (cl bC (cK l d a b))) []:=by
 replace hcx:=hcx.reN (M:=29)
 refine aP (cx:=ao gl 29 pu) (rs:=[.cell 6 29]) rfl Tryd.func79 rfl rfl rfl (by simp only[List.length_cons,List.length_nil];decide) (by simp only[go_sem]) ?_
 simp only[bQ,go_sem]
 have hy:=True.intro
 have h11:b - a=1:=by omega
 have hll:=hl.1
 have e80:=h80 (gt l a) (hl.2 a (by omega))
 refine aa hcx [] _ [none] rfl rfl rfl ?_ qP
 refine ae fun K1 hK1=>?_
 have hy:= @h11
 refine aa hcx [] _ [] rfl rfl rfl ?_ qP
 refine bM rfl ?_
 have hy:= @e80
 refine aa hcx [] _ [] rfl rfl rfl ?_ qP
 exact Tr.ret Hk
theorem qQ {p:Prop}(e:p:=by intro KZ hZ;simp -implicitDefEqProofs (disch:=first|omega| (simp only[go_sem,lA,lD,lT,eF,cp] <;>omega) |decide) only[go_sem,↓reduceIte,Nat.reduceEqDiff,reduceCtorEq,Nat.reduceLT,Nat.reduceBEq,Nat.reduceAdd,hy];with_reducible exact hZ):p:=e
theorem Hl {p:Prop}(e:p:=by intro KZ hZ;simp -implicitDefEqProofs (disch:=first|omega| (simp only[go_sem,lA,lD,lT,eF,cp] <;>omega) |decide) only[go_sem,↓reduceIte,Nat.reduceEqDiff,reduceCtorEq,Nat.reduceLT,Nat.reduceBEq,Nat.reduceAdd,hy];refine And.intro ?_ hZ;exact rfl):p:=e
theorem Hm {p:Prop}(e:p:=by simp -implicitDefEqProofs (disch:=first|omega| (simp only[go_sem,lA,lD,lT,eF,cp] <;>omega) |decide) only[go_sem,↓reduceIte,Nat.reduceEqDiff,reduceCtorEq];all_goals (rw[ul (by omega)])):p:=e
theorem Rw {gl:Nat→C}{M:Nat}{pu:Nat→List C→Option C}(hcx:CxOK (ao gl M pu))(h81:∀x y:Nat,x≤y∧y≤4611686018427387000→pu 81 [.val (nI x),.val (nI y)] =some (.val (nI (x+aD (y - x)))))(h82:∀a b:List UInt8,a.length=16→b.length=16→pu 82 [.agg (cl bC a),.agg (cl bC b)] =some (.agg (cl bC (fJ a b))))(l:List ab)(d a b:Nat)(hl:OkL l)(hab:a< b∧b≤l.length∧b - a≤2 ^ (d+1)∧1< b - a)(h79:∀ (a b:Nat),a< b∧b≤l.length∧b - a≤2 ^ d→pu 79 [.val (nI a),.val (nI b),.kp [sl eC .no l],b8 79 [.kp [sl eC .no l]] d] =some (.agg (cl bC (cK l d a b)))):FC Tryd.prog gl 79 [.val (nI a),.val (nI b),.kp [sl eC .no l],b8 79 [.kp [sl eC .no l]] (d+1)] [] (.agg (cl bC (cK l (d+1) a b))) []:=by
 replace hcx:=hcx.reN (M:=29)
 refine aP (cx:=ao gl 29 pu) (rs:=[.cell 6 29]) rfl Tryd.func79 rfl rfl rfl (by simp only[List.length_cons,List.length_nil];decide) (by simp only[go_sem]) ?_
 simp only[bQ,go_sem]
 have hy:=True.intro
 have h11: (b - a=1) =False:=eq_false (by omega)
 have hll:=hl.1
 have e81:=h81 a b (by omega)
 have hh:=fw (n:=b - a) (by omega)
 have hh2:=eW (by omega) hab.2.2.1
 have e1:=h79 a (a+aD (b - a)) (by omega)
 have e2:=h79 (a+aD (b - a)) b (by omega)
 have e82:=h82 _ _ (eF l d a (a+aD (b - a))) (eF l d (a+aD (b - a)) b)
 refine aa hcx [] _ [none] rfl rfl rfl ?_ qQ
 refine ae fun K1 hK1=>?_
 have hy:= @h11
 refine aa hcx [] _ [] rfl rfl rfl ?_ qQ
 refine bF rfl ?_
 refine Tr.skip ?_
 refine hK1 _ ?_
 have hy:= @e81
 refine aa hcx [1000019] _ [] rfl rfl rfl ?_ qQ
 have hy:=And.intro @Rv (And.intro @e1 (And.intro @e2 @e82))
 refine ce hcx dR [] _ [] rfl rfl rfl rfl ?_ Hl
 exact Tr.ret Hm
theorem pj {p:Prop}(e:p:=by intro KZ hZ;simp -implicitDefEqProofs (disch:=first|omega| (simp only[go_sem,lA,lD,lT,eF] <;>omega) |decide) only[go_sem,↓reduceIte,Nat.reduceEqDiff,reduceCtorEq,Nat.reduceLT,Nat.reduceBEq,Nat.reduceAdd,hy];with_reducible exact hZ):p:=e
theorem MZ {p:Prop}(e:p:=by simp -implicitDefEqProofs (disch:=first|omega| (simp only[go_sem,lA,lD,lT,eF] <;>omega) |decide) only[go_sem,↓reduceIte,Nat.reduceEqDiff,reduceCtorEq];all_goals (rfl)):p:=e
theorem Vj {gl:Nat→C}{M:Nat}{pu:Nat→List C→Option C}(hcx:CxOK (ao gl M pu))(h79:∀ (l:List ab) (d a b:Nat),OkL l→a< b∧b≤l.length∧b - a≤2 ^ d→pu 79 [.val (nI a),.val (nI b),.kp [sl eC .no l],b8 79 [.kp [sl eC .no l]] d] =some (.agg (cl bC (cK l d a b))))(l:List ab)(hl:OkL l)(h0:0< l.length):FC Tryd.prog gl 51 [sl eC .no l] [] (.agg (cl bC (iu l))) []:=by
 replace hcx:=hcx.reN (M:=9)
 refine aP (cx:=ao gl 9 pu) (rs:=[.cell 2 29]) rfl Tryd.func51 rfl rfl rfl (by simp only[List.length_cons,List.length_nil];decide) (by simp only[go_sem]) ?_
 simp only[bQ,go_sem]
 have hy:=True.intro
 have hll:=hl.1
 have e79:=h79 l 12 0 l.length hl (by omega)
 refine aa hcx [] _ [none,none] rfl rfl rfl ?_ pj
 refine aa hcx [] _ [none] rfl rfl rfl ?_ pj
 refine aa hcx [] _ [] rfl rfl rfl ?_ pj
 refine Tr.k [1,2,3] ?_
 refine nN hcx 0 [sl eC .no l] ?_
 refine zb hcx 2 12 79 [.kp [sl eC .no l]] ?_
 have hy:= @e79
 refine aa hcx [] _ [] rfl rfl rfl ?_ pj
 exact Tr.ret MZ
theorem g8 {p:Prop}(e:p:=by intro KZ hZ;simp -implicitDefEqProofs (disch:=first|omega| (simp only[go_sem,lA,lD,lT,eE,og] <;>omega) |decide) only[go_sem,↓reduceIte,Nat.reduceEqDiff,reduceCtorEq,Nat.reduceLT,Nat.reduceBEq,Nat.reduceAdd,b1,hy];with_reducible exact hZ):p:=e
theorem um {p:Prop}(e:p:=by simp -implicitDefEqProofs (disch:=first|omega| (simp only[go_sem,lA,lD,lT,eE,og] <;>omega) |decide) only[go_sem,↓reduceIte,Nat.reduceEqDiff,reduceCtorEq];all_goals (first| (rw[wa b1];done) | (rw[nh b1,z4 hc13];done) | (rw[nh b1];rfl))):p:=e
theorem Vk {gl:Nat→C}{M:Nat}{pu:Nat→List C→Option C}(hcx:CxOK (ao gl M pu))(h15:∀l:List ab,LB l→pu 15 [sl eC .no l] =some (.val (nI (bR l))))(h50:∀ (n:Nat) (d:List UInt8),n≤4096→d.length=16→pu 50 [.val (nI n),.agg (cl bC d)] =some (.agg (cl bC (d6 n d))))(h51:∀l:List ab,OkL l→0< l.length→pu 51 [sl eC .no l] =some (.agg (cl bC (iu l))))(l:List ab)(hl:LB l):FC Tryd.prog gl 12 [sl eC .no l] [] (.tup [.agg (cl bC (dO l).1),.val (nI (dO l).2)]) []:=by
 replace hcx:=hcx.reN (M:=21)
 refine aP (cx:=ao gl 21 pu) (rs:=[.cell 2 29,.tmp 3]) rfl Tryd.func12 rfl rfl rfl (by simp only[List.length_cons,List.length_nil];decide) (by simp only[go_sem]) ?_
 simp only[bQ,go_sem]
 have b1:=True.intro
 have hy:=True.intro
 have e15:=h15 l hl
 refine aa hcx [] _ [none] rfl rfl rfl ?_ g8
 refine ae fun K1 hK1=>?_
 have hy:= @e15
 refine aa hcx [1000006] _ [] rfl rfl rfl ?_ g8
 by_cases b1:bR l=0
 ·
  have hok:=iL (l:=l) (by omega)
  have hll:=hok.1
  have e0:=h50 0 (List.replicate 16 0) (by omega) rfl
  have e1:=h50 l.length (iu l) hll (og l)
  have hy:=True.intro
  refine aa hcx [] _ [] rfl rfl rfl ?_ g8
  refine bF rfl ?_
  refine Tr.skip ?_
  refine hK1 _ ?_
  refine ae fun K2 hK2=>?_
  refine aa hcx [] _ [] rfl rfl rfl ?_ g8
  refine bq rfl (fun hc13=>?_) (fun hc13=>?_)
  ·
   have hl0:=hc13
   have hy:= @e0
   refine aa hcx [] _ [] rfl rfl rfl ?_ g8
   exact Tr.ret um
  have e51:=h51 l hok (by omega)
  refine Tr.skip ?_
  refine hK2 _ ?_
  have hy:=And.intro @e51 @e1
  refine aa hcx [] _ [] rfl rfl rfl ?_ g8
  exact Tr.ret um
 skip
 have hy:=True.intro
 refine aa hcx [] _ [] rfl rfl rfl ?_ g8
 refine bM rfl ?_
 refine aa hcx [1000010] _ [] rfl rfl rfl ?_ g8
 exact Tr.ret um
end Go.Sx
