/-
   And what follows.
-/
import Derived.Test.YtmoaeemdlompaaaDoorPap
set_option linter.unusedSimpArgs false
set_option linter.unusedVariables false
namespace Go.Sx
open Go.RowKit Go.Proofs
set_option maxRecDepth 100000
set_option maxHeartbeats 8000000
theorem Qw {l:List ab}(h:l≠[]): (sl eC .no l).nilS?=some false:=by
 cases l with
 |nil=>exact absurd rfl h
 |cons x l=>rfl
theorem Ga (u:TypeDesc)(y:Nat)(z:List Value)(hz:z.length=2)(h1:z.all (·.oneCell') =true):j6 (some ⟨u,2,y,z⟩) 0 [] =some (vp (sl eC .full [])):=by
 unfold j6
 simp only[hz,h1]
 rw[if_pos ⟨by decide,by decide,trivial,trivial⟩]
 rfl
theorem JX (u:TypeDesc)(y:Nat)(z:List Value)(hz:z.length=16)(h1:z.all (·.oneCell') =true):j6 (some ⟨u,16,y,z⟩) 0 [] =some (vp (sl dC .full [])):=by
 unfold j6
 simp only[hz,h1]
 rw[if_pos ⟨by decide,by decide,trivial,trivial⟩]
 rfl
attribute [go_sem] Ga JX
theorem g33:Tryd.prog.eqGuardType Tryd.prog.depth 33=false:=by kernel_rfl
theorem abg {l:List ab}(h:l≠[])(op:BinOp):aw Tryd.prog op 33 (sl eC .no l) (.val (.slice none 0 0)) =pm op false:=afg op (Qw h) (fun v e=>by cases e) Bf g33
theorem NF (a:Option Addr)(n c:Nat)(op:BinOp):aw Tryd.prog op 33 (.val (.slice a n c)) (.val (.slice none 0 0)) =pm op a.isNone:=afl op a n c Bf g33
def iR (l:List ab)(a b:Nat):ba:=⟨du l 12 a b,gA _ _ _ _⟩
theorem lW (l:List ab)(a n x:Nat)(h:a+x< l.length)(hx:x< n):gt ((l.drop a).take n) x=gt l (a+x):=by
 simp only[gt,List.getD,List.getElem?_take,List.getElem?_drop,if_pos hx]
theorem sU (l:List ab)(a n:Nat):∀d x y,a+y≤l.length→x< y→y≤n→du ((l.drop a).take n) d x y=du l d (a+x) (a+y)
 |0,x,y,h1,h2,h3=>by
  show fK _=fK _
  rw[lW l a n x (by omega) (by omega)]
 |d+1,x,y,h1,h2,h3=>by
  have e:a+y - (a+x) =y - x:=by omega
  unfold du
  rw[e]
  by_cases h:y - x≤1
  . rw[if_pos h,if_pos h,lW l a n x (by omega) (by omega)]
  . have hh:=gT (n:=y - x) (by omega)
    rw[if_neg h,if_neg h,sU l a n d x _ (by omega) (by omega) (by omega),sU l a n d _ y (by omega) (by omega) (by omega),Nat.add_assoc]
theorem zr {l:List ab}{a b:Nat}(h1:a< b)(h2:b≤l.length):lm ((l.drop a).take (b - a)) =du l 12 a b:=by
 have hl: ((l.drop a).take (b - a)).length=b - a:=by rw[List.length_take,List.length_drop];omega
 unfold lm
 rw[hl,sU l a (b - a) 12 0 (b - a) (by omega) (by omega) (Nat.le_refl _)]
 congr 1
 omega
def cr (l:List ab)(f e:Nat):Nat→Nat→Nat→List ba
 |0,a,b=>if b≤f∨e≤a then [iR l a b] else []
 |d+1,a,b=>if b≤f∨e≤a then [iR l a b] else if b - a≤1 then [] else cr l f e d a (a+aR (b - a))++cr l f e d (a+aR (b - a)) b
section
variable {l:List ab} {f e d a b:Nat}
theorem qh (h:b≤f∨e≤a):cr l f e d a b= [iR l a b]:=by cases d<;>simp only[cr,if_pos h]
theorem xz (h:¬ (b≤f∨e≤a))(h2:b - a≤1):cr l f e d a b= []:=by cases d<;>simp only[cr,if_neg h,if_pos h2]
theorem tC (h:¬ (b≤f∨e≤a))(h2:¬b - a≤1):cr l f e (d+1) a b=cr l f e d a (a+aR (b - a))++cr l f e d (a+aR (b - a)) b:=by simp only[cr,if_neg h,if_neg h2]
end
theorem zt (l:List ab)(f e:Nat):∀ (d d' a b:Nat),b - a≤2 ^ d→b - a≤2 ^ d'→cr l f e d a b=cr l f e d' a b
 |0,0,a,b,_,_=>rfl
 |0,d'+1,a,b,h1,h2=>by
  have:b - a≤1:=h1
  simp only[cr,if_pos this]
 |d+1,0,a,b,h1,h2=>by
  have:b - a≤1:=h2
  simp only[cr,if_pos this]
 |d+1,d'+1,a,b,h1,h2=>by
  simp only[cr]
  by_cases h:b - a≤1
  . rw[if_pos h,if_pos h]
  . have g1:=fg (by omega) h1
    have g2:=fg (by omega) h2
    rw[zt l f e d d' a _ (by omega) (by omega),zt l f e d d' _ b (by omega) (by omega)]
theorem j9 (l:List ab)(f e:Nat):∀d a b,(cr l f e d a b).length≤2 ^ d
 |0,a,b=>by unfold cr;split<;>simp
 |d+1,a,b=>by
  have h1:=j9 l f e d a (a+aR (b - a))
  have h2:=j9 l f e d (a+aR (b - a)) b
  have e2:2 ^ (d+1) =2*2 ^ d:=by rw[Nat.pow_succ];omega
  have hp:=Nat.two_pow_pos d
  unfold cr;split
  . simp;omega
  . split
    . simp
    . rw[List.length_append];omega
theorem Gb (l:List ab)(f e q d:Nat):cy 91 [.kp [.val (nI f)],.kp [.val (nI e)],.bp q 0,.kp [sl eC .no l]] (d+1) = .kp [.fn 91 [.kp [.val (nI f)],.kp [.val (nI e)],.bp q 0,.kp [sl eC .no l],cy 91 [.kp [.val (nI f)],.kp [.val (nI e)],.bp q 0,.kp [sl eC .no l]] d]]:=rfl
theorem OkL.sub {l:List ab}(h:OkL l){a b:Nat}(hb:b≤l.length):OkL ((l.drop a).take (b - a)):=by
 have hl:=h.1
 refine ⟨by rw[List.length_take,List.length_drop];omega,fun i hi=>?_⟩
 rw[List.length_take,List.length_drop] at hi
 rw[lW l a (b - a) i (by omega) (by omega)];exact h.2 _ (by omega)
theorem UM (cx:Cx)(st:St):i2 cx st [] =some (.tup []):=rfl
attribute [go_sem] UM
theorem zu (x y:Value)(lv:List ab)(S:List ba):m6 1 [some [.val x,.val y,sl eC .no lv,sl dC (.own 16) S]] =true:=by simp only[oX,sn,go_sem,Bool.and_self]
theorem og (l:List ab)(a b:Nat): (iR l a b).1.length=16:=(iR l a b).2
def cd (l:List ab)(f e:Nat):List ba:=if l.length=0 then [] else cr l f e 12 0 l.length
theorem Em {l:List ab}{f e:Nat}(h:l.length=0):cd l f e= []:=if_pos h
theorem En {l:List ab}{f e:Nat}(h:¬l.length=0):cd l f e=cr l f e 12 0 l.length:=if_neg h
theorem u6 {p:Prop}(e:p:=by intro KZ hZ;simp -implicitDefEqProofs (disch:=first|omega| (simp only[go_sem,lA,lD,lT] <;>omega) |decide) only[go_sem,↓reduceIte,Nat.reduceEqDiff,reduceCtorEq,Nat.reduceLT,Nat.reduceBEq,Nat.reduceAdd,e33,hy];with_reducible exact hZ):p:=e
theorem Qx {p:Prop}(e:p:=by simp -implicitDefEqProofs (disch:=first|omega| (simp only[go_sem,lA,lD,lT] <;>omega) |decide) only[go_sem,↓reduceIte,Nat.reduceEqDiff,reduceCtorEq];all_goals (rfl)):p:=e
theorem abh {gl:Nat→C}{M:Nat}{pu:Nat→List C→Option C}(hcx:CxOK (af gl M pu))(l:List ab)(hl:l.length≤1000000)(h0:l≠[]):FC Tryd.prog gl 63 [sl eC .no l] [] (sl eC (.own 2) l) []:=by
 replace hcx:=hcx.reN (M:=8)
 refine aB (cx:=af gl 8 pu) (rs:=[.tmp 2]) rfl Tryd.func63 rfl rfl rfl (by simp only[List.length_cons,List.length_nil];decide) (by simp only[go_sem]) ?_
 simp only[bq,go_sem]
 have hy:=True.intro
 have e33:= @abg l h0
 refine Tr.w hcx [] _ [] rfl rfl rfl ?_ u6
 refine aa fun K1 hK1=>?_
 refine Tr.w hcx [] _ [] rfl rfl rfl ?_ u6
 refine bc rfl ?_
 refine Tr.skip ?_
 refine hK1 _ ?_
 refine Tr.w hcx [5,1000007] _ [] rfl rfl rfl ?_ u6
 exact Tr.ret Qx
theorem u7 {p:Prop}(e:p:=by intro KZ hZ;simp -implicitDefEqProofs (disch:=first|omega| (simp only[go_sem,lA,lD,lT] <;>omega) |decide) only[go_sem,↓reduceIte,Nat.reduceEqDiff,reduceCtorEq,Nat.reduceLT,Nat.reduceBEq,Nat.reduceAdd,NF,Option.isNone_none,hy];with_reducible exact hZ):p:=e
theorem Qy {p:Prop}(e:p:=by simp -implicitDefEqProofs (disch:=first|omega| (simp only[go_sem,lA,lD,lT] <;>omega) |decide) only[go_sem,↓reduceIte,Nat.reduceEqDiff,reduceCtorEq];all_goals (rfl)):p:=e
theorem abi {gl:Nat→C}{M:Nat}{pu:Nat→List C→Option C}(hcx:CxOK (af gl M pu))(cap:Nat)(hc:cap≤maxLen):FC Tryd.prog gl 63 [.val (.slice none 0 cap)] [] (sl eC (.own 2) []) []:=by
 replace hcx:=hcx.reN (M:=8)
 refine aB (cx:=af gl 8 pu) (rs:=[.tmp 2]) rfl Tryd.func63 rfl rfl rfl (by simp only[List.length_cons,List.length_nil];decide) (by simp only[go_sem]) ?_
 simp only[bq,go_sem]
 have hy:=True.intro
 refine Tr.w hcx [] _ [] rfl rfl rfl ?_ u7
 refine aa fun K1 hK1=>?_
 refine Tr.w hcx [] _ [] rfl rfl rfl ?_ u7
 refine bf rfl ?_
 refine Tr.w hcx [] _ [] rfl rfl rfl ?_ u7
 refine Tr.live [(2,sl eC (.own 2) [])] LT ?_
 exact Tr.ret Qy
theorem u9 {p:Prop}(e:p:=by intro KZ hZ;simp -implicitDefEqProofs (disch:=first|omega| (simp only[go_sem,lA,lD,lT] <;>omega) |decide) only[go_sem,↓reduceIte,Nat.reduceEqDiff,reduceCtorEq,Nat.reduceLT,Nat.reduceBEq,Nat.reduceAdd,NF,Option.isNone_some,hy];with_reducible exact hZ):p:=e
theorem Qz {p:Prop}(e:p:=by simp -implicitDefEqProofs (disch:=first|omega| (simp only[go_sem,lA,lD,lT] <;>omega) |decide) only[go_sem,↓reduceIte,Nat.reduceEqDiff,reduceCtorEq];all_goals (rfl)):p:=e
theorem abj {gl:Nat→C}{M:Nat}{pu:Nat→List C→Option C}(hcx:CxOK (af gl M pu))(x:Addr)(cap:Nat)(hc:cap≤maxLen):FC Tryd.prog gl 63 [.val (.slice (some x) 0 cap)] [] (sl eC (.own 2) []) []:=by
 replace hcx:=hcx.reN (M:=8)
 refine aB (cx:=af gl 8 pu) (rs:=[.tmp 2]) rfl Tryd.func63 rfl rfl rfl (by simp only[List.length_cons,List.length_nil];decide) (by simp only[go_sem]) ?_
 simp only[bq,go_sem]
 have hy:=True.intro
 refine Tr.w hcx [] _ [] rfl rfl rfl ?_ u9
 refine aa fun K1 hK1=>?_
 refine Tr.w hcx [] _ [] rfl rfl rfl ?_ u9
 refine bc rfl ?_
 refine Tr.skip ?_
 refine hK1 _ ?_
 refine Tr.live [(0,sl eC .no [])] (by simp only[aK,aZ,↓aY,↓reduceIte,Nat.reduceEqDiff,and_true];exact Jw _ _ hc) ?_
 refine Tr.w hcx [5,1000007] _ [] rfl rfl rfl ?_ u9
 exact Tr.ret Qz
theorem qi {p:Prop}(e:p:=by intro KZ hZ;simp -implicitDefEqProofs (disch:=first|omega| (simp only[go_sem,lA,lD,lT,hgl] <;>omega) |decide) only[go_sem,↓reduceIte,Nat.reduceEqDiff,reduceCtorEq,Nat.reduceLT,Nat.reduceBEq,Nat.reduceAdd,b1,b2,hy];with_reducible exact hZ):p:=e
theorem CR {p:Prop}(e:p:=by intro KZ hZ;simp -implicitDefEqProofs (disch:=first|omega| (simp only[go_sem,lA,lD,lT,hgl] <;>omega) |decide) only[go_sem,↓reduceIte,Nat.reduceEqDiff,reduceCtorEq,Nat.reduceLT,Nat.reduceBEq,Nat.reduceAdd,b1,b2,hy];with_reducible refine And.intro ?_ hZ;first|exact rfl|decide):p:=e
theorem vc {p:Prop}(e:p:=by simp -implicitDefEqProofs (disch:=first|omega| (simp only[go_sem,lA,lD,lT,hgl] <;>omega) |decide) only[go_sem,↓reduceIte,Nat.reduceEqDiff,reduceCtorEq];all_goals (first| (rw[hR];done) | (rw[hR,List.append_nil];done) | (rw[hR,List.append_assoc];done) | (rw[hR];rfl))):p:=e
theorem NG {gl:Nat→C}{M0:Nat}{pu:Nat→List C→Option C}{hp:Nat→List C→Hp→Option (C×Hp)}(hcx:CxOK (eR gl M0 pu hp))(l:List ab)(f e z:Nat)(lv:List ab)(S:List ba)(d a b:Nat)(hl:OkL l)(hf:f≤5000∧e≤5000)(hab:a< b∧b≤l.length∧b - a≤2 ^ d)(hS:S.length≤100000 - 2 ^ d)(hd:d≤12)(hz:b≤f∨e≤a∨b - a≤1)(hnr:∀ (g:Nat) (xs:List C),noRefs 0 xs=false→pu g xs=none)(h51:∀l:List ab,OkL l→0< l.length→pu 51 [sl eC .no l] =some (.agg (cl bC (lm l)))):FC Tryd.prog gl 91 [.val (nI a),.val (nI b),.kp [.val (nI f)],.kp [.val (nI e)],.bp 0 0,.kp [sl eC .no l],cy 91 [.kp [.val (nI f)],.kp [.val (nI e)],.bp 0 0,.kp [sl eC .no l]] d] [some [.val (nI f),.val (nI z),sl eC .no lv,sl dC (.own 16) (S)]] (.tup []) [some [.val (nI f),.val (nI z),sl eC .no lv,sl dC (.own 16) (S++cr l f e d a b)]]:=by
 replace hcx:=hcx.reN (M:=45)
 refine mI (cx:=eR gl 45 pu hp) (rs:=[]) rfl Tryd.func91 rfl rfl rfl (by simp only[List.length_cons,List.length_nil];decide) (by simp only[go_sem]) (zu _ _ _ _) ?_
 simp only[bq,go_sem]
 have b1:=True.intro
 have b2:=True.intro
 have hy:=True.intro
 have hll:=hl.1
 have hgl:=og l
 refine Tr.blk ?_
 by_cases b1:b≤f
 ·
  refine Tr.w hcx [1000018] [some 11,some 12,some 13,some 14,some 15,some 16,some 17,some 18,some 10] [] rfl rfl rfl ?_ qi
  refine bf rfl ?_
  have hR:=qh (l:=l) (d:=d) (f:=f) (e:=e) (a:=a) (b:=b) (Or.inl b1)
  have e51:pu 51 [sl eC .no ((l.drop a).take (b - a))] =some (.agg (cl bC (iR l a b).1)):=(h51 _ (hl.sub hab.2.1) (by rw[List.length_take,List.length_drop];omega)).trans (by rw[zr hab.1 hab.2.1];rfl)
  have hy:= @e51
  refine fA hcx i1 [20] _ [] rfl rfl rfl rfl ?_ CR
  exact vc
 by_cases b2:e≤a
 ·
  refine Tr.w hcx [1000018] [some 11,some 12,some 13,some 14,some 15,some 16,some 17,some 18,some 10] [] rfl rfl rfl ?_ qi
  refine bf rfl ?_
  have hR:=qh (l:=l) (d:=d) (f:=f) (e:=e) (a:=a) (b:=b) (Or.inr b2)
  have e51:pu 51 [sl eC .no ((l.drop a).take (b - a))] =some (.agg (cl bC (iR l a b).1)):=(h51 _ (hl.sub hab.2.1) (by rw[List.length_take,List.length_drop];omega)).trans (by rw[zr hab.1 hab.2.1];rfl)
  have hy:= @e51
  refine fA hcx i1 [20] _ [] rfl rfl rfl rfl ?_ CR
  exact vc
 refine Tr.w hcx [1000018] [some 11,some 12,some 13,some 14,some 15,some 16,some 17,some 18,some 10] [] rfl rfl rfl ?_ qi
 refine bc rfl ?_
 have h29: (1< b - a) =False:=eq_false (by omega)
 have hR:=xz (l:=l) (d:=d) (f:=f) (e:=e) (a:=a) (b:=b) (fun h=>h.elim b1 b2) (by omega)
 have hy:= @h29
 refine Tr.w hcx [1000033] _ [] rfl rfl rfl ?_ qi
 refine bc rfl ?_
 refine Tr.skip ?_
 exact vc
theorem nu {p:Prop}(e:p:=by intro KZ hZ;simp -implicitDefEqProofs (disch:=first|omega| (simp only[go_sem,lA,lD,lT,hgl] <;>omega) |decide) only[go_sem,↓reduceIte,Nat.reduceEqDiff,reduceCtorEq,Nat.reduceLT,Nat.reduceBEq,Nat.reduceAdd,hy];with_reducible exact hZ):p:=e
theorem QA {p:Prop}(e:p:=by simp -implicitDefEqProofs (disch:=first|omega| (simp only[go_sem,lA,lD,lT,hgl] <;>omega) |decide) only[go_sem,↓reduceIte,Nat.reduceEqDiff,reduceCtorEq];all_goals (rfl)):p:=e
theorem abk {gl:Nat→C}{M0:Nat}{pu:Nat→List C→Option C}{hp:Nat→List C→Hp→Option (C×Hp)}(hcx:CxOK (eR gl M0 pu hp))(l:List ab)(f e z:Nat)(lv:List ab)(S:List ba)(d a b:Nat)(hl:OkL l)(hf:f≤5000∧e≤5000)(hab:a< b∧b≤l.length∧b - a≤2 ^ (d+1))(hS:S.length≤100000 - 2 ^ (d+1))(hd: (d+1)≤12)(hq91:∀ (S:List ba) (a b:Nat),S.length≤100000 - 2 ^ d→a< b∧b≤l.length∧b - a≤2 ^ d→hp 91 [.val (nI a),.val (nI b),.kp [.val (nI f)],.kp [.val (nI e)],.bp 0 0,.kp [sl eC .no l],cy 91 [.kp [.val (nI f)],.kp [.val (nI e)],.bp 0 0,.kp [sl eC .no l]] d] [some [.val (nI f),.val (nI z),sl eC .no lv,sl dC (.own 16) (S)]] =some (.tup [],[some [.val (nI f),.val (nI z),sl eC .no lv,sl dC (.own 16) (S++cr l f e d a b)]]))(hz1:¬b≤f)(hz2:¬e≤a)(hz3:¬b - a≤1)(hnr:∀ (g:Nat) (xs:List C),noRefs 0 xs=false→pu g xs=none)(hn91:∀xs:List C,(∃b o,C.bp b o∈xs)→hp 91 xs [] =some (.top,[]))(h81:∀x y:Nat,x≤y∧y≤4611686018427387000→pu 81 [.val (nI x),.val (nI y)] =some (.val (nI (x+aR (y - x))))):FC Tryd.prog gl 91 [.val (nI a),.val (nI b),.kp [.val (nI f)],.kp [.val (nI e)],.bp 0 0,.kp [sl eC .no l],cy 91 [.kp [.val (nI f)],.kp [.val (nI e)],.bp 0 0,.kp [sl eC .no l]] (d+1)] [some [.val (nI f),.val (nI z),sl eC .no lv,sl dC (.own 16) (S)]] (.tup []) [some [.val (nI f),.val (nI z),sl eC .no lv,sl dC (.own 16) (S++cr l f e (d+1) a b)]]:=by
 replace hcx:=hcx.reN (M:=45)
 refine mI (cx:=eR gl 45 pu hp) (rs:=[]) rfl Tryd.func91 rfl rfl rfl (by simp only[List.length_cons,List.length_nil];decide) (by simp only[go_sem]) (zu _ _ _ _) ?_
 simp only[bq,go_sem]
 have hy:=True.intro
 have hll:=hl.1
 have hgl:=og l
 have b1:=hz1
 have b2:=hz2
 have h29: (1< b - a) =True:=eq_true (by omega)
 refine Tr.blk ?_
 have hy:=And.intro @b1 @b2
 refine Tr.w hcx [1000018] [some 11,some 12,some 13,some 14,some 15,some 16,some 17,some 18,some 10] [] rfl rfl rfl ?_ nu
 refine bc rfl ?_
 have hy:= @h29
 refine Tr.w hcx [1000033] _ [] rfl rfl rfl ?_ nu
 refine bf rfl ?_
 have e81:=h81 a b (by omega)
 have hh:=gT (n:=b - a) (by omega)
 have hh2:=fg (by omega) hab.2.2
 have e2d:2 ^ (d+1) =2*2 ^ d:=by rw[Nat.pow_succ];omega
 have hp3:2 ^ (d+1)≤2 ^ 12:=Nat.pow_le_pow_right (by omega) hd
 have hs1:=j9 l f e d a (a+aR (b - a))
 have e1:=hq91 S a (a+aR (b - a)) (by omega) (by omega)
 have e2:=hq91 (S++cr l f e d a (a+aR (b - a))) (a+aR (b - a)) b (by rw[List.length_append];omega) (by omega)
 have hR:=tC (l:=l) (d:=d) (f:=f) (e:=e) (a:=a) (b:=b) (fun h=>h.elim b1 b2) hz3
 rw[List.append_assoc,←hR] at e2
 have en:∀x y:Nat,hp 91 [.val (nI x),.val (nI y),.kp [.val (nI f)],.kp [.val (nI e)],.bp 0 0,.kp [sl eC .no l],cy 91 [.kp [.val (nI f)],.kp [.val (nI e)],.bp 0 0,.kp [sl eC .no l]] d] [] =some (.top,[]):=fun x y=>hn91 _ ⟨0,0,by simp⟩
 have ep:∀x y:Nat,pu 91 [.val (nI x),.val (nI y),.kp [.val (nI f)],.kp [.val (nI e)],.bp 0 0,.kp [sl eC .no l],cy 91 [.kp [.val (nI f)],.kp [.val (nI e)],.bp 0 0,.kp [sl eC .no l]] d] =none:=fun x y=>hnr 91 _ rfl
 have hy:= @e81
 refine Tr.w hcx [1000036] _ [] rfl rfl rfl ?_ nu
 refine Tr.k [0,1,6,9] ?_
 have hy:=And.intro @Gb (And.intro @e1 (And.intro @en @ep))
 refine Tr.w hcx [] _ [] rfl rfl rfl ?_ nu
 have hy:=And.intro @Gb (And.intro @e2 (And.intro @en @ep))
 refine Tr.v hcx [] _ [] rfl rfl rfl ?_ nu
 exact QA
end Go.Sx
namespace Go.Sx
open Go.RowKit Go.Proofs
set_option maxRecDepth 100000
set_option maxHeartbeats 8000000
abbrev NH:=Nat×Nat×List ab×List ba
def jJ (l:List ab)(f e:Nat):NH:=(f,l.length,(l.drop f).take (e - f),cd l f e)
def bR (l:List ab)(k:List UInt8):NH×Nat:=
 if cb l=0 then ((if bg l k< l.length∧(gt l (bg l k)).1=k then jJ l (bg l k) (bg l k+1) else jJ l (bg l k - 1) (min (bg l k+1) l.length)),0) else ((0,0,[],[]),cb l)
def ex (l:List ab)(x y:List UInt8):NH×Nat:=
 if cb l=0 then (if bl y x=true then ((0,0,[],[]),5) else (jJ l (bg l x - 1) (min (bg l y+1) l.length),0)) else ((0,0,[],[]),cb l)
theorem NI {l:List ab}{k:List UInt8}(h:¬cb l=0):bR l k= ((0,0,[],[]),cb l):=if_neg h
theorem Eo {l:List ab}{k:List UInt8}{i:Nat}(hi:bg l k=i)(h:cb l=0)(h2:i< l.length)(h3: (gt l i).1=k):bR l k= (jJ l i (i+1),0):=by subst hi;unfold bR;rw[if_pos h,if_pos ⟨h2,h3⟩]
theorem tD {l:List ab}{k:List UInt8}{i:Nat}(hi:bg l k=i)(h:cb l=0)(h2:¬ (i< l.length∧(gt l i).1=k)):bR l k= (jJ l (i - 1) (min (i+1) l.length),0):=by subst hi;unfold bR;rw[if_pos h,if_neg h2]
theorem abl {l:List ab}{x y:List UInt8}(h:¬cb l=0):ex l x y= ((0,0,[],[]),cb l):=if_neg h
theorem abm {l:List ab}{x y:List UInt8}(h:cb l=0)(h2:bl y x=true):ex l x y= ((0,0,[],[]),5):=by unfold ex;rw[if_pos h,if_pos h2]
theorem NJ {l:List ab}{x y:List UInt8}(h:cb l=0)(h2:¬bl y x=true):ex l x y= (jJ l (bg l x - 1) (min (bg l y+1) l.length),0):=by unfold ex;rw[if_pos h,if_neg h2]
theorem ju (l:List ab)(k:List UInt8):bg l k≤l.length:=Kr l k l.length
theorem Ep (i:Nat): (C.val (.int .i64 (max ((i:Int) - ((1:Nat):Int)) ((0:Nat):Int)))) = .val (nI (i - 1)):=by
 congr 2;omega
theorem wu {l:List ab}{x y:List UInt8}(hs:Srt l)(h:bl y x=false):bg l x≤bg l y:=by
 have key:∀n,gB l x n≤gB l y n:=fun n=>by
  unfold gB
  rw[←List.countP_eq_length_filter,←List.countP_eq_length_filter]
  exact List.countP_mono_left fun p _ hp=>JV hp h
 exact key _
theorem lX {p:Prop}(e:p:=by intro KZ hZ;simp -implicitDefEqProofs (disch:=first|omega| (simp only[go_sem,lA,lD,lT] <;>omega) |decide) only[go_sem,↓reduceIte,Nat.reduceEqDiff,reduceCtorEq,Nat.reduceLT,Nat.reduceBEq,Nat.reduceAdd,hy];with_reducible exact hZ):p:=e
theorem UN {p:Prop}(e:p:=by intro KZ hZ;simp -implicitDefEqProofs (disch:=first|omega| (simp only[go_sem,lA,lD,lT] <;>omega) |decide) only[go_sem,↓reduceIte,Nat.reduceEqDiff,reduceCtorEq,Nat.reduceLT,Nat.reduceBEq,Nat.reduceAdd,hy];with_reducible refine And.intro ?_ hZ;first|exact rfl|decide):p:=e
theorem Gc {p:Prop}(e:p:=by simp -implicitDefEqProofs (disch:=first|omega| (simp only[go_sem,lA,lD,lT] <;>omega) |decide) only[go_sem,↓reduceIte,Nat.reduceEqDiff,reduceCtorEq];all_goals (first| (rw[hR];done) | (rw[hR];rfl))):p:=e
theorem af5 {gl:Nat→C}{M:Nat}{pu:Nat→List C→Option C}{hp:Nat→List C→Hp→Option (C×Hp)}(hcx:CxOK (eR gl M pu hp))(hnr:∀ (g:Nat) (xs:List C),noRefs 0 xs=false→pu g xs=none)(h63:∀l:List ab,l.length≤1000000→pu 63 [sl eC .no l] =some (sl eC (.own 2) l))(hn91:∀xs:List C,(∃b o,C.bp b o∈xs)→hp 91 xs [] =some (.top,[]))(hq91:∀ (pre suf:Hp) (l:List ab) (f e z:Nat) (lv:List ab) (S:List ba) (d a b:Nat),OkH pre→OkH suf→OkL l→f≤5000∧e≤5000→S.length≤100000 - 2 ^ d→d≤12→a< b∧b≤l.length∧b - a≤2 ^ d→hp 91 [.val (nI a),.val (nI b),.kp [.val (nI f)],.kp [.val (nI e)],.bp pre.length 0,.kp [sl eC .no l],cy 91 [.kp [.val (nI f)],.kp [.val (nI e)],.bp pre.length 0,.kp [sl eC .no l]] d] (pre++([some [.val (nI f),.val (nI z),sl eC .no lv,sl dC (.own 16) (S)]]++suf)) =some (.tup [],pre++([some [.val (nI f),.val (nI z),sl eC .no lv,sl dC (.own 16) (S++cr l f e d a b)]]++suf)))(l:List ab)(f e:Nat)(hl:OkL l)(hfe:f≤e∧e≤l.length):FC Tryd.prog gl 57 [sl eC .no l,.val (nI f),.val (nI e)] [] (.agg [.val (nI f),.val (nI l.length),sl eC .no ((l.drop f).take (e - f)),sl dC .no (cd l f e)]) []:=by
 replace hcx:=hcx.reN (M:=27)
 refine aB (cx:=eR gl 27 pu hp) (rs:=[.cell 6 50]) rfl Tryd.func57 rfl rfl rfl (by simp only[List.length_cons,List.length_nil];decide) (by simp only[go_sem]) ?_
 simp only[bq,go_sem]
 have hy:=True.intro
 have hll:=hl.1
 have e63:=h63 ((l.drop f).take (e - f)) (by rw[List.length_take,List.length_drop];omega)
 refine Tr.w hcx [] _ [none,none,none,none] rfl rfl rfl ?_ lX
 have hy:= @e63
 refine Tr.wD hcx i1 [] _ [none] rfl rfl rfl rfl ?_ UN
 have hy:=True.intro
 refine Tr.w hcx [] _ [none] rfl rfl rfl ?_ lX
 refine Tr.w hcx [] _ [] rfl rfl rfl ?_ lX
 refine aa fun K1 hK1=>?_
 refine Tr.k [3,6,7,8] ?_
 refine Tr.bxc 4 3 (sl dC (.own 16) []) _ rfl rfl (an rfl) rfl ?_
 simp only[List.set_cons_succ,List.set_cons_zero]
 refine bW hcx 0 [sl eC .no l] ?_
 refine bW hcx 1 [.val (nI f)] ?_
 refine bW hcx 2 [.val (nI e)] ?_
 refine FM hcx 5 12 91 [.kp [.val (nI f)],.kp [.val (nI e)],.bp 4 0,.kp [sl eC .no l]] ?_
 refine oY hcx [3,4] ?_
 refine Tr.w hcx [] _ [] rfl rfl rfl ?_ lX
 refine aq rfl (fun hc21=>?_) (fun hc21=>?_)
 ·
  have hR:=En (l:=l) (f:=f) (e:=e) (by omega)
  have e91:=hq91 [some [.val (nI 0),.val (nI 0),.val (.slice none 0 0),.val (.slice none 0 0)]] [] l f e l.length ((l.drop f).take (e - f)) [] 12 0 l.length (OkH.cons rfl OkH.nil) OkH.nil hl (by omega) (by simp) (by omega) (by omega)
  simp only[List.cons_append,List.nil_append,List.length_cons,List.length_nil,Nat.zero_add] at e91
  have en:∀x y:Nat,hp 91 [.val (nI x),.val (nI y),.kp [.val (nI f)],.kp [.val (nI e)],.bp 1 0,.kp [sl eC .no l],cy 91 [.kp [.val (nI f)],.kp [.val (nI e)],.bp 1 0,.kp [sl eC .no l]] 12] [] =some (.top,[]):=fun x y=>hn91 _ ⟨1,0,by simp⟩
  have ep:∀x y:Nat,pu 91 [.val (nI x),.val (nI y),.kp [.val (nI f)],.kp [.val (nI e)],.bp 1 0,.kp [sl eC .no l],cy 91 [.kp [.val (nI f)],.kp [.val (nI e)],.bp 1 0,.kp [sl eC .no l]] 12] =none:=fun x y=>hnr 91 _ rfl
  have hy:=And.intro @e91 (And.intro @en @ep)
  refine Tr.v hcx [] _ [] rfl rfl rfl ?_ lX
  refine hK1 _ ?_
  refine Tr.k [6,7] ?_
  have hy:=True.intro
  refine Tr.w hcx [] _ [] rfl rfl rfl ?_ lX
  exact Tr.ret Gc
 have hR:=Em (l:=l) (f:=f) (e:=e) (by omega)
 refine Tr.skip ?_
 refine hK1 _ ?_
 refine Tr.w hcx [] _ [] rfl rfl rfl ?_ lX
 exact Tr.ret Gc
theorem gK {p:Prop}(e:p:=by intro KZ hZ;simp -implicitDefEqProofs (disch:=first|omega| (simp only[go_sem,lA,lD,lT] <;>omega) |decide) only[go_sem,↓reduceIte,Nat.reduceEqDiff,reduceCtorEq,Nat.reduceLT,Nat.reduceBEq,Nat.reduceAdd,e15,b1,b2,b3,hy];with_reducible exact hZ):p:=e
theorem tE {p:Prop}(e:p:=by simp -implicitDefEqProofs (disch:=first|omega| (simp only[go_sem,lA,lD,lT] <;>omega) |decide) only[go_sem,↓reduceIte,Nat.reduceEqDiff,reduceCtorEq];all_goals (first| (rw[hR];done) | (rw[hR];rfl) | (rw[hR];simp only[jJ,Nat.add_sub_cancel_left];done))):p:=e
theorem af6 {gl:Nat→C}{M:Nat}{pu:Nat→List C→Option C}(hcx:CxOK (af gl M pu))(h15:∀l:List ab,LB l→pu 15 [sl eC .no l] =some (.val (nI (cb l))))(h56:∀ (l:List ab) (k:List UInt8),Srt l→l.length≤1000000→pu 56 [sl eC .no l,.val (str k)] =some (.val (nI (bg l k))))(h57:∀ (l:List ab) (f e:Nat),OkL l→f≤e∧e≤l.length→pu 57 [sl eC .no l,.val (nI f),.val (nI e)] =some (.agg [.val (nI f),.val (nI l.length),sl eC .no ((l.drop f).take (e - f)),sl dC .no (cd l f e)]))(l:List ab)(k:List UInt8)(hl:LB l):FC Tryd.prog gl 22 [sl eC .no l,.val (str k)] [] (.tup [.agg [.val (nI (bR l k).1.1),.val (nI (bR l k).1.2.1),sl eC .no (bR l k).1.2.2.1,sl dC .no (bR l k).1.2.2.2],.val (nI (bR l k).2)]) []:=by
 replace hcx:=hcx.reN (M:=45)
 refine aB (cx:=af gl 45 pu) (rs:=[.cell 4 50,.tmp 5]) rfl Tryd.func22 rfl rfl rfl (by simp only[List.length_cons,List.length_nil];decide) (by simp only[go_sem]) ?_
 simp only[bq,go_sem]
 have b1:=True.intro
 have b2:=True.intro
 have b3:=True.intro
 have hy:=True.intro
 have e15:=h15 l hl
 refine Tr.w hcx [] _ [none] rfl rfl rfl ?_ gK
 refine aa fun K1 hK1=>?_
 refine Tr.w hcx [1000009] _ [] rfl rfl rfl ?_ gK
 by_cases b1:cb l=0
 ·
  have hok:=lL (l:=l) (by omega)
  have hll:=hok.1
  have hsr:=j8 b1
  have e56:=h56 l k hsr (by omega)
  have hfl:=ju l k
  obtain ⟨i,hi⟩:∃i,bg l k=i:=⟨_,rfl⟩
  rw[hi] at e56 hfl
  refine Tr.w hcx [] _ [] rfl rfl rfl ?_ gK
  refine bc rfl ?_
  refine Tr.skip ?_
  refine hK1 _ ?_
  have hy:= @e56
  refine Tr.w hcx [1000016] _ [] rfl rfl rfl ?_ gK
  refine aa fun K2 hK2=>?_
  by_cases b2:i< l.length
  ·
   by_cases b3: (gt l i).1=k
   ·
    have hy:=True.intro
    refine Tr.w hcx [] [some 17,some 18,some 19,some 20,some 21,some 22,some 23,some 24,some 25,some 26,some 27,some 28,some 29] [] rfl rfl rfl ?_ gK
    refine bf rfl ?_
    have e57:=h57 l i (i+1) hok (by omega)
    have hR:=Eo hi b1 b2 b3
    have hy:= @e57
    refine Tr.w hcx [] _ [] rfl rfl rfl ?_ gK
    refine Tr.k [4,5] ?_
    exact Tr.ret tE
   have hy:=True.intro
   refine Tr.w hcx [] [some 17,some 18,some 19,some 20,some 21,some 22,some 23,some 24,some 25,some 26,some 27,some 28,some 29] [] rfl rfl rfl ?_ gK
   refine bc rfl ?_
   refine Tr.skip ?_
   refine hK2 _ ?_
   refine Tr.k [0,4,7] ?_
   have e57:=h57 l (i - 1) (min (i+1) l.length) hok (by omega)
   have hR:=tD hi b1 (fun h=>b3 h.2)
   have hy:=And.intro @e57 (And.intro @Ep @iw)
   refine Tr.w hcx [] _ [] rfl rfl rfl ?_ gK
   exact Tr.ret tE
  have hy:=True.intro
  refine Tr.w hcx [] [some 17,some 18,some 19,some 20,some 21,some 22,some 23,some 24,some 25,some 26,some 27,some 28,some 29] [] rfl rfl rfl ?_ gK
  refine bc rfl ?_
  refine Tr.skip ?_
  refine hK2 _ ?_
  refine Tr.k [0,4,7] ?_
  have e57:=h57 l (i - 1) (min (i+1) l.length) hok (by omega)
  have hR:=tD hi b1 (fun h=>b2 h.1)
  have hy:=And.intro @e57 (And.intro @Ep @iw)
  refine Tr.w hcx [] _ [] rfl rfl rfl ?_ gK
  exact Tr.ret tE
 skip
 refine Tr.w hcx [] _ [] rfl rfl rfl ?_ gK
 refine bf rfl ?_
 refine Tr.w hcx [1000013] _ [] rfl rfl rfl ?_ gK
 refine Tr.bxc 0 2 (sl eC .no []) _ rfl rfl (an rfl) rfl ?_
 refine Tr.bxc 0 3 (sl dC .no []) _ rfl rfl (an rfl) rfl ?_
 simp only[List.set_cons_succ,List.set_cons_zero]
 have hR:=NI (k:=k) b1
 exact Tr.ret tE
theorem jK {p:Prop}(e:p:=by intro KZ hZ;simp -implicitDefEqProofs (disch:=first|omega| (simp only[go_sem,lA,lD,lT] <;>omega) |decide) only[go_sem,↓reduceIte,Nat.reduceEqDiff,reduceCtorEq,Nat.reduceLT,Nat.reduceBEq,Nat.reduceAdd,e15,b1,b2,hy];with_reducible exact hZ):p:=e
theorem zv {p:Prop}(e:p:=by simp -implicitDefEqProofs (disch:=first|omega| (simp only[go_sem,lA,lD,lT] <;>omega) |decide) only[go_sem,↓reduceIte,Nat.reduceEqDiff,reduceCtorEq];all_goals (first| (rw[hR];done) | (rw[hR];rfl))):p:=e
theorem af7 {gl:Nat→C}{M:Nat}{pu:Nat→List C→Option C}(hcx:CxOK (af gl M pu))(h15:∀l:List ab,LB l→pu 15 [sl eC .no l] =some (.val (nI (cb l))))(h56:∀ (l:List ab) (k:List UInt8),Srt l→l.length≤1000000→pu 56 [sl eC .no l,.val (str k)] =some (.val (nI (bg l k))))(h57:∀ (l:List ab) (f e:Nat),OkL l→f≤e∧e≤l.length→pu 57 [sl eC .no l,.val (nI f),.val (nI e)] =some (.agg [.val (nI f),.val (nI l.length),sl eC .no ((l.drop f).take (e - f)),sl dC .no (cd l f e)]))(l:List ab)(x y:List UInt8)(hl:LB l):FC Tryd.prog gl 24 [sl eC .no l,.val (str x),.val (str y)] [] (.tup [.agg [.val (nI (ex l x y).1.1),.val (nI (ex l x y).1.2.1),sl eC .no (ex l x y).1.2.2.1,sl dC .no (ex l x y).1.2.2.2],.val (nI (ex l x y).2)]) []:=by
 replace hcx:=hcx.reN (M:=33)
 refine aB (cx:=af gl 33 pu) (rs:=[.cell 6 50,.tmp 7]) rfl Tryd.func24 rfl rfl rfl (by simp only[List.length_cons,List.length_nil];decide) (by simp only[go_sem]) ?_
 simp only[bq,go_sem]
 have b1:=True.intro
 have b2:=True.intro
 have hy:=True.intro
 have e15:=h15 l hl
 refine Tr.w hcx [] _ [none] rfl rfl rfl ?_ jK
 refine aa fun K1 hK1=>?_
 refine Tr.w hcx [1000010] _ [] rfl rfl rfl ?_ jK
 by_cases b1:cb l=0
 ·
  have hok:=lL (l:=l) (by omega)
  have hll:=hok.1
  have hsr:=j8 b1
  have e56a:=h56 l x hsr (by omega)
  have e56b:=h56 l y hsr (by omega)
  have hfx:=ju l x
  have hfy:=ju l y
  refine Tr.w hcx [] _ [] rfl rfl rfl ?_ jK
  refine bc rfl ?_
  refine Tr.skip ?_
  refine hK1 _ ?_
  refine aa fun K2 hK2=>?_
  by_cases b2:bl y x=true
  ·
   skip
   refine Tr.w hcx [] _ [] rfl rfl rfl ?_ jK
   refine bf rfl ?_
   refine Tr.w hcx [] _ [] rfl rfl rfl ?_ jK
   refine Tr.bxc 0 2 (sl eC .no []) _ rfl rfl (an rfl) rfl ?_
   refine Tr.bxc 0 3 (sl dC .no []) _ rfl rfl (an rfl) rfl ?_
   simp only[List.set_cons_succ,List.set_cons_zero]
   have hR:=abm b1 b2
   exact Tr.ret zv
  have b2n:=b2
  have hxy:=wu hsr (Bool.eq_false_iff.2 b2)
  replace b2:=Bool.eq_false_iff.2 b2
  refine Tr.w hcx [] _ [] rfl rfl rfl ?_ jK
  refine bc rfl ?_
  refine Tr.skip ?_
  refine hK2 _ ?_
  refine Tr.k [0,1,2,6] ?_
  have e57:=h57 l (bg l x - 1) (min (bg l y+1) l.length) hok (by omega)
  have hR:=NJ b1 b2n
  have hy:=And.intro @e56a (And.intro @e56b (And.intro @e57 (And.intro @Ep @iw)))
  refine Tr.w hcx [] _ [] rfl rfl rfl ?_ jK
  exact Tr.ret zv
 skip
 refine Tr.w hcx [] _ [] rfl rfl rfl ?_ jK
 refine bf rfl ?_
 refine Tr.w hcx [1000014] _ [] rfl rfl rfl ?_ jK
 refine Tr.bxc 0 2 (sl eC .no []) _ rfl rfl (an rfl) rfl ?_
 refine Tr.bxc 0 3 (sl dC .no []) _ rfl rfl (an rfl) rfl ?_
 simp only[List.set_cons_succ,List.set_cons_zero]
 have hR:=abl (x:=x) (y:=y) b1
 exact Tr.ret zv
end Go.Sx
namespace Go.Sx
open Go.RowKit
section
variable {cx:Cx} {Q:Ex→St→Prop} {e:List (Nat×C)} {h:Hp} {c:Code}
theorem aaS (hcx:CxOK cx)(b:Nat)(cells:List C){e':List (Nat×C)}{h':Hp}(H:Tr cx 2 c ⟨A e',h'⟩ Q)
 (hnb:2≤b:=by decide) (hn:∀j,j< 2→((h.at j).isSome|| (h.mp j).isSome) =true∨h[j]? =some none:=by intro j hj;match j,hj with|0,_=>exact Or.inl rfl|1,_=>exact Or.inl rfl| (k+2),h=>exact absurd h (by omega))
 (hb:h.at b=some cells:=by simp only[go_sem])
 (E:∀K:List (Nat×C)→Hp→Prop,K e' h'→K (jY (bz (cR h b) b (fzY h b cells)) e) (lw (cR h b) b (fzY h b cells) h):=by
   intro KZ hZ
   simp -implicitDefEqProofs only[go_sem,Jv,Jn,Cj,mF,la,n4,se,sf,sg,uE,uF,pY,uL,uM,uN,uO,uG,oV,m5,n5,Cb,Cc,Cd,Ce,Cf,Cg,wj,Ch,wl,wm,Ci,tu,p8,so,uK,pZ,Option.isSome_some,Option.isSome_none,Nat.reduceBNe,Bool.true_and,Bool.and_true,Bool.false_and,Bool.true_or,Bool.false_or,↓reduceIte,Nat.reduceEqDiff,reduceCtorEq,Nat.zero_ne_one,Nat.one_ne_zero]
   with_reducible exact hZ):Tr cx 2 c ⟨A e,h⟩ Q:=
 Jl hcx b cells hb hnb hn (E (fun x y=>Tr cx 2 c ⟨A x,y⟩ Q) H)
theorem aaT (hcx:CxOK cx)(ρ:List Nat){e':List (Nat×C)}{h':Hp}(H:Tr cx 2 c ⟨A e',h'⟩ Q)
 (hρ:tk 2 ρ:=by exact ⟨by decide,by decide,by decide⟩)
 (E:∀K:List (Nat×C)→Hp→Prop,K e' h'→K (jY (bA ρ) e) (jD ρ h):=by
   intro KZ hZ
   simp -implicitDefEqProofs only[mF,la,B9,jl,fT,e8,jj,jk,Option.map_some,Option.map_none,gm,ji,fS,e7,g4,gj,gS,jd,je,jf,g5,jg,eT,eU,eV,eW,eX,eZ,gZ,fP,↓reduceIte,Nat.reduceEqDiff,reduceCtorEq,Nat.reduceAdd,Nat.zero_add,Nat.one_ne_zero,Nat.zero_ne_one,jh,jm,fa,fb,jn,fe,ff]
   with_reducible exact hZ):Tr cx 2 c ⟨A e,h⟩ Q:=
 Jm hcx ρ hρ (E (fun x y=>Tr cx 2 c ⟨A x,y⟩ Q) H)
end
end Go.Sx
namespace Go.Sx
open Go.RowKit Go.Proofs
set_option maxRecDepth 100000
set_option maxHeartbeats 8000000
abbrev US:=Bool×List ba
def ka (S:List ba):List UInt8×US:=if S.length=0 then (List.replicate 16 0,(false,S)) else ((gt S 0).1,(true,S.drop 1))
def cK (l:List ab)(f:Nat):Nat→Nat→Nat→US→List UInt8×US
 |0,a,b,st=>if st.1=false then (List.replicate 16 0,st) else if b≤f∨f+l.length≤a then ka st.2 else (fK (gt l (a - f)),st)
 |d+1,a,b,st=>if st.1=false then (List.replicate 16 0,st) else if b≤f∨f+l.length≤a then ka st.2 else if b - a≤1 then (fK (gt l (a - f)),st)
   else (iQ (cK l f d a (a+aR (b - a)) st).1 (cK l f d (a+aR (b - a)) b (cK l f d a (a+aR (b - a)) st).2).1,(cK l f d (a+aR (b - a)) b (cK l f d a (a+aR (b - a)) st).2).2)
section
variable {l:List ab} {f d a b:Nat} {st:US} {S:List ba}
theorem UO (h:st.1=false):cK l f d a b st= (List.replicate 16 0,st):=by cases d<;>simp only[cK,if_pos h]
theorem vd (h:b≤f∨f+l.length≤a):cK l f d a b (true,S) =ka S:=by cases d<;>simp[cK,if_pos h]
theorem UP (h:¬ (b≤f∨f+l.length≤a))(h2:b - a≤1):cK l f d a b (true,S) = (fK (gt l (a - f)),(true,S)):=by
 cases d with
 |zero=>unfold cK;rw[if_neg (by simp),if_neg h]
 |succ d=>unfold cK;rw[if_neg (by simp),if_neg h,if_pos h2]
theorem UQ (h:¬ (b≤f∨f+l.length≤a))(h2:¬b - a≤1):cK l f (d+1) a b (true,S) = (iQ (cK l f d a (a+aR (b - a)) (true,S)).1 (cK l f d (a+aR (b - a)) b (cK l f d a (a+aR (b - a)) (true,S)).2).1,(cK l f d (a+aR (b - a)) b (cK l f d a (a+aR (b - a)) (true,S)).2).2):=by
 rw[cK,if_neg (by simp),if_neg h,if_neg h2]
theorem zw (h:S.length=0):ka S= (List.replicate 16 0,(false,S)):=if_pos h
theorem zx (h:¬S.length=0):ka S= ((gt S 0).1,(true,S.drop 1)):=if_neg h
theorem zy: (ka S).1.length=16:=by unfold ka;split;rfl;exact (gt S 0).2
end
theorem ve (l:List ab)(f:Nat):∀d a b st,(cK l f d a b st).1.length=16
 |0,a,b,st=>by unfold cK;split;rfl;split;exact zy;exact cI _
 |d+1,a,b,st=>by
  unfold cK;split
  . rfl
  . split
    . exact zy
    . split
      . exact cI _
      . exact cO _ _
theorem zA (l:List ab)(f:Nat):∀d a b st,(cK l f d a b st).2.2.length≤st.2.length
 |0,a,b,st=>by
  unfold cK;split
  . exact Nat.le_refl _
  . split
    . unfold ka;split<;>simp
    . exact Nat.le_refl _
 |d+1,a,b,st=>by
  unfold cK;split
  . exact Nat.le_refl _
  . split
    . unfold ka;split<;>simp
    . split
      . exact Nat.le_refl _
      . exact Nat.le_trans (zA l f d _ b _) (zA l f d a _ st)
theorem zB (x:Bool)(S:List ba):m6 2 [some [.val (.bool x)],some [sl dC .no S]] =true:=by simp only[oX,sn,go_sem,Bool.and_self]
theorem Gd (l:List ab)(f z:Nat)(e:Nat)(S0:List ba)(q q' d:Nat):cy 93 [.bp q 0,.kp [.val (nI f),.val (nI z),sl eC .no l,sl dC .no S0],.kp [.val (nI e)],.bp q' 0] (d+1) = .kp [.fn 93 [.bp q 0,.kp [.val (nI f),.val (nI z),sl eC .no l,sl dC .no S0],.kp [.val (nI e)],.bp q' 0,cy 93 [.bp q 0,.kp [.val (nI f),.val (nI z),sl eC .no l,sl dC .no S0],.kp [.val (nI e)],.bp q' 0] d]]:=rfl
theorem Ge {S:List ba}(h:0< S.length):kU (cl dC S) 0 16=some (.agg (cl bC (gt S 0).1)):=by
 have q:=xd (f:=dC) S 0 h
 rw[Nat.zero_mul,List.drop_zero] at q;exact q
theorem tk1 {S:List ba}:List.take (S.length - 1) (List.drop 1 S) =List.drop 1 S:=List.take_of_length_le (by rw[List.length_drop];exact Nat.le_refl _)
theorem cC {p:Prop}(e:p:=by intro KZ hZ;simp -implicitDefEqProofs (disch:=first|omega| (simp only[go_sem,lA,lD,lT,cI,cO,hgl] <;>omega) |decide) only[go_sem,↓reduceIte,Nat.reduceEqDiff,reduceCtorEq,Nat.reduceLT,Nat.reduceBEq,Nat.reduceAdd,b0,b1,b2,b3,hy];with_reducible exact hZ):p:=e
theorem lH {p:Prop}(e:p:=by simp -implicitDefEqProofs (disch:=first|omega| (simp only[go_sem,lA,lD,lT,cI,cO,hgl] <;>omega) |decide) only[go_sem,↓reduceIte,Nat.reduceEqDiff,reduceCtorEq];all_goals (first| (simp only[hR];done) | (rw[hR];exact ⟨rfl,rfl⟩) | (rw[hR]))):p:=e
theorem NK {gl:Nat→C}{M0:Nat}{pu:Nat→List C→Option C}{hp:Nat→List C→Hp→Option (C×Hp)}(hcx:CxOK (eR gl M0 pu hp))(l:List ab)(f z:Nat)(S0:List ba)(st:US)(d a b:Nat)(hl:OkL l)(hf:f≤5000)(hS:st.2.length≤1000000)(hab:a< b∧b≤5000∧b - a≤2 ^ d)(hz:st.1=false∨b≤f∨f+l.length≤a∨b - a≤1)(hnr:∀ (g:Nat) (xs:List C),noRefs 0 xs=false→pu g xs=none)(h80:∀x:ab,x.1.length≤65536∧x.2.length≤65536→pu 80 [.agg (eC x)] =some (.agg (cl bC (fK x)))):FC Tryd.prog gl 93 [.val (nI a),.val (nI b),.bp 0 0,.kp [.val (nI f),.val (nI z),sl eC .no l,sl dC .no S0],.kp [.val (nI (f+l.length))],.bp 1 0,cy 93 [.bp 0 0,.kp [.val (nI f),.val (nI z),sl eC .no l,sl dC .no S0],.kp [.val (nI (f+l.length))],.bp 1 0] d] [some [.val (.bool st.1)],some [sl dC .no st.2]] (.agg (cl bC (cK l f d a b st).1)) [some [.val (.bool (cK l f d a b st).2.1)],some [sl dC .no (cK l f d a b st).2.2]]:=by
 replace hcx:=hcx.reN (M:=66)
 refine mI (cx:=eR gl 66 pu hp) (rs:=[.cell 9 29]) rfl Tryd.func93 rfl rfl rfl (by simp only[List.length_cons,List.length_nil];decide) (by simp only[go_sem]) (zB _ _) ?_
 simp only[bq,go_sem]
 have b0:=True.intro
 have b1:=True.intro
 have b2:=True.intro
 have b3:=True.intro
 have hy:=True.intro
 have hgl:=fun (S:List ba) k=>(gt S k).2
 have hll:=hl.1
 obtain ⟨en,S⟩:=st
 simp only[] at*
 refine Tr.w hcx [] _ [none] rfl rfl rfl ?_ cC
 refine aa fun K1 hK1=>?_
 refine Tr.blk ?_
 by_cases b0:en=true
 ·
  subst b0
  refine Tr.w hcx [1000015] _ [] rfl rfl rfl ?_ cC
  refine bc rfl ?_
  by_cases b1:b≤f
  ·
   refine Tr.w hcx [1000026] [some 18,some 19,some 20,some 21,some 22,some 23,some 24,some 25,some 26,some 17] [] rfl rfl rfl ?_ cC
   refine Tr.k [0,1,2,3,5,6,9,17] ?_
   refine bf rfl ?_
   refine aa fun K2 hK2=>?_
   by_cases b3:S.length=0
   ·
    skip
    have hR:=(vd (l:=l) (f:=f) (d:=d) (a:=a) (b:=b) (S:=S) (Or.inl b1)).trans (zw b3)
    have h29: (0< S.length) =False:=by simp only[eq_iff_iff,iff_false];omega
    have hy:= @h29
    refine Tr.w hcx [] _ [] rfl rfl rfl ?_ cC
    have hy:=True.intro
    refine Tr.w hcx [] _ [] rfl rfl rfl ?_ cC
    refine bf rfl ?_
    refine Tr.w hcx [] _ [] rfl rfl rfl ?_ cC
    exact Tr.ret lH
   skip
   have hR:=(vd (l:=l) (f:=f) (d:=d) (a:=a) (b:=b) (S:=S) (Or.inl b1)).trans (zx b3)
   have h29: (0< S.length) =True:=by simp only[eq_iff_iff,iff_true];omega
   have hy:= @h29
   refine Tr.w hcx [] _ [] rfl rfl rfl ?_ cC
   have hy:=True.intro
   refine Tr.w hcx [] _ [] rfl rfl rfl ?_ cC
   refine bc rfl ?_
   refine Tr.skip ?_
   refine hK2 _ ?_
   have hr0:=Ge (S:=S) (by omega)
   have hy:= @hr0
   refine Tr.w hcx [] _ [none] rfl rfl rfl ?_ cC
   have hy:= @tk1
   refine Tr.w hcx [] _ [] rfl rfl rfl ?_ cC
   have hy:=True.intro
   refine Tr.w hcx [] _ [] rfl rfl rfl ?_ cC
   exact Tr.ret lH
  by_cases b2:f+l.length≤a
  ·
   refine Tr.w hcx [1000026] [some 18,some 19,some 20,some 21,some 22,some 23,some 24,some 25,some 26,some 17] [] rfl rfl rfl ?_ cC
   refine Tr.k [0,1,2,3,5,6,9,17] ?_
   refine bf rfl ?_
   refine aa fun K3 hK3=>?_
   by_cases b3:S.length=0
   ·
    skip
    have hR:=(vd (l:=l) (f:=f) (d:=d) (a:=a) (b:=b) (S:=S) (Or.inr b2)).trans (zw b3)
    have h29: (0< S.length) =False:=by simp only[eq_iff_iff,iff_false];omega
    have hy:= @h29
    refine Tr.w hcx [] _ [] rfl rfl rfl ?_ cC
    have hy:=True.intro
    refine Tr.w hcx [] _ [] rfl rfl rfl ?_ cC
    refine bf rfl ?_
    refine Tr.w hcx [] _ [] rfl rfl rfl ?_ cC
    exact Tr.ret lH
   skip
   have hR:=(vd (l:=l) (f:=f) (d:=d) (a:=a) (b:=b) (S:=S) (Or.inr b2)).trans (zx b3)
   have h29: (0< S.length) =True:=by simp only[eq_iff_iff,iff_true];omega
   have hy:= @h29
   refine Tr.w hcx [] _ [] rfl rfl rfl ?_ cC
   have hy:=True.intro
   refine Tr.w hcx [] _ [] rfl rfl rfl ?_ cC
   refine bc rfl ?_
   refine Tr.skip ?_
   refine hK3 _ ?_
   have hr0:=Ge (S:=S) (by omega)
   have hy:= @hr0
   refine Tr.w hcx [] _ [none] rfl rfl rfl ?_ cC
   have hy:= @tk1
   refine Tr.w hcx [] _ [] rfl rfl rfl ?_ cC
   have hy:=True.intro
   refine Tr.w hcx [] _ [] rfl rfl rfl ?_ cC
   exact Tr.ret lH
  refine Tr.w hcx [1000026] [some 18,some 19,some 20,some 21,some 22,some 23,some 24,some 25,some 26,some 17] [] rfl rfl rfl ?_ cC
  refine Tr.k [0,1,2,3,5,6,9,17] ?_
  refine bc rfl ?_
  have hz9:=hz.resolve_left (by simp)
  have h43:b - a=1:=by omega
  have hR:=UP (l:=l) (f:=f) (d:=d) (a:=a) (b:=b) (S:=S) (fun h=>h.elim b1 b2) (by omega)
  have e80:=h80 (gt l (a - f)) (hl.2 (a - f) (by omega))
  have hy:= @h43
  refine Tr.w hcx [1000043] _ [] rfl rfl rfl ?_ cC
  refine bf rfl ?_
  have hy:= @e80
  refine Tr.w hcx [] _ [] rfl rfl rfl ?_ cC
  exact Tr.ret lH
 replace b0:=Bool.eq_false_iff.2 b0
 subst b0
 have hR:=UO (l:=l) (f:=f) (d:=d) (a:=a) (b:=b) (st:=(false,S)) rfl
 refine Tr.w hcx [1000015] _ [] rfl rfl rfl ?_ cC
 refine bf rfl ?_
 refine Tr.w hcx [] _ [] rfl rfl rfl ?_ cC
 exact Tr.ret lH
theorem lI {p:Prop}(e:p:=by intro KZ hZ;simp -implicitDefEqProofs (disch:=first|omega| (simp only[go_sem,lA,lD,lT,cI,cO,hgl,hx1,hx2] <;>omega) |decide) only[go_sem,↓reduceIte,Nat.reduceEqDiff,reduceCtorEq,Nat.reduceLT,Nat.reduceBEq,Nat.reduceAdd,hy];with_reducible exact hZ):p:=e
theorem QB {p:Prop}(e:p:=by intro KZ hZ;simp -implicitDefEqProofs (disch:=first|omega| (simp only[go_sem,lA,lD,lT,cI,cO,hgl,hx1,hx2] <;>omega) |decide) only[go_sem,↓reduceIte,Nat.reduceEqDiff,reduceCtorEq,Nat.reduceLT,Nat.reduceBEq,Nat.reduceAdd,hy];with_reducible refine And.intro ?_ hZ;first|exact rfl|decide):p:=e
theorem QC {p:Prop}(e:p:=by simp -implicitDefEqProofs (disch:=first|omega| (simp only[go_sem,lA,lD,lT,cI,cO,hgl,hx1,hx2] <;>omega) |decide) only[go_sem,↓reduceIte,Nat.reduceEqDiff,reduceCtorEq];all_goals (first| (simp only[hR];done) | (rw[hR];exact ⟨rfl,rfl⟩) | (rw[hR]))):p:=e
theorem abn {gl:Nat→C}{M0:Nat}{pu:Nat→List C→Option C}{hp:Nat→List C→Hp→Option (C×Hp)}(hcx:CxOK (eR gl M0 pu hp))(l:List ab)(f z:Nat)(S0:List ba)(st:US)(d a b:Nat)(hl:OkL l)(hf:f≤5000)(hS:st.2.length≤1000000)(hab:a< b∧b≤5000∧b - a≤2 ^ (d+1))(hq93:∀ (suf:Hp) (st:US) (a b:Nat),OkH suf→st.2.length≤1000000→a< b∧b≤5000∧b - a≤2 ^ d→hp 93 [.val (nI a),.val (nI b),.bp 0 0,.kp [.val (nI f),.val (nI z),sl eC .no l,sl dC .no S0],.kp [.val (nI (f+l.length))],.bp 1 0,cy 93 [.bp 0 0,.kp [.val (nI f),.val (nI z),sl eC .no l,sl dC .no S0],.kp [.val (nI (f+l.length))],.bp 1 0] d] ([some [.val (.bool st.1)],some [sl dC .no st.2]]++suf) =some (.agg (cl bC (cK l f d a b st).1),[some [.val (.bool (cK l f d a b st).2.1)],some [sl dC .no (cK l f d a b st).2.2]]++suf))(hz0:st.1=true)(hz1:¬b≤f)(hz2:¬f+l.length≤a)(hz3:¬b - a≤1)(hnr:∀ (g:Nat) (xs:List C),noRefs 0 xs=false→pu g xs=none)(h81:∀x y:Nat,x≤y∧y≤4611686018427387000→pu 81 [.val (nI x),.val (nI y)] =some (.val (nI (x+aR (y - x)))))(h82:∀a b:List UInt8,a.length=16→b.length=16→pu 82 [.agg (cl bC a),.agg (cl bC b)] =some (.agg (cl bC (iQ a b)))):FC Tryd.prog gl 93 [.val (nI a),.val (nI b),.bp 0 0,.kp [.val (nI f),.val (nI z),sl eC .no l,sl dC .no S0],.kp [.val (nI (f+l.length))],.bp 1 0,cy 93 [.bp 0 0,.kp [.val (nI f),.val (nI z),sl eC .no l,sl dC .no S0],.kp [.val (nI (f+l.length))],.bp 1 0] (d+1)] [some [.val (.bool st.1)],some [sl dC .no st.2]] (.agg (cl bC (cK l f (d+1) a b st).1)) [some [.val (.bool (cK l f (d+1) a b st).2.1)],some [sl dC .no (cK l f (d+1) a b st).2.2]]:=by
 replace hcx:=hcx.reN (M:=66)
 refine mI (cx:=eR gl 66 pu hp) (rs:=[.cell 9 29]) rfl Tryd.func93 rfl rfl rfl (by simp only[List.length_cons,List.length_nil];decide) (by simp only[go_sem]) (zB _ _) ?_
 simp only[bq,go_sem]
 have hy:=True.intro
 have hgl:=fun (S:List ba) k=>(gt S k).2
 have hll:=hl.1
 obtain ⟨en,S⟩:=st
 simp only[] at*
 subst hz0
 have b1:=hz1
 have b2:=hz2
 have h43: (b - a=1) =False:=eq_false (by omega)
 have hx1:=True.intro
 have hx2:=True.intro
 refine Tr.w hcx [] _ [none] rfl rfl rfl ?_ lI
 refine aa fun K1 hK1=>?_
 refine Tr.blk ?_
 refine Tr.w hcx [1000015] _ [] rfl rfl rfl ?_ lI
 refine bc rfl ?_
 have hy:=And.intro @b1 @b2
 refine Tr.w hcx [1000026] [some 18,some 19,some 20,some 21,some 22,some 23,some 24,some 25,some 26,some 17] [] rfl rfl rfl ?_ lI
 refine Tr.k [0,1,2,3,5,6,9,17] ?_
 refine bc rfl ?_
 have hy:= @h43
 refine Tr.w hcx [1000043] _ [] rfl rfl rfl ?_ lI
 refine bc rfl ?_
 refine Tr.skip ?_
 refine hK1 _ ?_
 have e81:=h81 a b (by omega)
 have hh:=gT (n:=b - a) (by omega)
 have hh2:=fg (by omega) hab.2.2
 have e1:=hq93 [some (cl bC (List.replicate 16 0)),none] (true,S) a (a+aR (b - a)) (OkH.cons (ja _) (OkH.cons rfl OkH.nil)) hS (by omega)
 have hR:=UQ (l:=l) (f:=f) (d:=d) (a:=a) (b:=b) (S:=S) (fun h=>h.elim b1 b2) hz3
 have hB:=zA l f d a (a+aR (b - a)) (true,S)
 obtain ⟨X,hX⟩:∃X,X=cK l f d a (a+aR (b - a)) (true,S):=⟨_,rfl⟩
 have hXl:X.1.length=16:=by rw[hX];exact ve _ _ _ _ _ _
 rw[←hX] at e1 hR hB
 have hx1:=hXl
 have e2:=hq93 [some (cl bC (List.replicate 16 0))] X.2 (a+aR (b - a)) b (OkH.cons (ja _) OkH.nil) (by simp only[] at hB;omega) (by omega)
 obtain ⟨Y,hY⟩:∃Y,Y=cK l f d (a+aR (b - a)) b X.2:=⟨_,rfl⟩
 have hYl:Y.1.length=16:=by rw[hY];exact ve _ _ _ _ _ _
 rw[←hY] at e2 hR
 have hx2:=hYl
 have e82:=h82 X.1 Y.1 hXl hYl
 simp only[List.cons_append,List.nil_append] at e1 e2
 have ep:∀x y:Nat,pu 93 [.val (nI x),.val (nI y),.bp 0 0,.kp [.val (nI f),.val (nI z),sl eC .no l,sl dC .no S0],.kp [.val (nI (f+l.length))],.bp 1 0,cy 93 [.bp 0 0,.kp [.val (nI f),.val (nI z),sl eC .no l,sl dC .no S0],.kp [.val (nI (f+l.length))],.bp 1 0] d] =none:=fun x y=>hnr 93 _ rfl
 have hy:= @e81
 refine Tr.w hcx [1000055] _ [] rfl rfl rfl ?_ lI
 have hy:=And.intro @Gd (And.intro @e1 @ep)
 refine Tr.w hcx [] _ [none] rfl rfl rfl ?_ lI
 refine Tr.k [1,6,9,11,12] ?_
 refine Tr.k [1,6,9,11,12] ?_
 refine aaS hcx 3 (cl bC X.1) ?_
 refine aaT hcx [0,1,2] ?_
 have hy:=And.intro @Gd (And.intro @e2 (And.intro @ep @e82))
 refine Tr.wD hcx i1 [] _ [] rfl rfl rfl rfl ?_ QB
 exact Tr.ret QC
end Go.Sx
namespace Go.Sx
open Go.RowKit Go.Proofs
theorem UR {P:Program}{t:TypeId}(x:Int)(y:Nat):aw P .add t (.val (.int .i64 x)) (.val (nI y)) =some (vp (.val (.int .i64 (IntKind.i64.wrap (x+((y:Nat):Int)))))):=by
 simp only[nI,bu,bX,ne_eq,not_true_eq_false,if_false,Option.map_some]
def g9 (f z:Int)(l:List ab):Prop:=z< 0∨4096< z∨f< 0∨z< f∨z - f< (l.length:Int)∨¬cb l=0
instance (f z:Int) (l:List ab):Decidable (g9 f z l):=by unfold g9;infer_instance
def d9 (r:List UInt8)(f z:Int)(l:List ab)(S:List ba):Bool:=
 if g9 f z l∨(0< z∧l.length=0) then false
 else !(Bd l f.toNat S z.toNat ([],0,false)).2.2.2 && decide ((Bd l f.toNat S z.toNat ([],0,false)).2.2.1=S.length) && decide ((Bd l f.toNat S z.toNat ([],0,false)).1=r)
theorem abo (l:List ab)(f:Nat):∀d a b (st:US),st.1=false→(cK l f d a b st).2.1=false:=fun d a b st h=>by rw[UO h];exact h
theorem vf (l:List ab)(f:Nat)(S:List ba):∀d a b (st:TS),st.2.2=true→(br l f S d a b st).2.2.2=true
 |0,a,b,st,h=>by
  unfold br;split
  . unfold ik;split
    . rfl
    . exact h
  . exact h
 |d+1,a,b,st,h=>by
  unfold br;split
  . unfold ik;split
    . rfl
    . exact h
  . split
    . exact h
    . exact vf l f S d _ b _ (vf l f S d a _ st h)
theorem Gf {S:List ba}{T:List (List UInt8)}{u:Nat}(hu:u≤S.length):
 ((ik S (T,u,false)).2.2.2=false→ka (S.drop u) = ((ik S (T,u,false)).1,(true,S.drop (ik S (T,u,false)).2.2.1)))∧((ik S (T,u,false)).2.2.2=true→(ka (S.drop u)).2.1=false):=by
 by_cases h:S.length≤u
 . have e:ik S (T,u,false) = (List.replicate 16 0,(T,u,true)):=if_pos h
   have e2:ka (S.drop u) = (List.replicate 16 0,(false,S.drop u)):=zw (by rw[List.length_drop];omega)
   rw[e,e2];exact ⟨fun q=>by simp at q,fun _=>rfl⟩
 . have e:ik S (T,u,false) = ((gt S u).1,(T,u+1,false)):=if_neg h
   have e2:ka (S.drop u) = ((gt (S.drop u) 0).1,(true,(S.drop u).drop 1)):=zx (by rw[List.length_drop];omega)
   have e3:gt (S.drop u) 0=gt S u:=by simp[gt,List.getD]
   rw[e,e2,e3,List.drop_drop];exact ⟨fun _=>rfl,fun q=>by simp at q⟩
theorem zC (l:List ab)(f:Nat)(S:List ba):∀d a b T u,u≤S.length→
 ((br l f S d a b (T,u,false)).2.2.2=false→cK l f d a b (true,S.drop u) = ((br l f S d a b (T,u,false)).1,(true,S.drop (br l f S d a b (T,u,false)).2.2.1)))∧
 ((br l f S d a b (T,u,false)).2.2.2=true→(cK l f d a b (true,S.drop u)).2.1=false)
 |0,a,b,T,u,hu=>by
  by_cases h:b≤f∨f+l.length≤a
  . rw[gN h,vd h];exact Gf hu
  . have e1:br l f S 0 a b (T,u,false) =nb (gt l (a - f)) (T,u,false):=by simp only[br,if_neg h]
    have e2:cK l f 0 a b (true,S.drop u) = (fK (gt l (a - f)),(true,S.drop u)):=by unfold cK;rw[if_neg (by simp),if_neg h]
    rw[e1,e2];exact ⟨fun _=>rfl,fun q=>by simp[nb] at q⟩
 |d+1,a,b,T,u,hu=>by
  by_cases h:b≤f∨f+l.length≤a
  . rw[gN h,vd h];exact Gf hu
  . by_cases h2:b - a≤1
    . rw[gO h h2,UP h h2];exact ⟨fun _=>rfl,fun q=>by simp[nb] at q⟩
    . rw[nJ h h2,UQ h h2]
      have g1:=zC l f S d a (a+aR (b - a)) T u hu
      have hb:=lM l f S d a (a+aR (b - a)) (T,u,false)
      generalize br l f S d a (a+aR (b - a)) (T,u,false) =X at*
      obtain ⟨x,T1,u1,s1⟩:=X
      simp only at g1 hb
      cases s1 with
      |true=>
       have hs:=vf l f S d (a+aR (b - a)) b (T1,u1,true) rfl
       have q:=g1.2 rfl
       refine ⟨fun e=>?_,fun _=>?_⟩
       . simp only[ol] at e;rw[hs] at e;cases e
       . exact abo l f d _ b _ q
      |false=>
       rw[g1.1 rfl]
       have g2:=zC l f S d (a+aR (b - a)) b T1 u1 (by omega)
       refine ⟨fun e=>?_,fun e=>?_⟩
       . simp only[ol] at e ⊢
         rw[g2.1 e]
       . simp only[ol] at e
         exact g2.2 e
theorem mR {r:List UInt8}{f z:Int}{l:List ab}{S:List ba}(h:g9 f z l∨(0< z∧l.length=0)):d9 r f z l S=false:=if_pos h
theorem NL {r:List UInt8}{f z:Int}{l:List ab}{S:List ba}(h:¬g9 f z l)(hz:z=0):d9 r f z l S= (decide (S.length=0) && decide (g8 0 (List.replicate 16 0) =r)):=by
 subst hz
 unfold d9
 rw[if_neg (fun q=>q.elim h (fun q=>absurd q.1 (by omega)))]
 rw[YD (by rfl)]
 have e: (0=S.length) = (S.length=0):=propext ⟨fun h=>h.symm,fun h=>h.symm⟩
 simp only[e,Bool.not_false,Bool.true_and]
 rfl
theorem abp {r:List UInt8}{f z:Nat}{l:List ab}{S:List ba}(h:¬g9 f z l)(hz:¬z=0)(hl:¬l.length=0):
 d9 r f z l S= ((cK l f 12 0 z (true,S)).2.1 && decide ((cK l f 12 0 z (true,S)).2.2.length=0) && decide (g8 z (cK l f 12 0 z (true,S)).1=r)):=by
 unfold d9
 rw[if_neg (fun q=>q.elim h (fun q=>hl q.2))]
 rw[show ((f:Nat):Int).toNat=f from rfl,show ((z:Nat):Int).toNat=z from rfl,Hk hz]
 have g:=zC l f S 12 0 z [] 0 (Nat.zero_le _)
 have hb:=lM l f S 12 0 z ([],0,false)
 rw[List.drop_zero] at g
 generalize br l f S 12 0 z ([],0,false) =X at*
 obtain ⟨x,T1,u1,s1⟩:=X
 simp only at g hb ⊢
 cases s1 with
 |true=>rw[g.2 rfl];rfl
 |false=>
  rw[g.1 rfl]
  have e: ((S.drop u1).length=0) = (u1=S.length):=by rw[List.length_drop];apply propext;omega
  have e2:ofT 4 [aA ((z:Nat):Int),x] =g8 z x:=by unfold g8;rw[if_neg hz]
  simp only[e,e2,Bool.not_false,Bool.true_and]
def eP (r k:List UInt8)(f z:Int)(l:List ab)(S:List ba):List UInt8×Bool×Nat:=
 if d9 r f z l S=true then (if bg l k< l.length∧(gt l (bg l k)).1=k then ((gt l (bg l k)).2,true,0)
  else if (0< bg l k∨f=0)∧(bg l k< l.length∨f+l.length=z) then ([],false,0) else ([],false,17)) else ([],false,17)
def iS (r x y:List UInt8)(f z:Int)(l:List ab)(S:List ba):List ab×Nat:=
 if bl y x=true then ([],5) else if d9 r f z l S=true then (if (0< f∧bg l x=0)∨(f+l.length< z∧bg l y=l.length) then ([],17) else ((l.drop (bg l x)).take (bg l y - bg l x),0)) else ([],17)
theorem CS {r:List UInt8}{f z:Int}{l:List ab}{S:List ba}(h:d9 r f z l S=true):cb l=0∧0≤f∧f≤z∧z≤4096∧f+l.length≤z:=by
 have hb:¬g9 f z l:=fun q=>by rw[mR (Or.inl q)] at h;cases h
 unfold g9 at hb
 refine ⟨?_,by omega,by omega,by omega,by omega⟩
 by_cases e:cb l=0
 . exact e
 . exact absurd (Or.inr (Or.inr (Or.inr (Or.inr (Or.inr e))))) hb
end Go.Sx
namespace Go.Sx
open Go.RowKit Go.Proofs
set_option maxRecDepth 100000
set_option maxHeartbeats 8000000
theorem dm {p:Prop}(e:p:=by intro KZ hZ;simp -implicitDefEqProofs (disch:=first|omega| (simp only[go_sem,lA,lD,lT,hr,hx1,gz] <;>omega) |decide) only[go_sem,↓reduceIte,Nat.reduceEqDiff,reduceCtorEq,Nat.reduceLT,Nat.reduceBEq,Nat.reduceAdd,lJ,e15,b1,b2,b3,b4,b5,b6,c1,c2,c3,hy];with_reducible exact hZ):p:=e
theorem pr {p:Prop}(e:p:=by intro KZ hZ;simp -implicitDefEqProofs (disch:=first|omega| (simp only[go_sem,lA,lD,lT,hr,hx1,gz] <;>omega) |decide) only[go_sem,↓reduceIte,Nat.reduceEqDiff,reduceCtorEq,Nat.reduceLT,Nat.reduceBEq,Nat.reduceAdd,lJ,e15,b1,b2,b3,b4,b5,b6,c1,c2,c3,hy];with_reducible refine And.intro ?_ hZ;first|exact rfl|decide):p:=e
theorem gL {p:Prop}(e:p:=by simp -implicitDefEqProofs (disch:=first|omega| (simp only[go_sem,lA,lD,lT,hr,hx1,gz] <;>omega) |decide) only[go_sem,↓reduceIte,Nat.reduceEqDiff,reduceCtorEq];all_goals (first| (rw[hR];done) | (rw[hR];simp[c1];done) | (rw[hR];simp[c2,c3];done) | (rw[hR];simp[c2];done))):p:=e
theorem af8 {gl:Nat→C}{M0:Nat}{pu:Nat→List C→Option C}{hp:Nat→List C→Hp→Option (C×Hp)}(hcx:CxOK (eR gl M0 pu hp))(r:List UInt8)(f z:Int)(l:List ab)(S:List ba)(hr:r.length=16)(hf: -9223372036854775808≤f∧f≤9223372036854775807)(hz: -9223372036854775808≤z∧z≤9223372036854775807)(hl:LB l)(hS:S.length≤1000000)(hnr:∀ (g:Nat) (xs:List C),noRefs 0 xs=false→pu g xs=none)(h15:∀l:List ab,LB l→pu 15 [sl eC .no l] =some (.val (nI (cb l))))(h50:∀ (n:Nat) (d:List UInt8),n≤4096→d.length=16→pu 50 [.val (nI n),.agg (cl bC d)] =some (.agg (cl bC (g8 n d))))(hq93:∀ (suf:Hp) (l:List ab) (f z:Nat) (S0:List ba) (st:US) (d a b:Nat),OkH suf→OkL l→f≤5000→st.2.length≤1000000→a< b∧b≤5000∧b - a≤2 ^ d→hp 93 [.val (nI a),.val (nI b),.bp 0 0,.kp [.val (nI f),.val (nI z),sl eC .no l,sl dC .no S0],.kp [.val (nI (f+l.length))],.bp 1 0,cy 93 [.bp 0 0,.kp [.val (nI f),.val (nI z),sl eC .no l,sl dC .no S0],.kp [.val (nI (f+l.length))],.bp 1 0] d] ([some [.val (.bool st.1)],some [sl dC .no st.2]]++suf) =some (.agg (cl bC (cK l f d a b st).1),[some [.val (.bool (cK l f d a b st).2.1)],some [sl dC .no (cK l f d a b st).2.2]]++suf)):FC Tryd.prog gl 61 [.agg [.val (.int .i64 f),.val (.int .i64 z),sl eC .no l,sl dC .no S],.agg (cl bC r)] [] (.val (.bool (d9 r f z l S))) []:=by
 replace hcx:=hcx.reN (M:=86)
 refine aB (cx:=eR gl 86 pu hp) (rs:=[.tmp 4]) rfl Tryd.func61 rfl rfl rfl (by simp only[List.length_cons,List.length_nil];decide) (by simp only[go_sem]) ?_
 simp only[bq,go_sem]
 have b1:=True.intro
 have b2:=True.intro
 have b3:=True.intro
 have b4:=True.intro
 have b5:=True.intro
 have b6:=True.intro
 have c1:=True.intro
 have c2:=True.intro
 have c3:=True.intro
 have hy:=True.intro
 have e15:=h15 l hl
 have hl1:=hl.1
 have hx1:=True.intro
 obtain ⟨W,hW⟩:∃W,IntKind.i64.wrap (f+((l.length:Nat):Int)) =W:=⟨_,rfl⟩
 refine Tr.w hcx [] _ [none,none] rfl rfl rfl ?_ dm
 have hy:=And.intro @UR @hW
 refine Tr.w hcx [] _ [none] rfl rfl rfl ?_ dm
 refine Tr.k [2,3,5] ?_
 refine aa fun K1 hK1=>?_
 by_cases b1:z< ((0:Nat):Int)
 ·
  have hB:g9 f z l:=Or.inl (by omega)
  have hy:=True.intro
  refine Tr.w hcx [] [some 16,some 17,some 18,some 19,some 20,some 21,some 22,some 23,some 24,some 25,some 26,some 27,some 28,some 29,some 30,some 31,some 32,some 33,some 34,some 35,some 36,some 37,some 38,some 39,some 40,some 41,some 42,some 43,some 44,some 45,some 46,some 47] [] rfl rfl rfl ?_ dm
  refine Tr.k [2,3,5,47] ?_
  refine bf rfl ?_
  have hR:=mR (r:=r) (S:=S) (Or.inl hB)
  refine Tr.w hcx [] _ [] rfl rfl rfl ?_ dm
  exact Tr.ret gL
 skip
 by_cases b2: ((4096:Nat):Int) < z
 ·
  have hB:g9 f z l:=Or.inr (Or.inl (by omega))
  have hy:=True.intro
  refine Tr.w hcx [] [some 16,some 17,some 18,some 19,some 20,some 21,some 22,some 23,some 24,some 25,some 26,some 27,some 28,some 29,some 30,some 31,some 32,some 33,some 34,some 35,some 36,some 37,some 38,some 39,some 40,some 41,some 42,some 43,some 44,some 45,some 46,some 47] [] rfl rfl rfl ?_ dm
  refine Tr.k [2,3,5,47] ?_
  refine bf rfl ?_
  have hR:=mR (r:=r) (S:=S) (Or.inl hB)
  refine Tr.w hcx [] _ [] rfl rfl rfl ?_ dm
  exact Tr.ret gL
 skip
 by_cases b3:f< ((0:Nat):Int)
 ·
  have hB:g9 f z l:=Or.inr (Or.inr (Or.inl (by omega)))
  have hy:=True.intro
  refine Tr.w hcx [] [some 16,some 17,some 18,some 19,some 20,some 21,some 22,some 23,some 24,some 25,some 26,some 27,some 28,some 29,some 30,some 31,some 32,some 33,some 34,some 35,some 36,some 37,some 38,some 39,some 40,some 41,some 42,some 43,some 44,some 45,some 46,some 47] [] rfl rfl rfl ?_ dm
  refine Tr.k [2,3,5,47] ?_
  refine bf rfl ?_
  have hR:=mR (r:=r) (S:=S) (Or.inl hB)
  refine Tr.w hcx [] _ [] rfl rfl rfl ?_ dm
  exact Tr.ret gL
 skip
 by_cases b4:z< f
 ·
  have hB:g9 f z l:=Or.inr (Or.inr (Or.inr (Or.inl b4)))
  have hy:=True.intro
  refine Tr.w hcx [] [some 16,some 17,some 18,some 19,some 20,some 21,some 22,some 23,some 24,some 25,some 26,some 27,some 28,some 29,some 30,some 31,some 32,some 33,some 34,some 35,some 36,some 37,some 38,some 39,some 40,some 41,some 42,some 43,some 44,some 45,some 46,some 47] [] rfl rfl rfl ?_ dm
  refine Tr.k [2,3,5,47] ?_
  refine bf rfl ?_
  have hR:=mR (r:=r) (S:=S) (Or.inl hB)
  refine Tr.w hcx [] _ [] rfl rfl rfl ?_ dm
  exact Tr.ret gL
 rw[eg _ (by omega) (by omega)] at hW
 by_cases b5:z< W
 ·
  have hB:g9 f z l:=Or.inr (Or.inr (Or.inr (Or.inr (Or.inl (by omega)))))
  have hy:=True.intro
  refine Tr.w hcx [] [some 16,some 17,some 18,some 19,some 20,some 21,some 22,some 23,some 24,some 25,some 26,some 27,some 28,some 29,some 30,some 31,some 32,some 33,some 34,some 35,some 36,some 37,some 38,some 39,some 40,some 41,some 42,some 43,some 44,some 45,some 46,some 47] [] rfl rfl rfl ?_ dm
  refine Tr.k [2,3,5,47] ?_
  refine bf rfl ?_
  have hR:=mR (r:=r) (S:=S) (Or.inl hB)
  refine Tr.w hcx [] _ [] rfl rfl rfl ?_ dm
  exact Tr.ret gL
 skip
 by_cases b6:cb l=0
 ·
  have hB:¬g9 f z l:=fun q=>by
   unfold g9 at q;omega
  have hok:=lL (l:=l) (by omega)
  have hy:=True.intro
  refine Tr.w hcx [] [some 16,some 17,some 18,some 19,some 20,some 21,some 22,some 23,some 24,some 25,some 26,some 27,some 28,some 29,some 30,some 31,some 32,some 33,some 34,some 35,some 36,some 37,some 38,some 39,some 40,some 41,some 42,some 43,some 44,some 45,some 46,some 47] [] rfl rfl rfl ?_ dm
  refine Tr.k [2,3,5,47] ?_
  refine bc rfl ?_
  refine Tr.skip ?_
  refine hK1 _ ?_
  refine aa fun K2 hK2=>?_
  obtain ⟨z,rfl⟩:∃n:Nat,z= (n:Int):=⟨z.toNat,by omega⟩
  obtain ⟨f,rfl⟩:∃n:Nat,f= (n:Int):=⟨f.toNat,by omega⟩
  have hW2:W= ((f+l.length:Nat):Int):=by omega
  have hll:=hok.1
  refine Tr.w hcx [] _ [] rfl rfl rfl ?_ dm
  refine aq rfl (fun hc50=>?_) (fun hc50=>?_)
  ·
   have hR:=NL (r:=r) (S:=S) hB (by omega)
   have e50:=h50 0 (List.replicate 16 0) (by omega) rfl
   by_cases c1:S.length=0
   ·
    have hy:=And.intro @e50 @sY
    refine Tr.wD hcx i1 [1000060] [some 51,some 52,some 53,some 54,some 55,some 56,some 57,some 58,some 59,some 60,some 4] [] rfl rfl rfl rfl ?_ pr
    exact Tr.ret gL
   have hy:=And.intro @e50 @sY
   refine Tr.wD hcx i1 [1000060] [some 51,some 52,some 53,some 54,some 55,some 56,some 57,some 58,some 59,some 60,some 4] [] rfl rfl rfl rfl ?_ pr
   exact Tr.ret gL
  refine Tr.skip ?_
  refine hK2 _ ?_
  refine aa fun K3 hK3=>?_
  refine Tr.w hcx [] _ [] rfl rfl rfl ?_ dm
  refine aq rfl (fun hc64=>?_) (fun hc64=>?_)
  ·
   have hR:=mR (r:=r) (S:=S) (f:=f) (z:=z) (l:=l) (Or.inr ⟨by omega,by omega⟩)
   refine Tr.w hcx [] _ [] rfl rfl rfl ?_ dm
   exact Tr.ret gL
  refine Tr.skip ?_
  refine hK3 _ ?_
  refine Tr.w hcx [] _ [none,none] rfl rfl rfl ?_ dm
  refine Tr.w hcx [] _ [none] rfl rfl rfl ?_ dm
  refine Tr.w hcx [] _ [] rfl rfl rfl ?_ dm
  subst hW2
  simp only[lJ]
  refine Tr.k [2,3,6,7,8] ?_
  refine bW hcx 0 [.val (nI f),.val (nI z),sl eC .no l,sl dC .no S] ?_
  refine bW hcx 2 [.val (nI (f+l.length))] ?_
  refine FM hcx 5 12 93 [.bp 4 0,.kp [.val (nI f),.val (nI z),sl eC .no l,sl dC .no S],.kp [.val (nI (f+l.length))],.bp 3 0] ?_
  refine oY hcx [4,3,1] ?_
  have e93:=hq93 [some (cl bC r),none] l f z S (true,S) 12 0 z (OkH.cons (ja _) (OkH.cons rfl OkH.nil)) hok (by omega) hS (by omega)
  have hR:=abp (r:=r) (S:=S) hB (by omega) (by omega)
  obtain ⟨X,hX⟩:∃X,X=cK l f 12 0 z (true,S):=⟨_,rfl⟩
  have hXl:X.1.length=16:=by rw[hX];exact ve _ _ _ _ _ _
  rw[←hX] at e93 hR
  have hx1:=hXl
  simp only[List.cons_append,List.nil_append] at e93
  have e50:=h50 z X.1 (by omega) hXl
  have ep:∀x y:Nat,pu 93 [.val (nI x),.val (nI y),.bp 0 0,.kp [.val (nI f),.val (nI z),sl eC .no l,sl dC .no S],.kp [.val (nI (f+l.length))],.bp 1 0,cy 93 [.bp 0 0,.kp [.val (nI f),.val (nI z),sl eC .no l,sl dC .no S],.kp [.val (nI (f+l.length))],.bp 1 0] 12] =none:=fun x y=>hnr 93 _ rfl
  have hy:=And.intro @e93 @ep
  refine Tr.w hcx [] _ [none] rfl rfl rfl ?_ dm
  refine Tr.k [2,3,6,7,9] ?_
  by_cases c2:X.2.1=true
  ·
   skip
   by_cases c3:X.2.2.length=0
   ·
    have hy:=And.intro @e50 @sY
    refine Tr.wD hcx i1 [1000085] [some 72,some 73,some 74,some 75,some 76,some 77,some 78,some 79,some 80,some 81,some 82,some 83,some 84,some 85,some 4] [] rfl rfl rfl rfl ?_ pr
    exact Tr.ret gL
   have hy:=And.intro @e50 @sY
   refine Tr.wD hcx i1 [1000085] [some 72,some 73,some 74,some 75,some 76,some 77,some 78,some 79,some 80,some 81,some 82,some 83,some 84,some 85,some 4] [] rfl rfl rfl rfl ?_ pr
   exact Tr.ret gL
  replace c2:=Bool.eq_false_iff.2 c2
  have hy:=And.intro @e50 @sY
  refine Tr.wD hcx i1 [1000085] [some 72,some 73,some 74,some 75,some 76,some 77,some 78,some 79,some 80,some 81,some 82,some 83,some 84,some 85,some 4] [] rfl rfl rfl rfl ?_ pr
  exact Tr.ret gL
 have hB:g9 f z l:=Or.inr (Or.inr (Or.inr (Or.inr (Or.inr b6))))
 have hy:=True.intro
 refine Tr.w hcx [] [some 16,some 17,some 18,some 19,some 20,some 21,some 22,some 23,some 24,some 25,some 26,some 27,some 28,some 29,some 30,some 31,some 32,some 33,some 34,some 35,some 36,some 37,some 38,some 39,some 40,some 41,some 42,some 43,some 44,some 45,some 46,some 47] [] rfl rfl rfl ?_ dm
 refine Tr.k [2,3,5,47] ?_
 refine bf rfl ?_
 have hR:=mR (r:=r) (S:=S) (Or.inl hB)
 refine Tr.w hcx [] _ [] rfl rfl rfl ?_ dm
 exact Tr.ret gL
end Go.Sx
