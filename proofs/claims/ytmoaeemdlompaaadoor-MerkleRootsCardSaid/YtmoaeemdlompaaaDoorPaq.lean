/-
   And what follows.
-/
import Derived.Test.YtmoaeemdlompaaaDoorPap
set_option linter.unusedSimpArgs false
set_option linter.unusedVariables false
namespace Go.Sx
open Go.RowKit Go.Proofs
set_option maxRecDepth 100000
set_option maxHeartbeats 8000000
abbrev Kp:=Nat×Nat×List ab×List bL
def ol (l:List ab)(f e:Nat):Kp:=(f,l.length,(l.drop f).take (e - f),cd l f e)
def dn (l:List ab)(k:List UInt8):Kp×Nat:=
 if bR l=0 then ((if bm l k< l.length∧(gt l (bm l k)).1=k then ol l (bm l k) (bm l k+1) else ol l (bm l k - 1) (min (bm l k+1) l.length)),0) else ((0,0,[],[]),bR l)
def dF (l:List ab)(x y:List UInt8):Kp×Nat:=
 if bR l=0 then (if bl y x=true then ((0,0,[],[]),5) else (ol l (bm l x - 1) (min (bm l y+1) l.length),0)) else ((0,0,[],[]),bR l)
theorem PI {l:List ab}{k:List UInt8}(h:¬bR l=0):dn l k= ((0,0,[],[]),bR l):=if_neg h
theorem E0 {l:List ab}{k:List UInt8}{i:Nat}(hi:bm l k=i)(h:bR l=0)(h2:i< l.length)(h3: (gt l i).1=k):dn l k= (ol l i (i+1),0):=by subst hi;unfold dn;rw[if_pos h,if_pos ⟨h2,h3⟩]
theorem sI {l:List ab}{k:List UInt8}{i:Nat}(hi:bm l k=i)(h:bR l=0)(h2:¬ (i< l.length∧(gt l i).1=k)):dn l k= (ol l (i - 1) (min (i+1) l.length),0):=by subst hi;unfold dn;rw[if_pos h,if_neg h2]
theorem PJ {l:List ab}{x y:List UInt8}(h:¬bR l=0):dF l x y= ((0,0,[],[]),bR l):=if_neg h
theorem PK {l:List ab}{x y:List UInt8}(h:bR l=0)(h2:bl y x=true):dF l x y= ((0,0,[],[]),5):=by unfold dF;rw[if_pos h,if_pos h2]
theorem E1 {l:List ab}{x y:List UInt8}(h:bR l=0)(h2:¬bl y x=true):dF l x y= (ol l (bm l x - 1) (min (bm l y+1) l.length),0):=by unfold dF;rw[if_pos h,if_neg h2]
theorem iH (l:List ab)(k:List UInt8):bm l k≤l.length:=T2 l k l.length
theorem Ce (i:Nat): (C.val (.int .i64 (max ((i:Int) - ((1:Nat):Int)) ((0:Nat):Int)))) = .val (nI (i - 1)):=by
 congr 2;omega
theorem rD {l:List ab}{x y:List UInt8}(hs:Srt l)(h:bl y x=false):bm l x≤bm l y:=by
 have key:∀n,fV l x n≤fV l y n:=fun n=>by
  unfold fV
  rw[←List.countP_eq_length_filter,←List.countP_eq_length_filter]
  exact List.countP_mono_left fun p _ hp=>Cd hp h
 exact key _
theorem iU {p:Prop}(e:p:=by intro KZ hZ;simp -implicitDefEqProofs (disch:=first|omega| (simp only[go_sem,lA,lD,lT] <;>omega) |decide) only[go_sem,↓reduceIte,Nat.reduceEqDiff,reduceCtorEq,Nat.reduceLT,Nat.reduceBEq,Nat.reduceAdd,hy];with_reducible exact hZ):p:=e
theorem Kq {p:Prop}(e:p:=by intro KZ hZ;simp -implicitDefEqProofs (disch:=first|omega| (simp only[go_sem,lA,lD,lT] <;>omega) |decide) only[go_sem,↓reduceIte,Nat.reduceEqDiff,reduceCtorEq,Nat.reduceLT,Nat.reduceBEq,Nat.reduceAdd,hy];with_reducible refine And.intro ?_ hZ;first|exact rfl|decide):p:=e
theorem zo {p:Prop}(e:p:=by simp -implicitDefEqProofs (disch:=first|omega| (simp only[go_sem,lA,lD,lT] <;>omega) |decide) only[go_sem,↓reduceIte,Nat.reduceEqDiff,reduceCtorEq];all_goals (first| (rw[hR];done) | (rw[hR];rfl))):p:=e
theorem Tv {gl:Nat→C}{M:Nat}{pu:Nat→List C→Option C}{hp:Nat→List C→Hp→Option (C×Hp)}(hcx:CxOK (dZ gl M pu hp))(hnr:∀ (g:Nat) (xs:List C),noRefs 0 xs=false→pu g xs=none)(h63:∀l:List ab,l.length≤1000000→pu 63 [sl eC .no l] =some (sl eC (.own 2) l))(hn91:∀xs:List C,(∃b o,C.bp b o∈xs)→hp 91 xs [] =some (.top,[]))(hq91:∀ (pre suf:Hp) (l:List ab) (f e z:Nat) (lv:List ab) (S:List bL) (d a b:Nat),OkH pre→OkH suf→OkL l→f≤5000∧e≤5000→S.length≤100000 - 2 ^ d→d≤12→a< b∧b≤l.length∧b - a≤2 ^ d→hp 91 [.val (nI a),.val (nI b),.kp [.val (nI f)],.kp [.val (nI e)],.bp pre.length 0,.kp [sl eC .no l],b8 91 [.kp [.val (nI f)],.kp [.val (nI e)],.bp pre.length 0,.kp [sl eC .no l]] d] (pre++([some [.val (nI f),.val (nI z),sl eC .no lv,sl dC (.own 16) (S)]]++suf)) =some (.tup [],pre++([some [.val (nI f),.val (nI z),sl eC .no lv,sl dC (.own 16) (S++cH l f e d a b)]]++suf)))(l:List ab)(f e:Nat)(hl:OkL l)(hfe:f≤e∧e≤l.length):FC Tryd.prog gl 57 [sl eC .no l,.val (nI f),.val (nI e)] [] (.agg [.val (nI f),.val (nI l.length),sl eC .no ((l.drop f).take (e - f)),sl dC .no (cd l f e)]) []:=by
 replace hcx:=hcx.reN (M:=27)
 refine aP (cx:=dZ gl 27 pu hp) (rs:=[.cell 6 50]) rfl Tryd.func57 rfl rfl rfl (by simp only[List.length_cons,List.length_nil];decide) (by simp only[go_sem]) ?_
 simp only[bQ,go_sem]
 have hy:=True.intro
 have hll:=hl.1
 have e63:=h63 ((l.drop f).take (e - f)) (by rw[List.length_take,List.length_drop];omega)
 refine aa hcx [] _ [none,none,none,none] rfl rfl rfl ?_ iU
 have hy:= @e63
 refine ce hcx fL [] _ [none] rfl rfl rfl rfl ?_ Kq
 have hy:=True.intro
 refine aa hcx [] _ [none] rfl rfl rfl ?_ iU
 refine aa hcx [] _ [] rfl rfl rfl ?_ iU
 refine ae fun K1 hK1=>?_
 refine Tr.k [3,6,7,8] ?_
 refine Tr.bxc 4 3 (sl dC (.own 16) []) _ rfl rfl (aW rfl) rfl ?_
 simp only[List.set_cons_succ,List.set_cons_zero]
 refine nN hcx 0 [sl eC .no l] ?_
 refine nN hcx 1 [.val (nI f)] ?_
 refine nN hcx 2 [.val (nI e)] ?_
 refine zb hcx 5 12 91 [.kp [.val (nI f)],.kp [.val (nI e)],.bp 4 0,.kp [sl eC .no l]] ?_
 refine GX hcx [3,4] ?_
 refine aa hcx [] _ [] rfl rfl rfl ?_ iU
 refine bq rfl (fun hc21=>?_) (fun hc21=>?_)
 ·
  have hR:=EY (l:=l) (f:=f) (e:=e) (by omega)
  have e91:=hq91 [some [.val (nI 0),.val (nI 0),.val (.slice none 0 0),.val (.slice none 0 0)]] [] l f e l.length ((l.drop f).take (e - f)) [] 12 0 l.length (OkH.cons rfl OkH.nil) OkH.nil hl (by omega) (by simp) (by omega) (by omega)
  simp only[List.cons_append,List.nil_append,List.length_cons,List.length_nil,Nat.zero_add] at e91
  have en:∀x y:Nat,hp 91 [.val (nI x),.val (nI y),.kp [.val (nI f)],.kp [.val (nI e)],.bp 1 0,.kp [sl eC .no l],b8 91 [.kp [.val (nI f)],.kp [.val (nI e)],.bp 1 0,.kp [sl eC .no l]] 12] [] =some (.top,[]):=fun x y=>hn91 _ ⟨1,0,by simp⟩
  have ep:∀x y:Nat,pu 91 [.val (nI x),.val (nI y),.kp [.val (nI f)],.kp [.val (nI e)],.bp 1 0,.kp [sl eC .no l],b8 91 [.kp [.val (nI f)],.kp [.val (nI e)],.bp 1 0,.kp [sl eC .no l]] 12] =none:=fun x y=>hnr 91 _ rfl
  have hy:=And.intro @e91 (And.intro @en @ep)
  refine br hcx [] _ [] rfl rfl rfl ?_ iU
  refine hK1 _ ?_
  refine Tr.k [6,7] ?_
  have hy:=True.intro
  refine aa hcx [] _ [] rfl rfl rfl ?_ iU
  exact Tr.ret zo
 have hR:=EX (l:=l) (f:=f) (e:=e) (by omega)
 refine Tr.skip ?_
 refine hK1 _ ?_
 refine aa hcx [] _ [] rfl rfl rfl ?_ iU
 exact Tr.ret zo
theorem eO {p:Prop}(e:p:=by intro KZ hZ;simp -implicitDefEqProofs (disch:=first|omega| (simp only[go_sem,lA,lD,lT] <;>omega) |decide) only[go_sem,↓reduceIte,Nat.reduceEqDiff,reduceCtorEq,Nat.reduceLT,Nat.reduceBEq,Nat.reduceAdd,e15,b1,b2,b3,hy];with_reducible exact hZ):p:=e
theorem oR {p:Prop}(e:p:=by simp -implicitDefEqProofs (disch:=first|omega| (simp only[go_sem,lA,lD,lT] <;>omega) |decide) only[go_sem,↓reduceIte,Nat.reduceEqDiff,reduceCtorEq];all_goals (first| (rw[hR];done) | (rw[hR];rfl) | (rw[hR];simp only[ol,Nat.add_sub_cancel_left];done))):p:=e
theorem Tw {gl:Nat→C}{M:Nat}{pu:Nat→List C→Option C}(hcx:CxOK (ao gl M pu))(h15:∀l:List ab,LB l→pu 15 [sl eC .no l] =some (.val (nI (bR l))))(h56:∀ (l:List ab) (k:List UInt8),Srt l→l.length≤1000000→pu 56 [sl eC .no l,.val (str k)] =some (.val (nI (bm l k))))(h57:∀ (l:List ab) (f e:Nat),OkL l→f≤e∧e≤l.length→pu 57 [sl eC .no l,.val (nI f),.val (nI e)] =some (.agg [.val (nI f),.val (nI l.length),sl eC .no ((l.drop f).take (e - f)),sl dC .no (cd l f e)]))(l:List ab)(k:List UInt8)(hl:LB l):FC Tryd.prog gl 22 [sl eC .no l,.val (str k)] [] (.tup [.agg [.val (nI (dn l k).1.1),.val (nI (dn l k).1.2.1),sl eC .no (dn l k).1.2.2.1,sl dC .no (dn l k).1.2.2.2],.val (nI (dn l k).2)]) []:=by
 replace hcx:=hcx.reN (M:=45)
 refine aP (cx:=ao gl 45 pu) (rs:=[.cell 4 50,.tmp 5]) rfl Tryd.func22 rfl rfl rfl (by simp only[List.length_cons,List.length_nil];decide) (by simp only[go_sem]) ?_
 simp only[bQ,go_sem]
 have b1:=True.intro
 have b2:=True.intro
 have b3:=True.intro
 have hy:=True.intro
 have e15:=h15 l hl
 refine aa hcx [] _ [none] rfl rfl rfl ?_ eO
 refine ae fun K1 hK1=>?_
 refine aa hcx [1000009] _ [] rfl rfl rfl ?_ eO
 by_cases b1:bR l=0
 ·
  have hok:=iL (l:=l) (by omega)
  have hll:=hok.1
  have hsr:=iS b1
  have e56:=h56 l k hsr (by omega)
  have hfl:=iH l k
  obtain ⟨i,hi⟩:∃i,bm l k=i:=⟨_,rfl⟩
  rw[hi] at e56 hfl
  refine aa hcx [] _ [] rfl rfl rfl ?_ eO
  refine bF rfl ?_
  refine Tr.skip ?_
  refine hK1 _ ?_
  have hy:= @e56
  refine aa hcx [1000016] _ [] rfl rfl rfl ?_ eO
  refine ae fun K2 hK2=>?_
  by_cases b2:i< l.length
  ·
   by_cases b3: (gt l i).1=k
   ·
    have hy:=True.intro
    refine aa hcx [] [some 17,some 18,some 19,some 20,some 21,some 22,some 23,some 24,some 25,some 26,some 27,some 28,some 29] [] rfl rfl rfl ?_ eO
    refine bM rfl ?_
    have e57:=h57 l i (i+1) hok (by omega)
    have hR:=E0 hi b1 b2 b3
    have hy:= @e57
    refine aa hcx [] _ [] rfl rfl rfl ?_ eO
    refine Tr.k [4,5] ?_
    exact Tr.ret oR
   have hy:=True.intro
   refine aa hcx [] [some 17,some 18,some 19,some 20,some 21,some 22,some 23,some 24,some 25,some 26,some 27,some 28,some 29] [] rfl rfl rfl ?_ eO
   refine bF rfl ?_
   refine Tr.skip ?_
   refine hK2 _ ?_
   refine Tr.k [0,4,7] ?_
   have e57:=h57 l (i - 1) (min (i+1) l.length) hok (by omega)
   have hR:=sI hi b1 (fun h=>b3 h.2)
   have hy:=And.intro @e57 (And.intro @Ce @gx)
   refine aa hcx [] _ [] rfl rfl rfl ?_ eO
   exact Tr.ret oR
  have hy:=True.intro
  refine aa hcx [] [some 17,some 18,some 19,some 20,some 21,some 22,some 23,some 24,some 25,some 26,some 27,some 28,some 29] [] rfl rfl rfl ?_ eO
  refine bF rfl ?_
  refine Tr.skip ?_
  refine hK2 _ ?_
  refine Tr.k [0,4,7] ?_
  have e57:=h57 l (i - 1) (min (i+1) l.length) hok (by omega)
  have hR:=sI hi b1 (fun h=>b2 h.1)
  have hy:=And.intro @e57 (And.intro @Ce @gx)
  refine aa hcx [] _ [] rfl rfl rfl ?_ eO
  exact Tr.ret oR
 skip
 refine aa hcx [] _ [] rfl rfl rfl ?_ eO
 refine bM rfl ?_
 refine aa hcx [1000013] _ [] rfl rfl rfl ?_ eO
 refine Tr.bxc 0 2 (sl eC .no []) _ rfl rfl (aW rfl) rfl ?_
 refine Tr.bxc 0 3 (sl dC .no []) _ rfl rfl (aW rfl) rfl ?_
 simp only[List.set_cons_succ,List.set_cons_zero]
 have hR:=PI (k:=k) b1
 exact Tr.ret oR
theorem gi {p:Prop}(e:p:=by intro KZ hZ;simp -implicitDefEqProofs (disch:=first|omega| (simp only[go_sem,lA,lD,lT] <;>omega) |decide) only[go_sem,↓reduceIte,Nat.reduceEqDiff,reduceCtorEq,Nat.reduceLT,Nat.reduceBEq,Nat.reduceAdd,e15,b1,b2,hy];with_reducible exact hZ):p:=e
theorem tT {p:Prop}(e:p:=by simp -implicitDefEqProofs (disch:=first|omega| (simp only[go_sem,lA,lD,lT] <;>omega) |decide) only[go_sem,↓reduceIte,Nat.reduceEqDiff,reduceCtorEq];all_goals (first| (rw[hR];done) | (rw[hR];rfl))):p:=e
theorem Tx {gl:Nat→C}{M:Nat}{pu:Nat→List C→Option C}(hcx:CxOK (ao gl M pu))(h15:∀l:List ab,LB l→pu 15 [sl eC .no l] =some (.val (nI (bR l))))(h56:∀ (l:List ab) (k:List UInt8),Srt l→l.length≤1000000→pu 56 [sl eC .no l,.val (str k)] =some (.val (nI (bm l k))))(h57:∀ (l:List ab) (f e:Nat),OkL l→f≤e∧e≤l.length→pu 57 [sl eC .no l,.val (nI f),.val (nI e)] =some (.agg [.val (nI f),.val (nI l.length),sl eC .no ((l.drop f).take (e - f)),sl dC .no (cd l f e)]))(l:List ab)(x y:List UInt8)(hl:LB l):FC Tryd.prog gl 24 [sl eC .no l,.val (str x),.val (str y)] [] (.tup [.agg [.val (nI (dF l x y).1.1),.val (nI (dF l x y).1.2.1),sl eC .no (dF l x y).1.2.2.1,sl dC .no (dF l x y).1.2.2.2],.val (nI (dF l x y).2)]) []:=by
 replace hcx:=hcx.reN (M:=33)
 refine aP (cx:=ao gl 33 pu) (rs:=[.cell 6 50,.tmp 7]) rfl Tryd.func24 rfl rfl rfl (by simp only[List.length_cons,List.length_nil];decide) (by simp only[go_sem]) ?_
 simp only[bQ,go_sem]
 have b1:=True.intro
 have b2:=True.intro
 have hy:=True.intro
 have e15:=h15 l hl
 refine aa hcx [] _ [none] rfl rfl rfl ?_ gi
 refine ae fun K1 hK1=>?_
 refine aa hcx [1000010] _ [] rfl rfl rfl ?_ gi
 by_cases b1:bR l=0
 ·
  have hok:=iL (l:=l) (by omega)
  have hll:=hok.1
  have hsr:=iS b1
  have e56a:=h56 l x hsr (by omega)
  have e56b:=h56 l y hsr (by omega)
  have hfx:=iH l x
  have hfy:=iH l y
  refine aa hcx [] _ [] rfl rfl rfl ?_ gi
  refine bF rfl ?_
  refine Tr.skip ?_
  refine hK1 _ ?_
  refine ae fun K2 hK2=>?_
  by_cases b2:bl y x=true
  ·
   skip
   refine aa hcx [] _ [] rfl rfl rfl ?_ gi
   refine bM rfl ?_
   refine aa hcx [] _ [] rfl rfl rfl ?_ gi
   refine Tr.bxc 0 2 (sl eC .no []) _ rfl rfl (aW rfl) rfl ?_
   refine Tr.bxc 0 3 (sl dC .no []) _ rfl rfl (aW rfl) rfl ?_
   simp only[List.set_cons_succ,List.set_cons_zero]
   have hR:=PK b1 b2
   exact Tr.ret tT
  have b2n:=b2
  have hxy:=rD hsr (Bool.eq_false_iff.2 b2)
  replace b2:=Bool.eq_false_iff.2 b2
  refine aa hcx [] _ [] rfl rfl rfl ?_ gi
  refine bF rfl ?_
  refine Tr.skip ?_
  refine hK2 _ ?_
  refine Tr.k [0,1,2,6] ?_
  have e57:=h57 l (bm l x - 1) (min (bm l y+1) l.length) hok (by omega)
  have hR:=E1 b1 b2n
  have hy:=And.intro @e56a (And.intro @e56b (And.intro @e57 (And.intro @Ce @gx)))
  refine aa hcx [] _ [] rfl rfl rfl ?_ gi
  exact Tr.ret tT
 skip
 refine aa hcx [] _ [] rfl rfl rfl ?_ gi
 refine bM rfl ?_
 refine aa hcx [1000014] _ [] rfl rfl rfl ?_ gi
 refine Tr.bxc 0 2 (sl eC .no []) _ rfl rfl (aW rfl) rfl ?_
 refine Tr.bxc 0 3 (sl dC .no []) _ rfl rfl (aW rfl) rfl ?_
 simp only[List.set_cons_succ,List.set_cons_zero]
 have hR:=PJ (x:=x) (y:=y) b1
 exact Tr.ret tT
end Go.Sx
namespace Go.Sx
open Go.RowKit
section
variable {cx:Cx} {Q:Ex→St→Prop} {e:List (Nat×C)} {h:Hp} {c:Code}
theorem Pt (hcx:CxOK cx)(b:Nat)(cells:List C){e':List (Nat×C)}{h':Hp}(H:Tr cx 2 c ⟨A e',h'⟩ Q)
 (hnb:2≤b:=by decide) (hn:∀j,j< 2→((h.at j).isSome|| (h.mp j).isSome) =true∨h[j]? =some none:=by intro j hj;match j,hj with|0,_=>exact Or.inl rfl|1,_=>exact Or.inl rfl| (k+2),h=>exact absurd h (by omega))
 (hb:h.at b=some cells:=by simp only[go_sem])
 (E:∀K:List (Nat×C)→Hp→Prop,K e' h'→K (gz (bg (cr h b) b (fzY h b cells)) e) (iz (cr h b) b (fzY h b cells) h):=by
   intro KZ hZ
   simp -implicitDefEqProofs only[go_sem,B9,B2,vF,jo,ip,nE,nF,nG,nH,qb,qc,qd,ql,qm,qn,qo,qe,lE,jH,kK,vw,vx,vy,vz,vA,vB,rz,vC,rA,rB,vE,oN,mr,nM,qk,mn,Option.isSome_some,Option.isSome_none,Nat.reduceBNe,Bool.true_and,Bool.and_true,Bool.false_and,Bool.true_or,Bool.false_or,↓reduceIte,Nat.reduceEqDiff,reduceCtorEq,Nat.zero_ne_one,Nat.one_ne_zero]
   with_reducible exact hZ):Tr cx 2 c ⟨A e,h⟩ Q:=
 B0 hcx b cells hb hnb hn (E (fun x y=>Tr cx 2 c ⟨A x,y⟩ Q) H)
theorem Pu (hcx:CxOK cx)(ρ:List Nat){e':List (Nat×C)}{h':Hp}(H:Tr cx 2 c ⟨A e',h'⟩ Q)
 (hρ:oH 2 ρ:=by exact ⟨by decide,by decide,by decide⟩)
 (E:∀K:List (Nat×C)→Hp→Prop,K e' h'→K (gz (bn ρ) e) (gf ρ h):=by
   intro KZ hZ
   simp -implicitDefEqProofs only[jo,ip,vu,p9,lB,jG,p7,p8,Option.map_some,Option.map_none,kJ,p6,ly,jF,nB,kI,mm,pX,pY,pZ,nD,p4,jz,jA,jB,jC,jD,jE,nA,lx,↓reduceIte,Nat.reduceEqDiff,reduceCtorEq,Nat.reduceAdd,Nat.zero_add,Nat.one_ne_zero,Nat.zero_ne_one,p5,qf,jI,jJ,qg,jK,jL]
   with_reducible exact hZ):Tr cx 2 c ⟨A e,h⟩ Q:=
 B1 hcx ρ hρ (E (fun x y=>Tr cx 2 c ⟨A x,y⟩ Q) H)
end
end Go.Sx
namespace Go.Sx
open Go.RowKit Go.Proofs
set_option maxRecDepth 100000
set_option maxHeartbeats 8000000
abbrev US:=Bool×List bL
def gF (S:List bL):List UInt8×US:=if S.length=0 then (List.replicate 16 0,(false,S)) else ((gt S 0).1,(true,S.drop 1))
def cm (l:List ab)(f:Nat):Nat→Nat→Nat→US→List UInt8×US
 |0,a,b,st=>if st.1=false then (List.replicate 16 0,st) else if b≤f∨f+l.length≤a then gF st.2 else (d5 (gt l (a - f)),st)
 |d+1,a,b,st=>if st.1=false then (List.replicate 16 0,st) else if b≤f∨f+l.length≤a then gF st.2 else if b - a≤1 then (d5 (gt l (a - f)),st)
   else (fJ (cm l f d a (a+aD (b - a)) st).1 (cm l f d (a+aD (b - a)) b (cm l f d a (a+aD (b - a)) st).2).1,(cm l f d (a+aD (b - a)) b (cm l f d a (a+aD (b - a)) st).2).2)
section
variable {l:List ab} {f d a b:Nat} {st:US} {S:List bL}
theorem Kr (h:st.1=false):cm l f d a b st= (List.replicate 16 0,st):=by cases d<;>simp only[cm,if_pos h]
theorem qz (h:b≤f∨f+l.length≤a):cm l f d a b (true,S) =gF S:=by cases d<;>simp[cm,if_pos h]
theorem Ks (h:¬ (b≤f∨f+l.length≤a))(h2:b - a≤1):cm l f d a b (true,S) = (d5 (gt l (a - f)),(true,S)):=by
 cases d with
 |zero=>unfold cm;rw[if_neg (by simp),if_neg h]
 |succ d=>unfold cm;rw[if_neg (by simp),if_neg h,if_pos h2]
theorem Kt (h:¬ (b≤f∨f+l.length≤a))(h2:¬b - a≤1):cm l f (d+1) a b (true,S) = (fJ (cm l f d a (a+aD (b - a)) (true,S)).1 (cm l f d (a+aD (b - a)) b (cm l f d a (a+aD (b - a)) (true,S)).2).1,(cm l f d (a+aD (b - a)) b (cm l f d a (a+aD (b - a)) (true,S)).2).2):=by
 rw[cm,if_neg (by simp),if_neg h,if_neg h2]
theorem tU (h:S.length=0):gF S= (List.replicate 16 0,(false,S)):=if_pos h
theorem tV (h:¬S.length=0):gF S= ((gt S 0).1,(true,S.drop 1)):=if_neg h
theorem tW: (gF S).1.length=16:=by unfold gF;split;rfl;exact (gt S 0).2
end
theorem qA (l:List ab)(f:Nat):∀d a b st,(cm l f d a b st).1.length=16
 |0,a,b,st=>by unfold cm;split;rfl;split;exact tW;exact cf _
 |d+1,a,b,st=>by
  unfold cm;split
  . rfl
  . split
    . exact tW
    . split
      . exact cf _
      . exact cp _ _
theorem tX (l:List ab)(f:Nat):∀d a b st,(cm l f d a b st).2.2.length≤st.2.length
 |0,a,b,st=>by
  unfold cm;split
  . exact Nat.le_refl _
  . split
    . unfold gF;split<;>simp
    . exact Nat.le_refl _
 |d+1,a,b,st=>by
  unfold cm;split
  . exact Nat.le_refl _
  . split
    . unfold gF;split<;>simp
    . split
      . exact Nat.le_refl _
      . exact Nat.le_trans (tX l f d _ b _) (tX l f d a _ st)
theorem tY (x:Bool)(S:List bL):jM 2 [some [.val (.bool x)],some [sl dC .no S]] =true:=by simp only[lG,nL,go_sem,Bool.and_self]
theorem zp (l:List ab)(f z:Nat)(e:Nat)(S0:List bL)(q q' d:Nat):b8 93 [.bp q 0,.kp [.val (nI f),.val (nI z),sl eC .no l,sl dC .no S0],.kp [.val (nI e)],.bp q' 0] (d+1) = .kp [.fn 93 [.bp q 0,.kp [.val (nI f),.val (nI z),sl eC .no l,sl dC .no S0],.kp [.val (nI e)],.bp q' 0,b8 93 [.bp q 0,.kp [.val (nI f),.val (nI z),sl eC .no l,sl dC .no S0],.kp [.val (nI e)],.bp q' 0] d]]:=rfl
theorem zq {S:List bL}(h:0< S.length):ig (cl dC S) 0 16=some (.agg (cl bC (gt S 0).1)):=by
 have q:=sn (f:=dC) S 0 h
 rw[Nat.zero_mul,List.drop_zero] at q;exact q
theorem SN {S:List bL}:List.take (S.length - 1) (List.drop 1 S) =List.drop 1 S:=List.take_of_length_le (by rw[List.length_drop];exact Nat.le_refl _)
theorem cb {p:Prop}(e:p:=by intro KZ hZ;simp -implicitDefEqProofs (disch:=first|omega| (simp only[go_sem,lA,lD,lT,cf,cp,hgl] <;>omega) |decide) only[go_sem,↓reduceIte,Nat.reduceEqDiff,reduceCtorEq,Nat.reduceLT,Nat.reduceBEq,Nat.reduceAdd,b0,b1,b2,b3,hy];with_reducible exact hZ):p:=e
theorem iI {p:Prop}(e:p:=by simp -implicitDefEqProofs (disch:=first|omega| (simp only[go_sem,lA,lD,lT,cf,cp,hgl] <;>omega) |decide) only[go_sem,↓reduceIte,Nat.reduceEqDiff,reduceCtorEq];all_goals (first| (simp only[hR];done) | (rw[hR];exact ⟨rfl,rfl⟩) | (rw[hR]))):p:=e
theorem E2 {gl:Nat→C}{M0:Nat}{pu:Nat→List C→Option C}{hp:Nat→List C→Hp→Option (C×Hp)}(hcx:CxOK (dZ gl M0 pu hp))(l:List ab)(f z:Nat)(S0:List bL)(st:US)(d a b:Nat)(hl:OkL l)(hf:f≤5000)(hS:st.2.length≤1000000)(hab:a< b∧b≤5000∧b - a≤2 ^ d)(hz:st.1=false∨b≤f∨f+l.length≤a∨b - a≤1)(hnr:∀ (g:Nat) (xs:List C),noRefs 0 xs=false→pu g xs=none)(h80:∀x:ab,x.1.length≤65536∧x.2.length≤65536→pu 80 [.agg (eC x)] =some (.agg (cl bC (d5 x)))):FC Tryd.prog gl 93 [.val (nI a),.val (nI b),.bp 0 0,.kp [.val (nI f),.val (nI z),sl eC .no l,sl dC .no S0],.kp [.val (nI (f+l.length))],.bp 1 0,b8 93 [.bp 0 0,.kp [.val (nI f),.val (nI z),sl eC .no l,sl dC .no S0],.kp [.val (nI (f+l.length))],.bp 1 0] d] [some [.val (.bool st.1)],some [sl dC .no st.2]] (.agg (cl bC (cm l f d a b st).1)) [some [.val (.bool (cm l f d a b st).2.1)],some [sl dC .no (cm l f d a b st).2.2]]:=by
 replace hcx:=hcx.reN (M:=66)
 refine iq (cx:=dZ gl 66 pu hp) (rs:=[.cell 9 29]) rfl Tryd.func93 rfl rfl rfl (by simp only[List.length_cons,List.length_nil];decide) (by simp only[go_sem]) (tY _ _) ?_
 simp only[bQ,go_sem]
 have b0:=True.intro
 have b1:=True.intro
 have b2:=True.intro
 have b3:=True.intro
 have hy:=True.intro
 have hgl:=fun (S:List bL) k=>(gt S k).2
 have hll:=hl.1
 obtain ⟨en,S⟩:=st
 simp only[] at*
 refine aa hcx [] _ [none] rfl rfl rfl ?_ cb
 refine ae fun K1 hK1=>?_
 refine Tr.blk ?_
 by_cases b0:en=true
 ·
  subst b0
  refine aa hcx [1000015] _ [] rfl rfl rfl ?_ cb
  refine bF rfl ?_
  by_cases b1:b≤f
  ·
   refine aa hcx [1000026] [some 18,some 19,some 20,some 21,some 22,some 23,some 24,some 25,some 26,some 17] [] rfl rfl rfl ?_ cb
   refine Tr.k [0,1,2,3,5,6,9,17] ?_
   refine bM rfl ?_
   refine ae fun K2 hK2=>?_
   by_cases b3:S.length=0
   ·
    skip
    have hR:=(qz (l:=l) (f:=f) (d:=d) (a:=a) (b:=b) (S:=S) (Or.inl b1)).trans (tU b3)
    have h29: (0< S.length) =False:=by simp only[eq_iff_iff,iff_false];omega
    have hy:= @h29
    refine aa hcx [] _ [] rfl rfl rfl ?_ cb
    have hy:=True.intro
    refine aa hcx [] _ [] rfl rfl rfl ?_ cb
    refine bM rfl ?_
    refine aa hcx [] _ [] rfl rfl rfl ?_ cb
    exact Tr.ret iI
   skip
   have hR:=(qz (l:=l) (f:=f) (d:=d) (a:=a) (b:=b) (S:=S) (Or.inl b1)).trans (tV b3)
   have h29: (0< S.length) =True:=by simp only[eq_iff_iff,iff_true];omega
   have hy:= @h29
   refine aa hcx [] _ [] rfl rfl rfl ?_ cb
   have hy:=True.intro
   refine aa hcx [] _ [] rfl rfl rfl ?_ cb
   refine bF rfl ?_
   refine Tr.skip ?_
   refine hK2 _ ?_
   have hr0:=zq (S:=S) (by omega)
   have hy:= @hr0
   refine aa hcx [] _ [none] rfl rfl rfl ?_ cb
   have hy:= @SN
   refine aa hcx [] _ [] rfl rfl rfl ?_ cb
   have hy:=True.intro
   refine aa hcx [] _ [] rfl rfl rfl ?_ cb
   exact Tr.ret iI
  by_cases b2:f+l.length≤a
  ·
   refine aa hcx [1000026] [some 18,some 19,some 20,some 21,some 22,some 23,some 24,some 25,some 26,some 17] [] rfl rfl rfl ?_ cb
   refine Tr.k [0,1,2,3,5,6,9,17] ?_
   refine bM rfl ?_
   refine ae fun K3 hK3=>?_
   by_cases b3:S.length=0
   ·
    skip
    have hR:=(qz (l:=l) (f:=f) (d:=d) (a:=a) (b:=b) (S:=S) (Or.inr b2)).trans (tU b3)
    have h29: (0< S.length) =False:=by simp only[eq_iff_iff,iff_false];omega
    have hy:= @h29
    refine aa hcx [] _ [] rfl rfl rfl ?_ cb
    have hy:=True.intro
    refine aa hcx [] _ [] rfl rfl rfl ?_ cb
    refine bM rfl ?_
    refine aa hcx [] _ [] rfl rfl rfl ?_ cb
    exact Tr.ret iI
   skip
   have hR:=(qz (l:=l) (f:=f) (d:=d) (a:=a) (b:=b) (S:=S) (Or.inr b2)).trans (tV b3)
   have h29: (0< S.length) =True:=by simp only[eq_iff_iff,iff_true];omega
   have hy:= @h29
   refine aa hcx [] _ [] rfl rfl rfl ?_ cb
   have hy:=True.intro
   refine aa hcx [] _ [] rfl rfl rfl ?_ cb
   refine bF rfl ?_
   refine Tr.skip ?_
   refine hK3 _ ?_
   have hr0:=zq (S:=S) (by omega)
   have hy:= @hr0
   refine aa hcx [] _ [none] rfl rfl rfl ?_ cb
   have hy:= @SN
   refine aa hcx [] _ [] rfl rfl rfl ?_ cb
   have hy:=True.intro
   refine aa hcx [] _ [] rfl rfl rfl ?_ cb
   exact Tr.ret iI
  refine aa hcx [1000026] [some 18,some 19,some 20,some 21,some 22,some 23,some 24,some 25,some 26,some 17] [] rfl rfl rfl ?_ cb
  refine Tr.k [0,1,2,3,5,6,9,17] ?_
  refine bF rfl ?_
  have hz9:=hz.resolve_left (by simp)
  have h43:b - a=1:=by omega
  have hR:=Ks (l:=l) (f:=f) (d:=d) (a:=a) (b:=b) (S:=S) (fun h=>h.elim b1 b2) (by omega)
  have e80:=h80 (gt l (a - f)) (hl.2 (a - f) (by omega))
  have hy:= @h43
  refine aa hcx [1000043] _ [] rfl rfl rfl ?_ cb
  refine bM rfl ?_
  have hy:= @e80
  refine aa hcx [] _ [] rfl rfl rfl ?_ cb
  exact Tr.ret iI
 replace b0:=Bool.eq_false_iff.2 b0
 subst b0
 have hR:=Kr (l:=l) (f:=f) (d:=d) (a:=a) (b:=b) (st:=(false,S)) rfl
 refine aa hcx [1000015] _ [] rfl rfl rfl ?_ cb
 refine bM rfl ?_
 refine aa hcx [] _ [] rfl rfl rfl ?_ cb
 exact Tr.ret iI
theorem iJ {p:Prop}(e:p:=by intro KZ hZ;simp -implicitDefEqProofs (disch:=first|omega| (simp only[go_sem,lA,lD,lT,cf,cp,hgl,hx1,hx2] <;>omega) |decide) only[go_sem,↓reduceIte,Nat.reduceEqDiff,reduceCtorEq,Nat.reduceLT,Nat.reduceBEq,Nat.reduceAdd,hy];with_reducible exact hZ):p:=e
theorem Hd {p:Prop}(e:p:=by intro KZ hZ;simp -implicitDefEqProofs (disch:=first|omega| (simp only[go_sem,lA,lD,lT,cf,cp,hgl,hx1,hx2] <;>omega) |decide) only[go_sem,↓reduceIte,Nat.reduceEqDiff,reduceCtorEq,Nat.reduceLT,Nat.reduceBEq,Nat.reduceAdd,hy];with_reducible refine And.intro ?_ hZ;first|exact rfl|decide):p:=e
theorem He {p:Prop}(e:p:=by simp -implicitDefEqProofs (disch:=first|omega| (simp only[go_sem,lA,lD,lT,cf,cp,hgl,hx1,hx2] <;>omega) |decide) only[go_sem,↓reduceIte,Nat.reduceEqDiff,reduceCtorEq];all_goals (first| (simp only[hR];done) | (rw[hR];exact ⟨rfl,rfl⟩) | (rw[hR]))):p:=e
theorem PL {gl:Nat→C}{M0:Nat}{pu:Nat→List C→Option C}{hp:Nat→List C→Hp→Option (C×Hp)}(hcx:CxOK (dZ gl M0 pu hp))(l:List ab)(f z:Nat)(S0:List bL)(st:US)(d a b:Nat)(hl:OkL l)(hf:f≤5000)(hS:st.2.length≤1000000)(hab:a< b∧b≤5000∧b - a≤2 ^ (d+1))(hq93:∀ (suf:Hp) (st:US) (a b:Nat),OkH suf→st.2.length≤1000000→a< b∧b≤5000∧b - a≤2 ^ d→hp 93 [.val (nI a),.val (nI b),.bp 0 0,.kp [.val (nI f),.val (nI z),sl eC .no l,sl dC .no S0],.kp [.val (nI (f+l.length))],.bp 1 0,b8 93 [.bp 0 0,.kp [.val (nI f),.val (nI z),sl eC .no l,sl dC .no S0],.kp [.val (nI (f+l.length))],.bp 1 0] d] ([some [.val (.bool st.1)],some [sl dC .no st.2]]++suf) =some (.agg (cl bC (cm l f d a b st).1),[some [.val (.bool (cm l f d a b st).2.1)],some [sl dC .no (cm l f d a b st).2.2]]++suf))(hz0:st.1=true)(hz1:¬b≤f)(hz2:¬f+l.length≤a)(hz3:¬b - a≤1)(hnr:∀ (g:Nat) (xs:List C),noRefs 0 xs=false→pu g xs=none)(h81:∀x y:Nat,x≤y∧y≤4611686018427387000→pu 81 [.val (nI x),.val (nI y)] =some (.val (nI (x+aD (y - x)))))(h82:∀a b:List UInt8,a.length=16→b.length=16→pu 82 [.agg (cl bC a),.agg (cl bC b)] =some (.agg (cl bC (fJ a b)))):FC Tryd.prog gl 93 [.val (nI a),.val (nI b),.bp 0 0,.kp [.val (nI f),.val (nI z),sl eC .no l,sl dC .no S0],.kp [.val (nI (f+l.length))],.bp 1 0,b8 93 [.bp 0 0,.kp [.val (nI f),.val (nI z),sl eC .no l,sl dC .no S0],.kp [.val (nI (f+l.length))],.bp 1 0] (d+1)] [some [.val (.bool st.1)],some [sl dC .no st.2]] (.agg (cl bC (cm l f (d+1) a b st).1)) [some [.val (.bool (cm l f (d+1) a b st).2.1)],some [sl dC .no (cm l f (d+1) a b st).2.2]]:=by
 replace hcx:=hcx.reN (M:=66)
 refine iq (cx:=dZ gl 66 pu hp) (rs:=[.cell 9 29]) rfl Tryd.func93 rfl rfl rfl (by simp only[List.length_cons,List.length_nil];decide) (by simp only[go_sem]) (tY _ _) ?_
 simp only[bQ,go_sem]
 have hy:=True.intro
 have hgl:=fun (S:List bL) k=>(gt S k).2
 have hll:=hl.1
 obtain ⟨en,S⟩:=st
 simp only[] at*
 subst hz0
 have b1:=hz1
 have b2:=hz2
 have h43: (b - a=1) =False:=eq_false (by omega)
 have hx1:=True.intro
 have hx2:=True.intro
 refine aa hcx [] _ [none] rfl rfl rfl ?_ iJ
 refine ae fun K1 hK1=>?_
 refine Tr.blk ?_
 refine aa hcx [1000015] _ [] rfl rfl rfl ?_ iJ
 refine bF rfl ?_
 have hy:=And.intro @b1 @b2
 refine aa hcx [1000026] [some 18,some 19,some 20,some 21,some 22,some 23,some 24,some 25,some 26,some 17] [] rfl rfl rfl ?_ iJ
 refine Tr.k [0,1,2,3,5,6,9,17] ?_
 refine bF rfl ?_
 have hy:= @h43
 refine aa hcx [1000043] _ [] rfl rfl rfl ?_ iJ
 refine bF rfl ?_
 refine Tr.skip ?_
 refine hK1 _ ?_
 have e81:=h81 a b (by omega)
 have hh:=fw (n:=b - a) (by omega)
 have hh2:=eW (by omega) hab.2.2
 have e1:=hq93 [some (cl bC (List.replicate 16 0)),none] (true,S) a (a+aD (b - a)) (OkH.cons (fl _) (OkH.cons rfl OkH.nil)) hS (by omega)
 have hR:=Kt (l:=l) (f:=f) (d:=d) (a:=a) (b:=b) (S:=S) (fun h=>h.elim b1 b2) hz3
 have hB:=tX l f d a (a+aD (b - a)) (true,S)
 obtain ⟨X,hX⟩:∃X,X=cm l f d a (a+aD (b - a)) (true,S):=⟨_,rfl⟩
 have hXl:X.1.length=16:=by rw[hX];exact qA _ _ _ _ _ _
 rw[←hX] at e1 hR hB
 have hx1:=hXl
 have e2:=hq93 [some (cl bC (List.replicate 16 0))] X.2 (a+aD (b - a)) b (OkH.cons (fl _) OkH.nil) (by simp only[] at hB;omega) (by omega)
 obtain ⟨Y,hY⟩:∃Y,Y=cm l f d (a+aD (b - a)) b X.2:=⟨_,rfl⟩
 have hYl:Y.1.length=16:=by rw[hY];exact qA _ _ _ _ _ _
 rw[←hY] at e2 hR
 have hx2:=hYl
 have e82:=h82 X.1 Y.1 hXl hYl
 simp only[List.cons_append,List.nil_append] at e1 e2
 have ep:∀x y:Nat,pu 93 [.val (nI x),.val (nI y),.bp 0 0,.kp [.val (nI f),.val (nI z),sl eC .no l,sl dC .no S0],.kp [.val (nI (f+l.length))],.bp 1 0,b8 93 [.bp 0 0,.kp [.val (nI f),.val (nI z),sl eC .no l,sl dC .no S0],.kp [.val (nI (f+l.length))],.bp 1 0] d] =none:=fun x y=>hnr 93 _ rfl
 have hy:= @e81
 refine aa hcx [1000055] _ [] rfl rfl rfl ?_ iJ
 have hy:=And.intro @zp (And.intro @e1 @ep)
 refine aa hcx [] _ [none] rfl rfl rfl ?_ iJ
 refine Tr.k [1,6,9,11,12] ?_
 refine Tr.k [1,6,9,11,12] ?_
 refine Pt hcx 3 (cl bC X.1) ?_
 refine Pu hcx [0,1,2] ?_
 have hy:=And.intro @zp (And.intro @e2 (And.intro @ep @e82))
 refine ce hcx fL [] _ [] rfl rfl rfl rfl ?_ Hd
 exact Tr.ret He
end Go.Sx
namespace Go.Sx
open Go.RowKit Go.Proofs
theorem Ku {P:Program}{t:TypeId}(x:Int)(y:Nat):aq P .add t (.val (.int .i64 x)) (.val (nI y)) =some (vp (.val (.int .i64 (IntKind.i64.wrap (x+((y:Nat):Int)))))):=by
 simp only[nI,bI,bW,ne_eq,not_true_eq_false,if_false,Option.map_some]
def fa (f z:Int)(l:List ab):Prop:=z< 0∨4096< z∨f< 0∨z< f∨z - f< (l.length:Int)∨¬bR l=0
instance (f z:Int) (l:List ab):Decidable (fa f z l):=by unfold fa;infer_instance
def dq (r:List UInt8)(f z:Int)(l:List ab)(S:List bL):Bool:=
 if fa f z l∨(0< z∧l.length=0) then false
 else !(dv l f.toNat S z.toNat ([],0,false)).2.2.2 && decide ((dv l f.toNat S z.toNat ([],0,false)).2.2.1=S.length) && decide ((dv l f.toNat S z.toNat ([],0,false)).1=r)
theorem PM (l:List ab)(f:Nat):∀d a b (st:US),st.1=false→(cm l f d a b st).2.1=false:=fun d a b st h=>by rw[Kr h];exact h
theorem qB (l:List ab)(f:Nat)(S:List bL):∀d a b (st:TS),st.2.2=true→(aS l f S d a b st).2.2.2=true
 |0,a,b,st,h=>by
  unfold aS;split
  . unfold fj;split
    . rfl
    . exact h
  . exact h
 |d+1,a,b,st,h=>by
  unfold aS;split
  . unfold fj;split
    . rfl
    . exact h
  . split
    . exact h
    . exact qB l f S d _ b _ (qB l f S d a _ st h)
theorem zr {S:List bL}{T:List (List UInt8)}{u:Nat}(hu:u≤S.length):
 ((fj S (T,u,false)).2.2.2=false→gF (S.drop u) = ((fj S (T,u,false)).1,(true,S.drop (fj S (T,u,false)).2.2.1)))∧((fj S (T,u,false)).2.2.2=true→(gF (S.drop u)).2.1=false):=by
 by_cases h:S.length≤u
 . have e:fj S (T,u,false) = (List.replicate 16 0,(T,u,true)):=if_pos h
   have e2:gF (S.drop u) = (List.replicate 16 0,(false,S.drop u)):=tU (by rw[List.length_drop];omega)
   rw[e,e2];exact ⟨fun q=>by simp at q,fun _=>rfl⟩
 . have e:fj S (T,u,false) = ((gt S u).1,(T,u+1,false)):=if_neg h
   have e2:gF (S.drop u) = ((gt (S.drop u) 0).1,(true,(S.drop u).drop 1)):=tV (by rw[List.length_drop];omega)
   have e3:gt (S.drop u) 0=gt S u:=by simp[gt,List.getD]
   rw[e,e2,e3,List.drop_drop];exact ⟨fun _=>rfl,fun q=>by simp at q⟩
theorem tZ (l:List ab)(f:Nat)(S:List bL):∀d a b T u,u≤S.length→
 ((aS l f S d a b (T,u,false)).2.2.2=false→cm l f d a b (true,S.drop u) = ((aS l f S d a b (T,u,false)).1,(true,S.drop (aS l f S d a b (T,u,false)).2.2.1)))∧
 ((aS l f S d a b (T,u,false)).2.2.2=true→(cm l f d a b (true,S.drop u)).2.1=false)
 |0,a,b,T,u,hu=>by
  by_cases h:b≤f∨f+l.length≤a
  . rw[eR h,qz h];exact zr hu
  . have e1:aS l f S 0 a b (T,u,false) =jR (gt l (a - f)) (T,u,false):=by simp only[aS,if_neg h]
    have e2:cm l f 0 a b (true,S.drop u) = (d5 (gt l (a - f)),(true,S.drop u)):=by unfold cm;rw[if_neg (by simp),if_neg h]
    rw[e1,e2];exact ⟨fun _=>rfl,fun q=>by simp[jR] at q⟩
 |d+1,a,b,T,u,hu=>by
  by_cases h:b≤f∨f+l.length≤a
  . rw[eR h,qz h];exact zr hu
  . by_cases h2:b - a≤1
    . rw[eS h h2,Ks h h2];exact ⟨fun _=>rfl,fun q=>by simp[jR] at q⟩
    . rw[ke h h2,Kt h h2]
      have g1:=tZ l f S d a (a+aD (b - a)) T u hu
      have hb:=gI l f S d a (a+aD (b - a)) (T,u,false)
      generalize aS l f S d a (a+aD (b - a)) (T,u,false) =X at*
      obtain ⟨x,T1,u1,s1⟩:=X
      simp only at g1 hb
      cases s1 with
      |true=>
       have hs:=qB l f S d (a+aD (b - a)) b (T1,u1,true) rfl
       have q:=g1.2 rfl
       refine ⟨fun e=>?_,fun _=>?_⟩
       . simp only[kS] at e;rw[hs] at e;cases e
       . exact PM l f d _ b _ q
      |false=>
       rw[g1.1 rfl]
       have g2:=tZ l f S d (a+aD (b - a)) b T1 u1 (by omega)
       refine ⟨fun e=>?_,fun e=>?_⟩
       . simp only[kS] at e ⊢
         rw[g2.1 e]
       . simp only[kS] at e
         exact g2.2 e
theorem jq {r:List UInt8}{f z:Int}{l:List ab}{S:List bL}(h:fa f z l∨(0< z∧l.length=0)):dq r f z l S=false:=if_pos h
theorem E3 {r:List UInt8}{f z:Int}{l:List ab}{S:List bL}(h:¬fa f z l)(hz:z=0):dq r f z l S= (decide (S.length=0) && decide (d6 0 (List.replicate 16 0) =r)):=by
 subst hz
 unfold dq
 rw[if_neg (fun q=>q.elim h (fun q=>absurd q.1 (by omega)))]
 rw[uo (by rfl)]
 have e: (0=S.length) = (S.length=0):=propext ⟨fun h=>h.symm,fun h=>h.symm⟩
 simp only[e,Bool.not_false,Bool.true_and]
 rfl
theorem PN {r:List UInt8}{f z:Nat}{l:List ab}{S:List bL}(h:¬fa f z l)(hz:¬z=0)(hl:¬l.length=0):
 dq r f z l S= ((cm l f 12 0 z (true,S)).2.1 && decide ((cm l f 12 0 z (true,S)).2.2.length=0) && decide (d6 z (cm l f 12 0 z (true,S)).1=r)):=by
 unfold dq
 rw[if_neg (fun q=>q.elim h (fun q=>hl q.2))]
 rw[show ((f:Nat):Int).toNat=f from rfl,show ((z:Nat):Int).toNat=z from rfl,pn hz]
 have g:=tZ l f S 12 0 z [] 0 (Nat.zero_le _)
 have hb:=gI l f S 12 0 z ([],0,false)
 rw[List.drop_zero] at g
 generalize aS l f S 12 0 z ([],0,false) =X at*
 obtain ⟨x,T1,u1,s1⟩:=X
 simp only at g hb ⊢
 cases s1 with
 |true=>rw[g.2 rfl];rfl
 |false=>
  rw[g.1 rfl]
  have e: ((S.drop u1).length=0) = (u1=S.length):=by rw[List.length_drop];apply propext;omega
  have e2:ofT 4 [co ((z:Nat):Int),x] =d6 z x:=by unfold d6;rw[if_neg hz]
  simp only[e,e2,Bool.not_false,Bool.true_and]
def dN (r k:List UInt8)(f z:Int)(l:List ab)(S:List bL):List UInt8×Bool×Nat:=
 if dq r f z l S=true then (if bm l k< l.length∧(gt l (bm l k)).1=k then ((gt l (bm l k)).2,true,0)
  else if (0< bm l k∨f=0)∧(bm l k< l.length∨f+l.length=z) then ([],false,0) else ([],false,17)) else ([],false,17)
def fK (r x y:List UInt8)(f z:Int)(l:List ab)(S:List bL):List ab×Nat:=
 if bl y x=true then ([],5) else if dq r f z l S=true then (if (0< f∧bm l x=0)∨(f+l.length< z∧bm l y=l.length) then ([],17) else ((l.drop (bm l x)).take (bm l y - bm l x),0)) else ([],17)
theorem vX {r:List UInt8}{f z:Int}{l:List ab}{S:List bL}(h:dq r f z l S=true):bR l=0∧0≤f∧f≤z∧z≤4096∧f+l.length≤z:=by
 have hb:¬fa f z l:=fun q=>by rw[jq (Or.inl q)] at h;cases h
 unfold fa at hb
 refine ⟨?_,by omega,by omega,by omega,by omega⟩
 by_cases e:bR l=0
 . exact e
 . exact absurd (Or.inr (Or.inr (Or.inr (Or.inr (Or.inr e))))) hb
end Go.Sx
namespace Go.Sx
open Go.RowKit Go.Proofs
set_option maxRecDepth 100000
set_option maxHeartbeats 8000000
theorem cJ {p:Prop}(e:p:=by intro KZ hZ;simp -implicitDefEqProofs (disch:=first|omega| (simp only[go_sem,lA,lD,lT,hr,hx1,eE] <;>omega) |decide) only[go_sem,↓reduceIte,Nat.reduceEqDiff,reduceCtorEq,Nat.reduceLT,Nat.reduceBEq,Nat.reduceAdd,iK,e15,b1,b2,b3,b4,b5,b6,c1,c2,c3,hy];with_reducible exact hZ):p:=e
theorem lQ {p:Prop}(e:p:=by intro KZ hZ;simp -implicitDefEqProofs (disch:=first|omega| (simp only[go_sem,lA,lD,lT,hr,hx1,eE] <;>omega) |decide) only[go_sem,↓reduceIte,Nat.reduceEqDiff,reduceCtorEq,Nat.reduceLT,Nat.reduceBEq,Nat.reduceAdd,iK,e15,b1,b2,b3,b4,b5,b6,c1,c2,c3,hy];with_reducible refine And.intro ?_ hZ;first|exact rfl|decide):p:=e
theorem eP {p:Prop}(e:p:=by simp -implicitDefEqProofs (disch:=first|omega| (simp only[go_sem,lA,lD,lT,hr,hx1,eE] <;>omega) |decide) only[go_sem,↓reduceIte,Nat.reduceEqDiff,reduceCtorEq];all_goals (first| (rw[hR];done) | (rw[hR];simp[c1];done) | (rw[hR];simp[c2,c3];done) | (rw[hR];simp[c2];done))):p:=e
theorem Ty {gl:Nat→C}{M0:Nat}{pu:Nat→List C→Option C}{hp:Nat→List C→Hp→Option (C×Hp)}(hcx:CxOK (dZ gl M0 pu hp))(r:List UInt8)(f z:Int)(l:List ab)(S:List bL)(hr:r.length=16)(hf: -9223372036854775808≤f∧f≤9223372036854775807)(hz: -9223372036854775808≤z∧z≤9223372036854775807)(hl:LB l)(hS:S.length≤1000000)(hnr:∀ (g:Nat) (xs:List C),noRefs 0 xs=false→pu g xs=none)(h15:∀l:List ab,LB l→pu 15 [sl eC .no l] =some (.val (nI (bR l))))(h50:∀ (n:Nat) (d:List UInt8),n≤4096→d.length=16→pu 50 [.val (nI n),.agg (cl bC d)] =some (.agg (cl bC (d6 n d))))(hq93:∀ (suf:Hp) (l:List ab) (f z:Nat) (S0:List bL) (st:US) (d a b:Nat),OkH suf→OkL l→f≤5000→st.2.length≤1000000→a< b∧b≤5000∧b - a≤2 ^ d→hp 93 [.val (nI a),.val (nI b),.bp 0 0,.kp [.val (nI f),.val (nI z),sl eC .no l,sl dC .no S0],.kp [.val (nI (f+l.length))],.bp 1 0,b8 93 [.bp 0 0,.kp [.val (nI f),.val (nI z),sl eC .no l,sl dC .no S0],.kp [.val (nI (f+l.length))],.bp 1 0] d] ([some [.val (.bool st.1)],some [sl dC .no st.2]]++suf) =some (.agg (cl bC (cm l f d a b st).1),[some [.val (.bool (cm l f d a b st).2.1)],some [sl dC .no (cm l f d a b st).2.2]]++suf)):FC Tryd.prog gl 61 [.agg [.val (.int .i64 f),.val (.int .i64 z),sl eC .no l,sl dC .no S],.agg (cl bC r)] [] (.val (.bool (dq r f z l S))) []:=by
 replace hcx:=hcx.reN (M:=86)
 refine aP (cx:=dZ gl 86 pu hp) (rs:=[.tmp 4]) rfl Tryd.func61 rfl rfl rfl (by simp only[List.length_cons,List.length_nil];decide) (by simp only[go_sem]) ?_
 simp only[bQ,go_sem]
 have b1:=True.intro
 have b2:=True.intro
 have b3:=True.intro
 have b4:=True.intro
 have b5:=True.intro
 have b6:=True.intro
 have c1:=True.intro
 have c2:=True.intro
 have c3:=True.intro
 have hy:=True.intro
 have e15:=h15 l hl
 have hl1:=hl.1
 have hx1:=True.intro
 obtain ⟨W,hW⟩:∃W,IntKind.i64.wrap (f+((l.length:Nat):Int)) =W:=⟨_,rfl⟩
 refine aa hcx [] _ [none,none] rfl rfl rfl ?_ cJ
 have hy:=And.intro @Ku @hW
 refine aa hcx [] _ [none] rfl rfl rfl ?_ cJ
 refine Tr.k [2,3,5] ?_
 refine ae fun K1 hK1=>?_
 by_cases b1:z< ((0:Nat):Int)
 ·
  have hB:fa f z l:=Or.inl (by omega)
  have hy:=True.intro
  refine aa hcx [] [some 16,some 17,some 18,some 19,some 20,some 21,some 22,some 23,some 24,some 25,some 26,some 27,some 28,some 29,some 30,some 31,some 32,some 33,some 34,some 35,some 36,some 37,some 38,some 39,some 40,some 41,some 42,some 43,some 44,some 45,some 46,some 47] [] rfl rfl rfl ?_ cJ
  refine Tr.k [2,3,5,47] ?_
  refine bM rfl ?_
  have hR:=jq (r:=r) (S:=S) (Or.inl hB)
  refine aa hcx [] _ [] rfl rfl rfl ?_ cJ
  exact Tr.ret eP
 skip
 by_cases b2: ((4096:Nat):Int) < z
 ·
  have hB:fa f z l:=Or.inr (Or.inl (by omega))
  have hy:=True.intro
  refine aa hcx [] [some 16,some 17,some 18,some 19,some 20,some 21,some 22,some 23,some 24,some 25,some 26,some 27,some 28,some 29,some 30,some 31,some 32,some 33,some 34,some 35,some 36,some 37,some 38,some 39,some 40,some 41,some 42,some 43,some 44,some 45,some 46,some 47] [] rfl rfl rfl ?_ cJ
  refine Tr.k [2,3,5,47] ?_
  refine bM rfl ?_
  have hR:=jq (r:=r) (S:=S) (Or.inl hB)
  refine aa hcx [] _ [] rfl rfl rfl ?_ cJ
  exact Tr.ret eP
 skip
 by_cases b3:f< ((0:Nat):Int)
 ·
  have hB:fa f z l:=Or.inr (Or.inr (Or.inl (by omega)))
  have hy:=True.intro
  refine aa hcx [] [some 16,some 17,some 18,some 19,some 20,some 21,some 22,some 23,some 24,some 25,some 26,some 27,some 28,some 29,some 30,some 31,some 32,some 33,some 34,some 35,some 36,some 37,some 38,some 39,some 40,some 41,some 42,some 43,some 44,some 45,some 46,some 47] [] rfl rfl rfl ?_ cJ
  refine Tr.k [2,3,5,47] ?_
  refine bM rfl ?_
  have hR:=jq (r:=r) (S:=S) (Or.inl hB)
  refine aa hcx [] _ [] rfl rfl rfl ?_ cJ
  exact Tr.ret eP
 skip
 by_cases b4:z< f
 ·
  have hB:fa f z l:=Or.inr (Or.inr (Or.inr (Or.inl b4)))
  have hy:=True.intro
  refine aa hcx [] [some 16,some 17,some 18,some 19,some 20,some 21,some 22,some 23,some 24,some 25,some 26,some 27,some 28,some 29,some 30,some 31,some 32,some 33,some 34,some 35,some 36,some 37,some 38,some 39,some 40,some 41,some 42,some 43,some 44,some 45,some 46,some 47] [] rfl rfl rfl ?_ cJ
  refine Tr.k [2,3,5,47] ?_
  refine bM rfl ?_
  have hR:=jq (r:=r) (S:=S) (Or.inl hB)
  refine aa hcx [] _ [] rfl rfl rfl ?_ cJ
  exact Tr.ret eP
 rw[dW _ (by omega) (by omega)] at hW
 by_cases b5:z< W
 ·
  have hB:fa f z l:=Or.inr (Or.inr (Or.inr (Or.inr (Or.inl (by omega)))))
  have hy:=True.intro
  refine aa hcx [] [some 16,some 17,some 18,some 19,some 20,some 21,some 22,some 23,some 24,some 25,some 26,some 27,some 28,some 29,some 30,some 31,some 32,some 33,some 34,some 35,some 36,some 37,some 38,some 39,some 40,some 41,some 42,some 43,some 44,some 45,some 46,some 47] [] rfl rfl rfl ?_ cJ
  refine Tr.k [2,3,5,47] ?_
  refine bM rfl ?_
  have hR:=jq (r:=r) (S:=S) (Or.inl hB)
  refine aa hcx [] _ [] rfl rfl rfl ?_ cJ
  exact Tr.ret eP
 skip
 by_cases b6:bR l=0
 ·
  have hB:¬fa f z l:=fun q=>by
   unfold fa at q;omega
  have hok:=iL (l:=l) (by omega)
  have hy:=True.intro
  refine aa hcx [] [some 16,some 17,some 18,some 19,some 20,some 21,some 22,some 23,some 24,some 25,some 26,some 27,some 28,some 29,some 30,some 31,some 32,some 33,some 34,some 35,some 36,some 37,some 38,some 39,some 40,some 41,some 42,some 43,some 44,some 45,some 46,some 47] [] rfl rfl rfl ?_ cJ
  refine Tr.k [2,3,5,47] ?_
  refine bF rfl ?_
  refine Tr.skip ?_
  refine hK1 _ ?_
  refine ae fun K2 hK2=>?_
  obtain ⟨z,rfl⟩:∃n:Nat,z= (n:Int):=⟨z.toNat,by omega⟩
  obtain ⟨f,rfl⟩:∃n:Nat,f= (n:Int):=⟨f.toNat,by omega⟩
  have hW2:W= ((f+l.length:Nat):Int):=by omega
  have hll:=hok.1
  refine aa hcx [] _ [] rfl rfl rfl ?_ cJ
  refine bq rfl (fun hc50=>?_) (fun hc50=>?_)
  ·
   have hR:=E3 (r:=r) (S:=S) hB (by omega)
   have e50:=h50 0 (List.replicate 16 0) (by omega) rfl
   by_cases c1:S.length=0
   ·
    have hy:=And.intro @e50 @qV
    refine ce hcx fL [1000060] [some 51,some 52,some 53,some 54,some 55,some 56,some 57,some 58,some 59,some 60,some 4] [] rfl rfl rfl rfl ?_ lQ
    exact Tr.ret eP
   have hy:=And.intro @e50 @qV
   refine ce hcx fL [1000060] [some 51,some 52,some 53,some 54,some 55,some 56,some 57,some 58,some 59,some 60,some 4] [] rfl rfl rfl rfl ?_ lQ
   exact Tr.ret eP
  refine Tr.skip ?_
  refine hK2 _ ?_
  refine ae fun K3 hK3=>?_
  refine aa hcx [] _ [] rfl rfl rfl ?_ cJ
  refine bq rfl (fun hc64=>?_) (fun hc64=>?_)
  ·
   have hR:=jq (r:=r) (S:=S) (f:=f) (z:=z) (l:=l) (Or.inr ⟨by omega,by omega⟩)
   refine aa hcx [] _ [] rfl rfl rfl ?_ cJ
   exact Tr.ret eP
  refine Tr.skip ?_
  refine hK3 _ ?_
  refine aa hcx [] _ [none,none] rfl rfl rfl ?_ cJ
  refine aa hcx [] _ [none] rfl rfl rfl ?_ cJ
  refine aa hcx [] _ [] rfl rfl rfl ?_ cJ
  subst hW2
  simp only[iK]
  refine Tr.k [2,3,6,7,8] ?_
  refine nN hcx 0 [.val (nI f),.val (nI z),sl eC .no l,sl dC .no S] ?_
  refine nN hcx 2 [.val (nI (f+l.length))] ?_
  refine zb hcx 5 12 93 [.bp 4 0,.kp [.val (nI f),.val (nI z),sl eC .no l,sl dC .no S],.kp [.val (nI (f+l.length))],.bp 3 0] ?_
  refine GX hcx [4,3,1] ?_
  have e93:=hq93 [some (cl bC r),none] l f z S (true,S) 12 0 z (OkH.cons (fl _) (OkH.cons rfl OkH.nil)) hok (by omega) hS (by omega)
  have hR:=PN (r:=r) (S:=S) hB (by omega) (by omega)
  obtain ⟨X,hX⟩:∃X,X=cm l f 12 0 z (true,S):=⟨_,rfl⟩
  have hXl:X.1.length=16:=by rw[hX];exact qA _ _ _ _ _ _
  rw[←hX] at e93 hR
  have hx1:=hXl
  simp only[List.cons_append,List.nil_append] at e93
  have e50:=h50 z X.1 (by omega) hXl
  have ep:∀x y:Nat,pu 93 [.val (nI x),.val (nI y),.bp 0 0,.kp [.val (nI f),.val (nI z),sl eC .no l,sl dC .no S],.kp [.val (nI (f+l.length))],.bp 1 0,b8 93 [.bp 0 0,.kp [.val (nI f),.val (nI z),sl eC .no l,sl dC .no S],.kp [.val (nI (f+l.length))],.bp 1 0] 12] =none:=fun x y=>hnr 93 _ rfl
  have hy:=And.intro @e93 @ep
  refine aa hcx [] _ [none] rfl rfl rfl ?_ cJ
  refine Tr.k [2,3,6,7,9] ?_
  by_cases c2:X.2.1=true
  ·
   skip
   by_cases c3:X.2.2.length=0
   ·
    have hy:=And.intro @e50 @qV
    refine ce hcx fL [1000085] [some 72,some 73,some 74,some 75,some 76,some 77,some 78,some 79,some 80,some 81,some 82,some 83,some 84,some 85,some 4] [] rfl rfl rfl rfl ?_ lQ
    exact Tr.ret eP
   have hy:=And.intro @e50 @qV
   refine ce hcx fL [1000085] [some 72,some 73,some 74,some 75,some 76,some 77,some 78,some 79,some 80,some 81,some 82,some 83,some 84,some 85,some 4] [] rfl rfl rfl rfl ?_ lQ
   exact Tr.ret eP
  replace c2:=Bool.eq_false_iff.2 c2
  have hy:=And.intro @e50 @qV
  refine ce hcx fL [1000085] [some 72,some 73,some 74,some 75,some 76,some 77,some 78,some 79,some 80,some 81,some 82,some 83,some 84,some 85,some 4] [] rfl rfl rfl rfl ?_ lQ
  exact Tr.ret eP
 have hB:fa f z l:=Or.inr (Or.inr (Or.inr (Or.inr (Or.inr b6))))
 have hy:=True.intro
 refine aa hcx [] [some 16,some 17,some 18,some 19,some 20,some 21,some 22,some 23,some 24,some 25,some 26,some 27,some 28,some 29,some 30,some 31,some 32,some 33,some 34,some 35,some 36,some 37,some 38,some 39,some 40,some 41,some 42,some 43,some 44,some 45,some 46,some 47] [] rfl rfl rfl ?_ cJ
 refine Tr.k [2,3,5,47] ?_
 refine bM rfl ?_
 have hR:=jq (r:=r) (S:=S) (Or.inl hB)
 refine aa hcx [] _ [] rfl rfl rfl ?_ cJ
 exact Tr.ret eP
end Go.Sx
namespace Go.Sx
open Go.RowKit Go.Proofs
set_option maxRecDepth 100000
set_option maxHeartbeats 8000000
section
variable {r k x y:List UInt8} {f z:Int} {l:List ab} {S:List bL} {i a b:Nat}
theorem PO (h:dq r f z l S=false):dN r k f z l S= ([],false,17):=by unfold dN;rw[if_neg (by rw[h];simp)]
theorem w7 (hi:bm l k=i)(h:dq r f z l S=true)(h2:i< l.length)(h3: (gt l i).1=k):dN r k f z l S= ((gt l i).2,true,0):=by subst hi;unfold dN;rw[if_pos h,if_pos ⟨h2,h3⟩]
theorem oS (hi:bm l k=i)(h:dq r f z l S=true)(h2:¬ (i< l.length∧(gt l i).1=k))(h3: (0< i∨f=0)∧(i< l.length∨f+l.length=z)):dN r k f z l S= ([],false,0):=by subst hi;unfold dN;rw[if_pos h,if_neg h2,if_pos h3]
theorem oT (hi:bm l k=i)(h:dq r f z l S=true)(h2:¬ (i< l.length∧(gt l i).1=k))(h3:¬ ((0< i∨f=0)∧(i< l.length∨f+l.length=z))):dN r k f z l S= ([],false,17):=by subst hi;unfold dN;rw[if_pos h,if_neg h2,if_neg h3]
theorem PP (h:bl y x=true):fK r x y f z l S= ([],5):=if_pos h
theorem PQ (h:bl y x=false)(h2:dq r f z l S=false):fK r x y f z l S= ([],17):=by unfold fK;rw[if_neg (by rw[h];simp),if_neg (by rw[h2];simp)]
theorem w9 (hx:bm l x=a)(hy:bm l y=b)(h:bl y x=false)(h2:dq r f z l S=true)(h3: (0< f∧a=0)∨(f+l.length< z∧b=l.length)):fK r x y f z l S= ([],17):=by subst hx hy;unfold fK;rw[if_neg (by rw[h];simp),if_pos h2,if_pos h3]
theorem oU (hx:bm l x=a)(hy:bm l y=b)(h:bl y x=false)(h2:dq r f z l S=true)(h3:¬ ((0< f∧a=0)∨(f+l.length< z∧b=l.length))):fK r x y f z l S= ((l.drop a).take (b - a),0):=by subst hx hy;unfold fK;rw[if_neg (by rw[h];simp),if_pos h2,if_neg h3]
end
theorem cy {p:Prop}(e:p:=by intro KZ hZ;simp -implicitDefEqProofs (maxSteps:=2000000) (disch:=first|omega| (simp only[go_sem,lA,lD,lT,hr] <;>omega) |decide) only[go_sem,↓reduceIte,Nat.reduceEqDiff,reduceCtorEq,Nat.reduceLT,Nat.reduceBEq,Nat.reduceAdd,iK,e61,b1,b2,b3,b4,b5,b6,hy];with_reducible exact hZ):p:=e
theorem fO {p:Prop}(e:p:=by simp -implicitDefEqProofs (disch:=first|omega| (simp only[go_sem,lA,lD,lT,hr] <;>omega) |decide) only[go_sem,↓reduceIte,Nat.reduceEqDiff,reduceCtorEq];all_goals (rw[hR])):p:=e
theorem Tz {gl:Nat→C}{M:Nat}{pu:Nat→List C→Option C}(hcx:CxOK (ao gl M pu))(h61:∀ (r:List UInt8) (f z:Int) (l:List ab) (S:List bL),r.length=16→(-9223372036854775808≤f∧f≤9223372036854775807)→(-9223372036854775808≤z∧z≤9223372036854775807)→LB l→S.length≤1000000→pu 61 [.agg [.val (.int .i64 f),.val (.int .i64 z),sl eC .no l,sl dC .no S],.agg (cl bC r)] =some (.val (.bool (dq r f z l S))))(h56:∀ (l:List ab) (k:List UInt8),Srt l→l.length≤1000000→pu 56 [sl eC .no l,.val (str k)] =some (.val (nI (bm l k))))(r k:List UInt8)(f z:Int)(l:List ab)(S:List bL)(hr:r.length=16)(hf: -9223372036854775808≤f∧f≤9223372036854775807)(hz: -9223372036854775808≤z∧z≤9223372036854775807)(hl:LB l)(hS:S.length≤1000000):FC Tryd.prog gl 29 [.agg (cl bC r),.val (str k),.agg [.val (.int .i64 f),.val (.int .i64 z),sl eC .no l,sl dC .no S]] [] (.tup [.val (str (dN r k f z l S).1),.val (.bool (dN r k f z l S).2.1),.val (nI (dN r k f z l S).2.2)]) []:=by
 replace hcx:=hcx.reN (M:=66)
 refine aP (cx:=ao gl 66 pu) (rs:=[.tmp 6,.tmp 7,.tmp 8]) rfl Tryd.func29 rfl rfl rfl (by simp only[List.length_cons,List.length_nil];decide) (by simp only[go_sem]) ?_
 simp only[bQ,go_sem]
 have b1:=True.intro
 have b2:=True.intro
 have b3:=True.intro
 have b4:=True.intro
 have b5:=True.intro
 have b6:=True.intro
 have hy:=True.intro
 have e61:=h61 r f z l S hr hf hz hl hS
 refine aa hcx [] _ [none,none] rfl rfl rfl ?_ cy
 refine ae fun K1 hK1=>?_
 by_cases b1:dq r f z l S=true
 ·
  have hU:=vX b1
  have hsr:=iS hU.1
  obtain ⟨z,rfl⟩:∃n:Nat,z= (n:Int):=⟨z.toNat,by omega⟩
  obtain ⟨f,rfl⟩:∃n:Nat,f= (n:Int):=⟨f.toNat,by omega⟩
  replace e61:pu 61 [.agg [.val (nI f),.val (nI z),sl eC .no l,sl dC .no S],.agg (cl bC r)] =_:=e61
  have hy:= @e61
  refine aa hcx [] _ [] rfl rfl rfl ?_ cy
  refine bF rfl ?_
  refine Tr.skip ?_
  refine hK1 _ ?_
  have e56:=h56 l k hsr (by omega)
  have hfl:=iH l k
  obtain ⟨i,hi⟩:∃i,bm l k=i:=⟨_,rfl⟩
  rw[hi] at e56 hfl
  have hy:= @e56
  refine aa hcx [1000017] _ [] rfl rfl rfl ?_ cy
  refine Tr.k [1,5,9] ?_
  refine ae fun K2 hK2=>?_
  refine Tr.blk ?_
  by_cases b2:i< l.length
  ·
   by_cases b3: (gt l i).1=k
   ·
    have hy:=True.intro
    refine aa hcx [1000033] [some 19,some 20,some 21,some 22,some 23,some 24,some 25,some 26,some 27,some 28,some 29,some 30,some 31,some 32,some 33,some 18] [] rfl rfl rfl ?_ cy
    refine bM rfl ?_
    have hR:=w7 hi b1 b2 b3
    refine aa hcx [1000039] _ [] rfl rfl rfl ?_ cy
    refine Tr.k [6,7,8] ?_
    exact Tr.ret fO
   have hy:=True.intro
   refine aa hcx [1000033] [some 19,some 20,some 21,some 22,some 23,some 24,some 25,some 26,some 27,some 28,some 29,some 30,some 31,some 32,some 33,some 18] [] rfl rfl rfl ?_ cy
   refine bF rfl ?_
   by_cases b4:0< i
   ·
    refine aa hcx [1000065] [some 41,some 42,some 43,some 44,some 45,some 46,some 47,some 48,some 49,some 50,some 51,some 52,some 53,some 54,some 55,some 56,some 57,some 58,some 59,some 60,some 61,some 62,some 63,some 64,some 65,some 40] [] rfl rfl rfl ?_ cy
    refine Tr.k [40] ?_
    refine bM rfl ?_
    have hR:=oS hi b1 (fun h=>b3 h.2) ⟨Or.inl b4,Or.inl b2⟩
    refine aa hcx [] _ [] rfl rfl rfl ?_ cy
    exact Tr.ret fO
   by_cases b5:f=0
   ·
    have b5o:=b5
    replace b5:=eq_true b5
    refine aa hcx [1000065] [some 41,some 42,some 43,some 44,some 45,some 46,some 47,some 48,some 49,some 50,some 51,some 52,some 53,some 54,some 55,some 56,some 57,some 58,some 59,some 60,some 61,some 62,some 63,some 64,some 65,some 40] [] rfl rfl rfl ?_ cy
    refine Tr.k [40] ?_
    refine bM rfl ?_
    have hR:=oS hi b1 (fun h=>b3 h.2) ⟨Or.inr (by omega),Or.inl b2⟩
    refine aa hcx [] _ [] rfl rfl rfl ?_ cy
    exact Tr.ret fO
   have b5o:=b5
   replace b5:=eq_false b5
   refine aa hcx [1000065] [some 41,some 42,some 43,some 44,some 45,some 46,some 47,some 48,some 49,some 50,some 51,some 52,some 53,some 54,some 55,some 56,some 57,some 58,some 59,some 60,some 61,some 62,some 63,some 64,some 65,some 40] [] rfl rfl rfl ?_ cy
   refine Tr.k [40] ?_
   refine bF rfl ?_
   refine Tr.skip ?_
   refine hK2 _ ?_
   have hR:=oT hi b1 (fun h=>b3 h.2) (by omega)
   refine aa hcx [] _ [] rfl rfl rfl ?_ cy
   exact Tr.ret fO
  have hy:=True.intro
  refine aa hcx [1000033] [some 19,some 20,some 21,some 22,some 23,some 24,some 25,some 26,some 27,some 28,some 29,some 30,some 31,some 32,some 33,some 18] [] rfl rfl rfl ?_ cy
  refine bF rfl ?_
  by_cases b4:0< i
  ·
   by_cases b6:f+l.length=z
   ·
    have b6o:=b6
    replace b6:=eq_true b6
    refine aa hcx [1000065] [some 41,some 42,some 43,some 44,some 45,some 46,some 47,some 48,some 49,some 50,some 51,some 52,some 53,some 54,some 55,some 56,some 57,some 58,some 59,some 60,some 61,some 62,some 63,some 64,some 65,some 40] [] rfl rfl rfl ?_ cy
    refine Tr.k [40] ?_
    refine bM rfl ?_
    have hR:=oS hi b1 (fun h=>b2 h.1) ⟨Or.inl b4,Or.inr (by omega)⟩
    refine aa hcx [] _ [] rfl rfl rfl ?_ cy
    exact Tr.ret fO
   have b6o:=b6
   replace b6:=eq_false b6
   refine aa hcx [1000065] [some 41,some 42,some 43,some 44,some 45,some 46,some 47,some 48,some 49,some 50,some 51,some 52,some 53,some 54,some 55,some 56,some 57,some 58,some 59,some 60,some 61,some 62,some 63,some 64,some 65,some 40] [] rfl rfl rfl ?_ cy
   refine Tr.k [40] ?_
   refine bF rfl ?_
   refine Tr.skip ?_
   refine hK2 _ ?_
   have hR:=oT hi b1 (fun h=>b2 h.1) (by omega)
   refine aa hcx [] _ [] rfl rfl rfl ?_ cy
   exact Tr.ret fO
  by_cases b5:f=0
  ·
   have b5o:=b5
   replace b5:=eq_true b5
   by_cases b6:f+l.length=z
   ·
    have b6o:=b6
    replace b6:=eq_true b6
    refine aa hcx [1000065] [some 41,some 42,some 43,some 44,some 45,some 46,some 47,some 48,some 49,some 50,some 51,some 52,some 53,some 54,some 55,some 56,some 57,some 58,some 59,some 60,some 61,some 62,some 63,some 64,some 65,some 40] [] rfl rfl rfl ?_ cy
    refine Tr.k [40] ?_
    refine bM rfl ?_
    have hR:=oS hi b1 (fun h=>b2 h.1) ⟨Or.inr (by omega),Or.inr (by omega)⟩
    refine aa hcx [] _ [] rfl rfl rfl ?_ cy
    exact Tr.ret fO
   have b6o:=b6
   replace b6:=eq_false b6
   refine aa hcx [1000065] [some 41,some 42,some 43,some 44,some 45,some 46,some 47,some 48,some 49,some 50,some 51,some 52,some 53,some 54,some 55,some 56,some 57,some 58,some 59,some 60,some 61,some 62,some 63,some 64,some 65,some 40] [] rfl rfl rfl ?_ cy
   refine Tr.k [40] ?_
   refine bF rfl ?_
   refine Tr.skip ?_
   refine hK2 _ ?_
   have hR:=oT hi b1 (fun h=>b2 h.1) (by omega)
   refine aa hcx [] _ [] rfl rfl rfl ?_ cy
   exact Tr.ret fO
  have b5o:=b5
  replace b5:=eq_false b5
  refine aa hcx [1000065] [some 41,some 42,some 43,some 44,some 45,some 46,some 47,some 48,some 49,some 50,some 51,some 52,some 53,some 54,some 55,some 56,some 57,some 58,some 59,some 60,some 61,some 62,some 63,some 64,some 65,some 40] [] rfl rfl rfl ?_ cy
  refine Tr.k [40] ?_
  refine bF rfl ?_
  refine Tr.skip ?_
  refine hK2 _ ?_
  have hR:=oT hi b1 (fun h=>b2 h.1) (by omega)
  refine aa hcx [] _ [] rfl rfl rfl ?_ cy
  exact Tr.ret fO
 replace b1:=Bool.eq_false_iff.2 b1
 have hy:= @e61
 refine aa hcx [] _ [] rfl rfl rfl ?_ cy
 refine bM rfl ?_
 have hR:=PO (k:=k) b1
 have hy:=True.intro
 refine aa hcx [] _ [] rfl rfl rfl ?_ cy
 exact Tr.ret fO
theorem cW {p:Prop}(e:p:=by intro KZ hZ;simp -implicitDefEqProofs (disch:=first|omega| (simp only[go_sem,lA,lD,lT,hr] <;>omega) |decide) only[go_sem,↓reduceIte,Nat.reduceEqDiff,reduceCtorEq,Nat.reduceLT,Nat.reduceBEq,Nat.reduceAdd,iK,e61,b0,b1,b2,b3,b4,b5,hy];with_reducible exact hZ):p:=e
theorem Kv {p:Prop}(e:p:=by intro KZ hZ;simp -implicitDefEqProofs (disch:=first|omega| (simp only[go_sem,lA,lD,lT,hr] <;>omega) |decide) only[go_sem,↓reduceIte,Nat.reduceEqDiff,reduceCtorEq,Nat.reduceLT,Nat.reduceBEq,Nat.reduceAdd,iK,e61,b0,b1,b2,b3,b4,b5,hy];with_reducible refine And.intro ?_ hZ;first|exact rfl|decide):p:=e
theorem gj {p:Prop}(e:p:=by simp -implicitDefEqProofs (disch:=first|omega| (simp only[go_sem,lA,lD,lT,hr] <;>omega) |decide) only[go_sem,↓reduceIte,Nat.reduceEqDiff,reduceCtorEq];all_goals (first| (rw[hR];done))):p:=e
theorem TA {gl:Nat→C}{M:Nat}{pu:Nat→List C→Option C}(hcx:CxOK (ao gl M pu))(h61:∀ (r:List UInt8) (f z:Int) (l:List ab) (S:List bL),r.length=16→(-9223372036854775808≤f∧f≤9223372036854775807)→(-9223372036854775808≤z∧z≤9223372036854775807)→LB l→S.length≤1000000→pu 61 [.agg [.val (.int .i64 f),.val (.int .i64 z),sl eC .no l,sl dC .no S],.agg (cl bC r)] =some (.val (.bool (dq r f z l S))))(h56:∀ (l:List ab) (k:List UInt8),Srt l→l.length≤1000000→pu 56 [sl eC .no l,.val (str k)] =some (.val (nI (bm l k))))(h63:∀l:List ab,l.length≤1000000→pu 63 [sl eC .no l] =some (sl eC (.own 2) l))(r x y:List UInt8)(f z:Int)(l:List ab)(S:List bL)(hr:r.length=16)(hf: -9223372036854775808≤f∧f≤9223372036854775807)(hz: -9223372036854775808≤z∧z≤9223372036854775807)(hl:LB l)(hS:S.length≤1000000):FC Tryd.prog gl 32 [.agg (cl bC r),.val (str x),.val (str y),.agg [.val (.int .i64 f),.val (.int .i64 z),sl eC .no l,sl dC .no S]] [] (.tup [sl eC .no (fK r x y f z l S).1,.val (nI (fK r x y f z l S).2)]) []:=by
 replace hcx:=hcx.reN (M:=58)
 refine aP (cx:=ao gl 58 pu) (rs:=[.tmp 8,.tmp 9]) rfl Tryd.func32 rfl rfl rfl (by simp only[List.length_cons,List.length_nil];decide) (by simp only[go_sem]) ?_
 simp only[bQ,go_sem]
 have b0:=True.intro
 have b1:=True.intro
 have b2:=True.intro
 have b3:=True.intro
 have b4:=True.intro
 have b5:=True.intro
 have hy:=True.intro
 have e61:=h61 r f z l S hr hf hz hl hS
 refine aa hcx [] _ [none,none] rfl rfl rfl ?_ cW
 refine ae fun K1 hK1=>?_
 by_cases b0:bl y x=true
 ·
  have hR:=PP (r:=r) (f:=f) (z:=z) (l:=l) (S:=S) b0
  refine aa hcx [] _ [] rfl rfl rfl ?_ cW
  refine bM rfl ?_
  refine aa hcx [] _ [] rfl rfl rfl ?_ cW
  refine Tr.live [(8,sl eC .no []),(9,.val (nI 5))] LT ?_
  exact Tr.ret gj
 replace b0:=Bool.eq_false_iff.2 b0
 refine aa hcx [] _ [] rfl rfl rfl ?_ cW
 refine bF rfl ?_
 refine Tr.skip ?_
 refine hK1 _ ?_
 refine ae fun K2 hK2=>?_
 by_cases b1:dq r f z l S=true
 ·
  have hU:=vX b1
  have hsr:=iS hU.1
  obtain ⟨z,rfl⟩:∃n:Nat,z= (n:Int):=⟨z.toNat,by omega⟩
  obtain ⟨f,rfl⟩:∃n:Nat,f= (n:Int):=⟨f.toNat,by omega⟩
  replace e61:pu 61 [.agg [.val (nI f),.val (nI z),sl eC .no l,sl dC .no S],.agg (cl bC r)] =_:=e61
  have hy:= @e61
  refine aa hcx [] _ [] rfl rfl rfl ?_ cW
  refine bF rfl ?_
  refine Tr.skip ?_
  refine hK2 _ ?_
  refine Tr.k [1,2,7] ?_
  have e56x:=h56 l x hsr (by omega)
  have e56y:=h56 l y hsr (by omega)
  have hfx:=iH l x
  have hfy:=iH l y
  have hxy:=rD hsr b0
  obtain ⟨i,hi⟩:∃i,bm l x=i:=⟨_,rfl⟩
  obtain ⟨j,hj⟩:∃j,bm l y=j:=⟨_,rfl⟩
  rw[hi] at e56x hfx hxy
  rw[hj] at e56y hfy hxy
  have hy:=And.intro @e56x @e56y
  refine ce hcx dR [1000023,1000027,1000030] _ [] rfl rfl rfl rfl ?_ Kv
  refine Tr.k [7,10,11,12] ?_
  refine ae fun K3 hK3=>?_
  by_cases b2:0< f
  ·
   by_cases b3:i=0
   ·
    have hy:=True.intro
    refine aa hcx [] [some 31,some 32,some 33,some 34,some 35,some 36,some 37,some 38,some 39,some 40,some 41,some 42,some 43,some 44,some 45,some 46,some 47,some 48,some 49,some 50,some 51] [] rfl rfl rfl ?_ cW
    refine bM rfl ?_
    have hR:=w9 hi hj b0 b1 (by omega)
    refine aa hcx [] _ [] rfl rfl rfl ?_ cW
    refine Tr.k [8,9] ?_
    refine Tr.live [(8,sl eC .no []),(9,.val (nI 17))] LT ?_
    exact Tr.ret gj
   by_cases b4:f+l.length< z
   ·
    by_cases b5:j=l.length
    ·
     have hy:=True.intro
     refine aa hcx [] [some 31,some 32,some 33,some 34,some 35,some 36,some 37,some 38,some 39,some 40,some 41,some 42,some 43,some 44,some 45,some 46,some 47,some 48,some 49,some 50,some 51] [] rfl rfl rfl ?_ cW
     refine bM rfl ?_
     have hR:=w9 hi hj b0 b1 (by omega)
     refine aa hcx [] _ [] rfl rfl rfl ?_ cW
     refine Tr.k [8,9] ?_
     refine Tr.live [(8,sl eC .no []),(9,.val (nI 17))] LT ?_
     exact Tr.ret gj
    have hy:=True.intro
    refine aa hcx [] [some 31,some 32,some 33,some 34,some 35,some 36,some 37,some 38,some 39,some 40,some 41,some 42,some 43,some 44,some 45,some 46,some 47,some 48,some 49,some 50,some 51] [] rfl rfl rfl ?_ cW
    refine bF rfl ?_
    refine Tr.skip ?_
    refine hK3 _ ?_
    refine Tr.k [7,10,11] ?_
    have hR:=oU hi hj b0 b1 (by omega)
    have e63:=h63 ((l.drop i).take (j - i)) (by rw[List.length_take,List.length_drop];omega)
    have hy:= @e63
    refine aa hcx [1000057] _ [] rfl rfl rfl ?_ cW
    exact Tr.ret gj
   have hy:=True.intro
   refine aa hcx [] [some 31,some 32,some 33,some 34,some 35,some 36,some 37,some 38,some 39,some 40,some 41,some 42,some 43,some 44,some 45,some 46,some 47,some 48,some 49,some 50,some 51] [] rfl rfl rfl ?_ cW
   refine bF rfl ?_
   refine Tr.skip ?_
   refine hK3 _ ?_
   refine Tr.k [7,10,11] ?_
   have hR:=oU hi hj b0 b1 (by omega)
   have e63:=h63 ((l.drop i).take (j - i)) (by rw[List.length_take,List.length_drop];omega)
   have hy:= @e63
   refine aa hcx [1000057] _ [] rfl rfl rfl ?_ cW
   exact Tr.ret gj
  by_cases b4:f+l.length< z
  ·
   by_cases b5:j=l.length
   ·
    have hy:=True.intro
    refine aa hcx [] [some 31,some 32,some 33,some 34,some 35,some 36,some 37,some 38,some 39,some 40,some 41,some 42,some 43,some 44,some 45,some 46,some 47,some 48,some 49,some 50,some 51] [] rfl rfl rfl ?_ cW
    refine bM rfl ?_
    have hR:=w9 hi hj b0 b1 (by omega)
    refine aa hcx [] _ [] rfl rfl rfl ?_ cW
    refine Tr.k [8,9] ?_
    refine Tr.live [(8,sl eC .no []),(9,.val (nI 17))] LT ?_
    exact Tr.ret gj
   have hy:=True.intro
   refine aa hcx [] [some 31,some 32,some 33,some 34,some 35,some 36,some 37,some 38,some 39,some 40,some 41,some 42,some 43,some 44,some 45,some 46,some 47,some 48,some 49,some 50,some 51] [] rfl rfl rfl ?_ cW
   refine bF rfl ?_
   refine Tr.skip ?_
   refine hK3 _ ?_
   refine Tr.k [7,10,11] ?_
   have hR:=oU hi hj b0 b1 (by omega)
   have e63:=h63 ((l.drop i).take (j - i)) (by rw[List.length_take,List.length_drop];omega)
   have hy:= @e63
   refine aa hcx [1000057] _ [] rfl rfl rfl ?_ cW
   exact Tr.ret gj
  have hy:=True.intro
  refine aa hcx [] [some 31,some 32,some 33,some 34,some 35,some 36,some 37,some 38,some 39,some 40,some 41,some 42,some 43,some 44,some 45,some 46,some 47,some 48,some 49,some 50,some 51] [] rfl rfl rfl ?_ cW
  refine bF rfl ?_
  refine Tr.skip ?_
  refine hK3 _ ?_
  refine Tr.k [7,10,11] ?_
  have hR:=oU hi hj b0 b1 (by omega)
  have e63:=h63 ((l.drop i).take (j - i)) (by rw[List.length_take,List.length_drop];omega)
  have hy:= @e63
  refine aa hcx [1000057] _ [] rfl rfl rfl ?_ cW
  exact Tr.ret gj
 replace b1:=Bool.eq_false_iff.2 b1
 have hy:= @e61
 refine aa hcx [] _ [] rfl rfl rfl ?_ cW
 refine bM rfl ?_
 have hR:=PQ b0 b1
 have hy:=True.intro
 refine aa hcx [] _ [] rfl rfl rfl ?_ cW
 refine Tr.live [(8,sl eC .no []),(9,.val (nI 17))] LT ?_
 exact Tr.ret gj
end Go.Sx
namespace Go.Sx
open Go.RowKit Go.Proofs
theorem qC {l:List ab}{f e:Nat}(he:f< e)(hel:e≤l.length)(S:List bL):∀d a b T u,d≤12→a< b→b≤l.length→b - a≤2 ^ d→(∃pre post,S=pre++(cH l f e d a b++post)∧pre.length=u)→
 (aS ((l.drop f).take (e - f)) f S d a b (T,u,false)).1=cK l d a b∧(aS ((l.drop f).take (e - f)) f S d a b (T,u,false)).2.2= (u+(cH l f e d a b).length,false)
 |0,a,b,T,u,hd,h1,h2,h3,h4=>by
  have hl: ((l.drop f).take (e - f)).length=e - f:=by rw[List.length_take,List.length_drop];omega
  obtain ⟨pre,post,rfl,rfl⟩:=h4
  by_cases h:b≤f∨e≤a
  . rw[eR (by rw[hl];omega),sG h]
    have e1:¬ (pre++([gE l a b]++post)).length≤(T,pre.length,false).2.1:=by simp
    rw[pm e1]
    have e2:gt (pre++([gE l a b]++post)) pre.length=gE l a b:=by simp[gt,List.getD]
    simp only[e2,List.length_singleton,and_true]
    exact mt l 12 0 a b (Nat.le_trans h3 (by decide)) h3
  . have h3':b - a≤1:=h3
    rw[eS (by rw[hl];omega) h3',w6 h h3',ph h3',jR,iT l f (e - f) (a - f) (by omega) (by omega),show f+(a - f) =a by omega]
    exact ⟨rfl,rfl⟩
 |d+1,a,b,T,u,hd,h1,h2,h3,h4=>by
  have hl: ((l.drop f).take (e - f)).length=e - f:=by rw[List.length_take,List.length_drop];omega
  obtain ⟨pre,post,rfl,rfl⟩:=h4
  by_cases h:b≤f∨e≤a
  . rw[eR (by rw[hl];omega),sG h]
    have e1:¬ (pre++([gE l a b]++post)).length≤(T,pre.length,false).2.1:=by simp
    rw[pm e1]
    have e2:gt (pre++([gE l a b]++post)) pre.length=gE l a b:=by simp[gt,List.getD]
    simp only[e2,List.length_singleton,and_true]
    exact mt l 12 (d+1) a b (Nat.le_trans h3 (Nat.pow_le_pow_right (by omega) hd)) h3
  . by_cases h3':b - a≤1
    . rw[eS (by rw[hl];omega) h3',w6 h h3',ph h3',jR,iT l f (e - f) (a - f) (by omega) (by omega),show f+(a - f) =a by omega]
      exact ⟨rfl,rfl⟩
    . have hh:=fw (n:=b - a) (by omega)
      have hh2:=eW (by omega) h3
      rw[ke (by rw[hl];omega) h3',ul h3']
      rw[sH h h3']
      have g1:=qC he hel (pre++(cH l f e (d+1) a b++post)) d a (a+aD (b - a)) T pre.length (by omega) (by omega) (by omega) (by omega) ⟨pre,cH l f e d (a+aD (b - a)) b++post,by rw[sH h h3',List.append_assoc],rfl⟩
      rw[sH h h3'] at g1
      generalize aS ((l.drop f).take (e - f)) f (pre++(cH l f e d a (a+aD (b - a))++cH l f e d (a+aD (b - a)) b++post)) d a (a+aD (b - a)) (T,pre.length,false) =X at g1 ⊢
      obtain ⟨x,T1,u1,s1⟩:=X
      simp only[Prod.mk.injEq] at g1
      obtain ⟨rfl,rfl,rfl⟩:=g1
      have g2:=qC he hel (pre++(cH l f e d a (a+aD (b - a))++cH l f e d (a+aD (b - a)) b++post)) d (a+aD (b - a)) b T1 (pre.length+(cH l f e d a (a+aD (b - a))).length) (by omega) (by omega) (by omega) (by omega) ⟨pre++cH l f e d a (a+aD (b - a)),post,by simp only[List.append_assoc],by rw[List.length_append]⟩
      simp only[kS]
      rw[g2.1,g2.2]
      exact ⟨rfl,by rw[List.length_append,Nat.add_assoc]⟩
theorem qD {l:List ab}{f e:Nat}(hv:bR l=0)(hfe:f≤e)(hel:e≤l.length)(h0:l.length=0∨f< e):dq (cZ l) (f:Int) (l.length:Int) ((l.drop f).take (e - f)) (cd l f e) =true:=by
 have hok:=iL (l:=l) (by omega)
 have hll:=hok.1
 have hl: ((l.drop f).take (e - f)).length=e - f:=by rw[List.length_take,List.length_drop];omega
 have hv2:bR ((l.drop f).take (e - f)) =0:=by
  have hs:=iS hv
  unfold bR
  rw[if_neg,if_pos]
  . have key:∀n,n≤((l.drop f).take (e - f)).length→eG ((l.drop f).take (e - f)) n=true:=fun n=>by
     induction n with
     |zero=>intro _;rfl
     |succ n ih=>
      intro hn
      refine oX (ih (by omega)) ?_
      by_cases e0:n=0
      . exact Or.inl e0
      . right
        rw[iT l f (e - f) (n - 1) (by omega) (by omega),iT l f (e - f) n (by omega) (by omega)]
        exact hs _ _ (by omega) (by omega)
    exact key _ (Nat.le_refl _)
  . intro h
    rcases h with h|h
    . omega
    . rw[List.any_eq_true] at h
      obtain ⟨x,hx,hb⟩:=h
      have hx2:x∈l:=List.mem_of_mem_drop (List.mem_of_mem_take hx)
      have:l.any cg=true:=List.any_eq_true.2 ⟨x,hx2,hb⟩
      rw[j9 (Or.inr this)] at hv;cases hv
 have hB:¬fa (f:Int) (l.length:Int) ((l.drop f).take (e - f)):=by
  unfold fa;rw[hv2,hl];omega
 by_cases e0:l.length=0
 . rw[E3 hB (by omega),EX e0]
   have:d6 0 (List.replicate 16 0) =cZ l:=z4 e0 _
   rw[this];simp
 . have hfe2:f< e:=by omega
   unfold dq
   rw[if_neg (fun q=>q.elim hB (fun q=>by rw[hl] at q;omega)),show ((f:Nat):Int).toNat=f from rfl,show ((l.length:Nat):Int).toNat=l.length from rfl,pn e0,EY e0]
   have g:=qC hfe2 hel (cH l f e 12 0 l.length) 12 0 l.length [] 0 (Nat.le_refl _) (by omega) (Nat.le_refl _) (by omega) ⟨[],[],by simp,rfl⟩
   simp only[g.1,g.2,Nat.zero_add,decide_true,Bool.and_true,Bool.not_false]
   have e2:ofT 4 [co ((l.length:Nat):Int),cK l 12 0 l.length] =cZ l:=by unfold cZ d6;rw[if_neg e0];rfl
   rw[e2];simp
def bK:List ab:=[([97],[49]),([99],[50]),([100],[51]),([102],[52]),([103],[53])]
theorem jr:bR bK=0:=by decide+kernel
def fC:List ab:=[([99],[50])]
def fE:List ab:=[([100],[51]),([102],[52])]
def fH:List ab:=[([103],[53])]
def fR:List ab:=[([97],[49]),([99],[50]),([100],[51]),([102],[52])]
def fQ:List ab:=[([99],[50]),([100],[51])]
theorem PR:dn bK [99] = ((1,5,fC,cd bK 1 2),0):=by rw[E0 (i:=1) (by decide+kernel) jr (by decide) (by decide)];rfl
theorem PS:dn bK [101] = ((2,5,fE,cd bK 2 4),0):=by rw[sI (i:=3) (by decide+kernel) jr (by decide)];rfl
theorem PT:dn bK [104] = ((4,5,fH,cd bK 4 5),0):=by rw[sI (i:=5) (by decide+kernel) jr (by decide)];rfl
theorem PU:dF bK [99] [102] = ((0,5,fR,cd bK 0 4),0):=by
 rw[E1 jr (by decide+kernel),show bm bK [99] =1 by decide+kernel,show bm bK [102] =3 by decide+kernel];rfl
theorem PV: (cd bK 1 2).length=3:=rfl
theorem PW: (cd bK 2 4).length=2:=rfl
theorem PX: (cd bK 4 5).length=1:=rfl
theorem PY: (cd bK 0 4).length=1:=rfl
theorem PZ:dq (cZ bK) 1 5 fC (cd bK 1 2) =true:=qD (l:=bK) (f:=1) (e:=2) jr (by decide) (by decide) (by decide)
theorem xa:dq (cZ bK) 2 5 fE (cd bK 2 4) =true:=qD (l:=bK) (f:=2) (e:=4) jr (by decide) (by decide) (by decide)
theorem P0:dq (cZ bK) 0 5 fR (cd bK 0 4) =true:=qD (l:=bK) (f:=0) (e:=4) jr (by decide) (by decide) (by decide)
theorem P1:dN (cZ bK) [99] 1 5 fC (cd bK 1 2) = ([50],true,0):=w7 (i:=0) (by decide+kernel) PZ (by decide) (by decide)
theorem P2:dN (cZ bK) [101] 2 5 fE (cd bK 2 4) = ([],false,0):=oS (i:=1) (by decide+kernel) xa (by decide) (by decide)
theorem P3:dN (cZ bK) [100] 2 5 fE (cd bK 2 4) = ([51],true,0):=w7 (i:=0) (by decide+kernel) xa (by decide) (by decide)
theorem P4:dN (cZ bK) [99] 2 5 fE (cd bK 2 4) = ([],false,17):=oT (i:=0) (by decide+kernel) xa (by decide) (by decide)
theorem P5:fK (cZ bK) [99] [102] 0 5 fR (cd bK 0 4) = (fQ,0):=oU (a:=1) (b:=3) (by decide+kernel) (by decide+kernel) (by decide+kernel) P0 (by decide)
theorem lR:LB bK:=⟨by decide,fun i hi=>by
 have h5:i< 5:=hi
 rcases i with _|_|_|_|_|i
 . decide
 . decide
 . decide
 . decide
 . decide
 . omega⟩
end Go.Sx
