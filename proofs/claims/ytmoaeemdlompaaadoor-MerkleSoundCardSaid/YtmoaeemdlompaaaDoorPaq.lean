/-
   And what follows.
-/
import Derived.Test.YtmoaeemdlompaaaDoorPap
set_option linter.unusedSimpArgs false
set_option linter.unusedVariables false
namespace Go.Sx
open Go.RowKit Go.Proofs
set_option maxRecDepth 100000
set_option maxHeartbeats 8000000
theorem La {l:List ab} (h:l≠[]) : (sl eC .no l).nilS?=some false:=by
 cases l with
 |nil=>exact absurd rfl h
 |cons x l=>rfl
theorem Cf (u:TypeDesc) (y:Nat) (z:List Value) (hz:z.length=2) (h1:z.all (·.oneCell') =true) :jB (some ⟨u,2,y,z⟩) 0 [] =some (vp (sl eC .full [])) :=by
 unfold jB
 simp only[hz,h1]
 rw[if_pos ⟨by decide,by decide,trivial,trivial⟩]
 rfl
theorem FJ (u:TypeDesc) (y:Nat) (z:List Value) (hz:z.length=16) (h1:z.all (·.oneCell') =true) :jB (some ⟨u,16,y,z⟩) 0 [] =some (vp (sl dC .full [])) :=by
 unfold jB
 simp only[hz,h1]
 rw[if_pos ⟨by decide,by decide,trivial,trivial⟩]
 rfl
attribute [go_sem] Cf FJ
theorem X2:Tryd.prog.eqGuardType Tryd.prog.depth 33=false:=by kernel_rfl
theorem UH {l:List ab} (h:l≠[]) (op:BinOp) :aW Tryd.prog op 33 (sl eC .no l) (.val (.slice none 0 0)) =oA op false:=XV op (La h) (fun v e=>by cases e) xl X2
theorem IB (a:Option Addr) (n c:Nat) (op:BinOp) :aW Tryd.prog op 33 (.val (.slice a n c)) (.val (.slice none 0 0)) =oA op a.isNone:=XZ op a n c xl X2
def iJ (l:List ab) (a b:Nat) :cf:= ⟨dD l 12 a b,fA _ _ _ _⟩
theorem fB (l:List ab) (a n x:Nat) (h:a+x< l.length) (hx:x< n) :gt ((l.drop a).take n) x=gt l (a+x) :=by
 simp only[gt,List.getD,List.getElem?_take,List.getElem?_drop,if_pos hx]
theorem qP (l:List ab) (a n:Nat) : ∀d x y,a+y≤l.length→x< y→y≤n→dD ((l.drop a).take n) d x y=dD l d (a+x) (a+y)
 |0,x,y,h1,h2,h3=>by
  show fV _=fV _
  rw[fB l a n x (by omega) (by omega)]
 |d+1,x,y,h1,h2,h3=>by
  have e:a+y - (a+x) =y - x:=by omega
  unfold dD
  rw[e]
  by_cases h:y - x≤1
  · rw[if_pos h,if_pos h,fB l a n x (by omega) (by omega)]
  · have hh:=fO (n:=y - x) (by omega)
    rw[if_neg h,if_neg h,qP l a n d x _ (by omega) (by omega) (by omega),qP l a n d _ y (by omega) (by omega) (by omega),Nat.add_assoc]
theorem wy {l:List ab} {a b:Nat} (h1:a< b) (h2:b≤l.length) :jD ((l.drop a).take (b - a)) =dD l 12 a b:=by
 have hl: ((l.drop a).take (b - a)).length=b - a:=by rw[List.length_take,List.length_drop];omega
 unfold jD
 rw[hl,qP l a (b - a) 12 0 (b - a) (by omega) (by omega) (Nat.le_refl _)]
 congr 1
 omega
def dA (l:List ab) (f e:Nat) :Nat→Nat→Nat→List cf
 |0,a,b=>if b≤f∨e≤a then [iJ l a b] else []
 |d+1,a,b=>if b≤f∨e≤a then [iJ l a b] else if b - a≤1 then [] else dA l f e d a (a+aV (b - a))++dA l f e d (a+aV (b - a)) b
section
variable {l:List ab} {f e d a b:Nat}
theorem oM (h:b≤f∨e≤a) :dA l f e d a b= [iJ l a b] :=by cases d<;>simp only[dA,if_pos h]
theorem uX (h: ¬ (b≤f∨e≤a)) (h2:b - a≤1) :dA l f e d a b= [] :=by cases d<;>simp only[dA,if_neg h,if_pos h2]
theorem rA (h: ¬ (b≤f∨e≤a)) (h2: ¬b - a≤1) :dA l f e (d+1) a b=dA l f e d a (a+aV (b - a))++dA l f e d (a+aV (b - a)) b:=by simp only[dA,if_neg h,if_neg h2]
end
theorem kO (l:List ab) (f e:Nat) : ∀d a b,(dA l f e d a b).length≤2 ^ d
 |0,a,b=>by unfold dA;split<;>simp
 |d+1,a,b=>by
  have h1:=kO l f e d a (a+aV (b - a))
  have h2:=kO l f e d (a+aV (b - a)) b
  have e2:2 ^ (d+1) =2*2 ^ d:=by rw[Nat.pow_succ];omega
  have hp:=Nat.two_pow_pos d
  unfold dA;split
  · simp;omega
  · split
    · simp
    · rw[List.length_append];omega
theorem Cg (l:List ab) (f e q d:Nat) :dm 91 [.kp [.val (nI f)],.kp [.val (nI e)],.bp q 0,.kp [sl eC .no l]] (d+1) = .kp [.fn 91 [.kp [.val (nI f)],.kp [.val (nI e)],.bp q 0,.kp [sl eC .no l],dm 91 [.kp [.val (nI f)],.kp [.val (nI e)],.bp q 0,.kp [sl eC .no l]] d]] :=rfl
theorem OkL.sub {l:List ab} (h:OkL l) {a b:Nat} (hb:b≤l.length) :OkL ((l.drop a).take (b - a)) :=by
 have hl:=h.1
 refine ⟨by rw[List.length_take,List.length_drop];omega,fun i hi=> ?_⟩
 rw[List.length_take,List.length_drop] at hi
 rw[fB l a (b - a) i (by omega) (by omega)];exact h.2 _ (by omega)
theorem O3 (cx:Cx) (st:St) :jM cx st [] =some (.tup []) :=rfl
attribute [go_sem] O3
theorem wz (x y:Value) (lv:List ab) (S:List cf) :l4 1 [some [.val x,.val y,sl eC .no lv,sl dC (.own 16) S]] =true:=by simp only[nK,qn,go_sem,Bool.and_self]
theorem m5 (l:List ab) (a b:Nat) : (iJ l a b).1.length=16:= (iJ l a b).2
def c9 (l:List ab) (f e:Nat) :List cf:=if l.length=0 then [] else dA l f e 12 0 l.length
theorem zU {l:List ab} {f e:Nat} (h:l.length=0) :c9 l f e= [] :=if_pos h
theorem zV {l:List ab} {f e:Nat} (h: ¬l.length=0) :c9 l f e=dA l f e 12 0 l.length:=if_neg h
theorem s4 {p:Prop} (e:p:=by intro KZ hZ;simp -implicitDefEqProofs (disch:=first|omega| (simp only[go_sem,lA,lD,lT] <;>omega) |decide) only[go_sem,↓reduceIte,Nat.reduceEqDiff,reduceCtorEq,Nat.reduceLT,Nat.reduceBEq,Nat.reduceAdd,e33,hy];with_reducible exact hZ) :p:=e
theorem Lb {p:Prop} (e:p:=by simp -implicitDefEqProofs (disch:=first|omega| (simp only[go_sem,lA,lD,lT] <;>omega) |decide) only[go_sem,↓reduceIte,Nat.reduceEqDiff,reduceCtorEq];all_goals (rfl)) :p:=e
theorem UI {gl:Nat→C} {M:Nat} {pu:Nat→List C→Option C} (hcx:CxOK (aO gl M pu)) (l:List ab) (hl:l.length≤1000000) (h0:l≠[]) :FC Tryd.prog gl 63 [sl eC .no l] [] (sl eC (.own 2) l) [] :=by
 replace hcx:=hcx.reN (M:=8)
 refine bZ (cx:=aO gl 8 pu) (rs:= [.tmp 2]) rfl Tryd.func63 rfl rfl rfl (by simp only[List.length_cons,List.length_nil];decide) (by simp only[go_sem]) ?_
 simp only[cO,go_sem]
 have hy:=True.intro
 have e33:= @UH l h0
 refine aa hcx [] _ [] rfl rfl rfl ?_ s4
 refine ae fun K1 hK1=> ?_
 refine aa hcx [] _ [] rfl rfl rfl ?_ s4
 refine bn rfl ?_
 refine Tr.skip ?_
 refine hK1 _ ?_
 refine aa hcx [5,1000007] _ [] rfl rfl rfl ?_ s4
 exact Tr.ret Lb
theorem s5 {p:Prop} (e:p:=by intro KZ hZ;simp -implicitDefEqProofs (disch:=first|omega| (simp only[go_sem,lA,lD,lT] <;>omega) |decide) only[go_sem,↓reduceIte,Nat.reduceEqDiff,reduceCtorEq,Nat.reduceLT,Nat.reduceBEq,Nat.reduceAdd,IB,Option.isNone_none,hy];with_reducible exact hZ) :p:=e
theorem Lc {p:Prop} (e:p:=by simp -implicitDefEqProofs (disch:=first|omega| (simp only[go_sem,lA,lD,lT] <;>omega) |decide) only[go_sem,↓reduceIte,Nat.reduceEqDiff,reduceCtorEq];all_goals (rfl)) :p:=e
theorem UJ {gl:Nat→C} {M:Nat} {pu:Nat→List C→Option C} (hcx:CxOK (aO gl M pu)) (cap:Nat) (hc:cap≤maxLen) :FC Tryd.prog gl 63 [.val (.slice none 0 cap)] [] (sl eC (.own 2) []) [] :=by
 replace hcx:=hcx.reN (M:=8)
 refine bZ (cx:=aO gl 8 pu) (rs:= [.tmp 2]) rfl Tryd.func63 rfl rfl rfl (by simp only[List.length_cons,List.length_nil];decide) (by simp only[go_sem]) ?_
 simp only[cO,go_sem]
 have hy:=True.intro
 refine aa hcx [] _ [] rfl rfl rfl ?_ s5
 refine ae fun K1 hK1=> ?_
 refine aa hcx [] _ [] rfl rfl rfl ?_ s5
 refine ct rfl ?_
 refine aa hcx [] _ [] rfl rfl rfl ?_ s5
 refine Tr.live [(2,sl eC (.own 2) [])] LT ?_
 exact Tr.ret Lc
theorem s6 {p:Prop} (e:p:=by intro KZ hZ;simp -implicitDefEqProofs (disch:=first|omega| (simp only[go_sem,lA,lD,lT] <;>omega) |decide) only[go_sem,↓reduceIte,Nat.reduceEqDiff,reduceCtorEq,Nat.reduceLT,Nat.reduceBEq,Nat.reduceAdd,IB,Option.isNone_some,hy];with_reducible exact hZ) :p:=e
theorem Ld {p:Prop} (e:p:=by simp -implicitDefEqProofs (disch:=first|omega| (simp only[go_sem,lA,lD,lT] <;>omega) |decide) only[go_sem,↓reduceIte,Nat.reduceEqDiff,reduceCtorEq];all_goals (rfl)) :p:=e
theorem UK {gl:Nat→C} {M:Nat} {pu:Nat→List C→Option C} (hcx:CxOK (aO gl M pu)) (x:Addr) (cap:Nat) (hc:cap≤maxLen) :FC Tryd.prog gl 63 [.val (.slice (some x) 0 cap)] [] (sl eC (.own 2) []) [] :=by
 replace hcx:=hcx.reN (M:=8)
 refine bZ (cx:=aO gl 8 pu) (rs:= [.tmp 2]) rfl Tryd.func63 rfl rfl rfl (by simp only[List.length_cons,List.length_nil];decide) (by simp only[go_sem]) ?_
 simp only[cO,go_sem]
 have hy:=True.intro
 refine aa hcx [] _ [] rfl rfl rfl ?_ s6
 refine ae fun K1 hK1=> ?_
 refine aa hcx [] _ [] rfl rfl rfl ?_ s6
 refine bn rfl ?_
 refine Tr.skip ?_
 refine hK1 _ ?_
 refine Tr.live [(0,sl eC .no [])] (by simp only[aP,bE,↓bD,↓reduceIte,Nat.reduceEqDiff,and_true];exact FB _ _ hc) ?_
 refine aa hcx [5,1000007] _ [] rfl rfl rfl ?_ s6
 exact Tr.ret Ld
theorem oN {p:Prop} (e:p:=by intro KZ hZ;simp -implicitDefEqProofs (disch:=first|omega| (simp only[go_sem,lA,lD,lT,hgl] <;>omega) |decide) only[go_sem,↓reduceIte,Nat.reduceEqDiff,reduceCtorEq,Nat.reduceLT,Nat.reduceBEq,Nat.reduceAdd,b1,b2,hy];with_reducible exact hZ) :p:=e
theorem yT {p:Prop} (e:p:=by intro KZ hZ;simp -implicitDefEqProofs (disch:=first|omega| (simp only[go_sem,lA,lD,lT,hgl] <;>omega) |decide) only[go_sem,↓reduceIte,Nat.reduceEqDiff,reduceCtorEq,Nat.reduceLT,Nat.reduceBEq,Nat.reduceAdd,b1,b2,hy];with_reducible refine And.intro ?_ hZ;first|exact rfl|decide) :p:=e
theorem s7 {p:Prop} (e:p:=by simp -implicitDefEqProofs (disch:=first|omega| (simp only[go_sem,lA,lD,lT,hgl] <;>omega) |decide) only[go_sem,↓reduceIte,Nat.reduceEqDiff,reduceCtorEq];all_goals (first| (rw[hR];done) | (rw[hR,List.append_nil];done) | (rw[hR,List.append_assoc];done) | (rw[hR];rfl))) :p:=e
theorem IC {gl:Nat→C} {M0:Nat} {pu:Nat→List C→Option C} {hp:Nat→List C→Hp→Option (C×Hp)} (hcx:CxOK (fj gl M0 pu hp)) (l:List ab) (f e z:Nat) (lv:List ab) (S:List cf) (d a b:Nat) (hl:OkL l) (hf:f≤5000∧e≤5000) (hab:a< b∧b≤l.length∧b - a≤2 ^ d) (hS:S.length≤100000 - 2 ^ d) (hd:d≤12) (hz:b≤f∨e≤a∨b - a≤1) (hnr: ∀ (g:Nat) (xs:List C),noRefs 0 xs=false→pu g xs=none) (h51: ∀l:List ab,OkL l→0< l.length→pu 51 [sl eC .no l] =some (.agg (cl bC (jD l)))) :FC Tryd.prog gl 91 [.val (nI a),.val (nI b),.kp [.val (nI f)],.kp [.val (nI e)],.bp 0 0,.kp [sl eC .no l],dm 91 [.kp [.val (nI f)],.kp [.val (nI e)],.bp 0 0,.kp [sl eC .no l]] d] [some [.val (nI f),.val (nI z),sl eC .no lv,sl dC (.own 16) (S)]] (.tup []) [some [.val (nI f),.val (nI z),sl eC .no lv,sl dC (.own 16) (S++dA l f e d a b)]] :=by
 replace hcx:=hcx.reN (M:=45)
 refine kz (cx:=fj gl 45 pu hp) (rs:= []) rfl Tryd.func91 rfl rfl rfl (by simp only[List.length_cons,List.length_nil];decide) (by simp only[go_sem]) (wz _ _ _ _) ?_
 simp only[cO,go_sem]
 have b1:=True.intro
 have b2:=True.intro
 have hy:=True.intro
 have hll:=hl.1
 have hgl:=m5 l
 refine Tr.blk ?_
 by_cases b1:b≤f
 ·
  refine aa hcx [1000018] [some 11,some 12,some 13,some 14,some 15,some 16,some 17,some 18,some 10] [] rfl rfl rfl ?_ oN
  refine ct rfl ?_
  have hR:=oM (l:=l) (d:=d) (f:=f) (e:=e) (a:=a) (b:=b) (Or.inl b1)
  have e51:pu 51 [sl eC .no ((l.drop a).take (b - a))] =some (.agg (cl bC (iJ l a b).1)) := (h51 _ (hl.sub hab.2.1) (by rw[List.length_take,List.length_drop];omega)).trans (by rw[wy hab.1 hab.2.1];rfl)
  have hy:= @e51
  refine gK hcx dJ [20] _ [] rfl rfl rfl rfl ?_ yT
  exact s7
 by_cases b2:e≤a
 ·
  refine aa hcx [1000018] [some 11,some 12,some 13,some 14,some 15,some 16,some 17,some 18,some 10] [] rfl rfl rfl ?_ oN
  refine ct rfl ?_
  have hR:=oM (l:=l) (d:=d) (f:=f) (e:=e) (a:=a) (b:=b) (Or.inr b2)
  have e51:pu 51 [sl eC .no ((l.drop a).take (b - a))] =some (.agg (cl bC (iJ l a b).1)) := (h51 _ (hl.sub hab.2.1) (by rw[List.length_take,List.length_drop];omega)).trans (by rw[wy hab.1 hab.2.1];rfl)
  have hy:= @e51
  refine gK hcx dJ [20] _ [] rfl rfl rfl rfl ?_ yT
  exact s7
 refine aa hcx [1000018] [some 11,some 12,some 13,some 14,some 15,some 16,some 17,some 18,some 10] [] rfl rfl rfl ?_ oN
 refine bn rfl ?_
 have h29: (1< b - a) =False:=eq_false (by omega)
 have hR:=uX (l:=l) (d:=d) (f:=f) (e:=e) (a:=a) (b:=b) (fun h=>h.elim b1 b2) (by omega)
 have hy:= @h29
 refine aa hcx [1000033] _ [] rfl rfl rfl ?_ oN
 refine bn rfl ?_
 refine Tr.skip ?_
 exact s7
theorem mq {p:Prop} (e:p:=by intro KZ hZ;simp -implicitDefEqProofs (disch:=first|omega| (simp only[go_sem,lA,lD,lT,hgl] <;>omega) |decide) only[go_sem,↓reduceIte,Nat.reduceEqDiff,reduceCtorEq,Nat.reduceLT,Nat.reduceBEq,Nat.reduceAdd,hy];with_reducible exact hZ) :p:=e
theorem Lf {p:Prop} (e:p:=by simp -implicitDefEqProofs (disch:=first|omega| (simp only[go_sem,lA,lD,lT,hgl] <;>omega) |decide) only[go_sem,↓reduceIte,Nat.reduceEqDiff,reduceCtorEq];all_goals (rfl)) :p:=e
theorem UL {gl:Nat→C} {M0:Nat} {pu:Nat→List C→Option C} {hp:Nat→List C→Hp→Option (C×Hp)} (hcx:CxOK (fj gl M0 pu hp)) (l:List ab) (f e z:Nat) (lv:List ab) (S:List cf) (d a b:Nat) (hl:OkL l) (hf:f≤5000∧e≤5000) (hab:a< b∧b≤l.length∧b - a≤2 ^ (d+1)) (hS:S.length≤100000 - 2 ^ (d+1)) (hd: (d+1)≤12) (hq91: ∀ (S:List cf) (a b:Nat),S.length≤100000 - 2 ^ d→a< b∧b≤l.length∧b - a≤2 ^ d→hp 91 [.val (nI a),.val (nI b),.kp [.val (nI f)],.kp [.val (nI e)],.bp 0 0,.kp [sl eC .no l],dm 91 [.kp [.val (nI f)],.kp [.val (nI e)],.bp 0 0,.kp [sl eC .no l]] d] [some [.val (nI f),.val (nI z),sl eC .no lv,sl dC (.own 16) (S)]] =some (.tup [],[some [.val (nI f),.val (nI z),sl eC .no lv,sl dC (.own 16) (S++dA l f e d a b)]])) (hz1: ¬b≤f) (hz2: ¬e≤a) (hz3: ¬b - a≤1) (hnr: ∀ (g:Nat) (xs:List C),noRefs 0 xs=false→pu g xs=none) (hn91: ∀xs:List C,(∃b o,C.bp b o∈xs)→hp 91 xs [] =some (.top,[])) (h81: ∀x y:Nat,x≤y∧y≤4611686018427387000→pu 81 [.val (nI x),.val (nI y)] =some (.val (nI (x+aV (y - x))))) :FC Tryd.prog gl 91 [.val (nI a),.val (nI b),.kp [.val (nI f)],.kp [.val (nI e)],.bp 0 0,.kp [sl eC .no l],dm 91 [.kp [.val (nI f)],.kp [.val (nI e)],.bp 0 0,.kp [sl eC .no l]] (d+1)] [some [.val (nI f),.val (nI z),sl eC .no lv,sl dC (.own 16) (S)]] (.tup []) [some [.val (nI f),.val (nI z),sl eC .no lv,sl dC (.own 16) (S++dA l f e (d+1) a b)]] :=by
 replace hcx:=hcx.reN (M:=45)
 refine kz (cx:=fj gl 45 pu hp) (rs:= []) rfl Tryd.func91 rfl rfl rfl (by simp only[List.length_cons,List.length_nil];decide) (by simp only[go_sem]) (wz _ _ _ _) ?_
 simp only[cO,go_sem]
 have hy:=True.intro
 have hll:=hl.1
 have hgl:=m5 l
 have b1:=hz1
 have b2:=hz2
 have h29: (1< b - a) =True:=eq_true (by omega)
 refine Tr.blk ?_
 have hy:=And.intro @b1 @b2
 refine aa hcx [1000018] [some 11,some 12,some 13,some 14,some 15,some 16,some 17,some 18,some 10] [] rfl rfl rfl ?_ mq
 refine bn rfl ?_
 have hy:= @h29
 refine aa hcx [1000033] _ [] rfl rfl rfl ?_ mq
 refine ct rfl ?_
 have e81:=h81 a b (by omega)
 have hh:=fO (n:=b - a) (by omega)
 have hh2:=fu (by omega) hab.2.2
 have e2d:2 ^ (d+1) =2*2 ^ d:=by rw[Nat.pow_succ];omega
 have hp3:2 ^ (d+1)≤2 ^ 12:=Nat.pow_le_pow_right (by omega) hd
 have hs1:=kO l f e d a (a+aV (b - a))
 have e1:=hq91 S a (a+aV (b - a)) (by omega) (by omega)
 have e2:=hq91 (S++dA l f e d a (a+aV (b - a))) (a+aV (b - a)) b (by rw[List.length_append];omega) (by omega)
 have hR:=rA (l:=l) (d:=d) (f:=f) (e:=e) (a:=a) (b:=b) (fun h=>h.elim b1 b2) hz3
 rw[List.append_assoc,←hR] at e2
 have en: ∀x y:Nat,hp 91 [.val (nI x),.val (nI y),.kp [.val (nI f)],.kp [.val (nI e)],.bp 0 0,.kp [sl eC .no l],dm 91 [.kp [.val (nI f)],.kp [.val (nI e)],.bp 0 0,.kp [sl eC .no l]] d] [] =some (.top,[]) :=fun x y=>hn91 _ ⟨0,0,by simp⟩
 have ep: ∀x y:Nat,pu 91 [.val (nI x),.val (nI y),.kp [.val (nI f)],.kp [.val (nI e)],.bp 0 0,.kp [sl eC .no l],dm 91 [.kp [.val (nI f)],.kp [.val (nI e)],.bp 0 0,.kp [sl eC .no l]] d] =none:=fun x y=>hnr 91 _ rfl
 have hy:= @e81
 refine aa hcx [1000036] _ [] rfl rfl rfl ?_ mq
 refine Tr.k [0,1,6,9] ?_
 have hy:=And.intro @Cg (And.intro @e1 (And.intro @en @ep))
 refine aa hcx [] _ [] rfl rfl rfl ?_ mq
 have hy:=And.intro @Cg (And.intro @e2 (And.intro @en @ep))
 refine bG hcx [] _ [] rfl rfl rfl ?_ mq
 exact Lf
end Go.Sx
namespace Go.Sx
open Go.RowKit Go.Proofs
set_option maxRecDepth 100000
set_option maxHeartbeats 8000000
abbrev ID:=Nat×Nat×List ab×List cf
def m6 (l:List ab) (f e:Nat) :ID:= (f,l.length,(l.drop f).take (e - f),c9 l f e)
def db (l:List ab) (k:List UInt8) :ID×Nat:=
 if cW l=0 then ((if bu l k< l.length∧(gt l (bu l k)).1=k then m6 l (bu l k) (bu l k+1) else m6 l (bu l k - 1) (min (bu l k+1) l.length)),0) else ((0,0,[],[]),cW l)
def dc (l:List ab) (x y:List UInt8) :ID×Nat:=
 if cW l=0 then (if bl y x=true then ((0,0,[],[]),5) else (m6 l (bu l x - 1) (min (bu l y+1) l.length),0)) else ((0,0,[],[]),cW l)
theorem IE {l:List ab} {k:List UInt8} (h: ¬cW l=0) :db l k= ((0,0,[],[]),cW l) :=if_neg h
theorem zW {l:List ab} {k:List UInt8} {i:Nat} (hi:bu l k=i) (h:cW l=0) (h2:i< l.length) (h3: (gt l i).1=k) :db l k= (m6 l i (i+1),0) :=by subst hi;unfold db;rw[if_pos h,if_pos ⟨h2,h3⟩]
theorem rB {l:List ab} {k:List UInt8} {i:Nat} (hi:bu l k=i) (h:cW l=0) (h2: ¬ (i< l.length∧(gt l i).1=k)) :db l k= (m6 l (i - 1) (min (i+1) l.length),0) :=by subst hi;unfold db;rw[if_pos h,if_neg h2]
theorem IF {l:List ab} {x y:List UInt8} (h: ¬cW l=0) :dc l x y= ((0,0,[],[]),cW l) :=if_neg h
theorem IG {l:List ab} {x y:List UInt8} (h:cW l=0) (h2:bl y x=true) :dc l x y= ((0,0,[],[]),5) :=by unfold dc;rw[if_pos h,if_pos h2]
theorem zX {l:List ab} {x y:List UInt8} (h:cW l=0) (h2: ¬bl y x=true) :dc l x y= (m6 l (bu l x - 1) (min (bu l y+1) l.length),0) :=by unfold dc;rw[if_pos h,if_neg h2]
theorem e7 (l:List ab) (k:List UInt8) :bu l k≤l.length:=FX l k l.length
theorem wA (i:Nat) : (C.val (.int .i64 (max ((i:Int) - ((1:Nat) :Int)) ((0:Nat) :Int)))) = .val (nI (i - 1)) :=by
 congr 2;omega
theorem lQ {l:List ab} {x y:List UInt8} (hs:Srt l) (h:bl y x=false) :bu l x≤bu l y:=by
 have key: ∀n,fN l x n≤fN l y n:=fun n=>by
  unfold fN
  rw[←List.countP_eq_length_filter,←List.countP_eq_length_filter]
  exact List.countP_mono_left fun p _ hp=>FI hp h
 exact key _
theorem kX {p:Prop} (e:p:=by intro KZ hZ;simp -implicitDefEqProofs (disch:=first|omega| (simp only[go_sem,lA,lD,lT] <;>omega) |decide) only[go_sem,↓reduceIte,Nat.reduceEqDiff,reduceCtorEq,Nat.reduceLT,Nat.reduceBEq,Nat.reduceAdd,hy];with_reducible exact hZ) :p:=e
theorem O4 {p:Prop} (e:p:=by intro KZ hZ;simp -implicitDefEqProofs (disch:=first|omega| (simp only[go_sem,lA,lD,lT] <;>omega) |decide) only[go_sem,↓reduceIte,Nat.reduceEqDiff,reduceCtorEq,Nat.reduceLT,Nat.reduceBEq,Nat.reduceAdd,hy];with_reducible refine And.intro ?_ hZ;first|exact rfl|decide) :p:=e
theorem Ch {p:Prop} (e:p:=by simp -implicitDefEqProofs (disch:=first|omega| (simp only[go_sem,lA,lD,lT] <;>omega) |decide) only[go_sem,↓reduceIte,Nat.reduceEqDiff,reduceCtorEq];all_goals (first| (rw[hR];done) | (rw[hR];rfl))) :p:=e
theorem YE {gl:Nat→C} {M:Nat} {pu:Nat→List C→Option C} {hp:Nat→List C→Hp→Option (C×Hp)} (hcx:CxOK (fj gl M pu hp)) (hnr: ∀ (g:Nat) (xs:List C),noRefs 0 xs=false→pu g xs=none) (h63: ∀l:List ab,l.length≤1000000→pu 63 [sl eC .no l] =some (sl eC (.own 2) l)) (hn91: ∀xs:List C,(∃b o,C.bp b o∈xs)→hp 91 xs [] =some (.top,[])) (hq91: ∀ (pre suf:Hp) (l:List ab) (f e z:Nat) (lv:List ab) (S:List cf) (d a b:Nat),OkH pre→OkH suf→OkL l→f≤5000∧e≤5000→S.length≤100000 - 2 ^ d→d≤12→a< b∧b≤l.length∧b - a≤2 ^ d→hp 91 [.val (nI a),.val (nI b),.kp [.val (nI f)],.kp [.val (nI e)],.bp pre.length 0,.kp [sl eC .no l],dm 91 [.kp [.val (nI f)],.kp [.val (nI e)],.bp pre.length 0,.kp [sl eC .no l]] d] (pre++([some [.val (nI f),.val (nI z),sl eC .no lv,sl dC (.own 16) (S)]]++suf)) =some (.tup [],pre++([some [.val (nI f),.val (nI z),sl eC .no lv,sl dC (.own 16) (S++dA l f e d a b)]]++suf))) (l:List ab) (f e:Nat) (hl:OkL l) (hfe:f≤e∧e≤l.length) :FC Tryd.prog gl 57 [sl eC .no l,.val (nI f),.val (nI e)] [] (.agg [.val (nI f),.val (nI l.length),sl eC .no ((l.drop f).take (e - f)),sl dC .no (c9 l f e)]) [] :=by
 replace hcx:=hcx.reN (M:=27)
 refine bZ (cx:=fj gl 27 pu hp) (rs:= [.cell 6 50]) rfl Tryd.func57 rfl rfl rfl (by simp only[List.length_cons,List.length_nil];decide) (by simp only[go_sem]) ?_
 simp only[cO,go_sem]
 have hy:=True.intro
 have hll:=hl.1
 have e63:=h63 ((l.drop f).take (e - f)) (by rw[List.length_take,List.length_drop];omega)
 refine aa hcx [] _ [none,none,none,none] rfl rfl rfl ?_ kX
 have hy:= @e63
 refine bH hcx dJ [] _ [none] rfl rfl rfl rfl ?_ O4
 have hy:=True.intro
 refine aa hcx [] _ [none] rfl rfl rfl ?_ kX
 refine aa hcx [] _ [] rfl rfl rfl ?_ kX
 refine ae fun K1 hK1=> ?_
 refine Tr.k [3,6,7,8] ?_
 refine Tr.bxc 4 3 (sl dC (.own 16) []) _ rfl rfl (bR rfl) rfl ?_
 simp only[List.set_cons_succ,List.set_cons_zero]
 refine cZ hcx 0 [sl eC .no l] ?_
 refine cZ hcx 1 [.val (nI f)] ?_
 refine cZ hcx 2 [.val (nI e)] ?_
 refine B3 hcx 5 12 91 [.kp [.val (nI f)],.kp [.val (nI e)],.bp 4 0,.kp [sl eC .no l]] ?_
 refine kN hcx [3,4] ?_
 refine aa hcx [] _ [] rfl rfl rfl ?_ kX
 refine bS rfl (fun hc21=> ?_) (fun hc21=> ?_)
 ·
  have hR:=zV (l:=l) (f:=f) (e:=e) (by omega)
  have e91:=hq91 [some [.val (nI 0),.val (nI 0),.val (.slice none 0 0),.val (.slice none 0 0)]] [] l f e l.length ((l.drop f).take (e - f)) [] 12 0 l.length (OkH.cons rfl OkH.nil) OkH.nil hl (by omega) (by simp) (by omega) (by omega)
  simp only[List.cons_append,List.nil_append,List.length_cons,List.length_nil,Nat.zero_add] at e91
  have en: ∀x y:Nat,hp 91 [.val (nI x),.val (nI y),.kp [.val (nI f)],.kp [.val (nI e)],.bp 1 0,.kp [sl eC .no l],dm 91 [.kp [.val (nI f)],.kp [.val (nI e)],.bp 1 0,.kp [sl eC .no l]] 12] [] =some (.top,[]) :=fun x y=>hn91 _ ⟨1,0,by simp⟩
  have ep: ∀x y:Nat,pu 91 [.val (nI x),.val (nI y),.kp [.val (nI f)],.kp [.val (nI e)],.bp 1 0,.kp [sl eC .no l],dm 91 [.kp [.val (nI f)],.kp [.val (nI e)],.bp 1 0,.kp [sl eC .no l]] 12] =none:=fun x y=>hnr 91 _ rfl
  have hy:=And.intro @e91 (And.intro @en @ep)
  refine bG hcx [] _ [] rfl rfl rfl ?_ kX
  refine hK1 _ ?_
  refine Tr.k [6,7] ?_
  have hy:=True.intro
  refine aa hcx [] _ [] rfl rfl rfl ?_ kX
  exact Tr.ret Ch
 have hR:=zU (l:=l) (f:=f) (e:=e) (by omega)
 refine Tr.skip ?_
 refine hK1 _ ?_
 refine aa hcx [] _ [] rfl rfl rfl ?_ kX
 exact Tr.ret Ch
theorem gM {p:Prop} (e:p:=by intro KZ hZ;simp -implicitDefEqProofs (disch:=first|omega| (simp only[go_sem,lA,lD,lT] <;>omega) |decide) only[go_sem,↓reduceIte,Nat.reduceEqDiff,reduceCtorEq,Nat.reduceLT,Nat.reduceBEq,Nat.reduceAdd,e15,b1,b2,b3,hy];with_reducible exact hZ) :p:=e
theorem rC {p:Prop} (e:p:=by simp -implicitDefEqProofs (disch:=first|omega| (simp only[go_sem,lA,lD,lT] <;>omega) |decide) only[go_sem,↓reduceIte,Nat.reduceEqDiff,reduceCtorEq];all_goals (first| (rw[hR];done) | (rw[hR];rfl) | (rw[hR];simp only[m6,Nat.add_sub_cancel_left];done))) :p:=e
theorem YF {gl:Nat→C} {M:Nat} {pu:Nat→List C→Option C} (hcx:CxOK (aO gl M pu)) (h15: ∀l:List ab,LB l→pu 15 [sl eC .no l] =some (.val (nI (cW l)))) (h56: ∀ (l:List ab) (k:List UInt8),Srt l→l.length≤1000000→pu 56 [sl eC .no l,.val (str k)] =some (.val (nI (bu l k)))) (h57: ∀ (l:List ab) (f e:Nat),OkL l→f≤e∧e≤l.length→pu 57 [sl eC .no l,.val (nI f),.val (nI e)] =some (.agg [.val (nI f),.val (nI l.length),sl eC .no ((l.drop f).take (e - f)),sl dC .no (c9 l f e)])) (l:List ab) (k:List UInt8) (hl:LB l) :FC Tryd.prog gl 22 [sl eC .no l,.val (str k)] [] (.tup [.agg [.val (nI (db l k).1.1),.val (nI (db l k).1.2.1),sl eC .no (db l k).1.2.2.1,sl dC .no (db l k).1.2.2.2],.val (nI (db l k).2)]) [] :=by
 replace hcx:=hcx.reN (M:=45)
 refine bZ (cx:=aO gl 45 pu) (rs:= [.cell 4 50,.tmp 5]) rfl Tryd.func22 rfl rfl rfl (by simp only[List.length_cons,List.length_nil];decide) (by simp only[go_sem]) ?_
 simp only[cO,go_sem]
 have b1:=True.intro
 have b2:=True.intro
 have b3:=True.intro
 have hy:=True.intro
 have e15:=h15 l hl
 refine aa hcx [] _ [none] rfl rfl rfl ?_ gM
 refine ae fun K1 hK1=> ?_
 refine aa hcx [1000009] _ [] rfl rfl rfl ?_ gM
 by_cases b1:cW l=0
 ·
  have hok:=gX (l:=l) (by omega)
  have hll:=hok.1
  have hsr:=fX b1
  have e56:=h56 l k hsr (by omega)
  have hfl:=e7 l k
  obtain ⟨i,hi⟩ : ∃i,bu l k=i:= ⟨_,rfl⟩
  rw[hi] at e56 hfl
  refine aa hcx [] _ [] rfl rfl rfl ?_ gM
  refine bn rfl ?_
  refine Tr.skip ?_
  refine hK1 _ ?_
  have hy:= @e56
  refine aa hcx [1000016] _ [] rfl rfl rfl ?_ gM
  refine ae fun K2 hK2=> ?_
  by_cases b2:i< l.length
  ·
   by_cases b3: (gt l i).1=k
   ·
    have hy:=True.intro
    refine aa hcx [] [some 17,some 18,some 19,some 20,some 21,some 22,some 23,some 24,some 25,some 26,some 27,some 28,some 29] [] rfl rfl rfl ?_ gM
    refine ct rfl ?_
    have e57:=h57 l i (i+1) hok (by omega)
    have hR:=zW hi b1 b2 b3
    have hy:= @e57
    refine aa hcx [] _ [] rfl rfl rfl ?_ gM
    refine Tr.k [4,5] ?_
    exact Tr.ret rC
   have hy:=True.intro
   refine aa hcx [] [some 17,some 18,some 19,some 20,some 21,some 22,some 23,some 24,some 25,some 26,some 27,some 28,some 29] [] rfl rfl rfl ?_ gM
   refine bn rfl ?_
   refine Tr.skip ?_
   refine hK2 _ ?_
   refine Tr.k [0,4,7] ?_
   have e57:=h57 l (i - 1) (min (i+1) l.length) hok (by omega)
   have hR:=rB hi b1 (fun h=>b3 h.2)
   have hy:=And.intro @e57 (And.intro @wA @iu)
   refine aa hcx [] _ [] rfl rfl rfl ?_ gM
   exact Tr.ret rC
  have hy:=True.intro
  refine aa hcx [] [some 17,some 18,some 19,some 20,some 21,some 22,some 23,some 24,some 25,some 26,some 27,some 28,some 29] [] rfl rfl rfl ?_ gM
  refine bn rfl ?_
  refine Tr.skip ?_
  refine hK2 _ ?_
  refine Tr.k [0,4,7] ?_
  have e57:=h57 l (i - 1) (min (i+1) l.length) hok (by omega)
  have hR:=rB hi b1 (fun h=>b2 h.1)
  have hy:=And.intro @e57 (And.intro @wA @iu)
  refine aa hcx [] _ [] rfl rfl rfl ?_ gM
  exact Tr.ret rC
 skip
 refine aa hcx [] _ [] rfl rfl rfl ?_ gM
 refine ct rfl ?_
 refine aa hcx [1000013] _ [] rfl rfl rfl ?_ gM
 refine Tr.bxc 0 2 (sl eC .no []) _ rfl rfl (bR rfl) rfl ?_
 refine Tr.bxc 0 3 (sl dC .no []) _ rfl rfl (bR rfl) rfl ?_
 simp only[List.set_cons_succ,List.set_cons_zero]
 have hR:=IE (k:=k) b1
 exact Tr.ret rC
theorem jj {p:Prop} (e:p:=by intro KZ hZ;simp -implicitDefEqProofs (disch:=first|omega| (simp only[go_sem,lA,lD,lT] <;>omega) |decide) only[go_sem,↓reduceIte,Nat.reduceEqDiff,reduceCtorEq,Nat.reduceLT,Nat.reduceBEq,Nat.reduceAdd,e15,b1,b2,hy];with_reducible exact hZ) :p:=e
theorem wB {p:Prop} (e:p:=by simp -implicitDefEqProofs (disch:=first|omega| (simp only[go_sem,lA,lD,lT] <;>omega) |decide) only[go_sem,↓reduceIte,Nat.reduceEqDiff,reduceCtorEq];all_goals (first| (rw[hR];done) | (rw[hR];rfl))) :p:=e
theorem YG {gl:Nat→C} {M:Nat} {pu:Nat→List C→Option C} (hcx:CxOK (aO gl M pu)) (h15: ∀l:List ab,LB l→pu 15 [sl eC .no l] =some (.val (nI (cW l)))) (h56: ∀ (l:List ab) (k:List UInt8),Srt l→l.length≤1000000→pu 56 [sl eC .no l,.val (str k)] =some (.val (nI (bu l k)))) (h57: ∀ (l:List ab) (f e:Nat),OkL l→f≤e∧e≤l.length→pu 57 [sl eC .no l,.val (nI f),.val (nI e)] =some (.agg [.val (nI f),.val (nI l.length),sl eC .no ((l.drop f).take (e - f)),sl dC .no (c9 l f e)])) (l:List ab) (x y:List UInt8) (hl:LB l) :FC Tryd.prog gl 24 [sl eC .no l,.val (str x),.val (str y)] [] (.tup [.agg [.val (nI (dc l x y).1.1),.val (nI (dc l x y).1.2.1),sl eC .no (dc l x y).1.2.2.1,sl dC .no (dc l x y).1.2.2.2],.val (nI (dc l x y).2)]) [] :=by
 replace hcx:=hcx.reN (M:=33)
 refine bZ (cx:=aO gl 33 pu) (rs:= [.cell 6 50,.tmp 7]) rfl Tryd.func24 rfl rfl rfl (by simp only[List.length_cons,List.length_nil];decide) (by simp only[go_sem]) ?_
 simp only[cO,go_sem]
 have b1:=True.intro
 have b2:=True.intro
 have hy:=True.intro
 have e15:=h15 l hl
 refine aa hcx [] _ [none] rfl rfl rfl ?_ jj
 refine ae fun K1 hK1=> ?_
 refine aa hcx [1000010] _ [] rfl rfl rfl ?_ jj
 by_cases b1:cW l=0
 ·
  have hok:=gX (l:=l) (by omega)
  have hll:=hok.1
  have hsr:=fX b1
  have e56a:=h56 l x hsr (by omega)
  have e56b:=h56 l y hsr (by omega)
  have hfx:=e7 l x
  have hfy:=e7 l y
  refine aa hcx [] _ [] rfl rfl rfl ?_ jj
  refine bn rfl ?_
  refine Tr.skip ?_
  refine hK1 _ ?_
  refine ae fun K2 hK2=> ?_
  by_cases b2:bl y x=true
  ·
   skip
   refine aa hcx [] _ [] rfl rfl rfl ?_ jj
   refine ct rfl ?_
   refine aa hcx [] _ [] rfl rfl rfl ?_ jj
   refine Tr.bxc 0 2 (sl eC .no []) _ rfl rfl (bR rfl) rfl ?_
   refine Tr.bxc 0 3 (sl dC .no []) _ rfl rfl (bR rfl) rfl ?_
   simp only[List.set_cons_succ,List.set_cons_zero]
   have hR:=IG b1 b2
   exact Tr.ret wB
  have b2n:=b2
  have hxy:=lQ hsr (Bool.eq_false_iff.2 b2)
  replace b2:=Bool.eq_false_iff.2 b2
  refine aa hcx [] _ [] rfl rfl rfl ?_ jj
  refine bn rfl ?_
  refine Tr.skip ?_
  refine hK2 _ ?_
  refine Tr.k [0,1,2,6] ?_
  have e57:=h57 l (bu l x - 1) (min (bu l y+1) l.length) hok (by omega)
  have hR:=zX b1 b2n
  have hy:=And.intro @e56a (And.intro @e56b (And.intro @e57 (And.intro @wA @iu)))
  refine aa hcx [] _ [] rfl rfl rfl ?_ jj
  exact Tr.ret wB
 skip
 refine aa hcx [] _ [] rfl rfl rfl ?_ jj
 refine ct rfl ?_
 refine aa hcx [1000014] _ [] rfl rfl rfl ?_ jj
 refine Tr.bxc 0 2 (sl eC .no []) _ rfl rfl (bR rfl) rfl ?_
 refine Tr.bxc 0 3 (sl dC .no []) _ rfl rfl (bR rfl) rfl ?_
 simp only[List.set_cons_succ,List.set_cons_zero]
 have hR:=IF (x:=x) (y:=y) b1
 exact Tr.ret wB
end Go.Sx
namespace Go.Sx
open Go.RowKit
section
variable {cx:Cx} {Q:Ex→St→Prop} {e:List (Nat×C)} {h:Hp} {c:Code}
theorem Uw (hcx:CxOK cx) (b:Nat) (cells:List C) {e':List (Nat×C)} {h':Hp} (H:Tr cx 2 c ⟨A e',h'⟩ Q)
 (hnb:2≤b:=by decide) (hn: ∀j,j< 2→((h.at j).isSome|| (h.mp j).isSome) =true∨h[j]? =some none:=by intro j hj;match j,hj with|0,_=>exact Or.inl rfl|1,_=>exact Or.inl rfl| (k+2),h=>exact absurd h (by omega))
 (hb:h.at b=some cells:=by simp only[go_sem])
 (E: ∀K:List (Nat×C)→Hp→Prop,K e' h'→K (jx (cz (dH h b) b (fzY h b cells)) e) (kI (dH h b) b (fzY h b cells) h) :=by
   intro KZ hZ
   simp -implicitDefEqProofs only[go_sem,FA,Fr,yC,lO,ky,mV,qi,qj,qk,sK,sL,oF,sR,sS,sT,sU,sM,nH,l3,mW,yq,yr,yu,yw,yx,yz,tZ,yA,t4,t5,yB,rt,oJ,qo,sQ,oG,Option.isSome_some,Option.isSome_none,Nat.reduceBNe,Bool.true_and,Bool.and_true,Bool.false_and,Bool.true_or,Bool.false_or,↓reduceIte,Nat.reduceEqDiff,reduceCtorEq,Nat.zero_ne_one,Nat.one_ne_zero]
   with_reducible exact hZ) :Tr cx 2 c ⟨A e,h⟩ Q:=
 Fp hcx b cells hb hnb hn (E (fun x y=>Tr cx 2 c ⟨A x,y⟩ Q) H)
theorem Ux (hcx:CxOK cx) (ρ:List Nat) {e':List (Nat×C)} {h':Hp} (H:Tr cx 2 c ⟨A e',h'⟩ Q)
 (hρ:rj 2 ρ:=by exact ⟨by decide,by decide,by decide⟩)
 (E: ∀K:List (Nat×C)→Hp→Prop,K e' h'→K (jx (cC ρ) e) (jg ρ h) :=by
   intro KZ hZ
   simp -implicitDefEqProofs only[lO,ky,yn,bh,aC,aq,bf,bg,Option.map_some,Option.map_none,aI,bd,aB,ao,aK,aH,aZ,a0,a7,a8,aL,ba,af,ag,ah,aj,am,an,aJ,aA,↓reduceIte,Nat.reduceEqDiff,reduceCtorEq,Nat.reduceAdd,Nat.zero_add,Nat.one_ne_zero,Nat.zero_ne_one,bc,bj,ar,au,bm,aw,ax]
   with_reducible exact hZ) :Tr cx 2 c ⟨A e,h⟩ Q:=
 Fq hcx ρ hρ (E (fun x y=>Tr cx 2 c ⟨A x,y⟩ Q) H)
end
end Go.Sx
namespace Go.Sx
open Go.RowKit Go.Proofs
set_option maxRecDepth 100000
set_option maxHeartbeats 8000000
abbrev US:=Bool×List cf
def jE (S:List cf) :List UInt8×US:=if S.length=0 then (List.replicate 16 0,(false,S)) else ((gt S 0).1,(true,S.drop 1))
def dz (l:List ab) (f:Nat) :Nat→Nat→Nat→US→List UInt8×US
 |0,a,b,st=>if st.1=false then (List.replicate 16 0,st) else if b≤f∨f+l.length≤a then jE st.2 else (fV (gt l (a - f)),st)
 |d+1,a,b,st=>if st.1=false then (List.replicate 16 0,st) else if b≤f∨f+l.length≤a then jE st.2 else if b - a≤1 then (fV (gt l (a - f)),st)
   else (iI (dz l f d a (a+aV (b - a)) st).1 (dz l f d (a+aV (b - a)) b (dz l f d a (a+aV (b - a)) st).2).1,(dz l f d (a+aV (b - a)) b (dz l f d a (a+aV (b - a)) st).2).2)
section
variable {l:List ab} {f d a b:Nat} {st:US} {S:List cf}
theorem O5 (h:st.1=false) :dz l f d a b st= (List.replicate 16 0,st) :=by cases d<;>simp only[dz,if_pos h]
theorem s8 (h:b≤f∨f+l.length≤a) :dz l f d a b (true,S) =jE S:=by cases d<;>simp[dz,if_pos h]
theorem O6 (h: ¬ (b≤f∨f+l.length≤a)) (h2:b - a≤1) :dz l f d a b (true,S) = (fV (gt l (a - f)),(true,S)) :=by
 cases d with
 |zero=>unfold dz;rw[if_neg (by simp),if_neg h]
 |succ d=>unfold dz;rw[if_neg (by simp),if_neg h,if_pos h2]
theorem O7 (h: ¬ (b≤f∨f+l.length≤a)) (h2: ¬b - a≤1) :dz l f (d+1) a b (true,S) = (iI (dz l f d a (a+aV (b - a)) (true,S)).1 (dz l f d (a+aV (b - a)) b (dz l f d a (a+aV (b - a)) (true,S)).2).1,(dz l f d (a+aV (b - a)) b (dz l f d a (a+aV (b - a)) (true,S)).2).2) :=by
 rw[dz,if_neg (by simp),if_neg h,if_neg h2]
theorem wE (h:S.length=0) :jE S= (List.replicate 16 0,(false,S)) :=if_pos h
theorem wF (h: ¬S.length=0) :jE S= ((gt S 0).1,(true,S.drop 1)) :=if_neg h
theorem wG: (jE S).1.length=16:=by unfold jE;split;rfl;exact (gt S 0).2
end
theorem s9 (l:List ab) (f:Nat) : ∀d a b st,(dz l f d a b st).1.length=16
 |0,a,b,st=>by unfold dz;split;rfl;split;exact wG;exact dx _
 |d+1,a,b,st=>by
  unfold dz;split
  · rfl
  · split
    · exact wG
    · split
      · exact dx _
      · exact dB _ _
theorem wH (l:List ab) (f:Nat) : ∀d a b st,(dz l f d a b st).2.2.length≤st.2.length
 |0,a,b,st=>by
  unfold dz;split
  · exact Nat.le_refl _
  · split
    · unfold jE;split<;>simp
    · exact Nat.le_refl _
 |d+1,a,b,st=>by
  unfold dz;split
  · exact Nat.le_refl _
  · split
    · unfold jE;split<;>simp
    · split
      · exact Nat.le_refl _
      · exact Nat.le_trans (wH l f d _ b _) (wH l f d a _ st)
theorem wJ (x:Bool) (S:List cf) :l4 2 [some [.val (.bool x)],some [sl dC .no S]] =true:=by simp only[nK,qn,go_sem,Bool.and_self]
theorem Ci (l:List ab) (f z:Nat) (e:Nat) (S0:List cf) (q q' d:Nat) :dm 93 [.bp q 0,.kp [.val (nI f),.val (nI z),sl eC .no l,sl dC .no S0],.kp [.val (nI e)],.bp q' 0] (d+1) = .kp [.fn 93 [.bp q 0,.kp [.val (nI f),.val (nI z),sl eC .no l,sl dC .no S0],.kp [.val (nI e)],.bp q' 0,dm 93 [.bp q 0,.kp [.val (nI f),.val (nI z),sl eC .no l,sl dC .no S0],.kp [.val (nI e)],.bp q' 0] d]] :=rfl
theorem Cj {S:List cf} (h:0< S.length) :kj (cl dC S) 0 16=some (.agg (cl bC (gt S 0).1)) :=by
 have q:=uG (f:=dC) S 0 h
 rw[Nat.zero_mul,List.drop_zero] at q;exact q
theorem X3 {S:List cf} :List.take (S.length - 1) (List.drop 1 S) =List.drop 1 S:=List.take_of_length_le (by rw[List.length_drop];exact Nat.le_refl _)
theorem du {p:Prop} (e:p:=by intro KZ hZ;simp -implicitDefEqProofs (disch:=first|omega| (simp only[go_sem,lA,lD,lT,dx,dB,hgl] <;>omega) |decide) only[go_sem,↓reduceIte,Nat.reduceEqDiff,reduceCtorEq,Nat.reduceLT,Nat.reduceBEq,Nat.reduceAdd,b0,b1,b2,b3,hy];with_reducible exact hZ) :p:=e
theorem kP {p:Prop} (e:p:=by simp -implicitDefEqProofs (disch:=first|omega| (simp only[go_sem,lA,lD,lT,dx,dB,hgl] <;>omega) |decide) only[go_sem,↓reduceIte,Nat.reduceEqDiff,reduceCtorEq];all_goals (first| (simp only[hR];done) | (rw[hR];exact ⟨rfl,rfl⟩) | (rw[hR]))) :p:=e
theorem IH {gl:Nat→C} {M0:Nat} {pu:Nat→List C→Option C} {hp:Nat→List C→Hp→Option (C×Hp)} (hcx:CxOK (fj gl M0 pu hp)) (l:List ab) (f z:Nat) (S0:List cf) (st:US) (d a b:Nat) (hl:OkL l) (hf:f≤5000) (hS:st.2.length≤1000000) (hab:a< b∧b≤5000∧b - a≤2 ^ d) (hz:st.1=false∨b≤f∨f+l.length≤a∨b - a≤1) (hnr: ∀ (g:Nat) (xs:List C),noRefs 0 xs=false→pu g xs=none) (h80: ∀x:ab,x.1.length≤65536∧x.2.length≤65536→pu 80 [.agg (eC x)] =some (.agg (cl bC (fV x)))) :FC Tryd.prog gl 93 [.val (nI a),.val (nI b),.bp 0 0,.kp [.val (nI f),.val (nI z),sl eC .no l,sl dC .no S0],.kp [.val (nI (f+l.length))],.bp 1 0,dm 93 [.bp 0 0,.kp [.val (nI f),.val (nI z),sl eC .no l,sl dC .no S0],.kp [.val (nI (f+l.length))],.bp 1 0] d] [some [.val (.bool st.1)],some [sl dC .no st.2]] (.agg (cl bC (dz l f d a b st).1)) [some [.val (.bool (dz l f d a b st).2.1)],some [sl dC .no (dz l f d a b st).2.2]] :=by
 replace hcx:=hcx.reN (M:=66)
 refine kz (cx:=fj gl 66 pu hp) (rs:= [.cell 9 29]) rfl Tryd.func93 rfl rfl rfl (by simp only[List.length_cons,List.length_nil];decide) (by simp only[go_sem]) (wJ _ _) ?_
 simp only[cO,go_sem]
 have b0:=True.intro
 have b1:=True.intro
 have b2:=True.intro
 have b3:=True.intro
 have hy:=True.intro
 have hgl:=fun (S:List cf) k=> (gt S k).2
 have hll:=hl.1
 obtain ⟨en,S⟩ :=st
 simp only[] at*
 refine aa hcx [] _ [none] rfl rfl rfl ?_ du
 refine ae fun K1 hK1=> ?_
 refine Tr.blk ?_
 by_cases b0:en=true
 ·
  subst b0
  refine aa hcx [1000015] _ [] rfl rfl rfl ?_ du
  refine bn rfl ?_
  by_cases b1:b≤f
  ·
   refine aa hcx [1000026] [some 18,some 19,some 20,some 21,some 22,some 23,some 24,some 25,some 26,some 17] [] rfl rfl rfl ?_ du
   refine Tr.k [0,1,2,3,5,6,9,17] ?_
   refine ct rfl ?_
   refine ae fun K2 hK2=> ?_
   by_cases b3:S.length=0
   ·
    skip
    have hR:= (s8 (l:=l) (f:=f) (d:=d) (a:=a) (b:=b) (S:=S) (Or.inl b1)).trans (wE b3)
    have h29: (0< S.length) =False:=by simp only[eq_iff_iff,iff_false];omega
    have hy:= @h29
    refine aa hcx [] _ [] rfl rfl rfl ?_ du
    have hy:=True.intro
    refine aa hcx [] _ [] rfl rfl rfl ?_ du
    refine ct rfl ?_
    refine aa hcx [] _ [] rfl rfl rfl ?_ du
    exact Tr.ret kP
   skip
   have hR:= (s8 (l:=l) (f:=f) (d:=d) (a:=a) (b:=b) (S:=S) (Or.inl b1)).trans (wF b3)
   have h29: (0< S.length) =True:=by simp only[eq_iff_iff,iff_true];omega
   have hy:= @h29
   refine aa hcx [] _ [] rfl rfl rfl ?_ du
   have hy:=True.intro
   refine aa hcx [] _ [] rfl rfl rfl ?_ du
   refine bn rfl ?_
   refine Tr.skip ?_
   refine hK2 _ ?_
   have hr0:=Cj (S:=S) (by omega)
   have hy:= @hr0
   refine aa hcx [] _ [none] rfl rfl rfl ?_ du
   have hy:= @X3
   refine aa hcx [] _ [] rfl rfl rfl ?_ du
   have hy:=True.intro
   refine aa hcx [] _ [] rfl rfl rfl ?_ du
   exact Tr.ret kP
  by_cases b2:f+l.length≤a
  ·
   refine aa hcx [1000026] [some 18,some 19,some 20,some 21,some 22,some 23,some 24,some 25,some 26,some 17] [] rfl rfl rfl ?_ du
   refine Tr.k [0,1,2,3,5,6,9,17] ?_
   refine ct rfl ?_
   refine ae fun K3 hK3=> ?_
   by_cases b3:S.length=0
   ·
    skip
    have hR:= (s8 (l:=l) (f:=f) (d:=d) (a:=a) (b:=b) (S:=S) (Or.inr b2)).trans (wE b3)
    have h29: (0< S.length) =False:=by simp only[eq_iff_iff,iff_false];omega
    have hy:= @h29
    refine aa hcx [] _ [] rfl rfl rfl ?_ du
    have hy:=True.intro
    refine aa hcx [] _ [] rfl rfl rfl ?_ du
    refine ct rfl ?_
    refine aa hcx [] _ [] rfl rfl rfl ?_ du
    exact Tr.ret kP
   skip
   have hR:= (s8 (l:=l) (f:=f) (d:=d) (a:=a) (b:=b) (S:=S) (Or.inr b2)).trans (wF b3)
   have h29: (0< S.length) =True:=by simp only[eq_iff_iff,iff_true];omega
   have hy:= @h29
   refine aa hcx [] _ [] rfl rfl rfl ?_ du
   have hy:=True.intro
   refine aa hcx [] _ [] rfl rfl rfl ?_ du
   refine bn rfl ?_
   refine Tr.skip ?_
   refine hK3 _ ?_
   have hr0:=Cj (S:=S) (by omega)
   have hy:= @hr0
   refine aa hcx [] _ [none] rfl rfl rfl ?_ du
   have hy:= @X3
   refine aa hcx [] _ [] rfl rfl rfl ?_ du
   have hy:=True.intro
   refine aa hcx [] _ [] rfl rfl rfl ?_ du
   exact Tr.ret kP
  refine aa hcx [1000026] [some 18,some 19,some 20,some 21,some 22,some 23,some 24,some 25,some 26,some 17] [] rfl rfl rfl ?_ du
  refine Tr.k [0,1,2,3,5,6,9,17] ?_
  refine bn rfl ?_
  have hz9:=hz.resolve_left (by simp)
  have h43:b - a=1:=by omega
  have hR:=O6 (l:=l) (f:=f) (d:=d) (a:=a) (b:=b) (S:=S) (fun h=>h.elim b1 b2) (by omega)
  have e80:=h80 (gt l (a - f)) (hl.2 (a - f) (by omega))
  have hy:= @h43
  refine aa hcx [1000043] _ [] rfl rfl rfl ?_ du
  refine ct rfl ?_
  have hy:= @e80
  refine aa hcx [] _ [] rfl rfl rfl ?_ du
  exact Tr.ret kP
 replace b0:=Bool.eq_false_iff.2 b0
 subst b0
 have hR:=O5 (l:=l) (f:=f) (d:=d) (a:=a) (b:=b) (st:= (false,S)) rfl
 refine aa hcx [1000015] _ [] rfl rfl rfl ?_ du
 refine ct rfl ?_
 refine aa hcx [] _ [] rfl rfl rfl ?_ du
 exact Tr.ret kP
theorem kQ {p:Prop} (e:p:=by intro KZ hZ;simp -implicitDefEqProofs (disch:=first|omega| (simp only[go_sem,lA,lD,lT,dx,dB,hgl,hx1,hx2] <;>omega) |decide) only[go_sem,↓reduceIte,Nat.reduceEqDiff,reduceCtorEq,Nat.reduceLT,Nat.reduceBEq,Nat.reduceAdd,hy];with_reducible exact hZ) :p:=e
theorem Lg {p:Prop} (e:p:=by intro KZ hZ;simp -implicitDefEqProofs (disch:=first|omega| (simp only[go_sem,lA,lD,lT,dx,dB,hgl,hx1,hx2] <;>omega) |decide) only[go_sem,↓reduceIte,Nat.reduceEqDiff,reduceCtorEq,Nat.reduceLT,Nat.reduceBEq,Nat.reduceAdd,hy];with_reducible refine And.intro ?_ hZ;first|exact rfl|decide) :p:=e
theorem Lh {p:Prop} (e:p:=by simp -implicitDefEqProofs (disch:=first|omega| (simp only[go_sem,lA,lD,lT,dx,dB,hgl,hx1,hx2] <;>omega) |decide) only[go_sem,↓reduceIte,Nat.reduceEqDiff,reduceCtorEq];all_goals (first| (simp only[hR];done) | (rw[hR];exact ⟨rfl,rfl⟩) | (rw[hR]))) :p:=e
theorem UM {gl:Nat→C} {M0:Nat} {pu:Nat→List C→Option C} {hp:Nat→List C→Hp→Option (C×Hp)} (hcx:CxOK (fj gl M0 pu hp)) (l:List ab) (f z:Nat) (S0:List cf) (st:US) (d a b:Nat) (hl:OkL l) (hf:f≤5000) (hS:st.2.length≤1000000) (hab:a< b∧b≤5000∧b - a≤2 ^ (d+1)) (hq93: ∀ (suf:Hp) (st:US) (a b:Nat),OkH suf→st.2.length≤1000000→a< b∧b≤5000∧b - a≤2 ^ d→hp 93 [.val (nI a),.val (nI b),.bp 0 0,.kp [.val (nI f),.val (nI z),sl eC .no l,sl dC .no S0],.kp [.val (nI (f+l.length))],.bp 1 0,dm 93 [.bp 0 0,.kp [.val (nI f),.val (nI z),sl eC .no l,sl dC .no S0],.kp [.val (nI (f+l.length))],.bp 1 0] d] ([some [.val (.bool st.1)],some [sl dC .no st.2]]++suf) =some (.agg (cl bC (dz l f d a b st).1),[some [.val (.bool (dz l f d a b st).2.1)],some [sl dC .no (dz l f d a b st).2.2]]++suf)) (hz0:st.1=true) (hz1: ¬b≤f) (hz2: ¬f+l.length≤a) (hz3: ¬b - a≤1) (hnr: ∀ (g:Nat) (xs:List C),noRefs 0 xs=false→pu g xs=none) (h81: ∀x y:Nat,x≤y∧y≤4611686018427387000→pu 81 [.val (nI x),.val (nI y)] =some (.val (nI (x+aV (y - x))))) (h82: ∀a b:List UInt8,a.length=16→b.length=16→pu 82 [.agg (cl bC a),.agg (cl bC b)] =some (.agg (cl bC (iI a b)))) :FC Tryd.prog gl 93 [.val (nI a),.val (nI b),.bp 0 0,.kp [.val (nI f),.val (nI z),sl eC .no l,sl dC .no S0],.kp [.val (nI (f+l.length))],.bp 1 0,dm 93 [.bp 0 0,.kp [.val (nI f),.val (nI z),sl eC .no l,sl dC .no S0],.kp [.val (nI (f+l.length))],.bp 1 0] (d+1)] [some [.val (.bool st.1)],some [sl dC .no st.2]] (.agg (cl bC (dz l f (d+1) a b st).1)) [some [.val (.bool (dz l f (d+1) a b st).2.1)],some [sl dC .no (dz l f (d+1) a b st).2.2]] :=by
 replace hcx:=hcx.reN (M:=66)
 refine kz (cx:=fj gl 66 pu hp) (rs:= [.cell 9 29]) rfl Tryd.func93 rfl rfl rfl (by simp only[List.length_cons,List.length_nil];decide) (by simp only[go_sem]) (wJ _ _) ?_
 simp only[cO,go_sem]
 have hy:=True.intro
 have hgl:=fun (S:List cf) k=> (gt S k).2
 have hll:=hl.1
 obtain ⟨en,S⟩ :=st
 simp only[] at*
 subst hz0
 have b1:=hz1
 have b2:=hz2
 have h43: (b - a=1) =False:=eq_false (by omega)
 have hx1:=True.intro
 have hx2:=True.intro
 refine aa hcx [] _ [none] rfl rfl rfl ?_ kQ
 refine ae fun K1 hK1=> ?_
 refine Tr.blk ?_
 refine aa hcx [1000015] _ [] rfl rfl rfl ?_ kQ
 refine bn rfl ?_
 have hy:=And.intro @b1 @b2
 refine aa hcx [1000026] [some 18,some 19,some 20,some 21,some 22,some 23,some 24,some 25,some 26,some 17] [] rfl rfl rfl ?_ kQ
 refine Tr.k [0,1,2,3,5,6,9,17] ?_
 refine bn rfl ?_
 have hy:= @h43
 refine aa hcx [1000043] _ [] rfl rfl rfl ?_ kQ
 refine bn rfl ?_
 refine Tr.skip ?_
 refine hK1 _ ?_
 have e81:=h81 a b (by omega)
 have hh:=fO (n:=b - a) (by omega)
 have hh2:=fu (by omega) hab.2.2
 have e1:=hq93 [some (cl bC (List.replicate 16 0)),none] (true,S) a (a+aV (b - a)) (OkH.cons (ig _) (OkH.cons rfl OkH.nil)) hS (by omega)
 have hR:=O7 (l:=l) (f:=f) (d:=d) (a:=a) (b:=b) (S:=S) (fun h=>h.elim b1 b2) hz3
 have hB:=wH l f d a (a+aV (b - a)) (true,S)
 obtain ⟨X,hX⟩ : ∃X,X=dz l f d a (a+aV (b - a)) (true,S) := ⟨_,rfl⟩
 have hXl:X.1.length=16:=by rw[hX];exact s9 _ _ _ _ _ _
 rw[←hX] at e1 hR hB
 have hx1:=hXl
 have e2:=hq93 [some (cl bC (List.replicate 16 0))] X.2 (a+aV (b - a)) b (OkH.cons (ig _) OkH.nil) (by simp only[] at hB;omega) (by omega)
 obtain ⟨Y,hY⟩ : ∃Y,Y=dz l f d (a+aV (b - a)) b X.2:= ⟨_,rfl⟩
 have hYl:Y.1.length=16:=by rw[hY];exact s9 _ _ _ _ _ _
 rw[←hY] at e2 hR
 have hx2:=hYl
 have e82:=h82 X.1 Y.1 hXl hYl
 simp only[List.cons_append,List.nil_append] at e1 e2
 have ep: ∀x y:Nat,pu 93 [.val (nI x),.val (nI y),.bp 0 0,.kp [.val (nI f),.val (nI z),sl eC .no l,sl dC .no S0],.kp [.val (nI (f+l.length))],.bp 1 0,dm 93 [.bp 0 0,.kp [.val (nI f),.val (nI z),sl eC .no l,sl dC .no S0],.kp [.val (nI (f+l.length))],.bp 1 0] d] =none:=fun x y=>hnr 93 _ rfl
 have hy:= @e81
 refine aa hcx [1000055] _ [] rfl rfl rfl ?_ kQ
 have hy:=And.intro @Ci (And.intro @e1 @ep)
 refine aa hcx [] _ [none] rfl rfl rfl ?_ kQ
 refine Tr.k [1,6,9,11,12] ?_
 refine Tr.k [1,6,9,11,12] ?_
 refine Uw hcx 3 (cl bC X.1) ?_
 refine Ux hcx [0,1,2] ?_
 have hy:=And.intro @Ci (And.intro @e2 (And.intro @ep @e82))
 refine bH hcx dJ [] _ [] rfl rfl rfl rfl ?_ Lg
 exact Tr.ret Lh
end Go.Sx
namespace Go.Sx
open Go.RowKit Go.Proofs
theorem O8 {P:Program} {t:TypeId} (x:Int) (y:Nat) :aW P .add t (.val (.int .i64 x)) (.val (nI y)) =some (vp (.val (.int .i64 (IntKind.i64.wrap (x+((y:Nat) :Int)))))) :=by
 simp only[nI,cE,cY,ne_eq,not_true_eq_false,if_false,Option.map_some]
def gf (f z:Int) (l:List ab) :Prop:=z< 0∨4096< z∨f< 0∨z< f∨z - f< (l.length:Int)∨¬cW l=0
instance (f z:Int) (l:List ab) :Decidable (gf f z l) :=by unfold gf;infer_instance
def dZ (r:List UInt8) (f z:Int) (l:List ab) (S:List cf) :Bool:=
 if gf f z l∨(0< z∧l.length=0) then false
 else !(dN l f.toNat S z.toNat ([],0,false)).2.2.2 && decide ((dN l f.toNat S z.toNat ([],0,false)).2.2.1=S.length) && decide ((dN l f.toNat S z.toNat ([],0,false)).1=r)
theorem UN (l:List ab) (f:Nat) : ∀d a b (st:US),st.1=false→(dz l f d a b st).2.1=false:=fun d a b st h=>by rw[O5 h];exact h
theorem tc (l:List ab) (f:Nat) (S:List cf) : ∀d a b (st:TS),st.2.2=true→(bX l f S d a b st).2.2.2=true
 |0,a,b,st,h=>by
  unfold bX;split
  · unfold fY;split
    · rfl
    · exact h
  · exact h
 |d+1,a,b,st,h=>by
  unfold bX;split
  · unfold fY;split
    · rfl
    · exact h
  · split
    · exact h
    · exact tc l f S d _ b _ (tc l f S d a _ st h)
theorem Ck {S:List cf} {T:List (List UInt8)} {u:Nat} (hu:u≤S.length) :
 ((fY S (T,u,false)).2.2.2=false→jE (S.drop u) = ((fY S (T,u,false)).1,(true,S.drop (fY S (T,u,false)).2.2.1)))∧((fY S (T,u,false)).2.2.2=true→(jE (S.drop u)).2.1=false) :=by
 by_cases h:S.length≤u
 · have e:fY S (T,u,false) = (List.replicate 16 0,(T,u,true)) :=if_pos h
   have e2:jE (S.drop u) = (List.replicate 16 0,(false,S.drop u)) :=wE (by rw[List.length_drop];omega)
   rw[e,e2];exact ⟨fun q=>by simp at q,fun _=>rfl⟩
 · have e:fY S (T,u,false) = ((gt S u).1,(T,u+1,false)) :=if_neg h
   have e2:jE (S.drop u) = ((gt (S.drop u) 0).1,(true,(S.drop u).drop 1)) :=wF (by rw[List.length_drop];omega)
   have e3:gt (S.drop u) 0=gt S u:=by simp[gt,List.getD]
   rw[e,e2,e3,List.drop_drop];exact ⟨fun _=>rfl,fun q=>by simp at q⟩
theorem wK (l:List ab) (f:Nat) (S:List cf) : ∀d a b T u,u≤S.length→
 ((bX l f S d a b (T,u,false)).2.2.2=false→dz l f d a b (true,S.drop u) = ((bX l f S d a b (T,u,false)).1,(true,S.drop (bX l f S d a b (T,u,false)).2.2.1)))∧
 ((bX l f S d a b (T,u,false)).2.2.2=true→(dz l f d a b (true,S.drop u)).2.1=false)
 |0,a,b,T,u,hu=>by
  by_cases h:b≤f∨f+l.length≤a
  · rw[gS h,s8 h];exact Ck hu
  · have e1:bX l f S 0 a b (T,u,false) =ma (gt l (a - f)) (T,u,false) :=by simp only[bX,if_neg h]
    have e2:dz l f 0 a b (true,S.drop u) = (fV (gt l (a - f)),(true,S.drop u)) :=by unfold dz;rw[if_neg (by simp),if_neg h]
    rw[e1,e2];exact ⟨fun _=>rfl,fun q=>by simp[ma] at q⟩
 |d+1,a,b,T,u,hu=>by
  by_cases h:b≤f∨f+l.length≤a
  · rw[gS h,s8 h];exact Ck hu
  · by_cases h2:b - a≤1
    · rw[fl h h2,O6 h h2];exact ⟨fun _=>rfl,fun q=>by simp[ma] at q⟩
    · rw[j6 h h2,O7 h h2]
      have g1:=wK l f S d a (a+aV (b - a)) T u hu
      have hb:=i8 l f S d a (a+aV (b - a)) (T,u,false)
      generalize bX l f S d a (a+aV (b - a)) (T,u,false) =X at*
      obtain ⟨x,T1,u1,s1⟩ :=X
      simp only at g1 hb
      cases s1 with
      |true=>
       have hs:=tc l f S d (a+aV (b - a)) b (T1,u1,true) rfl
       have q:=g1.2 rfl
       refine ⟨fun e=> ?_,fun _=> ?_⟩
       · simp only[lh] at e;rw[hs] at e;cases e
       · exact UN l f d _ b _ q
      |false=>
       rw[g1.1 rfl]
       have g2:=wK l f S d (a+aV (b - a)) b T1 u1 (by omega)
       refine ⟨fun e=> ?_,fun e=> ?_⟩
       · simp only[lh] at e ⊢
         rw[g2.1 e]
       · simp only[lh] at e
         exact g2.2 e
theorem jY {r:List UInt8} {f z:Int} {l:List ab} {S:List cf} (h:gf f z l∨(0< z∧l.length=0)) :dZ r f z l S=false:=if_pos h
theorem II {r:List UInt8} {f z:Int} {l:List ab} {S:List cf} (h: ¬gf f z l) (hz:z=0) :dZ r f z l S= (decide (S.length=0) && decide (gB 0 (List.replicate 16 0) =r)) :=by
 subst hz
 unfold dZ
 rw[if_neg (fun q=>q.elim h (fun q=>absurd q.1 (by omega)))]
 rw[n8 (by rfl)]
 have e: (0=S.length) = (S.length=0) :=propext ⟨fun h=>h.symm,fun h=>h.symm⟩
 simp only[e,Bool.not_false,Bool.true_and]
 rfl
theorem UO {r:List UInt8} {f z:Nat} {l:List ab} {S:List cf} (h: ¬gf f z l) (hz: ¬z=0) (hl: ¬l.length=0) :
 dZ r f z l S= ((dz l f 12 0 z (true,S)).2.1 && decide ((dz l f 12 0 z (true,S)).2.2.length=0) && decide (gB z (dz l f 12 0 z (true,S)).1=r)) :=by
 unfold dZ
 rw[if_neg (fun q=>q.elim h (fun q=>hl q.2))]
 rw[show ((f:Nat) :Int).toNat=f from rfl,show ((z:Nat) :Int).toNat=z from rfl,mE hz]
 have g:=wK l f S 12 0 z [] 0 (Nat.zero_le _)
 have hb:=i8 l f S 12 0 z ([],0,false)
 rw[List.drop_zero] at g
 generalize bX l f S 12 0 z ([],0,false) =X at*
 obtain ⟨x,T1,u1,s1⟩ :=X
 simp only at g hb ⊢
 cases s1 with
 |true=>rw[g.2 rfl];rfl
 |false=>
  rw[g.1 rfl]
  have e: ((S.drop u1).length=0) = (u1=S.length) :=by rw[List.length_drop];apply propext;omega
  have e2:ofT 4 [cX ((z:Nat) :Int),x] =gB z x:=by unfold gB;rw[if_neg hz]
  simp only[e,e2,Bool.not_false,Bool.true_and]
def er (r k:List UInt8) (f z:Int) (l:List ab) (S:List cf) :List UInt8×Bool×Nat:=
 if dZ r f z l S=true then (if bu l k< l.length∧(gt l (bu l k)).1=k then ((gt l (bu l k)).2,true,0)
  else if (0< bu l k∨f=0)∧(bu l k< l.length∨f+l.length=z) then ([],false,0) else ([],false,17)) else ([],false,17)
def fp (r x y:List UInt8) (f z:Int) (l:List ab) (S:List cf) :List ab×Nat:=
 if bl y x=true then ([],5) else if dZ r f z l S=true then (if (0< f∧bu l x=0)∨(f+l.length< z∧bu l y=l.length) then ([],17) else ((l.drop (bu l x)).take (bu l y - bu l x),0)) else ([],17)
theorem te {r:List UInt8} {f z:Int} {l:List ab} {S:List cf} (h:dZ r f z l S=true) :cW l=0∧0≤f∧f≤z∧z≤4096∧f+l.length≤z:=by
 have hb: ¬gf f z l:=fun q=>by rw[jY (Or.inl q)] at h;cases h
 unfold gf at hb
 refine ⟨?_,by omega,by omega,by omega,by omega⟩
 by_cases e:cW l=0
 · exact e
 · exact absurd (Or.inr (Or.inr (Or.inr (Or.inr (Or.inr e))))) hb
end Go.Sx
namespace Go.Sx
open Go.RowKit Go.Proofs
set_option maxRecDepth 100000
set_option maxHeartbeats 8000000
theorem dX {p:Prop} (e:p:=by intro KZ hZ;simp -implicitDefEqProofs (disch:=first|omega| (simp only[go_sem,lA,lD,lT,hr,hx1,gC] <;>omega) |decide) only[go_sem,↓reduceIte,Nat.reduceEqDiff,reduceCtorEq,Nat.reduceLT,Nat.reduceBEq,Nat.reduceAdd,i7,e15,b1,b2,b3,b4,b5,b6,c1,c2,c3,hy];with_reducible exact hZ) :p:=e
theorem nY {p:Prop} (e:p:=by intro KZ hZ;simp -implicitDefEqProofs (disch:=first|omega| (simp only[go_sem,lA,lD,lT,hr,hx1,gC] <;>omega) |decide) only[go_sem,↓reduceIte,Nat.reduceEqDiff,reduceCtorEq,Nat.reduceLT,Nat.reduceBEq,Nat.reduceAdd,i7,e15,b1,b2,b3,b4,b5,b6,c1,c2,c3,hy];with_reducible refine And.intro ?_ hZ;first|exact rfl|decide) :p:=e
theorem gN {p:Prop} (e:p:=by simp -implicitDefEqProofs (disch:=first|omega| (simp only[go_sem,lA,lD,lT,hr,hx1,gC] <;>omega) |decide) only[go_sem,↓reduceIte,Nat.reduceEqDiff,reduceCtorEq];all_goals (first| (rw[hR];done) | (rw[hR];simp[c1];done) | (rw[hR];simp[c2,c3];done) | (rw[hR];simp[c2];done))) :p:=e
theorem YH {gl:Nat→C} {M0:Nat} {pu:Nat→List C→Option C} {hp:Nat→List C→Hp→Option (C×Hp)} (hcx:CxOK (fj gl M0 pu hp)) (r:List UInt8) (f z:Int) (l:List ab) (S:List cf) (hr:r.length=16) (hf: -9223372036854775808≤f∧f≤9223372036854775807) (hz: -9223372036854775808≤z∧z≤9223372036854775807) (hl:LB l) (hS:S.length≤1000000) (hnr: ∀ (g:Nat) (xs:List C),noRefs 0 xs=false→pu g xs=none) (h15: ∀l:List ab,LB l→pu 15 [sl eC .no l] =some (.val (nI (cW l)))) (h50: ∀ (n:Nat) (d:List UInt8),n≤4096→d.length=16→pu 50 [.val (nI n),.agg (cl bC d)] =some (.agg (cl bC (gB n d)))) (hq93: ∀ (suf:Hp) (l:List ab) (f z:Nat) (S0:List cf) (st:US) (d a b:Nat),OkH suf→OkL l→f≤5000→st.2.length≤1000000→a< b∧b≤5000∧b - a≤2 ^ d→hp 93 [.val (nI a),.val (nI b),.bp 0 0,.kp [.val (nI f),.val (nI z),sl eC .no l,sl dC .no S0],.kp [.val (nI (f+l.length))],.bp 1 0,dm 93 [.bp 0 0,.kp [.val (nI f),.val (nI z),sl eC .no l,sl dC .no S0],.kp [.val (nI (f+l.length))],.bp 1 0] d] ([some [.val (.bool st.1)],some [sl dC .no st.2]]++suf) =some (.agg (cl bC (dz l f d a b st).1),[some [.val (.bool (dz l f d a b st).2.1)],some [sl dC .no (dz l f d a b st).2.2]]++suf)) :FC Tryd.prog gl 61 [.agg [.val (.int .i64 f),.val (.int .i64 z),sl eC .no l,sl dC .no S],.agg (cl bC r)] [] (.val (.bool (dZ r f z l S))) [] :=by
 replace hcx:=hcx.reN (M:=86)
 refine bZ (cx:=fj gl 86 pu hp) (rs:= [.tmp 4]) rfl Tryd.func61 rfl rfl rfl (by simp only[List.length_cons,List.length_nil];decide) (by simp only[go_sem]) ?_
 simp only[cO,go_sem]
 have b1:=True.intro
 have b2:=True.intro
 have b3:=True.intro
 have b4:=True.intro
 have b5:=True.intro
 have b6:=True.intro
 have c1:=True.intro
 have c2:=True.intro
 have c3:=True.intro
 have hy:=True.intro
 have e15:=h15 l hl
 have hl1:=hl.1
 have hx1:=True.intro
 obtain ⟨W,hW⟩ : ∃W,IntKind.i64.wrap (f+((l.length:Nat) :Int)) =W:= ⟨_,rfl⟩
 refine aa hcx [] _ [none,none] rfl rfl rfl ?_ dX
 have hy:=And.intro @O8 @hW
 refine aa hcx [] _ [none] rfl rfl rfl ?_ dX
 refine Tr.k [2,3,5] ?_
 refine ae fun K1 hK1=> ?_
 by_cases b1:z< ((0:Nat) :Int)
 ·
  have hB:gf f z l:=Or.inl (by omega)
  have hy:=True.intro
  refine aa hcx [] [some 16,some 17,some 18,some 19,some 20,some 21,some 22,some 23,some 24,some 25,some 26,some 27,some 28,some 29,some 30,some 31,some 32,some 33,some 34,some 35,some 36,some 37,some 38,some 39,some 40,some 41,some 42,some 43,some 44,some 45,some 46,some 47] [] rfl rfl rfl ?_ dX
  refine Tr.k [2,3,5,47] ?_
  refine ct rfl ?_
  have hR:=jY (r:=r) (S:=S) (Or.inl hB)
  refine aa hcx [] _ [] rfl rfl rfl ?_ dX
  exact Tr.ret gN
 skip
 by_cases b2: ((4096:Nat) :Int) < z
 ·
  have hB:gf f z l:=Or.inr (Or.inl (by omega))
  have hy:=True.intro
  refine aa hcx [] [some 16,some 17,some 18,some 19,some 20,some 21,some 22,some 23,some 24,some 25,some 26,some 27,some 28,some 29,some 30,some 31,some 32,some 33,some 34,some 35,some 36,some 37,some 38,some 39,some 40,some 41,some 42,some 43,some 44,some 45,some 46,some 47] [] rfl rfl rfl ?_ dX
  refine Tr.k [2,3,5,47] ?_
  refine ct rfl ?_
  have hR:=jY (r:=r) (S:=S) (Or.inl hB)
  refine aa hcx [] _ [] rfl rfl rfl ?_ dX
  exact Tr.ret gN
 skip
 by_cases b3:f< ((0:Nat) :Int)
 ·
  have hB:gf f z l:=Or.inr (Or.inr (Or.inl (by omega)))
  have hy:=True.intro
  refine aa hcx [] [some 16,some 17,some 18,some 19,some 20,some 21,some 22,some 23,some 24,some 25,some 26,some 27,some 28,some 29,some 30,some 31,some 32,some 33,some 34,some 35,some 36,some 37,some 38,some 39,some 40,some 41,some 42,some 43,some 44,some 45,some 46,some 47] [] rfl rfl rfl ?_ dX
  refine Tr.k [2,3,5,47] ?_
  refine ct rfl ?_
  have hR:=jY (r:=r) (S:=S) (Or.inl hB)
  refine aa hcx [] _ [] rfl rfl rfl ?_ dX
  exact Tr.ret gN
 skip
 by_cases b4:z< f
 ·
  have hB:gf f z l:=Or.inr (Or.inr (Or.inr (Or.inl b4)))
  have hy:=True.intro
  refine aa hcx [] [some 16,some 17,some 18,some 19,some 20,some 21,some 22,some 23,some 24,some 25,some 26,some 27,some 28,some 29,some 30,some 31,some 32,some 33,some 34,some 35,some 36,some 37,some 38,some 39,some 40,some 41,some 42,some 43,some 44,some 45,some 46,some 47] [] rfl rfl rfl ?_ dX
  refine Tr.k [2,3,5,47] ?_
  refine ct rfl ?_
  have hR:=jY (r:=r) (S:=S) (Or.inl hB)
  refine aa hcx [] _ [] rfl rfl rfl ?_ dX
  exact Tr.ret gN
 rw[fg _ (by omega) (by omega)] at hW
 by_cases b5:z< W
 ·
  have hB:gf f z l:=Or.inr (Or.inr (Or.inr (Or.inr (Or.inl (by omega)))))
  have hy:=True.intro
  refine aa hcx [] [some 16,some 17,some 18,some 19,some 20,some 21,some 22,some 23,some 24,some 25,some 26,some 27,some 28,some 29,some 30,some 31,some 32,some 33,some 34,some 35,some 36,some 37,some 38,some 39,some 40,some 41,some 42,some 43,some 44,some 45,some 46,some 47] [] rfl rfl rfl ?_ dX
  refine Tr.k [2,3,5,47] ?_
  refine ct rfl ?_
  have hR:=jY (r:=r) (S:=S) (Or.inl hB)
  refine aa hcx [] _ [] rfl rfl rfl ?_ dX
  exact Tr.ret gN
 skip
 by_cases b6:cW l=0
 ·
  have hB: ¬gf f z l:=fun q=>by
   unfold gf at q;omega
  have hok:=gX (l:=l) (by omega)
  have hy:=True.intro
  refine aa hcx [] [some 16,some 17,some 18,some 19,some 20,some 21,some 22,some 23,some 24,some 25,some 26,some 27,some 28,some 29,some 30,some 31,some 32,some 33,some 34,some 35,some 36,some 37,some 38,some 39,some 40,some 41,some 42,some 43,some 44,some 45,some 46,some 47] [] rfl rfl rfl ?_ dX
  refine Tr.k [2,3,5,47] ?_
  refine bn rfl ?_
  refine Tr.skip ?_
  refine hK1 _ ?_
  refine ae fun K2 hK2=> ?_
  obtain ⟨z,rfl⟩ : ∃n:Nat,z= (n:Int) := ⟨z.toNat,by omega⟩
  obtain ⟨f,rfl⟩ : ∃n:Nat,f= (n:Int) := ⟨f.toNat,by omega⟩
  have hW2:W= ((f+l.length:Nat) :Int) :=by omega
  have hll:=hok.1
  refine aa hcx [] _ [] rfl rfl rfl ?_ dX
  refine bS rfl (fun hc50=> ?_) (fun hc50=> ?_)
  ·
   have hR:=II (r:=r) (S:=S) hB (by omega)
   have e50:=h50 0 (List.replicate 16 0) (by omega) rfl
   by_cases c1:S.length=0
   ·
    have hy:=And.intro @e50 @fF
    refine bH hcx dJ [1000060] [some 51,some 52,some 53,some 54,some 55,some 56,some 57,some 58,some 59,some 60,some 4] [] rfl rfl rfl rfl ?_ nY
    exact Tr.ret gN
   have hy:=And.intro @e50 @fF
   refine bH hcx dJ [1000060] [some 51,some 52,some 53,some 54,some 55,some 56,some 57,some 58,some 59,some 60,some 4] [] rfl rfl rfl rfl ?_ nY
   exact Tr.ret gN
  refine Tr.skip ?_
  refine hK2 _ ?_
  refine ae fun K3 hK3=> ?_
  refine aa hcx [] _ [] rfl rfl rfl ?_ dX
  refine bS rfl (fun hc64=> ?_) (fun hc64=> ?_)
  ·
   have hR:=jY (r:=r) (S:=S) (f:=f) (z:=z) (l:=l) (Or.inr ⟨by omega,by omega⟩)
   refine aa hcx [] _ [] rfl rfl rfl ?_ dX
   exact Tr.ret gN
  refine Tr.skip ?_
  refine hK3 _ ?_
  refine aa hcx [] _ [none,none] rfl rfl rfl ?_ dX
  refine aa hcx [] _ [none] rfl rfl rfl ?_ dX
  refine aa hcx [] _ [] rfl rfl rfl ?_ dX
  subst hW2
  simp only[i7]
  refine Tr.k [2,3,6,7,8] ?_
  refine cZ hcx 0 [.val (nI f),.val (nI z),sl eC .no l,sl dC .no S] ?_
  refine cZ hcx 2 [.val (nI (f+l.length))] ?_
  refine B3 hcx 5 12 93 [.bp 4 0,.kp [.val (nI f),.val (nI z),sl eC .no l,sl dC .no S],.kp [.val (nI (f+l.length))],.bp 3 0] ?_
  refine kN hcx [4,3,1] ?_
  have e93:=hq93 [some (cl bC r),none] l f z S (true,S) 12 0 z (OkH.cons (ig _) (OkH.cons rfl OkH.nil)) hok (by omega) hS (by omega)
  have hR:=UO (r:=r) (S:=S) hB (by omega) (by omega)
  obtain ⟨X,hX⟩ : ∃X,X=dz l f 12 0 z (true,S) := ⟨_,rfl⟩
  have hXl:X.1.length=16:=by rw[hX];exact s9 _ _ _ _ _ _
  rw[←hX] at e93 hR
  have hx1:=hXl
  simp only[List.cons_append,List.nil_append] at e93
  have e50:=h50 z X.1 (by omega) hXl
  have ep: ∀x y:Nat,pu 93 [.val (nI x),.val (nI y),.bp 0 0,.kp [.val (nI f),.val (nI z),sl eC .no l,sl dC .no S],.kp [.val (nI (f+l.length))],.bp 1 0,dm 93 [.bp 0 0,.kp [.val (nI f),.val (nI z),sl eC .no l,sl dC .no S],.kp [.val (nI (f+l.length))],.bp 1 0] 12] =none:=fun x y=>hnr 93 _ rfl
  have hy:=And.intro @e93 @ep
  refine aa hcx [] _ [none] rfl rfl rfl ?_ dX
  refine Tr.k [2,3,6,7,9] ?_
  by_cases c2:X.2.1=true
  ·
   skip
   by_cases c3:X.2.2.length=0
   ·
    have hy:=And.intro @e50 @fF
    refine bH hcx dJ [1000085] [some 72,some 73,some 74,some 75,some 76,some 77,some 78,some 79,some 80,some 81,some 82,some 83,some 84,some 85,some 4] [] rfl rfl rfl rfl ?_ nY
    exact Tr.ret gN
   have hy:=And.intro @e50 @fF
   refine bH hcx dJ [1000085] [some 72,some 73,some 74,some 75,some 76,some 77,some 78,some 79,some 80,some 81,some 82,some 83,some 84,some 85,some 4] [] rfl rfl rfl rfl ?_ nY
   exact Tr.ret gN
  replace c2:=Bool.eq_false_iff.2 c2
  have hy:=And.intro @e50 @fF
  refine bH hcx dJ [1000085] [some 72,some 73,some 74,some 75,some 76,some 77,some 78,some 79,some 80,some 81,some 82,some 83,some 84,some 85,some 4] [] rfl rfl rfl rfl ?_ nY
  exact Tr.ret gN
 have hB:gf f z l:=Or.inr (Or.inr (Or.inr (Or.inr (Or.inr b6))))
 have hy:=True.intro
 refine aa hcx [] [some 16,some 17,some 18,some 19,some 20,some 21,some 22,some 23,some 24,some 25,some 26,some 27,some 28,some 29,some 30,some 31,some 32,some 33,some 34,some 35,some 36,some 37,some 38,some 39,some 40,some 41,some 42,some 43,some 44,some 45,some 46,some 47] [] rfl rfl rfl ?_ dX
 refine Tr.k [2,3,5,47] ?_
 refine ct rfl ?_
 have hR:=jY (r:=r) (S:=S) (Or.inl hB)
 refine aa hcx [] _ [] rfl rfl rfl ?_ dX
 exact Tr.ret gN
end Go.Sx
