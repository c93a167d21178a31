/-
   And what follows.
-/
import Derived.Test.YtmoaeemdlompaaaDoorPap
set_option linter.unusedSimpArgs false
set_option linter.unusedVariables false
namespace Go.Sx
open Go.RowKit Go.Proofs
set_option maxRecDepth 100000
set_option maxHeartbeats 8000000
theorem KX {l:List ab} (h:l≠[]) : (sl eC .no l).nilS?=some false:=by
 cases l with
 |nil=>exact absurd rfl h
 |cons x l=>rfl
theorem Cd (u:TypeDesc) (y:Nat) (z:List Value) (hz:z.length=2) (h1:z.all (·.oneCell') =true) :jA (some ⟨u,2,y,z⟩) 0 [] =some (vp (sl eC .full [])) :=by
 unfold jA
 simp only[hz,h1]
 rw[if_pos ⟨by decide,by decide,trivial,trivial⟩]
 rfl
theorem FH (u:TypeDesc) (y:Nat) (z:List Value) (hz:z.length=16) (h1:z.all (·.oneCell') =true) :jA (some ⟨u,16,y,z⟩) 0 [] =some (vp (sl dC .full [])) :=by
 unfold jA
 simp only[hz,h1]
 rw[if_pos ⟨by decide,by decide,trivial,trivial⟩]
 rfl
attribute [go_sem] Cd FH
theorem X0:Tryd.prog.eqGuardType Tryd.prog.depth 33=false:=by kernel_rfl
theorem UF {l:List ab} (h:l≠[]) (op:BinOp) :aV Tryd.prog op 33 (sl eC .no l) (.val (.slice none 0 0)) =oz op false:=XT op (KX h) (fun v e=>by cases e) xj X0
theorem Iz (a:Option Addr) (n c:Nat) (op:BinOp) :aV Tryd.prog op 33 (.val (.slice a n c)) (.val (.slice none 0 0)) =oz op a.isNone:=XX op a n c xj X0
def iI (l:List ab) (a b:Nat) :ce:= ⟨dB l 12 a b,fw _ _ _ _⟩
theorem fA (l:List ab) (a n x:Nat) (h:a+x< l.length) (hx:x< n) :gt ((l.drop a).take n) x=gt l (a+x) :=by
 simp only[gt,List.getD,List.getElem?_take,List.getElem?_drop,if_pos hx]
theorem qO (l:List ab) (a n:Nat) : ∀d x y,a+y≤l.length→x< y→y≤n→dB ((l.drop a).take n) d x y=dB l d (a+x) (a+y)
 |0,x,y,h1,h2,h3=>by
  show fU _=fU _
  rw[fA l a n x (by omega) (by omega)]
 |d+1,x,y,h1,h2,h3=>by
  have e:a+y - (a+x) =y - x:=by omega
  unfold dB
  rw[e]
  by_cases h:y - x≤1
  · rw[if_pos h,if_pos h,fA l a n x (by omega) (by omega)]
  · have hh:=fN (n:=y - x) (by omega)
    rw[if_neg h,if_neg h,qO l a n d x _ (by omega) (by omega) (by omega),qO l a n d _ y (by omega) (by omega) (by omega),Nat.add_assoc]
theorem ww {l:List ab} {a b:Nat} (h1:a< b) (h2:b≤l.length) :jC ((l.drop a).take (b - a)) =dB l 12 a b:=by
 have hl: ((l.drop a).take (b - a)).length=b - a:=by rw[List.length_take,List.length_drop];omega
 unfold jC
 rw[hl,qO l a (b - a) 12 0 (b - a) (by omega) (by omega) (Nat.le_refl _)]
 congr 1
 omega
def dz (l:List ab) (f e:Nat) :Nat→Nat→Nat→List ce
 |0,a,b=>if b≤f∨e≤a then [iI l a b] else []
 |d+1,a,b=>if b≤f∨e≤a then [iI l a b] else if b - a≤1 then [] else dz l f e d a (a+aU (b - a))++dz l f e d (a+aU (b - a)) b
section
variable {l:List ab} {f e d a b:Nat}
theorem oL (h:b≤f∨e≤a) :dz l f e d a b= [iI l a b] :=by cases d<;>simp only[dz,if_pos h]
theorem uV (h: ¬ (b≤f∨e≤a)) (h2:b - a≤1) :dz l f e d a b= [] :=by cases d<;>simp only[dz,if_neg h,if_pos h2]
theorem rz (h: ¬ (b≤f∨e≤a)) (h2: ¬b - a≤1) :dz l f e (d+1) a b=dz l f e d a (a+aU (b - a))++dz l f e d (a+aU (b - a)) b:=by simp only[dz,if_neg h,if_neg h2]
end
theorem kN (l:List ab) (f e:Nat) : ∀d a b,(dz l f e d a b).length≤2 ^ d
 |0,a,b=>by unfold dz;split<;>simp
 |d+1,a,b=>by
  have h1:=kN l f e d a (a+aU (b - a))
  have h2:=kN l f e d (a+aU (b - a)) b
  have e2:2 ^ (d+1) =2*2 ^ d:=by rw[Nat.pow_succ];omega
  have hp:=Nat.two_pow_pos d
  unfold dz;split
  · simp;omega
  · split
    · simp
    · rw[List.length_append];omega
theorem Ce (l:List ab) (f e q d:Nat) :dl 91 [.kp [.val (nI f)],.kp [.val (nI e)],.bp q 0,.kp [sl eC .no l]] (d+1) = .kp [.fn 91 [.kp [.val (nI f)],.kp [.val (nI e)],.bp q 0,.kp [sl eC .no l],dl 91 [.kp [.val (nI f)],.kp [.val (nI e)],.bp q 0,.kp [sl eC .no l]] d]] :=rfl
theorem OkL.sub {l:List ab} (h:OkL l) {a b:Nat} (hb:b≤l.length) :OkL ((l.drop a).take (b - a)) :=by
 have hl:=h.1
 refine ⟨by rw[List.length_take,List.length_drop];omega,fun i hi=> ?_⟩
 rw[List.length_take,List.length_drop] at hi
 rw[fA l a (b - a) i (by omega) (by omega)];exact h.2 _ (by omega)
theorem O0 (cx:Cx) (st:St) :jL cx st [] =some (.tup []) :=rfl
attribute [go_sem] O0
theorem wx (x y:Value) (lv:List ab) (S:List ce) :l3 1 [some [.val x,.val y,sl eC .no lv,sl dC (.own 16) S]] =true:=by simp only[nJ,qm,go_sem,Bool.and_self]
theorem m4 (l:List ab) (a b:Nat) : (iI l a b).1.length=16:= (iI l a b).2
def c8 (l:List ab) (f e:Nat) :List ce:=if l.length=0 then [] else dz l f e 12 0 l.length
theorem zS {l:List ab} {f e:Nat} (h:l.length=0) :c8 l f e= [] :=if_pos h
theorem zT {l:List ab} {f e:Nat} (h: ¬l.length=0) :c8 l f e=dz l f e 12 0 l.length:=if_neg h
theorem s3 {p:Prop} (e:p:=by intro KZ hZ;simp -implicitDefEqProofs (disch:=first|omega| (simp only[go_sem,lA,lD,lT] <;>omega) |decide) only[go_sem,↓reduceIte,Nat.reduceEqDiff,reduceCtorEq,Nat.reduceLT,Nat.reduceBEq,Nat.reduceAdd,e33,hy];with_reducible exact hZ) :p:=e
theorem KY {p:Prop} (e:p:=by simp -implicitDefEqProofs (disch:=first|omega| (simp only[go_sem,lA,lD,lT] <;>omega) |decide) only[go_sem,↓reduceIte,Nat.reduceEqDiff,reduceCtorEq];all_goals (rfl)) :p:=e
theorem UG {gl:Nat→C} {M:Nat} {pu:Nat→List C→Option C} (hcx:CxOK (aN gl M pu)) (l:List ab) (hl:l.length≤1000000) (h0:l≠[]) :FC Tryd.prog gl 63 [sl eC .no l] [] (sl eC (.own 2) l) [] :=by
 replace hcx:=hcx.reN (M:=8)
 refine bY (cx:=aN gl 8 pu) (rs:= [.tmp 2]) rfl Tryd.func63 rfl rfl rfl (by simp only[List.length_cons,List.length_nil];decide) (by simp only[go_sem]) ?_
 simp only[cM,go_sem]
 have hy:=True.intro
 have e33:= @UF l h0
 refine aa hcx [] _ [] rfl rfl rfl ?_ s3
 refine ae fun K1 hK1=> ?_
 refine aa hcx [] _ [] rfl rfl rfl ?_ s3
 refine bm rfl ?_
 refine Tr.skip ?_
 refine hK1 _ ?_
 refine aa hcx [5,1000007] _ [] rfl rfl rfl ?_ s3
 exact Tr.ret KY
theorem s4 {p:Prop} (e:p:=by intro KZ hZ;simp -implicitDefEqProofs (disch:=first|omega| (simp only[go_sem,lA,lD,lT] <;>omega) |decide) only[go_sem,↓reduceIte,Nat.reduceEqDiff,reduceCtorEq,Nat.reduceLT,Nat.reduceBEq,Nat.reduceAdd,Iz,Option.isNone_none,hy];with_reducible exact hZ) :p:=e
theorem La {p:Prop} (e:p:=by simp -implicitDefEqProofs (disch:=first|omega| (simp only[go_sem,lA,lD,lT] <;>omega) |decide) only[go_sem,↓reduceIte,Nat.reduceEqDiff,reduceCtorEq];all_goals (rfl)) :p:=e
theorem UH {gl:Nat→C} {M:Nat} {pu:Nat→List C→Option C} (hcx:CxOK (aN gl M pu)) (cap:Nat) (hc:cap≤maxLen) :FC Tryd.prog gl 63 [.val (.slice none 0 cap)] [] (sl eC (.own 2) []) [] :=by
 replace hcx:=hcx.reN (M:=8)
 refine bY (cx:=aN gl 8 pu) (rs:= [.tmp 2]) rfl Tryd.func63 rfl rfl rfl (by simp only[List.length_cons,List.length_nil];decide) (by simp only[go_sem]) ?_
 simp only[cM,go_sem]
 have hy:=True.intro
 refine aa hcx [] _ [] rfl rfl rfl ?_ s4
 refine ae fun K1 hK1=> ?_
 refine aa hcx [] _ [] rfl rfl rfl ?_ s4
 refine cr rfl ?_
 refine aa hcx [] _ [] rfl rfl rfl ?_ s4
 refine Tr.live [(2,sl eC (.own 2) [])] LT ?_
 exact Tr.ret La
theorem s5 {p:Prop} (e:p:=by intro KZ hZ;simp -implicitDefEqProofs (disch:=first|omega| (simp only[go_sem,lA,lD,lT] <;>omega) |decide) only[go_sem,↓reduceIte,Nat.reduceEqDiff,reduceCtorEq,Nat.reduceLT,Nat.reduceBEq,Nat.reduceAdd,Iz,Option.isNone_some,hy];with_reducible exact hZ) :p:=e
theorem Lb {p:Prop} (e:p:=by simp -implicitDefEqProofs (disch:=first|omega| (simp only[go_sem,lA,lD,lT] <;>omega) |decide) only[go_sem,↓reduceIte,Nat.reduceEqDiff,reduceCtorEq];all_goals (rfl)) :p:=e
theorem UI {gl:Nat→C} {M:Nat} {pu:Nat→List C→Option C} (hcx:CxOK (aN gl M pu)) (x:Addr) (cap:Nat) (hc:cap≤maxLen) :FC Tryd.prog gl 63 [.val (.slice (some x) 0 cap)] [] (sl eC (.own 2) []) [] :=by
 replace hcx:=hcx.reN (M:=8)
 refine bY (cx:=aN gl 8 pu) (rs:= [.tmp 2]) rfl Tryd.func63 rfl rfl rfl (by simp only[List.length_cons,List.length_nil];decide) (by simp only[go_sem]) ?_
 simp only[cM,go_sem]
 have hy:=True.intro
 refine aa hcx [] _ [] rfl rfl rfl ?_ s5
 refine ae fun K1 hK1=> ?_
 refine aa hcx [] _ [] rfl rfl rfl ?_ s5
 refine bm rfl ?_
 refine Tr.skip ?_
 refine hK1 _ ?_
 refine Tr.live [(0,sl eC .no [])] (by simp only[aO,bD,↓bB,↓reduceIte,Nat.reduceEqDiff,and_true];exact Fz _ _ hc) ?_
 refine aa hcx [5,1000007] _ [] rfl rfl rfl ?_ s5
 exact Tr.ret Lb
theorem oM {p:Prop} (e:p:=by intro KZ hZ;simp -implicitDefEqProofs (disch:=first|omega| (simp only[go_sem,lA,lD,lT,hgl] <;>omega) |decide) only[go_sem,↓reduceIte,Nat.reduceEqDiff,reduceCtorEq,Nat.reduceLT,Nat.reduceBEq,Nat.reduceAdd,b1,b2,hy];with_reducible exact hZ) :p:=e
theorem yR {p:Prop} (e:p:=by intro KZ hZ;simp -implicitDefEqProofs (disch:=first|omega| (simp only[go_sem,lA,lD,lT,hgl] <;>omega) |decide) only[go_sem,↓reduceIte,Nat.reduceEqDiff,reduceCtorEq,Nat.reduceLT,Nat.reduceBEq,Nat.reduceAdd,b1,b2,hy];with_reducible refine And.intro ?_ hZ;first|exact rfl|decide) :p:=e
theorem s6 {p:Prop} (e:p:=by simp -implicitDefEqProofs (disch:=first|omega| (simp only[go_sem,lA,lD,lT,hgl] <;>omega) |decide) only[go_sem,↓reduceIte,Nat.reduceEqDiff,reduceCtorEq];all_goals (first| (rw[hR];done) | (rw[hR,List.append_nil];done) | (rw[hR,List.append_assoc];done) | (rw[hR];rfl))) :p:=e
theorem IA {gl:Nat→C} {M0:Nat} {pu:Nat→List C→Option C} {hp:Nat→List C→Hp→Option (C×Hp)} (hcx:CxOK (fh gl M0 pu hp)) (l:List ab) (f e z:Nat) (lv:List ab) (S:List ce) (d a b:Nat) (hl:OkL l) (hf:f≤5000∧e≤5000) (hab:a< b∧b≤l.length∧b - a≤2 ^ d) (hS:S.length≤100000 - 2 ^ d) (hd:d≤12) (hz:b≤f∨e≤a∨b - a≤1) (hnr: ∀ (g:Nat) (xs:List C),noRefs 0 xs=false→pu g xs=none) (h51: ∀l:List ab,OkL l→0< l.length→pu 51 [sl eC .no l] =some (.agg (cl bC (jC l)))) :FC Tryd.prog gl 91 [.val (nI a),.val (nI b),.kp [.val (nI f)],.kp [.val (nI e)],.bp 0 0,.kp [sl eC .no l],dl 91 [.kp [.val (nI f)],.kp [.val (nI e)],.bp 0 0,.kp [sl eC .no l]] d] [some [.val (nI f),.val (nI z),sl eC .no lv,sl dC (.own 16) (S)]] (.tup []) [some [.val (nI f),.val (nI z),sl eC .no lv,sl dC (.own 16) (S++dz l f e d a b)]] :=by
 replace hcx:=hcx.reN (M:=45)
 refine ky (cx:=fh gl 45 pu hp) (rs:= []) rfl Tryd.func91 rfl rfl rfl (by simp only[List.length_cons,List.length_nil];decide) (by simp only[go_sem]) (wx _ _ _ _) ?_
 simp only[cM,go_sem]
 have b1:=True.intro
 have b2:=True.intro
 have hy:=True.intro
 have hll:=hl.1
 have hgl:=m4 l
 refine Tr.blk ?_
 by_cases b1:b≤f
 ·
  refine aa hcx [1000018] [some 11,some 12,some 13,some 14,some 15,some 16,some 17,some 18,some 10] [] rfl rfl rfl ?_ oM
  refine cr rfl ?_
  have hR:=oL (l:=l) (d:=d) (f:=f) (e:=e) (a:=a) (b:=b) (Or.inl b1)
  have e51:pu 51 [sl eC .no ((l.drop a).take (b - a))] =some (.agg (cl bC (iI l a b).1)) := (h51 _ (hl.sub hab.2.1) (by rw[List.length_take,List.length_drop];omega)).trans (by rw[ww hab.1 hab.2.1];rfl)
  have hy:= @e51
  refine gJ hcx dI [20] _ [] rfl rfl rfl rfl ?_ yR
  exact s6
 by_cases b2:e≤a
 ·
  refine aa hcx [1000018] [some 11,some 12,some 13,some 14,some 15,some 16,some 17,some 18,some 10] [] rfl rfl rfl ?_ oM
  refine cr rfl ?_
  have hR:=oL (l:=l) (d:=d) (f:=f) (e:=e) (a:=a) (b:=b) (Or.inr b2)
  have e51:pu 51 [sl eC .no ((l.drop a).take (b - a))] =some (.agg (cl bC (iI l a b).1)) := (h51 _ (hl.sub hab.2.1) (by rw[List.length_take,List.length_drop];omega)).trans (by rw[ww hab.1 hab.2.1];rfl)
  have hy:= @e51
  refine gJ hcx dI [20] _ [] rfl rfl rfl rfl ?_ yR
  exact s6
 refine aa hcx [1000018] [some 11,some 12,some 13,some 14,some 15,some 16,some 17,some 18,some 10] [] rfl rfl rfl ?_ oM
 refine bm rfl ?_
 have h29: (1< b - a) =False:=eq_false (by omega)
 have hR:=uV (l:=l) (d:=d) (f:=f) (e:=e) (a:=a) (b:=b) (fun h=>h.elim b1 b2) (by omega)
 have hy:= @h29
 refine aa hcx [1000033] _ [] rfl rfl rfl ?_ oM
 refine bm rfl ?_
 refine Tr.skip ?_
 exact s6
theorem mn {p:Prop} (e:p:=by intro KZ hZ;simp -implicitDefEqProofs (disch:=first|omega| (simp only[go_sem,lA,lD,lT,hgl] <;>omega) |decide) only[go_sem,↓reduceIte,Nat.reduceEqDiff,reduceCtorEq,Nat.reduceLT,Nat.reduceBEq,Nat.reduceAdd,hy];with_reducible exact hZ) :p:=e
theorem Lc {p:Prop} (e:p:=by simp -implicitDefEqProofs (disch:=first|omega| (simp only[go_sem,lA,lD,lT,hgl] <;>omega) |decide) only[go_sem,↓reduceIte,Nat.reduceEqDiff,reduceCtorEq];all_goals (rfl)) :p:=e
theorem UJ {gl:Nat→C} {M0:Nat} {pu:Nat→List C→Option C} {hp:Nat→List C→Hp→Option (C×Hp)} (hcx:CxOK (fh gl M0 pu hp)) (l:List ab) (f e z:Nat) (lv:List ab) (S:List ce) (d a b:Nat) (hl:OkL l) (hf:f≤5000∧e≤5000) (hab:a< b∧b≤l.length∧b - a≤2 ^ (d+1)) (hS:S.length≤100000 - 2 ^ (d+1)) (hd: (d+1)≤12) (hq91: ∀ (S:List ce) (a b:Nat),S.length≤100000 - 2 ^ d→a< b∧b≤l.length∧b - a≤2 ^ d→hp 91 [.val (nI a),.val (nI b),.kp [.val (nI f)],.kp [.val (nI e)],.bp 0 0,.kp [sl eC .no l],dl 91 [.kp [.val (nI f)],.kp [.val (nI e)],.bp 0 0,.kp [sl eC .no l]] d] [some [.val (nI f),.val (nI z),sl eC .no lv,sl dC (.own 16) (S)]] =some (.tup [],[some [.val (nI f),.val (nI z),sl eC .no lv,sl dC (.own 16) (S++dz l f e d a b)]])) (hz1: ¬b≤f) (hz2: ¬e≤a) (hz3: ¬b - a≤1) (hnr: ∀ (g:Nat) (xs:List C),noRefs 0 xs=false→pu g xs=none) (hn91: ∀xs:List C,(∃b o,C.bp b o∈xs)→hp 91 xs [] =some (.top,[])) (h81: ∀x y:Nat,x≤y∧y≤4611686018427387000→pu 81 [.val (nI x),.val (nI y)] =some (.val (nI (x+aU (y - x))))) :FC Tryd.prog gl 91 [.val (nI a),.val (nI b),.kp [.val (nI f)],.kp [.val (nI e)],.bp 0 0,.kp [sl eC .no l],dl 91 [.kp [.val (nI f)],.kp [.val (nI e)],.bp 0 0,.kp [sl eC .no l]] (d+1)] [some [.val (nI f),.val (nI z),sl eC .no lv,sl dC (.own 16) (S)]] (.tup []) [some [.val (nI f),.val (nI z),sl eC .no lv,sl dC (.own 16) (S++dz l f e (d+1) a b)]] :=by
 replace hcx:=hcx.reN (M:=45)
 refine ky (cx:=fh gl 45 pu hp) (rs:= []) rfl Tryd.func91 rfl rfl rfl (by simp only[List.length_cons,List.length_nil];decide) (by simp only[go_sem]) (wx _ _ _ _) ?_
 simp only[cM,go_sem]
 have hy:=True.intro
 have hll:=hl.1
 have hgl:=m4 l
 have b1:=hz1
 have b2:=hz2
 have h29: (1< b - a) =True:=eq_true (by omega)
 refine Tr.blk ?_
 have hy:=And.intro @b1 @b2
 refine aa hcx [1000018] [some 11,some 12,some 13,some 14,some 15,some 16,some 17,some 18,some 10] [] rfl rfl rfl ?_ mn
 refine bm rfl ?_
 have hy:= @h29
 refine aa hcx [1000033] _ [] rfl rfl rfl ?_ mn
 refine cr rfl ?_
 have e81:=h81 a b (by omega)
 have hh:=fN (n:=b - a) (by omega)
 have hh2:=fq (by omega) hab.2.2
 have e2d:2 ^ (d+1) =2*2 ^ d:=by rw[Nat.pow_succ];omega
 have hp3:2 ^ (d+1)≤2 ^ 12:=Nat.pow_le_pow_right (by omega) hd
 have hs1:=kN l f e d a (a+aU (b - a))
 have e1:=hq91 S a (a+aU (b - a)) (by omega) (by omega)
 have e2:=hq91 (S++dz l f e d a (a+aU (b - a))) (a+aU (b - a)) b (by rw[List.length_append];omega) (by omega)
 have hR:=rz (l:=l) (d:=d) (f:=f) (e:=e) (a:=a) (b:=b) (fun h=>h.elim b1 b2) hz3
 rw[List.append_assoc,←hR] at e2
 have en: ∀x y:Nat,hp 91 [.val (nI x),.val (nI y),.kp [.val (nI f)],.kp [.val (nI e)],.bp 0 0,.kp [sl eC .no l],dl 91 [.kp [.val (nI f)],.kp [.val (nI e)],.bp 0 0,.kp [sl eC .no l]] d] [] =some (.top,[]) :=fun x y=>hn91 _ ⟨0,0,by simp⟩
 have ep: ∀x y:Nat,pu 91 [.val (nI x),.val (nI y),.kp [.val (nI f)],.kp [.val (nI e)],.bp 0 0,.kp [sl eC .no l],dl 91 [.kp [.val (nI f)],.kp [.val (nI e)],.bp 0 0,.kp [sl eC .no l]] d] =none:=fun x y=>hnr 91 _ rfl
 have hy:= @e81
 refine aa hcx [1000036] _ [] rfl rfl rfl ?_ mn
 refine Tr.k [0,1,6,9] ?_
 have hy:=And.intro @Ce (And.intro @e1 (And.intro @en @ep))
 refine aa hcx [] _ [] rfl rfl rfl ?_ mn
 have hy:=And.intro @Ce (And.intro @e2 (And.intro @en @ep))
 refine bF hcx [] _ [] rfl rfl rfl ?_ mn
 exact Lc
end Go.Sx
namespace Go.Sx
open Go.RowKit Go.Proofs
set_option maxRecDepth 100000
set_option maxHeartbeats 8000000
abbrev IB:=Nat×Nat×List ab×List ce
def m5 (l:List ab) (f e:Nat) :IB:= (f,l.length,(l.drop f).take (e - f),c8 l f e)
def da (l:List ab) (k:List UInt8) :IB×Nat:=
 if cV l=0 then ((if br l k< l.length∧(gt l (br l k)).1=k then m5 l (br l k) (br l k+1) else m5 l (br l k - 1) (min (br l k+1) l.length)),0) else ((0,0,[],[]),cV l)
def db (l:List ab) (x y:List UInt8) :IB×Nat:=
 if cV l=0 then (if bl y x=true then ((0,0,[],[]),5) else (m5 l (br l x - 1) (min (br l y+1) l.length),0)) else ((0,0,[],[]),cV l)
theorem IC {l:List ab} {k:List UInt8} (h: ¬cV l=0) :da l k= ((0,0,[],[]),cV l) :=if_neg h
theorem zU {l:List ab} {k:List UInt8} {i:Nat} (hi:br l k=i) (h:cV l=0) (h2:i< l.length) (h3: (gt l i).1=k) :da l k= (m5 l i (i+1),0) :=by subst hi;unfold da;rw[if_pos h,if_pos ⟨h2,h3⟩]
theorem rA {l:List ab} {k:List UInt8} {i:Nat} (hi:br l k=i) (h:cV l=0) (h2: ¬ (i< l.length∧(gt l i).1=k)) :da l k= (m5 l (i - 1) (min (i+1) l.length),0) :=by subst hi;unfold da;rw[if_pos h,if_neg h2]
theorem ID {l:List ab} {x y:List UInt8} (h: ¬cV l=0) :db l x y= ((0,0,[],[]),cV l) :=if_neg h
theorem IE {l:List ab} {x y:List UInt8} (h:cV l=0) (h2:bl y x=true) :db l x y= ((0,0,[],[]),5) :=by unfold db;rw[if_pos h,if_pos h2]
theorem zV {l:List ab} {x y:List UInt8} (h:cV l=0) (h2: ¬bl y x=true) :db l x y= (m5 l (br l x - 1) (min (br l y+1) l.length),0) :=by unfold db;rw[if_pos h,if_neg h2]
theorem eZ (l:List ab) (k:List UInt8) :br l k≤l.length:=FV l k l.length
theorem wy (i:Nat) : (C.val (.int .i64 (max ((i:Int) - ((1:Nat) :Int)) ((0:Nat) :Int)))) = .val (nI (i - 1)) :=by
 congr 2;omega
theorem lP {l:List ab} {x y:List UInt8} (hs:Srt l) (h:bl y x=false) :br l x≤br l y:=by
 have key: ∀n,fM l x n≤fM l y n:=fun n=>by
  unfold fM
  rw[←List.countP_eq_length_filter,←List.countP_eq_length_filter]
  exact List.countP_mono_left fun p _ hp=>FG hp h
 exact key _
theorem kW {p:Prop} (e:p:=by intro KZ hZ;simp -implicitDefEqProofs (disch:=first|omega| (simp only[go_sem,lA,lD,lT] <;>omega) |decide) only[go_sem,↓reduceIte,Nat.reduceEqDiff,reduceCtorEq,Nat.reduceLT,Nat.reduceBEq,Nat.reduceAdd,hy];with_reducible exact hZ) :p:=e
theorem O2 {p:Prop} (e:p:=by intro KZ hZ;simp -implicitDefEqProofs (disch:=first|omega| (simp only[go_sem,lA,lD,lT] <;>omega) |decide) only[go_sem,↓reduceIte,Nat.reduceEqDiff,reduceCtorEq,Nat.reduceLT,Nat.reduceBEq,Nat.reduceAdd,hy];with_reducible refine And.intro ?_ hZ;first|exact rfl|decide) :p:=e
theorem Cf {p:Prop} (e:p:=by simp -implicitDefEqProofs (disch:=first|omega| (simp only[go_sem,lA,lD,lT] <;>omega) |decide) only[go_sem,↓reduceIte,Nat.reduceEqDiff,reduceCtorEq];all_goals (first| (rw[hR];done) | (rw[hR];rfl))) :p:=e
theorem YC {gl:Nat→C} {M:Nat} {pu:Nat→List C→Option C} {hp:Nat→List C→Hp→Option (C×Hp)} (hcx:CxOK (fh gl M pu hp)) (hnr: ∀ (g:Nat) (xs:List C),noRefs 0 xs=false→pu g xs=none) (h63: ∀l:List ab,l.length≤1000000→pu 63 [sl eC .no l] =some (sl eC (.own 2) l)) (hn91: ∀xs:List C,(∃b o,C.bp b o∈xs)→hp 91 xs [] =some (.top,[])) (hq91: ∀ (pre suf:Hp) (l:List ab) (f e z:Nat) (lv:List ab) (S:List ce) (d a b:Nat),OkH pre→OkH suf→OkL l→f≤5000∧e≤5000→S.length≤100000 - 2 ^ d→d≤12→a< b∧b≤l.length∧b - a≤2 ^ d→hp 91 [.val (nI a),.val (nI b),.kp [.val (nI f)],.kp [.val (nI e)],.bp pre.length 0,.kp [sl eC .no l],dl 91 [.kp [.val (nI f)],.kp [.val (nI e)],.bp pre.length 0,.kp [sl eC .no l]] d] (pre++([some [.val (nI f),.val (nI z),sl eC .no lv,sl dC (.own 16) (S)]]++suf)) =some (.tup [],pre++([some [.val (nI f),.val (nI z),sl eC .no lv,sl dC (.own 16) (S++dz l f e d a b)]]++suf))) (l:List ab) (f e:Nat) (hl:OkL l) (hfe:f≤e∧e≤l.length) :FC Tryd.prog gl 57 [sl eC .no l,.val (nI f),.val (nI e)] [] (.agg [.val (nI f),.val (nI l.length),sl eC .no ((l.drop f).take (e - f)),sl dC .no (c8 l f e)]) [] :=by
 replace hcx:=hcx.reN (M:=27)
 refine bY (cx:=fh gl 27 pu hp) (rs:= [.cell 6 50]) rfl Tryd.func57 rfl rfl rfl (by simp only[List.length_cons,List.length_nil];decide) (by simp only[go_sem]) ?_
 simp only[cM,go_sem]
 have hy:=True.intro
 have hll:=hl.1
 have e63:=h63 ((l.drop f).take (e - f)) (by rw[List.length_take,List.length_drop];omega)
 refine aa hcx [] _ [none,none,none,none] rfl rfl rfl ?_ kW
 have hy:= @e63
 refine bG hcx dI [] _ [none] rfl rfl rfl rfl ?_ O2
 have hy:=True.intro
 refine aa hcx [] _ [none] rfl rfl rfl ?_ kW
 refine aa hcx [] _ [] rfl rfl rfl ?_ kW
 refine ae fun K1 hK1=> ?_
 refine Tr.k [3,6,7,8] ?_
 refine Tr.bxc 4 3 (sl dC (.own 16) []) _ rfl rfl (bM rfl) rfl ?_
 simp only[List.set_cons_succ,List.set_cons_zero]
 refine cY hcx 0 [sl eC .no l] ?_
 refine cY hcx 1 [.val (nI f)] ?_
 refine cY hcx 2 [.val (nI e)] ?_
 refine B1 hcx 5 12 91 [.kp [.val (nI f)],.kp [.val (nI e)],.bp 4 0,.kp [sl eC .no l]] ?_
 refine kM hcx [3,4] ?_
 refine aa hcx [] _ [] rfl rfl rfl ?_ kW
 refine bR rfl (fun hc21=> ?_) (fun hc21=> ?_)
 ·
  have hR:=zT (l:=l) (f:=f) (e:=e) (by omega)
  have e91:=hq91 [some [.val (nI 0),.val (nI 0),.val (.slice none 0 0),.val (.slice none 0 0)]] [] l f e l.length ((l.drop f).take (e - f)) [] 12 0 l.length (OkH.cons rfl OkH.nil) OkH.nil hl (by omega) (by simp) (by omega) (by omega)
  simp only[List.cons_append,List.nil_append,List.length_cons,List.length_nil,Nat.zero_add] at e91
  have en: ∀x y:Nat,hp 91 [.val (nI x),.val (nI y),.kp [.val (nI f)],.kp [.val (nI e)],.bp 1 0,.kp [sl eC .no l],dl 91 [.kp [.val (nI f)],.kp [.val (nI e)],.bp 1 0,.kp [sl eC .no l]] 12] [] =some (.top,[]) :=fun x y=>hn91 _ ⟨1,0,by simp⟩
  have ep: ∀x y:Nat,pu 91 [.val (nI x),.val (nI y),.kp [.val (nI f)],.kp [.val (nI e)],.bp 1 0,.kp [sl eC .no l],dl 91 [.kp [.val (nI f)],.kp [.val (nI e)],.bp 1 0,.kp [sl eC .no l]] 12] =none:=fun x y=>hnr 91 _ rfl
  have hy:=And.intro @e91 (And.intro @en @ep)
  refine bF hcx [] _ [] rfl rfl rfl ?_ kW
  refine hK1 _ ?_
  refine Tr.k [6,7] ?_
  have hy:=True.intro
  refine aa hcx [] _ [] rfl rfl rfl ?_ kW
  exact Tr.ret Cf
 have hR:=zS (l:=l) (f:=f) (e:=e) (by omega)
 refine Tr.skip ?_
 refine hK1 _ ?_
 refine aa hcx [] _ [] rfl rfl rfl ?_ kW
 exact Tr.ret Cf
theorem gL {p:Prop} (e:p:=by intro KZ hZ;simp -implicitDefEqProofs (disch:=first|omega| (simp only[go_sem,lA,lD,lT] <;>omega) |decide) only[go_sem,↓reduceIte,Nat.reduceEqDiff,reduceCtorEq,Nat.reduceLT,Nat.reduceBEq,Nat.reduceAdd,e15,b1,b2,b3,hy];with_reducible exact hZ) :p:=e
theorem rB {p:Prop} (e:p:=by simp -implicitDefEqProofs (disch:=first|omega| (simp only[go_sem,lA,lD,lT] <;>omega) |decide) only[go_sem,↓reduceIte,Nat.reduceEqDiff,reduceCtorEq];all_goals (first| (rw[hR];done) | (rw[hR];rfl) | (rw[hR];simp only[m5,Nat.add_sub_cancel_left];done))) :p:=e
theorem YD {gl:Nat→C} {M:Nat} {pu:Nat→List C→Option C} (hcx:CxOK (aN gl M pu)) (h15: ∀l:List ab,LB l→pu 15 [sl eC .no l] =some (.val (nI (cV l)))) (h56: ∀ (l:List ab) (k:List UInt8),Srt l→l.length≤1000000→pu 56 [sl eC .no l,.val (str k)] =some (.val (nI (br l k)))) (h57: ∀ (l:List ab) (f e:Nat),OkL l→f≤e∧e≤l.length→pu 57 [sl eC .no l,.val (nI f),.val (nI e)] =some (.agg [.val (nI f),.val (nI l.length),sl eC .no ((l.drop f).take (e - f)),sl dC .no (c8 l f e)])) (l:List ab) (k:List UInt8) (hl:LB l) :FC Tryd.prog gl 22 [sl eC .no l,.val (str k)] [] (.tup [.agg [.val (nI (da l k).1.1),.val (nI (da l k).1.2.1),sl eC .no (da l k).1.2.2.1,sl dC .no (da l k).1.2.2.2],.val (nI (da l k).2)]) [] :=by
 replace hcx:=hcx.reN (M:=45)
 refine bY (cx:=aN gl 45 pu) (rs:= [.cell 4 50,.tmp 5]) rfl Tryd.func22 rfl rfl rfl (by simp only[List.length_cons,List.length_nil];decide) (by simp only[go_sem]) ?_
 simp only[cM,go_sem]
 have b1:=True.intro
 have b2:=True.intro
 have b3:=True.intro
 have hy:=True.intro
 have e15:=h15 l hl
 refine aa hcx [] _ [none] rfl rfl rfl ?_ gL
 refine ae fun K1 hK1=> ?_
 refine aa hcx [1000009] _ [] rfl rfl rfl ?_ gL
 by_cases b1:cV l=0
 ·
  have hok:=gW (l:=l) (by omega)
  have hll:=hok.1
  have hsr:=fW b1
  have e56:=h56 l k hsr (by omega)
  have hfl:=eZ l k
  obtain ⟨i,hi⟩ : ∃i,br l k=i:= ⟨_,rfl⟩
  rw[hi] at e56 hfl
  refine aa hcx [] _ [] rfl rfl rfl ?_ gL
  refine bm rfl ?_
  refine Tr.skip ?_
  refine hK1 _ ?_
  have hy:= @e56
  refine aa hcx [1000016] _ [] rfl rfl rfl ?_ gL
  refine ae fun K2 hK2=> ?_
  by_cases b2:i< l.length
  ·
   by_cases b3: (gt l i).1=k
   ·
    have hy:=True.intro
    refine aa hcx [] [some 17,some 18,some 19,some 20,some 21,some 22,some 23,some 24,some 25,some 26,some 27,some 28,some 29] [] rfl rfl rfl ?_ gL
    refine cr rfl ?_
    have e57:=h57 l i (i+1) hok (by omega)
    have hR:=zU hi b1 b2 b3
    have hy:= @e57
    refine aa hcx [] _ [] rfl rfl rfl ?_ gL
    refine Tr.k [4,5] ?_
    exact Tr.ret rB
   have hy:=True.intro
   refine aa hcx [] [some 17,some 18,some 19,some 20,some 21,some 22,some 23,some 24,some 25,some 26,some 27,some 28,some 29] [] rfl rfl rfl ?_ gL
   refine bm rfl ?_
   refine Tr.skip ?_
   refine hK2 _ ?_
   refine Tr.k [0,4,7] ?_
   have e57:=h57 l (i - 1) (min (i+1) l.length) hok (by omega)
   have hR:=rA hi b1 (fun h=>b3 h.2)
   have hy:=And.intro @e57 (And.intro @wy @ir)
   refine aa hcx [] _ [] rfl rfl rfl ?_ gL
   exact Tr.ret rB
  have hy:=True.intro
  refine aa hcx [] [some 17,some 18,some 19,some 20,some 21,some 22,some 23,some 24,some 25,some 26,some 27,some 28,some 29] [] rfl rfl rfl ?_ gL
  refine bm rfl ?_
  refine Tr.skip ?_
  refine hK2 _ ?_
  refine Tr.k [0,4,7] ?_
  have e57:=h57 l (i - 1) (min (i+1) l.length) hok (by omega)
  have hR:=rA hi b1 (fun h=>b2 h.1)
  have hy:=And.intro @e57 (And.intro @wy @ir)
  refine aa hcx [] _ [] rfl rfl rfl ?_ gL
  exact Tr.ret rB
 skip
 refine aa hcx [] _ [] rfl rfl rfl ?_ gL
 refine cr rfl ?_
 refine aa hcx [1000013] _ [] rfl rfl rfl ?_ gL
 refine Tr.bxc 0 2 (sl eC .no []) _ rfl rfl (bM rfl) rfl ?_
 refine Tr.bxc 0 3 (sl dC .no []) _ rfl rfl (bM rfl) rfl ?_
 simp only[List.set_cons_succ,List.set_cons_zero]
 have hR:=IC (k:=k) b1
 exact Tr.ret rB
theorem ji {p:Prop} (e:p:=by intro KZ hZ;simp -implicitDefEqProofs (disch:=first|omega| (simp only[go_sem,lA,lD,lT] <;>omega) |decide) only[go_sem,↓reduceIte,Nat.reduceEqDiff,reduceCtorEq,Nat.reduceLT,Nat.reduceBEq,Nat.reduceAdd,e15,b1,b2,hy];with_reducible exact hZ) :p:=e
theorem wz {p:Prop} (e:p:=by simp -implicitDefEqProofs (disch:=first|omega| (simp only[go_sem,lA,lD,lT] <;>omega) |decide) only[go_sem,↓reduceIte,Nat.reduceEqDiff,reduceCtorEq];all_goals (first| (rw[hR];done) | (rw[hR];rfl))) :p:=e
theorem YE {gl:Nat→C} {M:Nat} {pu:Nat→List C→Option C} (hcx:CxOK (aN gl M pu)) (h15: ∀l:List ab,LB l→pu 15 [sl eC .no l] =some (.val (nI (cV l)))) (h56: ∀ (l:List ab) (k:List UInt8),Srt l→l.length≤1000000→pu 56 [sl eC .no l,.val (str k)] =some (.val (nI (br l k)))) (h57: ∀ (l:List ab) (f e:Nat),OkL l→f≤e∧e≤l.length→pu 57 [sl eC .no l,.val (nI f),.val (nI e)] =some (.agg [.val (nI f),.val (nI l.length),sl eC .no ((l.drop f).take (e - f)),sl dC .no (c8 l f e)])) (l:List ab) (x y:List UInt8) (hl:LB l) :FC Tryd.prog gl 24 [sl eC .no l,.val (str x),.val (str y)] [] (.tup [.agg [.val (nI (db l x y).1.1),.val (nI (db l x y).1.2.1),sl eC .no (db l x y).1.2.2.1,sl dC .no (db l x y).1.2.2.2],.val (nI (db l x y).2)]) [] :=by
 replace hcx:=hcx.reN (M:=33)
 refine bY (cx:=aN gl 33 pu) (rs:= [.cell 6 50,.tmp 7]) rfl Tryd.func24 rfl rfl rfl (by simp only[List.length_cons,List.length_nil];decide) (by simp only[go_sem]) ?_
 simp only[cM,go_sem]
 have b1:=True.intro
 have b2:=True.intro
 have hy:=True.intro
 have e15:=h15 l hl
 refine aa hcx [] _ [none] rfl rfl rfl ?_ ji
 refine ae fun K1 hK1=> ?_
 refine aa hcx [1000010] _ [] rfl rfl rfl ?_ ji
 by_cases b1:cV l=0
 ·
  have hok:=gW (l:=l) (by omega)
  have hll:=hok.1
  have hsr:=fW b1
  have e56a:=h56 l x hsr (by omega)
  have e56b:=h56 l y hsr (by omega)
  have hfx:=eZ l x
  have hfy:=eZ l y
  refine aa hcx [] _ [] rfl rfl rfl ?_ ji
  refine bm rfl ?_
  refine Tr.skip ?_
  refine hK1 _ ?_
  refine ae fun K2 hK2=> ?_
  by_cases b2:bl y x=true
  ·
   skip
   refine aa hcx [] _ [] rfl rfl rfl ?_ ji
   refine cr rfl ?_
   refine aa hcx [] _ [] rfl rfl rfl ?_ ji
   refine Tr.bxc 0 2 (sl eC .no []) _ rfl rfl (bM rfl) rfl ?_
   refine Tr.bxc 0 3 (sl dC .no []) _ rfl rfl (bM rfl) rfl ?_
   simp only[List.set_cons_succ,List.set_cons_zero]
   have hR:=IE b1 b2
   exact Tr.ret wz
  have b2n:=b2
  have hxy:=lP hsr (Bool.eq_false_iff.2 b2)
  replace b2:=Bool.eq_false_iff.2 b2
  refine aa hcx [] _ [] rfl rfl rfl ?_ ji
  refine bm rfl ?_
  refine Tr.skip ?_
  refine hK2 _ ?_
  refine Tr.k [0,1,2,6] ?_
  have e57:=h57 l (br l x - 1) (min (br l y+1) l.length) hok (by omega)
  have hR:=zV b1 b2n
  have hy:=And.intro @e56a (And.intro @e56b (And.intro @e57 (And.intro @wy @ir)))
  refine aa hcx [] _ [] rfl rfl rfl ?_ ji
  exact Tr.ret wz
 skip
 refine aa hcx [] _ [] rfl rfl rfl ?_ ji
 refine cr rfl ?_
 refine aa hcx [1000014] _ [] rfl rfl rfl ?_ ji
 refine Tr.bxc 0 2 (sl eC .no []) _ rfl rfl (bM rfl) rfl ?_
 refine Tr.bxc 0 3 (sl dC .no []) _ rfl rfl (bM rfl) rfl ?_
 simp only[List.set_cons_succ,List.set_cons_zero]
 have hR:=ID (x:=x) (y:=y) b1
 exact Tr.ret wz
end Go.Sx
namespace Go.Sx
open Go.RowKit
section
variable {cx:Cx} {Q:Ex→St→Prop} {e:List (Nat×C)} {h:Hp} {c:Code}
theorem Uu (hcx:CxOK cx) (b:Nat) (cells:List C) {e':List (Nat×C)} {h':Hp} (H:Tr cx 2 c ⟨A e',h'⟩ Q)
 (hnb:2≤b:=by decide) (hn: ∀j,j< 2→((h.at j).isSome|| (h.mp j).isSome) =true∨h[j]? =some none:=by intro j hj;match j,hj with|0,_=>exact Or.inl rfl|1,_=>exact Or.inl rfl| (k+2),h=>exact absurd h (by omega))
 (hb:h.at b=some cells:=by simp only[go_sem])
 (E: ∀K:List (Nat×C)→Hp→Prop,K e' h'→K (jw (cy (dG h b) b (fzY h b cells)) e) (kH (dG h b) b (fzY h b cells) h) :=by
  intro KZ hZ
  simp -implicitDefEqProofs only[go_sem,Fy,Fp,yA,lN,kx,mU,qh,qi,qj,sJ,sK,oE,sQ,sR,sS,sT,sL,nG,lZ,mV,yn,yp,yq,yr,yu,yw,tX,yx,tY,tZ,yz,rq,oI,qn,sP,oF,Option.isSome_some,Option.isSome_none,Nat.reduceBNe,Bool.true_and,Bool.and_true,Bool.false_and,Bool.true_or,Bool.false_or,↓reduceIte,Nat.reduceEqDiff,reduceCtorEq,Nat.zero_ne_one,Nat.one_ne_zero]
  with_reducible exact hZ) :Tr cx 2 c ⟨A e,h⟩ Q:=
 Fn hcx b cells hb hnb hn (E (fun x y=>Tr cx 2 c ⟨A x,y⟩ Q) H)
theorem Uv (hcx:CxOK cx) (ρ:List Nat) {e':List (Nat×C)} {h':Hp} (H:Tr cx 2 c ⟨A e',h'⟩ Q)
 (hρ:rh 2 ρ:=by exact ⟨by decide,by decide,by decide⟩)
 (E: ∀K:List (Nat×C)→Hp→Prop,K e' h'→K (jw (cB ρ) e) (jf ρ h) :=by
  intro KZ hZ
  simp -implicitDefEqProofs only[lN,kx,yl,bg,aB,aq,bd,bf,Option.map_some,Option.map_none,aH,bc,aA,ao,aJ,aG,aY,aZ,a0,a7,aK,a8,af,ag,ah,aj,am,an,aI,ay,↓reduceIte,Nat.reduceEqDiff,reduceCtorEq,Nat.reduceAdd,Nat.zero_add,Nat.one_ne_zero,Nat.zero_ne_one,ba,bh,ar,as,bj,au,aw]
  with_reducible exact hZ) :Tr cx 2 c ⟨A e,h⟩ Q:=
 Fo hcx ρ hρ (E (fun x y=>Tr cx 2 c ⟨A x,y⟩ Q) H)
end
end Go.Sx
namespace Go.Sx
open Go.RowKit Go.Proofs
set_option maxRecDepth 100000
set_option maxHeartbeats 8000000
abbrev US:=Bool×List ce
def jD (S:List ce) :List UInt8×US:=if S.length=0 then (List.replicate 16 0,(false,S)) else ((gt S 0).1,(true,S.drop 1))
def dy (l:List ab) (f:Nat) :Nat→Nat→Nat→US→List UInt8×US
 |0,a,b,st=>if st.1=false then (List.replicate 16 0,st) else if b≤f∨f+l.length≤a then jD st.2 else (fU (gt l (a - f)),st)
 |d+1,a,b,st=>if st.1=false then (List.replicate 16 0,st) else if b≤f∨f+l.length≤a then jD st.2 else if b - a≤1 then (fU (gt l (a - f)),st)
   else (iH (dy l f d a (a+aU (b - a)) st).1 (dy l f d (a+aU (b - a)) b (dy l f d a (a+aU (b - a)) st).2).1,(dy l f d (a+aU (b - a)) b (dy l f d a (a+aU (b - a)) st).2).2)
section
variable {l:List ab} {f d a b:Nat} {st:US} {S:List ce}
theorem O3 (h:st.1=false) :dy l f d a b st= (List.replicate 16 0,st) :=by cases d<;>simp only[dy,if_pos h]
theorem s7 (h:b≤f∨f+l.length≤a) :dy l f d a b (true,S) =jD S:=by cases d<;>simp[dy,if_pos h]
theorem O4 (h: ¬ (b≤f∨f+l.length≤a)) (h2:b - a≤1) :dy l f d a b (true,S) = (fU (gt l (a - f)),(true,S)) :=by
 cases d with
 |zero=>unfold dy;rw[if_neg (by simp),if_neg h]
 |succ d=>unfold dy;rw[if_neg (by simp),if_neg h,if_pos h2]
theorem O5 (h: ¬ (b≤f∨f+l.length≤a)) (h2: ¬b - a≤1) :dy l f (d+1) a b (true,S) = (iH (dy l f d a (a+aU (b - a)) (true,S)).1 (dy l f d (a+aU (b - a)) b (dy l f d a (a+aU (b - a)) (true,S)).2).1,(dy l f d (a+aU (b - a)) b (dy l f d a (a+aU (b - a)) (true,S)).2).2) :=by
 rw[dy,if_neg (by simp),if_neg h,if_neg h2]
theorem wA (h:S.length=0) :jD S= (List.replicate 16 0,(false,S)) :=if_pos h
theorem wB (h: ¬S.length=0) :jD S= ((gt S 0).1,(true,S.drop 1)) :=if_neg h
theorem wE: (jD S).1.length=16:=by unfold jD;split;rfl;exact (gt S 0).2
end
theorem s8 (l:List ab) (f:Nat) : ∀d a b st,(dy l f d a b st).1.length=16
 |0,a,b,st=>by unfold dy;split;rfl;split;exact wE;exact dw _
 |d+1,a,b,st=>by
  unfold dy;split
  · rfl
  · split
    · exact wE
    · split
      · exact dw _
      · exact dA _ _
theorem wF (l:List ab) (f:Nat) : ∀d a b st,(dy l f d a b st).2.2.length≤st.2.length
 |0,a,b,st=>by
  unfold dy;split
  · exact Nat.le_refl _
  · split
    · unfold jD;split<;>simp
    · exact Nat.le_refl _
 |d+1,a,b,st=>by
  unfold dy;split
  · exact Nat.le_refl _
  · split
    · unfold jD;split<;>simp
    · split
      · exact Nat.le_refl _
      · exact Nat.le_trans (wF l f d _ b _) (wF l f d a _ st)
theorem wG (x:Bool) (S:List ce) :l3 2 [some [.val (.bool x)],some [sl dC .no S]] =true:=by simp only[nJ,qm,go_sem,Bool.and_self]
theorem Cg (l:List ab) (f z:Nat) (e:Nat) (S0:List ce) (q q' d:Nat) :dl 93 [.bp q 0,.kp [.val (nI f),.val (nI z),sl eC .no l,sl dC .no S0],.kp [.val (nI e)],.bp q' 0] (d+1) = .kp [.fn 93 [.bp q 0,.kp [.val (nI f),.val (nI z),sl eC .no l,sl dC .no S0],.kp [.val (nI e)],.bp q' 0,dl 93 [.bp q 0,.kp [.val (nI f),.val (nI z),sl eC .no l,sl dC .no S0],.kp [.val (nI e)],.bp q' 0] d]] :=rfl
theorem Ch {S:List ce} (h:0< S.length) :kh (cl dC S) 0 16=some (.agg (cl bC (gt S 0).1)) :=by
 have q:=uE (f:=dC) S 0 h
 rw[Nat.zero_mul,List.drop_zero] at q;exact q
theorem X1 {S:List ce} :List.take (S.length - 1) (List.drop 1 S) =List.drop 1 S:=List.take_of_length_le (by rw[List.length_drop];exact Nat.le_refl _)
theorem dr {p:Prop} (e:p:=by intro KZ hZ;simp -implicitDefEqProofs (disch:=first|omega| (simp only[go_sem,lA,lD,lT,dw,dA,hgl] <;>omega) |decide) only[go_sem,↓reduceIte,Nat.reduceEqDiff,reduceCtorEq,Nat.reduceLT,Nat.reduceBEq,Nat.reduceAdd,b0,b1,b2,b3,hy];with_reducible exact hZ) :p:=e
theorem kO {p:Prop} (e:p:=by simp -implicitDefEqProofs (disch:=first|omega| (simp only[go_sem,lA,lD,lT,dw,dA,hgl] <;>omega) |decide) only[go_sem,↓reduceIte,Nat.reduceEqDiff,reduceCtorEq];all_goals (first| (simp only[hR];done) | (rw[hR];exact ⟨rfl,rfl⟩) | (rw[hR]))) :p:=e
theorem IF {gl:Nat→C} {M0:Nat} {pu:Nat→List C→Option C} {hp:Nat→List C→Hp→Option (C×Hp)} (hcx:CxOK (fh gl M0 pu hp)) (l:List ab) (f z:Nat) (S0:List ce) (st:US) (d a b:Nat) (hl:OkL l) (hf:f≤5000) (hS:st.2.length≤1000000) (hab:a< b∧b≤5000∧b - a≤2 ^ d) (hz:st.1=false∨b≤f∨f+l.length≤a∨b - a≤1) (hnr: ∀ (g:Nat) (xs:List C),noRefs 0 xs=false→pu g xs=none) (h80: ∀x:ab,x.1.length≤65536∧x.2.length≤65536→pu 80 [.agg (eC x)] =some (.agg (cl bC (fU x)))) :FC Tryd.prog gl 93 [.val (nI a),.val (nI b),.bp 0 0,.kp [.val (nI f),.val (nI z),sl eC .no l,sl dC .no S0],.kp [.val (nI (f+l.length))],.bp 1 0,dl 93 [.bp 0 0,.kp [.val (nI f),.val (nI z),sl eC .no l,sl dC .no S0],.kp [.val (nI (f+l.length))],.bp 1 0] d] [some [.val (.bool st.1)],some [sl dC .no st.2]] (.agg (cl bC (dy l f d a b st).1)) [some [.val (.bool (dy l f d a b st).2.1)],some [sl dC .no (dy l f d a b st).2.2]] :=by
 replace hcx:=hcx.reN (M:=66)
 refine ky (cx:=fh gl 66 pu hp) (rs:= [.cell 9 29]) rfl Tryd.func93 rfl rfl rfl (by simp only[List.length_cons,List.length_nil];decide) (by simp only[go_sem]) (wG _ _) ?_
 simp only[cM,go_sem]
 have b0:=True.intro
 have b1:=True.intro
 have b2:=True.intro
 have b3:=True.intro
 have hy:=True.intro
 have hgl:=fun (S:List ce) k=> (gt S k).2
 have hll:=hl.1
 obtain ⟨en,S⟩ :=st
 simp only[] at*
 refine aa hcx [] _ [none] rfl rfl rfl ?_ dr
 refine ae fun K1 hK1=> ?_
 refine Tr.blk ?_
 by_cases b0:en=true
 ·
  subst b0
  refine aa hcx [1000015] _ [] rfl rfl rfl ?_ dr
  refine bm rfl ?_
  by_cases b1:b≤f
  ·
   refine aa hcx [1000026] [some 18,some 19,some 20,some 21,some 22,some 23,some 24,some 25,some 26,some 17] [] rfl rfl rfl ?_ dr
   refine Tr.k [0,1,2,3,5,6,9,17] ?_
   refine cr rfl ?_
   refine ae fun K2 hK2=> ?_
   by_cases b3:S.length=0
   ·
    skip
    have hR:= (s7 (l:=l) (f:=f) (d:=d) (a:=a) (b:=b) (S:=S) (Or.inl b1)).trans (wA b3)
    have h29: (0< S.length) =False:=by simp only[eq_iff_iff,iff_false];omega
    have hy:= @h29
    refine aa hcx [] _ [] rfl rfl rfl ?_ dr
    have hy:=True.intro
    refine aa hcx [] _ [] rfl rfl rfl ?_ dr
    refine cr rfl ?_
    refine aa hcx [] _ [] rfl rfl rfl ?_ dr
    exact Tr.ret kO
   skip
   have hR:= (s7 (l:=l) (f:=f) (d:=d) (a:=a) (b:=b) (S:=S) (Or.inl b1)).trans (wB b3)
   have h29: (0< S.length) =True:=by simp only[eq_iff_iff,iff_true];omega
   have hy:= @h29
   refine aa hcx [] _ [] rfl rfl rfl ?_ dr
   have hy:=True.intro
   refine aa hcx [] _ [] rfl rfl rfl ?_ dr
   refine bm rfl ?_
   refine Tr.skip ?_
   refine hK2 _ ?_
   have hr0:=Ch (S:=S) (by omega)
   have hy:= @hr0
   refine aa hcx [] _ [none] rfl rfl rfl ?_ dr
   have hy:= @X1
   refine aa hcx [] _ [] rfl rfl rfl ?_ dr
   have hy:=True.intro
   refine aa hcx [] _ [] rfl rfl rfl ?_ dr
   exact Tr.ret kO
  by_cases b2:f+l.length≤a
  ·
   refine aa hcx [1000026] [some 18,some 19,some 20,some 21,some 22,some 23,some 24,some 25,some 26,some 17] [] rfl rfl rfl ?_ dr
   refine Tr.k [0,1,2,3,5,6,9,17] ?_
   refine cr rfl ?_
   refine ae fun K3 hK3=> ?_
   by_cases b3:S.length=0
   ·
    skip
    have hR:= (s7 (l:=l) (f:=f) (d:=d) (a:=a) (b:=b) (S:=S) (Or.inr b2)).trans (wA b3)
    have h29: (0< S.length) =False:=by simp only[eq_iff_iff,iff_false];omega
    have hy:= @h29
    refine aa hcx [] _ [] rfl rfl rfl ?_ dr
    have hy:=True.intro
    refine aa hcx [] _ [] rfl rfl rfl ?_ dr
    refine cr rfl ?_
    refine aa hcx [] _ [] rfl rfl rfl ?_ dr
    exact Tr.ret kO
   skip
   have hR:= (s7 (l:=l) (f:=f) (d:=d) (a:=a) (b:=b) (S:=S) (Or.inr b2)).trans (wB b3)
   have h29: (0< S.length) =True:=by simp only[eq_iff_iff,iff_true];omega
   have hy:= @h29
   refine aa hcx [] _ [] rfl rfl rfl ?_ dr
   have hy:=True.intro
   refine aa hcx [] _ [] rfl rfl rfl ?_ dr
   refine bm rfl ?_
   refine Tr.skip ?_
   refine hK3 _ ?_
   have hr0:=Ch (S:=S) (by omega)
   have hy:= @hr0
   refine aa hcx [] _ [none] rfl rfl rfl ?_ dr
   have hy:= @X1
   refine aa hcx [] _ [] rfl rfl rfl ?_ dr
   have hy:=True.intro
   refine aa hcx [] _ [] rfl rfl rfl ?_ dr
   exact Tr.ret kO
  refine aa hcx [1000026] [some 18,some 19,some 20,some 21,some 22,some 23,some 24,some 25,some 26,some 17] [] rfl rfl rfl ?_ dr
  refine Tr.k [0,1,2,3,5,6,9,17] ?_
  refine bm rfl ?_
  have hz9:=hz.resolve_left (by simp)
  have h43:b - a=1:=by omega
  have hR:=O4 (l:=l) (f:=f) (d:=d) (a:=a) (b:=b) (S:=S) (fun h=>h.elim b1 b2) (by omega)
  have e80:=h80 (gt l (a - f)) (hl.2 (a - f) (by omega))
  have hy:= @h43
  refine aa hcx [1000043] _ [] rfl rfl rfl ?_ dr
  refine cr rfl ?_
  have hy:= @e80
  refine aa hcx [] _ [] rfl rfl rfl ?_ dr
  exact Tr.ret kO
 replace b0:=Bool.eq_false_iff.2 b0
 subst b0
 have hR:=O3 (l:=l) (f:=f) (d:=d) (a:=a) (b:=b) (st:= (false,S)) rfl
 refine aa hcx [1000015] _ [] rfl rfl rfl ?_ dr
 refine cr rfl ?_
 refine aa hcx [] _ [] rfl rfl rfl ?_ dr
 exact Tr.ret kO
theorem kP {p:Prop} (e:p:=by intro KZ hZ;simp -implicitDefEqProofs (disch:=first|omega| (simp only[go_sem,lA,lD,lT,dw,dA,hgl,hx1,hx2] <;>omega) |decide) only[go_sem,↓reduceIte,Nat.reduceEqDiff,reduceCtorEq,Nat.reduceLT,Nat.reduceBEq,Nat.reduceAdd,hy];with_reducible exact hZ) :p:=e
theorem Ld {p:Prop} (e:p:=by intro KZ hZ;simp -implicitDefEqProofs (disch:=first|omega| (simp only[go_sem,lA,lD,lT,dw,dA,hgl,hx1,hx2] <;>omega) |decide) only[go_sem,↓reduceIte,Nat.reduceEqDiff,reduceCtorEq,Nat.reduceLT,Nat.reduceBEq,Nat.reduceAdd,hy];with_reducible refine And.intro ?_ hZ;first|exact rfl|decide) :p:=e
theorem Lf {p:Prop} (e:p:=by simp -implicitDefEqProofs (disch:=first|omega| (simp only[go_sem,lA,lD,lT,dw,dA,hgl,hx1,hx2] <;>omega) |decide) only[go_sem,↓reduceIte,Nat.reduceEqDiff,reduceCtorEq];all_goals (first| (simp only[hR];done) | (rw[hR];exact ⟨rfl,rfl⟩) | (rw[hR]))) :p:=e
theorem UK {gl:Nat→C} {M0:Nat} {pu:Nat→List C→Option C} {hp:Nat→List C→Hp→Option (C×Hp)} (hcx:CxOK (fh gl M0 pu hp)) (l:List ab) (f z:Nat) (S0:List ce) (st:US) (d a b:Nat) (hl:OkL l) (hf:f≤5000) (hS:st.2.length≤1000000) (hab:a< b∧b≤5000∧b - a≤2 ^ (d+1)) (hq93: ∀ (suf:Hp) (st:US) (a b:Nat),OkH suf→st.2.length≤1000000→a< b∧b≤5000∧b - a≤2 ^ d→hp 93 [.val (nI a),.val (nI b),.bp 0 0,.kp [.val (nI f),.val (nI z),sl eC .no l,sl dC .no S0],.kp [.val (nI (f+l.length))],.bp 1 0,dl 93 [.bp 0 0,.kp [.val (nI f),.val (nI z),sl eC .no l,sl dC .no S0],.kp [.val (nI (f+l.length))],.bp 1 0] d] ([some [.val (.bool st.1)],some [sl dC .no st.2]]++suf) =some (.agg (cl bC (dy l f d a b st).1),[some [.val (.bool (dy l f d a b st).2.1)],some [sl dC .no (dy l f d a b st).2.2]]++suf)) (hz0:st.1=true) (hz1: ¬b≤f) (hz2: ¬f+l.length≤a) (hz3: ¬b - a≤1) (hnr: ∀ (g:Nat) (xs:List C),noRefs 0 xs=false→pu g xs=none) (h81: ∀x y:Nat,x≤y∧y≤4611686018427387000→pu 81 [.val (nI x),.val (nI y)] =some (.val (nI (x+aU (y - x))))) (h82: ∀a b:List UInt8,a.length=16→b.length=16→pu 82 [.agg (cl bC a),.agg (cl bC b)] =some (.agg (cl bC (iH a b)))) :FC Tryd.prog gl 93 [.val (nI a),.val (nI b),.bp 0 0,.kp [.val (nI f),.val (nI z),sl eC .no l,sl dC .no S0],.kp [.val (nI (f+l.length))],.bp 1 0,dl 93 [.bp 0 0,.kp [.val (nI f),.val (nI z),sl eC .no l,sl dC .no S0],.kp [.val (nI (f+l.length))],.bp 1 0] (d+1)] [some [.val (.bool st.1)],some [sl dC .no st.2]] (.agg (cl bC (dy l f (d+1) a b st).1)) [some [.val (.bool (dy l f (d+1) a b st).2.1)],some [sl dC .no (dy l f (d+1) a b st).2.2]] :=by
 replace hcx:=hcx.reN (M:=66)
 refine ky (cx:=fh gl 66 pu hp) (rs:= [.cell 9 29]) rfl Tryd.func93 rfl rfl rfl (by simp only[List.length_cons,List.length_nil];decide) (by simp only[go_sem]) (wG _ _) ?_
 simp only[cM,go_sem]
 have hy:=True.intro
 have hgl:=fun (S:List ce) k=> (gt S k).2
 have hll:=hl.1
 obtain ⟨en,S⟩ :=st
 simp only[] at*
 subst hz0
 have b1:=hz1
 have b2:=hz2
 have h43: (b - a=1) =False:=eq_false (by omega)
 have hx1:=True.intro
 have hx2:=True.intro
 refine aa hcx [] _ [none] rfl rfl rfl ?_ kP
 refine ae fun K1 hK1=> ?_
 refine Tr.blk ?_
 refine aa hcx [1000015] _ [] rfl rfl rfl ?_ kP
 refine bm rfl ?_
 have hy:=And.intro @b1 @b2
 refine aa hcx [1000026] [some 18,some 19,some 20,some 21,some 22,some 23,some 24,some 25,some 26,some 17] [] rfl rfl rfl ?_ kP
 refine Tr.k [0,1,2,3,5,6,9,17] ?_
 refine bm rfl ?_
 have hy:= @h43
 refine aa hcx [1000043] _ [] rfl rfl rfl ?_ kP
 refine bm rfl ?_
 refine Tr.skip ?_
 refine hK1 _ ?_
 have e81:=h81 a b (by omega)
 have hh:=fN (n:=b - a) (by omega)
 have hh2:=fq (by omega) hab.2.2
 have e1:=hq93 [some (cl bC (List.replicate 16 0)),none] (true,S) a (a+aU (b - a)) (OkH.cons (ic _) (OkH.cons rfl OkH.nil)) hS (by omega)
 have hR:=O5 (l:=l) (f:=f) (d:=d) (a:=a) (b:=b) (S:=S) (fun h=>h.elim b1 b2) hz3
 have hB:=wF l f d a (a+aU (b - a)) (true,S)
 obtain ⟨X,hX⟩ : ∃X,X=dy l f d a (a+aU (b - a)) (true,S) := ⟨_,rfl⟩
 have hXl:X.1.length=16:=by rw[hX];exact s8 _ _ _ _ _ _
 rw[←hX] at e1 hR hB
 have hx1:=hXl
 have e2:=hq93 [some (cl bC (List.replicate 16 0))] X.2 (a+aU (b - a)) b (OkH.cons (ic _) OkH.nil) (by simp only[] at hB;omega) (by omega)
 obtain ⟨Y,hY⟩ : ∃Y,Y=dy l f d (a+aU (b - a)) b X.2:= ⟨_,rfl⟩
 have hYl:Y.1.length=16:=by rw[hY];exact s8 _ _ _ _ _ _
 rw[←hY] at e2 hR
 have hx2:=hYl
 have e82:=h82 X.1 Y.1 hXl hYl
 simp only[List.cons_append,List.nil_append] at e1 e2
 have ep: ∀x y:Nat,pu 93 [.val (nI x),.val (nI y),.bp 0 0,.kp [.val (nI f),.val (nI z),sl eC .no l,sl dC .no S0],.kp [.val (nI (f+l.length))],.bp 1 0,dl 93 [.bp 0 0,.kp [.val (nI f),.val (nI z),sl eC .no l,sl dC .no S0],.kp [.val (nI (f+l.length))],.bp 1 0] d] =none:=fun x y=>hnr 93 _ rfl
 have hy:= @e81
 refine aa hcx [1000055] _ [] rfl rfl rfl ?_ kP
 have hy:=And.intro @Cg (And.intro @e1 @ep)
 refine aa hcx [] _ [none] rfl rfl rfl ?_ kP
 refine Tr.k [1,6,9,11,12] ?_
 refine Tr.k [1,6,9,11,12] ?_
 refine Uu hcx 3 (cl bC X.1) ?_
 refine Uv hcx [0,1,2] ?_
 have hy:=And.intro @Cg (And.intro @e2 (And.intro @ep @e82))
 refine bG hcx dI [] _ [] rfl rfl rfl rfl ?_ Ld
 exact Tr.ret Lf
end Go.Sx
namespace Go.Sx
open Go.RowKit Go.Proofs
theorem O6 {P:Program} {t:TypeId} (x:Int) (y:Nat) :aV P .add t (.val (.int .i64 x)) (.val (nI y)) =some (vp (.val (.int .i64 (IntKind.i64.wrap (x+((y:Nat) :Int)))))) :=by
 simp only[nI,cC,cX,ne_eq,not_true_eq_false,if_false,Option.map_some]
def gd (f z:Int) (l:List ab) :Prop:=z< 0∨4096< z∨f< 0∨z< f∨z - f< (l.length:Int)∨¬cV l=0
instance (f z:Int) (l:List ab) :Decidable (gd f z l) :=by unfold gd;infer_instance
def dY (r:List UInt8) (f z:Int) (l:List ab) (S:List ce) :Bool:=
 if gd f z l∨(0< z∧l.length=0) then false
 else !(dM l f.toNat S z.toNat ([],0,false)).2.2.2 && decide ((dM l f.toNat S z.toNat ([],0,false)).2.2.1=S.length) && decide ((dM l f.toNat S z.toNat ([],0,false)).1=r)
theorem UL (l:List ab) (f:Nat) : ∀d a b (st:US),st.1=false→(dy l f d a b st).2.1=false:=fun d a b st h=>by rw[O3 h];exact h
theorem s9 (l:List ab) (f:Nat) (S:List ce) : ∀d a b (st:TS),st.2.2=true→(bW l f S d a b st).2.2.2=true
 |0,a,b,st,h=>by
  unfold bW;split
  · unfold fX;split
    · rfl
    · exact h
  · exact h
 |d+1,a,b,st,h=>by
  unfold bW;split
  · unfold fX;split
    · rfl
    · exact h
  · split
    · exact h
    · exact s9 l f S d _ b _ (s9 l f S d a _ st h)
theorem Ci {S:List ce} {T:List (List UInt8)} {u:Nat} (hu:u≤S.length) :
 ((fX S (T,u,false)).2.2.2=false→jD (S.drop u) = ((fX S (T,u,false)).1,(true,S.drop (fX S (T,u,false)).2.2.1)))∧((fX S (T,u,false)).2.2.2=true→(jD (S.drop u)).2.1=false) :=by
 by_cases h:S.length≤u
 · have e:fX S (T,u,false) = (List.replicate 16 0,(T,u,true)) :=if_pos h
   have e2:jD (S.drop u) = (List.replicate 16 0,(false,S.drop u)) :=wA (by rw[List.length_drop];omega)
   rw[e,e2];exact ⟨fun q=>by simp at q,fun _=>rfl⟩
 · have e:fX S (T,u,false) = ((gt S u).1,(T,u+1,false)) :=if_neg h
   have e2:jD (S.drop u) = ((gt (S.drop u) 0).1,(true,(S.drop u).drop 1)) :=wB (by rw[List.length_drop];omega)
   have e3:gt (S.drop u) 0=gt S u:=by simp[gt,List.getD]
   rw[e,e2,e3,List.drop_drop];exact ⟨fun _=>rfl,fun q=>by simp at q⟩
theorem wH (l:List ab) (f:Nat) (S:List ce) : ∀d a b T u,u≤S.length→
 ((bW l f S d a b (T,u,false)).2.2.2=false→dy l f d a b (true,S.drop u) = ((bW l f S d a b (T,u,false)).1,(true,S.drop (bW l f S d a b (T,u,false)).2.2.1)))∧
 ((bW l f S d a b (T,u,false)).2.2.2=true→(dy l f d a b (true,S.drop u)).2.1=false)
 |0,a,b,T,u,hu=>by
  by_cases h:b≤f∨f+l.length≤a
  · rw[gR h,s7 h];exact Ci hu
  · have e1:bW l f S 0 a b (T,u,false) =l8 (gt l (a - f)) (T,u,false) :=by simp only[bW,if_neg h]
    have e2:dy l f 0 a b (true,S.drop u) = (fU (gt l (a - f)),(true,S.drop u)) :=by unfold dy;rw[if_neg (by simp),if_neg h]
    rw[e1,e2];exact ⟨fun _=>rfl,fun q=>by simp[l8] at q⟩
 |d+1,a,b,T,u,hu=>by
  by_cases h:b≤f∨f+l.length≤a
  · rw[gR h,s7 h];exact Ci hu
  · by_cases h2:b - a≤1
    · rw[fj h h2,O4 h h2];exact ⟨fun _=>rfl,fun q=>by simp[l8] at q⟩
    · rw[j5 h h2,O5 h h2]
      have g1:=wH l f S d a (a+aU (b - a)) T u hu
      have hb:=i7 l f S d a (a+aU (b - a)) (T,u,false)
      generalize bW l f S d a (a+aU (b - a)) (T,u,false) =X at*
      obtain ⟨x,T1,u1,s1⟩ :=X
      simp only at g1 hb
      cases s1 with
      |true=>
       have hs:=s9 l f S d (a+aU (b - a)) b (T1,u1,true) rfl
       have q:=g1.2 rfl
       refine ⟨fun e=> ?_,fun _=> ?_⟩
       · simp only[lg] at e;rw[hs] at e;cases e
       · exact UL l f d _ b _ q
      |false=>
       rw[g1.1 rfl]
       have g2:=wH l f S d (a+aU (b - a)) b T1 u1 (by omega)
       refine ⟨fun e=> ?_,fun e=> ?_⟩
       · simp only[lg] at e ⊢
         rw[g2.1 e]
       · simp only[lg] at e
         exact g2.2 e
theorem jX {r:List UInt8} {f z:Int} {l:List ab} {S:List ce} (h:gd f z l∨(0< z∧l.length=0)) :dY r f z l S=false:=if_pos h
theorem IG {r:List UInt8} {f z:Int} {l:List ab} {S:List ce} (h: ¬gd f z l) (hz:z=0) :dY r f z l S= (decide (S.length=0) && decide (gA 0 (List.replicate 16 0) =r)) :=by
 subst hz
 unfold dY
 rw[if_neg (fun q=>q.elim h (fun q=>absurd q.1 (by omega)))]
 rw[n7 (by rfl)]
 have e: (0=S.length) = (S.length=0) :=propext ⟨fun h=>h.symm,fun h=>h.symm⟩
 simp only[e,Bool.not_false,Bool.true_and]
 rfl
theorem UM {r:List UInt8} {f z:Nat} {l:List ab} {S:List ce} (h: ¬gd f z l) (hz: ¬z=0) (hl: ¬l.length=0) :
 dY r f z l S= ((dy l f 12 0 z (true,S)).2.1 && decide ((dy l f 12 0 z (true,S)).2.2.length=0) && decide (gA z (dy l f 12 0 z (true,S)).1=r)) :=by
 unfold dY
 rw[if_neg (fun q=>q.elim h (fun q=>hl q.2))]
 rw[show ((f:Nat) :Int).toNat=f from rfl,show ((z:Nat) :Int).toNat=z from rfl,mD hz]
 have g:=wH l f S 12 0 z [] 0 (Nat.zero_le _)
 have hb:=i7 l f S 12 0 z ([],0,false)
 rw[List.drop_zero] at g
 generalize bW l f S 12 0 z ([],0,false) =X at*
 obtain ⟨x,T1,u1,s1⟩ :=X
 simp only at g hb ⊢
 cases s1 with
 |true=>rw[g.2 rfl];rfl
 |false=>
  rw[g.1 rfl]
  have e: ((S.drop u1).length=0) = (u1=S.length) :=by rw[List.length_drop];apply propext;omega
  have e2:ofT 4 [cW ((z:Nat) :Int),x] =gA z x:=by unfold gA;rw[if_neg hz]
  simp only[e,e2,Bool.not_false,Bool.true_and]
def eo (r k:List UInt8) (f z:Int) (l:List ab) (S:List ce) :List UInt8×Bool×Nat:=
 if dY r f z l S=true then (if br l k< l.length∧(gt l (br l k)).1=k then ((gt l (br l k)).2,true,0)
  else if (0< br l k∨f=0)∧(br l k< l.length∨f+l.length=z) then ([],false,0) else ([],false,17)) else ([],false,17)
def fo (r x y:List UInt8) (f z:Int) (l:List ab) (S:List ce) :List ab×Nat:=
 if bl y x=true then ([],5) else if dY r f z l S=true then (if (0< f∧br l x=0)∨(f+l.length< z∧br l y=l.length) then ([],17) else ((l.drop (br l x)).take (br l y - br l x),0)) else ([],17)
theorem tc {r:List UInt8} {f z:Int} {l:List ab} {S:List ce} (h:dY r f z l S=true) :cV l=0∧0≤f∧f≤z∧z≤4096∧f+l.length≤z:=by
 have hb: ¬gd f z l:=fun q=>by rw[jX (Or.inl q)] at h;cases h
 unfold gd at hb
 refine ⟨?_,by omega,by omega,by omega,by omega⟩
 by_cases e:cV l=0
 · exact e
 · exact absurd (Or.inr (Or.inr (Or.inr (Or.inr (Or.inr e))))) hb
end Go.Sx
namespace Go.Sx
open Go.RowKit Go.Proofs
set_option maxRecDepth 100000
set_option maxHeartbeats 8000000
theorem dW {p:Prop} (e:p:=by intro KZ hZ;simp -implicitDefEqProofs (disch:=first|omega| (simp only[go_sem,lA,lD,lT,hr,hx1,gB] <;>omega) |decide) only[go_sem,↓reduceIte,Nat.reduceEqDiff,reduceCtorEq,Nat.reduceLT,Nat.reduceBEq,Nat.reduceAdd,i6,e15,b1,b2,b3,b4,b5,b6,c1,c2,c3,hy];with_reducible exact hZ) :p:=e
theorem nX {p:Prop} (e:p:=by intro KZ hZ;simp -implicitDefEqProofs (disch:=first|omega| (simp only[go_sem,lA,lD,lT,hr,hx1,gB] <;>omega) |decide) only[go_sem,↓reduceIte,Nat.reduceEqDiff,reduceCtorEq,Nat.reduceLT,Nat.reduceBEq,Nat.reduceAdd,i6,e15,b1,b2,b3,b4,b5,b6,c1,c2,c3,hy];with_reducible refine And.intro ?_ hZ;first|exact rfl|decide) :p:=e
theorem gM {p:Prop} (e:p:=by simp -implicitDefEqProofs (disch:=first|omega| (simp only[go_sem,lA,lD,lT,hr,hx1,gB] <;>omega) |decide) only[go_sem,↓reduceIte,Nat.reduceEqDiff,reduceCtorEq];all_goals (first| (rw[hR];done) | (rw[hR];simp[c1];done) | (rw[hR];simp[c2,c3];done) | (rw[hR];simp[c2];done))) :p:=e
theorem YF {gl:Nat→C} {M0:Nat} {pu:Nat→List C→Option C} {hp:Nat→List C→Hp→Option (C×Hp)} (hcx:CxOK (fh gl M0 pu hp)) (r:List UInt8) (f z:Int) (l:List ab) (S:List ce) (hr:r.length=16) (hf: -9223372036854775808≤f∧f≤9223372036854775807) (hz: -9223372036854775808≤z∧z≤9223372036854775807) (hl:LB l) (hS:S.length≤1000000) (hnr: ∀ (g:Nat) (xs:List C),noRefs 0 xs=false→pu g xs=none) (h15: ∀l:List ab,LB l→pu 15 [sl eC .no l] =some (.val (nI (cV l)))) (h50: ∀ (n:Nat) (d:List UInt8),n≤4096→d.length=16→pu 50 [.val (nI n),.agg (cl bC d)] =some (.agg (cl bC (gA n d)))) (hq93: ∀ (suf:Hp) (l:List ab) (f z:Nat) (S0:List ce) (st:US) (d a b:Nat),OkH suf→OkL l→f≤5000→st.2.length≤1000000→a< b∧b≤5000∧b - a≤2 ^ d→hp 93 [.val (nI a),.val (nI b),.bp 0 0,.kp [.val (nI f),.val (nI z),sl eC .no l,sl dC .no S0],.kp [.val (nI (f+l.length))],.bp 1 0,dl 93 [.bp 0 0,.kp [.val (nI f),.val (nI z),sl eC .no l,sl dC .no S0],.kp [.val (nI (f+l.length))],.bp 1 0] d] ([some [.val (.bool st.1)],some [sl dC .no st.2]]++suf) =some (.agg (cl bC (dy l f d a b st).1),[some [.val (.bool (dy l f d a b st).2.1)],some [sl dC .no (dy l f d a b st).2.2]]++suf)) :FC Tryd.prog gl 61 [.agg [.val (.int .i64 f),.val (.int .i64 z),sl eC .no l,sl dC .no S],.agg (cl bC r)] [] (.val (.bool (dY r f z l S))) [] :=by
 replace hcx:=hcx.reN (M:=86)
 refine bY (cx:=fh gl 86 pu hp) (rs:= [.tmp 4]) rfl Tryd.func61 rfl rfl rfl (by simp only[List.length_cons,List.length_nil];decide) (by simp only[go_sem]) ?_
 simp only[cM,go_sem]
 have b1:=True.intro
 have b2:=True.intro
 have b3:=True.intro
 have b4:=True.intro
 have b5:=True.intro
 have b6:=True.intro
 have c1:=True.intro
 have c2:=True.intro
 have c3:=True.intro
 have hy:=True.intro
 have e15:=h15 l hl
 have hl1:=hl.1
 have hx1:=True.intro
 obtain ⟨W,hW⟩ : ∃W,IntKind.i64.wrap (f+((l.length:Nat) :Int)) =W:= ⟨_,rfl⟩
 refine aa hcx [] _ [none,none] rfl rfl rfl ?_ dW
 have hy:=And.intro @O6 @hW
 refine aa hcx [] _ [none] rfl rfl rfl ?_ dW
 refine Tr.k [2,3,5] ?_
 refine ae fun K1 hK1=> ?_
 by_cases b1:z< ((0:Nat) :Int)
 ·
  have hB:gd f z l:=Or.inl (by omega)
  have hy:=True.intro
  refine aa hcx [] [some 16,some 17,some 18,some 19,some 20,some 21,some 22,some 23,some 24,some 25,some 26,some 27,some 28,some 29,some 30,some 31,some 32,some 33,some 34,some 35,some 36,some 37,some 38,some 39,some 40,some 41,some 42,some 43,some 44,some 45,some 46,some 47] [] rfl rfl rfl ?_ dW
  refine Tr.k [2,3,5,47] ?_
  refine cr rfl ?_
  have hR:=jX (r:=r) (S:=S) (Or.inl hB)
  refine aa hcx [] _ [] rfl rfl rfl ?_ dW
  exact Tr.ret gM
 skip
 by_cases b2: ((4096:Nat) :Int) < z
 ·
  have hB:gd f z l:=Or.inr (Or.inl (by omega))
  have hy:=True.intro
  refine aa hcx [] [some 16,some 17,some 18,some 19,some 20,some 21,some 22,some 23,some 24,some 25,some 26,some 27,some 28,some 29,some 30,some 31,some 32,some 33,some 34,some 35,some 36,some 37,some 38,some 39,some 40,some 41,some 42,some 43,some 44,some 45,some 46,some 47] [] rfl rfl rfl ?_ dW
  refine Tr.k [2,3,5,47] ?_
  refine cr rfl ?_
  have hR:=jX (r:=r) (S:=S) (Or.inl hB)
  refine aa hcx [] _ [] rfl rfl rfl ?_ dW
  exact Tr.ret gM
 skip
 by_cases b3:f< ((0:Nat) :Int)
 ·
  have hB:gd f z l:=Or.inr (Or.inr (Or.inl (by omega)))
  have hy:=True.intro
  refine aa hcx [] [some 16,some 17,some 18,some 19,some 20,some 21,some 22,some 23,some 24,some 25,some 26,some 27,some 28,some 29,some 30,some 31,some 32,some 33,some 34,some 35,some 36,some 37,some 38,some 39,some 40,some 41,some 42,some 43,some 44,some 45,some 46,some 47] [] rfl rfl rfl ?_ dW
  refine Tr.k [2,3,5,47] ?_
  refine cr rfl ?_
  have hR:=jX (r:=r) (S:=S) (Or.inl hB)
  refine aa hcx [] _ [] rfl rfl rfl ?_ dW
  exact Tr.ret gM
 skip
 by_cases b4:z< f
 ·
  have hB:gd f z l:=Or.inr (Or.inr (Or.inr (Or.inl b4)))
  have hy:=True.intro
  refine aa hcx [] [some 16,some 17,some 18,some 19,some 20,some 21,some 22,some 23,some 24,some 25,some 26,some 27,some 28,some 29,some 30,some 31,some 32,some 33,some 34,some 35,some 36,some 37,some 38,some 39,some 40,some 41,some 42,some 43,some 44,some 45,some 46,some 47] [] rfl rfl rfl ?_ dW
  refine Tr.k [2,3,5,47] ?_
  refine cr rfl ?_
  have hR:=jX (r:=r) (S:=S) (Or.inl hB)
  refine aa hcx [] _ [] rfl rfl rfl ?_ dW
  exact Tr.ret gM
 rw[ff _ (by omega) (by omega)] at hW
 by_cases b5:z< W
 ·
  have hB:gd f z l:=Or.inr (Or.inr (Or.inr (Or.inr (Or.inl (by omega)))))
  have hy:=True.intro
  refine aa hcx [] [some 16,some 17,some 18,some 19,some 20,some 21,some 22,some 23,some 24,some 25,some 26,some 27,some 28,some 29,some 30,some 31,some 32,some 33,some 34,some 35,some 36,some 37,some 38,some 39,some 40,some 41,some 42,some 43,some 44,some 45,some 46,some 47] [] rfl rfl rfl ?_ dW
  refine Tr.k [2,3,5,47] ?_
  refine cr rfl ?_
  have hR:=jX (r:=r) (S:=S) (Or.inl hB)
  refine aa hcx [] _ [] rfl rfl rfl ?_ dW
  exact Tr.ret gM
 skip
 by_cases b6:cV l=0
 ·
  have hB: ¬gd f z l:=fun q=>by
   unfold gd at q;omega
  have hok:=gW (l:=l) (by omega)
  have hy:=True.intro
  refine aa hcx [] [some 16,some 17,some 18,some 19,some 20,some 21,some 22,some 23,some 24,some 25,some 26,some 27,some 28,some 29,some 30,some 31,some 32,some 33,some 34,some 35,some 36,some 37,some 38,some 39,some 40,some 41,some 42,some 43,some 44,some 45,some 46,some 47] [] rfl rfl rfl ?_ dW
  refine Tr.k [2,3,5,47] ?_
  refine bm rfl ?_
  refine Tr.skip ?_
  refine hK1 _ ?_
  refine ae fun K2 hK2=> ?_
  obtain ⟨z,rfl⟩ : ∃n:Nat,z= (n:Int) := ⟨z.toNat,by omega⟩
  obtain ⟨f,rfl⟩ : ∃n:Nat,f= (n:Int) := ⟨f.toNat,by omega⟩
  have hW2:W= ((f+l.length:Nat) :Int) :=by omega
  have hll:=hok.1
  refine aa hcx [] _ [] rfl rfl rfl ?_ dW
  refine bR rfl (fun hc50=> ?_) (fun hc50=> ?_)
  ·
   have hR:=IG (r:=r) (S:=S) hB (by omega)
   have e50:=h50 0 (List.replicate 16 0) (by omega) rfl
   by_cases c1:S.length=0
   ·
    have hy:=And.intro @e50 @fD
    refine bG hcx dI [1000060] [some 51,some 52,some 53,some 54,some 55,some 56,some 57,some 58,some 59,some 60,some 4] [] rfl rfl rfl rfl ?_ nX
    exact Tr.ret gM
   have hy:=And.intro @e50 @fD
   refine bG hcx dI [1000060] [some 51,some 52,some 53,some 54,some 55,some 56,some 57,some 58,some 59,some 60,some 4] [] rfl rfl rfl rfl ?_ nX
   exact Tr.ret gM
  refine Tr.skip ?_
  refine hK2 _ ?_
  refine ae fun K3 hK3=> ?_
  refine aa hcx [] _ [] rfl rfl rfl ?_ dW
  refine bR rfl (fun hc64=> ?_) (fun hc64=> ?_)
  ·
   have hR:=jX (r:=r) (S:=S) (f:=f) (z:=z) (l:=l) (Or.inr ⟨by omega,by omega⟩)
   refine aa hcx [] _ [] rfl rfl rfl ?_ dW
   exact Tr.ret gM
  refine Tr.skip ?_
  refine hK3 _ ?_
  refine aa hcx [] _ [none,none] rfl rfl rfl ?_ dW
  refine aa hcx [] _ [none] rfl rfl rfl ?_ dW
  refine aa hcx [] _ [] rfl rfl rfl ?_ dW
  subst hW2
  simp only[i6]
  refine Tr.k [2,3,6,7,8] ?_
  refine cY hcx 0 [.val (nI f),.val (nI z),sl eC .no l,sl dC .no S] ?_
  refine cY hcx 2 [.val (nI (f+l.length))] ?_
  refine B1 hcx 5 12 93 [.bp 4 0,.kp [.val (nI f),.val (nI z),sl eC .no l,sl dC .no S],.kp [.val (nI (f+l.length))],.bp 3 0] ?_
  refine kM hcx [4,3,1] ?_
  have e93:=hq93 [some (cl bC r),none] l f z S (true,S) 12 0 z (OkH.cons (ic _) (OkH.cons rfl OkH.nil)) hok (by omega) hS (by omega)
  have hR:=UM (r:=r) (S:=S) hB (by omega) (by omega)
  obtain ⟨X,hX⟩ : ∃X,X=dy l f 12 0 z (true,S) := ⟨_,rfl⟩
  have hXl:X.1.length=16:=by rw[hX];exact s8 _ _ _ _ _ _
  rw[←hX] at e93 hR
  have hx1:=hXl
  simp only[List.cons_append,List.nil_append] at e93
  have e50:=h50 z X.1 (by omega) hXl
  have ep: ∀x y:Nat,pu 93 [.val (nI x),.val (nI y),.bp 0 0,.kp [.val (nI f),.val (nI z),sl eC .no l,sl dC .no S],.kp [.val (nI (f+l.length))],.bp 1 0,dl 93 [.bp 0 0,.kp [.val (nI f),.val (nI z),sl eC .no l,sl dC .no S],.kp [.val (nI (f+l.length))],.bp 1 0] 12] =none:=fun x y=>hnr 93 _ rfl
  have hy:=And.intro @e93 @ep
  refine aa hcx [] _ [none] rfl rfl rfl ?_ dW
  refine Tr.k [2,3,6,7,9] ?_
  by_cases c2:X.2.1=true
  ·
   skip
   by_cases c3:X.2.2.length=0
   ·
    have hy:=And.intro @e50 @fD
    refine bG hcx dI [1000085] [some 72,some 73,some 74,some 75,some 76,some 77,some 78,some 79,some 80,some 81,some 82,some 83,some 84,some 85,some 4] [] rfl rfl rfl rfl ?_ nX
    exact Tr.ret gM
   have hy:=And.intro @e50 @fD
   refine bG hcx dI [1000085] [some 72,some 73,some 74,some 75,some 76,some 77,some 78,some 79,some 80,some 81,some 82,some 83,some 84,some 85,some 4] [] rfl rfl rfl rfl ?_ nX
   exact Tr.ret gM
  replace c2:=Bool.eq_false_iff.2 c2
  have hy:=And.intro @e50 @fD
  refine bG hcx dI [1000085] [some 72,some 73,some 74,some 75,some 76,some 77,some 78,some 79,some 80,some 81,some 82,some 83,some 84,some 85,some 4] [] rfl rfl rfl rfl ?_ nX
  exact Tr.ret gM
 have hB:gd f z l:=Or.inr (Or.inr (Or.inr (Or.inr (Or.inr b6))))
 have hy:=True.intro
 refine aa hcx [] [some 16,some 17,some 18,some 19,some 20,some 21,some 22,some 23,some 24,some 25,some 26,some 27,some 28,some 29,some 30,some 31,some 32,some 33,some 34,some 35,some 36,some 37,some 38,some 39,some 40,some 41,some 42,some 43,some 44,some 45,some 46,some 47] [] rfl rfl rfl ?_ dW
 refine Tr.k [2,3,5,47] ?_
 refine cr rfl ?_
 have hR:=jX (r:=r) (S:=S) (Or.inl hB)
 refine aa hcx [] _ [] rfl rfl rfl ?_ dW
 exact Tr.ret gM
end Go.Sx
