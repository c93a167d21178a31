/-
   And what follows.
-/
import Derived.Test.YtmoaeemdlompaaaDoorPaq
set_option linter.unusedSimpArgs false
set_option linter.unusedVariables false
namespace Go.Sx
open Go.RowKit Go.Proofs
set_option maxRecDepth 100000
set_option maxHeartbeats 8000000
section
variable {r k x y:List UInt8} {f z:Int} {l:List ab} {S:List cf} {i a b:Nat}
theorem IJ (h:dZ r f z l S=false) :er r k f z l S= ([],false,17) :=by unfold er;rw[if_neg (by rw[h];simp)]
theorem uY (hi:bu l k=i) (h:dZ r f z l S=true) (h2:i< l.length) (h3: (gt l i).1=k) :er r k f z l S= ((gt l i).2,true,0) :=by subst hi;unfold er;rw[if_pos h,if_pos ⟨h2,h3⟩]
theorem oO (hi:bu l k=i) (h:dZ r f z l S=true) (h2: ¬ (i< l.length∧(gt l i).1=k)) (h3: (0< i∨f=0)∧(i< l.length∨f+l.length=z)) :er r k f z l S= ([],false,0) :=by subst hi;unfold er;rw[if_pos h,if_neg h2,if_pos h3]
theorem oP (hi:bu l k=i) (h:dZ r f z l S=true) (h2: ¬ (i< l.length∧(gt l i).1=k)) (h3: ¬ ((0< i∨f=0)∧(i< l.length∨f+l.length=z))) :er r k f z l S= ([],false,17) :=by subst hi;unfold er;rw[if_pos h,if_neg h2,if_neg h3]
theorem IK (h:bl y x=true) :fp r x y f z l S= ([],5) :=if_pos h
theorem IL (h:bl y x=false) (h2:dZ r f z l S=false) :fp r x y f z l S= ([],17) :=by unfold fp;rw[if_neg (by rw[h];simp),if_neg (by rw[h2];simp)]
theorem uZ (hx:bu l x=a) (hy:bu l y=b) (h:bl y x=false) (h2:dZ r f z l S=true) (h3: (0< f∧a=0)∨(f+l.length< z∧b=l.length)) :fp r x y f z l S= ([],17) :=by subst hx hy;unfold fp;rw[if_neg (by rw[h];simp),if_pos h2,if_pos h3]
theorem oQ (hx:bu l x=a) (hy:bu l y=b) (h:bl y x=false) (h2:dZ r f z l S=true) (h3: ¬ ((0< f∧a=0)∨(f+l.length< z∧b=l.length))) :fp r x y f z l S= ((l.drop a).take (b - a),0) :=by subst hx hy;unfold fp;rw[if_neg (by rw[h];simp),if_pos h2,if_neg h3]
end
theorem dM {p:Prop} (e:p:=by intro KZ hZ;simp -implicitDefEqProofs (maxSteps:=2000000) (disch:=first|omega| (simp only[go_sem,lA,lD,lT,hr] <;>omega) |decide) only[go_sem,↓reduceIte,Nat.reduceEqDiff,reduceCtorEq,Nat.reduceLT,Nat.reduceBEq,Nat.reduceAdd,i7,e61,b1,b2,b3,b4,b5,b6,hy];with_reducible exact hZ) :p:=e
theorem iR {p:Prop} (e:p:=by simp -implicitDefEqProofs (disch:=first|omega| (simp only[go_sem,lA,lD,lT,hr] <;>omega) |decide) only[go_sem,↓reduceIte,Nat.reduceEqDiff,reduceCtorEq];all_goals (rw[hR])) :p:=e
theorem YI {gl:Nat→C} {M:Nat} {pu:Nat→List C→Option C} (hcx:CxOK (aO gl M pu)) (h61: ∀ (r:List UInt8) (f z:Int) (l:List ab) (S:List cf),r.length=16→(-9223372036854775808≤f∧f≤9223372036854775807)→(-9223372036854775808≤z∧z≤9223372036854775807)→LB l→S.length≤1000000→pu 61 [.agg [.val (.int .i64 f),.val (.int .i64 z),sl eC .no l,sl dC .no S],.agg (cl bC r)] =some (.val (.bool (dZ r f z l S)))) (h56: ∀ (l:List ab) (k:List UInt8),Srt l→l.length≤1000000→pu 56 [sl eC .no l,.val (str k)] =some (.val (nI (bu l k)))) (r k:List UInt8) (f z:Int) (l:List ab) (S:List cf) (hr:r.length=16) (hf: -9223372036854775808≤f∧f≤9223372036854775807) (hz: -9223372036854775808≤z∧z≤9223372036854775807) (hl:LB l) (hS:S.length≤1000000) :FC Tryd.prog gl 29 [.agg (cl bC r),.val (str k),.agg [.val (.int .i64 f),.val (.int .i64 z),sl eC .no l,sl dC .no S]] [] (.tup [.val (str (er r k f z l S).1),.val (.bool (er r k f z l S).2.1),.val (nI (er r k f z l S).2.2)]) [] :=by
 replace hcx:=hcx.reN (M:=66)
 refine bZ (cx:=aO gl 66 pu) (rs:= [.tmp 6,.tmp 7,.tmp 8]) rfl Tryd.func29 rfl rfl rfl (by simp only[List.length_cons,List.length_nil];decide) (by simp only[go_sem]) ?_
 simp only[cO,go_sem]
 have b1:=True.intro
 have b2:=True.intro
 have b3:=True.intro
 have b4:=True.intro
 have b5:=True.intro
 have b6:=True.intro
 have hy:=True.intro
 have e61:=h61 r f z l S hr hf hz hl hS
 refine aa hcx [] _ [none,none] rfl rfl rfl ?_ dM
 refine ae fun K1 hK1=> ?_
 by_cases b1:dZ r f z l S=true
 ·
  have hU:=te b1
  have hsr:=fX hU.1
  obtain ⟨z,rfl⟩ : ∃n:Nat,z= (n:Int) := ⟨z.toNat,by omega⟩
  obtain ⟨f,rfl⟩ : ∃n:Nat,f= (n:Int) := ⟨f.toNat,by omega⟩
  replace e61:pu 61 [.agg [.val (nI f),.val (nI z),sl eC .no l,sl dC .no S],.agg (cl bC r)] =_:=e61
  have hy:= @e61
  refine aa hcx [] _ [] rfl rfl rfl ?_ dM
  refine bn rfl ?_
  refine Tr.skip ?_
  refine hK1 _ ?_
  have e56:=h56 l k hsr (by omega)
  have hfl:=e7 l k
  obtain ⟨i,hi⟩ : ∃i,bu l k=i:= ⟨_,rfl⟩
  rw[hi] at e56 hfl
  have hy:= @e56
  refine aa hcx [1000017] _ [] rfl rfl rfl ?_ dM
  refine Tr.k [1,5,9] ?_
  refine ae fun K2 hK2=> ?_
  refine Tr.blk ?_
  by_cases b2:i< l.length
  ·
   by_cases b3: (gt l i).1=k
   ·
    have hy:=True.intro
    refine aa hcx [1000033] [some 19,some 20,some 21,some 22,some 23,some 24,some 25,some 26,some 27,some 28,some 29,some 30,some 31,some 32,some 33,some 18] [] rfl rfl rfl ?_ dM
    refine ct rfl ?_
    have hR:=uY hi b1 b2 b3
    refine aa hcx [1000039] _ [] rfl rfl rfl ?_ dM
    refine Tr.k [6,7,8] ?_
    exact Tr.ret iR
   have hy:=True.intro
   refine aa hcx [1000033] [some 19,some 20,some 21,some 22,some 23,some 24,some 25,some 26,some 27,some 28,some 29,some 30,some 31,some 32,some 33,some 18] [] rfl rfl rfl ?_ dM
   refine bn rfl ?_
   by_cases b4:0< i
   ·
    refine aa hcx [1000065] [some 41,some 42,some 43,some 44,some 45,some 46,some 47,some 48,some 49,some 50,some 51,some 52,some 53,some 54,some 55,some 56,some 57,some 58,some 59,some 60,some 61,some 62,some 63,some 64,some 65,some 40] [] rfl rfl rfl ?_ dM
    refine Tr.k [40] ?_
    refine ct rfl ?_
    have hR:=oO hi b1 (fun h=>b3 h.2) ⟨Or.inl b4,Or.inl b2⟩
    refine aa hcx [] _ [] rfl rfl rfl ?_ dM
    exact Tr.ret iR
   by_cases b5:f=0
   ·
    have b5o:=b5
    replace b5:=eq_true b5
    refine aa hcx [1000065] [some 41,some 42,some 43,some 44,some 45,some 46,some 47,some 48,some 49,some 50,some 51,some 52,some 53,some 54,some 55,some 56,some 57,some 58,some 59,some 60,some 61,some 62,some 63,some 64,some 65,some 40] [] rfl rfl rfl ?_ dM
    refine Tr.k [40] ?_
    refine ct rfl ?_
    have hR:=oO hi b1 (fun h=>b3 h.2) ⟨Or.inr (by omega),Or.inl b2⟩
    refine aa hcx [] _ [] rfl rfl rfl ?_ dM
    exact Tr.ret iR
   have b5o:=b5
   replace b5:=eq_false b5
   refine aa hcx [1000065] [some 41,some 42,some 43,some 44,some 45,some 46,some 47,some 48,some 49,some 50,some 51,some 52,some 53,some 54,some 55,some 56,some 57,some 58,some 59,some 60,some 61,some 62,some 63,some 64,some 65,some 40] [] rfl rfl rfl ?_ dM
   refine Tr.k [40] ?_
   refine bn rfl ?_
   refine Tr.skip ?_
   refine hK2 _ ?_
   have hR:=oP hi b1 (fun h=>b3 h.2) (by omega)
   refine aa hcx [] _ [] rfl rfl rfl ?_ dM
   exact Tr.ret iR
  have hy:=True.intro
  refine aa hcx [1000033] [some 19,some 20,some 21,some 22,some 23,some 24,some 25,some 26,some 27,some 28,some 29,some 30,some 31,some 32,some 33,some 18] [] rfl rfl rfl ?_ dM
  refine bn rfl ?_
  by_cases b4:0< i
  ·
   by_cases b6:f+l.length=z
   ·
    have b6o:=b6
    replace b6:=eq_true b6
    refine aa hcx [1000065] [some 41,some 42,some 43,some 44,some 45,some 46,some 47,some 48,some 49,some 50,some 51,some 52,some 53,some 54,some 55,some 56,some 57,some 58,some 59,some 60,some 61,some 62,some 63,some 64,some 65,some 40] [] rfl rfl rfl ?_ dM
    refine Tr.k [40] ?_
    refine ct rfl ?_
    have hR:=oO hi b1 (fun h=>b2 h.1) ⟨Or.inl b4,Or.inr (by omega)⟩
    refine aa hcx [] _ [] rfl rfl rfl ?_ dM
    exact Tr.ret iR
   have b6o:=b6
   replace b6:=eq_false b6
   refine aa hcx [1000065] [some 41,some 42,some 43,some 44,some 45,some 46,some 47,some 48,some 49,some 50,some 51,some 52,some 53,some 54,some 55,some 56,some 57,some 58,some 59,some 60,some 61,some 62,some 63,some 64,some 65,some 40] [] rfl rfl rfl ?_ dM
   refine Tr.k [40] ?_
   refine bn rfl ?_
   refine Tr.skip ?_
   refine hK2 _ ?_
   have hR:=oP hi b1 (fun h=>b2 h.1) (by omega)
   refine aa hcx [] _ [] rfl rfl rfl ?_ dM
   exact Tr.ret iR
  by_cases b5:f=0
  ·
   have b5o:=b5
   replace b5:=eq_true b5
   by_cases b6:f+l.length=z
   ·
    have b6o:=b6
    replace b6:=eq_true b6
    refine aa hcx [1000065] [some 41,some 42,some 43,some 44,some 45,some 46,some 47,some 48,some 49,some 50,some 51,some 52,some 53,some 54,some 55,some 56,some 57,some 58,some 59,some 60,some 61,some 62,some 63,some 64,some 65,some 40] [] rfl rfl rfl ?_ dM
    refine Tr.k [40] ?_
    refine ct rfl ?_
    have hR:=oO hi b1 (fun h=>b2 h.1) ⟨Or.inr (by omega),Or.inr (by omega)⟩
    refine aa hcx [] _ [] rfl rfl rfl ?_ dM
    exact Tr.ret iR
   have b6o:=b6
   replace b6:=eq_false b6
   refine aa hcx [1000065] [some 41,some 42,some 43,some 44,some 45,some 46,some 47,some 48,some 49,some 50,some 51,some 52,some 53,some 54,some 55,some 56,some 57,some 58,some 59,some 60,some 61,some 62,some 63,some 64,some 65,some 40] [] rfl rfl rfl ?_ dM
   refine Tr.k [40] ?_
   refine bn rfl ?_
   refine Tr.skip ?_
   refine hK2 _ ?_
   have hR:=oP hi b1 (fun h=>b2 h.1) (by omega)
   refine aa hcx [] _ [] rfl rfl rfl ?_ dM
   exact Tr.ret iR
  have b5o:=b5
  replace b5:=eq_false b5
  refine aa hcx [1000065] [some 41,some 42,some 43,some 44,some 45,some 46,some 47,some 48,some 49,some 50,some 51,some 52,some 53,some 54,some 55,some 56,some 57,some 58,some 59,some 60,some 61,some 62,some 63,some 64,some 65,some 40] [] rfl rfl rfl ?_ dM
  refine Tr.k [40] ?_
  refine bn rfl ?_
  refine Tr.skip ?_
  refine hK2 _ ?_
  have hR:=oP hi b1 (fun h=>b2 h.1) (by omega)
  refine aa hcx [] _ [] rfl rfl rfl ?_ dM
  exact Tr.ret iR
 replace b1:=Bool.eq_false_iff.2 b1
 have hy:= @e61
 refine aa hcx [] _ [] rfl rfl rfl ?_ dM
 refine ct rfl ?_
 have hR:=IJ (k:=k) b1
 have hy:=True.intro
 refine aa hcx [] _ [] rfl rfl rfl ?_ dM
 exact Tr.ret iR
theorem eg {p:Prop} (e:p:=by intro KZ hZ;simp -implicitDefEqProofs (disch:=first|omega| (simp only[go_sem,lA,lD,lT,hr] <;>omega) |decide) only[go_sem,↓reduceIte,Nat.reduceEqDiff,reduceCtorEq,Nat.reduceLT,Nat.reduceBEq,Nat.reduceAdd,i7,e61,b0,b1,b2,b3,b4,b5,hy];with_reducible exact hZ) :p:=e
theorem O9 {p:Prop} (e:p:=by intro KZ hZ;simp -implicitDefEqProofs (disch:=first|omega| (simp only[go_sem,lA,lD,lT,hr] <;>omega) |decide) only[go_sem,↓reduceIte,Nat.reduceEqDiff,reduceCtorEq,Nat.reduceLT,Nat.reduceBEq,Nat.reduceAdd,i7,e61,b0,b1,b2,b3,b4,b5,hy];with_reducible refine And.intro ?_ hZ;first|exact rfl|decide) :p:=e
theorem jk {p:Prop} (e:p:=by simp -implicitDefEqProofs (disch:=first|omega| (simp only[go_sem,lA,lD,lT,hr] <;>omega) |decide) only[go_sem,↓reduceIte,Nat.reduceEqDiff,reduceCtorEq];all_goals (first| (rw[hR];done))) :p:=e
theorem YJ {gl:Nat→C} {M:Nat} {pu:Nat→List C→Option C} (hcx:CxOK (aO gl M pu)) (h61: ∀ (r:List UInt8) (f z:Int) (l:List ab) (S:List cf),r.length=16→(-9223372036854775808≤f∧f≤9223372036854775807)→(-9223372036854775808≤z∧z≤9223372036854775807)→LB l→S.length≤1000000→pu 61 [.agg [.val (.int .i64 f),.val (.int .i64 z),sl eC .no l,sl dC .no S],.agg (cl bC r)] =some (.val (.bool (dZ r f z l S)))) (h56: ∀ (l:List ab) (k:List UInt8),Srt l→l.length≤1000000→pu 56 [sl eC .no l,.val (str k)] =some (.val (nI (bu l k)))) (h63: ∀l:List ab,l.length≤1000000→pu 63 [sl eC .no l] =some (sl eC (.own 2) l)) (r x y:List UInt8) (f z:Int) (l:List ab) (S:List cf) (hr:r.length=16) (hf: -9223372036854775808≤f∧f≤9223372036854775807) (hz: -9223372036854775808≤z∧z≤9223372036854775807) (hl:LB l) (hS:S.length≤1000000) :FC Tryd.prog gl 32 [.agg (cl bC r),.val (str x),.val (str y),.agg [.val (.int .i64 f),.val (.int .i64 z),sl eC .no l,sl dC .no S]] [] (.tup [sl eC .no (fp r x y f z l S).1,.val (nI (fp r x y f z l S).2)]) [] :=by
 replace hcx:=hcx.reN (M:=58)
 refine bZ (cx:=aO gl 58 pu) (rs:= [.tmp 8,.tmp 9]) rfl Tryd.func32 rfl rfl rfl (by simp only[List.length_cons,List.length_nil];decide) (by simp only[go_sem]) ?_
 simp only[cO,go_sem]
 have b0:=True.intro
 have b1:=True.intro
 have b2:=True.intro
 have b3:=True.intro
 have b4:=True.intro
 have b5:=True.intro
 have hy:=True.intro
 have e61:=h61 r f z l S hr hf hz hl hS
 refine aa hcx [] _ [none,none] rfl rfl rfl ?_ eg
 refine ae fun K1 hK1=> ?_
 by_cases b0:bl y x=true
 ·
  have hR:=IK (r:=r) (f:=f) (z:=z) (l:=l) (S:=S) b0
  refine aa hcx [] _ [] rfl rfl rfl ?_ eg
  refine ct rfl ?_
  refine aa hcx [] _ [] rfl rfl rfl ?_ eg
  refine Tr.live [(8,sl eC .no []),(9,.val (nI 5))] LT ?_
  exact Tr.ret jk
 replace b0:=Bool.eq_false_iff.2 b0
 refine aa hcx [] _ [] rfl rfl rfl ?_ eg
 refine bn rfl ?_
 refine Tr.skip ?_
 refine hK1 _ ?_
 refine ae fun K2 hK2=> ?_
 by_cases b1:dZ r f z l S=true
 ·
  have hU:=te b1
  have hsr:=fX hU.1
  obtain ⟨z,rfl⟩ : ∃n:Nat,z= (n:Int) := ⟨z.toNat,by omega⟩
  obtain ⟨f,rfl⟩ : ∃n:Nat,f= (n:Int) := ⟨f.toNat,by omega⟩
  replace e61:pu 61 [.agg [.val (nI f),.val (nI z),sl eC .no l,sl dC .no S],.agg (cl bC r)] =_:=e61
  have hy:= @e61
  refine aa hcx [] _ [] rfl rfl rfl ?_ eg
  refine bn rfl ?_
  refine Tr.skip ?_
  refine hK2 _ ?_
  refine Tr.k [1,2,7] ?_
  have e56x:=h56 l x hsr (by omega)
  have e56y:=h56 l y hsr (by omega)
  have hfx:=e7 l x
  have hfy:=e7 l y
  have hxy:=lQ hsr b0
  obtain ⟨i,hi⟩ : ∃i,bu l x=i:= ⟨_,rfl⟩
  obtain ⟨j,hj⟩ : ∃j,bu l y=j:= ⟨_,rfl⟩
  rw[hi] at e56x hfx hxy
  rw[hj] at e56y hfy hxy
  have hy:=And.intro @e56x @e56y
  refine bH hcx cK [1000023,1000027,1000030] _ [] rfl rfl rfl rfl ?_ O9
  refine Tr.k [7,10,11,12] ?_
  refine ae fun K3 hK3=> ?_
  by_cases b2:0< f
  ·
   by_cases b3:i=0
   ·
    have hy:=True.intro
    refine aa hcx [] [some 31,some 32,some 33,some 34,some 35,some 36,some 37,some 38,some 39,some 40,some 41,some 42,some 43,some 44,some 45,some 46,some 47,some 48,some 49,some 50,some 51] [] rfl rfl rfl ?_ eg
    refine ct rfl ?_
    have hR:=uZ hi hj b0 b1 (by omega)
    refine aa hcx [] _ [] rfl rfl rfl ?_ eg
    refine Tr.k [8,9] ?_
    refine Tr.live [(8,sl eC .no []),(9,.val (nI 17))] LT ?_
    exact Tr.ret jk
   by_cases b4:f+l.length< z
   ·
    by_cases b5:j=l.length
    ·
     have hy:=True.intro
     refine aa hcx [] [some 31,some 32,some 33,some 34,some 35,some 36,some 37,some 38,some 39,some 40,some 41,some 42,some 43,some 44,some 45,some 46,some 47,some 48,some 49,some 50,some 51] [] rfl rfl rfl ?_ eg
     refine ct rfl ?_
     have hR:=uZ hi hj b0 b1 (by omega)
     refine aa hcx [] _ [] rfl rfl rfl ?_ eg
     refine Tr.k [8,9] ?_
     refine Tr.live [(8,sl eC .no []),(9,.val (nI 17))] LT ?_
     exact Tr.ret jk
    have hy:=True.intro
    refine aa hcx [] [some 31,some 32,some 33,some 34,some 35,some 36,some 37,some 38,some 39,some 40,some 41,some 42,some 43,some 44,some 45,some 46,some 47,some 48,some 49,some 50,some 51] [] rfl rfl rfl ?_ eg
    refine bn rfl ?_
    refine Tr.skip ?_
    refine hK3 _ ?_
    refine Tr.k [7,10,11] ?_
    have hR:=oQ hi hj b0 b1 (by omega)
    have e63:=h63 ((l.drop i).take (j - i)) (by rw[List.length_take,List.length_drop];omega)
    have hy:= @e63
    refine aa hcx [1000057] _ [] rfl rfl rfl ?_ eg
    exact Tr.ret jk
   have hy:=True.intro
   refine aa hcx [] [some 31,some 32,some 33,some 34,some 35,some 36,some 37,some 38,some 39,some 40,some 41,some 42,some 43,some 44,some 45,some 46,some 47,some 48,some 49,some 50,some 51] [] rfl rfl rfl ?_ eg
   refine bn rfl ?_
   refine Tr.skip ?_
   refine hK3 _ ?_
   refine Tr.k [7,10,11] ?_
   have hR:=oQ hi hj b0 b1 (by omega)
   have e63:=h63 ((l.drop i).take (j - i)) (by rw[List.length_take,List.length_drop];omega)
   have hy:= @e63
   refine aa hcx [1000057] _ [] rfl rfl rfl ?_ eg
   exact Tr.ret jk
  by_cases b4:f+l.length< z
  ·
   by_cases b5:j=l.length
   ·
    have hy:=True.intro
    refine aa hcx [] [some 31,some 32,some 33,some 34,some 35,some 36,some 37,some 38,some 39,some 40,some 41,some 42,some 43,some 44,some 45,some 46,some 47,some 48,some 49,some 50,some 51] [] rfl rfl rfl ?_ eg
    refine ct rfl ?_
    have hR:=uZ hi hj b0 b1 (by omega)
    refine aa hcx [] _ [] rfl rfl rfl ?_ eg
    refine Tr.k [8,9] ?_
    refine Tr.live [(8,sl eC .no []),(9,.val (nI 17))] LT ?_
    exact Tr.ret jk
   have hy:=True.intro
   refine aa hcx [] [some 31,some 32,some 33,some 34,some 35,some 36,some 37,some 38,some 39,some 40,some 41,some 42,some 43,some 44,some 45,some 46,some 47,some 48,some 49,some 50,some 51] [] rfl rfl rfl ?_ eg
   refine bn rfl ?_
   refine Tr.skip ?_
   refine hK3 _ ?_
   refine Tr.k [7,10,11] ?_
   have hR:=oQ hi hj b0 b1 (by omega)
   have e63:=h63 ((l.drop i).take (j - i)) (by rw[List.length_take,List.length_drop];omega)
   have hy:= @e63
   refine aa hcx [1000057] _ [] rfl rfl rfl ?_ eg
   exact Tr.ret jk
  have hy:=True.intro
  refine aa hcx [] [some 31,some 32,some 33,some 34,some 35,some 36,some 37,some 38,some 39,some 40,some 41,some 42,some 43,some 44,some 45,some 46,some 47,some 48,some 49,some 50,some 51] [] rfl rfl rfl ?_ eg
  refine bn rfl ?_
  refine Tr.skip ?_
  refine hK3 _ ?_
  refine Tr.k [7,10,11] ?_
  have hR:=oQ hi hj b0 b1 (by omega)
  have e63:=h63 ((l.drop i).take (j - i)) (by rw[List.length_take,List.length_drop];omega)
  have hy:= @e63
  refine aa hcx [1000057] _ [] rfl rfl rfl ?_ eg
  exact Tr.ret jk
 replace b1:=Bool.eq_false_iff.2 b1
 have hy:= @e61
 refine aa hcx [] _ [] rfl rfl rfl ?_ eg
 refine ct rfl ?_
 have hR:=IL b0 b1
 have hy:=True.intro
 refine aa hcx [] _ [] rfl rfl rfl ?_ eg
 refine Tr.live [(8,sl eC .no []),(9,.val (nI 17))] LT ?_
 exact Tr.ret jk
end Go.Sx
namespace Go.Sx
open Go.RowKit Go.Proofs
theorem tf {l:List ab} {f e:Nat} (he:f< e) (hel:e≤l.length) (S:List cf) : ∀d a b T u,d≤12→a< b→b≤l.length→b - a≤2 ^ d→(∃pre post,S=pre++(dA l f e d a b++post)∧pre.length=u)→
 (bX ((l.drop f).take (e - f)) f S d a b (T,u,false)).1=dD l d a b∧(bX ((l.drop f).take (e - f)) f S d a b (T,u,false)).2.2= (u+(dA l f e d a b).length,false)
 |0,a,b,T,u,hd,h1,h2,h3,h4=>by
  have hl: ((l.drop f).take (e - f)).length=e - f:=by rw[List.length_take,List.length_drop];omega
  obtain ⟨pre,post,rfl,rfl⟩ :=h4
  by_cases h:b≤f∨e≤a
  · rw[gS (by rw[hl];omega),oM h]
    have e1: ¬ (pre++([iJ l a b]++post)).length≤(T,pre.length,false).2.1:=by simp
    rw[r8 e1]
    have e2:gt (pre++([iJ l a b]++post)) pre.length=iJ l a b:=by simp[gt,List.getD]
    simp only[e2,List.length_singleton,and_true]
    exact oL l 12 0 a b (Nat.le_trans h3 (by decide)) h3
  · have h3':b - a≤1:=h3
    rw[fl (by rw[hl];omega) h3',uX h h3',n7 h3',ma,fB l f (e - f) (a - f) (by omega) (by omega),show f+(a - f) =a by omega]
    exact ⟨rfl,rfl⟩
 |d+1,a,b,T,u,hd,h1,h2,h3,h4=>by
  have hl: ((l.drop f).take (e - f)).length=e - f:=by rw[List.length_take,List.length_drop];omega
  obtain ⟨pre,post,rfl,rfl⟩ :=h4
  by_cases h:b≤f∨e≤a
  · rw[gS (by rw[hl];omega),oM h]
    have e1: ¬ (pre++([iJ l a b]++post)).length≤(T,pre.length,false).2.1:=by simp
    rw[r8 e1]
    have e2:gt (pre++([iJ l a b]++post)) pre.length=iJ l a b:=by simp[gt,List.getD]
    simp only[e2,List.length_singleton,and_true]
    exact oL l 12 (d+1) a b (Nat.le_trans h3 (Nat.pow_le_pow_right (by omega) hd)) h3
  · by_cases h3':b - a≤1
    · rw[fl (by rw[hl];omega) h3',uX h h3',n7 h3',ma,fB l f (e - f) (a - f) (by omega) (by omega),show f+(a - f) =a by omega]
      exact ⟨rfl,rfl⟩
    · have hh:=fO (n:=b - a) (by omega)
      have hh2:=fu (by omega) h3
      rw[j6 (by rw[hl];omega) h3',rY h3']
      rw[rA h h3']
      have g1:=tf he hel (pre++(dA l f e (d+1) a b++post)) d a (a+aV (b - a)) T pre.length (by omega) (by omega) (by omega) (by omega) ⟨pre,dA l f e d (a+aV (b - a)) b++post,by rw[rA h h3',List.append_assoc],rfl⟩
      rw[rA h h3'] at g1
      generalize bX ((l.drop f).take (e - f)) f (pre++(dA l f e d a (a+aV (b - a))++dA l f e d (a+aV (b - a)) b++post)) d a (a+aV (b - a)) (T,pre.length,false) =X at g1 ⊢
      obtain ⟨x,T1,u1,s1⟩ :=X
      simp only[Prod.mk.injEq] at g1
      obtain ⟨rfl,rfl,rfl⟩ :=g1
      have g2:=tf he hel (pre++(dA l f e d a (a+aV (b - a))++dA l f e d (a+aV (b - a)) b++post)) d (a+aV (b - a)) b T1 (pre.length+(dA l f e d a (a+aV (b - a))).length) (by omega) (by omega) (by omega) (by omega) ⟨pre++dA l f e d a (a+aV (b - a)),post,by simp only[List.append_assoc],by rw[List.length_append]⟩
      simp only[lh]
      rw[g2.1,g2.2]
      exact ⟨rfl,by rw[List.length_append,Nat.add_assoc]⟩
theorem th {l:List ab} {f e:Nat} (hv:cW l=0) (hfe:f≤e) (hel:e≤l.length) (h0:l.length=0∨f< e) :dZ (dE l) (f:Int) (l.length:Int) ((l.drop f).take (e - f)) (c9 l f e) =true:=by
 have hok:=gX (l:=l) (by omega)
 have hll:=hok.1
 have hl: ((l.drop f).take (e - f)).length=e - f:=by rw[List.length_take,List.length_drop];omega
 have hv2:cW ((l.drop f).take (e - f)) =0:=by
  have hs:=fX hv
  unfold cW
  rw[if_neg,if_pos]
  · have key: ∀n,n≤((l.drop f).take (e - f)).length→fW ((l.drop f).take (e - f)) n=true:=fun n=>by
     induction n with
     |zero=>intro _;rfl
     |succ n ih=>
      intro hn
      refine rF (ih (by omega)) ?_
      by_cases e0:n=0
      · exact Or.inl e0
      · right
        rw[fB l f (e - f) (n - 1) (by omega) (by omega),fB l f (e - f) n (by omega) (by omega)]
        exact hs _ _ (by omega) (by omega)
    exact key _ (Nat.le_refl _)
  · intro h
    rcases h with h|h
    · omega
    · rw[List.any_eq_true] at h
      obtain ⟨x,hx,hb⟩ :=h
      have hx2:x∈l:=List.mem_of_mem_drop (List.mem_of_mem_take hx)
      have:l.any dv=true:=List.any_eq_true.2 ⟨x,hx2,hb⟩
      rw[mz (Or.inr this)] at hv;cases hv
 have hB: ¬gf (f:Int) (l.length:Int) ((l.drop f).take (e - f)) :=by
  unfold gf;rw[hv2,hl];omega
 by_cases e0:l.length=0
 · rw[II hB (by omega),zU e0]
   have:gB 0 (List.replicate 16 0) =dE l:=Dj e0 _
   rw[this];simp
 · have hfe2:f< e:=by omega
   unfold dZ
   rw[if_neg (fun q=>q.elim hB (fun q=>by rw[hl] at q;omega)),show ((f:Nat) :Int).toNat=f from rfl,show ((l.length:Nat) :Int).toNat=l.length from rfl,mE e0,zV e0]
   have g:=tf hfe2 hel (dA l f e 12 0 l.length) 12 0 l.length [] 0 (Nat.le_refl _) (by omega) (Nat.le_refl _) (by omega) ⟨[],[],by simp,rfl⟩
   simp only[g.1,g.2,Nat.zero_add,decide_true,Bool.and_true,Bool.not_false]
   have e2:ofT 4 [cX ((l.length:Nat) :Int),dD l 12 0 l.length] =dE l:=by unfold dE gB;rw[if_neg e0];rfl
   rw[e2];simp
def cR:List ab:= [([97],[49]),([99],[50]),([100],[51]),([102],[52]),([103],[53])]
theorem lR:cW cR=0:=by decide+kernel
def fC:List ab:= [([99],[50])]
def fE:List ab:= [([100],[51]),([102],[52])]
def fH:List ab:= [([103],[53])]
def fR:List ab:= [([97],[49]),([99],[50]),([100],[51]),([102],[52])]
def fQ:List ab:= [([99],[50]),([100],[51])]
theorem UP:db cR [99] = ((1,5,fC,c9 cR 1 2),0) :=by rw[zW (i:=1) (by decide+kernel) lR (by decide) (by decide)];rfl
theorem UQ:db cR [101] = ((2,5,fE,c9 cR 2 4),0) :=by rw[rB (i:=3) (by decide+kernel) lR (by decide)];rfl
theorem UR:db cR [104] = ((4,5,fH,c9 cR 4 5),0) :=by rw[rB (i:=5) (by decide+kernel) lR (by decide)];rfl
theorem UT:dc cR [99] [102] = ((0,5,fR,c9 cR 0 4),0) :=by
 rw[zX lR (by decide+kernel),show bu cR [99] =1 by decide+kernel,show bu cR [102] =3 by decide+kernel];rfl
theorem UU: (c9 cR 1 2).length=3:=rfl
theorem UV: (c9 cR 2 4).length=2:=rfl
theorem UW: (c9 cR 4 5).length=1:=rfl
theorem UX: (c9 cR 0 4).length=1:=rfl
theorem UY:dZ (dE cR) 1 5 fC (c9 cR 1 2) =true:=th (l:=cR) (f:=1) (e:=2) lR (by decide) (by decide) (by decide)
theorem zY:dZ (dE cR) 2 5 fE (c9 cR 2 4) =true:=th (l:=cR) (f:=2) (e:=4) lR (by decide) (by decide) (by decide)
theorem UZ:dZ (dE cR) 0 5 fR (c9 cR 0 4) =true:=th (l:=cR) (f:=0) (e:=4) lR (by decide) (by decide) (by decide)
theorem U0:er (dE cR) [99] 1 5 fC (c9 cR 1 2) = ([50],true,0) :=uY (i:=0) (by decide+kernel) UY (by decide) (by decide)
theorem U1:er (dE cR) [101] 2 5 fE (c9 cR 2 4) = ([],false,0) :=oO (i:=1) (by decide+kernel) zY (by decide) (by decide)
theorem U2:er (dE cR) [100] 2 5 fE (c9 cR 2 4) = ([51],true,0) :=uY (i:=0) (by decide+kernel) zY (by decide) (by decide)
theorem U3:er (dE cR) [99] 2 5 fE (c9 cR 2 4) = ([],false,17) :=oP (i:=0) (by decide+kernel) zY (by decide) (by decide)
theorem U4:fp (dE cR) [99] [102] 0 5 fR (c9 cR 0 4) = (fQ,0) :=oQ (a:=1) (b:=3) (by decide+kernel) (by decide+kernel) (by decide+kernel) UZ (by decide)
theorem nZ:LB cR:= ⟨by decide,fun i hi=>by
 have h5:i< 5:=hi
 rcases i with _|_|_|_|_|i
 · decide
 · decide
 · decide
 · decide
 · decide
 · omega⟩
end Go.Sx
namespace Go.Sx
open Go.RowKit Go.Proofs
set_option maxRecDepth 100000
set_option maxHeartbeats 8000000
theorem Pa:jB (some ⟨.struct #[Field.mk "Key" 9 0 false "" "" 0,Field.mk "Value" 9 1 false "" "" 16],2,32,[str [],str []]⟩) 5 [(0,.agg [.val (str [97]),.val (str [49])]),(1,.agg [.val (str [99]),.val (str [50])]),(2,.agg [.val (str [100]),.val (str [51])]),(3,.agg [.val (str [102]),.val (str [52])]),(4,.agg [.val (str [103]),.val (str [53])])] =some (vp (sl eC .full cR)) :=rfl
theorem YK: (gt fQ 0).1= [99] :=rfl
theorem YL: (gt fQ 1).2= [51] :=rfl
theorem YM:fQ.length=2:=rfl
theorem hC:fC.length=1:=rfl
theorem hE:fE.length=2:=rfl
theorem hR4:fR.length=4:=rfl
theorem Cl {p:Prop} (e:p:=by intro KZ hZ;simp -implicitDefEqProofs (disch:=first|omega| (simp only[go_sem,lA,lD,lT] <;>omega) |decide) only[go_sem,↓reduceIte,Nat.reduceEqDiff,reduceCtorEq,Nat.reduceLT,Nat.reduceBEq,Nat.reduceAdd,Pa,hy];with_reducible exact hZ) :p:=e
theorem Pb {p:Prop} (e:p:=by simp -implicitDefEqProofs (disch:=first|omega| (simp only[go_sem,lA,lD,lT] <;>omega) |decide) only[go_sem,↓reduceIte,Nat.reduceEqDiff,reduceCtorEq];all_goals (rfl)) :p:=e
theorem YN {gl:Nat→C} {M:Nat} {pu:Nat→List C→Option C} (hcx:CxOK (aO gl M pu)) :FC Tryd.prog gl 55 ([] :List C) [] (sl eC .full cR) [] :=by
 replace hcx:=hcx.reN (M:=7)
 refine bZ (cx:=aO gl 7 pu) (rs:= [.tmp 0]) rfl Tryd.func55 rfl rfl rfl (by simp only[List.length_cons,List.length_nil];decide) (by simp only[go_sem]) ?_
 simp only[cO,go_sem]
 have hy:=True.intro
 refine aa hcx [] _ [] rfl rfl rfl ?_ Cl
 refine aa hcx [1000006] _ [] rfl rfl rfl ?_ Cl
 exact Tr.ret Pb
theorem fD {p:Prop} (e:p:=by intro KZ hZ;simp -implicitDefEqProofs (maxSteps:=2000000) (disch:=first|omega| (simp only[go_sem,lA,lD,lT,hrl,q1,q2,q3,q4,q5,q6,q7,q10] <;>omega) |decide) only[go_sem,↓reduceIte,Nat.reduceEqDiff,reduceCtorEq,Nat.reduceLT,Nat.reduceBEq,Nat.reduceAdd,eq_self,decide_true,decide_false,not_true_eq_false,not_false_eq_true,h55,e12,e22c,e22e,e22h,e24,k1,k2,k3,k4,k5,q1,q2,q3,q4,q5,q6,q7,hy];with_reducible exact hZ) :p:=e
theorem Pc {p:Prop} (e:p:=by simp -implicitDefEqProofs (disch:=first|omega| (simp only[go_sem,lA,lD,lT,hrl,q1,q2,q3,q4,q5,q6,q7,q10] <;>omega) |decide) only[go_sem,↓reduceIte,Nat.reduceEqDiff,reduceCtorEq];all_goals (rfl)) :p:=e
theorem YO {gl:Nat→C} {M:Nat} {pu:Nat→List C→Option C} (hcx:CxOK (aO gl M pu)) (h12: ∀l:List ab,LB l→pu 12 [sl eC .no l] =some (.tup [.agg (cl bC (kD l).1),.val (nI (kD l).2)])) (h22: ∀ (l:List ab) (k:List UInt8),LB l→pu 22 [sl eC .no l,.val (str k)] =some (.tup [.agg [.val (nI (db l k).1.1),.val (nI (db l k).1.2.1),sl eC .no (db l k).1.2.2.1,sl dC .no (db l k).1.2.2.2],.val (nI (db l k).2)])) (h24: ∀ (l:List ab) (x y:List UInt8),LB l→pu 24 [sl eC .no l,.val (str x),.val (str y)] =some (.tup [.agg [.val (nI (dc l x y).1.1),.val (nI (dc l x y).1.2.1),sl eC .no (dc l x y).1.2.2.1,sl dC .no (dc l x y).1.2.2.2],.val (nI (dc l x y).2)])) (h29: ∀ (r:List UInt8) (k:List UInt8) (f z:Int) (l:List ab) (S:List cf),r.length=16→(-9223372036854775808≤f∧f≤9223372036854775807)→(-9223372036854775808≤z∧z≤9223372036854775807)→LB l→S.length≤1000000→pu 29 [.agg (cl bC r),.val (str k),.agg [.val (.int .i64 f),.val (.int .i64 z),sl eC .no l,sl dC .no S]] =some (.tup [.val (str (er r k f z l S).1),.val (.bool (er r k f z l S).2.1),.val (nI (er r k f z l S).2.2)])) (h32: ∀ (r x y:List UInt8) (f z:Int) (l:List ab) (S:List cf),r.length=16→(-9223372036854775808≤f∧f≤9223372036854775807)→(-9223372036854775808≤z∧z≤9223372036854775807)→LB l→S.length≤1000000→pu 32 [.agg (cl bC r),.val (str x),.val (str y),.agg [.val (.int .i64 f),.val (.int .i64 z),sl eC .no l,sl dC .no S]] =some (.tup [sl eC .no (fp r x y f z l S).1,.val (nI (fp r x y f z l S).2)])) (h55:pu 55 [] =some (sl eC .full cR)) :FC Tryd.prog gl 19 ([] :List C) [] (.val (.bool true)) [] :=by
 replace hcx:=hcx.reN (M:=219)
 refine bZ (cx:=aO gl 219 pu) (rs:= [.tmp 0]) rfl Tryd.func19 rfl rfl rfl (by simp only[List.length_cons,List.length_nil];decide) (by simp only[go_sem]) ?_
 simp only[cO,go_sem]
 have hy:=True.intro
 have e12:pu 12 [sl eC .no cR] =some (.tup [.agg (cl bC (dE cR)),.val (nI 0)]) := (h12 cR nZ).trans (by rw[pZ lR])
 have e22c:pu 22 [sl eC .no cR,.val (str [99])] =some (.tup [.agg [.val (nI 1),.val (nI 5),sl eC .no fC,sl dC .no (c9 cR 1 2)],.val (nI 0)]) := (h22 cR [99] nZ).trans (by rw[UP])
 have e22e:pu 22 [sl eC .no cR,.val (str [101])] =some (.tup [.agg [.val (nI 2),.val (nI 5),sl eC .no fE,sl dC .no (c9 cR 2 4)],.val (nI 0)]) := (h22 cR [101] nZ).trans (by rw[UQ])
 have e22h:pu 22 [sl eC .no cR,.val (str [104])] =some (.tup [.agg [.val (nI 4),.val (nI 5),sl eC .no fH,sl dC .no (c9 cR 4 5)],.val (nI 0)]) := (h22 cR [104] nZ).trans (by rw[UR])
 have e24:pu 24 [sl eC .no cR,.val (str [99]),.val (str [102])] =some (.tup [.agg [.val (nI 0),.val (nI 5),sl eC .no fR,sl dC .no (c9 cR 0 4)],.val (nI 0)]) := (h24 cR [99] [102] nZ).trans (by rw[UT])
 have lbC:LB fC:= ⟨by decide,fun i hi=>by
  have h5:i< 1:=hi
  rcases i with _|i
  · decide
  · omega⟩
 have lbE:LB fE:= ⟨by decide,fun i hi=>by
  have h5:i< 2:=hi
  rcases i with _|_|i
  · decide
  · decide
  · omega⟩
 have lbR:LB fR:= ⟨by decide,fun i hi=>by
  have h5:i< 4:=hi
  rcases i with _|_|_|_|i
  · decide
  · decide
  · decide
  · decide
  · omega⟩
 have k1:pu 29 [.agg (cl bC (dE cR)),.val (str [99]),.agg [.val (nI 1),.val (nI 5),sl eC .no fC,sl dC .no (c9 cR 1 2)]] =some (.tup [.val (str [50]),.val (.bool true),.val (nI 0)]) := (h29 (dE cR) [99] ((1:Nat) :Int) ((5:Nat) :Int) fC (c9 cR 1 2) (i1 _) (by omega) (by omega) lbC (by decide)).trans (by rw[show ((1:Nat) :Int) =1 from rfl,show ((5:Nat) :Int) =5 from rfl,U0])
 have k2:pu 29 [.agg (cl bC (dE cR)),.val (str [101]),.agg [.val (nI 2),.val (nI 5),sl eC .no fE,sl dC .no (c9 cR 2 4)]] =some (.tup [.val (str []),.val (.bool false),.val (nI 0)]) := (h29 (dE cR) [101] ((2:Nat) :Int) ((5:Nat) :Int) fE (c9 cR 2 4) (i1 _) (by omega) (by omega) lbE (by decide)).trans (by rw[show ((2:Nat) :Int) =2 from rfl,show ((5:Nat) :Int) =5 from rfl,U1])
 have k3:pu 29 [.agg (cl bC (dE cR)),.val (str [100]),.agg [.val (nI 2),.val (nI 5),sl eC .no fE,sl dC .no (c9 cR 2 4)]] =some (.tup [.val (str [51]),.val (.bool true),.val (nI 0)]) := (h29 (dE cR) [100] ((2:Nat) :Int) ((5:Nat) :Int) fE (c9 cR 2 4) (i1 _) (by omega) (by omega) lbE (by decide)).trans (by rw[show ((2:Nat) :Int) =2 from rfl,show ((5:Nat) :Int) =5 from rfl,U2])
 have k4:pu 29 [.agg (cl bC (dE cR)),.val (str [99]),.agg [.val (nI 2),.val (nI 5),sl eC .no fE,sl dC .no (c9 cR 2 4)]] =some (.tup [.val (str []),.val (.bool false),.val (nI 17)]) := (h29 (dE cR) [99] ((2:Nat) :Int) ((5:Nat) :Int) fE (c9 cR 2 4) (i1 _) (by omega) (by omega) lbE (by decide)).trans (by rw[show ((2:Nat) :Int) =2 from rfl,show ((5:Nat) :Int) =5 from rfl,U3])
 have k5:pu 32 [.agg (cl bC (dE cR)),.val (str [99]),.val (str [102]),.agg [.val (nI 0),.val (nI 5),sl eC .no fR,sl dC .no (c9 cR 0 4)]] =some (.tup [sl eC .no fQ,.val (nI 0)]) := (h32 (dE cR) [99] [102] ((0:Nat) :Int) ((5:Nat) :Int) fR (c9 cR 0 4) (i1 _) (by omega) (by omega) lbR (by decide)).trans (by rw[show ((0:Nat) :Int) =0 from rfl,show ((5:Nat) :Int) =5 from rfl,U4])
 have hrl:=i1 cR
 have q1:=UU
 have q2:=UV
 have q3:=UW
 have q4:=UX
 generalize c9 cR 1 2=SC at*
 generalize c9 cR 2 4=SE at*
 generalize c9 cR 4 5=SH at*
 generalize c9 cR 0 4=SR at*
 generalize dE cR=R at*
 have q5:=hC
 have q6:=hE
 have q7:=hR4
 have q8:=YK
 have q9:=YL
 have q10:=YM
 generalize fC=LC at*
 generalize fE=LE at*
 generalize fR=LR at*
 generalize fQ=LQ at*
 have x0: ∀u y z,KG (some ⟨u,2,y,z⟩) (some 0) 2 (cl eC LQ) =some (vp (.kp ((cl eC LQ).drop (0*2)))) :=fun u y z=>by
  have:=nA eC u y z 0 LQ (by omega)
  rw[q10] at this;exact this
 have x1: ∀u y z,KG (some ⟨u,2,y,z⟩) (some 1) 2 (cl eC LQ) =some (vp (.kp ((cl eC LQ).drop (1*2)))) :=fun u y z=>by
  have:=nA eC u y z 1 LQ (by omega)
  rw[q10] at this;exact this
 have x0a:=B8 LQ 0 (by omega)
 have x0b:=B6 LQ 0 (by omega)
 have x1a:=B9 LQ 1 (by omega)
 have x1b:=nX LQ 1 (by omega)
 rw[q8] at x0b
 rw[q9] at x1b
 generalize (cl eC LQ).drop (0*2) =K0 at*
 generalize (cl eC LQ).drop (1*2) =K1 at*
 generalize (cl eC LQ).drop (1*2+1) =K2 at*
 refine aa hcx [] _ [] rfl rfl rfl ?_ fD
 refine aa hcx [1000026] _ [] rfl rfl rfl ?_ fD
 refine aa hcx [1000031] _ [none] rfl rfl rfl ?_ fD
 refine Tr.k [1,2,3] ?_
 refine aa hcx [1000036] _ [none] rfl rfl rfl ?_ fD
 refine Tr.k [1,2,3,4,5] ?_
 refine aa hcx [1000041] _ [none] rfl rfl rfl ?_ fD
 refine Tr.k [1,2,3,4,5,6,7] ?_
 refine aa hcx [1000046] _ [none] rfl rfl rfl ?_ fD
 refine Tr.k [1,2,3,4,5,6,7,8,9] ?_
 refine aa hcx [1000051] _ [none] rfl rfl rfl ?_ fD
 refine Tr.k [2,3,4,5,6,7,8,9,10,11] ?_
 refine ae fun K1 hK1=> ?_
 refine aa hcx [] [some 52,some 53,some 54,some 55,some 56,some 57,some 58,some 59,some 60,some 61,some 62,some 63,some 64,some 65,some 66,some 67,some 68,some 69] [] rfl rfl rfl ?_ fD
 refine Tr.k [2,4,6,8,10,69] ?_
 refine bn rfl ?_
 refine Tr.skip ?_
 refine hK1 _ ?_
 refine Tr.k [2,4,6,8,10] ?_
 refine ae fun K2 hK2=> ?_
 refine aa hcx [] [some 70,some 71,some 72,some 73,some 74,some 75,some 76,some 77,some 78,some 79,some 80,some 81,some 82,some 83,some 84,some 85,some 86,some 87,some 88,some 89,some 90,some 91,some 92,some 93,some 94,some 95,some 96,some 97,some 98,some 99,some 100,some 101,some 102,some 103,some 104,some 105,some 106,some 107,some 108,some 109,some 110,some 111,some 112,some 113,some 114,some 115,some 116,some 117,some 118,some 119,some 120,some 121,some 122,some 123,some 124,some 125,some 126,some 127,some 128,some 129] [] rfl rfl rfl ?_ fD
 refine Tr.k [2,4,6,10,129] ?_
 refine bn rfl ?_
 refine Tr.skip ?_
 refine hK2 _ ?_
 refine Tr.k [2,4,6,10] ?_
 refine aa hcx [1000134,1000135,1000136] _ [] rfl rfl rfl ?_ fD
 refine Tr.k [2,6,10,12,13,14] ?_
 refine aa hcx [1000141,1000142,1000143] _ [] rfl rfl rfl ?_ fD
 refine Tr.k [2,6,10,12,13,14,16,17] ?_
 refine aa hcx [1000148,1000149,1000150] _ [] rfl rfl rfl ?_ fD
 refine Tr.k [2,6,10,12,13,14,16,17,18,19,20] ?_
 refine aa hcx [1000155,1000156,1000157] _ [] rfl rfl rfl ?_ fD
 refine Tr.k [2,10,12,13,14,16,17,18,19,20,23] ?_
 refine aa hcx [1000162,1000163] _ [] rfl rfl rfl ?_ fD
 refine Tr.k [12,13,14,16,17,18,19,20,23,24,25] ?_
 have hy:=And.intro @x0 (And.intro @x1 (And.intro @x0a (And.intro @x0b (And.intro @x1a (And.intro @x1b @q10)))))
 refine aa hcx [1000218] [some 164,some 165,some 166,some 167,some 168,some 169,some 170,some 171,some 172,some 173,some 174,some 175,some 176,some 177,some 178,some 179,some 180,some 181,some 182,some 183,some 184,some 185,some 186,some 187,some 188,some 189,some 190,some 191,some 192,some 193,some 194,some 195,some 196,some 197,some 198,some 199,some 200,some 201,some 202,some 203,some 204,some 205,some 206,some 207,some 208,some 209,some 210,some 211,some 212,some 213,some 214,some 215,some 216,some 217,some 218,some 0] [] rfl rfl rfl ?_ fD
 refine Tr.k [0] ?_
 exact Tr.ret Pc
end Go.Sx
namespace Go.Sx
open Go.RowKit Go.Proofs
set_option maxRecDepth 100000
set_option maxHeartbeats 8000000
theorem Li {l:List ab} {k:List UInt8} (hs:Srt l) {j:Nat} (hj:j< l.length) (h:bl (gt l j).1 k=true) :j< bu l k:=by
 obtain ⟨d,hd⟩ : ∃d,l.length= (j+1)+d:= ⟨l.length - (j+1),by omega⟩
 have h1:fN l k (j+1) =j+1:=Srt.take hs (j+1) (by omega) k (Iz hs h hj)
 have h2: ∀d,j+1+d≤l.length→fN l k (j+1)≤fN l k (j+1+d) :=fun d=>by
  induction d with
  |zero=>intro _;exact Nat.le_refl _
  |succ d ih=>
   intro hd
   have:=ih (by omega)
   by_cases hb:bl (gt l (j+1+d)).1 k=true
   · rw[←Nat.add_assoc,rU (by omega) hb];omega
   · rw[←Nat.add_assoc,rV (by omega) (Bool.eq_false_iff.2 hb)];exact this
 have h3:=h2 d (by omega)
 rw[←hd] at h3
 unfold bu;omega
theorem yU {l:List ab} {k:List UInt8} (hs:Srt l) {j:Nat} (hj:j< l.length) (h:bl (gt l j).1 k=false) :bu l k≤j:=by
 obtain ⟨d,hd⟩ : ∃d,l.length=j+d:= ⟨l.length - j,by omega⟩
 unfold bu
 rw[hd,qO d (by omega) (IA hs h)]
 exact FX l k j
theorem ti {l:List ab} {k:List UInt8} (hs:Srt l) {j:Nat} (hj:j< l.length) (h: (gt l j).1=k) :bu l k=j:=by
 have h1:=yU hs hj (k:=k) (by rw[h];exact wu k)
 by_cases e:bu l k=j
 · exact e
 · have h2:fN l k (bu l k+(j - bu l k)) =bu l k+(j - bu l k) :=Srt.take hs _ (by omega) k (fun x hx=>by rw[←h];exact hs x j (by omega) hj)
   have h3: ∀d,j+d≤l.length→fN l k j≤fN l k (j+d) :=fun d=>by
    induction d with
    |zero=>intro _;exact Nat.le_refl _
    |succ d ih=>
     intro hd
     have:=ih (by omega)
     by_cases hb:bl (gt l (j+d)).1 k=true
     · rw[←Nat.add_assoc,rU (by omega) hb];omega
     · rw[←Nat.add_assoc,rV (by omega) (Bool.eq_false_iff.2 hb)];exact this
   have h4:=h3 (l.length - j) (by omega)
   rw[show j+(l.length - j) =l.length by omega] at h4
   rw[show bu l k+(j - bu l k) =j by omega] at h2
   unfold bu at h1 e;omega
theorem wL {l:List ab} {k:List UInt8} (hs:Srt l) : (((0:Nat) :Int)≤g6 l k) = (bu l k< l.length∧(gt l (bu l k)).1=k) :=by
 apply propext
 unfold g6
 cases hh:lf l k with
 |none=>
  unfold lf at hh
  rw[List.findIdx?_eq_none_iff] at hh
  constructor
  · intro h;simp at h
  · rintro ⟨h1,h2⟩
    have:=hh _ (kB l _ h1)
    simp[h2] at this
 |some n=>
  unfold lf at hh
  rw[List.findIdx?_eq_some_iff_getElem] at hh
  obtain ⟨h1,h2,_⟩ :=hh
  have e:gt l n=l[n] :=by simp[gt,List.getD,List.getElem?_eq_getElem h1]
  have hk: (gt l n).1=k:=by rw[e];simpa using h2
  have:=ti hs h1 hk
  constructor
  · intro _;rw[this];exact ⟨h1,hk⟩
  · intro _;simp
theorem Cm {l:List ab} {a b:Nat} (h:a< b∧b≤l.length∧l.length≤4096) : (bX l 0 [] 12 a b ([],0,false)).1= (iJ l a b).1:=r9 ⟨h.1,h.2.1,by omega⟩
theorem Pd {p:Prop} (e:p:=by intro KZ hZ;simp -implicitDefEqProofs (disch:=first|omega| (simp only[go_sem,lA,lD,lT] <;>omega) |decide) only[go_sem,↓reduceIte,Nat.reduceEqDiff,reduceCtorEq,Nat.reduceLT,Nat.reduceBEq,Nat.reduceAdd,e13,hy];with_reducible exact hZ) :p:=e
theorem Pe {p:Prop} (e:p:=by intro KZ hZ;simp -implicitDefEqProofs (disch:=first|omega| (simp only[go_sem,lA,lD,lT] <;>omega) |decide) only[go_sem,↓reduceIte,Nat.reduceEqDiff,reduceCtorEq,Nat.reduceLT,Nat.reduceBEq,Nat.reduceAdd,e13,hy];with_reducible refine And.intro ?_ hZ;first|exact rfl|decide) :p:=e
theorem Pf {p:Prop} (e:p:=by simp -implicitDefEqProofs (disch:=first|omega| (simp only[go_sem,lA,lD,lT] <;>omega) |decide) only[go_sem,↓reduceIte,Nat.reduceEqDiff,reduceCtorEq];all_goals (rfl)) :p:=e
theorem YP {gl:Nat→C} {M:Nat} {pu:Nat→List C→Option C} (hcx:CxOK (aO gl M pu)) (h13: ∀l:List ab,l.length≤1000000→pu 13 [sl eC .no l] =some (sl eC (.own 2) l)) (f z:Int) (l:List ab) (S:List cf) (hl:l.length≤1000000) :FC Tryd.prog gl 30 [.agg [.val (.int .i64 f),.val (.int .i64 z),sl eC .no l,sl dC .no S]] [] (.agg [.val (.int .i64 f),.val (.int .i64 z),sl eC .no l,sl dC .no S]) [] :=by
 replace hcx:=hcx.reN (M:=13)
 refine bZ (cx:=aO gl 13 pu) (rs:= [.cell 2 50]) rfl Tryd.func30 rfl rfl rfl (by simp only[List.length_cons,List.length_nil];decide) (by simp only[go_sem]) ?_
 simp only[cO,go_sem]
 have hy:=True.intro
 have e13:=h13 l hl
 refine aa hcx [] _ [none,none] rfl rfl rfl ?_ Pd
 refine bH hcx cK [] _ [] rfl rfl rfl rfl ?_ Pe
 exact Tr.ret Pf
theorem gW {p:Prop} (e:p:=by intro KZ hZ;simp -implicitDefEqProofs (disch:=first|omega| (simp only[go_sem,lA,lD,lT,hgl] <;>omega) |decide) only[go_sem,↓reduceIte,Nat.reduceEqDiff,reduceCtorEq,Nat.reduceLT,Nat.reduceBEq,Nat.reduceAdd,ep85,en85,b1,b2,hy];with_reducible exact hZ) :p:=e
theorem tj {p:Prop} (e:p:=by simp -implicitDefEqProofs (disch:=first|omega| (simp only[go_sem,lA,lD,lT,hgl] <;>omega) |decide) only[go_sem,↓reduceIte,Nat.reduceEqDiff,reduceCtorEq];all_goals (rfl)) :p:=e
theorem U5 {gl:Nat→C} {M0:Nat} {pu:Nat→List C→Option C} {hp:Nat→List C→Hp→Option (C×Hp)} (hcx:CxOK (fj gl M0 pu hp)) (l:List ab) (f e d a b:Nat) (hl:OkL l) (hf:f≤5000∧e≤5000) (hd:d≤12) (hab:a< b∧b≤l.length∧b - a≤2 ^ d) (hz:b≤f∨e≤a∨b - a≤1) (hnr: ∀ (g:Nat) (xs:List C),noRefs 0 xs=false→pu g xs=none) (hn85: ∀xs:List C,(∃b o,C.bp b o∈xs)→hp 85 xs [] =some (.top,[])) (hq85: ∀ (pre suf:Hp) (l:List ab) (f:Nat) (S:List cf) (d:Nat) (T:List (List UInt8)) (u:Nat) (sh:Bool) (a b:Nat),OkH pre→OkH suf→LZ l→f≤5000→S.length≤1000000→u≤S.length→T.length≤900000 - 2 ^ (d+1)→d≤12→a< b∧b≤5000∧b - a≤2 ^ d→hp 85 [.bp pre.length 0,sl eC .no l,.val (nI f),.val (nI a),.val (nI b)] (pre++([some [sl sC (.own 1) (T),sl dC .no S,.val (nI (u)),.val (.bool (sh))]]++suf)) =some (.agg (cl bC (bX l f S d a b (T,u,sh)).1),pre++([some [sl sC (.own 1) ((bX l f S d a b (T,u,sh)).2.1),sl dC .no S,.val (nI ((bX l f S d a b (T,u,sh)).2.2.1)),.val (.bool ((bX l f S d a b (T,u,sh)).2.2.2))]]++suf))) :FC Tryd.prog gl 92 [sl eC .no l,.val (nI f),.val (nI e),.val (nI a),.val (nI b)] [] (sl dC (.own 16) (dA l f e d a b)) [] :=by
 replace hcx:=hcx.reN (M:=52)
 refine bZ (cx:=fj gl 52 pu hp) (rs:= [.tmp 10]) rfl Tryd.func92 rfl rfl rfl (by simp only[List.length_cons,List.length_nil];decide) (by simp only[go_sem]) ?_
 simp only[cO,go_sem]
 have b1:=True.intro
 have b2:=True.intro
 have hy:=True.intro
 have hll:=hl.1
 have hgl:=m5 l
 have en85: ∀x y:Nat,hp 85 [.bp 0 0,sl eC .no l,.val (nI 0),.val (nI x),.val (nI y)] [] =some (.top,[]) :=fun x y=>hn85 _ ⟨0,0,by simp⟩
 have ep85: ∀x y:Nat,pu 85 [.bp 0 0,sl eC .no l,.val (nI 0),.val (nI x),.val (nI y)] =none:=fun x y=>hnr 85 _ rfl
 refine aa hcx [] _ [] rfl rfl rfl ?_ gW
 refine ae fun K1 hK1=> ?_
 by_cases b1:b≤f
 ·
  refine aa hcx [] [some 13,some 14,some 15,some 16,some 17,some 18,some 19,some 20] [] rfl rfl rfl ?_ gW
  refine ct rfl ?_
  refine aa hcx [1000022] _ [none] rfl rfl rfl ?_ gW
  refine Tr.bxc 0 0 (sl sC (.own 1) []) _ rfl rfl (bR rfl) rfl ?_
  refine Tr.bxc 0 1 (sl dC .no []) _ rfl rfl (bR rfl) rfl ?_
  simp only[List.set_cons_succ,List.set_cons_zero]
  have e85:=hq85 [] [] l 0 [] 12 [] 0 false a b OkH.nil OkH.nil hl.lz (by omega) (by simp) (by simp) (by simp) (by omega) ⟨hab.1,by omega,by omega⟩
  simp only[List.cons_append,List.nil_append,List.length_cons,List.length_nil,Nat.zero_add] at e85
  rw[Cm ⟨hab.1,hab.2.1,hll⟩] at e85
  have hR:=oM (l:=l) (d:=d) (f:=f) (e:=e) (a:=a) (b:=b) (Or.inl b1)
  have hy:= @e85
  refine aa hcx [1000028] _ [] rfl rfl rfl ?_ gW
  rw[hR]
  refine Tr.live [(10,sl dC (.own 16) [iJ l a b])] LT ?_
  exact Tr.ret tj
 by_cases b2:e≤a
 ·
  refine aa hcx [] [some 13,some 14,some 15,some 16,some 17,some 18,some 19,some 20] [] rfl rfl rfl ?_ gW
  refine ct rfl ?_
  refine aa hcx [1000022] _ [none] rfl rfl rfl ?_ gW
  refine Tr.bxc 0 0 (sl sC (.own 1) []) _ rfl rfl (bR rfl) rfl ?_
  refine Tr.bxc 0 1 (sl dC .no []) _ rfl rfl (bR rfl) rfl ?_
  simp only[List.set_cons_succ,List.set_cons_zero]
  have e85:=hq85 [] [] l 0 [] 12 [] 0 false a b OkH.nil OkH.nil hl.lz (by omega) (by simp) (by simp) (by simp) (by omega) ⟨hab.1,by omega,by omega⟩
  simp only[List.cons_append,List.nil_append,List.length_cons,List.length_nil,Nat.zero_add] at e85
  rw[Cm ⟨hab.1,hab.2.1,hll⟩] at e85
  have hR:=oM (l:=l) (d:=d) (f:=f) (e:=e) (a:=a) (b:=b) (Or.inr b2)
  have hy:= @e85
  refine aa hcx [1000028] _ [] rfl rfl rfl ?_ gW
  rw[hR]
  refine Tr.live [(10,sl dC (.own 16) [iJ l a b])] LT ?_
  exact Tr.ret tj
 refine aa hcx [] [some 13,some 14,some 15,some 16,some 17,some 18,some 19,some 20] [] rfl rfl rfl ?_ gW
 refine bn rfl ?_
 refine Tr.skip ?_
 refine hK1 _ ?_
 refine ae fun K2 hK2=> ?_
 have h32:b - a=1:=by omega
 have hR:=uX (l:=l) (d:=d) (f:=f) (e:=e) (a:=a) (b:=b) (fun h=>h.elim b1 b2) (by omega)
 have hy:= @h32
 refine aa hcx [] _ [] rfl rfl rfl ?_ gW
 refine ct rfl ?_
 have hy:=True.intro
 refine aa hcx [] _ [] rfl rfl rfl ?_ gW
 rw[hR]
 refine Tr.live [(10,sl dC (.own 16) [])] LT ?_
 exact Tr.ret tj
theorem mr {p:Prop} (e:p:=by intro KZ hZ;simp -implicitDefEqProofs (disch:=first|omega| (simp only[go_sem,lA,lD,lT,hgl] <;>omega) |decide) only[go_sem,↓reduceIte,Nat.reduceEqDiff,reduceCtorEq,Nat.reduceLT,Nat.reduceBEq,Nat.reduceAdd,hy];with_reducible exact hZ) :p:=e
theorem Lj {p:Prop} (e:p:=by simp -implicitDefEqProofs (disch:=first|omega| (simp only[go_sem,lA,lD,lT,hgl] <;>omega) |decide) only[go_sem,↓reduceIte,Nat.reduceEqDiff,reduceCtorEq];all_goals (first| (rw[hR];done) | (rw[hR];rfl))) :p:=e
theorem U6 {gl:Nat→C} {M0:Nat} {pu:Nat→List C→Option C} {hp:Nat→List C→Hp→Option (C×Hp)} (hcx:CxOK (fj gl M0 pu hp)) (l:List ab) (f e d a b:Nat) (hl:OkL l) (hf:f≤5000∧e≤5000) (hd: (d+1)≤12) (hab:a< b∧b≤l.length∧b - a≤2 ^ (d+1)) (h92: ∀a b:Nat,a< b∧b≤l.length∧b - a≤2 ^ d→pu 92 [sl eC .no l,.val (nI f),.val (nI e),.val (nI a),.val (nI b)] =some (sl dC (.own 16) (dA l f e d a b))) (hz1: ¬b≤f) (hz2: ¬e≤a) (hz3: ¬b - a≤1) (h106: ∀n:Nat,n≤4611686018427387000→pu 106 [.val (nI n)] =some (.val (nI (aV n)))) :FC Tryd.prog gl 92 [sl eC .no l,.val (nI f),.val (nI e),.val (nI a),.val (nI b)] [] (sl dC (.own 16) (dA l f e (d+1) a b)) [] :=by
 replace hcx:=hcx.reN (M:=52)
 refine bZ (cx:=fj gl 52 pu hp) (rs:= [.tmp 10]) rfl Tryd.func92 rfl rfl rfl (by simp only[List.length_cons,List.length_nil];decide) (by simp only[go_sem]) ?_
 simp only[cO,go_sem]
 have hy:=True.intro
 have hll:=hl.1
 have hgl:=m5 l
 have b1:=hz1
 have b2:=hz2
 have h32: (b - a=1) =False:=eq_false (by omega)
 refine aa hcx [] _ [] rfl rfl rfl ?_ mr
 refine ae fun K1 hK1=> ?_
 have hy:=And.intro @b1 @b2
 refine aa hcx [] [some 13,some 14,some 15,some 16,some 17,some 18,some 19,some 20] [] rfl rfl rfl ?_ mr
 refine bn rfl ?_
 refine Tr.skip ?_
 refine hK1 _ ?_
 refine ae fun K2 hK2=> ?_
 have hy:= @h32
 refine aa hcx [] _ [] rfl rfl rfl ?_ mr
 refine bn rfl ?_
 refine Tr.skip ?_
 refine hK2 _ ?_
 have e106:=h106 (b - a) (by omega)
 have hh:=fO (n:=b - a) (by omega)
 have hh2:=fu (by omega) hab.2.2
 have e1:=h92 a (a+aV (b - a)) (by omega)
 have e2:=h92 (a+aV (b - a)) b (by omega)
 have hp3:2 ^ d≤2 ^ 12:=Nat.pow_le_pow_right (by omega) (by omega)
 have hs1:=kO l f e d a (a+aV (b - a))
 have hs2:=kO l f e d (a+aV (b - a)) b
 have hR:=rA (l:=l) (d:=d) (f:=f) (e:=e) (a:=a) (b:=b) (fun h=>h.elim b1 b2) hz3
 have hy:= @e106
 refine aa hcx [1000038] _ [] rfl rfl rfl ?_ mr
 refine Tr.k [0,1,2,3,4,12] ?_
 have hy:=And.intro @e1 @e2
 refine aa hcx [44,1000051] _ [] rfl rfl rfl ?_ mr
 exact Tr.ret Lj
theorem ms {p:Prop} (e:p:=by intro KZ hZ;simp -implicitDefEqProofs (disch:=first|omega| (simp only[go_sem,lA,lD,lT] <;>omega) |decide) only[go_sem,↓reduceIte,Nat.reduceEqDiff,reduceCtorEq,Nat.reduceLT,Nat.reduceBEq,Nat.reduceAdd,hy];with_reducible exact hZ) :p:=e
theorem Cn {p:Prop} (e:p:=by simp -implicitDefEqProofs (disch:=first|omega| (simp only[go_sem,lA,lD,lT] <;>omega) |decide) only[go_sem,↓reduceIte,Nat.reduceEqDiff,reduceCtorEq];all_goals (first| (rw[hR];done) | (rw[hR];rfl))) :p:=e
theorem YQ {gl:Nat→C} {M:Nat} {pu:Nat→List C→Option C} (hcx:CxOK (aO gl M pu)) (h92: ∀ (l:List ab) (f e a b:Nat),OkL l→f≤5000∧e≤5000→a< b∧b≤l.length→pu 92 [sl eC .no l,.val (nI f),.val (nI e),.val (nI a),.val (nI b)] =some (sl dC (.own 16) (dA l f e 12 a b))) (l:List ab) (f e:Nat) (hl:OkL l) (hfe:f≤e∧e≤l.length) :FC Tryd.prog gl 59 [sl eC .no l,.val (nI f),.val (nI e)] [] (.agg [.val (nI f),.val (nI l.length),sl eC .no ((l.drop f).take (e - f)),sl dC .no (c9 l f e)]) [] :=by
 replace hcx:=hcx.reN (M:=29)
 refine bZ (cx:=aO gl 29 pu) (rs:= [.cell 6 54]) rfl Tryd.func59 rfl rfl rfl (by simp only[List.length_cons,List.length_nil];decide) (by simp only[go_sem]) ?_
 simp only[cO,go_sem]
 have hy:=True.intro
 have hll:=hl.1
 refine aa hcx [] _ [none] rfl rfl rfl ?_ ms
 refine aa hcx [11] _ [none] rfl rfl rfl ?_ ms
 refine ae fun K1 hK1=> ?_
 refine aa hcx [] _ [] rfl rfl rfl ?_ ms
 refine bS rfl (fun hc20=> ?_) (fun hc20=> ?_)
 ·
  have hR:=zV (l:=l) (f:=f) (e:=e) (by omega)
  have e92:=h92 l f e 0 l.length hl (by omega) (by omega)
  have hy:= @e92
  refine bG hcx [] _ [] rfl rfl rfl ?_ ms
  refine hK1 _ ?_
  have hy:=True.intro
  refine aa hcx [] _ [] rfl rfl rfl ?_ ms
  exact Tr.ret Cn
 have hR:=zU (l:=l) (f:=f) (e:=e) (by omega)
 refine Tr.bxc 1 3 (sl dC .no []) _ rfl rfl (bR rfl) rfl ?_
 simp only[List.set_cons_succ,List.set_cons_zero]
 refine Tr.skip ?_
 refine hK1 _ ?_
 refine aa hcx [] _ [] rfl rfl rfl ?_ ms
 exact Tr.ret Cn
theorem iS {p:Prop} (e:p:=by intro KZ hZ;simp -implicitDefEqProofs (disch:=first|omega| (simp only[go_sem,lA,lD,lT] <;>omega) |decide) only[go_sem,↓reduceIte,Nat.reduceEqDiff,reduceCtorEq,Nat.reduceLT,Nat.reduceBEq,Nat.reduceAdd,e16,b1,b2,hy];with_reducible exact hZ) :p:=e
theorem wM {p:Prop} (e:p:=by simp -implicitDefEqProofs (disch:=first|omega| (simp only[go_sem,lA,lD,lT] <;>omega) |decide) only[go_sem,↓reduceIte,Nat.reduceEqDiff,reduceCtorEq];all_goals (first| (rw[hR];done) | (rw[hR];rfl) | (rw[hR];simp only[m6,Nat.add_sub_cancel_left];done))) :p:=e
theorem YR {gl:Nat→C} {M:Nat} {pu:Nat→List C→Option C} (hcx:CxOK (aO gl M pu)) (h16: ∀l:List ab,LB l→pu 16 [sl eC .no l] =some (.val (nI (cW l)))) (h58: ∀ (l:List ab) (k:List UInt8),l.length≤1000000→pu 58 [sl eC .no l,.val (str k)] =some (.val (nI (bu l k)))) (h35: ∀ (l:List ab) (k:List UInt8),l.length≤1000000→pu 35 [sl eC .no l,.val (str k)] =some (.val (.int .i64 (g6 l k)))) (h59: ∀ (l:List ab) (f e:Nat),OkL l→f≤e∧e≤l.length→pu 59 [sl eC .no l,.val (nI f),.val (nI e)] =some (.agg [.val (nI f),.val (nI l.length),sl eC .no ((l.drop f).take (e - f)),sl dC .no (c9 l f e)])) (l:List ab) (k:List UInt8) (hl:LB l) :FC Tryd.prog gl 23 [sl eC .no l,.val (str k)] [] (.tup [.agg [.val (nI (db l k).1.1),.val (nI (db l k).1.2.1),sl eC .no (db l k).1.2.2.1,sl dC .no (db l k).1.2.2.2],.val (nI (db l k).2)]) [] :=by
 replace hcx:=hcx.reN (M:=36)
 refine bZ (cx:=aO gl 36 pu) (rs:= [.cell 4 54,.tmp 5]) rfl Tryd.func23 rfl rfl rfl (by simp only[List.length_cons,List.length_nil];decide) (by simp only[go_sem]) ?_
 simp only[cO,go_sem]
 have b1:=True.intro
 have b2:=True.intro
 have hy:=True.intro
 have e16:=h16 l hl
 refine aa hcx [] _ [none] rfl rfl rfl ?_ iS
 refine aa hcx [1000009] _ [] rfl rfl rfl ?_ iS
 refine ae fun K1 hK1=> ?_
 by_cases b1:cW l=0
 ·
  have hok:=gX (l:=l) (by omega)
  have hll:=hok.1
  have hsr:=fX b1
  have e58:=h58 l k (by omega)
  have e35:=h35 l k (by omega)
  have hfl:=e7 l k
  have hhf:=wL (k:=k) hsr
  obtain ⟨i,hi⟩ : ∃i,bu l k=i:= ⟨_,rfl⟩
  rw[hi] at e58 hfl hhf
  refine aa hcx [] _ [] rfl rfl rfl ?_ iS
  refine bn rfl ?_
  refine Tr.skip ?_
  refine hK1 _ ?_
  have hy:= @e58
  refine aa hcx [1000016] _ [] rfl rfl rfl ?_ iS
  refine ae fun K2 hK2=> ?_
  by_cases b2:i< l.length∧(gt l i).1=k
  ·
   have h20: (((0:Nat) :Int)≤g6 l k) =True:=by rw[hhf];exact eq_true b2
   have hy:=And.intro @e35 @h20
   refine aa hcx [] _ [] rfl rfl rfl ?_ iS
   refine ct rfl ?_
   have e59:=h59 l i (i+1) hok (by have:=b2.1;omega)
   have hR:=zW hi b1 b2.1 b2.2
   have hy:= @e59
   refine aa hcx [] _ [] rfl rfl rfl ?_ iS
   exact Tr.ret wM
  have h20: (((0:Nat) :Int)≤g6 l k) =False:=by rw[hhf];exact eq_false b2
  have hy:=And.intro @e35 @h20
  refine aa hcx [] _ [] rfl rfl rfl ?_ iS
  refine bn rfl ?_
  refine Tr.skip ?_
  refine hK2 _ ?_
  refine Tr.k [0,4,7] ?_
  have e59:=h59 l (i - 1) (min (i+1) l.length) hok (by omega)
  have hR:=rB hi b1 b2
  have hy:=And.intro @e59 (And.intro @wA @iu)
  refine aa hcx [] _ [] rfl rfl rfl ?_ iS
  exact Tr.ret wM
 skip
 refine aa hcx [] _ [] rfl rfl rfl ?_ iS
 refine ct rfl ?_
 refine aa hcx [1000013] _ [] rfl rfl rfl ?_ iS
 refine Tr.bxc 0 2 (sl eC .no []) _ rfl rfl (bR rfl) rfl ?_
 refine Tr.bxc 0 3 (sl dC .no []) _ rfl rfl (bR rfl) rfl ?_
 simp only[List.set_cons_succ,List.set_cons_zero]
 have hR:=IE (k:=k) b1
 exact Tr.ret wM
theorem jl {p:Prop} (e:p:=by intro KZ hZ;simp -implicitDefEqProofs (disch:=first|omega| (simp only[go_sem,lA,lD,lT] <;>omega) |decide) only[go_sem,↓reduceIte,Nat.reduceEqDiff,reduceCtorEq,Nat.reduceLT,Nat.reduceBEq,Nat.reduceAdd,e16,b1,b2,hy];with_reducible exact hZ) :p:=e
theorem wN {p:Prop} (e:p:=by simp -implicitDefEqProofs (disch:=first|omega| (simp only[go_sem,lA,lD,lT] <;>omega) |decide) only[go_sem,↓reduceIte,Nat.reduceEqDiff,reduceCtorEq];all_goals (first| (rw[hR];done) | (rw[hR];rfl))) :p:=e
theorem YS {gl:Nat→C} {M:Nat} {pu:Nat→List C→Option C} (hcx:CxOK (aO gl M pu)) (h16: ∀l:List ab,LB l→pu 16 [sl eC .no l] =some (.val (nI (cW l)))) (h58: ∀ (l:List ab) (k:List UInt8),l.length≤1000000→pu 58 [sl eC .no l,.val (str k)] =some (.val (nI (bu l k)))) (h59: ∀ (l:List ab) (f e:Nat),OkL l→f≤e∧e≤l.length→pu 59 [sl eC .no l,.val (nI f),.val (nI e)] =some (.agg [.val (nI f),.val (nI l.length),sl eC .no ((l.drop f).take (e - f)),sl dC .no (c9 l f e)])) (l:List ab) (x y:List UInt8) (hl:LB l) :FC Tryd.prog gl 25 [sl eC .no l,.val (str x),.val (str y)] [] (.tup [.agg [.val (nI (dc l x y).1.1),.val (nI (dc l x y).1.2.1),sl eC .no (dc l x y).1.2.2.1,sl dC .no (dc l x y).1.2.2.2],.val (nI (dc l x y).2)]) [] :=by
 replace hcx:=hcx.reN (M:=33)
 refine bZ (cx:=aO gl 33 pu) (rs:= [.cell 6 54,.tmp 7]) rfl Tryd.func25 rfl rfl rfl (by simp only[List.length_cons,List.length_nil];decide) (by simp only[go_sem]) ?_
 simp only[cO,go_sem]
 have b1:=True.intro
 have b2:=True.intro
 have hy:=True.intro
 have e16:=h16 l hl
 refine aa hcx [] _ [none] rfl rfl rfl ?_ jl
 refine aa hcx [1000010] _ [] rfl rfl rfl ?_ jl
 refine ae fun K1 hK1=> ?_
 by_cases b1:cW l=0
 ·
  have hok:=gX (l:=l) (by omega)
  have hll:=hok.1
  have hsr:=fX b1
  have e56a:=h58 l x (by omega)
  have e56b:=h58 l y (by omega)
  have hfx:=e7 l x
  have hfy:=e7 l y
  refine aa hcx [] _ [] rfl rfl rfl ?_ jl
  refine bn rfl ?_
  refine Tr.skip ?_
  refine hK1 _ ?_
  refine ae fun K2 hK2=> ?_
  by_cases b2:bl y x=true
  ·
   skip
   refine aa hcx [] _ [] rfl rfl rfl ?_ jl
   refine ct rfl ?_
   refine aa hcx [] _ [] rfl rfl rfl ?_ jl
   refine Tr.bxc 0 2 (sl eC .no []) _ rfl rfl (bR rfl) rfl ?_
   refine Tr.bxc 0 3 (sl dC .no []) _ rfl rfl (bR rfl) rfl ?_
   simp only[List.set_cons_succ,List.set_cons_zero]
   have hR:=IG b1 b2
   exact Tr.ret wN
  have b2n:=b2
  have hxy:=lQ hsr (Bool.eq_false_iff.2 b2)
  replace b2:=Bool.eq_false_iff.2 b2
  refine aa hcx [] _ [] rfl rfl rfl ?_ jl
  refine bn rfl ?_
  refine Tr.skip ?_
  refine hK2 _ ?_
  refine Tr.k [0,1,2,6] ?_
  have e57:=h59 l (bu l x - 1) (min (bu l y+1) l.length) hok (by omega)
  have hR:=zX b1 b2n
  have hy:=And.intro @e56a (And.intro @e56b (And.intro @e57 (And.intro @wA @iu)))
  refine aa hcx [] _ [] rfl rfl rfl ?_ jl
  exact Tr.ret wN
 skip
 refine aa hcx [] _ [] rfl rfl rfl ?_ jl
 refine ct rfl ?_
 refine aa hcx [1000014] _ [] rfl rfl rfl ?_ jl
 refine Tr.bxc 0 2 (sl eC .no []) _ rfl rfl (bR rfl) rfl ?_
 refine Tr.bxc 0 3 (sl dC .no []) _ rfl rfl (bR rfl) rfl ?_
 simp only[List.set_cons_succ,List.set_cons_zero]
 have hR:=IF (x:=x) (y:=y) b1
 exact Tr.ret wN
end Go.Sx
namespace Go.Sx
open Go.RowKit Go.Proofs
theorem wO (l:List Int) : (ib l).length≤11∧∀i,i< (ib l).length→(gt (ib l) i).1.length≤2∧(gt (ib l) i).2.length≤3:=by
 have hN:=tB l
 have key: ∀n i,i< n→(gt (eu l n).1 i).1.length≤2∧(gt (eu l n).1 i).2.length≤3:=fun n=>by
  induction n with
  |zero=>intro i h;omega
  |succ n ih=>
   intro i h
   have hl:=iZ l n
   simp only[eu]
   by_cases e:i< n
   · rw[jI _ _ _ (by omega)];exact ih i e
   · have e:i=n:=by omega
     subst e
     rw[lm _ _ _ _ hl]
     refine ⟨(w7 _).2,?_⟩
     have h5:=rN l (2*i+1) (m:=5) (by omega)
     generalize j4 l (2*i+1) 5=k at h5
     show (gt vals5 k).length≤3
     rcases k with _|_|_|_|_|k
     · decide
     · decide
     · decide
     · decide
     · decide
     · omega
 unfold ib
 rw[iZ]
 exact ⟨hN,fun i hi=>key _ i hi⟩
theorem m7 {l:List ab} (h:l.length≤1000000∧∀i,i< l.length→(gt l i).1.length≤1000000∧(gt l i).2.length≤1000000) :LB l:= ⟨by omega,fun i hi=>by have:=h.2 i hi;omega⟩
theorem Pg (l:List ab) (f e:Nat) : (c9 l f e).length≤4096:=by
 unfold c9;split
 · exact Nat.zero_le _
 · exact kO l f e 12 0 l.length
theorem U7 (x y z:List UInt8) : (((List.replicate 3 []).set 0 x).set 1 y).set 2 z= [x,y,z] :=rfl
end Go.Sx
namespace Go.Sx
open Go.RowKit Go.Proofs
set_option maxRecDepth 100000
set_option maxHeartbeats 8000000
end Go.Sx
