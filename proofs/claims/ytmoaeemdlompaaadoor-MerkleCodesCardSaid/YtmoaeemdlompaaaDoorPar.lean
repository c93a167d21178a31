/-
   And what follows.
-/
import Derived.Test.YtmoaeemdlompaaaDoorPaq
set_option linter.unusedSimpArgs false
set_option linter.unusedVariables false
namespace Go.Sx
open Go.RowKit Go.Proofs
set_option maxRecDepth 100000
set_option maxHeartbeats 8000000
section
variable {r k x y:List UInt8} {f z:Int} {l:List ab} {S:List ba} {i a b:Nat}
theorem abq (h:d9 r f z l S=false):eP r k f z l S= ([],false,17):=by unfold eP;rw[if_neg (by rw[h];simp)]
theorem Eq (hi:bg l k=i)(h:d9 r f z l S=true)(h2:i< l.length)(h3: (gt l i).1=k):eP r k f z l S= ((gt l i).2,true,0):=by subst hi;unfold eP;rw[if_pos h,if_pos ⟨h2,h3⟩]
theorem tF (hi:bg l k=i)(h:d9 r f z l S=true)(h2:¬ (i< l.length∧(gt l i).1=k))(h3: (0< i∨f=0)∧(i< l.length∨f+l.length=z)):eP r k f z l S= ([],false,0):=by subst hi;unfold eP;rw[if_pos h,if_neg h2,if_pos h3]
theorem tG (hi:bg l k=i)(h:d9 r f z l S=true)(h2:¬ (i< l.length∧(gt l i).1=k))(h3:¬ ((0< i∨f=0)∧(i< l.length∨f+l.length=z))):eP r k f z l S= ([],false,17):=by subst hi;unfold eP;rw[if_pos h,if_neg h2,if_neg h3]
theorem abr (h:bl y x=true):iS r x y f z l S= ([],5):=if_pos h
theorem abt (h:bl y x=false)(h2:d9 r f z l S=false):iS r x y f z l S= ([],17):=by unfold iS;rw[if_neg (by rw[h];simp),if_neg (by rw[h2];simp)]
theorem Er (hx:bg l x=a)(hy:bg l y=b)(h:bl y x=false)(h2:d9 r f z l S=true)(h3: (0< f∧a=0)∨(f+l.length< z∧b=l.length)):iS r x y f z l S= ([],17):=by subst hx hy;unfold iS;rw[if_neg (by rw[h];simp),if_pos h2,if_pos h3]
theorem tH (hx:bg l x=a)(hy:bg l y=b)(h:bl y x=false)(h2:d9 r f z l S=true)(h3:¬ ((0< f∧a=0)∨(f+l.length< z∧b=l.length))):iS r x y f z l S= ((l.drop a).take (b - a),0):=by subst hx hy;unfold iS;rw[if_neg (by rw[h];simp),if_pos h2,if_neg h3]
end
theorem cX {p:Prop}(e:p:=by intro KZ hZ;simp -implicitDefEqProofs (maxSteps:=2000000) (disch:=first|omega| (simp only[go_sem,lA,lD,lT,hr] <;>omega) |decide) only[go_sem,↓reduceIte,Nat.reduceEqDiff,reduceCtorEq,Nat.reduceLT,Nat.reduceBEq,Nat.reduceAdd,lJ,e61,b1,b2,b3,b4,b5,b6,hy];with_reducible exact hZ):p:=e
theorem i6 {p:Prop}(e:p:=by simp -implicitDefEqProofs (disch:=first|omega| (simp only[go_sem,lA,lD,lT,hr] <;>omega) |decide) only[go_sem,↓reduceIte,Nat.reduceEqDiff,reduceCtorEq];all_goals (rw[hR])):p:=e
theorem af9 {gl:Nat→C}{M:Nat}{pu:Nat→List C→Option C}(hcx:CxOK (af gl M pu))(h61:∀ (r:List UInt8) (f z:Int) (l:List ab) (S:List ba),r.length=16→(-9223372036854775808≤f∧f≤9223372036854775807)→(-9223372036854775808≤z∧z≤9223372036854775807)→LB l→S.length≤1000000→pu 61 [.agg [.val (.int .i64 f),.val (.int .i64 z),sl eC .no l,sl dC .no S],.agg (cl bC r)] =some (.val (.bool (d9 r f z l S))))(h56:∀ (l:List ab) (k:List UInt8),Srt l→l.length≤1000000→pu 56 [sl eC .no l,.val (str k)] =some (.val (nI (bg l k))))(r k:List UInt8)(f z:Int)(l:List ab)(S:List ba)(hr:r.length=16)(hf: -9223372036854775808≤f∧f≤9223372036854775807)(hz: -9223372036854775808≤z∧z≤9223372036854775807)(hl:LB l)(hS:S.length≤1000000):FC Tryd.prog gl 29 [.agg (cl bC r),.val (str k),.agg [.val (.int .i64 f),.val (.int .i64 z),sl eC .no l,sl dC .no S]] [] (.tup [.val (str (eP r k f z l S).1),.val (.bool (eP r k f z l S).2.1),.val (nI (eP r k f z l S).2.2)]) []:=by
 replace hcx:=hcx.reN (M:=66)
 refine aB (cx:=af gl 66 pu) (rs:=[.tmp 6,.tmp 7,.tmp 8]) rfl Tryd.func29 rfl rfl rfl (by simp only[List.length_cons,List.length_nil];decide) (by simp only[go_sem]) ?_
 simp only[bq,go_sem]
 have b1:=True.intro
 have b2:=True.intro
 have b3:=True.intro
 have b4:=True.intro
 have b5:=True.intro
 have b6:=True.intro
 have hy:=True.intro
 have e61:=h61 r f z l S hr hf hz hl hS
 refine Tr.w hcx [] _ [none,none] rfl rfl rfl ?_ cX
 refine aa fun K1 hK1=>?_
 by_cases b1:d9 r f z l S=true
 ·
  have hU:=CS b1
  have hsr:=j8 hU.1
  obtain ⟨z,rfl⟩:∃n:Nat,z= (n:Int):=⟨z.toNat,by omega⟩
  obtain ⟨f,rfl⟩:∃n:Nat,f= (n:Int):=⟨f.toNat,by omega⟩
  replace e61:pu 61 [.agg [.val (nI f),.val (nI z),sl eC .no l,sl dC .no S],.agg (cl bC r)] =_:=e61
  have hy:= @e61
  refine Tr.w hcx [] _ [] rfl rfl rfl ?_ cX
  refine bc rfl ?_
  refine Tr.skip ?_
  refine hK1 _ ?_
  have e56:=h56 l k hsr (by omega)
  have hfl:=ju l k
  obtain ⟨i,hi⟩:∃i,bg l k=i:=⟨_,rfl⟩
  rw[hi] at e56 hfl
  have hy:= @e56
  refine Tr.w hcx [1000017] _ [] rfl rfl rfl ?_ cX
  refine Tr.k [1,5,9] ?_
  refine aa fun K2 hK2=>?_
  refine Tr.blk ?_
  by_cases b2:i< l.length
  ·
   by_cases b3: (gt l i).1=k
   ·
    have hy:=True.intro
    refine Tr.w hcx [1000033] [some 19,some 20,some 21,some 22,some 23,some 24,some 25,some 26,some 27,some 28,some 29,some 30,some 31,some 32,some 33,some 18] [] rfl rfl rfl ?_ cX
    refine bf rfl ?_
    have hR:=Eq hi b1 b2 b3
    refine Tr.w hcx [1000039] _ [] rfl rfl rfl ?_ cX
    refine Tr.k [6,7,8] ?_
    exact Tr.ret i6
   have hy:=True.intro
   refine Tr.w hcx [1000033] [some 19,some 20,some 21,some 22,some 23,some 24,some 25,some 26,some 27,some 28,some 29,some 30,some 31,some 32,some 33,some 18] [] rfl rfl rfl ?_ cX
   refine bc rfl ?_
   by_cases b4:0< i
   ·
    refine Tr.w hcx [1000065] [some 41,some 42,some 43,some 44,some 45,some 46,some 47,some 48,some 49,some 50,some 51,some 52,some 53,some 54,some 55,some 56,some 57,some 58,some 59,some 60,some 61,some 62,some 63,some 64,some 65,some 40] [] rfl rfl rfl ?_ cX
    refine Tr.k [40] ?_
    refine bf rfl ?_
    have hR:=tF hi b1 (fun h=>b3 h.2) ⟨Or.inl b4,Or.inl b2⟩
    refine Tr.w hcx [] _ [] rfl rfl rfl ?_ cX
    exact Tr.ret i6
   by_cases b5:f=0
   ·
    have b5o:=b5
    replace b5:=eq_true b5
    refine Tr.w hcx [1000065] [some 41,some 42,some 43,some 44,some 45,some 46,some 47,some 48,some 49,some 50,some 51,some 52,some 53,some 54,some 55,some 56,some 57,some 58,some 59,some 60,some 61,some 62,some 63,some 64,some 65,some 40] [] rfl rfl rfl ?_ cX
    refine Tr.k [40] ?_
    refine bf rfl ?_
    have hR:=tF hi b1 (fun h=>b3 h.2) ⟨Or.inr (by omega),Or.inl b2⟩
    refine Tr.w hcx [] _ [] rfl rfl rfl ?_ cX
    exact Tr.ret i6
   have b5o:=b5
   replace b5:=eq_false b5
   refine Tr.w hcx [1000065] [some 41,some 42,some 43,some 44,some 45,some 46,some 47,some 48,some 49,some 50,some 51,some 52,some 53,some 54,some 55,some 56,some 57,some 58,some 59,some 60,some 61,some 62,some 63,some 64,some 65,some 40] [] rfl rfl rfl ?_ cX
   refine Tr.k [40] ?_
   refine bc rfl ?_
   refine Tr.skip ?_
   refine hK2 _ ?_
   have hR:=tG hi b1 (fun h=>b3 h.2) (by omega)
   refine Tr.w hcx [] _ [] rfl rfl rfl ?_ cX
   exact Tr.ret i6
  have hy:=True.intro
  refine Tr.w hcx [1000033] [some 19,some 20,some 21,some 22,some 23,some 24,some 25,some 26,some 27,some 28,some 29,some 30,some 31,some 32,some 33,some 18] [] rfl rfl rfl ?_ cX
  refine bc rfl ?_
  by_cases b4:0< i
  ·
   by_cases b6:f+l.length=z
   ·
    have b6o:=b6
    replace b6:=eq_true b6
    refine Tr.w hcx [1000065] [some 41,some 42,some 43,some 44,some 45,some 46,some 47,some 48,some 49,some 50,some 51,some 52,some 53,some 54,some 55,some 56,some 57,some 58,some 59,some 60,some 61,some 62,some 63,some 64,some 65,some 40] [] rfl rfl rfl ?_ cX
    refine Tr.k [40] ?_
    refine bf rfl ?_
    have hR:=tF hi b1 (fun h=>b2 h.1) ⟨Or.inl b4,Or.inr (by omega)⟩
    refine Tr.w hcx [] _ [] rfl rfl rfl ?_ cX
    exact Tr.ret i6
   have b6o:=b6
   replace b6:=eq_false b6
   refine Tr.w hcx [1000065] [some 41,some 42,some 43,some 44,some 45,some 46,some 47,some 48,some 49,some 50,some 51,some 52,some 53,some 54,some 55,some 56,some 57,some 58,some 59,some 60,some 61,some 62,some 63,some 64,some 65,some 40] [] rfl rfl rfl ?_ cX
   refine Tr.k [40] ?_
   refine bc rfl ?_
   refine Tr.skip ?_
   refine hK2 _ ?_
   have hR:=tG hi b1 (fun h=>b2 h.1) (by omega)
   refine Tr.w hcx [] _ [] rfl rfl rfl ?_ cX
   exact Tr.ret i6
  by_cases b5:f=0
  ·
   have b5o:=b5
   replace b5:=eq_true b5
   by_cases b6:f+l.length=z
   ·
    have b6o:=b6
    replace b6:=eq_true b6
    refine Tr.w hcx [1000065] [some 41,some 42,some 43,some 44,some 45,some 46,some 47,some 48,some 49,some 50,some 51,some 52,some 53,some 54,some 55,some 56,some 57,some 58,some 59,some 60,some 61,some 62,some 63,some 64,some 65,some 40] [] rfl rfl rfl ?_ cX
    refine Tr.k [40] ?_
    refine bf rfl ?_
    have hR:=tF hi b1 (fun h=>b2 h.1) ⟨Or.inr (by omega),Or.inr (by omega)⟩
    refine Tr.w hcx [] _ [] rfl rfl rfl ?_ cX
    exact Tr.ret i6
   have b6o:=b6
   replace b6:=eq_false b6
   refine Tr.w hcx [1000065] [some 41,some 42,some 43,some 44,some 45,some 46,some 47,some 48,some 49,some 50,some 51,some 52,some 53,some 54,some 55,some 56,some 57,some 58,some 59,some 60,some 61,some 62,some 63,some 64,some 65,some 40] [] rfl rfl rfl ?_ cX
   refine Tr.k [40] ?_
   refine bc rfl ?_
   refine Tr.skip ?_
   refine hK2 _ ?_
   have hR:=tG hi b1 (fun h=>b2 h.1) (by omega)
   refine Tr.w hcx [] _ [] rfl rfl rfl ?_ cX
   exact Tr.ret i6
  have b5o:=b5
  replace b5:=eq_false b5
  refine Tr.w hcx [1000065] [some 41,some 42,some 43,some 44,some 45,some 46,some 47,some 48,some 49,some 50,some 51,some 52,some 53,some 54,some 55,some 56,some 57,some 58,some 59,some 60,some 61,some 62,some 63,some 64,some 65,some 40] [] rfl rfl rfl ?_ cX
  refine Tr.k [40] ?_
  refine bc rfl ?_
  refine Tr.skip ?_
  refine hK2 _ ?_
  have hR:=tG hi b1 (fun h=>b2 h.1) (by omega)
  refine Tr.w hcx [] _ [] rfl rfl rfl ?_ cX
  exact Tr.ret i6
 replace b1:=Bool.eq_false_iff.2 b1
 have hy:= @e61
 refine Tr.w hcx [] _ [] rfl rfl rfl ?_ cX
 refine bf rfl ?_
 have hR:=abq (k:=k) b1
 have hy:=True.intro
 refine Tr.w hcx [] _ [] rfl rfl rfl ?_ cX
 exact Tr.ret i6
theorem dD {p:Prop}(e:p:=by intro KZ hZ;simp -implicitDefEqProofs (disch:=first|omega| (simp only[go_sem,lA,lD,lT,hr] <;>omega) |decide) only[go_sem,↓reduceIte,Nat.reduceEqDiff,reduceCtorEq,Nat.reduceLT,Nat.reduceBEq,Nat.reduceAdd,lJ,e61,b0,b1,b2,b3,b4,b5,hy];with_reducible exact hZ):p:=e
theorem UT {p:Prop}(e:p:=by intro KZ hZ;simp -implicitDefEqProofs (disch:=first|omega| (simp only[go_sem,lA,lD,lT,hr] <;>omega) |decide) only[go_sem,↓reduceIte,Nat.reduceEqDiff,reduceCtorEq,Nat.reduceLT,Nat.reduceBEq,Nat.reduceAdd,lJ,e61,b0,b1,b2,b3,b4,b5,hy];with_reducible refine And.intro ?_ hZ;first|exact rfl|decide):p:=e
theorem jL {p:Prop}(e:p:=by simp -implicitDefEqProofs (disch:=first|omega| (simp only[go_sem,lA,lD,lT,hr] <;>omega) |decide) only[go_sem,↓reduceIte,Nat.reduceEqDiff,reduceCtorEq];all_goals (first| (rw[hR];done))):p:=e
theorem aga {gl:Nat→C}{M:Nat}{pu:Nat→List C→Option C}(hcx:CxOK (af gl M pu))(h61:∀ (r:List UInt8) (f z:Int) (l:List ab) (S:List ba),r.length=16→(-9223372036854775808≤f∧f≤9223372036854775807)→(-9223372036854775808≤z∧z≤9223372036854775807)→LB l→S.length≤1000000→pu 61 [.agg [.val (.int .i64 f),.val (.int .i64 z),sl eC .no l,sl dC .no S],.agg (cl bC r)] =some (.val (.bool (d9 r f z l S))))(h56:∀ (l:List ab) (k:List UInt8),Srt l→l.length≤1000000→pu 56 [sl eC .no l,.val (str k)] =some (.val (nI (bg l k))))(h63:∀l:List ab,l.length≤1000000→pu 63 [sl eC .no l] =some (sl eC (.own 2) l))(r x y:List UInt8)(f z:Int)(l:List ab)(S:List ba)(hr:r.length=16)(hf: -9223372036854775808≤f∧f≤9223372036854775807)(hz: -9223372036854775808≤z∧z≤9223372036854775807)(hl:LB l)(hS:S.length≤1000000):FC Tryd.prog gl 32 [.agg (cl bC r),.val (str x),.val (str y),.agg [.val (.int .i64 f),.val (.int .i64 z),sl eC .no l,sl dC .no S]] [] (.tup [sl eC .no (iS r x y f z l S).1,.val (nI (iS r x y f z l S).2)]) []:=by
 replace hcx:=hcx.reN (M:=58)
 refine aB (cx:=af gl 58 pu) (rs:=[.tmp 8,.tmp 9]) rfl Tryd.func32 rfl rfl rfl (by simp only[List.length_cons,List.length_nil];decide) (by simp only[go_sem]) ?_
 simp only[bq,go_sem]
 have b0:=True.intro
 have b1:=True.intro
 have b2:=True.intro
 have b3:=True.intro
 have b4:=True.intro
 have b5:=True.intro
 have hy:=True.intro
 have e61:=h61 r f z l S hr hf hz hl hS
 refine Tr.w hcx [] _ [none,none] rfl rfl rfl ?_ dD
 refine aa fun K1 hK1=>?_
 by_cases b0:bl y x=true
 ·
  have hR:=abr (r:=r) (f:=f) (z:=z) (l:=l) (S:=S) b0
  refine Tr.w hcx [] _ [] rfl rfl rfl ?_ dD
  refine bf rfl ?_
  refine Tr.w hcx [] _ [] rfl rfl rfl ?_ dD
  refine Tr.live [(8,sl eC .no []),(9,.val (nI 5))] LT ?_
  exact Tr.ret jL
 replace b0:=Bool.eq_false_iff.2 b0
 refine Tr.w hcx [] _ [] rfl rfl rfl ?_ dD
 refine bc rfl ?_
 refine Tr.skip ?_
 refine hK1 _ ?_
 refine aa fun K2 hK2=>?_
 by_cases b1:d9 r f z l S=true
 ·
  have hU:=CS b1
  have hsr:=j8 hU.1
  obtain ⟨z,rfl⟩:∃n:Nat,z= (n:Int):=⟨z.toNat,by omega⟩
  obtain ⟨f,rfl⟩:∃n:Nat,f= (n:Int):=⟨f.toNat,by omega⟩
  replace e61:pu 61 [.agg [.val (nI f),.val (nI z),sl eC .no l,sl dC .no S],.agg (cl bC r)] =_:=e61
  have hy:= @e61
  refine Tr.w hcx [] _ [] rfl rfl rfl ?_ dD
  refine bc rfl ?_
  refine Tr.skip ?_
  refine hK2 _ ?_
  refine Tr.k [1,2,7] ?_
  have e56x:=h56 l x hsr (by omega)
  have e56y:=h56 l y hsr (by omega)
  have hfx:=ju l x
  have hfy:=ju l y
  have hxy:=wu hsr b0
  obtain ⟨i,hi⟩:∃i,bg l x=i:=⟨_,rfl⟩
  obtain ⟨j,hj⟩:∃j,bg l y=j:=⟨_,rfl⟩
  rw[hi] at e56x hfx hxy
  rw[hj] at e56y hfy hxy
  have hy:=And.intro @e56x @e56y
  refine Tr.wD hcx ct [1000023,1000027,1000030] _ [] rfl rfl rfl rfl ?_ UT
  refine Tr.k [7,10,11,12] ?_
  refine aa fun K3 hK3=>?_
  by_cases b2:0< f
  ·
   by_cases b3:i=0
   ·
    have hy:=True.intro
    refine Tr.w hcx [] [some 31,some 32,some 33,some 34,some 35,some 36,some 37,some 38,some 39,some 40,some 41,some 42,some 43,some 44,some 45,some 46,some 47,some 48,some 49,some 50,some 51] [] rfl rfl rfl ?_ dD
    refine bf rfl ?_
    have hR:=Er hi hj b0 b1 (by omega)
    refine Tr.w hcx [] _ [] rfl rfl rfl ?_ dD
    refine Tr.k [8,9] ?_
    refine Tr.live [(8,sl eC .no []),(9,.val (nI 17))] LT ?_
    exact Tr.ret jL
   by_cases b4:f+l.length< z
   ·
    by_cases b5:j=l.length
    ·
     have hy:=True.intro
     refine Tr.w hcx [] [some 31,some 32,some 33,some 34,some 35,some 36,some 37,some 38,some 39,some 40,some 41,some 42,some 43,some 44,some 45,some 46,some 47,some 48,some 49,some 50,some 51] [] rfl rfl rfl ?_ dD
     refine bf rfl ?_
     have hR:=Er hi hj b0 b1 (by omega)
     refine Tr.w hcx [] _ [] rfl rfl rfl ?_ dD
     refine Tr.k [8,9] ?_
     refine Tr.live [(8,sl eC .no []),(9,.val (nI 17))] LT ?_
     exact Tr.ret jL
    have hy:=True.intro
    refine Tr.w hcx [] [some 31,some 32,some 33,some 34,some 35,some 36,some 37,some 38,some 39,some 40,some 41,some 42,some 43,some 44,some 45,some 46,some 47,some 48,some 49,some 50,some 51] [] rfl rfl rfl ?_ dD
    refine bc rfl ?_
    refine Tr.skip ?_
    refine hK3 _ ?_
    refine Tr.k [7,10,11] ?_
    have hR:=tH hi hj b0 b1 (by omega)
    have e63:=h63 ((l.drop i).take (j - i)) (by rw[List.length_take,List.length_drop];omega)
    have hy:= @e63
    refine Tr.w hcx [1000057] _ [] rfl rfl rfl ?_ dD
    exact Tr.ret jL
   have hy:=True.intro
   refine Tr.w hcx [] [some 31,some 32,some 33,some 34,some 35,some 36,some 37,some 38,some 39,some 40,some 41,some 42,some 43,some 44,some 45,some 46,some 47,some 48,some 49,some 50,some 51] [] rfl rfl rfl ?_ dD
   refine bc rfl ?_
   refine Tr.skip ?_
   refine hK3 _ ?_
   refine Tr.k [7,10,11] ?_
   have hR:=tH hi hj b0 b1 (by omega)
   have e63:=h63 ((l.drop i).take (j - i)) (by rw[List.length_take,List.length_drop];omega)
   have hy:= @e63
   refine Tr.w hcx [1000057] _ [] rfl rfl rfl ?_ dD
   exact Tr.ret jL
  by_cases b4:f+l.length< z
  ·
   by_cases b5:j=l.length
   ·
    have hy:=True.intro
    refine Tr.w hcx [] [some 31,some 32,some 33,some 34,some 35,some 36,some 37,some 38,some 39,some 40,some 41,some 42,some 43,some 44,some 45,some 46,some 47,some 48,some 49,some 50,some 51] [] rfl rfl rfl ?_ dD
    refine bf rfl ?_
    have hR:=Er hi hj b0 b1 (by omega)
    refine Tr.w hcx [] _ [] rfl rfl rfl ?_ dD
    refine Tr.k [8,9] ?_
    refine Tr.live [(8,sl eC .no []),(9,.val (nI 17))] LT ?_
    exact Tr.ret jL
   have hy:=True.intro
   refine Tr.w hcx [] [some 31,some 32,some 33,some 34,some 35,some 36,some 37,some 38,some 39,some 40,some 41,some 42,some 43,some 44,some 45,some 46,some 47,some 48,some 49,some 50,some 51] [] rfl rfl rfl ?_ dD
   refine bc rfl ?_
   refine Tr.skip ?_
   refine hK3 _ ?_
   refine Tr.k [7,10,11] ?_
   have hR:=tH hi hj b0 b1 (by omega)
   have e63:=h63 ((l.drop i).take (j - i)) (by rw[List.length_take,List.length_drop];omega)
   have hy:= @e63
   refine Tr.w hcx [1000057] _ [] rfl rfl rfl ?_ dD
   exact Tr.ret jL
  have hy:=True.intro
  refine Tr.w hcx [] [some 31,some 32,some 33,some 34,some 35,some 36,some 37,some 38,some 39,some 40,some 41,some 42,some 43,some 44,some 45,some 46,some 47,some 48,some 49,some 50,some 51] [] rfl rfl rfl ?_ dD
  refine bc rfl ?_
  refine Tr.skip ?_
  refine hK3 _ ?_
  refine Tr.k [7,10,11] ?_
  have hR:=tH hi hj b0 b1 (by omega)
  have e63:=h63 ((l.drop i).take (j - i)) (by rw[List.length_take,List.length_drop];omega)
  have hy:= @e63
  refine Tr.w hcx [1000057] _ [] rfl rfl rfl ?_ dD
  exact Tr.ret jL
 replace b1:=Bool.eq_false_iff.2 b1
 have hy:= @e61
 refine Tr.w hcx [] _ [] rfl rfl rfl ?_ dD
 refine bf rfl ?_
 have hR:=abt b0 b1
 have hy:=True.intro
 refine Tr.w hcx [] _ [] rfl rfl rfl ?_ dD
 refine Tr.live [(8,sl eC .no []),(9,.val (nI 17))] LT ?_
 exact Tr.ret jL
end Go.Sx
namespace Go.Sx
open Go.RowKit Go.Proofs
theorem vg {l:List ab}{f e:Nat}(he:f< e)(hel:e≤l.length)(S:List ba):∀d a b T u,d≤12→a< b→b≤l.length→b - a≤2 ^ d→(∃pre post,S=pre++(cr l f e d a b++post)∧pre.length=u)→
 (br ((l.drop f).take (e - f)) f S d a b (T,u,false)).1=du l d a b∧(br ((l.drop f).take (e - f)) f S d a b (T,u,false)).2.2= (u+(cr l f e d a b).length,false)
 |0,a,b,T,u,hd,h1,h2,h3,h4=>by
  have hl: ((l.drop f).take (e - f)).length=e - f:=by rw[List.length_take,List.length_drop];omega
  obtain ⟨pre,post,rfl,rfl⟩:=h4
  by_cases h:b≤f∨e≤a
  . rw[gN (by rw[hl];omega),qh h]
    have e1:¬ (pre++([iR l a b]++post)).length≤(T,pre.length,false).2.1:=by simp
    rw[t8 e1]
    have e2:gt (pre++([iR l a b]++post)) pre.length=iR l a b:=by simp[gt,List.getD]
    simp only[e2,List.length_singleton,and_true]
    exact qg l 12 0 a b (Nat.le_trans h3 (by decide)) h3
  . have h3':b - a≤1:=h3
    rw[gO (by rw[hl];omega) h3',xz h h3',t6 h3',nb,lW l f (e - f) (a - f) (by omega) (by omega),show f+(a - f) =a by omega]
    exact ⟨rfl,rfl⟩
 |d+1,a,b,T,u,hd,h1,h2,h3,h4=>by
  have hl: ((l.drop f).take (e - f)).length=e - f:=by rw[List.length_take,List.length_drop];omega
  obtain ⟨pre,post,rfl,rfl⟩:=h4
  by_cases h:b≤f∨e≤a
  . rw[gN (by rw[hl];omega),qh h]
    have e1:¬ (pre++([iR l a b]++post)).length≤(T,pre.length,false).2.1:=by simp
    rw[t8 e1]
    have e2:gt (pre++([iR l a b]++post)) pre.length=iR l a b:=by simp[gt,List.getD]
    simp only[e2,List.length_singleton,and_true]
    exact qg l 12 (d+1) a b (Nat.le_trans h3 (Nat.pow_le_pow_right (by omega) hd)) h3
  . by_cases h3':b - a≤1
    . rw[gO (by rw[hl];omega) h3',xz h h3',t6 h3',nb,lW l f (e - f) (a - f) (by omega) (by omega),show f+(a - f) =a by omega]
      exact ⟨rfl,rfl⟩
    . have hh:=gT (n:=b - a) (by omega)
      have hh2:=fg (by omega) h3
      rw[nJ (by rw[hl];omega) h3',A9 h3']
      rw[tC h h3']
      have g1:=vg he hel (pre++(cr l f e (d+1) a b++post)) d a (a+aR (b - a)) T pre.length (by omega) (by omega) (by omega) (by omega) ⟨pre,cr l f e d (a+aR (b - a)) b++post,by rw[tC h h3',List.append_assoc],rfl⟩
      rw[tC h h3'] at g1
      generalize br ((l.drop f).take (e - f)) f (pre++(cr l f e d a (a+aR (b - a))++cr l f e d (a+aR (b - a)) b++post)) d a (a+aR (b - a)) (T,pre.length,false) =X at g1 ⊢
      obtain ⟨x,T1,u1,s1⟩:=X
      simp only[Prod.mk.injEq] at g1
      obtain ⟨rfl,rfl,rfl⟩:=g1
      have g2:=vg he hel (pre++(cr l f e d a (a+aR (b - a))++cr l f e d (a+aR (b - a)) b++post)) d (a+aR (b - a)) b T1 (pre.length+(cr l f e d a (a+aR (b - a))).length) (by omega) (by omega) (by omega) (by omega) ⟨pre++cr l f e d a (a+aR (b - a)),post,by simp only[List.append_assoc],by rw[List.length_append]⟩
      simp only[ol]
      rw[g2.1,g2.2]
      exact ⟨rfl,by rw[List.length_append,Nat.add_assoc]⟩
theorem vh {l:List ab}{f e:Nat}(hv:cb l=0)(hfe:f≤e)(hel:e≤l.length)(h0:l.length=0∨f< e):d9 (dR l) (f:Int) (l.length:Int) ((l.drop f).take (e - f)) (cd l f e) =true:=by
 have hok:=lL (l:=l) (by omega)
 have hll:=hok.1
 have hl: ((l.drop f).take (e - f)).length=e - f:=by rw[List.length_take,List.length_drop];omega
 have hv2:cb ((l.drop f).take (e - f)) =0:=by
  have hs:=j8 hv
  unfold cb
  rw[if_neg,if_pos]
  . have key:∀n,n≤((l.drop f).take (e - f)).length→fL ((l.drop f).take (e - f)) n=true:=fun n=>by
     induction n with
     |zero=>intro _;rfl
     |succ n ih=>
      intro hn
      refine tL (ih (by omega)) ?_
      by_cases e0:n=0
      . exact Or.inl e0
      . right
        rw[lW l f (e - f) (n - 1) (by omega) (by omega),lW l f (e - f) n (by omega) (by omega)]
        exact hs _ _ (by omega) (by omega)
    exact key _ (Nat.le_refl _)
  . intro h
    rcases h with h|h
    . omega
    . rw[List.any_eq_true] at h
      obtain ⟨x,hx,hb⟩:=h
      have hx2:x∈l:=List.mem_of_mem_drop (List.mem_of_mem_take hx)
      have:l.any cE=true:=List.any_eq_true.2 ⟨x,hx2,hb⟩
      rw[nB (Or.inr this)] at hv;cases hv
 have hB:¬g9 (f:Int) (l.length:Int) ((l.drop f).take (e - f)):=by
  unfold g9;rw[hv2,hl];omega
 by_cases e0:l.length=0
 . rw[NL hB (by omega),Em e0]
   have:g8 0 (List.replicate 16 0) =dR l:=Hi e0 _
   rw[this];simp
 . have hfe2:f< e:=by omega
   unfold d9
   rw[if_neg (fun q=>q.elim hB (fun q=>by rw[hl] at q;omega)),show ((f:Nat):Int).toNat=f from rfl,show ((l.length:Nat):Int).toNat=l.length from rfl,Hk e0,En e0]
   have g:=vg hfe2 hel (cr l f e 12 0 l.length) 12 0 l.length [] 0 (Nat.le_refl _) (by omega) (Nat.le_refl _) (by omega) ⟨[],[],by simp,rfl⟩
   simp only[g.1,g.2,Nat.zero_add,decide_true,Bool.and_true,Bool.not_false]
   have e2:ofT 4 [aA ((l.length:Nat):Int),du l 12 0 l.length] =dR l:=by unfold dR g8;rw[if_neg e0];rfl
   rw[e2];simp
def bT:List ab:=[([97],[49]),([99],[50]),([100],[51]),([102],[52]),([103],[53])]
theorem mS:cb bT=0:=by decide+kernel
def fC:List ab:=[([99],[50])]
def fE:List ab:=[([100],[51]),([102],[52])]
def fH:List ab:=[([103],[53])]
def fR:List ab:=[([97],[49]),([99],[50]),([100],[51]),([102],[52])]
def fQ:List ab:=[([99],[50]),([100],[51])]
theorem abu:bR bT [99] = ((1,5,fC,cd bT 1 2),0):=by rw[Eo (i:=1) (by decide+kernel) mS (by decide) (by decide)];rfl
theorem abv:bR bT [101] = ((2,5,fE,cd bT 2 4),0):=by rw[tD (i:=3) (by decide+kernel) mS (by decide)];rfl
theorem abw:bR bT [104] = ((4,5,fH,cd bT 4 5),0):=by rw[tD (i:=5) (by decide+kernel) mS (by decide)];rfl
theorem abx:ex bT [99] [102] = ((0,5,fR,cd bT 0 4),0):=by
 rw[NJ mS (by decide+kernel),show bg bT [99] =1 by decide+kernel,show bg bT [102] =3 by decide+kernel];rfl
theorem aby: (cd bT 1 2).length=3:=rfl
theorem abz: (cd bT 2 4).length=2:=rfl
theorem abA: (cd bT 4 5).length=1:=rfl
theorem abB: (cd bT 0 4).length=1:=rfl
theorem abC:d9 (dR bT) 1 5 fC (cd bT 1 2) =true:=vh (l:=bT) (f:=1) (e:=2) mS (by decide) (by decide) (by decide)
theorem Es:d9 (dR bT) 2 5 fE (cd bT 2 4) =true:=vh (l:=bT) (f:=2) (e:=4) mS (by decide) (by decide) (by decide)
theorem abD:d9 (dR bT) 0 5 fR (cd bT 0 4) =true:=vh (l:=bT) (f:=0) (e:=4) mS (by decide) (by decide) (by decide)
theorem abE:eP (dR bT) [99] 1 5 fC (cd bT 1 2) = ([50],true,0):=Eq (i:=0) (by decide+kernel) abC (by decide) (by decide)
theorem abF:eP (dR bT) [101] 2 5 fE (cd bT 2 4) = ([],false,0):=tF (i:=1) (by decide+kernel) Es (by decide) (by decide)
theorem abG:eP (dR bT) [100] 2 5 fE (cd bT 2 4) = ([51],true,0):=Eq (i:=0) (by decide+kernel) Es (by decide) (by decide)
theorem abH:eP (dR bT) [99] 2 5 fE (cd bT 2 4) = ([],false,17):=tG (i:=0) (by decide+kernel) Es (by decide) (by decide)
theorem abI:iS (dR bT) [99] [102] 0 5 fR (cd bT 0 4) = (fQ,0):=tH (a:=1) (b:=3) (by decide+kernel) (by decide+kernel) (by decide+kernel) abD (by decide)
theorem pt:LB bT:=⟨by decide,fun i hi=>by
 have h5:i< 5:=hi
 rcases i with _|_|_|_|_|i
 . decide
 . decide
 . decide
 . decide
 . decide
 . omega⟩
end Go.Sx
namespace Go.Sx
open Go.RowKit Go.Proofs
set_option maxRecDepth 100000
set_option maxHeartbeats 8000000
theorem UU:j6 (some ⟨.struct #[Field.mk "Key" 9 0 false "" "" 0,Field.mk "Value" 9 1 false "" "" 16],2,32,[str [],str []]⟩) 5 [(0,.agg [.val (str [97]),.val (str [49])]),(1,.agg [.val (str [99]),.val (str [50])]),(2,.agg [.val (str [100]),.val (str [51])]),(3,.agg [.val (str [102]),.val (str [52])]),(4,.agg [.val (str [103]),.val (str [53])])] =some (vp (sl eC .full bT)) :=rfl
theorem agb: (gt fQ 0).1= [99]:=rfl
theorem agc: (gt fQ 1).2= [51]:=rfl
theorem agd:fQ.length=2:=rfl
theorem hC:fC.length=1:=rfl
theorem hE:fE.length=2:=rfl
theorem hR4:fR.length=4:=rfl
theorem Gg {p:Prop}(e:p:=by intro KZ hZ;simp -implicitDefEqProofs (disch:=first|omega| (simp only[go_sem,lA,lD,lT] <;>omega) |decide) only[go_sem,↓reduceIte,Nat.reduceEqDiff,reduceCtorEq,Nat.reduceLT,Nat.reduceBEq,Nat.reduceAdd,UU,hy];with_reducible exact hZ):p:=e
theorem UV {p:Prop}(e:p:=by simp -implicitDefEqProofs (disch:=first|omega| (simp only[go_sem,lA,lD,lT] <;>omega) |decide) only[go_sem,↓reduceIte,Nat.reduceEqDiff,reduceCtorEq];all_goals (rfl)):p:=e
theorem age {gl:Nat→C}{M:Nat}{pu:Nat→List C→Option C}(hcx:CxOK (af gl M pu)):FC Tryd.prog gl 55 ([]:List C) [] (sl eC .full bT) []:=by
 replace hcx:=hcx.reN (M:=7)
 refine aB (cx:=af gl 7 pu) (rs:=[.tmp 0]) rfl Tryd.func55 rfl rfl rfl (by simp only[List.length_cons,List.length_nil];decide) (by simp only[go_sem]) ?_
 simp only[bq,go_sem]
 have hy:=True.intro
 refine Tr.w hcx [] _ [] rfl rfl rfl ?_ Gg
 refine Tr.w hcx [1000006] _ [] rfl rfl rfl ?_ Gg
 exact Tr.ret UV
theorem fm {p:Prop}(e:p:=by intro KZ hZ;simp -implicitDefEqProofs (maxSteps:=2000000) (disch:=first|omega| (simp only[go_sem,lA,lD,lT,hrl,q1,q2,q3,q4,q5,q6,q7,q10] <;>omega) |decide) only[go_sem,↓reduceIte,Nat.reduceEqDiff,reduceCtorEq,Nat.reduceLT,Nat.reduceBEq,Nat.reduceAdd,eq_self,decide_true,decide_false,not_true_eq_false,not_false_eq_true,h55,e12,e22c,e22e,e22h,e24,k1,k2,k3,k4,k5,q1,q2,q3,q4,q5,q6,q7,hy];with_reducible exact hZ):p:=e
theorem UW {p:Prop}(e:p:=by simp -implicitDefEqProofs (disch:=first|omega| (simp only[go_sem,lA,lD,lT,hrl,q1,q2,q3,q4,q5,q6,q7,q10] <;>omega) |decide) only[go_sem,↓reduceIte,Nat.reduceEqDiff,reduceCtorEq];all_goals (rfl)):p:=e
theorem agf {gl:Nat→C}{M:Nat}{pu:Nat→List C→Option C}(hcx:CxOK (af gl M pu))(h12:∀l:List ab,LB l→pu 12 [sl eC .no l] =some (.tup [.agg (cl bC (na l).1),.val (nI (na l).2)]))(h22:∀ (l:List ab) (k:List UInt8),LB l→pu 22 [sl eC .no l,.val (str k)] =some (.tup [.agg [.val (nI (bR l k).1.1),.val (nI (bR l k).1.2.1),sl eC .no (bR l k).1.2.2.1,sl dC .no (bR l k).1.2.2.2],.val (nI (bR l k).2)]))(h24:∀ (l:List ab) (x y:List UInt8),LB l→pu 24 [sl eC .no l,.val (str x),.val (str y)] =some (.tup [.agg [.val (nI (ex l x y).1.1),.val (nI (ex l x y).1.2.1),sl eC .no (ex l x y).1.2.2.1,sl dC .no (ex l x y).1.2.2.2],.val (nI (ex l x y).2)]))(h29:∀ (r:List UInt8) (k:List UInt8) (f z:Int) (l:List ab) (S:List ba),r.length=16→(-9223372036854775808≤f∧f≤9223372036854775807)→(-9223372036854775808≤z∧z≤9223372036854775807)→LB l→S.length≤1000000→pu 29 [.agg (cl bC r),.val (str k),.agg [.val (.int .i64 f),.val (.int .i64 z),sl eC .no l,sl dC .no S]] =some (.tup [.val (str (eP r k f z l S).1),.val (.bool (eP r k f z l S).2.1),.val (nI (eP r k f z l S).2.2)]))(h32:∀ (r x y:List UInt8) (f z:Int) (l:List ab) (S:List ba),r.length=16→(-9223372036854775808≤f∧f≤9223372036854775807)→(-9223372036854775808≤z∧z≤9223372036854775807)→LB l→S.length≤1000000→pu 32 [.agg (cl bC r),.val (str x),.val (str y),.agg [.val (.int .i64 f),.val (.int .i64 z),sl eC .no l,sl dC .no S]] =some (.tup [sl eC .no (iS r x y f z l S).1,.val (nI (iS r x y f z l S).2)]))(h55:pu 55 [] =some (sl eC .full bT)):FC Tryd.prog gl 19 ([]:List C) [] (.val (.bool true)) []:=by
 replace hcx:=hcx.reN (M:=219)
 refine aB (cx:=af gl 219 pu) (rs:=[.tmp 0]) rfl Tryd.func19 rfl rfl rfl (by simp only[List.length_cons,List.length_nil];decide) (by simp only[go_sem]) ?_
 simp only[bq,go_sem]
 have hy:=True.intro
 have e12:pu 12 [sl eC .no bT] =some (.tup [.agg (cl bC (dR bT)),.val (nI 0)]):=(h12 bT pt).trans (by rw[vE mS])
 have e22c:pu 22 [sl eC .no bT,.val (str [99])] =some (.tup [.agg [.val (nI 1),.val (nI 5),sl eC .no fC,sl dC .no (cd bT 1 2)],.val (nI 0)]):=(h22 bT [99] pt).trans (by rw[abu])
 have e22e:pu 22 [sl eC .no bT,.val (str [101])] =some (.tup [.agg [.val (nI 2),.val (nI 5),sl eC .no fE,sl dC .no (cd bT 2 4)],.val (nI 0)]):=(h22 bT [101] pt).trans (by rw[abv])
 have e22h:pu 22 [sl eC .no bT,.val (str [104])] =some (.tup [.agg [.val (nI 4),.val (nI 5),sl eC .no fH,sl dC .no (cd bT 4 5)],.val (nI 0)]):=(h22 bT [104] pt).trans (by rw[abw])
 have e24:pu 24 [sl eC .no bT,.val (str [99]),.val (str [102])] =some (.tup [.agg [.val (nI 0),.val (nI 5),sl eC .no fR,sl dC .no (cd bT 0 4)],.val (nI 0)]):=(h24 bT [99] [102] pt).trans (by rw[abx])
 have lbC:LB fC:=⟨by decide,fun i hi=>by
  have h5:i< 1:=hi
  rcases i with _|i
  . decide
  . omega⟩
 have lbE:LB fE:=⟨by decide,fun i hi=>by
  have h5:i< 2:=hi
  rcases i with _|_|i
  . decide
  . decide
  . omega⟩
 have lbR:LB fR:=⟨by decide,fun i hi=>by
  have h5:i< 4:=hi
  rcases i with _|_|_|_|i
  . decide
  . decide
  . decide
  . decide
  . omega⟩
 have k1:pu 29 [.agg (cl bC (dR bT)),.val (str [99]),.agg [.val (nI 1),.val (nI 5),sl eC .no fC,sl dC .no (cd bT 1 2)]] =some (.tup [.val (str [50]),.val (.bool true),.val (nI 0)]):=(h29 (dR bT) [99] ((1:Nat):Int) ((5:Nat):Int) fC (cd bT 1 2) (kb _) (by omega) (by omega) lbC (by decide)).trans (by rw[show ((1:Nat):Int) =1 from rfl,show ((5:Nat):Int) =5 from rfl,abE])
 have k2:pu 29 [.agg (cl bC (dR bT)),.val (str [101]),.agg [.val (nI 2),.val (nI 5),sl eC .no fE,sl dC .no (cd bT 2 4)]] =some (.tup [.val (str []),.val (.bool false),.val (nI 0)]):=(h29 (dR bT) [101] ((2:Nat):Int) ((5:Nat):Int) fE (cd bT 2 4) (kb _) (by omega) (by omega) lbE (by decide)).trans (by rw[show ((2:Nat):Int) =2 from rfl,show ((5:Nat):Int) =5 from rfl,abF])
 have k3:pu 29 [.agg (cl bC (dR bT)),.val (str [100]),.agg [.val (nI 2),.val (nI 5),sl eC .no fE,sl dC .no (cd bT 2 4)]] =some (.tup [.val (str [51]),.val (.bool true),.val (nI 0)]):=(h29 (dR bT) [100] ((2:Nat):Int) ((5:Nat):Int) fE (cd bT 2 4) (kb _) (by omega) (by omega) lbE (by decide)).trans (by rw[show ((2:Nat):Int) =2 from rfl,show ((5:Nat):Int) =5 from rfl,abG])
 have k4:pu 29 [.agg (cl bC (dR bT)),.val (str [99]),.agg [.val (nI 2),.val (nI 5),sl eC .no fE,sl dC .no (cd bT 2 4)]] =some (.tup [.val (str []),.val (.bool false),.val (nI 17)]):=(h29 (dR bT) [99] ((2:Nat):Int) ((5:Nat):Int) fE (cd bT 2 4) (kb _) (by omega) (by omega) lbE (by decide)).trans (by rw[show ((2:Nat):Int) =2 from rfl,show ((5:Nat):Int) =5 from rfl,abH])
 have k5:pu 32 [.agg (cl bC (dR bT)),.val (str [99]),.val (str [102]),.agg [.val (nI 0),.val (nI 5),sl eC .no fR,sl dC .no (cd bT 0 4)]] =some (.tup [sl eC .no fQ,.val (nI 0)]):=(h32 (dR bT) [99] [102] ((0:Nat):Int) ((5:Nat):Int) fR (cd bT 0 4) (kb _) (by omega) (by omega) lbR (by decide)).trans (by rw[show ((0:Nat):Int) =0 from rfl,show ((5:Nat):Int) =5 from rfl,abI])
 have hrl:=kb bT
 have q1:=aby
 have q2:=abz
 have q3:=abA
 have q4:=abB
 generalize cd bT 1 2=SC at*
 generalize cd bT 2 4=SE at*
 generalize cd bT 4 5=SH at*
 generalize cd bT 0 4=SR at*
 generalize dR bT=R at*
 have q5:=hC
 have q6:=hE
 have q7:=hR4
 have q8:=agb
 have q9:=agc
 have q10:=agd
 generalize fC=LC at*
 generalize fE=LE at*
 generalize fR=LR at*
 generalize fQ=LQ at*
 have x0:∀u y z,w6 (some ⟨u,2,y,z⟩) (some 0) 2 (cl eC LQ) =some (vp (.kp ((cl eC LQ).drop (0*2)))):=fun u y z=>by
  have:=oM eC u y z 0 LQ (by omega)
  rw[q10] at this;exact this
 have x1:∀u y z,w6 (some ⟨u,2,y,z⟩) (some 1) 2 (cl eC LQ) =some (vp (.kp ((cl eC LQ).drop (1*2)))):=fun u y z=>by
  have:=oM eC u y z 1 LQ (by omega)
  rw[q10] at this;exact this
 have x0a:=FW LQ 0 (by omega)
 have x0b:=FV LQ 0 (by omega)
 have x1a:=FY LQ 1 (by omega)
 have x1b:=tA LQ 1 (by omega)
 rw[q8] at x0b
 rw[q9] at x1b
 generalize (cl eC LQ).drop (0*2) =K0 at*
 generalize (cl eC LQ).drop (1*2) =K1 at*
 generalize (cl eC LQ).drop (1*2+1) =K2 at*
 refine Tr.w hcx [] _ [] rfl rfl rfl ?_ fm
 refine Tr.w hcx [1000026] _ [] rfl rfl rfl ?_ fm
 refine Tr.w hcx [1000031] _ [none] rfl rfl rfl ?_ fm
 refine Tr.k [1,2,3] ?_
 refine Tr.w hcx [1000036] _ [none] rfl rfl rfl ?_ fm
 refine Tr.k [1,2,3,4,5] ?_
 refine Tr.w hcx [1000041] _ [none] rfl rfl rfl ?_ fm
 refine Tr.k [1,2,3,4,5,6,7] ?_
 refine Tr.w hcx [1000046] _ [none] rfl rfl rfl ?_ fm
 refine Tr.k [1,2,3,4,5,6,7,8,9] ?_
 refine Tr.w hcx [1000051] _ [none] rfl rfl rfl ?_ fm
 refine Tr.k [2,3,4,5,6,7,8,9,10,11] ?_
 refine aa fun K1 hK1=>?_
 refine Tr.w hcx [] [some 52,some 53,some 54,some 55,some 56,some 57,some 58,some 59,some 60,some 61,some 62,some 63,some 64,some 65,some 66,some 67,some 68,some 69] [] rfl rfl rfl ?_ fm
 refine Tr.k [2,4,6,8,10,69] ?_
 refine bc rfl ?_
 refine Tr.skip ?_
 refine hK1 _ ?_
 refine Tr.k [2,4,6,8,10] ?_
 refine aa fun K2 hK2=>?_
 refine Tr.w hcx [] [some 70,some 71,some 72,some 73,some 74,some 75,some 76,some 77,some 78,some 79,some 80,some 81,some 82,some 83,some 84,some 85,some 86,some 87,some 88,some 89,some 90,some 91,some 92,some 93,some 94,some 95,some 96,some 97,some 98,some 99,some 100,some 101,some 102,some 103,some 104,some 105,some 106,some 107,some 108,some 109,some 110,some 111,some 112,some 113,some 114,some 115,some 116,some 117,some 118,some 119,some 120,some 121,some 122,some 123,some 124,some 125,some 126,some 127,some 128,some 129] [] rfl rfl rfl ?_ fm
 refine Tr.k [2,4,6,10,129] ?_
 refine bc rfl ?_
 refine Tr.skip ?_
 refine hK2 _ ?_
 refine Tr.k [2,4,6,10] ?_
 refine Tr.w hcx [1000134,1000135,1000136] _ [] rfl rfl rfl ?_ fm
 refine Tr.k [2,6,10,12,13,14] ?_
 refine Tr.w hcx [1000141,1000142,1000143] _ [] rfl rfl rfl ?_ fm
 refine Tr.k [2,6,10,12,13,14,16,17] ?_
 refine Tr.w hcx [1000148,1000149,1000150] _ [] rfl rfl rfl ?_ fm
 refine Tr.k [2,6,10,12,13,14,16,17,18,19,20] ?_
 refine Tr.w hcx [1000155,1000156,1000157] _ [] rfl rfl rfl ?_ fm
 refine Tr.k [2,10,12,13,14,16,17,18,19,20,23] ?_
 refine Tr.w hcx [1000162,1000163] _ [] rfl rfl rfl ?_ fm
 refine Tr.k [12,13,14,16,17,18,19,20,23,24,25] ?_
 have hy:=And.intro @x0 (And.intro @x1 (And.intro @x0a (And.intro @x0b (And.intro @x1a (And.intro @x1b @q10)))))
 refine Tr.w hcx [1000218] [some 164,some 165,some 166,some 167,some 168,some 169,some 170,some 171,some 172,some 173,some 174,some 175,some 176,some 177,some 178,some 179,some 180,some 181,some 182,some 183,some 184,some 185,some 186,some 187,some 188,some 189,some 190,some 191,some 192,some 193,some 194,some 195,some 196,some 197,some 198,some 199,some 200,some 201,some 202,some 203,some 204,some 205,some 206,some 207,some 208,some 209,some 210,some 211,some 212,some 213,some 214,some 215,some 216,some 217,some 218,some 0] [] rfl rfl rfl ?_ fm
 refine Tr.k [0] ?_
 exact Tr.ret UW
theorem kH {p:Prop}(e:p:=by intro KZ hZ;simp -implicitDefEqProofs (disch:=first|omega| (simp only[go_sem,lA,lD,lT,hb1,hb2] <;>omega) |decide) only[go_sem,↓reduceIte,Nat.reduceEqDiff,reduceCtorEq,Nat.reduceLT,Nat.reduceBEq,Nat.reduceAdd,sY,DY,hy];with_reducible exact hZ):p:=e
theorem UX {p:Prop}(e:p:=by intro KZ hZ;simp -implicitDefEqProofs (disch:=first|omega| (simp only[go_sem,lA,lD,lT,hb1,hb2] <;>omega) |decide) only[go_sem,↓reduceIte,Nat.reduceEqDiff,reduceCtorEq,Nat.reduceLT,Nat.reduceBEq,Nat.reduceAdd,sY,DY,hy];with_reducible refine And.intro ?_ hZ;first|exact rfl|decide):p:=e
theorem zD {p:Prop}(e:p:=by simp -implicitDefEqProofs (disch:=first|omega| (simp only[go_sem,lA,lD,lT,hb1,hb2] <;>omega) |decide) only[go_sem,↓reduceIte,Nat.reduceEqDiff,reduceCtorEq];all_goals (first|rw[wp hc10] |rw[uT hc25] |rw[Cq hc14 (Classical.not_not.1 hc10) hA])):p:=e
theorem agh {gl:Nat→C}{M:Nat}{pu:Nat→List C→Option C}(hcx:CxOK (af gl M pu))(x y:List ba)(hx:x.length< 9223372036854775807):FC Tryd.prog gl 60 [sl dC .no x,sl dC .no y] [] (.val (.bool (decide (x=y)))) []:=by
 replace hcx:=hcx.reN (M:=26)
 refine aB (cx:=af gl 26 pu) (rs:=[.tmp 4]) rfl Tryd.func60 rfl rfl rfl (by simp only[List.length_cons,List.length_nil];decide) (by simp only[go_sem]) ?_
 simp only[bq,go_sem]
 have hy:=True.intro
 have hb1:=True.intro
 have hb2:=True.intro
 refine Tr.w hcx [] _ [] rfl rfl rfl ?_ kH
 refine aa fun K1 hK1=>?_
 refine Tr.w hcx [] _ [] rfl rfl rfl ?_ kH
 refine aq rfl (fun hc10=>?_) (fun hc10=>?_)
 ·
  refine Tr.w hcx [] _ [] rfl rfl rfl ?_ kH
  exact Tr.ret zD
 have hll:x.length=y.length:=Classical.not_not.1 hc10
 refine Tr.skip ?_
 refine hK1 _ ?_
 refine aa fun K2 hK2=>?_
 refine Tr.w hcx [] _ [] rfl rfl rfl ?_ kH
 refine Tr.k [0,1,5] ?_
 refine Tr.blk ?_
 refine aN (α:=Nat) (fun a=>[(0,?v0_1),(1,?v1_1),(5,.val (nI a))]) (fun a=>?h_1) (fun a=>a≤x.length∧x.take a=y.take a) (fun a=>x.length - a) (0) ?_ ?le_1 ?hh_1 ?bd_1
 case hh_1=>exact rfl
 case le_1=>exact LT
 . exact ⟨by omega,rfl⟩
 rintro i ⟨hi,hA⟩
 refine aa fun K3 hK3=>?_
 refine Tr.w hcx [] _ [] rfl rfl rfl ?_ kH
 refine aq rfl (fun hc14=>?_) (fun hc14=>?_)
 ·
  have hb1:=(gt x i).2
  have hb2:=(gt y i).2
  refine Tr.skip ?_
  refine hK3 _ ?_
  refine aa fun K4 hK4=>?_
  refine Tr.blk ?_
  refine Tr.wD hcx ct [] _ [] rfl rfl rfl rfl ?_ UX
  refine aq rfl (fun hc25=>?_) (fun hc25=>?_)
  ·
   refine Tr.w hcx [] _ [] rfl rfl rfl ?_ kH
   exact Tr.ret zD
  refine Tr.skip ?_
  refine hK4 _ ?_
  refine Tr.v hcx [1000016] _ [] rfl rfl rfl ?_ kH
  exact ⟨i+1,⟨⟨by omega,o5 hc14 (Classical.not_not.1 hc10) hA (Classical.not_not.1 hc25)⟩,O1⟩,LT,rfl⟩
 refine Tr.exit ?_
 refine hK2 _ ?_
 refine Tr.w hcx [] _ [] rfl rfl rfl ?_ kH
 exact Tr.ret zD
end Go.Sx
namespace Go.Sx
open Go.RowKit Go.Proofs
set_option maxRecDepth 100000
set_option maxHeartbeats 8000000
theorem QD {l:List ab}{k:List UInt8}(hs:Srt l){j:Nat}(hj:j< l.length)(h:bl (gt l j).1 k=false):bg l k≤j:=by
 obtain ⟨d,hd⟩:∃d,l.length=j+d:=⟨l.length - j,by omega⟩
 unfold bg
 rw[hd,sT d (by omega) (NE hs h)]
 exact Kr l k j
theorem QE {l:List ab}{k:List UInt8}(hs:Srt l){j:Nat}(hj:j< l.length)(h: (gt l j).1=k):bg l k=j:=by
 have h1:=QD hs hj (k:=k) (by rw[h];exact zn k)
 by_cases e:bg l k=j
 . exact e
 . have h2:gB l k (bg l k+(j - bg l k)) =bg l k+(j - bg l k):=Srt.take hs _ (by omega) k (fun x hx=>by rw[←h];exact hs x j (by omega) hj)
   have h3:∀d,j+d≤l.length→gB l k j≤gB l k (j+d):=fun d=>by
    induction d with
    |zero=>intro _;exact Nat.le_refl _
    |succ d ih=>
     intro hd
     have:=ih (by omega)
     by_cases hb:bl (gt l (j+d)).1 k=true
     . rw[←Nat.add_assoc,y6 (by omega) hb];omega
     . rw[←Nat.add_assoc,y7 (by omega) (Bool.eq_false_iff.2 hb)];exact this
   have h4:=h3 (l.length - j) (by omega)
   rw[show j+(l.length - j) =l.length by omega] at h4
   rw[show bg l k+(j - bg l k) =j by omega] at h2
   unfold bg at h1 e;omega
theorem JY {l:List ab}{k:List UInt8}(hs:Srt l): (((0:Nat):Int)≤lp l k) = (bg l k< l.length∧(gt l (bg l k)).1=k):=by
 apply propext
 unfold lp
 cases hh:pz l k with
 |none=>
  unfold pz at hh
  rw[List.findIdx?_eq_none_iff] at hh
  constructor
  . intro h;simp at h
  . rintro ⟨h1,h2⟩
    have:=hh _ (mK l _ h1)
    simp[h2] at this
 |some n=>
  unfold pz at hh
  rw[List.findIdx?_eq_some_iff_getElem] at hh
  obtain ⟨h1,h2,_⟩:=hh
  have e:gt l n=l[n]:=by simp[gt,List.getD,List.getElem?_eq_getElem h1]
  have hk: (gt l n).1=k:=by rw[e];simpa using h2
  have:=QE hs h1 hk
  constructor
  . intro _;rw[this];exact ⟨h1,hk⟩
  . intro _;simp
theorem Gi {l:List ab}{a b:Nat}(h:a< b∧b≤l.length∧l.length≤4096): (br l 0 [] 12 a b ([],0,false)).1= (iR l a b).1:=YG ⟨h.1,h.2.1,by omega⟩
theorem UY {p:Prop}(e:p:=by intro KZ hZ;simp -implicitDefEqProofs (disch:=first|omega| (simp only[go_sem,lA,lD,lT] <;>omega) |decide) only[go_sem,↓reduceIte,Nat.reduceEqDiff,reduceCtorEq,Nat.reduceLT,Nat.reduceBEq,Nat.reduceAdd,e18,hy];with_reducible exact hZ):p:=e
theorem UZ {p:Prop}(e:p:=by intro KZ hZ;simp -implicitDefEqProofs (disch:=first|omega| (simp only[go_sem,lA,lD,lT] <;>omega) |decide) only[go_sem,↓reduceIte,Nat.reduceEqDiff,reduceCtorEq,Nat.reduceLT,Nat.reduceBEq,Nat.reduceAdd,e18,hy];with_reducible refine And.intro ?_ hZ;first|exact rfl|decide):p:=e
theorem U0 {p:Prop}(e:p:=by simp -implicitDefEqProofs (disch:=first|omega| (simp only[go_sem,lA,lD,lT] <;>omega) |decide) only[go_sem,↓reduceIte,Nat.reduceEqDiff,reduceCtorEq];all_goals (rfl)):p:=e
theorem agi {gl:Nat→C}{M:Nat}{pu:Nat→List C→Option C}(hcx:CxOK (af gl M pu))(h18:∀l:List ab,l.length≤1000000→pu 18 [sl eC .no l] =some (sl eC (.own 2) l))(f z:Int)(l:List ab)(S:List ba)(hl:l.length≤1000000):FC Tryd.prog gl 27 [.agg [.val (.int .i64 f),.val (.int .i64 z),sl eC .no l,sl dC .no S]] [] (.agg [.val (.int .i64 f),.val (.int .i64 z),sl eC .no l,sl dC .no S]) []:=by
 replace hcx:=hcx.reN (M:=13)
 refine aB (cx:=af gl 13 pu) (rs:=[.cell 2 54]) rfl Tryd.func27 rfl rfl rfl (by simp only[List.length_cons,List.length_nil];decide) (by simp only[go_sem]) ?_
 simp only[bq,go_sem]
 have hy:=True.intro
 have e18:=h18 l hl
 refine Tr.w hcx [] _ [none,none] rfl rfl rfl ?_ UY
 refine Tr.wD hcx ct [] _ [] rfl rfl rfl rfl ?_ UZ
 exact Tr.ret U0
theorem U1 {p:Prop}(e:p:=by intro KZ hZ;simp -implicitDefEqProofs (disch:=first|omega| (simp only[go_sem,lA,lD,lT] <;>omega) |decide) only[go_sem,↓reduceIte,Nat.reduceEqDiff,reduceCtorEq,Nat.reduceLT,Nat.reduceBEq,Nat.reduceAdd,e13,hy];with_reducible exact hZ):p:=e
theorem U2 {p:Prop}(e:p:=by intro KZ hZ;simp -implicitDefEqProofs (disch:=first|omega| (simp only[go_sem,lA,lD,lT] <;>omega) |decide) only[go_sem,↓reduceIte,Nat.reduceEqDiff,reduceCtorEq,Nat.reduceLT,Nat.reduceBEq,Nat.reduceAdd,e13,hy];with_reducible refine And.intro ?_ hZ;first|exact rfl|decide):p:=e
theorem U3 {p:Prop}(e:p:=by simp -implicitDefEqProofs (disch:=first|omega| (simp only[go_sem,lA,lD,lT] <;>omega) |decide) only[go_sem,↓reduceIte,Nat.reduceEqDiff,reduceCtorEq];all_goals (rfl)):p:=e
theorem agj {gl:Nat→C}{M:Nat}{pu:Nat→List C→Option C}(hcx:CxOK (af gl M pu))(h13:∀l:List ab,l.length≤1000000→pu 13 [sl eC .no l] =some (sl eC (.own 2) l))(f z:Int)(l:List ab)(S:List ba)(hl:l.length≤1000000):FC Tryd.prog gl 30 [.agg [.val (.int .i64 f),.val (.int .i64 z),sl eC .no l,sl dC .no S]] [] (.agg [.val (.int .i64 f),.val (.int .i64 z),sl eC .no l,sl dC .no S]) []:=by
 replace hcx:=hcx.reN (M:=13)
 refine aB (cx:=af gl 13 pu) (rs:=[.cell 2 50]) rfl Tryd.func30 rfl rfl rfl (by simp only[List.length_cons,List.length_nil];decide) (by simp only[go_sem]) ?_
 simp only[bq,go_sem]
 have hy:=True.intro
 have e13:=h13 l hl
 refine Tr.w hcx [] _ [none,none] rfl rfl rfl ?_ U1
 refine Tr.wD hcx ct [] _ [] rfl rfl rfl rfl ?_ U2
 exact Tr.ret U3
theorem pv {p:Prop}(e:p:=by intro KZ hZ;simp -implicitDefEqProofs (disch:=first|omega| (simp only[go_sem,lA,lD,lT] <;>omega) |decide) only[go_sem,↓reduceIte,Nat.reduceEqDiff,reduceCtorEq,Nat.reduceLT,Nat.reduceBEq,Nat.reduceAdd,e34,e60,b1,b2,b3,hy];with_reducible exact hZ):p:=e
theorem tJ {p:Prop}(e:p:=by simp -implicitDefEqProofs (disch:=first|omega| (simp only[go_sem,lA,lD,lT] <;>omega) |decide) only[go_sem,↓reduceIte,Nat.reduceEqDiff,reduceCtorEq];all_goals (first| (simp only[b1,b2,b3,true_and,false_and,decide_false];done) | (simp only[b1,b2,b3,true_and,false_and];done) | (simp only[b1,b2,true_and,false_and,decide_false];done) | (simp only[b1,false_and,decide_false];done))):p:=e
theorem agk {gl:Nat→C}{M:Nat}{pu:Nat→List C→Option C}(hcx:CxOK (af gl M pu))(h34:∀x y:List ab,x.length≤1000000→y.length≤1000000→pu 34 [sl eC .no x,sl eC .no y] =some (.val (.bool (decide (x=y)))))(h60:∀x y:List ba,x.length< 9223372036854775807→pu 60 [sl dC .no x,sl dC .no y] =some (.val (.bool (decide (x=y)))))(f z:Int)(l:List ab)(S:List ba)(f' z':Int)(l':List ab)(S':List ba)(hl:l.length≤1000000)(hl':l'.length≤1000000)(hS:S.length≤1000000):FC Tryd.prog gl 26 [.agg [.val (.int .i64 f),.val (.int .i64 z),sl eC .no l,sl dC .no S],.agg [.val (.int .i64 f'),.val (.int .i64 z'),sl eC .no l',sl dC .no S']] [] ((.val (.bool (decide (f=f'∧z=z'∧l=l'∧S=S'))))) []:=by
 replace hcx:=hcx.reN (M:=31)
 refine aB (cx:=af gl 31 pu) (rs:=[.tmp 4]) rfl Tryd.func26 rfl rfl rfl (by simp only[List.length_cons,List.length_nil];decide) (by simp only[go_sem]) ?_
 simp only[bq,go_sem]
 have b1:=True.intro
 have b2:=True.intro
 have b3:=True.intro
 have hy:=True.intro
 have e34:=h34 l l' hl hl'
 have e60:=h60 S S' (by omega)
 refine Tr.w hcx [] _ [none,none] rfl rfl rfl ?_ pv
 refine Tr.k [2,3] ?_
 by_cases b1:f=f'
 ·
  have b1o:=b1
  replace b1:=eq_true b1
  by_cases b2:z=z'
  ·
   have b2o:=b2
   replace b2:=eq_true b2
   by_cases b3:l=l'
   ·
    have b3o:=b3
    replace b3:=eq_true b3
    refine Tr.w hcx [1000030] [some 5,some 6,some 7,some 8,some 9,some 10,some 11,some 12,some 13,some 14,some 15,some 16,some 17,some 18,some 19,some 20,some 21,some 22,some 23,some 24,some 25,some 26,some 27,some 28,some 29,some 30,some 4] [] rfl rfl rfl ?_ pv
    refine Tr.k [4] ?_
    exact Tr.ret tJ
   have b3o:=b3
   replace b3:=eq_false b3
   refine Tr.w hcx [1000030] [some 5,some 6,some 7,some 8,some 9,some 10,some 11,some 12,some 13,some 14,some 15,some 16,some 17,some 18,some 19,some 20,some 21,some 22,some 23,some 24,some 25,some 26,some 27,some 28,some 29,some 30,some 4] [] rfl rfl rfl ?_ pv
   refine Tr.k [4] ?_
   exact Tr.ret tJ
  have b2o:=b2
  replace b2:=eq_false b2
  refine Tr.w hcx [1000030] [some 5,some 6,some 7,some 8,some 9,some 10,some 11,some 12,some 13,some 14,some 15,some 16,some 17,some 18,some 19,some 20,some 21,some 22,some 23,some 24,some 25,some 26,some 27,some 28,some 29,some 30,some 4] [] rfl rfl rfl ?_ pv
  refine Tr.k [4] ?_
  exact Tr.ret tJ
 have b1o:=b1
 replace b1:=eq_false b1
 refine Tr.w hcx [1000030] [some 5,some 6,some 7,some 8,some 9,some 10,some 11,some 12,some 13,some 14,some 15,some 16,some 17,some 18,some 19,some 20,some 21,some 22,some 23,some 24,some 25,some 26,some 27,some 28,some 29,some 30,some 4] [] rfl rfl rfl ?_ pv
 refine Tr.k [4] ?_
 exact Tr.ret tJ
theorem gU {p:Prop}(e:p:=by intro KZ hZ;simp -implicitDefEqProofs (disch:=first|omega| (simp only[go_sem,lA,lD,lT,hgl] <;>omega) |decide) only[go_sem,↓reduceIte,Nat.reduceEqDiff,reduceCtorEq,Nat.reduceLT,Nat.reduceBEq,Nat.reduceAdd,ep85,en85,b1,b2,hy];with_reducible exact hZ):p:=e
theorem vi {p:Prop}(e:p:=by simp -implicitDefEqProofs (disch:=first|omega| (simp only[go_sem,lA,lD,lT,hgl] <;>omega) |decide) only[go_sem,↓reduceIte,Nat.reduceEqDiff,reduceCtorEq];all_goals (rfl)):p:=e
theorem abJ {gl:Nat→C}{M0:Nat}{pu:Nat→List C→Option C}{hp:Nat→List C→Hp→Option (C×Hp)}(hcx:CxOK (eR gl M0 pu hp))(l:List ab)(f e d a b:Nat)(hl:OkL l)(hf:f≤5000∧e≤5000)(hd:d≤12)(hab:a< b∧b≤l.length∧b - a≤2 ^ d)(hz:b≤f∨e≤a∨b - a≤1)(hnr:∀ (g:Nat) (xs:List C),noRefs 0 xs=false→pu g xs=none)(hn85:∀xs:List C,(∃b o,C.bp b o∈xs)→hp 85 xs [] =some (.top,[]))(hq85:∀ (pre suf:Hp) (l:List ab) (f:Nat) (S:List ba) (d:Nat) (T:List (List UInt8)) (u:Nat) (sh:Bool) (a b:Nat),OkH pre→OkH suf→LZ l→f≤5000→S.length≤1000000→u≤S.length→T.length≤900000 - 2 ^ (d+1)→d≤12→a< b∧b≤5000∧b - a≤2 ^ d→hp 85 [.bp pre.length 0,sl eC .no l,.val (nI f),.val (nI a),.val (nI b)] (pre++([some [sl sC (.own 1) (T),sl dC .no S,.val (nI (u)),.val (.bool (sh))]]++suf)) =some (.agg (cl bC (br l f S d a b (T,u,sh)).1),pre++([some [sl sC (.own 1) ((br l f S d a b (T,u,sh)).2.1),sl dC .no S,.val (nI ((br l f S d a b (T,u,sh)).2.2.1)),.val (.bool ((br l f S d a b (T,u,sh)).2.2.2))]]++suf))):FC Tryd.prog gl 92 [sl eC .no l,.val (nI f),.val (nI e),.val (nI a),.val (nI b)] [] (sl dC (.own 16) (cr l f e d a b)) []:=by
 replace hcx:=hcx.reN (M:=52)
 refine aB (cx:=eR gl 52 pu hp) (rs:=[.tmp 10]) rfl Tryd.func92 rfl rfl rfl (by simp only[List.length_cons,List.length_nil];decide) (by simp only[go_sem]) ?_
 simp only[bq,go_sem]
 have b1:=True.intro
 have b2:=True.intro
 have hy:=True.intro
 have hll:=hl.1
 have hgl:=og l
 have en85:∀x y:Nat,hp 85 [.bp 0 0,sl eC .no l,.val (nI 0),.val (nI x),.val (nI y)] [] =some (.top,[]):=fun x y=>hn85 _ ⟨0,0,by simp⟩
 have ep85:∀x y:Nat,pu 85 [.bp 0 0,sl eC .no l,.val (nI 0),.val (nI x),.val (nI y)] =none:=fun x y=>hnr 85 _ rfl
 refine Tr.w hcx [] _ [] rfl rfl rfl ?_ gU
 refine aa fun K1 hK1=>?_
 by_cases b1:b≤f
 ·
  refine Tr.w hcx [] [some 13,some 14,some 15,some 16,some 17,some 18,some 19,some 20] [] rfl rfl rfl ?_ gU
  refine bf rfl ?_
  refine Tr.w hcx [1000022] _ [none] rfl rfl rfl ?_ gU
  refine Tr.bxc 0 0 (sl sC (.own 1) []) _ rfl rfl (an rfl) rfl ?_
  refine Tr.bxc 0 1 (sl dC .no []) _ rfl rfl (an rfl) rfl ?_
  simp only[List.set_cons_succ,List.set_cons_zero]
  have e85:=hq85 [] [] l 0 [] 12 [] 0 false a b OkH.nil OkH.nil hl.lz (by omega) (by simp) (by simp) (by simp) (by omega) ⟨hab.1,by omega,by omega⟩
  simp only[List.cons_append,List.nil_append,List.length_cons,List.length_nil,Nat.zero_add] at e85
  rw[Gi ⟨hab.1,hab.2.1,hll⟩] at e85
  have hR:=qh (l:=l) (d:=d) (f:=f) (e:=e) (a:=a) (b:=b) (Or.inl b1)
  have hy:= @e85
  refine Tr.w hcx [1000028] _ [] rfl rfl rfl ?_ gU
  rw[hR]
  refine Tr.live [(10,sl dC (.own 16) [iR l a b])] LT ?_
  exact Tr.ret vi
 by_cases b2:e≤a
 ·
  refine Tr.w hcx [] [some 13,some 14,some 15,some 16,some 17,some 18,some 19,some 20] [] rfl rfl rfl ?_ gU
  refine bf rfl ?_
  refine Tr.w hcx [1000022] _ [none] rfl rfl rfl ?_ gU
  refine Tr.bxc 0 0 (sl sC (.own 1) []) _ rfl rfl (an rfl) rfl ?_
  refine Tr.bxc 0 1 (sl dC .no []) _ rfl rfl (an rfl) rfl ?_
  simp only[List.set_cons_succ,List.set_cons_zero]
  have e85:=hq85 [] [] l 0 [] 12 [] 0 false a b OkH.nil OkH.nil hl.lz (by omega) (by simp) (by simp) (by simp) (by omega) ⟨hab.1,by omega,by omega⟩
  simp only[List.cons_append,List.nil_append,List.length_cons,List.length_nil,Nat.zero_add] at e85
  rw[Gi ⟨hab.1,hab.2.1,hll⟩] at e85
  have hR:=qh (l:=l) (d:=d) (f:=f) (e:=e) (a:=a) (b:=b) (Or.inr b2)
  have hy:= @e85
  refine Tr.w hcx [1000028] _ [] rfl rfl rfl ?_ gU
  rw[hR]
  refine Tr.live [(10,sl dC (.own 16) [iR l a b])] LT ?_
  exact Tr.ret vi
 refine Tr.w hcx [] [some 13,some 14,some 15,some 16,some 17,some 18,some 19,some 20] [] rfl rfl rfl ?_ gU
 refine bc rfl ?_
 refine Tr.skip ?_
 refine hK1 _ ?_
 refine aa fun K2 hK2=>?_
 have h32:b - a=1:=by omega
 have hR:=xz (l:=l) (d:=d) (f:=f) (e:=e) (a:=a) (b:=b) (fun h=>h.elim b1 b2) (by omega)
 have hy:= @h32
 refine Tr.w hcx [] _ [] rfl rfl rfl ?_ gU
 refine bf rfl ?_
 have hy:=True.intro
 refine Tr.w hcx [] _ [] rfl rfl rfl ?_ gU
 rw[hR]
 refine Tr.live [(10,sl dC (.own 16) [])] LT ?_
 exact Tr.ret vi
theorem nv {p:Prop}(e:p:=by intro KZ hZ;simp -implicitDefEqProofs (disch:=first|omega| (simp only[go_sem,lA,lD,lT,hgl] <;>omega) |decide) only[go_sem,↓reduceIte,Nat.reduceEqDiff,reduceCtorEq,Nat.reduceLT,Nat.reduceBEq,Nat.reduceAdd,hy];with_reducible exact hZ):p:=e
theorem QF {p:Prop}(e:p:=by simp -implicitDefEqProofs (disch:=first|omega| (simp only[go_sem,lA,lD,lT,hgl] <;>omega) |decide) only[go_sem,↓reduceIte,Nat.reduceEqDiff,reduceCtorEq];all_goals (first| (rw[hR];done) | (rw[hR];rfl))):p:=e
theorem abK {gl:Nat→C}{M0:Nat}{pu:Nat→List C→Option C}{hp:Nat→List C→Hp→Option (C×Hp)}(hcx:CxOK (eR gl M0 pu hp))(l:List ab)(f e d a b:Nat)(hl:OkL l)(hf:f≤5000∧e≤5000)(hd: (d+1)≤12)(hab:a< b∧b≤l.length∧b - a≤2 ^ (d+1))(h92:∀a b:Nat,a< b∧b≤l.length∧b - a≤2 ^ d→pu 92 [sl eC .no l,.val (nI f),.val (nI e),.val (nI a),.val (nI b)] =some (sl dC (.own 16) (cr l f e d a b)))(hz1:¬b≤f)(hz2:¬e≤a)(hz3:¬b - a≤1)(h106:∀n:Nat,n≤4611686018427387000→pu 106 [.val (nI n)] =some (.val (nI (aR n)))):FC Tryd.prog gl 92 [sl eC .no l,.val (nI f),.val (nI e),.val (nI a),.val (nI b)] [] (sl dC (.own 16) (cr l f e (d+1) a b)) []:=by
 replace hcx:=hcx.reN (M:=52)
 refine aB (cx:=eR gl 52 pu hp) (rs:=[.tmp 10]) rfl Tryd.func92 rfl rfl rfl (by simp only[List.length_cons,List.length_nil];decide) (by simp only[go_sem]) ?_
 simp only[bq,go_sem]
 have hy:=True.intro
 have hll:=hl.1
 have hgl:=og l
 have b1:=hz1
 have b2:=hz2
 have h32: (b - a=1) =False:=eq_false (by omega)
 refine Tr.w hcx [] _ [] rfl rfl rfl ?_ nv
 refine aa fun K1 hK1=>?_
 have hy:=And.intro @b1 @b2
 refine Tr.w hcx [] [some 13,some 14,some 15,some 16,some 17,some 18,some 19,some 20] [] rfl rfl rfl ?_ nv
 refine bc rfl ?_
 refine Tr.skip ?_
 refine hK1 _ ?_
 refine aa fun K2 hK2=>?_
 have hy:= @h32
 refine Tr.w hcx [] _ [] rfl rfl rfl ?_ nv
 refine bc rfl ?_
 refine Tr.skip ?_
 refine hK2 _ ?_
 have e106:=h106 (b - a) (by omega)
 have hh:=gT (n:=b - a) (by omega)
 have hh2:=fg (by omega) hab.2.2
 have e1:=h92 a (a+aR (b - a)) (by omega)
 have e2:=h92 (a+aR (b - a)) b (by omega)
 have hp3:2 ^ d≤2 ^ 12:=Nat.pow_le_pow_right (by omega) (by omega)
 have hs1:=j9 l f e d a (a+aR (b - a))
 have hs2:=j9 l f e d (a+aR (b - a)) b
 have hR:=tC (l:=l) (d:=d) (f:=f) (e:=e) (a:=a) (b:=b) (fun h=>h.elim b1 b2) hz3
 have hy:= @e106
 refine Tr.w hcx [1000038] _ [] rfl rfl rfl ?_ nv
 refine Tr.k [0,1,2,3,4,12] ?_
 have hy:=And.intro @e1 @e2
 refine Tr.w hcx [44,1000051] _ [] rfl rfl rfl ?_ nv
 exact Tr.ret QF
theorem nw {p:Prop}(e:p:=by intro KZ hZ;simp -implicitDefEqProofs (disch:=first|omega| (simp only[go_sem,lA,lD,lT] <;>omega) |decide) only[go_sem,↓reduceIte,Nat.reduceEqDiff,reduceCtorEq,Nat.reduceLT,Nat.reduceBEq,Nat.reduceAdd,hy];with_reducible exact hZ):p:=e
theorem Gj {p:Prop}(e:p:=by simp -implicitDefEqProofs (disch:=first|omega| (simp only[go_sem,lA,lD,lT] <;>omega) |decide) only[go_sem,↓reduceIte,Nat.reduceEqDiff,reduceCtorEq];all_goals (first| (rw[hR];done) | (rw[hR];rfl))):p:=e
theorem agl {gl:Nat→C}{M:Nat}{pu:Nat→List C→Option C}(hcx:CxOK (af gl M pu))(h92:∀ (l:List ab) (f e a b:Nat),OkL l→f≤5000∧e≤5000→a< b∧b≤l.length→pu 92 [sl eC .no l,.val (nI f),.val (nI e),.val (nI a),.val (nI b)] =some (sl dC (.own 16) (cr l f e 12 a b)))(l:List ab)(f e:Nat)(hl:OkL l)(hfe:f≤e∧e≤l.length):FC Tryd.prog gl 59 [sl eC .no l,.val (nI f),.val (nI e)] [] (.agg [.val (nI f),.val (nI l.length),sl eC .no ((l.drop f).take (e - f)),sl dC .no (cd l f e)]) []:=by
 replace hcx:=hcx.reN (M:=29)
 refine aB (cx:=af gl 29 pu) (rs:=[.cell 6 54]) rfl Tryd.func59 rfl rfl rfl (by simp only[List.length_cons,List.length_nil];decide) (by simp only[go_sem]) ?_
 simp only[bq,go_sem]
 have hy:=True.intro
 have hll:=hl.1
 refine Tr.w hcx [] _ [none] rfl rfl rfl ?_ nw
 refine Tr.w hcx [11] _ [none] rfl rfl rfl ?_ nw
 refine aa fun K1 hK1=>?_
 refine Tr.w hcx [] _ [] rfl rfl rfl ?_ nw
 refine aq rfl (fun hc20=>?_) (fun hc20=>?_)
 ·
  have hR:=En (l:=l) (f:=f) (e:=e) (by omega)
  have e92:=h92 l f e 0 l.length hl (by omega) (by omega)
  have hy:= @e92
  refine Tr.v hcx [] _ [] rfl rfl rfl ?_ nw
  refine hK1 _ ?_
  have hy:=True.intro
  refine Tr.w hcx [] _ [] rfl rfl rfl ?_ nw
  exact Tr.ret Gj
 have hR:=Em (l:=l) (f:=f) (e:=e) (by omega)
 refine Tr.bxc 1 3 (sl dC .no []) _ rfl rfl (an rfl) rfl ?_
 simp only[List.set_cons_succ,List.set_cons_zero]
 refine Tr.skip ?_
 refine hK1 _ ?_
 refine Tr.w hcx [] _ [] rfl rfl rfl ?_ nw
 exact Tr.ret Gj
theorem i7 {p:Prop}(e:p:=by intro KZ hZ;simp -implicitDefEqProofs (disch:=first|omega| (simp only[go_sem,lA,lD,lT] <;>omega) |decide) only[go_sem,↓reduceIte,Nat.reduceEqDiff,reduceCtorEq,Nat.reduceLT,Nat.reduceBEq,Nat.reduceAdd,e16,b1,b2,hy];with_reducible exact hZ):p:=e
theorem zE {p:Prop}(e:p:=by simp -implicitDefEqProofs (disch:=first|omega| (simp only[go_sem,lA,lD,lT] <;>omega) |decide) only[go_sem,↓reduceIte,Nat.reduceEqDiff,reduceCtorEq];all_goals (first| (rw[hR];done) | (rw[hR];rfl) | (rw[hR];simp only[jJ,Nat.add_sub_cancel_left];done))):p:=e
theorem agm {gl:Nat→C}{M:Nat}{pu:Nat→List C→Option C}(hcx:CxOK (af gl M pu))(h16:∀l:List ab,LB l→pu 16 [sl eC .no l] =some (.val (nI (cb l))))(h58:∀ (l:List ab) (k:List UInt8),l.length≤1000000→pu 58 [sl eC .no l,.val (str k)] =some (.val (nI (bg l k))))(h35:∀ (l:List ab) (k:List UInt8),l.length≤1000000→pu 35 [sl eC .no l,.val (str k)] =some (.val (.int .i64 (lp l k))))(h59:∀ (l:List ab) (f e:Nat),OkL l→f≤e∧e≤l.length→pu 59 [sl eC .no l,.val (nI f),.val (nI e)] =some (.agg [.val (nI f),.val (nI l.length),sl eC .no ((l.drop f).take (e - f)),sl dC .no (cd l f e)]))(l:List ab)(k:List UInt8)(hl:LB l):FC Tryd.prog gl 23 [sl eC .no l,.val (str k)] [] (.tup [.agg [.val (nI (bR l k).1.1),.val (nI (bR l k).1.2.1),sl eC .no (bR l k).1.2.2.1,sl dC .no (bR l k).1.2.2.2],.val (nI (bR l k).2)]) []:=by
 replace hcx:=hcx.reN (M:=36)
 refine aB (cx:=af gl 36 pu) (rs:=[.cell 4 54,.tmp 5]) rfl Tryd.func23 rfl rfl rfl (by simp only[List.length_cons,List.length_nil];decide) (by simp only[go_sem]) ?_
 simp only[bq,go_sem]
 have b1:=True.intro
 have b2:=True.intro
 have hy:=True.intro
 have e16:=h16 l hl
 refine Tr.w hcx [] _ [none] rfl rfl rfl ?_ i7
 refine Tr.w hcx [1000009] _ [] rfl rfl rfl ?_ i7
 refine aa fun K1 hK1=>?_
 by_cases b1:cb l=0
 ·
  have hok:=lL (l:=l) (by omega)
  have hll:=hok.1
  have hsr:=j8 b1
  have e58:=h58 l k (by omega)
  have e35:=h35 l k (by omega)
  have hfl:=ju l k
  have hhf:=JY (k:=k) hsr
  obtain ⟨i,hi⟩:∃i,bg l k=i:=⟨_,rfl⟩
  rw[hi] at e58 hfl hhf
  refine Tr.w hcx [] _ [] rfl rfl rfl ?_ i7
  refine bc rfl ?_
  refine Tr.skip ?_
  refine hK1 _ ?_
  have hy:= @e58
  refine Tr.w hcx [1000016] _ [] rfl rfl rfl ?_ i7
  refine aa fun K2 hK2=>?_
  by_cases b2:i< l.length∧(gt l i).1=k
  ·
   have h20: (((0:Nat):Int)≤lp l k) =True:=by rw[hhf];exact eq_true b2
   have hy:=And.intro @e35 @h20
   refine Tr.w hcx [] _ [] rfl rfl rfl ?_ i7
   refine bf rfl ?_
   have e59:=h59 l i (i+1) hok (by have:=b2.1;omega)
   have hR:=Eo hi b1 b2.1 b2.2
   have hy:= @e59
   refine Tr.w hcx [] _ [] rfl rfl rfl ?_ i7
   exact Tr.ret zE
  have h20: (((0:Nat):Int)≤lp l k) =False:=by rw[hhf];exact eq_false b2
  have hy:=And.intro @e35 @h20
  refine Tr.w hcx [] _ [] rfl rfl rfl ?_ i7
  refine bc rfl ?_
  refine Tr.skip ?_
  refine hK2 _ ?_
  refine Tr.k [0,4,7] ?_
  have e59:=h59 l (i - 1) (min (i+1) l.length) hok (by omega)
  have hR:=tD hi b1 b2
  have hy:=And.intro @e59 (And.intro @Ep @iw)
  refine Tr.w hcx [] _ [] rfl rfl rfl ?_ i7
  exact Tr.ret zE
 skip
 refine Tr.w hcx [] _ [] rfl rfl rfl ?_ i7
 refine bf rfl ?_
 refine Tr.w hcx [1000013] _ [] rfl rfl rfl ?_ i7
 refine Tr.bxc 0 2 (sl eC .no []) _ rfl rfl (an rfl) rfl ?_
 refine Tr.bxc 0 3 (sl dC .no []) _ rfl rfl (an rfl) rfl ?_
 simp only[List.set_cons_succ,List.set_cons_zero]
 have hR:=NI (k:=k) b1
 exact Tr.ret zE
end Go.Sx
namespace Go.Sx
open Go.RowKit Go.Proofs
theorem Gk (l:List Int): (iZ l).length≤11∧∀i,i< (iZ l).length→(gt (iZ l) i).1.length≤2∧(gt (iZ l) i).2.length≤3:=by
 have hN:=vC l
 have key:∀n i,i< n→(gt (dJ l n).1 i).1.length≤2∧(gt (dJ l n).1 i).2.length≤3:=fun n=>by
  induction n with
  |zero=>intro i h;omega
  |succ n ih=>
   intro i h
   have hl:=jr l n
   simp only[dJ]
   by_cases e:i< n
   . rw[ke _ _ _ (by omega)];exact ih i e
   . have e:i=n:=by omega
     subst e
     rw[l8 _ _ _ _ hl]
     refine ⟨(zS _).2,?_⟩
     have h5:=tO l (2*i+1) (m:=5) (by omega)
     generalize kI l (2*i+1) 5=k at h5
     show (gt vals5 k).length≤3
     rcases k with _|_|_|_|_|k
     . decide
     . decide
     . decide
     . decide
     . decide
     . omega
 unfold iZ
 rw[jr]
 exact ⟨hN,fun i hi=>key _ i hi⟩
theorem Et {l:List ab}(h:l.length≤1000000∧∀i,i< l.length→(gt l i).1.length≤1000000∧(gt l i).2.length≤1000000):LB l:=⟨by omega,fun i hi=>by have:=h.2 i hi;omega⟩
theorem Gl (l:List ab)(f e:Nat): (cd l f e).length≤4096:=by
 unfold cd;split
 . exact Nat.zero_le _
 . exact j9 l f e 12 0 l.length
theorem U4 (l:List ab)(f e:Nat): (jJ l f e).2.2.1.length≤l.length∧(jJ l f e).2.2.2.length≤4096:=by
 refine ⟨?_,Gl l f e⟩
 show ((l.drop f).take (e - f)).length≤_
 rw[List.length_take,List.length_drop];omega
theorem U5 (l:List ab)(k:List UInt8): (bR l k).1.2.2.1.length≤l.length∧(bR l k).1.2.2.2.length≤4096:=by
 unfold bR;split
 . simp only[];split<;>exact U4 _ _ _
 . simp
theorem zF {α:Type}(ρ:List Nat)(f:α→List C)[h:Fla f]:∀l:List (List α),mvCs ρ (cl (lC f) l) =cl (lC f) l
 | [] =>by show mvCs ρ [] = [];simp only[mvCs]
 |x::l=>by
  show mvCs ρ (sl f .no x::cl (lC f) l) =sl f .no x::cl (lC f) l
  simp only[mvCs,gS,zF ρ f l]
theorem CT {α:Type}(ρ:List Nat)(f:α→List C)[h:Fla f](r:Rt)(l:List (List α)):bA ρ (sl (lC f) r l) =sl (lC f) r l:=by
 show bA ρ (.sl r l.length (cl (lC f) l)) = .sl r l.length (cl (lC f) l)
 simp only[bA,zF]
end Go.Sx
namespace Go.Sx
open Go.RowKit Go.Proofs
set_option maxRecDepth 100000
set_option maxHeartbeats 8000000
end Go.Sx
