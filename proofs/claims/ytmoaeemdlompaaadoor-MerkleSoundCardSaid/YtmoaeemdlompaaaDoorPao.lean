/-
   And what follows.
-/
import Derived.Test.YtmoaeemdlompaaaDoorPan
set_option linter.unusedSimpArgs false
set_option linter.unusedVariables false
namespace Go.Sx
open Go.RowKit Go.Proofs
set_option maxRecDepth 100000
set_option maxHeartbeats 8000000
theorem m8 (x y:List UInt8) : ((List.replicate 2 []).set 0 x).set 1 y= [x,y] :=rfl
theorem Ph {a:List UInt8} (h:a.length=16) :a.take 16=a:=List.take_of_length_le (by omega)
theorem i7 (n:Nat) :C.val (.int .i64 ((n:Nat) :Int)) =C.val (nI n) :=rfl
theorem n0 {p:Prop} (e:p:=by intro KZ hZ;simp -implicitDefEqProofs (disch:=first|omega| (simp only[go_sem,lA,lD,lT] <;>omega) |decide) only[go_sem,↓reduceIte,Nat.reduceEqDiff,reduceCtorEq,Nat.reduceLT,Nat.reduceBEq,Nat.reduceAdd,hy];with_reducible exact hZ) :p:=e
theorem Pi {p:Prop} (e:p:=by simp -implicitDefEqProofs (disch:=first|omega| (simp only[go_sem,lA,lD,lT] <;>omega) |decide) only[go_sem,↓reduceIte,Nat.reduceEqDiff,reduceCtorEq];all_goals (rw[←hm.2.2,Iy (by omega)])) :p:=e
theorem YT {gl:Nat→C} {M:Nat} {pu:Nat→List C→Option C} (hcx:CxOK (aO gl M pu)) (x y:Nat) (hab:x≤y∧y≤4611686018427387000) :FC Tryd.prog gl 81 [.val (nI x),.val (nI y)] [] (.val (nI (x+aV (y - x)))) [] :=by
 replace hcx:=hcx.reN (M:=17)
 refine bZ (cx:=aO gl 17 pu) (rs:= [.tmp 4]) rfl Tryd.func81 rfl rfl rfl (by simp only[List.length_cons,List.length_nil];decide) (by simp only[go_sem]) ?_
 simp only[cO,go_sem]
 have hy:=True.intro
 refine aa hcx [] _ [] rfl rfl rfl ?_ n0
 refine aa hcx [] _ [] rfl rfl rfl ?_ n0
 refine Tr.k [0,1,5] ?_
 refine ae fun K1 hK1=> ?_
 refine Tr.blk ?_
 refine cm (α:=Nat) (fun a=> [(0,?v0_1),(1,?v1_1),(5,.val (nI a))]) (fun a=> ?h_1) (fun a=>0< a∧a≤(y - x)+1∧ji (y - x) (y - x) a=aV (y - x)) (fun a=> (y - x) - a) (1) ⟨by omega,by omega,rfl⟩ ?le_1 ?hh_1 ?bd_1
 case hh_1=>exact rfl
 case le_1=>exact LT
 rintro m hm
 refine ae fun K2 hK2=> ?_
 refine aa hcx [] _ [] rfl rfl rfl ?_ n0
 refine bS rfl (fun hc11=> ?_) (fun hc11=> ?_)
 ·
  refine Tr.skip ?_
  refine hK2 _ ?_
  refine Tr.blk ?_
  refine bG hcx [1000013] _ [] rfl rfl rfl ?_ n0
  exact ⟨m*2,⟨⟨by omega,by omega,by rw[←hm.2.2,Ix (by omega) hm.1,Nat.mul_comm]⟩,O1⟩,LT,rfl⟩
 refine Tr.exit ?_
 refine hK1 _ ?_
 refine aa hcx [1000016] _ [] rfl rfl rfl ?_ n0
 exact Tr.ret Pi
theorem mt {p:Prop} (e:p:=by intro KZ hZ;simp -implicitDefEqProofs (disch:=first|omega| (simp only[go_sem,lA,lD,lT] <;>omega) |decide) only[go_sem,↓reduceIte,Nat.reduceEqDiff,reduceCtorEq,Nat.reduceLT,Nat.reduceBEq,Nat.reduceAdd,hy];with_reducible exact hZ) :p:=e
theorem Lk {p:Prop} (e:p:=by simp -implicitDefEqProofs (disch:=first|omega| (simp only[go_sem,lA,lD,lT] <;>omega) |decide) only[go_sem,↓reduceIte,Nat.reduceEqDiff,reduceCtorEq];all_goals (rw[←hm.2.2,Iy (by omega)])) :p:=e
theorem U8 {gl:Nat→C} {M:Nat} {pu:Nat→List C→Option C} (hcx:CxOK (aO gl M pu)) (n:Nat) (hn:n≤4611686018427387000) :FC Tryd.prog gl 106 [.val (nI n)] [] (.val (nI (aV n))) [] :=by
 replace hcx:=hcx.reN (M:=11)
 refine bZ (cx:=aO gl 11 pu) (rs:= [.tmp 2]) rfl Tryd.func106 rfl rfl rfl (by simp only[List.length_cons,List.length_nil];decide) (by simp only[go_sem]) ?_
 simp only[cO,go_sem]
 have hy:=True.intro
 refine aa hcx [] _ [] rfl rfl rfl ?_ mt
 refine aa hcx [] _ [] rfl rfl rfl ?_ mt
 refine Tr.k [0,3] ?_
 refine ae fun K1 hK1=> ?_
 refine Tr.blk ?_
 refine cm (α:=Nat) (fun a=> [(0,?v0_1),(3,.val (nI a))]) (fun a=> ?h_1) (fun a=>0< a∧a≤n+1∧ji n n a=aV n) (fun a=>n - a) (1) ⟨by omega,by omega,rfl⟩ ?le_1 ?hh_1 ?bd_1
 case hh_1=>exact rfl
 case le_1=>exact LT
 rintro m hm
 refine ae fun K2 hK2=> ?_
 refine aa hcx [] _ [] rfl rfl rfl ?_ mt
 refine bS rfl (fun hc7=> ?_) (fun hc7=> ?_)
 ·
  refine Tr.skip ?_
  refine hK2 _ ?_
  refine Tr.blk ?_
  refine bG hcx [1000009] _ [] rfl rfl rfl ?_ mt
  exact ⟨2*m,⟨⟨by omega,by omega,by rw[←hm.2.2,Ix (by omega) hm.1]⟩,O1⟩,LT,rfl⟩
 refine Tr.exit ?_
 refine hK1 _ ?_
 refine aa hcx [1000010] _ [] rfl rfl rfl ?_ mt
 exact Tr.ret Lk
theorem Co {p:Prop} (e:p:=by intro KZ hZ;simp -implicitDefEqProofs (disch:=first|omega| (simp only[go_sem,lA,lD,lT,dx] <;>omega) |decide) only[go_sem,↓reduceIte,Nat.reduceEqDiff,reduceCtorEq,Nat.reduceLT,Nat.reduceBEq,Nat.reduceAdd,m8,e,hy];with_reducible exact hZ) :p:=e
theorem Pj {p:Prop} (e:p:=by simp -implicitDefEqProofs (disch:=first|omega| (simp only[go_sem,lA,lD,lT,dx] <;>omega) |decide) only[go_sem,↓reduceIte,Nat.reduceEqDiff,reduceCtorEq];all_goals (rfl)) :p:=e
theorem YU {gl:Nat→C} {M:Nat} {pu:Nat→List C→Option C} (hcx:CxOK (aO gl M pu)) (h78: ∀ (tag:Int) (parts:List (List UInt8)),(cL tag parts).length< 1099511627776→pu 78 [.val (.int .i64 tag),sl sC .no parts] =some (.agg (cl bC (ofT tag parts)))) (x:ab) (hx:x.1.length≤65536∧x.2.length≤65536) :FC Tryd.prog gl 80 [.agg (eC x)] [] (.agg (cl bC (fV x))) [] :=by
 replace hcx:=hcx.reN (M:=9)
 refine bZ (cx:=aO gl 9 pu) (rs:= [.cell 2 29]) rfl Tryd.func80 rfl rfl rfl (by simp only[List.length_cons,List.length_nil];decide) (by simp only[go_sem]) ?_
 simp only[cO,go_sem]
 have hy:=True.intro
 have e:pu 78 [.val (nI 3),sl sC .no [x.1,x.2]] =some (.agg (cl bC (fV x))) :=h78 3 [x.1,x.2] (fU 3 _ _ (by omega) (by omega))
 refine aa hcx [] _ [none,none] rfl rfl rfl ?_ Co
 refine aa hcx [] _ [] rfl rfl rfl ?_ Co
 exact Tr.ret Pj
theorem Pk {p:Prop} (e:p:=by intro KZ hZ;simp -implicitDefEqProofs (disch:=first|omega| (simp only[go_sem,lA,lD,lT,ha,hb,dB] <;>omega) |decide) only[go_sem,↓reduceIte,Nat.reduceEqDiff,reduceCtorEq,Nat.reduceLT,Nat.reduceBEq,Nat.reduceAdd,m8,ta,tb,e,hy];with_reducible exact hZ) :p:=e
theorem Pl {p:Prop} (e:p:=by intro KZ hZ;simp -implicitDefEqProofs (disch:=first|omega| (simp only[go_sem,lA,lD,lT,ha,hb,dB] <;>omega) |decide) only[go_sem,↓reduceIte,Nat.reduceEqDiff,reduceCtorEq,Nat.reduceLT,Nat.reduceBEq,Nat.reduceAdd,m8,ta,tb,e,hy];refine And.intro ?_ hZ;exact rfl) :p:=e
theorem Pm {p:Prop} (e:p:=by simp -implicitDefEqProofs (disch:=first|omega| (simp only[go_sem,lA,lD,lT,ha,hb,dB] <;>omega) |decide) only[go_sem,↓reduceIte,Nat.reduceEqDiff,reduceCtorEq];all_goals (rfl)) :p:=e
theorem YV {gl:Nat→C} {M:Nat} {pu:Nat→List C→Option C} (hcx:CxOK (aO gl M pu)) (h78: ∀ (tag:Int) (parts:List (List UInt8)),(cL tag parts).length< 1099511627776→pu 78 [.val (.int .i64 tag),sl sC .no parts] =some (.agg (cl bC (ofT tag parts)))) (a b:List UInt8) (ha:a.length=16) (hb:b.length=16) :FC Tryd.prog gl 82 [.agg (cl bC a),.agg (cl bC b)] [] (.agg (cl bC (iI a b))) [] :=by
 replace hcx:=hcx.reN (M:=11)
 refine bZ (cx:=aO gl 11 pu) (rs:= [.cell 4 29]) rfl Tryd.func82 rfl rfl rfl (by simp only[List.length_cons,List.length_nil];decide) (by simp only[go_sem]) ?_
 simp only[cO,go_sem]
 have hy:=True.intro
 have hin:=fU 4 a b (by omega) (by omega)
 have e:pu 78 [.val (nI 4),sl sC .no [a,b]] =some (.agg (cl bC (iI a b))) :=h78 4 [a,b] hin
 have ta:=Ph ha
 have tb:=Ph hb
 refine aa hcx [] _ [none,none,none] rfl rfl rfl ?_ Pk
 refine bH hcx cK [] _ [] rfl rfl rfl rfl ?_ Pl
 exact Tr.ret Pm
theorem wP {p:Prop} (e:p:=by intro KZ hZ;simp -implicitDefEqProofs (disch:=first|omega| (simp only[go_sem,lA,lD,lT] <;>omega) |decide) only[go_sem,↓reduceIte,Nat.reduceEqDiff,reduceCtorEq,Nat.reduceLT,Nat.reduceBEq,Nat.reduceAdd,b1,hy];with_reducible exact hZ) :p:=e
theorem Cp {p:Prop} (e:p:=by simp -implicitDefEqProofs (disch:=first|omega| (simp only[go_sem,lA,lD,lT] <;>omega) |decide) only[go_sem,↓reduceIte,Nat.reduceEqDiff,reduceCtorEq];all_goals (simp[dv,b1])) :p:=e
theorem YW {gl:Nat→C} {M:Nat} {pu:Nat→List C→Option C} (hcx:CxOK (aO gl M pu)) (x:ab) (hx:x.1.length< 9223372036854775808∧x.2.length< 9223372036854775808) :FC Tryd.prog gl 54 [.agg (eC x)] [] (.val (.bool (dv x))) [] :=by
 replace hcx:=hcx.reN (M:=13)
 refine bZ (cx:=aO gl 13 pu) (rs:= [.tmp 2]) rfl Tryd.func54 rfl rfl rfl (by simp only[List.length_cons,List.length_nil];decide) (by simp only[go_sem]) ?_
 simp only[cO,go_sem]
 have b1:=True.intro
 have hy:=True.intro
 refine aa hcx [] _ [none] rfl rfl rfl ?_ wP
 by_cases b1:65536< x.1.length
 ·
  refine aa hcx [1000012] [some 3,some 4,some 5,some 6,some 7,some 8,some 9,some 10,some 11,some 12,some 2] [] rfl rfl rfl ?_ wP
  exact Tr.ret Cp
 refine aa hcx [1000012] [some 3,some 4,some 5,some 6,some 7,some 8,some 9,some 10,some 11,some 12,some 2] [] rfl rfl rfl ?_ wP
 exact Tr.ret Cp
theorem wQ {p:Prop} (e:p:=by intro KZ hZ;simp -implicitDefEqProofs (disch:=first|omega| (simp only[go_sem,lA,lD,lT,hwl,gC,hd,ec,hw0] <;>omega) |decide) only[go_sem,↓reduceIte,Nat.reduceEqDiff,reduceCtorEq,Nat.reduceLT,Nat.reduceBEq,Nat.reduceAdd,m8,e0,e1,w0,w1,td,hy];with_reducible exact hZ) :p:=e
theorem Pn {p:Prop} (e:p:=by intro KZ hZ;simp -implicitDefEqProofs (disch:=first|omega| (simp only[go_sem,lA,lD,lT,hwl,gC,hd,ec,hw0] <;>omega) |decide) only[go_sem,↓reduceIte,Nat.reduceEqDiff,reduceCtorEq,Nat.reduceLT,Nat.reduceBEq,Nat.reduceAdd,m8,e0,e1,w0,w1,td,hy];refine And.intro ?_ hZ;exact rfl) :p:=e
theorem Cq {p:Prop} (e:p:=by simp -implicitDefEqProofs (disch:=first|omega| (simp only[go_sem,lA,lD,lT,hwl,gC,hd,ec,hw0] <;>omega) |decide) only[go_sem,↓reduceIte,Nat.reduceEqDiff,reduceCtorEq];all_goals (first| (rw[gB,if_pos hc6];done) | (rw[gB,if_neg hc6];done))) :p:=e
theorem YX {gl:Nat→C} {M:Nat} {pu:Nat→List C→Option C} (hcx:CxOK (aO gl M pu)) (h78: ∀ (tag:Int) (parts:List (List UInt8)),(cL tag parts).length< 1099511627776→pu 78 [.val (.int .i64 tag),sl sC .no parts] =some (.agg (cl bC (ofT tag parts)))) (h39: ∀n:Int,-9223372036854775808≤n∧n≤9223372036854775807→pu 39 [.val (.int .i64 n)] =some (sl bC (.own 1) (cX n))) (n:Nat) (d:List UInt8) (hn:n≤4096) (hd:d.length=16) :FC Tryd.prog gl 50 [.val (nI n),.agg (cl bC d)] [] (.agg (cl bC (gB n d))) [] :=by
 replace hcx:=hcx.reN (M:=18)
 refine bZ (cx:=aO gl 18 pu) (rs:= [.cell 4 29]) rfl Tryd.func50 rfl rfl rfl (by simp only[List.length_cons,List.length_nil];decide) (by simp only[go_sem]) ?_
 simp only[cO,go_sem]
 have hy:=True.intro
 have w0:pu 39 [.val (nI 0)] =some (sl bC (.own 1) (cX ((0:Nat) :Int))) :=h39 ((0:Nat) :Int) (by omega)
 have w1:pu 39 [.val (nI n)] =some (sl bC (.own 1) (cX ((n:Nat) :Int))) :=h39 ((n:Nat) :Int) (by omega)
 have hwl:=l7 n (by omega)
 have hw0:=l7 0 (by omega)
 have e0:pu 78 [.val (nI 4),sl sC .no [cX ((0:Nat) :Int)]] =some (.agg (cl bC (ofT 4 [cX ((0:Nat) :Int)]))) :=h78 4 _ (qM 4 _ (by omega))
 have e1:pu 78 [.val (nI 4),sl sC .no [cX ((n:Nat) :Int),d]] =some (.agg (cl bC (ofT 4 [cX ((n:Nat) :Int),d]))) :=h78 4 _ (fU 4 _ _ (by omega) (by omega))
 have td:=Ph hd
 refine aa hcx [] _ [none,none] rfl rfl rfl ?_ wQ
 refine ae fun K1 hK1=> ?_
 refine aa hcx [] _ [] rfl rfl rfl ?_ wQ
 refine bS rfl (fun hc6=> ?_) (fun hc6=> ?_)
 ·
  refine aa hcx [] _ [] rfl rfl rfl ?_ wQ
  exact Tr.ret Cq
 refine Tr.skip ?_
 refine hK1 _ ?_
 refine bH hcx cK [] _ [] rfl rfl rfl rfl ?_ Pn
 exact Tr.ret Cq
end Go.Sx
namespace Go.Sx
open Go.RowKit Go.Proofs
set_option maxRecDepth 100000
set_option maxHeartbeats 8000000
theorem wV (l:List ab) (i:Nat) (h:i< l.length) : (l.take (i+1)).any dv= ((l.take i).any dv||dv (gt l i)) :=by
 rw[dO l i h,List.any_append];simp
theorem wW {l:List ab} {i:Nat} (h:i< l.length) (hb:dv (gt l i) =true) :l.any dv=true:=by
 rw[List.any_eq_true];exact ⟨_,kB l i h,hb⟩
theorem mz {l:List ab} (h:4096< l.length∨l.any dv=true) :cW l=4:=if_pos h
theorem wX {l:List ab} (h: ¬ (4096< l.length∨l.any dv=true)) (h2:fW l l.length=true) :cW l=0:=by unfold cW;rw[if_neg h,if_pos h2]
theorem CS {l:List ab} (h: ¬ (4096< l.length∨l.any dv=true)) (h2: ¬fW l l.length=true) :cW l=1:=by unfold cW;rw[if_neg h,if_neg h2]
theorem y3 {l:List ab} {i:Nat} (hi:0< i) (h2:bl (gt l (i - 1)).1 (gt l i).1=false) : ∀n,i< n→fW l n=false
 |0,h=>by omega
 |n+1,h=>by
  by_cases e:i=n
  · subst e;unfold fW;rw[h2,decide_eq_false (by omega)];simp
  · unfold fW;rw[y3 hi h2 n (by omega)];rfl
theorem rF {l:List ab} {i:Nat} (h:fW l i=true) (h2:i=0∨bl (gt l (i - 1)).1 (gt l i).1=true) :fW l (i+1) =true:=by
 unfold fW;rw[h]
 rcases h2 with h2|h2
 · rw[decide_eq_true h2];rfl
 · rw[h2];simp
theorem PF {x:ab} (h:65536< x.1.length) :dv x=true:=by simp[dv,h]
theorem PG {x:ab} (h:65536< x.2.length) :dv x=true:=by simp[dv,h]
theorem y4 {l:List ab} {i n:Nat} (hi:0< i) (h2:bl (gt l (i - 1)).1 (gt l i).1=false) (h:i< n) : ¬fW l n=true:=by rw[y3 hi h2 n h];simp
theorem wY {l:List ab} {i:Nat} (h1: ¬i< l.length) (h2:i≤l.length∨i=1) (h:i≤l.length→fW l i=true) :fW l l.length=true:=by
 by_cases e:l.length=0
 · rw[e];rfl
 · have e:i=l.length:=by omega
   rw[←e];exact h (by omega)
def LB (l:List ab) :Prop:=l.length< 4611686018427387000∧∀i,i< l.length→(gt l i).1.length< 9223372036854775808∧(gt l i).2.length< 9223372036854775808
def kZ (l:List ab) :Int:= (((l.findIdx? dv).map fun n=> ((n:Nat) :Int)).getD (-1))
theorem PH {l:List ab} {i:Nat} (h:i< l.length) (h0: (l.take i).any dv=false) (hb:dv (gt l i) =true) :kZ l= ((i:Nat) :Int) :=by
 have e:gt l i=l[i] :=by simp[gt,List.getD,List.getElem?_eq_getElem h]
 have:l.findIdx? dv=some i:=by
  rw[List.findIdx?_eq_some_iff_getElem]
  refine ⟨h,by rw[←e];exact hb,fun j hj=> ?_⟩
  rw[List.any_eq_false] at h0
  have:=h0 l[j] (by rw[List.mem_take_iff_getElem];exact ⟨j,by omega,rfl⟩)
  simpa using this
 unfold kZ;rw[this];rfl
theorem PI {l:List ab} (h0:l.any dv=false) :kZ l= -1:=by
 have:l.findIdx? dv=none:=by
  rw[List.findIdx?_eq_none_iff];rw[List.any_eq_false] at h0;intro x hx;simpa using h0 x hx
 unfold kZ;rw[this];rfl
theorem Lq (l:List ab) : (0≤kZ l) = (l.any dv=true) :=by
 unfold kZ
 cases h:l.findIdx? dv with
 |none=>
  rw[List.findIdx?_eq_none_iff] at h
  have:l.any dv=false:=by rw[List.any_eq_false];intro x hx;simp[h x hx]
  simp[this]
 |some n=>
  rw[List.findIdx?_eq_some_iff_getElem] at h
  obtain ⟨h1,h2,_⟩ :=h
  have:l.any dv=true:=by rw[List.any_eq_true];exact ⟨_,List.getElem_mem h1,h2⟩
  simp[this]
theorem FO (l:List ab) :decide ((0:Int)≤kZ l) =l.any dv:=by rw[Bool.eq_iff_iff,decide_eq_true_eq,Lq]
theorem jm {p:Prop} (e:p:=by intro KZ hZ;simp -implicitDefEqProofs (disch:=first|omega| (simp only[go_sem,lA,lD,lT] <;>omega) |decide) only[go_sem,↓reduceIte,Nat.reduceEqDiff,reduceCtorEq,Nat.reduceLT,Nat.reduceBEq,Nat.reduceAdd,b1,hy];with_reducible exact hZ) :p:=e
theorem CT {p:Prop} (e:p:=by simp -implicitDefEqProofs (disch:=first|omega| (simp only[go_sem,lA,lD,lT] <;>omega) |decide) only[go_sem,↓reduceIte,Nat.reduceEqDiff,reduceCtorEq];all_goals (first| (rw[PH hc9 hi.2 b1] <;>rfl) | (rw[hiF] <;>rfl))) :p:=e
theorem Y4 {gl:Nat→C} {M:Nat} {pu:Nat→List C→Option C} (hcx:CxOK (aO gl M pu)) (h54: ∀x:ab,x.1.length< 9223372036854775808∧x.2.length< 9223372036854775808→pu 54 [.agg (eC x)] =some (.val (.bool (dv x)))) (l:List ab) (hl:LB l) :FC Tryd.prog gl 87 [sl eC .no l,.fn 54 []] [] (.val (.int .i64 (kZ l))) [] :=by
 replace hcx:=hcx.reN (M:=19)
 refine bZ (cx:=aO gl 19 pu) (rs:= [.tmp 4]) rfl Tryd.func87 rfl rfl rfl (by simp only[List.length_cons,List.length_nil];decide) (by simp only[go_sem]) ?_
 simp only[cO,go_sem]
 have b1:=True.intro
 have hy:=True.intro
 have hl1:=hl.1
 refine aa hcx [] _ [] rfl rfl rfl ?_ jm
 refine ae fun K1 hK1=> ?_
 refine aa hcx [] _ [] rfl rfl rfl ?_ jm
 refine Tr.k [0,1,7,8] ?_
 refine Tr.blk ?_
 refine cm (α:=Nat) (fun a=> [(0,?v0_1),(1,?v1_1),(7,?v7_1),(8,.val (nI a))]) (fun a=> ?h_1) (fun a=>a≤l.length∧(l.take a).any dv=false) (fun a=>l.length - a) (0) ⟨Nat.zero_le _,by rw[List.take_zero];rfl⟩ ?le_1 ?hh_1 ?bd_1
 case hh_1=>exact rfl
 case le_1=>exact LT
 rintro i hi
 refine aa hcx [] _ [] rfl rfl rfl ?_ jm
 refine ae fun K2 hK2=> ?_
 refine bS rfl (fun hc9=> ?_) (fun hc9=> ?_)
 ·
  have e54:=h54 (gt l i) (hl.2 i hc9)
  refine Tr.skip ?_
  refine hK2 _ ?_
  refine ae fun K3 hK3=> ?_
  refine Tr.blk ?_
  refine aa hcx [1000010] _ [] rfl rfl rfl ?_ jm
  by_cases b1:dv (gt l i) =true
  ·
   have e54b:=b1
   have hy:= @e54
   refine aa hcx [] _ [] rfl rfl rfl ?_ jm
   refine ct rfl ?_
   have hy:=True.intro
   refine aa hcx [1000017] _ [] rfl rfl rfl ?_ jm
   exact Tr.ret CT
  have e54b:=Bool.eq_false_iff.2 b1
  have hy:= @e54
  refine aa hcx [] _ [] rfl rfl rfl ?_ jm
  refine bn rfl ?_
  refine Tr.skip ?_
  refine hK3 _ ?_
  have hy:=True.intro
  refine bG hcx [] _ [] rfl rfl rfl ?_ jm
  exact ⟨i+1,⟨⟨by omega,by rw[wV l i hc9,hi.2,e54b];rfl⟩,O1⟩,LT,rfl⟩
 have hiF:=PI (l:=l) (by rw[←List.take_of_length_le (show l.length≤i by omega)];exact hi.2)
 refine Tr.exit ?_
 refine hK1 _ ?_
 refine aa hcx [] _ [] rfl rfl rfl ?_ jm
 exact Tr.ret CT
theorem CU {p:Prop} (e:p:=by intro KZ hZ;simp -implicitDefEqProofs (disch:=first|omega| (simp only[go_sem,lA,lD,lT] <;>omega) |decide) only[go_sem,↓reduceIte,Nat.reduceEqDiff,reduceCtorEq,Nat.reduceLT,Nat.reduceBEq,Nat.reduceAdd,e87,hy];with_reducible exact hZ) :p:=e
theorem PJ {p:Prop} (e:p:=by simp -implicitDefEqProofs (disch:=first|omega| (simp only[go_sem,lA,lD,lT] <;>omega) |decide) only[go_sem,↓reduceIte,Nat.reduceEqDiff,reduceCtorEq];all_goals (exact congrArg (fun z=>some (C.val (.bool z))) (FO l))) :p:=e
theorem Y5 {gl:Nat→C} {M:Nat} {pu:Nat→List C→Option C} (hcx:CxOK (aO gl M pu)) (h87: ∀l:List ab,LB l→pu 87 [sl eC .no l,.fn 54 []] =some (.val (.int .i64 (kZ l)))) (l:List ab) (hl:LB l) :FC Tryd.prog gl 53 [sl eC .no l,.fn 54 []] [] (.val (.bool (l.any dv))) [] :=by
 replace hcx:=hcx.reN (M:=9)
 refine bZ (cx:=aO gl 9 pu) (rs:= [.tmp 4]) rfl Tryd.func53 rfl rfl rfl (by simp only[List.length_cons,List.length_nil];decide) (by simp only[go_sem]) ?_
 simp only[cO,go_sem]
 have hy:=True.intro
 have e87:=h87 l hl
 refine aa hcx [] _ [] rfl rfl rfl ?_ CU
 refine aa hcx [1000008] _ [] rfl rfl rfl ?_ CU
 exact Tr.ret PJ
theorem gg {p:Prop} (e:p:=by intro KZ hZ;simp -implicitDefEqProofs (disch:=first|omega| (simp only[go_sem,lA,lD,lT] <;>omega) |decide) only[go_sem,↓reduceIte,Nat.reduceEqDiff,reduceCtorEq,Nat.reduceLT,Nat.reduceBEq,Nat.reduceAdd,e53,b1,b2,b3,b4,hy];with_reducible exact hZ) :p:=e
theorem wZ {p:Prop} (e:p:=by intro KZ hZ;simp -implicitDefEqProofs (disch:=first|omega| (simp only[go_sem,lA,lD,lT] <;>omega) |decide) only[go_sem,↓reduceIte,Nat.reduceEqDiff,reduceCtorEq,Nat.reduceLT,Nat.reduceBEq,Nat.reduceAdd,e53,b1,b2,b3,b4,hy];refine And.intro ?_ hZ;exact rfl) :p:=e
theorem rG {p:Prop} (e:p:=by simp -implicitDefEqProofs (disch:=first|omega| (simp only[go_sem,lA,lD,lT] <;>omega) |decide) only[go_sem,↓reduceIte,Nat.reduceEqDiff,reduceCtorEq];all_goals (first| (rw[mz (Or.inl b1)];done) | (rw[mz (Or.inr b2)];done) | (rw[CS hno (y4 b3 b4 hc14)];done) | (rw[wX hno (wY hc14 (Or.inl hi.1) (fun _=>hi.2))];done))) :p:=e
theorem Y6 {gl:Nat→C} {M:Nat} {pu:Nat→List C→Option C} (hcx:CxOK (aO gl M pu)) (h53: ∀l:List ab,LB l→pu 53 [sl eC .no l,.fn 54 []] =some (.val (.bool (l.any dv)))) (l:List ab) (hl:LB l) :FC Tryd.prog gl 15 [sl eC .no l] [] (.val (nI (cW l))) [] :=by
 replace hcx:=hcx.reN (M:=33)
 refine bZ (cx:=aO gl 33 pu) (rs:= [.tmp 2]) rfl Tryd.func15 rfl rfl rfl (by simp only[List.length_cons,List.length_nil];decide) (by simp only[go_sem]) ?_
 simp only[cO,go_sem]
 have b1:=True.intro
 have b2:=True.intro
 have b3:=True.intro
 have b4:=True.intro
 have hy:=True.intro
 have e53:=h53 l hl
 have hl1:=hl.1
 refine aa hcx [] _ [] rfl rfl rfl ?_ gg
 refine ae fun K1 hK1=> ?_
 by_cases b1:4096< l.length
 ·
  refine aa hcx [] [some 4,some 5,some 6,some 7,some 8,some 9,some 10] [] rfl rfl rfl ?_ gg
  refine ct rfl ?_
  refine aa hcx [] _ [] rfl rfl rfl ?_ gg
  exact Tr.ret rG
 by_cases b2:l.any dv=true
 ·
  skip
  refine aa hcx [] [some 4,some 5,some 6,some 7,some 8,some 9,some 10] [] rfl rfl rfl ?_ gg
  refine ct rfl ?_
  refine aa hcx [] _ [] rfl rfl rfl ?_ gg
  exact Tr.ret rG
 have hno: ¬ (4096< l.length∨l.any dv=true) :=fun h=>h.elim b1 b2
 replace b2:=Bool.eq_false_iff.2 b2
 refine aa hcx [] [some 4,some 5,some 6,some 7,some 8,some 9,some 10] [] rfl rfl rfl ?_ gg
 refine bn rfl ?_
 refine Tr.skip ?_
 refine hK1 _ ?_
 refine ae fun K2 hK2=> ?_
 refine aa hcx [] _ [] rfl rfl rfl ?_ gg
 refine Tr.k [0,12,13] ?_
 refine Tr.blk ?_
 refine cm (α:=Nat) (fun a=> [(0,?v0_1),(12,?v12_1),(13,.val (nI a))]) (fun a=> ?h_1) (fun a=>a≤l.length∧fW l a=true) (fun a=>l.length - a) (0) ⟨Nat.zero_le _,rfl⟩ ?le_1 ?hh_1 ?bd_1
 case hh_1=>exact rfl
 case le_1=>exact LT
 rintro i hi
 refine aa hcx [] _ [] rfl rfl rfl ?_ gg
 refine ae fun K3 hK3=> ?_
 refine bS rfl (fun hc14=> ?_) (fun hc14=> ?_)
 ·
  refine Tr.skip ?_
  refine hK3 _ ?_
  refine ae fun K4 hK4=> ?_
  refine Tr.blk ?_
  refine aa hcx [1000015] _ [] rfl rfl rfl ?_ gg
  by_cases b3:0< i
  ·
   by_cases b4:bl (gt l (i - 1)).1 (gt l i).1=true
   ·
    skip
    have hb:i=0∨bl (gt l (i - 1)).1 (gt l i).1=true:=Or.inr b4
    refine bH hcx cK [] [some 16,some 17,some 18,some 19,some 20,some 21,some 22,some 23,some 24,some 25,some 26,some 27,some 28,some 29,some 30,some 31] [] rfl rfl rfl rfl ?_ wZ
    refine bn rfl ?_
    refine Tr.skip ?_
    refine hK4 _ ?_
    refine bG hcx [] _ [] rfl rfl rfl ?_ gg
    exact ⟨i+1,⟨⟨by omega,rF hi.2 hb⟩,O1⟩,LT,rfl⟩
   replace b4:=Bool.eq_false_iff.2 b4
   have hb:=True.intro
   refine bH hcx cK [] [some 16,some 17,some 18,some 19,some 20,some 21,some 22,some 23,some 24,some 25,some 26,some 27,some 28,some 29,some 30,some 31] [] rfl rfl rfl rfl ?_ wZ
   refine ct rfl ?_
   refine aa hcx [] _ [] rfl rfl rfl ?_ gg
   exact Tr.ret rG
  have hb:i=0∨bl (gt l (i - 1)).1 (gt l i).1=true:=Or.inl (by omega)
  refine bH hcx cK [] [some 16,some 17,some 18,some 19,some 20,some 21,some 22,some 23,some 24,some 25,some 26,some 27,some 28,some 29,some 30,some 31] [] rfl rfl rfl rfl ?_ wZ
  refine bn rfl ?_
  refine Tr.skip ?_
  refine hK4 _ ?_
  refine bG hcx [] _ [] rfl rfl rfl ?_ gg
  exact ⟨i+1,⟨⟨by omega,rF hi.2 hb⟩,O1⟩,LT,rfl⟩
 refine Tr.exit ?_
 refine hK2 _ ?_
 refine aa hcx [] _ [] rfl rfl rfl ?_ gg
 exact Tr.ret rG
theorem fh {p:Prop} (e:p:=by intro KZ hZ;simp -implicitDefEqProofs (disch:=first|omega| (simp only[go_sem,lA,lD,lT] <;>omega) |decide) only[go_sem,↓reduceIte,Nat.reduceEqDiff,reduceCtorEq,Nat.reduceLT,Nat.reduceBEq,Nat.reduceAdd,b3,b4,b5,hy];with_reducible exact hZ) :p:=e
theorem CV {p:Prop} (e:p:=by intro KZ hZ;simp -implicitDefEqProofs (disch:=first|omega| (simp only[go_sem,lA,lD,lT] <;>omega) |decide) only[go_sem,↓reduceIte,Nat.reduceEqDiff,reduceCtorEq,Nat.reduceLT,Nat.reduceBEq,Nat.reduceAdd,b3,b4,b5,hy];refine And.intro ?_ hZ;exact rfl) :p:=e
theorem n4 {p:Prop} (e:p:=by simp -implicitDefEqProofs (disch:=first|omega| (simp only[go_sem,lA,lD,lT] <;>omega) |decide) only[go_sem,↓reduceIte,Nat.reduceEqDiff,reduceCtorEq];all_goals (first| (rw[mz (Or.inl hc7)];done) | (rw[mz (Or.inr (wW hc11 (PF b3)))];done) | (rw[mz (Or.inr (wW hc11 (PG b4)))];done) | (rw[CS hno (y4 hi.1 b5 hc33)];done) | (rw[wX hno (wY hc33 hi.2.1 hi.2.2)];done))) :p:=e
theorem Y7 {gl:Nat→C} {M:Nat} {pu:Nat→List C→Option C} (hcx:CxOK (aO gl M pu)) (l:List ab) (hl:LB l) :FC Tryd.prog gl 16 [sl eC .no l] [] (.val (nI (cW l))) [] :=by
 replace hcx:=hcx.reN (M:=48)
 refine bZ (cx:=aO gl 48 pu) (rs:= [.tmp 2]) rfl Tryd.func16 rfl rfl rfl (by simp only[List.length_cons,List.length_nil];decide) (by simp only[go_sem]) ?_
 simp only[cO,go_sem]
 have b3:=True.intro
 have b4:=True.intro
 have b5:=True.intro
 have hy:=True.intro
 have hl1:=hl.1
 refine aa hcx [] _ [] rfl rfl rfl ?_ fh
 refine ae fun K1 hK1=> ?_
 refine aa hcx [] _ [] rfl rfl rfl ?_ fh
 refine bS rfl (fun hc7=> ?_) (fun hc7=> ?_)
 ·
  have b1:=hc7
  refine aa hcx [] _ [] rfl rfl rfl ?_ fh
  exact Tr.ret n4
 have b1:=hc7
 refine Tr.skip ?_
 refine hK1 _ ?_
 refine ae fun K2 hK2=> ?_
 refine aa hcx [] _ [] rfl rfl rfl ?_ fh
 refine Tr.k [0,3] ?_
 refine Tr.blk ?_
 refine cm (α:=Nat) (fun a=> [(0,?v0_1),(3,.val (nI a))]) (fun a=> ?h_1) (fun a=>a≤l.length∧(l.take a).any dv=false) (fun a=>l.length - a) (0) ⟨Nat.zero_le _,by rw[List.take_zero];rfl⟩ ?le_1 ?hh_1 ?bd_1
 case hh_1=>exact rfl
 case le_1=>exact LT
 rintro i hi
 refine ae fun K3 hK3=> ?_
 refine aa hcx [] _ [] rfl rfl rfl ?_ fh
 refine bS rfl (fun hc11=> ?_) (fun hc11=> ?_)
 ·
  have hlb:=hl.2 i hc11
  refine Tr.skip ?_
  refine hK3 _ ?_
  refine ae fun K4 hK4=> ?_
  refine Tr.blk ?_
  by_cases b3:65536< (gt l i).1.length
  ·
   refine aa hcx [] [some 14,some 15,some 16,some 17,some 18,some 19,some 20,some 21,some 22,some 23,some 24,some 25,some 26,some 27,some 28,some 29] [] rfl rfl rfl ?_ fh
   refine ct rfl ?_
   refine aa hcx [] _ [] rfl rfl rfl ?_ fh
   exact Tr.ret n4
  by_cases b4:65536< (gt l i).2.length
  ·
   refine aa hcx [] [some 14,some 15,some 16,some 17,some 18,some 19,some 20,some 21,some 22,some 23,some 24,some 25,some 26,some 27,some 28,some 29] [] rfl rfl rfl ?_ fh
   refine ct rfl ?_
   refine aa hcx [] _ [] rfl rfl rfl ?_ fh
   exact Tr.ret n4
  refine aa hcx [] [some 14,some 15,some 16,some 17,some 18,some 19,some 20,some 21,some 22,some 23,some 24,some 25,some 26,some 27,some 28,some 29] [] rfl rfl rfl ?_ fh
  refine bn rfl ?_
  refine Tr.skip ?_
  refine hK4 _ ?_
  refine bG hcx [1000013] _ [] rfl rfl rfl ?_ fh
  exact ⟨i+1,⟨⟨by omega,by rw[wV l i hc11,hi.2];simp[dv,b3,b4]⟩,O1⟩,LT,rfl⟩
 have hno: ¬ (4096< l.length∨l.any dv=true) :=fun h=>h.elim b1 (by rw[←List.take_of_length_le (show l.length≤i by omega),hi.2];simp)
 refine Tr.exit ?_
 refine hK2 _ ?_
 refine ae fun K5 hK5=> ?_
 refine aa hcx [] _ [] rfl rfl rfl ?_ fh
 refine Tr.k [0,4] ?_
 refine Tr.blk ?_
 refine cm (α:=Nat) (fun a=> [(0,?v0_2),(4,.val (nI a))]) (fun a=> ?h_2) (fun a=>0< a∧(a≤l.length∨a=1)∧(a≤l.length→fW l a=true)) (fun a=>l.length - a) (1) ⟨by omega,Or.inr rfl,fun _=>rfl⟩ ?le_2 ?hh_2 ?bd_2
 case hh_2=>exact rfl
 case le_2=>exact LT
 rintro i hi
 refine ae fun K6 hK6=> ?_
 refine aa hcx [] _ [] rfl rfl rfl ?_ fh
 refine bS rfl (fun hc33=> ?_) (fun hc33=> ?_)
 ·
  refine Tr.skip ?_
  refine hK6 _ ?_
  refine ae fun K7 hK7=> ?_
  refine Tr.blk ?_
  by_cases b5:bl (gt l (i - 1)).1 (gt l i).1=true
  ·
   skip
   refine bH hcx cK [] _ [] rfl rfl rfl rfl ?_ CV
   refine bn rfl ?_
   refine Tr.skip ?_
   refine hK7 _ ?_
   refine bG hcx [1000035] _ [] rfl rfl rfl ?_ fh
   exact ⟨i+1,⟨⟨by omega,by omega,fun _=>rF (hi.2.2 (by omega)) (Or.inr b5)⟩,O1⟩,LT,rfl⟩
  replace b5:=Bool.eq_false_iff.2 b5
  refine bH hcx cK [] _ [] rfl rfl rfl rfl ?_ CV
  refine ct rfl ?_
  refine aa hcx [] _ [] rfl rfl rfl ?_ fh
  exact Tr.ret n4
 refine Tr.exit ?_
 refine hK5 _ ?_
 refine aa hcx [] _ [] rfl rfl rfl ?_ fh
 exact Tr.ret n4
end Go.Sx
namespace Go.Sx
open Go.RowKit Go.Proofs
set_option maxRecDepth 100000
set_option maxHeartbeats 8000000
def bF (n:Int) (m:Nat) :Nat:= ((if n< 0 then -(n+1) else n).tmod (m:Int)).toNat
theorem rM (n:Int) (m:Nat) : (((bF n m:Nat) :Int)) = (if n< 0 then -(n+1) else n).tmod (m:Int) :=by
 unfold bF
 refine Int.toNat_of_nonneg (Int.tmod_nonneg _ ?_)
 split<;>omega
theorem ey (n:Int) {m:Nat} (h:0< m) :bF n m< m:=by
 have h1:=rM n m
 have h2:=Int.tmod_lt_of_pos (if n< 0 then -(n+1) else n) (b:= (m:Int)) (by omega)
 omega
def j4 (l:List Int) (i m:Nat) :Nat:=if l.length≤i then 0 else bF (gt l i) m
theorem rN (l:List Int) (i:Nat) {m:Nat} (h:0< m) :j4 l i m< m:=by
 unfold j4;split
 · exact h
 · exact ey _ h
def LI (l:List Int) :Prop:=l.length≤9223372036854775807∧∀i,i< l.length→ -9223372036854775808≤gt l i∧gt l i≤9223372036854775807
def eO (n:Nat) :List UInt8:=if n % 3=0 then [UInt8.ofNat (97+n / 3)] else [UInt8.ofNat (97+n / 3),UInt8.ofNat (97+n % 3)]
def vals5:List (List UInt8) := [[],[49],[50],[97,32,98],[49,50]]
def eu (l:List Int) :Nat→List ab×Nat
 |0=> ([],0)
 |i+1=> ((eu l i).1++[(eO ((eu l i).2+j4 l (2*i) 3),gt vals5 (j4 l (2*i+1) 5))],(eu l i).2+j4 l (2*i) 3+1)
def kC (l:List Int) :Nat:=min ((l.length+1) / 2) 11
def ib (l:List Int) :List ab:= (eu l (kC l)).1
theorem iZ (l:List Int) : ∀i,(eu l i).1.length=i
 |0=>rfl
 |i+1=>by simp[eu,iZ l i]
theorem tq (l:List Int) : ∀i,(eu l i).2≤3*i
 |0=>Nat.zero_le _
 |i+1=>by
  have h:=tq l i
  have h2:=rN l (2*i) (m:=3) (by omega)
  simp only[eu];omega
theorem w7 (n:Nat) :1≤(eO n).length∧(eO n).length≤2:=by unfold eO;split<;>simp
def lU (l:List ab) (n:Int) :List UInt8:=
 let k:=bF n (3*l.length+5)
 if k< l.length then (gt l k).1 else if k< 2*l.length then (gt l (k - l.length)).1++[97] else if k=2*l.length then [] else eO k
theorem Vd {l:List ab} {n:Int} {k:Nat} (hk:bF n (3*l.length+5) =k) (h:k< l.length) :lU l n= (gt l k).1:=by subst hk;exact if_pos h
theorem Ve {l:List ab} {n:Int} {k:Nat} (hk:bF n (3*l.length+5) =k) (h: ¬k< l.length) (h2:k< 2*l.length) :lU l n= (gt l (k - l.length)).1++[97] :=by subst hk;unfold lU;simp only[];rw[if_neg h,if_pos h2]
theorem Vf {l:List ab} {n:Int} {k:Nat} (hk:bF n (3*l.length+5) =k) (h2:k=2*l.length) :lU l n= [] :=by subst hk;unfold lU;simp only[];rw[if_neg (by omega),if_neg (by omega),if_pos h2]
theorem Vg {l:List ab} {n:Int} {k:Nat} (hk:bF n (3*l.length+5) =k) (h: ¬k< l.length) (h2: ¬k< 2*l.length) (h3: ¬k=2*l.length) :lU l n=eO k:=by subst hk;unfold lU;simp only[];rw[if_neg h,if_neg h2,if_neg h3]
theorem ld {x y:List UInt8} (h:x=y) : (some (C.val (str x))) =some (C.val (str y)) :=by rw[h]
theorem n6 {p:Prop} (e:p:=by intro KZ hZ;simp -implicitDefEqProofs (disch:=first|omega| (simp only[go_sem,lA,lD,lT] <;>omega) |decide) only[go_sem,↓reduceIte,Nat.reduceEqDiff,reduceCtorEq,Nat.reduceLT,Nat.reduceBEq,Nat.reduceAdd,hy];with_reducible exact hZ) :p:=e
theorem C3 {p:Prop} (e:p:=by simp -implicitDefEqProofs (disch:=first|omega| (simp only[go_sem,lA,lD,lT] <;>omega) |decide) only[go_sem,↓reduceIte,Nat.reduceEqDiff,reduceCtorEq];all_goals (exact congrArg (fun z=>some (C.val (.int .i64 z))) (by rw[rM];first| (rw[if_pos (by omega)];rfl) |rw[if_neg (by omega)]))) :p:=e
theorem Y9 {gl:Nat→C} {M:Nat} {pu:Nat→List C→Option C} (hcx:CxOK (aO gl M pu)) (n:Int) (m:Nat) (hn: -9223372036854775808≤n∧n≤9223372036854775807∧0< m∧m≤9223372036854775807) :FC Tryd.prog gl 17 [.val (.int .i64 n),.val (nI m)] [] (.val (nI (bF n m))) [] :=by
 replace hcx:=hcx.reN (M:=13)
 refine bZ (cx:=aO gl 13 pu) (rs:= [.tmp 4]) rfl Tryd.func17 rfl rfl rfl (by simp only[List.length_cons,List.length_nil];decide) (by simp only[go_sem]) ?_
 simp only[cO,go_sem]
 have hy:=True.intro
 refine aa hcx [] _ [] rfl rfl rfl ?_ n6
 refine ae fun K1 hK1=> ?_
 refine aa hcx [] _ [] rfl rfl rfl ?_ n6
 refine bS rfl (fun hc6=> ?_) (fun hc6=> ?_)
 ·
  refine bG hcx [1000009] _ [] rfl rfl rfl ?_ n6
  refine hK1 _ ?_
  refine aa hcx [1000012] _ [] rfl rfl rfl ?_ n6
  exact Tr.ret C3
 refine Tr.skip ?_
 refine hK1 _ ?_
 refine aa hcx [1000012] _ [] rfl rfl rfl ?_ n6
 exact Tr.ret C3
theorem rO {p:Prop} (e:p:=by intro KZ hZ;simp -implicitDefEqProofs (disch:=first|omega| (simp only[go_sem,lA,lD,lT] <;>omega) |decide) only[go_sem,↓reduceIte,Nat.reduceEqDiff,reduceCtorEq,Nat.reduceLT,Nat.reduceBEq,Nat.reduceAdd,h17,Nat.not_lt_zero,hy];with_reducible exact hZ) :p:=e
theorem C4 {p:Prop} (e:p:=by simp -implicitDefEqProofs (disch:=first|omega| (simp only[go_sem,lA,lD,lT] <;>omega) |decide) only[go_sem,↓reduceIte,Nat.reduceEqDiff,reduceCtorEq];all_goals (exact congrArg (fun z=>some (C.val (nI z))) (by unfold j4;first|rw[if_pos hc14] |rw[if_neg hc14]))) :p:=e
theorem Za {gl:Nat→C} {M:Nat} {pu:Nat→List C→Option C} (hcx:CxOK (aO gl M pu)) (h17: ∀ (n:Int) (m:Nat),-9223372036854775808≤n∧n≤9223372036854775807∧0< m∧m≤9223372036854775807→pu 17 [.val (.int .i64 n),.val (nI m)] =some (.val (nI (bF n m)))) (l:List Int) (i m:Nat) (hl:LI l) (hi:i≤1000000) (hm:0< m∧m≤9223372036854775807) :FC Tryd.prog gl 48 [sl iC .no l,.val (nI i),.val (nI m)] [] (.val (nI (j4 l i m))) [] :=by
 replace hcx:=hcx.reN (M:=21)
 refine bZ (cx:=aO gl 21 pu) (rs:= [.tmp 6]) rfl Tryd.func48 rfl rfl rfl (by simp only[List.length_cons,List.length_nil];decide) (by simp only[go_sem]) ?_
 simp only[cO,go_sem]
 have hy:=True.intro
 have hl1:=hl.1
 refine aa hcx [] _ [] rfl rfl rfl ?_ rO
 refine ae fun K1 hK1=> ?_
 refine aa hcx [] [some 7,some 8,some 9,some 10,some 11,some 12,some 13,some 14] [] rfl rfl rfl ?_ rO
 refine bS rfl (fun hc14=> ?_) (fun hc14=> ?_)
 ·
  refine aa hcx [] _ [] rfl rfl rfl ?_ rO
  exact Tr.ret C4
 have hb1:=hl.2 i (by omega)
 refine Tr.skip ?_
 refine hK1 _ ?_
 refine aa hcx [1000020] _ [] rfl rfl rfl ?_ rO
 exact Tr.ret C4
theorem rP {p:Prop} (e:p:=by intro KZ hZ;simp -implicitDefEqProofs (disch:=first|omega| (simp only[go_sem,lA,lD,lT] <;>omega) |decide) only[go_sem,↓reduceIte,Nat.reduceEqDiff,reduceCtorEq,Nat.reduceLT,Nat.reduceBEq,Nat.reduceAdd,hy];with_reducible exact hZ) :p:=e
theorem C5 {p:Prop} (e:p:=by simp -implicitDefEqProofs (disch:=first|omega| (simp only[go_sem,lA,lD,lT] <;>omega) |decide) only[go_sem,↓reduceIte,Nat.reduceEqDiff,reduceCtorEq];all_goals (exact ld (by unfold eO;first|rw[if_pos hc5] |rw[if_neg hc5] <;>rfl))) :p:=e
theorem Zb {gl:Nat→C} {M:Nat} {pu:Nat→List C→Option C} (hcx:CxOK (aO gl M pu)) (n:Nat) (hn:n≤1000000000000) :FC Tryd.prog gl 49 [.val (nI n)] [] (.val (str (eO n))) [] :=by
 replace hcx:=hcx.reN (M:=22)
 refine bZ (cx:=aO gl 22 pu) (rs:= [.tmp 2]) rfl Tryd.func49 rfl rfl rfl (by simp only[List.length_cons,List.length_nil];decide) (by simp only[go_sem]) ?_
 simp only[cO,go_sem]
 have hy:=True.intro
 refine aa hcx [] _ [] rfl rfl rfl ?_ rP
 refine ae fun K1 hK1=> ?_
 refine aa hcx [] _ [] rfl rfl rfl ?_ rP
 refine bS rfl (fun hc5=> ?_) (fun hc5=> ?_)
 ·
  refine aa hcx [1000011] _ [] rfl rfl rfl ?_ rP
  exact Tr.ret C5
 refine Tr.skip ?_
 refine hK1 _ ?_
 refine aa hcx [1000021] _ [] rfl rfl rfl ?_ rP
 exact Tr.ret C5
theorem mC {p:Prop} (e:p:=by intro KZ hZ;simp -implicitDefEqProofs (disch:=first|omega| (simp only[go_sem,lA,lD,lT] <;>omega) |decide) only[go_sem,↓reduceIte,Nat.reduceEqDiff,reduceCtorEq,Nat.reduceLT,Nat.reduceBEq,Nat.reduceAdd,hy];with_reducible exact hZ) :p:=e
theorem PU {p:Prop} (e:p:=by intro KZ hZ;simp -implicitDefEqProofs (disch:=first|omega| (simp only[go_sem,lA,lD,lT] <;>omega) |decide) only[go_sem,↓reduceIte,Nat.reduceEqDiff,reduceCtorEq,Nat.reduceLT,Nat.reduceBEq,Nat.reduceAdd,hy];refine And.intro ?_ hZ;exact rfl) :p:=e
theorem PV {p:Prop} (e:p:=by simp -implicitDefEqProofs (disch:=first|omega| (simp only[go_sem,lA,lD,lT] <;>omega) |decide) only[go_sem,↓reduceIte,Nat.reduceEqDiff,reduceCtorEq];all_goals (rw[List.take_length])) :p:=e
theorem Zc {gl:Nat→C} {M:Nat} {pu:Nat→List C→Option C} (hcx:CxOK (aO gl M pu)) (l:List ab) (hl:l.length≤1000000) :FC Tryd.prog gl 13 [sl eC .no l] [] (sl eC (.own 2) l) [] :=by
 replace hcx:=hcx.reN (M:=26)
 refine bZ (cx:=aO gl 26 pu) (rs:= [.tmp 2]) rfl Tryd.func13 rfl rfl rfl (by simp only[List.length_cons,List.length_nil];decide) (by simp only[go_sem]) ?_
 simp only[cO,go_sem]
 have hy:=True.intro
 refine aa hcx [] _ [] rfl rfl rfl ?_ mC
 refine aa hcx [] _ [] rfl rfl rfl ?_ mC
 refine ae fun K1 hK1=> ?_
 refine aa hcx [] _ [] rfl rfl rfl ?_ mC
 refine Tr.k [0,3,4] ?_
 refine Tr.blk ?_
 refine cm (α:=Nat) (fun a=> [(0,?v0_1),(3,sl eC (.own 2) (l.take a)),(4,.val (nI a))]) (fun a=> ?h_1) (fun a=>a≤l.length) (fun a=>l.length - a) (0) (Nat.zero_le _) ?le_1 ?hh_1 ?bd_1
 case hh_1=>exact rfl
 case le_1=>exact LT
 rintro i hi
 refine ae fun K2 hK2=> ?_
 refine aa hcx [] _ [] rfl rfl rfl ?_ mC
 refine bS rfl (fun hc8=> ?_) (fun hc8=> ?_)
 ·
  refine Tr.skip ?_
  refine hK2 _ ?_
  refine ae fun K3 hK3=> ?_
  refine Tr.blk ?_
  refine gK hcx cK [11,1000024] _ [] rfl rfl rfl rfl ?_ PU
  refine hK3 _ ?_
  refine bG hcx [1000010] _ [] rfl rfl rfl ?_ mC
  refine ⟨i+1,⟨by omega,O1⟩,?_,rfl⟩
  (simp only[bE,aP,↓bD,↓reduceIte,Nat.reduceEqDiff,aE,aQ,aF,aR,aS,and_true,true_and];all_goals (repeat' first|exact CLe.refl _|exact True.intro| (refine bR ?_;first|rfl| (simp only[List.take_zero];done)) |exact cH (by omega) |exact b9 (by omega) |exact cu (by omega) |exact cw (by omega) |with_reducible apply And.intro))
  all_goals (refine dL ?_;rw[←ua l i hc8])
 obtain rfl:i=l.length:=by omega
 refine Tr.exit ?_
 refine hK1 _ ?_
 refine aa hcx [1000025] _ [] rfl rfl rfl ?_ mC
 exact Tr.ret PV
theorem mD {p:Prop} (e:p:=by intro KZ hZ;simp -implicitDefEqProofs (disch:=first|omega| (simp only[go_sem,lA,lD,lT] <;>omega) |decide) only[go_sem,↓reduceIte,Nat.reduceEqDiff,reduceCtorEq,Nat.reduceLT,Nat.reduceBEq,Nat.reduceAdd,hy];with_reducible exact hZ) :p:=e
theorem PW {p:Prop} (e:p:=by intro KZ hZ;simp -implicitDefEqProofs (disch:=first|omega| (simp only[go_sem,lA,lD,lT] <;>omega) |decide) only[go_sem,↓reduceIte,Nat.reduceEqDiff,reduceCtorEq,Nat.reduceLT,Nat.reduceBEq,Nat.reduceAdd,hy];refine And.intro ?_ hZ;exact rfl) :p:=e
theorem PX {p:Prop} (e:p:=by simp -implicitDefEqProofs (disch:=first|omega| (simp only[go_sem,lA,lD,lT] <;>omega) |decide) only[go_sem,↓reduceIte,Nat.reduceEqDiff,reduceCtorEq];all_goals (rw[List.take_length])) :p:=e
theorem Zd {gl:Nat→C} {M:Nat} {pu:Nat→List C→Option C} (hcx:CxOK (aO gl M pu)) (l:List ab) (hl:l.length≤1000000) :FC Tryd.prog gl 18 [sl eC .no l] [] (sl eC (.own 2) l) [] :=by
 replace hcx:=hcx.reN (M:=26)
 refine bZ (cx:=aO gl 26 pu) (rs:= [.tmp 2]) rfl Tryd.func18 rfl rfl rfl (by simp only[List.length_cons,List.length_nil];decide) (by simp only[go_sem]) ?_
 simp only[cO,go_sem]
 have hy:=True.intro
 refine aa hcx [] _ [] rfl rfl rfl ?_ mD
 refine aa hcx [] _ [] rfl rfl rfl ?_ mD
 refine ae fun K1 hK1=> ?_
 refine aa hcx [] _ [] rfl rfl rfl ?_ mD
 refine Tr.k [0,3,4] ?_
 refine Tr.blk ?_
 refine cm (α:=Nat) (fun a=> [(0,?v0_1),(3,sl eC (.own 2) (l.take a)),(4,.val (nI a))]) (fun a=> ?h_1) (fun a=>a≤l.length) (fun a=>l.length - a) (0) (Nat.zero_le _) ?le_1 ?hh_1 ?bd_1
 case hh_1=>exact rfl
 case le_1=>exact LT
 rintro i hi
 refine ae fun K2 hK2=> ?_
 refine aa hcx [] _ [] rfl rfl rfl ?_ mD
 refine bS rfl (fun hc8=> ?_) (fun hc8=> ?_)
 ·
  refine Tr.skip ?_
  refine hK2 _ ?_
  refine ae fun K3 hK3=> ?_
  refine Tr.blk ?_
  refine gK hcx cK [11,1000024] _ [] rfl rfl rfl rfl ?_ PW
  refine hK3 _ ?_
  refine bG hcx [1000010] _ [] rfl rfl rfl ?_ mD
  refine ⟨i+1,⟨by omega,O1⟩,?_,rfl⟩
  (simp only[bE,aP,↓bD,↓reduceIte,Nat.reduceEqDiff,aE,aQ,aF,aR,aS,and_true,true_and];all_goals (repeat' first|exact CLe.refl _|exact True.intro| (refine bR ?_;first|rfl| (simp only[List.take_zero];done)) |exact cH (by omega) |exact b9 (by omega) |exact cu (by omega) |exact cw (by omega) |with_reducible apply And.intro))
  all_goals (refine dL ?_;rw[←ua l i hc8])
 obtain rfl:i=l.length:=by omega
 refine Tr.exit ?_
 refine hK1 _ ?_
 refine aa hcx [1000025] _ [] rfl rfl rfl ?_ mD
 exact Tr.ret PX
end Go.Sx
namespace Go.Sx
open Go.RowKit Go.Proofs
set_option maxRecDepth 100000
set_option maxHeartbeats 8000000
def fN (l:List ab) (k:List UInt8) (i:Nat) :Nat:= ((l.take i).filter fun x=>bl x.1 k).length
def bu (l:List ab) (k:List UInt8) :Nat:=fN l k l.length
theorem rU {l:List ab} {k:List UInt8} {i:Nat} (h:i< l.length) (hb:bl (gt l i).1 k=true) :fN l k (i+1) =fN l k i+1:=by
 unfold fN;rw[dO l i h,List.filter_append];simp[hb]
theorem rV {l:List ab} {k:List UInt8} {i:Nat} (h:i< l.length) (hb:bl (gt l i).1 k=false) :fN l k (i+1) =fN l k i:=by
 unfold fN;rw[dO l i h,List.filter_append];simp[hb]
theorem FX (l:List ab) (k:List UInt8) (i:Nat) :fN l k i≤i:=by
 unfold fN
 have h1:=List.length_filter_le (fun x:ab=>bl x.1 k) (l.take i)
 have h2:=List.length_take_le i l
 omega
def lf (l:List ab) (k:List UInt8) :Option Nat:=l.findIdx? fun x=>decide (x.1=k)
def g6 (l:List ab) (k:List UInt8) :Int:= ((lf l k).map fun n=> ((n:Nat) :Int)).getD (-1)
theorem WB {l:List ab} {k:List UInt8} {i:Nat} (h:i< l.length) (h0: ∀j< i,(gt l j).1≠k) (hb: (gt l i).1=k) :lf l k=some i:=by
 have e: ∀j (hj:j< l.length),gt l j=l[j] :=fun j hj=>by simp[gt,List.getD,List.getElem?_eq_getElem hj]
 unfold lf
 rw[List.findIdx?_eq_some_iff_getElem]
 refine ⟨h,by rw[←e i h];simp[hb],fun j hj=> ?_⟩
 rw[←e j (by omega)];simp[h0 j hj]
theorem WC {l:List ab} {k:List UInt8} (h0: ∀j< l.length,(gt l j).1≠k) :lf l k=none:=by
 have e: ∀j (hj:j< l.length),gt l j=l[j] :=fun j hj=>by simp[gt,List.getD,List.getElem?_eq_getElem hj]
 unfold lf
 rw[List.findIdx?_eq_none_iff]
 intro x hx
 obtain ⟨j,hj,rfl⟩ :=List.mem_iff_getElem.1 hx
 rw[←e j hj];simp[h0 j hj]
theorem RO {l:List ab} {k:List UInt8} {i:Nat} (h:i< l.length) (h0: ∀j< i,(gt l j).1≠k) (hb: (gt l i).1=k) :C.val (nI i) =C.val (.int .i64 (g6 l k)) :=by unfold g6;rw[WB h h0 hb];rfl
theorem RP {l:List ab} {k:List UInt8} (h0: ∀j< l.length,(gt l j).1≠k) :C.val (.int .i64 (-1)) =C.val (.int .i64 (g6 l k)) :=by unfold g6;rw[WC h0];rfl
theorem aaz {l:List ab} {k:List UInt8} {i:Nat} (h: ∀j< i,(gt l j).1≠k) (hb: ¬ (gt l i).1=k) : ∀j< i+1,(gt l j).1≠k:=fun j hj=>by
 by_cases e:j=i
 · rw[e];exact hb
 · exact h j (by omega)
def ic (l:List ab) (a b:List UInt8) (i:Nat) :List ab:= (l.take i).filter fun x=> !bl x.1 a && bl x.1 b
theorem v7 {l:List ab} {a b:List UInt8} {i:Nat} (h:i< l.length) (h1:bl (gt l i).1 a=false) (h2:bl (gt l i).1 b=true) :ic l a b i++[gt l i] =ic l a b (i+1) :=by
 unfold ic;rw[dO l i h,List.filter_append];simp[h1,h2]
theorem lV {l:List ab} {a b:List UInt8} {i:Nat} (h:i< l.length) (h1:bl (gt l i).1 a=true∨bl (gt l i).1 b=false) :ic l a b i=ic l a b (i+1) :=by
 unfold ic;rw[dO l i h,List.filter_append];rcases h1 with h1|h1<;>simp[h1]
theorem y5 (l:List ab) (a b:List UInt8) (i:Nat) : (ic l a b i).length≤i:=by
 have h1:=List.length_filter_le (fun x:ab=> !bl x.1 a && bl x.1 b) (l.take i)
 have h2:=List.length_take_le i l
 unfold ic;omega
theorem RQ {x y:ab} (h: ¬x.1=y.1) : ¬x=y:=fun e=>h (by rw[e])
theorem RR {x y:ab} (h: ¬x.2=y.2) : ¬x=y:=fun e=>h (by rw[e])
theorem WD {x y:ab} (h:x.1=y.1) (h2:x.2=y.2) :x=y:=Prod.ext h h2
theorem RS {l:List Int} {i:Nat} (h1:2*i< l.length) (h2:i< 11) :i< kC l:=by unfold kC;omega
theorem Dg {l:List Int} {i:Nat} (h:i≤kC l) (h1: ¬ (2*i< l.length∧i< 11)) :i=kC l:=by unfold kC at h ⊢;omega
theorem tB (l:List Int) :kC l≤11:=by unfold kC;omega
theorem Lv:sl sC .full ((((((List.replicate 5 ([] :List UInt8)).set 0 []).set 1 [49]).set 2 [50]).set 3 [97,32,98]).set 4 [49,50]) =sl sC .full vals5:=rfl
theorem y6:vals5.length=5:=rfl
theorem iV {p:Prop} (e:p:=by intro KZ hZ;simp -implicitDefEqProofs (disch:=first|omega| (simp only[go_sem,lA,lD,lT,hle] <;>omega) |decide) only[go_sem,↓reduceIte,Nat.reduceEqDiff,reduceCtorEq,Nat.reduceLT,Nat.reduceBEq,Nat.reduceAdd,b1,hy];with_reducible exact hZ) :p:=e
theorem RT {p:Prop} (e:p:=by simp -implicitDefEqProofs (disch:=first|omega| (simp only[go_sem,lA,lD,lT,hle] <;>omega) |decide) only[go_sem,↓reduceIte,Nat.reduceEqDiff,reduceCtorEq];all_goals (rfl)) :p:=e
theorem aaA {gl:Nat→C} {M:Nat} {pu:Nat→List C→Option C} (hcx:CxOK (aO gl M pu)) (l:List ab) (k:List UInt8) (hl:l.length≤1000000) :FC Tryd.prog gl 58 [sl eC .no l,.val (str k)] [] (.val (nI (bu l k))) [] :=by
 replace hcx:=hcx.reN (M:=23)
 refine bZ (cx:=aO gl 23 pu) (rs:= [.tmp 4]) rfl Tryd.func58 rfl rfl rfl (by simp only[List.length_cons,List.length_nil];decide) (by simp only[go_sem]) ?_
 simp only[cO,go_sem]
 have b1:=True.intro
 have hy:=True.intro
 have hle:=FX l k
 refine aa hcx [] _ [] rfl rfl rfl ?_ iV
 refine aa hcx [] _ [] rfl rfl rfl ?_ iV
 refine ae fun K1 hK1=> ?_
 refine aa hcx [] _ [] rfl rfl rfl ?_ iV
 refine Tr.k [0,1,5,6] ?_
 refine Tr.blk ?_
 refine cm (α:=Nat) (fun a=> [(0,?v0_1),(1,?v1_1),(5,.val (nI (fN l k a))),(6,.val (nI a))]) (fun a=> ?h_1) (fun a=>a≤l.length) (fun a=>l.length - a) (0) (Nat.zero_le _) ?le_1 ?hh_1 ?bd_1
 case hh_1=>exact rfl
 case le_1=>exact LT
 rintro i hi
 refine ae fun K2 hK2=> ?_
 refine aa hcx [] _ [] rfl rfl rfl ?_ iV
 refine bS rfl (fun hc10=> ?_) (fun hc10=> ?_)
 ·
  have hli:=hle i
  refine Tr.skip ?_
  refine hK2 _ ?_
  refine ae fun K3 hK3=> ?_
  refine Tr.blk ?_
  by_cases b1:bl (gt l i).1 k=true
  ·
   have hb:=b1
   refine aa hcx [] _ [] rfl rfl rfl ?_ iV
   refine ct rfl ?_
   refine bG hcx [1000021] _ [] rfl rfl rfl ?_ iV
   refine hK3 _ ?_
   refine bG hcx [1000012] _ [] rfl rfl rfl ?_ iV
   refine ⟨i+1,⟨by omega,O1⟩,?_,rfl⟩
   (simp only[bE,aP,↓bD,↓reduceIte,Nat.reduceEqDiff,aE,aQ,aF,aR,aS,and_true,true_and];all_goals (repeat' first|exact CLe.refl _|exact True.intro| (refine bR ?_;first|rfl| (simp only[List.take_zero];done)) |exact cH (by omega) |exact b9 (by omega) |exact cu (by omega) |exact cw (by omega) |with_reducible apply And.intro))
   all_goals (refine cH ?_;first| (rw[rU hc10 hb];done) | (rw[rV hc10 hb];done))
  replace b1:=Bool.eq_false_iff.2 b1
  have hb:=b1
  refine aa hcx [] _ [] rfl rfl rfl ?_ iV
  refine bn rfl ?_
  refine Tr.skip ?_
  refine hK3 _ ?_
  refine bG hcx [1000012] _ [] rfl rfl rfl ?_ iV
  refine ⟨i+1,⟨by omega,O1⟩,?_,rfl⟩
  (simp only[bE,aP,↓bD,↓reduceIte,Nat.reduceEqDiff,aE,aQ,aF,aR,aS,and_true,true_and];all_goals (repeat' first|exact CLe.refl _|exact True.intro| (refine bR ?_;first|rfl| (simp only[List.take_zero];done)) |exact cH (by omega) |exact b9 (by omega) |exact cu (by omega) |exact cw (by omega) |with_reducible apply And.intro))
  all_goals (refine cH ?_;first| (rw[rU hc10 hb];done) | (rw[rV hc10 hb];done))
 obtain rfl:i=l.length:=by omega
 refine Tr.exit ?_
 refine hK1 _ ?_
 refine aa hcx [1000022] _ [] rfl rfl rfl ?_ iV
 exact Tr.ret RT
theorem lg {p:Prop} (e:p:=by intro KZ hZ;simp -implicitDefEqProofs (disch:=first|omega| (simp only[go_sem,lA,lD,lT] <;>omega) |decide) only[go_sem,↓reduceIte,Nat.reduceEqDiff,reduceCtorEq,Nat.reduceLT,Nat.reduceBEq,Nat.reduceAdd,hy];with_reducible exact hZ) :p:=e
theorem Dh {p:Prop} (e:p:=by simp -implicitDefEqProofs (disch:=first|omega| (simp only[go_sem,lA,lD,lT] <;>omega) |decide) only[go_sem,↓reduceIte,Nat.reduceEqDiff,reduceCtorEq];all_goals (first|exact congrArg some (RO hc9 hi.2 hc18) |exact congrArg some (RP fun j hj=>hi.2 j (by omega)))) :p:=e
theorem aaB {gl:Nat→C} {M:Nat} {pu:Nat→List C→Option C} (hcx:CxOK (aO gl M pu)) (l:List ab) (k:List UInt8) (hl:l.length≤1000000) :FC Tryd.prog gl 35 [sl eC .no l,.val (str k)] [] (.val (.int .i64 (g6 l k))) [] :=by
 replace hcx:=hcx.reN (M:=20)
 refine bZ (cx:=aO gl 20 pu) (rs:= [.tmp 4]) rfl Tryd.func35 rfl rfl rfl (by simp only[List.length_cons,List.length_nil];decide) (by simp only[go_sem]) ?_
 simp only[cO,go_sem]
 have hy:=True.intro
 refine aa hcx [] _ [] rfl rfl rfl ?_ lg
 refine ae fun K1 hK1=> ?_
 refine aa hcx [] _ [] rfl rfl rfl ?_ lg
 refine Tr.k [0,1,5] ?_
 refine Tr.blk ?_
 refine cm (α:=Nat) (fun a=> [(0,?v0_1),(1,?v1_1),(5,.val (nI a))]) (fun a=> ?h_1) (fun a=>a≤l.length∧∀j< a,(gt l j).1≠k) (fun a=>l.length - a) (0) ⟨Nat.zero_le _,fun j hj=>absurd hj (Nat.not_lt_zero j)⟩ ?le_1 ?hh_1 ?bd_1
 case hh_1=>exact rfl
 case le_1=>exact LT
 rintro i hi
 refine ae fun K2 hK2=> ?_
 refine aa hcx [] _ [] rfl rfl rfl ?_ lg
 refine bS rfl (fun hc9=> ?_) (fun hc9=> ?_)
 ·
  refine Tr.skip ?_
  refine hK2 _ ?_
  refine ae fun K3 hK3=> ?_
  refine Tr.blk ?_
  refine aa hcx [] _ [] rfl rfl rfl ?_ lg
  refine bS rfl (fun hc18=> ?_) (fun hc18=> ?_)
  ·
   refine aa hcx [1000019] _ [] rfl rfl rfl ?_ lg
   exact Tr.ret Dh
  refine Tr.skip ?_
  refine hK3 _ ?_
  refine bG hcx [1000011] _ [] rfl rfl rfl ?_ lg
  exact ⟨i+1,⟨⟨by omega,aaz hi.2 hc18⟩,O1⟩,LT,rfl⟩
 refine Tr.exit ?_
 refine hK1 _ ?_
 refine aa hcx [] _ [] rfl rfl rfl ?_ lg
 exact Tr.ret Dh
theorem jo {p:Prop} (e:p:=by intro KZ hZ;simp -implicitDefEqProofs (disch:=first|omega| (simp only[go_sem,lA,lD,lT] <;>omega) |decide) only[go_sem,↓reduceIte,Nat.reduceEqDiff,reduceCtorEq,Nat.reduceLT,Nat.reduceBEq,Nat.reduceAdd,eq_self,decide_true,decide_false,not_true_eq_false,not_false_eq_true,b1,b2,hy];with_reducible exact hZ) :p:=e
theorem xf {p:Prop} (e:p:=by intro KZ hZ;simp -implicitDefEqProofs (disch:=first|omega| (simp only[go_sem,lA,lD,lT] <;>omega) |decide) only[go_sem,↓reduceIte,Nat.reduceEqDiff,reduceCtorEq,Nat.reduceLT,Nat.reduceBEq,Nat.reduceAdd,eq_self,decide_true,decide_false,not_true_eq_false,not_false_eq_true,b1,b2,hy];with_reducible refine And.intro ?_ hZ;first|exact rfl|decide) :p:=e
theorem rW {p:Prop} (e:p:=by simp -implicitDefEqProofs (disch:=first|omega| (simp only[go_sem,lA,lD,lT] <;>omega) |decide) only[go_sem,↓reduceIte,Nat.reduceEqDiff,reduceCtorEq];all_goals (first| (rw[On hc10];done) | (rw[FE (i:=i) (RQ b1)];done) | (rw[FE (i:=i) (RR b2)];done) | (rw[Uy hc14 hq hi.2];done))) :p:=e
theorem aaC {gl:Nat→C} {M:Nat} {pu:Nat→List C→Option C} (hcx:CxOK (aO gl M pu)) (x y:List ab) (hx:x.length≤1000000) (hy0:y.length≤1000000) :FC Tryd.prog gl 34 [sl eC .no x,sl eC .no y] [] (.val (.bool (decide (x=y)))) [] :=by
 replace hcx:=hcx.reN (M:=41)
 refine bZ (cx:=aO gl 41 pu) (rs:= [.tmp 4]) rfl Tryd.func34 rfl rfl rfl (by simp only[List.length_cons,List.length_nil];decide) (by simp only[go_sem]) ?_
 simp only[cO,go_sem]
 have b1:=True.intro
 have b2:=True.intro
 have hy:=True.intro
 refine aa hcx [] _ [] rfl rfl rfl ?_ jo
 refine ae fun K1 hK1=> ?_
 refine aa hcx [] _ [] rfl rfl rfl ?_ jo
 refine bS rfl (fun hc10=> ?_) (fun hc10=> ?_)
 ·
  refine aa hcx [] _ [] rfl rfl rfl ?_ jo
  exact Tr.ret rW
 have hq:x.length=y.length:=by omega
 refine Tr.skip ?_
 refine hK1 _ ?_
 refine ae fun K2 hK2=> ?_
 refine aa hcx [] _ [] rfl rfl rfl ?_ jo
 refine Tr.k [0,1,5] ?_
 refine Tr.blk ?_
 refine cm (α:=Nat) (fun a=> [(0,?v0_1),(1,?v1_1),(5,.val (nI a))]) (fun a=> ?h_1) (fun a=>a≤x.length∧x.take a=y.take a) (fun a=>x.length - a) (0) ⟨Nat.zero_le _,rfl⟩ ?le_1 ?hh_1 ?bd_1
 case hh_1=>exact rfl
 case le_1=>exact LT
 rintro i hi
 refine ae fun K3 hK3=> ?_
 refine aa hcx [] _ [] rfl rfl rfl ?_ jo
 refine bS rfl (fun hc14=> ?_) (fun hc14=> ?_)
 ·
  refine Tr.skip ?_
  refine hK3 _ ?_
  refine Tr.k [0,1,5] ?_
  refine ae fun K4 hK4=> ?_
  refine Tr.blk ?_
  by_cases b1: (gt x i).1= (gt y i).1
  ·
   by_cases b2: (gt x i).2= (gt y i).2
   ·
    refine bH hcx cK [] [some 17,some 18,some 19,some 20,some 21,some 22,some 23,some 24,some 25,some 26,some 27,some 28,some 29,some 30,some 31,some 32,some 33,some 34,some 35,some 36,some 37,some 38,some 39,some 40] [] rfl rfl rfl rfl ?_ xf
    refine Tr.k [0,1,5,40] ?_
    refine bn rfl ?_
    refine Tr.skip ?_
    refine hK4 _ ?_
    refine bG hcx [1000016] _ [] rfl rfl rfl ?_ jo
    exact ⟨i+1,⟨⟨by omega,B4 hc14 hq hi.2 (WD b1 b2)⟩,O1⟩,LT,rfl⟩
   refine bH hcx cK [] [some 17,some 18,some 19,some 20,some 21,some 22,some 23,some 24,some 25,some 26,some 27,some 28,some 29,some 30,some 31,some 32,some 33,some 34,some 35,some 36,some 37,some 38,some 39,some 40] [] rfl rfl rfl rfl ?_ xf
   refine Tr.k [0,1,5,40] ?_
   refine ct rfl ?_
   refine aa hcx [] _ [] rfl rfl rfl ?_ jo
   exact Tr.ret rW
  refine bH hcx cK [] [some 17,some 18,some 19,some 20,some 21,some 22,some 23,some 24,some 25,some 26,some 27,some 28,some 29,some 30,some 31,some 32,some 33,some 34,some 35,some 36,some 37,some 38,some 39,some 40] [] rfl rfl rfl rfl ?_ xf
  refine Tr.k [0,1,5,40] ?_
  refine ct rfl ?_
  refine aa hcx [] _ [] rfl rfl rfl ?_ jo
  exact Tr.ret rW
 refine Tr.exit ?_
 refine hK2 _ ?_
 refine aa hcx [] _ [] rfl rfl rfl ?_ jo
 exact Tr.ret rW
theorem gQ {p:Prop} (e:p:=by intro KZ hZ;simp -implicitDefEqProofs (disch:=first|omega| (simp only[go_sem,lA,lD,lT,hle] <;>omega) |decide) only[go_sem,↓reduceIte,Nat.reduceEqDiff,reduceCtorEq,Nat.reduceLT,Nat.reduceBEq,Nat.reduceAdd,b1,b2,hy];with_reducible exact hZ) :p:=e
theorem RU {p:Prop} (e:p:=by simp -implicitDefEqProofs (disch:=first|omega| (simp only[go_sem,lA,lD,lT,hle] <;>omega) |decide) only[go_sem,↓reduceIte,Nat.reduceEqDiff,reduceCtorEq];all_goals (rfl)) :p:=e
theorem aaD {gl:Nat→C} {M:Nat} {pu:Nat→List C→Option C} (hcx:CxOK (aO gl M pu)) (l:List ab) (x y:List UInt8) (hl:l.length≤1000000) :FC Tryd.prog gl 36 [sl eC .no l,.val (str x),.val (str y)] [] (sl eC (.own 2) (ic l x y l.length)) [] :=by
 replace hcx:=hcx.reN (M:=39)
 refine bZ (cx:=aO gl 39 pu) (rs:= [.tmp 6]) rfl Tryd.func36 rfl rfl rfl (by simp only[List.length_cons,List.length_nil];decide) (by simp only[go_sem]) ?_
 simp only[cO,go_sem]
 have b1:=True.intro
 have b2:=True.intro
 have hy:=True.intro
 have hle:=y5 l x y
 refine aa hcx [] _ [] rfl rfl rfl ?_ gQ
 refine aa hcx [] _ [] rfl rfl rfl ?_ gQ
 refine ae fun K1 hK1=> ?_
 refine aa hcx [] _ [] rfl rfl rfl ?_ gQ
 refine Tr.k [0,1,2,7,8] ?_
 refine Tr.blk ?_
 refine cm (α:=Nat) (fun a=> [(0,?v0_1),(1,?v1_1),(2,?v2_1),(7,sl eC (.own 2) (ic l x y a)),(8,.val (nI a))]) (fun a=> ?h_1) (fun a=>a≤l.length) (fun a=>l.length - a) (0) (Nat.zero_le _) ?le_1 ?hh_1 ?bd_1
 case hh_1=>exact rfl
 case le_1=>exact LT
 rintro i hi
 refine ae fun K2 hK2=> ?_
 refine aa hcx [] _ [] rfl rfl rfl ?_ gQ
 refine bS rfl (fun hc12=> ?_) (fun hc12=> ?_)
 ·
  have hli:=hle i
  refine Tr.skip ?_
  refine hK2 _ ?_
  refine ae fun K3 hK3=> ?_
  refine Tr.blk ?_
  by_cases b1:bl (gt l i).1 x=true
  ·
   skip
   refine aa hcx [] [some 15,some 16,some 17,some 18,some 19,some 20,some 21,some 22,some 23,some 24,some 25,some 26,some 27,some 28,some 29,some 30] [] rfl rfl rfl ?_ gQ
   refine bn rfl ?_
   refine Tr.skip ?_
   refine hK3 _ ?_
   refine Tr.k [0,1,2,7,8] ?_
   refine bG hcx [1000014] _ [] rfl rfl rfl ?_ gQ
   refine ⟨i+1,⟨by omega,O1⟩,?_,rfl⟩
   (simp only[bE,aP,↓bD,↓reduceIte,Nat.reduceEqDiff,aE,aQ,aF,aR,aS,and_true,true_and];all_goals (repeat' first|exact CLe.refl _|exact True.intro| (refine bR ?_;first|rfl| (simp only[List.take_zero];done)) |exact cH (by omega) |exact b9 (by omega) |exact cu (by omega) |exact cw (by omega) |with_reducible apply And.intro))
   all_goals (refine dL ?_;first|exact v7 hc12 b1 b2|exact lV hc12 (Or.inl b1) |exact lV hc12 (Or.inr b2))
  replace b1:=Bool.eq_false_iff.2 b1
  by_cases b2:bl (gt l i).1 y=true
  ·
   skip
   refine aa hcx [] [some 15,some 16,some 17,some 18,some 19,some 20,some 21,some 22,some 23,some 24,some 25,some 26,some 27,some 28,some 29,some 30] [] rfl rfl rfl ?_ gQ
   refine ct rfl ?_
   refine bG hcx [31,1000037] _ [] rfl rfl rfl ?_ gQ
   refine hK3 _ ?_
   refine Tr.k [0,1,2,7,8] ?_
   refine bG hcx [1000014] _ [] rfl rfl rfl ?_ gQ
   refine ⟨i+1,⟨by omega,O1⟩,?_,rfl⟩
   (simp only[bE,aP,↓bD,↓reduceIte,Nat.reduceEqDiff,aE,aQ,aF,aR,aS,and_true,true_and];all_goals (repeat' first|exact CLe.refl _|exact True.intro| (refine bR ?_;first|rfl| (simp only[List.take_zero];done)) |exact cH (by omega) |exact b9 (by omega) |exact cu (by omega) |exact cw (by omega) |with_reducible apply And.intro))
   all_goals (refine dL ?_;first|exact v7 hc12 b1 b2|exact lV hc12 (Or.inl b1) |exact lV hc12 (Or.inr b2))
  replace b2:=Bool.eq_false_iff.2 b2
  refine aa hcx [] [some 15,some 16,some 17,some 18,some 19,some 20,some 21,some 22,some 23,some 24,some 25,some 26,some 27,some 28,some 29,some 30] [] rfl rfl rfl ?_ gQ
  refine bn rfl ?_
  refine Tr.skip ?_
  refine hK3 _ ?_
  refine Tr.k [0,1,2,7,8] ?_
  refine bG hcx [1000014] _ [] rfl rfl rfl ?_ gQ
  refine ⟨i+1,⟨by omega,O1⟩,?_,rfl⟩
  (simp only[bE,aP,↓bD,↓reduceIte,Nat.reduceEqDiff,aE,aQ,aF,aR,aS,and_true,true_and];all_goals (repeat' first|exact CLe.refl _|exact True.intro| (refine bR ?_;first|rfl| (simp only[List.take_zero];done)) |exact cH (by omega) |exact b9 (by omega) |exact cu (by omega) |exact cw (by omega) |with_reducible apply And.intro))
  all_goals (refine dL ?_;first|exact v7 hc12 b1 b2|exact lV hc12 (Or.inl b1) |exact lV hc12 (Or.inr b2))
 obtain rfl:i=l.length:=by omega
 refine Tr.exit ?_
 refine hK1 _ ?_
 refine aa hcx [1000038] _ [] rfl rfl rfl ?_ gQ
 exact Tr.ret RU
theorem jp {p:Prop} (e:p:=by intro KZ hZ;simp -implicitDefEqProofs (disch:=first|omega| (simp only[go_sem,lA,lD,lT] <;>omega) |decide) only[go_sem,↓reduceIte,Nat.reduceEqDiff,reduceCtorEq,Nat.reduceLT,Nat.reduceBEq,Nat.reduceAdd,e17,hy];with_reducible exact hZ) :p:=e
theorem rX {p:Prop} (e:p:=by simp -implicitDefEqProofs (disch:=first|omega| (simp only[go_sem,lA,lD,lT] <;>omega) |decide) only[go_sem,↓reduceIte,Nat.reduceEqDiff,reduceCtorEq];all_goals (first|exact ld (Vd hk0 hc15).symm|exact ld (Ve hk0 hc15 hc25).symm|exact ld (Vf hk0 hc39).symm|exact ld (Vg hk0 hc15 hc25 hc39).symm)) :p:=e
theorem aaE {gl:Nat→C} {M:Nat} {pu:Nat→List C→Option C} (hcx:CxOK (aO gl M pu)) (h17: ∀ (n:Int) (m:Nat),-9223372036854775808≤n∧n≤9223372036854775807∧0< m∧m≤9223372036854775807→pu 17 [.val (.int .i64 n),.val (nI m)] =some (.val (nI (bF n m)))) (h49: ∀n:Nat,n≤1000000000000→pu 49 [.val (nI n)] =some (.val (str (eO n)))) (l:List ab) (n:Int) (hl:l.length≤1000000) (hk: ∀i,i< l.length→(gt l i).1.length< 1000000) (hn: -9223372036854775808≤n∧n≤9223372036854775807) :FC Tryd.prog gl 20 [sl eC .no l,.val (.int .i64 n)] [] (.val (str (lU l n))) [] :=by
 replace hcx:=hcx.reN (M:=42)
 refine bZ (cx:=aO gl 42 pu) (rs:= [.tmp 4]) rfl Tryd.func20 rfl rfl rfl (by simp only[List.length_cons,List.length_nil];decide) (by simp only[go_sem]) ?_
 simp only[cO,go_sem]
 have hy:=True.intro
 have e17:pu 17 [.val (.int .i64 n),.val (nI (3*l.length+5))] =some (.val (nI (bF n (3*l.length+5)))) :=h17 n _ ⟨hn.1,hn.2,by omega,by omega⟩
 have hlt:=ey n (m:=3*l.length+5) (by omega)
 obtain ⟨k,hk0⟩ : ∃k,bF n (3*l.length+5) =k:= ⟨_,rfl⟩
 rw[hk0] at e17 hlt
 refine aa hcx [] _ [] rfl rfl rfl ?_ jp
 refine aa hcx [1000011] _ [] rfl rfl rfl ?_ jp
 refine ae fun K1 hK1=> ?_
 refine aa hcx [] _ [] rfl rfl rfl ?_ jp
 refine bS rfl (fun hc15=> ?_) (fun hc15=> ?_)
 ·
  refine aa hcx [1000020] _ [] rfl rfl rfl ?_ jp
  exact Tr.ret rX
 refine Tr.skip ?_
 refine hK1 _ ?_
 refine ae fun K2 hK2=> ?_
 refine aa hcx [] _ [] rfl rfl rfl ?_ jp
 refine bS rfl (fun hc25=> ?_) (fun hc25=> ?_)
 ·
  have hkk:=hk (k - l.length) (by omega)
  refine aa hcx [1000034] _ [] rfl rfl rfl ?_ jp
  refine Tr.k [4] ?_
  exact Tr.ret rX
 refine Tr.skip ?_
 refine hK2 _ ?_
 refine ae fun K3 hK3=> ?_
 refine aa hcx [] _ [] rfl rfl rfl ?_ jp
 refine bS rfl (fun hc39=> ?_) (fun hc39=> ?_)
 ·
  refine aa hcx [] _ [] rfl rfl rfl ?_ jp
  exact Tr.ret rX
 refine Tr.skip ?_
 refine hK3 _ ?_
 refine Tr.k [5] ?_
 have e49:=h49 k (by omega)
 have hy:= @e49
 refine aa hcx [1000041] _ [] rfl rfl rfl ?_ jp
 exact Tr.ret rX
theorem gR {p:Prop} (e:p:=by intro KZ hZ;simp -implicitDefEqProofs (disch:=first|omega| (simp only[go_sem,lA,lD,lT,iZ,y6] <;>omega) |decide) only[go_sem,↓reduceIte,Nat.reduceEqDiff,reduceCtorEq,Nat.reduceLT,Nat.reduceBEq,Nat.reduceAdd,b1,b2,hy];with_reducible exact hZ) :p:=e
theorem Di {p:Prop} (e:p:=by simp -implicitDefEqProofs (disch:=first|omega| (simp only[go_sem,lA,lD,lT,iZ,y6] <;>omega) |decide) only[go_sem,↓reduceIte,Nat.reduceEqDiff,reduceCtorEq];all_goals (rw[ib,←hiE])) :p:=e
theorem aaF {gl:Nat→C} {M:Nat} {pu:Nat→List C→Option C} (hcx:CxOK (aO gl M pu)) (h48: ∀ (l:List Int) (i m:Nat),LI l→i≤1000000→0< m∧m≤9223372036854775807→pu 48 [sl iC .no l,.val (nI i),.val (nI m)] =some (.val (nI (j4 l i m)))) (h49: ∀n:Nat,n≤1000000000000→pu 49 [.val (nI n)] =some (.val (str (eO n)))) (l:List Int) (hl:LI l) :FC Tryd.prog gl 10 [sl iC .no l] [] (sl eC (.own 2) (ib l)) [] :=by
 replace hcx:=hcx.reN (M:=39)
 refine bZ (cx:=aO gl 39 pu) (rs:= [.tmp 2]) rfl Tryd.func10 rfl rfl rfl (by simp only[List.length_cons,List.length_nil];decide) (by simp only[go_sem]) ?_
 simp only[cO,go_sem]
 have b1:=True.intro
 have b2:=True.intro
 have hy:=True.intro
 have hl1:=hl.1
 have hN:=tB l
 refine aa hcx [] _ [] rfl rfl rfl ?_ gR
 refine aa hcx [] _ [] rfl rfl rfl ?_ gR
 refine aa hcx [] _ [] rfl rfl rfl ?_ gR
 refine ae fun K1 hK1=> ?_
 refine aa hcx [] _ [] rfl rfl rfl ?_ gR
 refine Tr.k [0,3,4,5] ?_
 refine Tr.blk ?_
 refine cm (α:=Nat) (fun a=> [(0,?v0_1),(3,sl eC (.own 2) (eu l a).1),(4,.val (.int .i64 (((eu l a).2:Int) - 1))),(5,.val (nI a))]) (fun a=> ?h_1) (fun a=>a≤kC l) (fun a=>kC l - a) (0) (Nat.zero_le _) ?le_1 ?hh_1 ?bd_1
 case hh_1=>exact rfl
 case le_1=> (simp only[bE,aP,↓bD,↓reduceIte,Nat.reduceEqDiff,aE,aQ,aF,aR,aS,and_true,true_and];all_goals (repeat' first|exact CLe.refl _|exact True.intro| (refine bR ?_;first|rfl| (simp only[List.take_zero];done)) |exact cH (by omega) |exact b9 (by omega) |exact cu (by omega) |exact cw (by omega) |with_reducible apply And.intro));all_goals exact b9 (by simp[eu])
 rintro i hi
 refine ae fun K2 hK2=> ?_
 by_cases b1:2*i< l.length
 ·
  by_cases b2:i< 11
  ·
   have hiN:=RS b1 b2
   refine aa hcx [] [some 6,some 7,some 8,some 9,some 10,some 11,some 12,some 13,some 14] [] rfl rfl rfl ?_ gR
   refine ct rfl ?_
   refine Tr.skip ?_
   refine hK2 _ ?_
   refine ae fun K3 hK3=> ?_
   refine Tr.blk ?_
   have e48:=h48 l (2*i) 3 hl (by omega) (by omega)
   have e48b:=h48 l (2*i+1) 5 hl (by omega) (by omega)
   have hat:=tq l i
   have ha3:=rN l (2*i) (m:=3) (by omega)
   have ha5:=rN l (2*i+1) (m:=5) (by omega)
   have e49:pu 49 [.val (.int .i64 (((eu l i).2:Int) - 1+((1:Nat) :Int)+((j4 l (2*i) 3:Nat) :Int)))] =some (.val (str (eO ((eu l i).2+j4 l (2*i) 3)))) :=by
    rw[show (((eu l i).2:Int) - 1+((1:Nat) :Int)+((j4 l (2*i) 3:Nat) :Int)) = (((eu l i).2+j4 l (2*i) 3:Nat) :Int) by omega]
    exact h49 _ (by omega)
   have hy:= @e48
   refine aa hcx [1000023] _ [] rfl rfl rfl ?_ gR
   refine Tr.k [0,3,4,5] ?_
   have hy:=And.intro @e49 (And.intro @e48b @Lv)
   refine bG hcx [24,1000037] _ [] rfl rfl rfl ?_ gR
   refine hK3 _ ?_
   have hy:=True.intro
   refine bG hcx [1000016] _ [] rfl rfl rfl ?_ gR
   refine ⟨i+1,⟨by omega,O1⟩,?_,rfl⟩
   (simp only[bE,aP,↓bD,↓reduceIte,Nat.reduceEqDiff,aE,aQ,aF,aR,aS,and_true,true_and];all_goals (repeat' first|exact CLe.refl _|exact True.intro| (refine bR ?_;first|rfl| (simp only[List.take_zero];done)) |exact cH (by omega) |exact b9 (by omega) |exact cu (by omega) |exact cw (by omega) |with_reducible apply And.intro))
   all_goals first| (refine dL ?_;rfl) | (refine b9 ?_;simp only[eu];omega)
  skip
  refine aa hcx [] [some 6,some 7,some 8,some 9,some 10,some 11,some 12,some 13,some 14] [] rfl rfl rfl ?_ gR
  refine bn rfl ?_
  refine Tr.exit ?_
  refine hK1 _ ?_
  have hiE:=Dg hi (by omega)
  refine aa hcx [1000038] _ [] rfl rfl rfl ?_ gR
  exact Tr.ret Di
 refine aa hcx [] [some 6,some 7,some 8,some 9,some 10,some 11,some 12,some 13,some 14] [] rfl rfl rfl ?_ gR
 refine bn rfl ?_
 refine Tr.exit ?_
 refine hK1 _ ?_
 have hiE:=Dg hi (by omega)
 refine aa hcx [1000038] _ [] rfl rfl rfl ?_ gR
 exact Tr.ret Di
end Go.Sx
