/-
   And what follows.
-/
import Derived.Test.YtmoaeemdlompaaaDoorPaq
import Derived.Test.YtmoaeemdlompaaaDoorPap
import Derived.Test.YtmoaeemdlompaaaDoorPam
set_option linter.unusedSimpArgs false
set_option linter.unusedVariables false
namespace Go.Sx
open Go.RowKit Go.Proofs
set_option maxRecDepth 100000
set_option maxHeartbeats 8000000
theorem Kw:jy (some ⟨.struct #[Field.mk "Key" 9 0 false "" "" 0,Field.mk "Value" 9 1 false "" "" 16],2,32,[str [],str []]⟩) 5 [(0,.agg [.val (str [97]),.val (str [49])]),(1,.agg [.val (str [99]),.val (str [50])]),(2,.agg [.val (str [100]),.val (str [51])]),(3,.agg [.val (str [102]),.val (str [52])]),(4,.agg [.val (str [103]),.val (str [53])])] =some (vp (sl eC .full bK)) :=rfl
theorem TB: (gt fQ 0).1= [99]:=rfl
theorem TC: (gt fQ 1).2= [51]:=rfl
theorem TE:fQ.length=2:=rfl
theorem hC:fC.length=1:=rfl
theorem hE:fE.length=2:=rfl
theorem VG:fR.length=4:=rfl
theorem zt {p:Prop}(e:p:=by intro KZ hZ;simp -implicitDefEqProofs (disch:=first|omega| (simp only[go_sem,lA,lD,lT] <;>omega) |decide) only[go_sem,↓reduceIte,Nat.reduceEqDiff,reduceCtorEq,Nat.reduceLT,Nat.reduceBEq,Nat.reduceAdd,Kw,hy];with_reducible exact hZ):p:=e
theorem Kx {p:Prop}(e:p:=by simp -implicitDefEqProofs (disch:=first|omega| (simp only[go_sem,lA,lD,lT] <;>omega) |decide) only[go_sem,↓reduceIte,Nat.reduceEqDiff,reduceCtorEq];all_goals (rfl)):p:=e
theorem TF {gl:Nat→C}{M:Nat}{pu:Nat→List C→Option C}(hcx:CxOK (ao gl M pu)):FC Tryd.prog gl 55 ([]:List C) [] (sl eC .full bK) []:=by
 replace hcx:=hcx.reN (M:=7)
 refine aP (cx:=ao gl 7 pu) (rs:=[.tmp 0]) rfl Tryd.func55 rfl rfl rfl (by simp only[List.length_cons,List.length_nil];decide) (by simp only[go_sem]) ?_
 simp only[bQ,go_sem]
 have hy:=True.intro
 refine aa hcx [] _ [] rfl rfl rfl ?_ zt
 refine aa hcx [1000006] _ [] rfl rfl rfl ?_ zt
 exact Tr.ret Kx
theorem dT {p:Prop}(e:p:=by intro KZ hZ;simp -implicitDefEqProofs (maxSteps:=2000000) (disch:=first|omega| (simp only[go_sem,lA,lD,lT,hrl,q1,q2,q3,q4,q5,q6,q7,q10] <;>omega) |decide) only[go_sem,↓reduceIte,Nat.reduceEqDiff,reduceCtorEq,Nat.reduceLT,Nat.reduceBEq,Nat.reduceAdd,eq_self,decide_true,decide_false,not_true_eq_false,not_false_eq_true,h55,e12,e22c,e22e,e22h,e24,k1,k2,k3,k4,k5,q1,q2,q3,q4,q5,q6,q7,hy];with_reducible exact hZ):p:=e
theorem Ky {p:Prop}(e:p:=by simp -implicitDefEqProofs (disch:=first|omega| (simp only[go_sem,lA,lD,lT,hrl,q1,q2,q3,q4,q5,q6,q7,q10] <;>omega) |decide) only[go_sem,↓reduceIte,Nat.reduceEqDiff,reduceCtorEq];all_goals (rfl)):p:=e
theorem TG {gl:Nat→C}{M:Nat}{pu:Nat→List C→Option C}(hcx:CxOK (ao gl M pu))(h12:∀l:List ab,LB l→pu 12 [sl eC .no l] =some (.tup [.agg (cl bC (dO l).1),.val (nI (dO l).2)]))(h22:∀ (l:List ab) (k:List UInt8),LB l→pu 22 [sl eC .no l,.val (str k)] =some (.tup [.agg [.val (nI (dn l k).1.1),.val (nI (dn l k).1.2.1),sl eC .no (dn l k).1.2.2.1,sl dC .no (dn l k).1.2.2.2],.val (nI (dn l k).2)]))(h24:∀ (l:List ab) (x y:List UInt8),LB l→pu 24 [sl eC .no l,.val (str x),.val (str y)] =some (.tup [.agg [.val (nI (dF l x y).1.1),.val (nI (dF l x y).1.2.1),sl eC .no (dF l x y).1.2.2.1,sl dC .no (dF l x y).1.2.2.2],.val (nI (dF l x y).2)]))(h29:∀ (r:List UInt8) (k:List UInt8) (f z:Int) (l:List ab) (S:List bL),r.length=16→(-9223372036854775808≤f∧f≤9223372036854775807)→(-9223372036854775808≤z∧z≤9223372036854775807)→LB l→S.length≤1000000→pu 29 [.agg (cl bC r),.val (str k),.agg [.val (.int .i64 f),.val (.int .i64 z),sl eC .no l,sl dC .no S]] =some (.tup [.val (str (dN r k f z l S).1),.val (.bool (dN r k f z l S).2.1),.val (nI (dN r k f z l S).2.2)]))(h32:∀ (r x y:List UInt8) (f z:Int) (l:List ab) (S:List bL),r.length=16→(-9223372036854775808≤f∧f≤9223372036854775807)→(-9223372036854775808≤z∧z≤9223372036854775807)→LB l→S.length≤1000000→pu 32 [.agg (cl bC r),.val (str x),.val (str y),.agg [.val (.int .i64 f),.val (.int .i64 z),sl eC .no l,sl dC .no S]] =some (.tup [sl eC .no (fK r x y f z l S).1,.val (nI (fK r x y f z l S).2)]))(h55:pu 55 [] =some (sl eC .full bK)):FC Tryd.prog gl 19 ([]:List C) [] (.val (.bool true)) []:=by
 replace hcx:=hcx.reN (M:=219)
 refine aP (cx:=ao gl 219 pu) (rs:=[.tmp 0]) rfl Tryd.func19 rfl rfl rfl (by simp only[List.length_cons,List.length_nil];decide) (by simp only[go_sem]) ?_
 simp only[bQ,go_sem]
 have hy:=True.intro
 have e12:pu 12 [sl eC .no bK] =some (.tup [.agg (cl bC (cZ bK)),.val (nI 0)]):=(h12 bK lR).trans (by rw[nh jr])
 have e22c:pu 22 [sl eC .no bK,.val (str [99])] =some (.tup [.agg [.val (nI 1),.val (nI 5),sl eC .no fC,sl dC .no (cd bK 1 2)],.val (nI 0)]):=(h22 bK [99] lR).trans (by rw[PR])
 have e22e:pu 22 [sl eC .no bK,.val (str [101])] =some (.tup [.agg [.val (nI 2),.val (nI 5),sl eC .no fE,sl dC .no (cd bK 2 4)],.val (nI 0)]):=(h22 bK [101] lR).trans (by rw[PS])
 have e22h:pu 22 [sl eC .no bK,.val (str [104])] =some (.tup [.agg [.val (nI 4),.val (nI 5),sl eC .no fH,sl dC .no (cd bK 4 5)],.val (nI 0)]):=(h22 bK [104] lR).trans (by rw[PT])
 have e24:pu 24 [sl eC .no bK,.val (str [99]),.val (str [102])] =some (.tup [.agg [.val (nI 0),.val (nI 5),sl eC .no fR,sl dC .no (cd bK 0 4)],.val (nI 0)]):=(h24 bK [99] [102] lR).trans (by rw[PU])
 have lbC:LB fC:=⟨by decide,fun i hi=>by
  have h5:i< 1:=hi
  rcases i with _|i
  . decide
  . omega⟩
 have lbE:LB fE:=⟨by decide,fun i hi=>by
  have h5:i< 2:=hi
  rcases i with _|_|i
  . decide
  . decide
  . omega⟩
 have lbR:LB fR:=⟨by decide,fun i hi=>by
  have h5:i< 4:=hi
  rcases i with _|_|_|_|i
  . decide
  . decide
  . decide
  . decide
  . omega⟩
 have k1:pu 29 [.agg (cl bC (cZ bK)),.val (str [99]),.agg [.val (nI 1),.val (nI 5),sl eC .no fC,sl dC .no (cd bK 1 2)]] =some (.tup [.val (str [50]),.val (.bool true),.val (nI 0)]):=(h29 (cZ bK) [99] ((1:Nat):Int) ((5:Nat):Int) fC (cd bK 1 2) (fh _) (by omega) (by omega) lbC (by decide)).trans (by rw[show ((1:Nat):Int) =1 from rfl,show ((5:Nat):Int) =5 from rfl,P1])
 have k2:pu 29 [.agg (cl bC (cZ bK)),.val (str [101]),.agg [.val (nI 2),.val (nI 5),sl eC .no fE,sl dC .no (cd bK 2 4)]] =some (.tup [.val (str []),.val (.bool false),.val (nI 0)]):=(h29 (cZ bK) [101] ((2:Nat):Int) ((5:Nat):Int) fE (cd bK 2 4) (fh _) (by omega) (by omega) lbE (by decide)).trans (by rw[show ((2:Nat):Int) =2 from rfl,show ((5:Nat):Int) =5 from rfl,P2])
 have k3:pu 29 [.agg (cl bC (cZ bK)),.val (str [100]),.agg [.val (nI 2),.val (nI 5),sl eC .no fE,sl dC .no (cd bK 2 4)]] =some (.tup [.val (str [51]),.val (.bool true),.val (nI 0)]):=(h29 (cZ bK) [100] ((2:Nat):Int) ((5:Nat):Int) fE (cd bK 2 4) (fh _) (by omega) (by omega) lbE (by decide)).trans (by rw[show ((2:Nat):Int) =2 from rfl,show ((5:Nat):Int) =5 from rfl,P3])
 have k4:pu 29 [.agg (cl bC (cZ bK)),.val (str [99]),.agg [.val (nI 2),.val (nI 5),sl eC .no fE,sl dC .no (cd bK 2 4)]] =some (.tup [.val (str []),.val (.bool false),.val (nI 17)]):=(h29 (cZ bK) [99] ((2:Nat):Int) ((5:Nat):Int) fE (cd bK 2 4) (fh _) (by omega) (by omega) lbE (by decide)).trans (by rw[show ((2:Nat):Int) =2 from rfl,show ((5:Nat):Int) =5 from rfl,P4])
 have k5:pu 32 [.agg (cl bC (cZ bK)),.val (str [99]),.val (str [102]),.agg [.val (nI 0),.val (nI 5),sl eC .no fR,sl dC .no (cd bK 0 4)]] =some (.tup [sl eC .no fQ,.val (nI 0)]):=(h32 (cZ bK) [99] [102] ((0:Nat):Int) ((5:Nat):Int) fR (cd bK 0 4) (fh _) (by omega) (by omega) lbR (by decide)).trans (by rw[show ((0:Nat):Int) =0 from rfl,show ((5:Nat):Int) =5 from rfl,P5])
 have hrl:=fh bK
 have q1:=PV
 have q2:=PW
 have q3:=PX
 have q4:=PY
 generalize cd bK 1 2=SC at*
 generalize cd bK 2 4=SE at*
 generalize cd bK 4 5=SH at*
 generalize cd bK 0 4=SR at*
 generalize cZ bK=R at*
 have q5:=hC
 have q6:=hE
 have q7:=VG
 have q8:=TB
 have q9:=TC
 have q10:=TE
 generalize fC=LC at*
 generalize fE=LE at*
 generalize fR=LR at*
 generalize fQ=LQ at*
 have x0:∀u y z,GN (some ⟨u,2,y,z⟩) (some 0) 2 (cl eC LQ) =some (vp (.kp ((cl eC LQ).drop (0*2)))):=fun u y z=>by
  have:=oD eC u y z 0 LQ (by omega)
  rw[q10] at this;exact this
 have x1:∀u y z,GN (some ⟨u,2,y,z⟩) (some 1) 2 (cl eC LQ) =some (vp (.kp ((cl eC LQ).drop (1*2)))):=fun u y z=>by
  have:=oD eC u y z 1 LQ (by omega)
  rw[q10] at this;exact this
 have x0a:=ze LQ 0 (by omega)
 have x0b:=zd LQ 0 (by omega)
 have x1a:=zf LQ 1 (by omega)
 have x1b:=tK LQ 1 (by omega)
 rw[q8] at x0b
 rw[q9] at x1b
 generalize (cl eC LQ).drop (0*2) =K0 at*
 generalize (cl eC LQ).drop (1*2) =K1 at*
 generalize (cl eC LQ).drop (1*2+1) =K2 at*
 refine aa hcx [] _ [] rfl rfl rfl ?_ dT
 refine aa hcx [1000026] _ [] rfl rfl rfl ?_ dT
 refine aa hcx [1000031] _ [none] rfl rfl rfl ?_ dT
 refine Tr.k [1,2,3] ?_
 refine aa hcx [1000036] _ [none] rfl rfl rfl ?_ dT
 refine Tr.k [1,2,3,4,5] ?_
 refine aa hcx [1000041] _ [none] rfl rfl rfl ?_ dT
 refine Tr.k [1,2,3,4,5,6,7] ?_
 refine aa hcx [1000046] _ [none] rfl rfl rfl ?_ dT
 refine Tr.k [1,2,3,4,5,6,7,8,9] ?_
 refine aa hcx [1000051] _ [none] rfl rfl rfl ?_ dT
 refine Tr.k [2,3,4,5,6,7,8,9,10,11] ?_
 refine ae fun K1 hK1=>?_
 refine aa hcx [] [some 52,some 53,some 54,some 55,some 56,some 57,some 58,some 59,some 60,some 61,some 62,some 63,some 64,some 65,some 66,some 67,some 68,some 69] [] rfl rfl rfl ?_ dT
 refine Tr.k [2,4,6,8,10,69] ?_
 refine bF rfl ?_
 refine Tr.skip ?_
 refine hK1 _ ?_
 refine Tr.k [2,4,6,8,10] ?_
 refine ae fun K2 hK2=>?_
 refine aa hcx [] [some 70,some 71,some 72,some 73,some 74,some 75,some 76,some 77,some 78,some 79,some 80,some 81,some 82,some 83,some 84,some 85,some 86,some 87,some 88,some 89,some 90,some 91,some 92,some 93,some 94,some 95,some 96,some 97,some 98,some 99,some 100,some 101,some 102,some 103,some 104,some 105,some 106,some 107,some 108,some 109,some 110,some 111,some 112,some 113,some 114,some 115,some 116,some 117,some 118,some 119,some 120,some 121,some 122,some 123,some 124,some 125,some 126,some 127,some 128,some 129] [] rfl rfl rfl ?_ dT
 refine Tr.k [2,4,6,10,129] ?_
 refine bF rfl ?_
 refine Tr.skip ?_
 refine hK2 _ ?_
 refine Tr.k [2,4,6,10] ?_
 refine aa hcx [1000134,1000135,1000136] _ [] rfl rfl rfl ?_ dT
 refine Tr.k [2,6,10,12,13,14] ?_
 refine aa hcx [1000141,1000142,1000143] _ [] rfl rfl rfl ?_ dT
 refine Tr.k [2,6,10,12,13,14,16,17] ?_
 refine aa hcx [1000148,1000149,1000150] _ [] rfl rfl rfl ?_ dT
 refine Tr.k [2,6,10,12,13,14,16,17,18,19,20] ?_
 refine aa hcx [1000155,1000156,1000157] _ [] rfl rfl rfl ?_ dT
 refine Tr.k [2,10,12,13,14,16,17,18,19,20,23] ?_
 refine aa hcx [1000162,1000163] _ [] rfl rfl rfl ?_ dT
 refine Tr.k [12,13,14,16,17,18,19,20,23,24,25] ?_
 have hy:=And.intro @x0 (And.intro @x1 (And.intro @x0a (And.intro @x0b (And.intro @x1a (And.intro @x1b @q10)))))
 refine aa hcx [1000218] [some 164,some 165,some 166,some 167,some 168,some 169,some 170,some 171,some 172,some 173,some 174,some 175,some 176,some 177,some 178,some 179,some 180,some 181,some 182,some 183,some 184,some 185,some 186,some 187,some 188,some 189,some 190,some 191,some 192,some 193,some 194,some 195,some 196,some 197,some 198,some 199,some 200,some 201,some 202,some 203,some 204,some 205,some 206,some 207,some 208,some 209,some 210,some 211,some 212,some 213,some 214,some 215,some 216,some 217,some 218,some 0] [] rfl rfl rfl ?_ dT
 refine Tr.k [0] ?_
 exact Tr.ret Ky
end Go.Sx
namespace Go.Sx
open Go.RowKit Go.Proofs
set_option maxRecDepth 100000
set_option maxHeartbeats 8000000
end Go.Sx
namespace Go.Sx
open Go.RowKit Go.Proofs
theorem Kz {α:Type}(f:α→List C)(k n:Nat)(acc:List (List α))(h:acc.length=k∧k+1=n):mi f k n acc [(k,.val (.slice none 0 0))] =some (vp (.sl .full n (cl (lC f) acc++[.val (.slice none 0 0)]))):=by
 obtain ⟨h,h2⟩:=h
 have hl: (cl (lC f) acc).length=k:=by rw[bj (f:=lC f),h,Nat.mul_one]
 have e:n - k=1:=by omega
 unfold mi
 rw[e]
 show (match C.cells? (.val (.slice none 0 0)) with
  |some cs=>if cs.length=1∧k+1≤(cl (lC f) acc++List.replicate 1 (C.val (.slice none 0 0))).length then eh n (splice (cl (lC f) acc++List.replicate 1 (C.val (.slice none 0 0))) k cs) [] else none
  |none=>none) =_
 have hc:C.cells? (.val (.slice none 0 0)) =some [.val (.slice none 0 0)]:=rfl
 rw[hc]
 simp only[]
 rw[if_pos ⟨rfl,by rw[List.length_append,hl,List.length_replicate];omega⟩]
 unfold splice
 rw[List.take_append_of_le_length (by omega),List.take_of_length_le (by omega),List.drop_append,List.drop_of_length_le (by omega),hl,List.length_singleton,show k+1 - k=1 by omega]
 simp only[List.replicate_one,List.drop_succ_cons,List.drop_nil,List.append_nil,List.nil_append]
 rfl
theorem zu {G:Gh}{blk:Nat}{x y:C}(h:∀v,Rep G x v→Rep G y v):∀ {l:List C}{off:Nat},RepK G blk off (l++[x])→RepK G blk off (l++[y])
 | [],off,q=>by
   simp only[List.nil_append,RepK,and_true] at q ⊢
   obtain ⟨u,h1,h2,h3⟩:=q
   exact ⟨u,h1,h2,h _ h3⟩
 |z::l,off,q=>by
  simp only[List.cons_append,RepK] at q ⊢
  exact ⟨q.1,zu h q.2⟩
theorem KA {α:Type}{f:α→List C}{acc:List (List α)}{n:Nat}(hn:acc.length+1=n):CLe (.sl .full n (cl (lC f) acc++[.val (.slice none 0 0)])) (sl (lC f) .full (acc++[[]])):=by
 subst hn
 refine ⟨fun G v q=>?_,fun s n xs e=>by cases e⟩
 unfold sl
 simp only[Rep] at q ⊢
 obtain ⟨a,cap,h1,h2,h3,h4,h5⟩:=q
 refine ⟨a,cap,by rw[h1,List.length_append];rfl,by rw[List.length_append];exact h2,h3,(fun _=>by rw[List.length_append];simpa using h4),?_⟩
 rcases h5 with h5| ⟨blk,off,ha,hk⟩
 . simp at h5
 . refine .inr ⟨blk,off,ha,?_⟩
   rw[kA]
   exact zu (fun v hv=>(CLe.nil (.no)).1 G v hv) hk
def nR (n:Nat):List ab:=List.replicate n ([],[])
theorem j6 (n:Nat): (nR n).length=n:=List.length_replicate
theorem zv (n:Nat)(h:n≤1000000):LB (nR n):=⟨by rw[j6];omega,fun i hi=>by
 rw[j6] at hi
 have:gt (nR n) i= ([],[]):=by simp[nR,gt,List.getD,List.getElem?_replicate,hi]
 rw[this];decide⟩
theorem t4:∀n,bO [str [],str []] n=cl eC (nR n)
 |0=>rfl
 |n+1=>by
  show List.map C.val [str [],str []]++bO [str [],str []] n=_
  rw[t4 n];rfl
theorem P6:td Tryd.prog 41=some ⟨.struct #[Field.mk "Key" 9 0 false "" "" 0,Field.mk "Value" 9 1 false "" "" 16],2,32,[str [],str []]⟩ :=qT
theorem P7:td Tryd.prog 75=some ⟨.struct #[Field.mk "Key" 9 0 false "" "" 0,Field.mk "Value" 9 1 false "" "" 16],2,32,[str [],str []]⟩ :=ye
theorem P8 (n:Nat)(h:n≤1000000):C4 Tryd.prog (some ⟨.slice 5,1,24,[.slice none 0 0]⟩) (.val (nI n)) (.val (nI n)) =some (.new (cl bC (List.replicate n 0)) fun id=> .sv id 0 n):=by
 unfold C4
 have e: (C.val (nI n)).int?=some (.i64,(n:Int)):=rfl
 simp only[e,No]
 rw[if_pos ⟨by omega,trivial,by omega,by omega,rfl,rfl⟩]
 rw[show ((n:Nat):Int).toNat=n from rfl]
 have:∀k,bO [Value.int .u8 0] k=cl bC (List.replicate k 0):=fun k=>by
  induction k with
  |zero=>rfl
  |succ k ih=>
   show List.map C.val [Value.int .u8 0]++bO [Value.int .u8 0] k=_
   rw[ih];rfl
 rw[this]
theorem oV (u:TypeDesc)(y:Nat)(a b c d:List UInt8):jy (some ⟨u,2,y,[str [],str []]⟩) 2 [(0,.agg [.val (str a),.val (str b)]),(1,.agg [.val (str c),.val (str d)])] =some (vp (sl eC .full [(a,b),(c,d)])):=rfl
attribute [go_sem] oV
def t5 (l:List Int)(r:List ab):List (List ab):=[gG l,gH r,[]]
theorem KB (l:List Int): (gG l).length≤11∧∀i,i< (gG l).length→(gt (gG l) i).1.length≤2∧(gt (gG l) i).2.length≤3:=by
 have hN:=v7 l
 have key:∀n i,i< n→(gt (eH l n).1 i).1.length≤2∧(gt (eH l n).1 i).2.length≤3:=fun n=>by
  induction n with
  |zero=>intro i h;omega
  |succ n ih=>
   intro i h
   have hl:=iX l n
   simp only[eH]
   by_cases e:i< n
   . rw[kj _ _ _ (by omega)];exact ih i e
   . have e:i=n:=by omega
     subst e
     rw[lX _ _ _ _ hl]
     refine ⟨(Ci _).2,?_⟩
     have h5:=o5 l (2*i+1) (m:=5) (by omega)
     generalize iW l (2*i+1) 5=k at h5
     show (gt vals5 k).length≤3
     rcases k with _|_|_|_|_|k
     . decide
     . decide
     . decide
     . decide
     . decide
     . omega
 unfold gG
 rw[iX]
 exact ⟨hN,fun i hi=>key _ i hi⟩
theorem KC (r:List ab): (gH r).length≤8∧∀i,i< (gH r).length→(gt (gH r) i).1.length≤40∧(gt (gH r) i).2.length≤40:=by
 unfold gH
 rw[List.length_map]
 refine ⟨List.length_take_le _ _,fun i hi=>?_⟩
 have:gt ((r.take 8).map fun x:ab=>(js x.1 40,js x.2 40)) i= (js (gt (r.take 8) i).1 40,js (gt (r.take 8) i).2 40):=by
  rw[gt,gt,List.getD,List.getD,List.getElem?_map,List.getElem?_eq_getElem hi];rfl
 rw[this]
 exact ⟨List.length_take_le _ _,List.length_take_le _ _⟩
theorem qE (l:List Int)(r:List ab): (t5 l r).length=3:=rfl
theorem KD (l:List Int)(r:List ab)(j:Nat)(h:j< 3): (gt (t5 l r) j).length≤11∧∀i,i< (gt (t5 l r) j).length→(gt (gt (t5 l r) j) i).1.length≤40∧(gt (gt (t5 l r) j) i).2.length≤40:=by
 rcases j with _|_|_|j
 . have:=KB l
   exact ⟨this.1,fun i hi=>by
    have h2:=this.2 i hi
    show (gt (gG l) i).1.length≤40∧(gt (gG l) i).2.length≤40
    omega⟩
 . have:=KC r
   exact ⟨by have:=this.1;show (gH r).length≤11;omega,this.2⟩
 . exact ⟨by show ([]:List ab).length≤11;decide,fun i hi=>absurd hi (Nat.not_lt_zero i)⟩
 . omega
theorem xb {l:List ab}(h:l.length≤1000000∧∀i,i< l.length→(gt l i).1.length≤1000000∧(gt l i).2.length≤1000000):LB l:=⟨by omega,fun i hi=>by have:=h.2 i hi;omega⟩
attribute [go_sem] Kz
theorem t6 {α:Type}(ρ:List Nat)(f:α→List C)[h:Fla f]:∀l:List (List α),mvCs ρ (cl (lC f) l) =cl (lC f) l
 | [] =>by show mvCs ρ [] = [];simp only[mvCs]
 |x::l=>by
  show mvCs ρ (sl f .no x::cl (lC f) l) =sl f .no x::cl (lC f) l
  simp only[mvCs,mm,t6 ρ f l]
theorem Hf {α:Type}(ρ:List Nat)(f:α→List C)[h:Fla f](r:Rt)(l:List (List α)):bn ρ (sl (lC f) r l) =sl (lC f) r l:=by
 show bn ρ (.sl r l.length (cl (lC f) l)) = .sl r l.length (cl (lC f) l)
 simp only[bn,t6]
theorem E4 (x y z:List UInt8): (((List.replicate 3 []).set 0 x).set 1 y).set 2 z= [x,y,z]:=rfl
end Go.Sx
namespace Go.Sx
open Go.RowKit Go.Proofs
set_option maxRecDepth 100000
set_option maxHeartbeats 8000000
end Go.Sx
namespace Go.Sx
open Go.RowKit Go.Proofs
set_option maxRecDepth 100000
theorem mz {f:Nat}:∀ {d d':Nat}{p p':List C},b8 f p d=b8 f p' d'→d=d'
 |0,0,_,_,_=>rfl
 |0,d'+1,_,_,h=>by simp[b8] at h
 |d+1,0,_,_,h=>by simp[b8] at h
 |d+1,d'+1,p,p',h=>by
  simp only[b8,C.kp.injEq,List.cons.injEq,C.fn.injEq,and_true,true_and] at h
  have:=(List.append_inj' h rfl).2
  simp only[List.cons.injEq,and_true] at this
  rw[mz this]
theorem qF (l:List ab)(f:Nat)(S:List bL):∀ (d e a b:Nat)(st:TS),b - a≤2 ^ d→b - a≤2 ^ e→aS l f S d a b st=aS l f S e a b st
 |0,e,a,b,st,h1,h2=>by
  by_cases h:b≤f∨f+l.length≤a
  . rw[eR h,eR h]
  . rw[eS h h1,eS h h1]
 |d+1,0,a,b,st,h1,h2=>by
  by_cases h:b≤f∨f+l.length≤a
  . rw[eR h,eR h]
  . rw[eS h h2,eS h h2]
 |d+1,e+1,a,b,st,h1,h2=>by
  by_cases h:b≤f∨f+l.length≤a
  . rw[eR h,eR h]
  . by_cases h':b - a≤1
    . rw[eS h h',eS h h']
    . have hh:=fw (n:=b - a) (by omega)
      have g1:=eW (by omega) h1
      have g2:=eW (by omega) h2
      rw[ke h h',ke h h',qF l f S d e a _ st (by omega) (by omega),qF l f S d e _ b _ (by omega) (by omega)]
section
variable {gl:Nat→C} {M:Nat} {pu:Nat→List C→Option C}
abbrev KM (d:Nat):= {q:List ab×Nat×Nat // OkL q.1∧q.2.1< q.2.2∧q.2.2≤q.1.length∧q.2.2 - q.2.1≤2 ^ d}
def e79 (d:Nat)(q:KM d):List C:=[.val (nI q.1.2.1),.val (nI q.1.2.2),.kp [sl eC .no q.1.1],b8 79 [.kp [sl eC .no q.1.1]] d]
def E5 (d:Nat)(q:KM d):C:= .agg (cl bC (cK q.1.1 d q.1.2.1 q.1.2.2))
theorem VH (l:List ab)(a b d:Nat):noRefs 0 [.val (nI a),.val (nI b),.kp [sl eC .no l],b8 79 [.kp [sl eC .no l]] d] =true:=by
 simp only[af,ag,am,ay,ar,Bool.and_self,Bool.true_and,Bool.and_true]
 exact mq 0 79 _ (by simp only[af,ag,ay,ar,Bool.and_self]) d
theorem VI (d:Nat)(x y:KM d)(h:e79 d x=e79 d y):E5 d x=E5 d y:=by
 simp only[e79,List.cons.injEq,C.val.injEq,C.kp.injEq,aT,aU,and_true] at h
 simp only[E5,h]
theorem KN (hcx:CxOK (ao gl M pu))(h80:∀x:ab,x.1.length≤65536∧x.2.length≤65536→pu 80 [.agg (eC x)] =some (.agg (cl bC (d5 x))))
 (h81:∀x y:Nat,x≤y∧y≤4611686018427387000→pu 81 [.val (nI x),.val (nI y)] =some (.val (nI (x+aD (y - x)))))
 (h82:∀a b:List UInt8,a.length=16→b.length=16→pu 82 [.agg (cl bC a),.agg (cl bC b)] =some (.agg (cl bC (fJ a b)))):
 ∀ (d:Nat)(l:List ab)(a b:Nat),OkL l→a< b∧b≤l.length∧b - a≤2 ^ d→FC Tryd.prog gl 79 [.val (nI a),.val (nI b),.kp [sl eC .no l],b8 79 [.kp [sl eC .no l]] d] [] (.agg (cl bC (cK l d a b))) []
 |0,l,a,b,hl,hab=>Gj hcx h80 l 0 a b hl ⟨hab.1,hab.2.1,hab.2.2⟩
 |d+1,l,a,b,hl,hab=>by
  by_cases h:b - a≤1
  . exact Gj hcx h80 l (d+1) a b hl ⟨hab.1,hab.2.1,h⟩
  . have hcx':CxOK (ao gl M (Sx.ext pu 79 (aV (e79 d) (E5 d)))):=aB (N:=M) hcx (fun q=>VH _ _ _ _) fun q=>KN hcx h80 h81 h82 d q.1.1 q.1.2.1 q.1.2.2 q.2.1 q.2.2
    exact Rw hcx' (fun x y h=>(aE (by decide) _).trans (h81 x y h)) (fun x y h h'=>(aE (by decide) _).trans (h82 x y h h')) l d a b hl ⟨hab.1,hab.2.1,hab.2.2,by omega⟩
     (fun a b hab=>(aK _).trans (aA (VI d) ⟨(l,a,b),hl,hab⟩))
theorem j8 (hcx:CxOK (ao gl M pu))(N:Nat):CxOK (dZ gl N pu fun _ _ _=>none):=hcx.reN
theorem Cf (T:List (List UInt8))(S:List bL)(u:Nat)(sh:Bool):∀o∈ ([some [sl sC (.own 1) T,sl dC .no S,.val (nI u),.val (.bool sh)]]:Hp),((bE o).isSome|| (ec o).isSome) =true:=fun o h=>by
 rw[List.mem_singleton.1 h];rfl
abbrev VJ:= {q:List (List UInt8)×List bL×Nat×Bool×Int×List (List UInt8) // q.1.length≤1000000∧(bU q.2.2.2.2.1 q.2.2.2.2.2).length< 1099511627776}
def vY (hcx:CxOK (ao gl M pu))(h65:∀ (tag:Int) (parts:List (List UInt8)),(bU tag parts).length< 1099511627776→pu 65 [.val (.int .i64 tag),sl sC .no parts] =some (sl bC (.own 1) (bU tag parts)))
    (h64:∀b:List UInt8,b.length< 35184372088832→pu 64 [sl bC .no b] =some (.agg (cl bC ((eA b).take 16)))):Small Tryd.prog gl 86 VJ where
 k:=1
 j:=0
 args q:=[.bp 0 0,.val (.int .i64 q.1.2.2.2.2.1),sl sC .no q.1.2.2.2.2.2]
 X q:=[some [sl sC (.own 1) q.1.1,sl dC .no q.1.2.1,.val (nI q.1.2.2.1),.val (.bool q.1.2.2.2.1)]]
 r q:= .agg (cl bC (ofT q.1.2.2.2.2.1 q.1.2.2.2.2.2))
 Y q:=[some [sl sC (.own 1) (q.1.1++[bU q.1.2.2.2.2.1 q.1.2.2.2.2.2]),sl dC .no q.1.2.1,.val (nI q.1.2.2.1),.val (.bool q.1.2.2.2.1)]]
 k0:=by decide
 hk _:=rfl
 hy _:=rfl
 al q:=Cf _ _ _ _
 nr q:=by simp only[af,ag,am,ar,Bool.and_true];rfl
 nx q:=iY _ _ _ _
 at0 q:=⟨0,rfl⟩
 inj:=fun x y h1 h2=>by
  simp only[List.cons.injEq,Option.some.injEq,C.val.injEq,Value.int.injEq,Value.bool.injEq,aT,aU,and_true,true_and] at h1 h2
  simp only[h1,h2,and_self]
 fc q:=Vl (j8 hcx 0) h65 h64 q.1.1 q.1.2.1 q.1.2.2.1 q.1.2.2.2.1 q.1.2.2.2.2.1 q.1.2.2.2.2.2 q.2.1 q.2.2
def VK (d:Nat)(l:List ab)(f:Nat)(S:List bL)(T:List (List UInt8))(u a b:Nat):Prop:=LZ l∧f≤5000∧S.length≤1000000∧u≤S.length∧T.length≤900000 - 2 ^ (d+1)∧d≤12∧a< b∧b≤5000∧b - a≤2 ^ d
structure A85 where
 (l:List ab) (f:Nat) (S:List bL) (T:List (List UInt8)) (u:Nat) (sh:Bool) (d a b:Nat)
 ok:VK d l f S T u a b
def zz (W:A85→Prop)(fc:∀q:A85,W q→FC Tryd.prog gl 85 [.bp 0 0,sl eC .no q.l,.val (nI q.f),.val (nI q.a),.val (nI q.b)] [some [sl sC (.own 1) (q.T),sl dC .no q.S,.val (nI (q.u)),.val (.bool (q.sh))]] (.agg (cl bC (aS q.l q.f q.S q.d q.a q.b (q.T,q.u,q.sh)).1)) [some [sl sC (.own 1) ((aS q.l q.f q.S q.d q.a q.b (q.T,q.u,q.sh)).2.1),sl dC .no q.S,.val (nI ((aS q.l q.f q.S q.d q.a q.b (q.T,q.u,q.sh)).2.2.1)),.val (.bool ((aS q.l q.f q.S q.d q.a q.b (q.T,q.u,q.sh)).2.2.2))]]):Small Tryd.prog gl 85 {q:A85 // W q} where
 k:=1
 j:=0
 args q:=[.bp 0 0,sl eC .no q.1.l,.val (nI q.1.f),.val (nI q.1.a),.val (nI q.1.b)]
 X q:=[some [sl sC (.own 1) (q.1.T),sl dC .no q.1.S,.val (nI (q.1.u)),.val (.bool (q.1.sh))]]
 r q:= .agg (cl bC (aS q.1.l q.1.f q.1.S q.1.d q.1.a q.1.b (q.1.T,q.1.u,q.1.sh)).1)
 Y q:=[some [sl sC (.own 1) ((aS q.1.l q.1.f q.1.S q.1.d q.1.a q.1.b (q.1.T,q.1.u,q.1.sh)).2.1),sl dC .no q.1.S,.val (nI ((aS q.1.l q.1.f q.1.S q.1.d q.1.a q.1.b (q.1.T,q.1.u,q.1.sh)).2.2.1)),.val (.bool ((aS q.1.l q.1.f q.1.S q.1.d q.1.a q.1.b (q.1.T,q.1.u,q.1.sh)).2.2.2))]]
 k0:=by decide
 hk _:=rfl
 hy _:=rfl
 al q:=Cf _ _ _ _
 nr q:=by simp only[af,ag,am,ar,Bool.and_true];rfl
 nx q:=iY _ _ _ _
 at0 q:=⟨0,rfl⟩
 inj:=fun x y h1 h2=>by
  simp only[List.cons.injEq,Option.some.injEq,C.val.injEq,Value.int.injEq,Value.bool.injEq,aT,aU,and_true,true_and] at h1 h2
  have e:=qF y.1.l y.1.f y.1.S x.1.d y.1.d y.1.a y.1.b (y.1.T,y.1.u,y.1.sh) (by have:=x.1.ok.2.2.2.2.2.2.2.2;rw[h1.2.2.1,h1.2.2.2] at this;exact this) y.1.ok.2.2.2.2.2.2.2.2
  simp only[h1,h2,e,and_self]
 fc q:=fc q.1 q.2
abbrev E6 (gl:Nat→C)(q:A85):Prop:=FC Tryd.prog gl 85 [.bp 0 0,sl eC .no q.l,.val (nI q.f),.val (nI q.a),.val (nI q.b)] [some [sl sC (.own 1) (q.T),sl dC .no q.S,.val (nI (q.u)),.val (.bool (q.sh))]] (.agg (cl bC (aS q.l q.f q.S q.d q.a q.b (q.T,q.u,q.sh)).1)) [some [sl sC (.own 1) ((aS q.l q.f q.S q.d q.a q.b (q.T,q.u,q.sh)).2.1),sl dC .no q.S,.val (nI ((aS q.l q.f q.S q.d q.a q.b (q.T,q.u,q.sh)).2.2.1)),.val (.bool ((aS q.l q.f q.S q.d q.a q.b (q.T,q.u,q.sh)).2.2.2))]]
theorem oW (hcx:CxOK (ao gl M pu))(h65:∀ (tag:Int) (parts:List (List UInt8)),(bU tag parts).length< 1099511627776→pu 65 [.val (.int .i64 tag),sl sC .no parts] =some (sl bC (.own 1) (bU tag parts)))(h64:∀b:List UInt8,b.length< 35184372088832→pu 64 [sl bC .no b] =some (.agg (cl bC ((eA b).take 16))))(hp:Nat→List C→Hp→Option (C×Hp))(pre suf:Hp)(T:List (List UInt8))(S:List bL)(u:Nat)(sh:Bool)(tag:Int)(parts:List (List UInt8))(h0:OkH pre)(h1:OkH suf)(h2:T.length≤1000000)(h3: (bU tag parts).length< 1099511627776):
 (vY hcx h65 h64).tab hp 86 [.bp pre.length 0,.val (.int .i64 tag),sl sC .no parts] (pre++([some [sl sC (.own 1) (T),sl dC .no S,.val (nI (u)),.val (.bool (sh))]]++suf)) =some (.agg (cl bC (ofT tag parts)),pre++([some [sl sC (.own 1) (T++[bU tag parts]),sl dC .no S,.val (nI (u)),.val (.bool (sh))]]++suf)):=by
 have h:=gC (vY hcx h65 h64) hp ⟨(T,S,u,sh,tag,parts),h2,h3⟩ pre suf h0 h1
 simpa only[vY,List.length_nil,Nat.zero_add,Nat.add_zero,bkCs,bS,kN,qr,gV,kM,Option.map_some,List.map_cons,List.map_nil,List.nil_append,List.cons_append] using h
theorem zA (W:A85→Prop)(fc:∀q:A85,W q→E6 gl q)(hp:Nat→List C→Hp→Option (C×Hp))(q:A85)(hq:W q)(pre suf:Hp)(h0:OkH pre)(h1:OkH suf):
 (zz W fc).tab hp 85 [.bp pre.length 0,sl eC .no q.l,.val (nI q.f),.val (nI q.a),.val (nI q.b)] (pre++([some [sl sC (.own 1) (q.T),sl dC .no q.S,.val (nI (q.u)),.val (.bool (q.sh))]]++suf)) =some (.agg (cl bC (aS q.l q.f q.S q.d q.a q.b (q.T,q.u,q.sh)).1),pre++([some [sl sC (.own 1) ((aS q.l q.f q.S q.d q.a q.b (q.T,q.u,q.sh)).2.1),sl dC .no q.S,.val (nI ((aS q.l q.f q.S q.d q.a q.b (q.T,q.u,q.sh)).2.2.1)),.val (.bool ((aS q.l q.f q.S q.d q.a q.b (q.T,q.u,q.sh)).2.2.2))]]++suf)):=by
 have h:=gC (zz W fc) hp ⟨q,hq⟩ pre suf h0 h1
 simpa only[zz,List.length_nil,Nat.zero_add,Nat.add_zero,bkCs,bS,kN,qr,gV,kM,Option.map_some,List.map_cons,List.map_nil,List.nil_append,List.cons_append] using h
theorem KO (hcx:CxOK (ao gl M pu))(hnr:∀ (g:Nat) (xs:List C),noRefs 0 xs=false→pu g xs=none)(h65:∀ (tag:Int) (parts:List (List UInt8)),(bU tag parts).length< 1099511627776→pu 65 [.val (.int .i64 tag),sl sC .no parts] =some (sl bC (.own 1) (bU tag parts)))(h64:∀b:List UInt8,b.length< 35184372088832→pu 64 [sl bC .no b] =some (.agg (cl bC ((eA b).take 16))))(h84:∀h:List UInt8,h.length=16→pu 84 [.agg (cl bC h)] =some (.val (str h)))(h106:∀n:Nat,n≤4611686018427387000→pu 106 [.val (nI n)] =some (.val (nI (aD n)))):∀ (d:Nat)(q:A85),q.d=d→E6 gl q
 |0,⟨l,f,S,T,u,sh,d,a,b,hk⟩,hd=>by
  obtain rfl:d=0:=hd
  obtain ⟨k1,k2,k3,k4,k5,k6,k7,k8,k9⟩:=hk
  exact Gk (e9 (M:=M) (j8 hcx M) ⟨_,Tryd.func86,rfl,rfl⟩ (vY hcx h65 h64)) l f S T u sh 0 a b k1 k2 k3 k4 k5 k6 ⟨k7,k8,k9⟩ (.inr (.inr k9)) hnr (fun xs h=>Small.never _ _ xs h)
   (fun suf T S u sh tag parts h1 h2 h3=>oW hcx h65 h64 _ [] suf T S u sh tag parts OkH.nil h1 h2 h3)
 |d+1,⟨l,f,S,T,u,sh,d',a,b,hk⟩,hd=>by
  obtain rfl:d'=d+1:=hd
  obtain ⟨k1,k2,k3,k4,k5,k6,k7,k8,k9⟩:=hk
  have ok:=e9 (M:=M) (j8 hcx M) ⟨_,Tryd.func86,rfl,rfl⟩ (vY hcx h65 h64)
  by_cases hz:b≤f∨f+l.length≤a∨b - a≤1
  . exact Gk ok l f S T u sh (d+1) a b k1 k2 k3 k4 k5 k6 ⟨k7,k8,k9⟩ hz hnr (fun xs h=>Small.never _ _ xs h)
     (fun suf T S u sh tag parts h1 h2 h3=>oW hcx h65 h64 _ [] suf T S u sh tag parts OkH.nil h1 h2 h3)
  . have F:=KO hcx hnr h65 h64 h84 h106 d
    exact Rz (e9 (M:=M) ok ⟨_,Tryd.func85,rfl,rfl⟩ (zz (fun q=>q.d=d) F)) l f S T u sh d a b k1 k2 k3 k4 k5 k6 ⟨k7,k8,k9⟩
     (fun suf T u sh a b h1 h2 h3 h4=>zA (fun q=>q.d=d) F _ ⟨l,f,S,T,u,sh,d,a,b,k1,k2,k3,h3,h2,by omega,h4.1,h4.2.2,h4.2.1⟩ rfl [] suf OkH.nil h1)
     (by omega) (by omega) (by omega) hnr
     (fun xs h=>(iG _ _ (by decide) _ _).trans (Small.never _ _ xs h))
     (fun suf T S u sh tag parts h1 h2 h3=>(iG _ _ (by decide) _ _).trans (oW hcx h65 h64 _ [] suf T S u sh tag parts OkH.nil h1 h2 h3))
     (fun xs h=>Small.never _ _ xs h) h84 h106
abbrev VL (F:∀q:A85,E6 gl q):=zz (fun _=>True) (fun q _=>F q)
abbrev KP:= {q:List ab×Nat×List bL×Nat×List (List UInt8)×Nat×Bool // LZ q.1∧q.2.1≤5000∧q.2.2.1.length≤1000000∧q.2.2.2.2.2.1≤q.2.2.1.length∧q.2.2.2.2.1.length≤800000∧q.2.2.2.1≤4096}
def KQ (fc:∀q:KP,FC Tryd.prog gl 52 [.bp 0 0,sl eC .no q.1.1,.val (nI q.1.2.1),.val (nI q.1.2.2.2.1)] [some [sl sC (.own 1) (q.1.2.2.2.2.1),sl dC .no q.1.2.2.1,.val (nI (q.1.2.2.2.2.2.1)),.val (.bool (q.1.2.2.2.2.2.2))]] (.agg (cl bC (dv q.1.1 q.1.2.1 q.1.2.2.1 q.1.2.2.2.1 (q.1.2.2.2.2.1,q.1.2.2.2.2.2.1,q.1.2.2.2.2.2.2)).1)) [some [sl sC (.own 1) ((dv q.1.1 q.1.2.1 q.1.2.2.1 q.1.2.2.2.1 (q.1.2.2.2.2.1,q.1.2.2.2.2.2.1,q.1.2.2.2.2.2.2)).2.1),sl dC .no q.1.2.2.1,.val (nI ((dv q.1.1 q.1.2.1 q.1.2.2.1 q.1.2.2.2.1 (q.1.2.2.2.2.1,q.1.2.2.2.2.2.1,q.1.2.2.2.2.2.2)).2.2.1)),.val (.bool ((dv q.1.1 q.1.2.1 q.1.2.2.1 q.1.2.2.2.1 (q.1.2.2.2.2.1,q.1.2.2.2.2.2.1,q.1.2.2.2.2.2.2)).2.2.2))]]):Small Tryd.prog gl 52 KP where
 k:=1
 j:=0
 args q:=[.bp 0 0,sl eC .no q.1.1,.val (nI q.1.2.1),.val (nI q.1.2.2.2.1)]
 X q:=[some [sl sC (.own 1) (q.1.2.2.2.2.1),sl dC .no q.1.2.2.1,.val (nI (q.1.2.2.2.2.2.1)),.val (.bool (q.1.2.2.2.2.2.2))]]
 r q:= .agg (cl bC (dv q.1.1 q.1.2.1 q.1.2.2.1 q.1.2.2.2.1 (q.1.2.2.2.2.1,q.1.2.2.2.2.2.1,q.1.2.2.2.2.2.2)).1)
 Y q:=[some [sl sC (.own 1) ((dv q.1.1 q.1.2.1 q.1.2.2.1 q.1.2.2.2.1 (q.1.2.2.2.2.1,q.1.2.2.2.2.2.1,q.1.2.2.2.2.2.2)).2.1),sl dC .no q.1.2.2.1,.val (nI ((dv q.1.1 q.1.2.1 q.1.2.2.1 q.1.2.2.2.1 (q.1.2.2.2.2.1,q.1.2.2.2.2.2.1,q.1.2.2.2.2.2.2)).2.2.1)),.val (.bool ((dv q.1.1 q.1.2.1 q.1.2.2.1 q.1.2.2.2.1 (q.1.2.2.2.2.1,q.1.2.2.2.2.2.1,q.1.2.2.2.2.2.2)).2.2.2))]]
 k0:=by decide
 hk _:=rfl
 hy _:=rfl
 al q:=Cf _ _ _ _
 nr q:=by simp only[af,ag,am,ar,Bool.and_true];rfl
 nx q:=iY _ _ _ _
 at0 q:=⟨0,rfl⟩
 inj:=fun x y h1 h2=>by
  simp only[List.cons.injEq,Option.some.injEq,C.val.injEq,Value.int.injEq,Value.bool.injEq,aT,aU,and_true,true_and] at h1 h2
  simp only[h1,h2,and_self]
 fc q:=fc q
theorem TM (hcx:CxOK (ao gl M pu))(hnr:∀ (g:Nat) (xs:List C),noRefs 0 xs=false→pu g xs=none)(h65:∀ (tag:Int) (parts:List (List UInt8)),(bU tag parts).length< 1099511627776→pu 65 [.val (.int .i64 tag),sl sC .no parts] =some (sl bC (.own 1) (bU tag parts)))(h64:∀b:List UInt8,b.length< 35184372088832→pu 64 [sl bC .no b] =some (.agg (cl bC ((eA b).take 16))))(h84:∀h:List UInt8,h.length=16→pu 84 [.agg (cl bC h)] =some (.val (str h)))(h106:∀n:Nat,n≤4611686018427387000→pu 106 [.val (nI n)] =some (.val (nI (aD n))))(h83:∀n:Int,-9223372036854775808≤n∧n≤9223372036854775807→pu 83 [.val (.int .i64 n)] =some (sl bC (.own 1) (co n)))(q:KP):FC Tryd.prog gl 52 [.bp 0 0,sl eC .no q.1.1,.val (nI q.1.2.1),.val (nI q.1.2.2.2.1)] [some [sl sC (.own 1) (q.1.2.2.2.2.1),sl dC .no q.1.2.2.1,.val (nI (q.1.2.2.2.2.2.1)),.val (.bool (q.1.2.2.2.2.2.2))]] (.agg (cl bC (dv q.1.1 q.1.2.1 q.1.2.2.1 q.1.2.2.2.1 (q.1.2.2.2.2.1,q.1.2.2.2.2.2.1,q.1.2.2.2.2.2.2)).1)) [some [sl sC (.own 1) ((dv q.1.1 q.1.2.1 q.1.2.2.1 q.1.2.2.2.1 (q.1.2.2.2.2.1,q.1.2.2.2.2.2.1,q.1.2.2.2.2.2.2)).2.1),sl dC .no q.1.2.2.1,.val (nI ((dv q.1.1 q.1.2.1 q.1.2.2.1 q.1.2.2.2.1 (q.1.2.2.2.2.1,q.1.2.2.2.2.2.1,q.1.2.2.2.2.2.2)).2.2.1)),.val (.bool ((dv q.1.1 q.1.2.1 q.1.2.2.1 q.1.2.2.2.1 (q.1.2.2.2.2.1,q.1.2.2.2.2.2.1,q.1.2.2.2.2.2.2)).2.2.2))]]:=by
 have F:∀q:A85,E6 gl q:=fun q=>KO hcx hnr h65 h64 h84 h106 q.d q rfl
 have ok:=e9 (M:=M) (e9 (M:=M) (j8 hcx M) ⟨_,Tryd.func86,rfl,rfl⟩ (vY hcx h65 h64)) ⟨_,Tryd.func85,rfl,rfl⟩ (VL F)
 exact Vm (hcx:=ok) (hnr:=hnr) (hn86:=fun xs h=>(iG _ _ (by decide) _ _).trans (Small.never _ _ xs h))
  (hq86:=fun suf T S u sh tag parts h1 h2 h3=>(iG _ _ (by decide) _ _).trans (oW hcx h65 h64 _ [] suf T S u sh tag parts OkH.nil h1 h2 h3))
  (hn85:=fun xs h=>Small.never _ _ xs h)
  (hq85:=fun suf l f S d T u sh a b h1 h2 h3 h4 h5 h6 h7 h8=>zA _ _ _ ⟨l,f,S,T,u,sh,d,a,b,h2,h3,h4,h5,h6,h7,h8⟩ True.intro [] suf OkH.nil h1)
  (h84:=h84) (h83:=h83) (l:=q.1.1) (f:=q.1.2.1) (S:=q.1.2.2.1) (T:=q.1.2.2.2.2.1) (u:=q.1.2.2.2.2.2.1) (sh:=q.1.2.2.2.2.2.2) (n:=q.1.2.2.2.1) (hl:=q.2.1) (hf:=q.2.2.1) (hS:=q.2.2.2.1) (hu:=q.2.2.2.2.1) (hT:=q.2.2.2.2.2.1) (hn:=q.2.2.2.2.2.2)
theorem Qa (hcx:CxOK (ao gl M pu))(hnr:∀ (g:Nat) (xs:List C),noRefs 0 xs=false→pu g xs=none)(h65:∀ (tag:Int) (parts:List (List UInt8)),(bU tag parts).length< 1099511627776→pu 65 [.val (.int .i64 tag),sl sC .no parts] =some (sl bC (.own 1) (bU tag parts)))(h64:∀b:List UInt8,b.length< 35184372088832→pu 64 [sl bC .no b] =some (.agg (cl bC ((eA b).take 16))))(h84:∀h:List UInt8,h.length=16→pu 84 [.agg (cl bC h)] =some (.val (str h)))(h106:∀n:Nat,n≤4611686018427387000→pu 106 [.val (nI n)] =some (.val (nI (aD n))))(h83:∀n:Int,-9223372036854775808≤n∧n≤9223372036854775807→pu 83 [.val (.int .i64 n)] =some (sl bC (.own 1) (co n)))(h16:∀l:List ab,LB l→pu 16 [sl eC .no l] =some (.val (nI (bR l))))(l:List ab)(hl:LB l):FC Tryd.prog gl 14 [sl eC .no l] [] (.tup [.agg (cl bC (dO l).1),.val (nI (dO l).2)]) []:=by
 have F:=TM hcx hnr h65 h64 h84 h106 h83
 exact Vn (hcx:=e9 (M:=M) (j8 hcx M) ⟨_,Tryd.func52,rfl,rfl⟩ (KQ F)) (hnr:=hnr) (h16:=h16) (hn52:=fun xs h=>Small.never _ _ xs h)
  (hq52:=fun pre suf l f S n T u sh h0 h1 h2 h3 h4 h5 h6 h7=>by
    have h:=gC (KQ F) (fun _ _ _=>none) ⟨(l,f,S,n,T,u,sh),h2,h3,h4,h5,h6,h7⟩ pre suf h0 h1
    simpa only[KQ,List.length_nil,Nat.zero_add,Nat.add_zero,bkCs,bS,kN,qr,gV,kM,Option.map_some,List.map_cons,List.map_nil,List.nil_append,List.cons_append] using h) (l:=l) (hl:=hl)
end
end Go.Sx
namespace Go.Sx
open Go.RowKit Go.Proofs
set_option maxRecDepth 100000
theorem aM {pu:Nat→List C→Option C}(hnr:∀f xs,noRefs 0 xs=false→pu f xs=none){α:Type}{enc:α→List C}{out:α→C}{f:Nat}(he:∀a,noRefs 0 (enc a) =true):∀g xs,noRefs 0 xs=false→Sx.ext pu f (aV enc out) g xs=none:=fun g xs hr=>by
 by_cases hgf:g=f
 . subst hgf
   rw[aK]
   cases hq:aV enc out xs with
   |none=>rfl
   |some c=>
    obtain ⟨a,rfl,_⟩:=lh hq
    rw[he a] at hr;cases hr
 . rw[aE hgf];exact hnr g xs hr
theorem bh {x y:ab}:eC x=eC y↔x=y:=⟨fun h=>Inj.inj _ _ h,fun h=>by rw[h]⟩
theorem zB {s t:S8}:s.l=t.l↔s=t:=by
 constructor
 . intro h
   obtain ⟨a,b,c,d,e,f,g,i⟩:=s
   obtain ⟨a',b',c',d',e',f',g',i'⟩:=t
   simpa[S8.l] using h
 . rintro rfl;rfl
theorem rE {s s':S8}{b b':List UInt8}{n n':Nat}(hb:b.length=64)(hb':b'.length=64)(h:cl wC s.l++(cl bC b++[C.val (nU n)]) =cl wC s'.l++(cl bC b'++[C.val (nU n')])):s=s'∧b=b'∧n=n':=by
 rw[wU (f:=wC) (by rw[cL,cL]),wU (f:=bC) (by rw[hb,hb'])] at h
 simp only[zB,List.cons.injEq,C.val.injEq,ba,and_true] at h
 exact h
theorem Cg (s s':S8)(b b':List UInt8)(n n':Nat)(t t':List UInt8)(hb:b.length=64)(hb':b'.length=64)
 (h: [C.agg (cl wC s.l++(cl bC b++[C.val (nU n)])),C.val (str t)] = [C.agg (cl wC s'.l++(cl bC b'++[C.val (nU n')])),C.val (str t')]):C.agg (b9 ⟨s,b,n⟩ t).cells=C.agg (b9 ⟨s',b',n'⟩ t').cells:=by
 simp only[List.cons.injEq,C.agg.injEq,C.val.injEq,aQ,and_true] at h
 obtain ⟨rfl,rfl,rfl⟩:=rE hb hb' h.1
 rw[h.2]
theorem Hh (s s':S8)(b b':List UInt8)(n n':Nat)(hb:b.length=64)(hb':b'.length=64)
 (h: [C.agg (cl wC s.l++(cl bC b++[C.val (nU n)]))] = [C.agg (cl wC s'.l++(cl bC b'++[C.val (nU n')]))]):C.agg (cl bC (jU ⟨s,b,n⟩)) =C.agg (cl bC (jU ⟨s',b',n'⟩)):=by
 simp only[List.cons.injEq,C.agg.injEq,and_true] at h
 obtain ⟨rfl,rfl,rfl⟩:=rE hb hb' h
 rfl
section
variable {gl:Nat→C} {M:Nat} {pu:Nat→List C→Option C}
structure A91 where
 (l:List ab) (f e z:Nat) (lv:List ab) (S:List bL) (d a b:Nat)
 ok:OkL l∧(f≤5000∧e≤5000)∧S.length≤100000 - 2 ^ d∧d≤12∧a< b∧b≤l.length∧b - a≤2 ^ d
abbrev E7 (gl:Nat→C)(q:A91):Prop:=FC Tryd.prog gl 91 [.val (nI q.a),.val (nI q.b),.kp [.val (nI q.f)],.kp [.val (nI q.e)],.bp 0 0,.kp [sl eC .no q.l],b8 91 [.kp [.val (nI q.f)],.kp [.val (nI q.e)],.bp 0 0,.kp [sl eC .no q.l]] q.d] [some [.val (nI q.f),.val (nI q.z),sl eC .no q.lv,sl dC (.own 16) q.S]] (.tup []) [some [.val (nI q.f),.val (nI q.z),sl eC .no q.lv,sl dC (.own 16) (q.S++cH q.l q.f q.e q.d q.a q.b)]]
def zC (W:A91→Prop)(fc:∀q:A91,W q→E7 gl q):Small Tryd.prog gl 91 {q:A91 // W q} where
 k:=1
 j:=4
 args q:=[.val (nI q.1.a),.val (nI q.1.b),.kp [.val (nI q.1.f)],.kp [.val (nI q.1.e)],.bp 0 0,.kp [sl eC .no q.1.l],b8 91 [.kp [.val (nI q.1.f)],.kp [.val (nI q.1.e)],.bp 0 0,.kp [sl eC .no q.1.l]] q.1.d]
 X q:=[some [.val (nI q.1.f),.val (nI q.1.z),sl eC .no q.1.lv,sl dC (.own 16) q.1.S]]
 r q:= .tup []
 Y q:=[some [.val (nI q.1.f),.val (nI q.1.z),sl eC .no q.1.lv,sl dC (.own 16) (q.1.S++cH q.1.l q.1.f q.1.e q.1.d q.1.a q.1.b)]]
 k0:=by decide
 hk _:=rfl
 hy _:=rfl
 al q:=fun o h=>by rw[List.mem_singleton.1 h];rfl
 nr q:=by
  simp only[af,ag,am,ay,ar,Bool.and_true,Bool.true_and]
  rw[mq 1 91 _ (by simp only[af,ag,am,ay,ar,Bool.and_true,Bool.true_and];rfl)];rfl
 nx q:=tR _ _ _ _
 at0 q:=⟨0,rfl⟩
 inj:=fun x y h1 h2=>by
  simp only[List.cons.injEq,Option.some.injEq,C.val.injEq,C.kp.injEq,aT,aU,and_true,true_and] at h1 h2
  have e:=mz h1.2.2.2.2.2
  simp only[h1,h2,e,and_self]
 fc q:=fc q.1 q.2
theorem zD (W:A91→Prop)(fc:∀q:A91,W q→E7 gl q)(hp:Nat→List C→Hp→Option (C×Hp))(q:A91)(hq:W q)(pre suf:Hp)(h0:OkH pre)(h1:OkH suf):
 (zC W fc).tab hp 91 [.val (nI q.a),.val (nI q.b),.kp [.val (nI q.f)],.kp [.val (nI q.e)],.bp pre.length 0,.kp [sl eC .no q.l],b8 91 [.kp [.val (nI q.f)],.kp [.val (nI q.e)],.bp pre.length 0,.kp [sl eC .no q.l]] q.d] (pre++([some [.val (nI q.f),.val (nI q.z),sl eC .no q.lv,sl dC (.own 16) q.S]]++suf)) =some (.tup [],pre++([some [.val (nI q.f),.val (nI q.z),sl eC .no q.lv,sl dC (.own 16) (q.S++cH q.l q.f q.e q.d q.a q.b)]]++suf)):=by
 have h:=gC (zC W fc) hp ⟨q,hq⟩ pre suf h0 h1
 simpa only[zC,vr,List.length_nil,Nat.zero_add,Nat.add_zero,bkCs,bS,kN,qr,gV,kM,Option.map_some,List.map_cons,List.map_nil,List.nil_append,List.cons_append] using h
theorem KR (hcx:CxOK (ao gl M pu))(hnr:∀ (g:Nat) (xs:List C),noRefs 0 xs=false→pu g xs=none)(h51:∀l:List ab,OkL l→0< l.length→pu 51 [sl eC .no l] =some (.agg (cl bC (iu l))))(h81:∀x y:Nat,x≤y∧y≤4611686018427387000→pu 81 [.val (nI x),.val (nI y)] =some (.val (nI (x+aD (y - x))))):∀ (d:Nat)(q:A91),q.d=d→E7 gl q
 |0,⟨l,f,e,z,lv,S,d,a,b,hk⟩,hd=>by
  obtain rfl:d=0:=hd
  obtain ⟨k1,k2,k3,k4,k5⟩:=hk
  exact EZ (hcx:=j8 hcx M) (l:=l) (f:=f) (e:=e) (z:=z) (lv:=lv) (S:=S) (d:=0) (a:=a) (b:=b) (hl:=k1) (hf:=k2) (hab:=k5) (hS:=k3) (hd:=k4) (hz:= .inr (.inr k5.2.2)) (hnr:=hnr) (h51:=h51)
 |d+1,⟨l,f,e,z,lv,S,d',a,b,hk⟩,hd=>by
  obtain rfl:d'=d+1:=hd
  obtain ⟨k1,k2,k3,k4,k5⟩:=hk
  by_cases hz:b≤f∨e≤a∨b - a≤1
  . exact EZ (hcx:=j8 hcx M) (l:=l) (f:=f) (e:=e) (z:=z) (lv:=lv) (S:=S) (d:=d+1) (a:=a) (b:=b) (hl:=k1) (hf:=k2) (hab:=k5) (hS:=k3) (hd:=k4) (hz:=hz) (hnr:=hnr) (h51:=h51)
  . have F:=KR hcx hnr h51 h81 d
    exact PH (hcx:=e9 (M:=M) (j8 hcx M) ⟨_,Tryd.func91,rfl,rfl⟩ (zC (fun q=>q.d=d) F)) (l:=l) (f:=f) (e:=e) (z:=z) (lv:=lv) (S:=S) (d:=d) (a:=a) (b:=b) (hl:=k1) (hf:=k2) (hab:=k5) (hS:=k3) (hd:=k4)
     (hq91:=fun S a b h1 h2=>by
       have h:=zD (fun q=>q.d=d) F (fun _ _ _=>none) ⟨l,f,e,z,lv,S,d,a,b,k1,k2,h1,by omega,h2⟩ rfl [] [] OkH.nil OkH.nil
       simpa only[List.length_nil,List.nil_append,List.append_nil] using h)
     (hz1:=by omega) (hz2:=by omega) (hz3:=by omega) (hnr:=hnr) (hn91:=fun xs h=>Small.never _ _ xs h) (h81:=h81)
theorem Qb (hcx:CxOK (ao gl M pu))(hnr:∀ (g:Nat) (xs:List C),noRefs 0 xs=false→pu g xs=none)(h63:∀l:List ab,l.length≤1000000→pu 63 [sl eC .no l] =some (sl eC (.own 2) l))(h51:∀l:List ab,OkL l→0< l.length→pu 51 [sl eC .no l] =some (.agg (cl bC (iu l))))(h81:∀x y:Nat,x≤y∧y≤4611686018427387000→pu 81 [.val (nI x),.val (nI y)] =some (.val (nI (x+aD (y - x)))))(l:List ab)(f e:Nat)(hl:OkL l)(hfe:f≤e∧e≤l.length):
 FC Tryd.prog gl 57 [sl eC .no l,.val (nI f),.val (nI e)] [] (.agg [.val (nI f),.val (nI l.length),sl eC .no ((l.drop f).take (e - f)),sl dC .no (cd l f e)]) []:=by
 have F:∀q:A91,True→E7 gl q:=fun q _=>KR hcx hnr h51 h81 q.d q rfl
 exact Tv (hcx:=e9 (M:=M) (j8 hcx M) ⟨_,Tryd.func91,rfl,rfl⟩ (zC (fun _=>True) F)) (hnr:=hnr) (h63:=h63) (hn91:=fun xs h=>Small.never _ _ xs h)
  (hq91:=fun pre suf l f e z lv S d a b h0 h1 h2 h3 h4 h5 h6=>zD _ F _ ⟨l,f,e,z,lv,S,d,a,b,h2,h3,h4,h5,h6⟩ True.intro pre suf h0 h1) (l:=l) (f:=f) (e:=e) (hl:=hl) (hfe:=hfe)
structure A93 where
 (l:List ab) (f z:Nat) (S0:List bL) (st:US) (d a b:Nat)
 ok:OkL l∧f≤5000∧st.2.length≤1000000∧a< b∧b≤5000∧b - a≤2 ^ d
abbrev E8 (gl:Nat→C)(q:A93):Prop:=FC Tryd.prog gl 93 [.val (nI q.a),.val (nI q.b),.bp 0 0,.kp [.val (nI q.f),.val (nI q.z),sl eC .no q.l,sl dC .no q.S0],.kp [.val (nI (q.f+q.l.length))],.bp 1 0,b8 93 [.bp 0 0,.kp [.val (nI q.f),.val (nI q.z),sl eC .no q.l,sl dC .no q.S0],.kp [.val (nI (q.f+q.l.length))],.bp 1 0] q.d] [some [.val (.bool q.st.1)],some [sl dC .no q.st.2]] (.agg (cl bC (cm q.l q.f q.d q.a q.b q.st).1)) [some [.val (.bool (cm q.l q.f q.d q.a q.b q.st).2.1)],some [sl dC .no (cm q.l q.f q.d q.a q.b q.st).2.2]]
def zE (W:A93→Prop)(fc:∀q:A93,W q→E8 gl q):Small Tryd.prog gl 93 {q:A93 // W q} where
 k:=2
 j:=2
 args q:=[.val (nI q.1.a),.val (nI q.1.b),.bp 0 0,.kp [.val (nI q.1.f),.val (nI q.1.z),sl eC .no q.1.l,sl dC .no q.1.S0],.kp [.val (nI (q.1.f+q.1.l.length))],.bp 1 0,b8 93 [.bp 0 0,.kp [.val (nI q.1.f),.val (nI q.1.z),sl eC .no q.1.l,sl dC .no q.1.S0],.kp [.val (nI (q.1.f+q.1.l.length))],.bp 1 0] q.1.d]
 X q:=[some [.val (.bool q.1.st.1)],some [sl dC .no q.1.st.2]]
 r q:= .agg (cl bC (cm q.1.l q.1.f q.1.d q.1.a q.1.b q.1.st).1)
 Y q:=[some [.val (.bool (cm q.1.l q.1.f q.1.d q.1.a q.1.b q.1.st).2.1)],some [sl dC .no (cm q.1.l q.1.f q.1.d q.1.a q.1.b q.1.st).2.2]]
 k0:=by decide
 hk _:=rfl
 hy _:=rfl
 al q:=fun o h=>by
  rcases List.mem_cons.1 h with h|h
  . rw[h];rfl
  . rw[List.mem_singleton.1 h];rfl
 nr q:=by
  simp only[af,ag,am,ay,ar,Bool.and_true,Bool.true_and]
  rw[mq 2 93 _ (by simp only[af,ag,am,ay,ar,Bool.and_true,Bool.true_and];rfl)];rfl
 nx q:=tY _ _
 at0 q:=⟨0,rfl⟩
 inj:=fun x y h1 h2=>by
  simp only[List.cons.injEq,Option.some.injEq,C.val.injEq,C.kp.injEq,Value.bool.injEq,aT,aU,and_true,true_and] at h1 h2
  have e:=mz h1.2.2.2.2
  have e2:x.1.st=y.1.st:=Prod.ext h2.1 h2.2
  simp only[h1,e2,e,and_self]
 fc q:=fc q.1 q.2
theorem zF (W:A93→Prop)(fc:∀q:A93,W q→E8 gl q)(hp:Nat→List C→Hp→Option (C×Hp))(q:A93)(hq:W q)(suf:Hp)(h1:OkH suf):
 (zE W fc).tab hp 93 [.val (nI q.a),.val (nI q.b),.bp 0 0,.kp [.val (nI q.f),.val (nI q.z),sl eC .no q.l,sl dC .no q.S0],.kp [.val (nI (q.f+q.l.length))],.bp 1 0,b8 93 [.bp 0 0,.kp [.val (nI q.f),.val (nI q.z),sl eC .no q.l,sl dC .no q.S0],.kp [.val (nI (q.f+q.l.length))],.bp 1 0] q.d] ([some [.val (.bool q.st.1)],some [sl dC .no q.st.2]]++suf) =some (.agg (cl bC (cm q.l q.f q.d q.a q.b q.st).1),[some [.val (.bool (cm q.l q.f q.d q.a q.b q.st).2.1)],some [sl dC .no (cm q.l q.f q.d q.a q.b q.st).2.2]]++suf):=by
 have h:=gC (zE W fc) hp ⟨q,hq⟩ [] suf OkH.nil h1
 simpa only[zE,vr,List.length_nil,Nat.zero_add,Nat.add_zero,bkCs,bS,kN,qr,gV,kM,Option.map_some,List.map_cons,List.map_nil,List.nil_append,List.cons_append] using h
theorem KS (hcx:CxOK (ao gl M pu))(hnr:∀ (g:Nat) (xs:List C),noRefs 0 xs=false→pu g xs=none)(h80:∀x:ab,x.1.length≤65536∧x.2.length≤65536→pu 80 [.agg (eC x)] =some (.agg (cl bC (d5 x))))(h81:∀x y:Nat,x≤y∧y≤4611686018427387000→pu 81 [.val (nI x),.val (nI y)] =some (.val (nI (x+aD (y - x)))))(h82:∀a b:List UInt8,a.length=16→b.length=16→pu 82 [.agg (cl bC a),.agg (cl bC b)] =some (.agg (cl bC (fJ a b)))):∀ (d:Nat)(q:A93),q.d=d→E8 gl q
 |0,⟨l,f,z,S0,st,d,a,b,hk⟩,hd=>by
  obtain rfl:d=0:=hd
  obtain ⟨k1,k2,k3,k4⟩:=hk
  exact E2 (hcx:=j8 hcx M) (l:=l) (f:=f) (z:=z) (S0:=S0) (st:=st) (d:=0) (a:=a) (b:=b) (hl:=k1) (hf:=k2) (hS:=k3) (hab:=k4) (hz:= .inr (.inr (.inr k4.2.2))) (hnr:=hnr) (h80:=h80)
 |d+1,⟨l,f,z,S0,st,d',a,b,hk⟩,hd=>by
  obtain rfl:d'=d+1:=hd
  obtain ⟨k1,k2,k3,k4⟩:=hk
  by_cases hz:st.1=false∨b≤f∨f+l.length≤a∨b - a≤1
  . exact E2 (hcx:=j8 hcx M) (l:=l) (f:=f) (z:=z) (S0:=S0) (st:=st) (d:=d+1) (a:=a) (b:=b) (hl:=k1) (hf:=k2) (hS:=k3) (hab:=k4) (hz:=hz) (hnr:=hnr) (h80:=h80)
  . have F:=KS hcx hnr h80 h81 h82 d
    have hst:st.1=true:=by
     cases h:st.1 with
     |true=>rfl
     |false=>exact (hz (.inl h)).elim
    exact PL (hcx:=e9 (M:=M) (j8 hcx M) ⟨_,Tryd.func93,rfl,rfl⟩ (zE (fun q=>q.d=d) F)) (l:=l) (f:=f) (z:=z) (S0:=S0) (st:=st) (d:=d) (a:=a) (b:=b) (hl:=k1) (hf:=k2) (hS:=k3) (hab:=k4)
     (hq93:=fun suf st a b h1 h2 h3=>zF (fun q=>q.d=d) F _ ⟨l,f,z,S0,st,d,a,b,k1,k2,h2,h3⟩ rfl suf h1)
     (hz0:=hst) (hz1:=by omega) (hz2:=by omega) (hz3:=by omega) (hnr:=hnr) (h81:=h81) (h82:=h82)
theorem Qc (hcx:CxOK (ao gl M pu))(hnr:∀ (g:Nat) (xs:List C),noRefs 0 xs=false→pu g xs=none)(h15:∀l:List ab,LB l→pu 15 [sl eC .no l] =some (.val (nI (bR l))))(h50:∀ (n:Nat) (d:List UInt8),n≤4096→d.length=16→pu 50 [.val (nI n),.agg (cl bC d)] =some (.agg (cl bC (d6 n d))))(h80:∀x:ab,x.1.length≤65536∧x.2.length≤65536→pu 80 [.agg (eC x)] =some (.agg (cl bC (d5 x))))(h81:∀x y:Nat,x≤y∧y≤4611686018427387000→pu 81 [.val (nI x),.val (nI y)] =some (.val (nI (x+aD (y - x)))))(h82:∀a b:List UInt8,a.length=16→b.length=16→pu 82 [.agg (cl bC a),.agg (cl bC b)] =some (.agg (cl bC (fJ a b))))
 (r:List UInt8) (f z:Int) (l:List ab) (S:List bL) (hr:r.length=16) (hf: -9223372036854775808≤f∧f≤9223372036854775807) (hz: -9223372036854775808≤z∧z≤9223372036854775807) (hl:LB l) (hS:S.length≤1000000):
 FC Tryd.prog gl 61 [.agg [.val (.int .i64 f),.val (.int .i64 z),sl eC .no l,sl dC .no S],.agg (cl bC r)] [] (.val (.bool (dq r f z l S))) []:=by
 have F:∀q:A93,True→E8 gl q:=fun q _=>KS hcx hnr h80 h81 h82 q.d q rfl
 exact Ty (hcx:=e9 (M:=M) (j8 hcx M) ⟨_,Tryd.func93,rfl,rfl⟩ (zE (fun _=>True) F)) (hnr:=hnr) (h15:=h15) (h50:=h50)
  (hq93:=fun suf l f z S0 st d a b h1 h2 h3 h4 h5=>zF _ F _ ⟨l,f,z,S0,st,d,a,b,h2,h3,h4,h5⟩ True.intro suf h1) (r:=r) (f:=f) (z:=z) (l:=l) (S:=S) (hr:=hr) (hf:=hf) (hz:=hz) (hl:=hl) (hS:=hS)
theorem TN (hcx:CxOK (ao gl M pu))(l:List ab)(hl:l.length≤1000000):FC Tryd.prog gl 63 [sl eC .no l] [] (sl eC (.own 2) l) []:=by
 by_cases h:l= []
 . subst h
   refine ER (pre:=[]) (post:=[]) ⟨_,Tryd.func63,rfl,rfl⟩ fun a cap hc=>?_
   cases a with
   |none=>exact PF hcx cap hc
   |some x=>exact PG hcx x cap hc
 . exact PE hcx l hl h
theorem aC (k f:Nat)(xs:List C):ah k (.fn f xs) =noRefs k xs:=rfl
theorem aG (k:Nat)(x:ab):noRefs k (eC x) =true:=rfl
theorem aH (k:Nat)(l:List ab)(d:Nat):ah k (b8 79 [.kp [sl eC .no l]] d) =true:=mq k 79 _ (by simp only[af,ag,ay,ar,Bool.and_self]) d
theorem Qd (hcx:CxOK (ao gl M pu))(a b:List UInt8):FC Tryd.prog gl 90 [.val (str a),.val (str b)] [] (.val (.int .i64 (dY a b))) []:=Tu a b
theorem TO (hcx:CxOK (ao gl M pu))(n:Int)(hn: -9223372036854775808≤n∧n≤9223372036854775807):FC Tryd.prog gl 39 [.val (.int .i64 n)] [] (sl bC (.own 1) (co n)) []:=by
 by_cases h:0≤n
 . obtain ⟨m,rfl⟩:∃m:Nat,n= (m:Int):=⟨n.toNat,by omega⟩
   rw[fW];exact RQ hcx m (by omega)
 . obtain ⟨m,rfl⟩:∃m:Nat,n= -1 - (m:Int):=⟨(-1 - n).toNat,by omega⟩
   rw[oq _ (fP 8 m (by omega))];exact RR hcx m (by omega)
theorem TP (hcx:CxOK (ao gl M pu))(n:Int)(hn: -9223372036854775808≤n∧n≤9223372036854775807):FC Tryd.prog gl 83 [.val (.int .i64 n)] [] (sl bC (.own 1) (co n)) []:=by
 by_cases h:0≤n
 . obtain ⟨m,rfl⟩:∃m:Nat,n= (m:Int):=⟨n.toNat,by omega⟩
   rw[fW];exact RS hcx m (by omega)
 . obtain ⟨m,rfl⟩:∃m:Nat,n= -1 - (m:Int):=⟨(-1 - n).toNat,by omega⟩
   rw[oq _ (fP 8 m (by omega))];exact RT hcx m (by omega)
end
end Go.Sx
namespace Go.Sx
open Go.RowKit Go.Proofs
set_option maxRecDepth 100000
set_option maxHeartbeats 8000000
theorem rG {t e:Nat}{u:TypeDesc}(he:td Tryd.prog e=some ⟨u,2,32,[str [],str []]⟩)(n:Nat)(h:n≤1000000)(y:Nat)(z:List Value)(s:Nat):oA Tryd.prog true (some ⟨.slice e,s,y,z⟩) (.val (nI n)) (.val (nI n)) =some (.new (cl eC (nR n)) fun id=> .gv id n (2,e)):=by
 unfold oA
 have e1: (C.val (nI n)).int?=some (.i64,(n:Int)):=rfl
 simp only[e1,he]
 rw[if_pos ⟨by omega,trivial,by omega,by omega,rfl,rfl⟩]
 rw[show ((n:Nat):Int).toNat=n from rfl,t4]
 rfl
theorem Lf (n:Nat)(h:n≤1000000):oA Tryd.prog true (some ⟨.slice 41,1,24,[.slice none 0 0]⟩) (.val (nI n)) (.val (nI n)) =some (.new (cl eC (nR n)) fun id=> .gv id n (2,41)):=rG (t:=33) P6 n h _ _ _
theorem Lg (n:Nat)(h:n≤1000000):oA Tryd.prog true (some ⟨.slice 75,1,24,[.slice none 0 0]⟩) (.val (nI n)) (.val (nI n)) =some (.new (cl eC (nR n)) fun id=> .gv id n (2,75)):=rG (t:=24) P7 n h _ _ _
theorem SO (n:Nat)(x:UInt8):List.take n (List.replicate n x) =List.replicate n x:=List.take_of_length_le (by rw[List.length_replicate];omega)
theorem Lh (l:List ab): (dO l).1.length=16:=by unfold dO;split;exact fh l;rfl
theorem gZ {p:Prop}(e:p:=by intro KZ hZ;simp -implicitDefEqProofs (disch:=first|omega| (simp only[go_sem,lA,lD,lT,qE,j6,hR0,List.length_replicate] <;>omega) |decide) only[go_sem,↓reduceIte,Nat.reduceEqDiff,reduceCtorEq,Nat.reduceLT,Nat.reduceBEq,Nat.reduceAdd,eq_self,decide_true,decide_false,not_true_eq_false,not_false_eq_true,h19,E4,e17,hy];with_reducible exact hZ):p:=e
theorem E9 {p:Prop}(e:p:=by intro KZ hZ;simp -implicitDefEqProofs (disch:=first|omega| (simp only[go_sem,lA,lD,lT,qE,j6,hR0,List.length_replicate] <;>omega) |decide) only[go_sem,↓reduceIte,Nat.reduceEqDiff,reduceCtorEq,Nat.reduceLT,Nat.reduceBEq,Nat.reduceAdd,eq_self,decide_true,decide_false,not_true_eq_false,not_false_eq_true,h19,E4,e17,hy];with_reducible refine And.intro ?_ hZ;first|exact rfl|decide):p:=e
theorem Qe {p:Prop}(e:p:=by simp -implicitDefEqProofs (disch:=first|omega| (simp only[go_sem,lA,lD,lT,qE,j6,hR0,List.length_replicate] <;>omega) |decide) only[go_sem,↓reduceIte,Nat.reduceEqDiff,reduceCtorEq];all_goals (rfl)):p:=e
theorem VM {gl:Nat→C}{M:Nat}{pu:Nat→List C→Option C}(hcx:CxOK (ao gl M pu))(hnr:∀ (g:Nat) (xs:List C),noRefs 0 xs=false→pu g xs=none)(h10:∀l:List Int,LI l→pu 10 [sl iC .no l] =some (sl eC (.own 2) (gG l)))(h11:∀r:List ab,r.length< 9223372036854775808→(∀i,i< r.length→(gt r i).1.length< 9223372036854775808∧(gt r i).2.length< 9223372036854775808)→pu 11 [sl eC .no r] =some (sl eC (.own 2) (gH r)))(h12:∀l:List ab,LB l→pu 12 [sl eC .no l] =some (.tup [.agg (cl bC (dO l).1),.val (nI (dO l).2)]))(h13:∀l:List ab,l.length≤1000000→pu 13 [sl eC .no l] =some (sl eC (.own 2) l))(h14:∀l:List ab,LB l→pu 14 [sl eC .no l] =some (.tup [.agg (cl bC (dO l).1),.val (nI (dO l).2)]))(h15:∀l:List ab,LB l→pu 15 [sl eC .no l] =some (.val (nI (bR l))))(h16:∀l:List ab,LB l→pu 16 [sl eC .no l] =some (.val (nI (bR l))))(h17:∀ (n:Int) (m:Nat),-9223372036854775808≤n∧n≤9223372036854775807∧0< m∧m≤9223372036854775807→pu 17 [.val (.int .i64 n),.val (nI m)] =some (.val (nI (eo n m))))(h18:∀l:List ab,l.length≤1000000→pu 18 [sl eC .no l] =some (sl eC (.own 2) l))(h19:pu 19 [] =some (.val (.bool true)))(l:List Int)(raw:List ab)(w:Int)(hl:LI l)(hrl:raw.length< 9223372036854775808)(hrs:∀i,i< raw.length→(gt raw i).1.length< 9223372036854775808∧(gt raw i).2.length< 9223372036854775808)(hw: -9223372036854775808≤w∧w≤9223372036854775807):FC Tryd.prog gl 3 [sl iC .no l,sl eC .no raw,.val (.int .i64 w)] [] (.val (.bool true)) []:=by
 replace hcx:=hcx.reN (M:=92)
 refine aP (cx:=ao gl 92 pu) (rs:=[.tmp 6]) rfl Tryd.func3 rfl rfl rfl (by simp only[List.length_cons,List.length_nil];decide) (by simp only[go_sem]) ?_
 simp only[bQ,go_sem]
 have hy:=True.intro
 have e10:=h10 l hl
 have e11:=h11 raw hrl hrs
 have hA:=rF w (m:=12) (by omega)
 have e17:pu 17 [.val (.int .i64 w),.val (nI 12)] =some (.val (nI (eo w 12))):=h17 w 12 ⟨hw.1,hw.2,by omega,by omega⟩
 generalize eo w 12=A at hA e17
 have e15z:=h15 (nR (4090+A)) (zv _ (by omega))
 have e16z:=h16 (nR (4090+A)) (zv _ (by omega))
 obtain ⟨W,hW⟩:∃W:List ab,[([97],List.replicate (65530+A) 0),([98],[])] =W:=⟨_,rfl⟩
 have hWl:W.length=2:=by rw[←hW];rfl
 have lbW:LB W:=by
  rw[←hW]
  refine ⟨by show 2< _;omega,fun i hi=>?_⟩
  have hi:i< 2:=hi
  rcases i with _|_|i
  . show 1< _∧(List.replicate (65530+A) (0:UInt8)).length< _
    rw[List.length_replicate];omega
  . show 1< _∧0< _
    omega
  . omega
 have e15w:=h15 W lbW
 have e16w:=h16 W lbW
 have e18w:=h18 W (by omega)
 have hR0:=True.intro
 have n15:∀b n s,pu 15 [.gv b n s] =none:=fun _ _ _=>hnr _ _ rfl
 have n16:∀b n s,pu 16 [.gv b n s] =none:=fun _ _ _=>hnr _ _ rfl
 refine aa hcx [] _ [] rfl rfl rfl ?_ gZ
 have hy:=And.intro @e10 @e11
 refine aa hcx [1000019] _ [] rfl rfl rfl ?_ gZ
 refine ae fun K1 hK1=>?_
 refine Tr.live [(2,.val (.int .i64 w)),(7,sl (lC eC) .full (t5 l raw))] (by simp only[bc,bJ,↓bG,↓reduceIte,Nat.reduceEqDiff,and_true];exact ⟨CLe.refl _,KA rfl⟩) ?_
 have hy:=True.intro
 refine aa hcx [] _ [] rfl rfl rfl ?_ gZ
 refine Tr.k [2,7,8] ?_
 refine Tr.blk ?_
 refine Ey hcx (α:=Nat) (fun a=>[(2,?v2_1),(7,?v7_1),(8,.val (nI a))]) (fun a=>[]) (fun a=>a≤3) (fun a=>3 - a) (0) (Nat.zero_le _) ?le_1 ?hh_1 ?bd_1
 case hh_1=>exact rfl
 case le_1=>exact LT
 rintro i hi
 refine ae fun K2 hK2=>?_
 refine aa hcx [] _ [] rfl rfl rfl ?_ gZ
 refine bq rfl (fun hc23=>?_) (fun hc23=>?_)
 ·
  have hi3:i< 3:=hc23
  have hok:=KD l raw i hi3
  obtain ⟨X,hX⟩:∃X,gt (t5 l raw) i=X:=⟨_,rfl⟩
  rw[hX] at hok
  have hXl:=hok.1
  have lbX:LB X:=xb ⟨by omega,fun j hj=>by have:=hok.2 j hj;omega⟩
  have e13:=h13 X (by omega)
  have e12:=h12 X lbX
  have e14:=h14 X lbX
  have e15:=h15 X lbX
  have e16:=h16 X lbX
  have hR0:=Lh X
  refine Tr.skip ?_
  refine hK2 _ ?_
  refine ae fun K3 hK3=>?_
  refine Tr.blk ?_
  have hy:=And.intro @hX (And.intro @e13 @e12)
  refine aa hcx [1000034] _ [none] rfl rfl rfl ?_ gZ
  refine Tr.k [2,7,8,9,10] ?_
  have hy:=And.intro @hX @e14
  refine aa hcx [1000042] _ [none] rfl rfl rfl ?_ gZ
  refine Tr.k [2,7,8,9,10,11,12] ?_
  have hy:=And.intro @hX (And.intro @e13 (And.intro @e15 (And.intro @e16 @qV)))
  refine ce hcx dR [] [some 43,some 44,some 45,some 46,some 47,some 48,some 49,some 50,some 51,some 52,some 53,some 54,some 55,some 56,some 57,some 58,some 59,some 60,some 61,some 62,some 63,some 64] [] rfl rfl rfl rfl ?_ E9
  refine Tr.k [2,7,8,64] ?_
  refine bF rfl ?_
  refine Tr.skip ?_
  refine hK3 _ ?_
  have hy:=True.intro
  refine br hcx [1000025] _ [] rfl rfl rfl ?_ gZ
  first
  | ((refine ⟨[],⟨by decide,by decide,by decide⟩,i+1,⟨(by omega),O1⟩,?_,by simp only[p9,lB,jG,p7,p8,Option.map_some,Option.map_none,kJ,p6,ly,jF,nB,kI,mm,pX,pY,pZ,nD,p4,jz,jA,jB,jC,jD,jE,nA,lx,↓reduceIte,Nat.reduceEqDiff,reduceCtorEq,Nat.reduceAdd,Nat.zero_add,Nat.one_ne_zero,Nat.zero_ne_one,p5,qf,jI,jJ,qg,jK,jL] <;>rfl⟩);(simp only[bJ,bc,↓bG,aY,bu,aZ,bv,bz,and_true,true_and,p9,lB,jG,p7,p8,Option.map_some,Option.map_none,kJ,p6,ly,jF,nB,kI,mm,pX,pY,pZ,nD,p4,jz,jA,jB,jC,jD,jE,nA,lx,↓reduceIte,Nat.reduceEqDiff,reduceCtorEq,Nat.reduceAdd,Nat.zero_add,Nat.one_ne_zero,Nat.zero_ne_one,p5,qf,jI,jJ,qg,jK,jL];all_goals (repeat' first|exact CLe.refl _|exact True.intro| (with_reducible refine And.intro ?_ ?_)));(all_goals (first| (rw[Hf];exact CLe.refl _) |exact CLe.refl _));(done))
 refine Tr.exit ?_
 refine hK1 _ ?_
 refine aa hcx [1000067] _ [] rfl rfl rfl ?_ gZ
 refine ae fun K4 hK4=>?_
 have hy:=And.intro @Lf (And.intro @Lg (And.intro @n15 (And.intro @n16 (And.intro @e15z @e16z))))
 refine Pn hcx dR [69,72] [] _ [none,none] rfl rfl rfl rfl ?_ E9
 refine bF rfl ?_
 refine Tr.skip ?_
 refine hK4 _ ?_
 refine Tr.k [2] ?_
 have hy:=And.intro @P8 (And.intro @oV (And.intro @SO @hW))
 refine aa hcx [1000082] _ [none] rfl rfl rfl ?_ gZ
 have hy:=And.intro @e15w (And.intro @e16w (And.intro @e18w (And.intro @SO @hW)))
 refine aa hcx [1000091] [some 83,some 84,some 85,some 86,some 87,some 88,some 89,some 90,some 91,some 6] [] rfl rfl rfl ?_ gZ
 exact Tr.ret Qe
end Go.Sx
