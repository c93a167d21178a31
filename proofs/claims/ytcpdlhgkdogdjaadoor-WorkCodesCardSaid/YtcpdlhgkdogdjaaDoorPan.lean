/-
   And what follows.
-/
import Derived.Test.YtcpdlhgkdogdjaaDoorPam
set_option linter.unusedSimpArgs false
set_option linter.unusedVariables false
namespace Go.Sx
open Go.RowKit Go.Proofs
set_option maxRecDepth 100000
set_option maxHeartbeats 8000000
theorem XB {gl:Nat→C}{M:Nat}{pu:Nat→List C→Option C}(hcx:CxOK (ax gl M pu))(x:BitVec 32)(k:Int):FC Tryd.prog gl 129 [.val (bY x),.val (.int .i64 k)] [] (.val (bY (nl x ((k % 18446744073709551616).toNat % 32)))) []:=by
 replace hcx:=hcx.reN (M:=17);refine aH (cx:=ax gl 17 pu) (rs:=[.tmp 4]) rfl Tryd.func129 rfl rfl rfl (by simp only[List.length_cons,List.length_nil];decide) (by simp only[go_sem]) ?_;simp only[bj,go_sem];have hy:=True.intro;refine Tr.w hcx [] _ [] rfl rfl rfl ?_ bz;refine Tr.w hcx [1000008] _ [] rfl rfl rfl ?_ bz;refine Tr.w hcx [1000016] _ [] rfl rfl rfl ?_ bz;exact Tr.ret mA
theorem zg {p:Prop}(e:p:=by intro KZ hZ;simp -implicitDefEqProofs (disch:=first|omega| (simp only[go_sem,lA,lD,lT] <;>omega) |decide) only[go_sem,↓reduceIte,Nat.reduceEqDiff,reduceCtorEq,Nat.reduceLT,Nat.reduceBEq,Nat.reduceAdd,h117,hy];exact hZ):p:=e
theorem LY {p:Prop}(e:p:=by simp -implicitDefEqProofs (disch:=first|omega| (simp only[go_sem,lA,lD,lT] <;>omega) |decide) only[go_sem,↓reduceIte,Nat.reduceEqDiff,reduceCtorEq];all_goals (rw[kb x _ i (by omega),kb x _ j (by omega),kb x _ k (by omega)])):p:=e
theorem XC {gl:Nat→C}{M:Nat}{pu:Nat→List C→Option C}(hcx:CxOK (ax gl M pu))(h117:∀x k,pu 129 [.val (bY x),.val (.int .i64 k)] =some (.val (bY (nl x ((k % 18446744073709551616).toNat % 32)))))(x:BitVec 32)(i j k:Nat)(hi:0< i∧i< 32)(hj:0< j∧j< 32)(hk:0< k∧k< 32):FC Tryd.prog gl 124 [.val (bY x),.val (nI i),.val (nI j),.val (nI k)] [] (.val (bY (rr x i ^^^ rr x j ^^^ rr x k))) []:=by
 replace hcx:=hcx.reN (M:=23);refine aH (cx:=ax gl 23 pu) (rs:=[.tmp 8]) rfl Tryd.func124 rfl rfl rfl (by simp only[List.length_cons,List.length_nil];decide) (by simp only[go_sem]) ?_;simp only[bj,go_sem];have hy:=True.intro;refine Tr.w hcx [] _ [] rfl rfl rfl ?_ zg;refine Tr.w hcx [1000022] _ [] rfl rfl rfl ?_ zg;exact Tr.ret LY
theorem dV {p:Prop}(e:p:=by intro KZ hZ;simp -implicitDefEqProofs (disch:=first|omega| (simp only[go_sem,lA,lD,lT,dZ,hb] <;>omega) |decide) only[go_sem,↓reduceIte,Nat.reduceEqDiff,reduceCtorEq,Nat.reduceLT,Nat.reduceBEq,Nat.reduceAdd,Nat.reduceSub,Nat.reduceMul,Nat.reduceMod,Int.reduceMod,Int.reduceToNat,Int.reduceNeg,h117,uh,wA,uf,ug,dZ,CD,CE,CF,CG,hy];exact hZ):p:=e
theorem zh {p:Prop}(e:p:=by intro KZ hZ;simp -implicitDefEqProofs (disch:=first|omega| (simp only[go_sem,lA,lD,lT,dZ,hb] <;>omega) |decide) only[go_sem,↓reduceIte,Nat.reduceEqDiff,reduceCtorEq,Nat.reduceLT,Nat.reduceBEq,Nat.reduceAdd,Nat.reduceSub,Nat.reduceMul,Nat.reduceMod,Int.reduceMod,Int.reduceToNat,Int.reduceNeg,h117,uh,wA,uf,ug,dZ,CD,CE,CF,CG,hy];refine And.intro ?_ hZ;exact rfl):p:=e
theorem LZ {p:Prop}(e:p:=by simp -implicitDefEqProofs (disch:=first|omega| (simp only[go_sem,lA,lD,lT,dZ,hb] <;>omega) |decide) only[go_sem,↓reduceIte,Nat.reduceEqDiff,reduceCtorEq];all_goals (simp[List.take_of_length_le,dZ])):p:=e
theorem XD {gl:Nat→C}{M:Nat}{pu:Nat→List C→Option C}(hcx:CxOK (ax gl M pu))(h117:∀x k,pu 129 [.val (bY x),.val (.int .i64 k)] =some (.val (bY (nl x ((k % 18446744073709551616).toNat % 32)))))(b:List UInt8)(hb:b.length=64):FC Tryd.prog gl 123 [sl bC .no b] [] (.agg (cl wC (bP b 64))) []:=by
 replace hcx:=hcx.reN (M:=79);refine aH (cx:=ax gl 79 pu) (rs:=[.cell 2 166]) rfl Tryd.func123 rfl rfl rfl (by simp only[List.length_cons,List.length_nil];decide) (by simp only[go_sem]) ?_;simp only[bj,go_sem];have hy:=True.intro;refine Tr.w hcx [] _ [none] rfl rfl rfl ?_ dV;refine Tr.w hcx [] _ [none] rfl rfl rfl ?_ dV;refine aa fun K1 hK1=>?_;refine Tr.w hcx [] _ [] rfl rfl rfl ?_ dV;refine Tr.k [0,2,3,11] ?_;refine Tr.blk ?_;refine ao (α:=Nat) (fun a=>[(0,?v0_1),(2,?v2_1),(3,?v3_1),(11,.val (nI a))]) (fun a=>[some (cl wC (List.replicate 64 0)),some (cl wC (bP b a++List.replicate (64 - a) 0))]) (fun a=>a≤64) (fun a=>64 - a) (0) ?_ ?le_1 ?hh_1 ?bd_1
 case hh_1=>exact rfl
 case le_1=>exact LT
 . omega
 rintro t ht;refine Tr.w hcx [] _ [] rfl rfl rfl ?_ dV;refine aa fun K2 hK2=>?_;refine af rfl (fun hc12=>?_) (fun hc12=>?_)
 ·
  refine Tr.skip ?_;refine hK2 _ ?_;refine aa fun K3 hK3=>?_;refine Tr.blk ?_;refine Tr.w hcx [1000013] _ [] rfl rfl rfl ?_ dV;refine aa fun K4 hK4=>?_;refine Tr.w hcx [] _ [] rfl rfl rfl ?_ dV;refine af rfl (fun hc15=>?_) (fun hc15=>?_)
  ·
   refine aa fun K5 hK5=>?_;refine Tr.w hcx [] _ [] rfl rfl rfl ?_ dV;refine Tr.k [0,2,3,4,11,22,23,24] ?_;refine Tr.blk ?_;refine ao (α:=Nat) (fun a=>[(0,?v0_2),(2,?v2_2),(3,?v3_2),(4,?v4_2),(11,?v11_2),(22,?v22_2),(23,?v23_2),(24,.val (nI a))]) (fun a=>[some (cl wC (List.replicate 64 0)),some (cl wC (bP b t++nn (((b.drop (4*t)).take 4).take a)::List.replicate (63 - t) 0))]) (fun a=>a≤4) (fun a=>4 - a) (0) ?_ ?le_2 ?hh_2 ?bd_2
   case hh_2=>exact GI b t (by omega)
   case le_2=>exact LT
   . omega
   rintro j hj;have hl4: (List.take 4 (List.drop (4*t) b)).length=4:=by simp;omega
   refine Tr.w hcx [] _ [] rfl rfl rfl ?_ dV;refine aa fun K6 hK6=>?_;refine af rfl (fun hc25=>?_) (fun hc25=>?_)
   ·
    refine Tr.skip ?_;refine hK6 _ ?_;refine aa fun K7 hK7=>?_;refine Tr.blk ?_;refine Tr.w hcx [1000027] _ [] rfl rfl rfl ?_ dV;refine Tr.v hcx [] _ [] rfl rfl rfl ?_ dV;refine hK7 _ ?_;refine Tr.v hcx [] _ [] rfl rfl rfl ?_ dV;exact ⟨j+1,⟨by omega,O1⟩,LT,CJ b t j (by omega) (by omega)⟩
   obtain rfl:j=4:=by omega
   refine Tr.exit ?_;refine hK5 _ ?_;refine Tr.exit ?_;refine hK3 _ ?_;refine Tr.v hcx [] _ [] rfl rfl rfl ?_ dV;exact ⟨t+1,⟨by omega,O1⟩,LT,by first|exact rc b t hb (by omega) |exact re b t (by omega)⟩
  refine Tr.skip ?_;refine hK4 _ ?_;refine cf hcx bM [1000041,1000045] _ [] rfl rfl rfl rfl ?_ zh;refine Tr.k [0,2,3,4,7,8,11] ?_;refine Tr.w hcx [1000053] _ [] rfl rfl rfl ?_ dV;refine Tr.w hcx [1000061] _ [] rfl rfl rfl ?_ dV;refine Tr.k [0,2,3,4,9,10,11] ?_;refine fS hcx bM [] _ [] rfl rfl rfl rfl ?_ zh;refine hK3 _ ?_;refine Tr.v hcx [] _ [] rfl rfl rfl ?_ dV;exact ⟨t+1,⟨by omega,O1⟩,LT,by first|exact rc b t hb (by omega) |exact re b t (by omega)⟩
 obtain rfl:t=64:=by omega
 refine Tr.exit ?_;refine hK1 _ ?_;refine Tr.w hcx [] _ [] rfl rfl rfl ?_ dV;exact Tr.ret LZ
theorem eV {p:Prop}(e:p:=by intro KZ hZ;simp -implicitDefEqProofs (disch:=first|omega| (simp only[go_sem,lA,lD,lT,dZ,hb,pM,l4,S8.l] <;>omega) |decide) only[go_sem,↓reduceIte,Nat.reduceEqDiff,reduceCtorEq,Nat.reduceLT,Nat.reduceBEq,Nat.reduceAdd,hg1,h116,h115,dZ,S8.l,pM,l4,hy];exact hZ):p:=e
theorem nK {p:Prop}(e:p:=by intro KZ hZ;simp -implicitDefEqProofs (disch:=first|omega| (simp only[go_sem,lA,lD,lT,dZ,hb,pM,l4,S8.l] <;>omega) |decide) only[go_sem,↓reduceIte,Nat.reduceEqDiff,reduceCtorEq,Nat.reduceLT,Nat.reduceBEq,Nat.reduceAdd,hg1,h116,h115,dZ,S8.l,pM,l4,hy];refine And.intro ?_ hZ;exact rfl):p:=e
theorem L0 {p:Prop}(e:p:=by simp -implicitDefEqProofs (disch:=first|omega| (simp only[go_sem,lA,lD,lT,dZ,hb,pM,l4,S8.l] <;>omega) |decide) only[go_sem,↓reduceIte,Nat.reduceEqDiff,reduceCtorEq];all_goals (subst hr;rfl)):p:=e
theorem XE {gl:Nat→C}{M:Nat}{pu:Nat→List C→Option C}(hcx:CxOK (ax gl M pu))(hg1:gl 1= .kp (cl wC kc))(h116:∀x i j k,0< i∧i< 32→0< j∧j< 32→0< k∧k< 32→pu 124 [.val (bY x),.val (nI i),.val (nI j),.val (nI k)] =some (.val (bY (rr x i ^^^ rr x j ^^^ rr x k))))(h115:∀b:List UInt8,b.length=64→pu 123 [sl bC .no b] =some (.agg (cl wC (bP b 64))))(s:S8)(b:List UInt8)(hb:b.length=64):FC Tryd.prog gl 115 [.agg (cl wC s.l),sl bC .no b] [] (.agg (cl wC (comp s b).l)) []:=by
 replace hcx:=hcx.reN (M:=116);refine aH (cx:=ax gl 116 pu) (rs:=[.cell 4 124]) rfl Tryd.func115 rfl rfl rfl (by simp only[List.length_cons,List.length_nil];decide) (by simp only[go_sem]) ?_;simp only[bj,go_sem];have hy:=True.intro;refine Tr.w hcx [] _ [none,none] rfl rfl rfl ?_ eV;refine Tr.w hcx [] _ [none] rfl rfl rfl ?_ eV;refine cf hcx bM [] _ [none,none] rfl rfl rfl rfl ?_ nK;refine aa fun K1 hK1=>?_;refine Tr.w hcx [] _ [] rfl rfl rfl ?_ eV;refine Tr.k [2,4,5,6,7,21,22] ?_;refine Tr.blk ?_;refine ao (α:=Nat) (fun a=>[(2,?v2_1),(4,?v4_1),(5,?v5_1),(6,?v6_1),(7,?v7_1),(21,?v21_1),(22,.val (nI a))]) (fun a=>[some (cl wC s.l),some (cl wC (List.replicate 8 0)),some (cl wC (bP b 64)),some (cl wC [(gK (bP b 64) s a).a,(gK (bP b 64) s a).b,(gK (bP b 64) s a).c,(gK (bP b 64) s a).d]),some (cl wC [(gK (bP b 64) s a).e,(gK (bP b 64) s a).f,(gK (bP b 64) s a).g,(gK (bP b 64) s a).h])]) (fun a=>a≤64) (fun a=>64 - a) (0) ?_ ?le_1 ?hh_1 ?bd_1
 case hh_1=>exact rfl
 case le_1=>exact LT
 . omega
 rintro t ht;generalize hr:gK (bP b 64) s t=r
 refine Tr.w hcx [] _ [] rfl rfl rfl ?_ eV;refine aa fun K2 hK2=>?_;refine af rfl (fun hc23=>?_) (fun hc23=>?_)
 ·
  refine Tr.skip ?_;refine hK2 _ ?_;refine aa fun K3 hK3=>?_;refine Tr.blk ?_;refine Tr.w hcx [1000024,1000025] _ [] rfl rfl rfl ?_ eV;refine Tr.k [2,4,5,6,7,8,9,21,22] ?_;refine cf hcx bM [1000050] _ [] rfl rfl rfl rfl ?_ nK;refine Tr.k [2,4,5,6,7,10,21,22] ?_;refine cf hcx bM [1000071] _ [] rfl rfl rfl rfl ?_ nK;refine Tr.k [2,4,5,6,7,10,11,21,22] ?_;refine Tr.w hcx [] _ [] rfl rfl rfl ?_ eV;refine Tr.k [2,4,5,6,7,10,11,21,22] ?_;refine Tr.v hcx [] _ [] rfl rfl rfl ?_ eV;refine hK3 _ ?_;refine Tr.v hcx [] _ [] rfl rfl rfl ?_ eV;exact ⟨t+1,⟨by omega,O1⟩,LT,by simp only[gK,hr];rfl⟩
 obtain rfl:t=64:=by omega
 refine Tr.exit ?_;refine hK1 _ ?_;refine aa fun K4 hK4=>?_;refine Tr.w hcx [] _ [] rfl rfl rfl ?_ eV;refine Tr.k [2,4,6,7,94] ?_;refine Tr.blk ?_;refine ao (α:=Nat) (fun a=>[(2,?v2_2),(4,?v4_2),(6,?v6_2),(7,?v7_2),(94,.val (nI a))]) (fun a=>[some (cl wC (QG s r a)),some (cl wC (List.replicate 8 0)),some (cl wC (bP b 64)),some (cl wC [r.a,r.b,r.c,r.d]),some (cl wC [r.e,r.f,r.g,r.h])]) (fun a=>a≤4) (fun a=>4 - a) (0) ?_ ?le_2 ?hh_2 ?bd_2
 case hh_2=>exact rfl
 case le_2=>exact LT
 . omega
 rintro i hi;refine Tr.w hcx [] _ [] rfl rfl rfl ?_ eV;refine aa fun K5 hK5=>?_;refine af rfl (fun hc95=>?_) (fun hc95=>?_)
 ·
  refine Tr.skip ?_;refine hK5 _ ?_;refine aa fun K6 hK6=>?_;refine Tr.blk ?_;refine Tr.w hcx [1000096] _ [] rfl rfl rfl ?_ eV;refine cf hcx bM [] _ [] rfl rfl rfl rfl ?_ nK;refine fS hcx bM [] _ [] rfl rfl rfl rfl ?_ nK;refine hK6 _ ?_;refine Tr.k [2,4,6,7,94] ?_;refine Tr.v hcx [] _ [] rfl rfl rfl ?_ eV;exact ⟨i+1,⟨by omega,O1⟩,LT,by rcases (show i=0∨i=1∨i=2∨i=3 by omega) with rfl|rfl|rfl|rfl<;>rfl⟩
 obtain rfl:i=4:=by omega
 refine Tr.exit ?_;refine hK4 _ ?_;refine Tr.w hcx [] _ [] rfl rfl rfl ?_ eV;exact Tr.ret L0
theorem ab3 {gl:Nat→C}{M:Nat}{pu:Nat→List C→Option C}(hcx:CxOK (ax gl M pu)):FC Tryd.prog gl 87 ([]:List C) [] (.agg F0.cells) []:=by
 replace hcx:=hcx.reN (M:=3);refine aH (cx:=ax gl 3 pu) (rs:=[.cell 0 128]) rfl Tryd.func87 rfl rfl rfl (by simp only[List.length_cons,List.length_nil];decide) (by simp only[Str.cells,d7,io,ip,js,bf,bQ,cH,cV,fC,Bool.and_self,Bool.and_true]) ?_;simp only[bj,go_sem];have hy:=True.intro;refine Tr.w hcx [] _ [none] rfl rfl rfl ?_ bz;refine Tr.w hcx [] _ [] rfl rfl rfl ?_ bz;exact Tr.ret mA
theorem kP {p:Prop}(e:p:=by intro KZ hZ;simp -implicitDefEqProofs (disch:=first|omega| (simp only[go_sem,lA,lD,lT,ef,wH] <;>omega) |decide) only[go_sem,↓reduceIte,Nat.reduceEqDiff,reduceCtorEq,Nat.reduceLT,Nat.reduceBEq,Nat.reduceAdd,Str.cells,h113,hno,ef,px,hy];exact hZ):p:=e
theorem QC {p:Prop}(e:p:=by intro KZ hZ;simp -implicitDefEqProofs (disch:=first|omega| (simp only[go_sem,lA,lD,lT,ef,wH] <;>omega) |decide) only[go_sem,↓reduceIte,Nat.reduceEqDiff,reduceCtorEq,Nat.reduceLT,Nat.reduceBEq,Nat.reduceAdd,Str.cells,h113,hno,ef,px,hy];refine And.intro ?_ hZ;exact rfl):p:=e
theorem QD {p:Prop}(e:p:=by simp -implicitDefEqProofs (disch:=first|omega| (simp only[go_sem,lA,lD,lT,ef,wH] <;>omega) |decide) only[go_sem,↓reduceIte,Nat.reduceEqDiff,reduceCtorEq];all_goals (rw[hGe];rfl)):p:=e
theorem ab4 {gl:Nat→C}{M:Nat}{pu:Nat→List C→Option C}(hcx:CxOK (ax gl M pu))(h113:∀ (s:S8) (b:List UInt8),b.length=64→pu 115 [.agg (cl wC s.l),sl bC .no b] =some (.agg (cl wC (comp s b).l)))(hno:∀ (g:Nat) (xs:List C),gb xs=true→pu g xs=none)(F:Str)(t:List UInt8)(hb:F.blk.length=64)(hn:F.n+t.length< 1152921504606846976):FC Tryd.prog gl 88 [.agg F.cells,.val (str t)] [] (.agg (d9 F t).cells) []:=by
 replace hcx:=hcx.reN (M:=38);refine aH (cx:=ax gl 38 pu) (rs:=[.cell 4 128]) rfl Tryd.func88 rfl rfl rfl (by simp only[List.length_cons,List.length_nil];decide) (by simp only[Str.cells,d7,io,ip,js,bf,bQ,cH,cV,fC,Bool.and_self,Bool.and_true]) ?_;simp only[bj,go_sem];have hy:=True.intro;refine Tr.w hcx [] _ [none,none] rfl rfl rfl ?_ kP;refine Tr.k [1,2,4] ?_;refine aa fun K1 hK1=>?_;refine Tr.blk ?_;refine ao (α:=Nat) (fun a=>[(1,.val (str (t.drop a))),(2,?v2_1),(4,?v4_1)]) (fun a=>[some (d9 F (t.take a)).cells,some (cl wC Z8++(cl bC (List.replicate 64 0)++[.val (nU 0)]))]) (fun a=>a≤t.length) (fun a=>t.length - a) (0) ?_ ?le_1 ?hh_1 ?bd_1
 case hh_1=>exact rfl
 case le_1=>exact LT
 . omega
 rintro c hc;have hGn:=sA (t.take c) F;have hGb:=ke (t.take c) F;rw[hb] at hGb;rw[List.length_take,Nat.min_eq_left hc] at hGn;have hdl: (t.drop c).length=t.length - c:=List.length_drop;generalize hG:d9 F (t.take c) =G at*
 generalize hL:t.drop c=L at*
 refine aa fun K2 hK2=>?_;refine Tr.w hcx [] _ [] rfl rfl rfl ?_ kP;refine af rfl (fun hc8=>?_) (fun hc8=>?_)
 ·
  have hlp:0< L.length:=List.length_pos_iff.2 hc8;refine Tr.skip ?_;refine hK2 _ ?_;refine Tr.blk ?_;refine Tr.w hcx [1000012] _ [] rfl rfl rfl ?_ kP;refine Tr.w hcx [1000017] _ [] rfl rfl rfl ?_ kP;refine Tr.w hcx [1000020] _ [] rfl rfl rfl ?_ kP;refine Tr.w hcx [] _ [] rfl rfl rfl ?_ kP;refine Tr.k [1,2,4,5,6] ?_;refine Tr.w hcx [] _ [] rfl rfl rfl ?_ kP;refine af rfl (fun hc30=>?_) (fun hc30=>?_)
  ·
   refine fS hcx bM [] _ [] rfl rfl rfl rfl ?_ QC;refine ⟨c+min L.length (64 - G.n % 64),⟨by omega,O1⟩,?_,by dsimp only;rw[wL F G t L c hG hL hGb hc8];first| (rw[if_pos hc30] <;>rfl) | (rw[if_neg hc30] <;>rfl)⟩
   (simp only[aX,aK,↓aT,↓reduceIte,Nat.reduceEqDiff,aE,aM,aF,aN,aO,and_true,true_and];all_goals (repeat' first|exact CLe.refl _|exact True.intro| (refine ay ?_;first|rfl| (simp only[List.take_zero];done)) |exact aV (by omega) |exact aB (by omega) |exact aJ (by omega) |exact aP (by omega) |with_reducible apply And.intro))
   all_goals (rw[←hL,List.drop_drop];exact CLe.refl _)
  refine Tr.skip ?_;refine ⟨c+min L.length (64 - G.n % 64),⟨by omega,O1⟩,?_,by dsimp only;rw[wL F G t L c hG hL hGb hc8];first| (rw[if_pos hc30] <;>rfl) | (rw[if_neg hc30] <;>rfl)⟩
  (simp only[aX,aK,↓aT,↓reduceIte,Nat.reduceEqDiff,aE,aM,aF,aN,aO,and_true,true_and];all_goals (repeat' first|exact CLe.refl _|exact True.intro| (refine ay ?_;first|rfl| (simp only[List.take_zero];done)) |exact aV (by omega) |exact aB (by omega) |exact aJ (by omega) |exact aP (by omega) |with_reducible apply And.intro))
  all_goals (rw[←hL,List.drop_drop];exact CLe.refl _)
 have hL0:L= []:=Classical.not_not.1 hc8;have hc0:c=t.length:=by rw[hL0] at hdl;simp only[List.length_nil] at hdl;omega
 have hGe:d9 F t=G:=by rw[←hG,hc0,List.take_length]
 refine Tr.exit ?_;refine hK1 _ ?_;refine Tr.w hcx [] _ [] rfl rfl rfl ?_ kP;exact Tr.ret QD
theorem eb {p:Prop}(e:p:=by intro KZ hZ;simp -implicitDefEqProofs (disch:=first|omega| (simp only[go_sem,lA,lD,lT,ef,rH,lH,ke,hb] <;>omega) |decide) only[go_sem,↓reduceIte,Nat.reduceEqDiff,reduceCtorEq,Nat.reduceLT,Nat.reduceBEq,Nat.reduceAdd,Str.cells,h104,ef,rH,lH,ug,uj,hy];exact hZ):p:=e
theorem QE {p:Prop}(e:p:=by simp -implicitDefEqProofs (disch:=first|omega| (simp only[go_sem,lA,lD,lT,ef,rH,lH,ke,hb] <;>omega) |decide) only[go_sem,↓reduceIte,Nat.reduceEqDiff,reduceCtorEq];all_goals (simp[pO,lH])):p:=e
theorem ab5 {gl:Nat→C}{M:Nat}{pu:Nat→List C→Option C}(hcx:CxOK (ax gl M pu))(h104:∀ (s:S8) (blk:List UInt8) (n:Nat) (t:List UInt8),blk.length=64→n+t.length< 1152921504606846976→pu 88 [.agg (cl wC s.l++(cl bC blk++[.val (nU n)])),.val (str t)] =some (.agg (d9 ⟨s,blk,n⟩ t).cells))(F:Str)(hb:F.blk.length=64)(hn:F.n< 576460752303423488):FC Tryd.prog gl 89 [.agg F.cells] [] (.agg (cl bC (pO F))) []:=by
 replace hcx:=hcx.reN (M:=58);refine aH (cx:=ax gl 58 pu) (rs:=[.cell 2 131]) rfl Tryd.func89 rfl rfl rfl (by simp only[List.length_cons,List.length_nil];decide) (by simp only[go_sem]) ?_;simp only[bj,go_sem];have hy:=True.intro;have hz:oJ F.n< 64:=Nat.mod_lt _ (by decide);refine Tr.w hcx [] _ [none,none] rfl rfl rfl ?_ eb;refine Tr.w hcx [1000010] _ [] rfl rfl rfl ?_ eb;refine Tr.w hcx [1000011] _ [] rfl rfl rfl ?_ eb;refine Tr.k [1,2,3,4] ?_;refine aa fun K1 hK1=>?_;refine Tr.blk ?_;refine ao (α:=Nat) (fun a=>[(1,?v1_1),(2,?v2_1),(3,?v3_1),(4,sl bC (.own 1) (128::List.replicate a 0))]) (fun a=>[some F.cells,some (cl bC (List.replicate 32 0))]) (fun a=>a≤oJ F.n) (fun a=>oJ F.n - a) (0) ?_ ?le_1 ?hh_1 ?bd_1
 case hh_1=>exact rfl
 case le_1=>(simp only[aX,aK,↓aT,↓reduceIte,Nat.reduceEqDiff,aE,aM,aF,aN,aO,and_true,true_and];all_goals (repeat' first|exact CLe.refl _|exact True.intro| (refine ay ?_;first|rfl| (simp only[List.take_zero];done)) |exact aV (by omega) |exact aB (by omega) |exact aJ (by omega) |exact aP (by omega) |with_reducible apply And.intro));exact CLe.full _ _ _
 . omega
 rintro z hzz;refine aa fun K2 hK2=>?_;refine Tr.w hcx [] _ [] rfl rfl rfl ?_ eb;refine af rfl (fun hc19=>?_) (fun hc19=>?_)
 ·
  refine Tr.skip ?_;refine hK2 _ ?_;refine Tr.blk ?_;refine Tr.v hcx [20,1000022] _ [] rfl rfl rfl ?_ eb;refine ⟨z+1,⟨by unfold oJ at*;omega,by unfold oJ at*;omega⟩,?_,rfl⟩
  (simp only[aX,aK,↓aT,↓reduceIte,Nat.reduceEqDiff,aE,aM,aF,aN,aO,and_true,true_and];all_goals (repeat' first|exact CLe.refl _|exact True.intro| (refine ay ?_;first|rfl| (simp only[List.take_zero];done)) |exact aV (by omega) |exact aB (by omega) |exact aJ (by omega) |exact aP (by omega) |with_reducible apply And.intro))
  all_goals (rw[List.replicate_succ'];exact CLe.refl _)
 obtain rfl:z=oJ F.n:=by unfold oJ at*;omega
 refine Tr.exit ?_;refine hK1 _ ?_;refine aa fun K3 hK3=>?_;refine Tr.w hcx [] _ [] rfl rfl rfl ?_ eb;refine Tr.k [1,2,3,4,23] ?_;refine Tr.blk ?_;refine ao (α:=Nat) (fun a=>[(1,?v1_2),(2,?v2_2),(3,?v3_2),(4,sl bC (.own 1) (128::List.replicate (oJ F.n) 0++pN (8*F.n) a)),(23,.val (nI a))]) (fun a=>[some F.cells,some (cl bC (List.replicate 32 0))]) (fun a=>a≤8) (fun a=>8 - a) (0) ?_ ?le_2 ?hh_2 ?bd_2
 case hh_2=>exact rfl
 case le_2=>(simp only[aX,aK,↓aT,↓reduceIte,Nat.reduceEqDiff,aE,aM,aF,aN,aO,and_true,true_and];all_goals (repeat' first|exact CLe.refl _|exact True.intro| (refine ay ?_;first|rfl| (simp only[List.take_zero];done)) |exact aV (by omega) |exact aB (by omega) |exact aJ (by omega) |exact aP (by omega) |with_reducible apply And.intro));all_goals (simp only[pN,List.range_zero,List.map_nil,List.append_nil];exact CLe.refl _)
 . omega
 rintro k hk;refine Tr.w hcx [] _ [] rfl rfl rfl ?_ eb;refine aa fun K4 hK4=>?_;refine af rfl (fun hc24=>?_) (fun hc24=>?_)
 ·
  refine Tr.skip ?_;refine hK4 _ ?_;refine aa fun K5 hK5=>?_;refine Tr.blk ?_;refine Tr.w hcx [1000025] _ [] rfl rfl rfl ?_ eb;refine Tr.v hcx [26,1000034] _ [] rfl rfl rfl ?_ eb;refine hK5 _ ?_;refine Tr.v hcx [] _ [] rfl rfl rfl ?_ eb;refine ⟨k+1,⟨by omega,O1⟩,?_,rfl⟩
  (simp only[aX,aK,↓aT,↓reduceIte,Nat.reduceEqDiff,aE,aM,aF,aN,aO,and_true,true_and];all_goals (repeat' first|exact CLe.refl _|exact True.intro| (refine ay ?_;first|rfl| (simp only[List.take_zero];done)) |exact aV (by omega) |exact aB (by omega) |exact aJ (by omega) |exact aP (by omega) |with_reducible apply And.intro))
  all_goals (rw[CK,←List.append_assoc];exact CLe.refl _)
 obtain rfl:k=8:=by omega
 refine Tr.exit ?_;refine hK3 _ ?_;refine Tr.w hcx [] _ [] rfl rfl rfl ?_ eb;refine Tr.w hcx [] _ [none] rfl rfl rfl ?_ eb;refine aa fun K6 hK6=>?_;refine Tr.w hcx [] _ [] rfl rfl rfl ?_ eb;refine Tr.k [1,2,6,40] ?_;refine Tr.blk ?_;refine ao (α:=Nat) (fun a=>[(1,?v1_3),(2,?v2_3),(6,?v6_3),(40,.val (nI a))]) (fun a=>[some (d9 F (QH F.n)).cells,some (cl bC (List.replicate 32 0)),some (cl bC (sD (d9 F (QH F.n)).s a++List.replicate (32 - a) 0))]) (fun a=>a≤32) (fun a=>32 - a) (0) ?_ ?le_3 ?hh_3 ?bd_3
 case hh_3=>exact rfl
 case le_3=>exact LT
 . omega
 rintro i hi;refine Tr.w hcx [] _ [] rfl rfl rfl ?_ eb;refine aa fun K7 hK7=>?_;refine af rfl (fun hc41=>?_) (fun hc41=>?_)
 ·
  refine Tr.skip ?_;refine hK7 _ ?_;refine aa fun K8 hK8=>?_;refine Tr.blk ?_;refine Tr.w hcx [1000042] _ [] rfl rfl rfl ?_ eb;refine Tr.v hcx [] _ [] rfl rfl rfl ?_ eb;refine hK8 _ ?_;refine Tr.v hcx [] _ [] rfl rfl rfl ?_ eb;exact ⟨i+1,⟨by omega,O1⟩,LT,by dsimp only;rw[←GL _ i hc41];rfl⟩
 obtain rfl:i=32:=by omega
 refine Tr.exit ?_;refine hK6 _ ?_;refine Tr.w hcx [] _ [] rfl rfl rfl ?_ eb;exact Tr.ret QE
theorem lZ {p:Prop}(e:p:=by intro KZ hZ;simp -implicitDefEqProofs (disch:=first|omega| (simp only[go_sem,lA,lD,lT,ef,ke,wK,sA,GK,lY,hlp1,hlp2] <;>omega) |decide) only[go_sem,↓reduceIte,Nat.reduceEqDiff,reduceCtorEq,Nat.reduceLT,Nat.reduceBEq,Nat.reduceAdd,h103,h104,h105,h77,Str.cells,uj,lY,hy];exact hZ):p:=e
theorem CA {p:Prop}(e:p:=by intro KZ hZ;simp -implicitDefEqProofs (disch:=first|omega| (simp only[go_sem,lA,lD,lT,ef,ke,wK,sA,GK,lY,hlp1,hlp2] <;>omega) |decide) only[go_sem,↓reduceIte,Nat.reduceEqDiff,reduceCtorEq,Nat.reduceLT,Nat.reduceBEq,Nat.reduceAdd,h103,h104,h105,h77,Str.cells,uj,lY,hy];refine And.intro ?_ hZ;exact rfl):p:=e
theorem QF {p:Prop}(e:p:=by simp -implicitDefEqProofs (disch:=first|omega| (simp only[go_sem,lA,lD,lT,ef,ke,wK,sA,GK,lY,hlp1,hlp2] <;>omega) |decide) only[go_sem,↓reduceIte,Nat.reduceEqDiff,reduceCtorEq];all_goals (simp only[ve,List.take_length])):p:=e
theorem ab6 {gl:Nat→C}{M:Nat}{pu:Nat→List C→Option C}(hcx:CxOK (ax gl M pu))(h103:pu 87 [] =some (.agg F0.cells))(h104:∀ (s:S8) (blk:List UInt8) (n:Nat) (t:List UInt8),blk.length=64→n+t.length< 1152921504606846976→pu 88 [.agg (cl wC s.l++(cl bC blk++[.val (nU n)])),.val (str t)] =some (.agg (d9 ⟨s,blk,n⟩ t).cells))(h105:∀ (s:S8) (blk:List UInt8) (n:Nat),blk.length=64→n< 576460752303423488→pu 89 [.agg (cl wC s.l++(cl bC blk++[.val (nU n)]))] =some (.agg (cl bC (pO ⟨s,blk,n⟩))))(h77:∀s:List UInt8,s.length< 70368744177664→pu 77 [.val (str s)] =some (sl bC (.own 1) (wb s)))(tag:Int)(parts:List (List UInt8))(hl: (gZ tag parts).length< 1099511627776):FC Tryd.prog gl 48 [.val (.int .i64 tag),sl sC .no parts] [] (.agg (cl bC ((ve (gZ tag parts)).take 16))) []:=by
 replace hcx:=hcx.reN (M:=32);refine aH (cx:=ax gl 32 pu) (rs:=[.cell 4 80]) rfl Tryd.func48 rfl rfl rfl (by simp only[List.length_cons,List.length_nil];decide) (by simp only[go_sem]) ?_;simp only[bj,go_sem];have hy:=True.intro;have hlp:=y4 tag parts hl;have hlp1:=hl;have hpl:=Cz tag parts hl;have hlp2:=True.intro;refine Tr.w hcx [] _ [none] rfl rfl rfl ?_ lZ;refine cf hcx bM [] _ [none] rfl rfl rfl rfl ?_ CA;refine aa fun K1 hK1=>?_;refine Tr.w hcx [] _ [] rfl rfl rfl ?_ lZ;refine Tr.k [4,5,15,16,17] ?_;refine Tr.blk ?_;refine ao (α:=Nat) (fun a=>[(4,?v4_1),(5,?v5_1),(15,?v15_1),(16,?v16_1),(17,.val (nI a))]) (fun a=>[some (cl bC (List.replicate 16 0)),some (d9 F0 (gZ tag (parts.take a))).cells]) (fun a=>a≤parts.length) (fun a=>parts.length - a) (0) ?_ ?le_1 ?hh_1 ?bd_1
 case hh_1=>exact rfl
 case le_1=>exact LT
 . omega
 rintro i hi;refine Tr.w hcx [] _ [] rfl rfl rfl ?_ lZ;refine aa fun K2 hK2=>?_;refine af rfl (fun hc18=>?_) (fun hc18=>?_)
 ·
  obtain ⟨hlp1,hlp2⟩:=hlp i hc18;refine Tr.skip ?_;refine hK2 _ ?_;refine aa fun K3 hK3=>?_;refine Tr.blk ?_;refine Tr.w hcx [1000020] _ [] rfl rfl rfl ?_ lZ;refine fS hcx bM [] _ [] rfl rfl rfl rfl ?_ CA;refine hK3 _ ?_;refine Tr.v hcx [] _ [] rfl rfl rfl ?_ lZ;exact ⟨i+1,⟨by omega,O1⟩,LT,by dsimp only;rw[wE tag parts i hc18,wJ] <;>rfl⟩
 obtain rfl:i=parts.length:=by omega
 have hlp1:=hl;have hlp2:=True.intro;simp only[List.take_length];refine Tr.exit ?_;refine hK1 _ ?_;refine Tr.w hcx [] _ [none] rfl rfl rfl ?_ lZ;refine Tr.w hcx [] _ [] rfl rfl rfl ?_ lZ;exact Tr.ret QF
theorem XF {gl:Nat→C}{M:Nat}{pu:Nat→List C→Option C}(hcx:CxOK (ax gl M pu))(m:Nat)(hm:m< 9223372036854775808):FC Tryd.prog gl 49 [.val (nI m)] [] (sl bC (.own 1) (wI m 0)) []:=by
 replace hcx:=hcx.reN (M:=47);refine aH (cx:=ax gl 47 pu) (rs:=[.tmp 2]) rfl Tryd.func49 rfl rfl rfl (by simp only[List.length_cons,List.length_nil];decide) (by simp only[go_sem]) ?_;simp only[bj,go_sem];have hy:=True.intro;have hk8: (le m).length≤8:=fu 8 m (by omega);refine Tr.w hcx [] _ [] rfl rfl rfl ?_ bz;refine Tr.scope ?_;refine Tr.w hcx [1000009] _ [] rfl rfl rfl ?_ bz;refine aa fun K1 hK1=>?_;refine Tr.w hcx [] _ [] rfl rfl rfl ?_ bz;refine wm rfl ((decide_eq_false (by omega))) ?_;refine Tr.skip ?_;refine hK1 _ ?_;refine Tr.w hcx [] _ [] rfl rfl rfl ?_ bz;refine aa fun K2 hK2=>?_;refine Tr.label ?_;refine hK2 _ ?_;refine Tr.k [3,4,5] ?_;refine aa fun K3 hK3=>?_;refine Tr.blk ?_;refine ao (α:=Nat) (fun a=>[(3,?v3_1),(4,?v4_1),(5,.val (nI a))]) (fun a=>?h_1) (fun a=>a≤8∧m< 256 ^ a) (fun a=>a) (8) ?_ ?le_1 ?hh_1 ?bd_1
 case hh_1=>exact rfl
 case le_1=>exact LT
 . exact ⟨by omega,by omega⟩
 rintro k ⟨hk,hmk⟩;refine aa fun K4 hK4=>?_;refine Tr.w hcx [] _ [] rfl rfl rfl ?_ bz;refine af rfl (fun hc15=>?_) (fun hc15=>?_)
 ·
  refine Tr.skip ?_;refine hK4 _ ?_;refine Tr.blk ?_;refine aa fun K5 hK5=>?_;refine Tr.w hcx [] _ [] rfl rfl rfl ?_ bz;refine af rfl (fun hc21=>?_) (fun hc21=>?_)
  ·
   have hkk:=qB m k hmk (.inr hc21);subst hkk;clear hc21 hmk hk hc15;refine Tr.exit ?_;refine hK3 _ ?_;refine Tr.w hcx [1000029] _ [] rfl rfl rfl ?_ bz;refine aa fun K6 hK6=>?_;have hy:= @mg;refine Tr.w hcx [1000031] _ [] rfl rfl rfl ?_ bz;refine Tr.k [3,4,6,7] ?_;refine Tr.blk ?_;refine ao (α:=Nat) (fun a=>[(3,?v3_2),(4,?v4_2),(6,sl bC (.own 1) ((UInt8.ofNat (128+(le m).length) ^^^ UInt8.ofNat 0):: ((be m (le m).length).map (· ^^^ UInt8.ofNat 0)).take a)),(7,.val (.int .i64 (((le m).length:Int) - 1 - (a:Int))))]) (fun a=>?h_2) (fun a=>a≤(le m).length) (fun a=>(le m).length - a) (0) ?_ ?le_2 ?hh_2 ?bd_2
   case hh_2=>exact rfl
   case le_2=>(simp only[aX,aK,↓aT,↓reduceIte,Nat.reduceEqDiff,aE,aM,aF,aN,aO,and_true,true_and];all_goals (repeat' first|exact CLe.refl _|exact True.intro| (refine ay ?_;first|rfl| (simp only[List.take_zero];done)) |exact aV (by omega) |exact aB (by omega) |exact aJ (by omega) |exact aP (by omega) |with_reducible apply And.intro));all_goals first|exact lJ (by simp) |exact aB (by omega)
   . omega
   rintro a ha;refine aa fun K7 hK7=>?_;have hy:=True.intro;refine Tr.w hcx [] _ [] rfl rfl rfl ?_ bz;refine af rfl (fun hc33=>?_) (fun hc33=>?_)
   ·
    refine Tr.skip ?_;refine hK7 _ ?_;refine aa fun K8 hK8=>?_;refine Tr.blk ?_;refine Tr.v hcx [36,1000045] _ [] rfl rfl rfl ?_ bz;refine hK8 _ ?_;refine Tr.v hcx [1000035] _ [] rfl rfl rfl ?_ bz;refine ⟨a+1,⟨by omega,O1⟩,?_,rfl⟩
    (simp only[aX,aK,↓aT,↓reduceIte,Nat.reduceEqDiff,aE,aM,aF,aN,aO,and_true,true_and];all_goals (repeat' first|exact CLe.refl _|exact True.intro| (refine ay ?_;first|rfl| (simp only[List.take_zero];done)) |exact aV (by omega) |exact aB (by omega) |exact aJ (by omega) |exact aP (by omega) |with_reducible apply And.intro))
    all_goals first|exact CLe.refl _|exact aB (by omega) | (refine fE ?_;rw[←qC m _ a (by omega),show (((8:Nat):Int)*(((le m).length:Int) - 1 - (a:Int))).toNat=8*((le m).length - 1 - a) by omega];try rfl)
   obtain rfl:a= (le m).length:=by omega
   refine Tr.exit ?_;refine hK6 _ ?_;refine Tr.w hcx [1000046] _ [] rfl rfl rfl ?_ bz;exact Tr.ret BP
  refine Tr.skip ?_;refine hK5 _ ?_;refine Tr.v hcx [1000023] _ [] rfl rfl rfl ?_ bz;refine ⟨k - 1,⟨⟨by omega,ze m k hc15 hc21⟩,O1⟩,?_,rfl⟩
  (simp only[aX,aK,↓aT,↓reduceIte,Nat.reduceEqDiff,aE,aM,aF,aN,aO,and_true,true_and];all_goals (repeat' first|exact CLe.refl _|exact True.intro| (refine ay ?_;first|rfl| (simp only[List.take_zero];done)) |exact aV (by omega) |exact aB (by omega) |exact aJ (by omega) |exact aP (by omega) |with_reducible apply And.intro))
  all_goals first|exact CLe.refl _|exact aB (by omega) |exact aV (by omega) |exact aP (by omega) |exact aJ (by omega)
 have hkk:=qB m k hmk (.inl hc15);subst hkk;clear hc15 hmk hk;refine Tr.exit ?_;refine hK3 _ ?_;refine Tr.w hcx [1000029] _ [] rfl rfl rfl ?_ bz;refine aa fun K9 hK9=>?_;have hy:= @mg;refine Tr.w hcx [1000031] _ [] rfl rfl rfl ?_ bz;refine Tr.k [3,4,6,7] ?_;refine Tr.blk ?_;refine ao (α:=Nat) (fun a=>[(3,?v3_3),(4,?v4_3),(6,sl bC (.own 1) ((UInt8.ofNat (128+(le m).length) ^^^ UInt8.ofNat 0):: ((be m (le m).length).map (· ^^^ UInt8.ofNat 0)).take a)),(7,.val (.int .i64 (((le m).length:Int) - 1 - (a:Int))))]) (fun a=>?h_3) (fun a=>a≤(le m).length) (fun a=>(le m).length - a) (0) ?_ ?le_3 ?hh_3 ?bd_3
 case hh_3=>exact rfl
 case le_3=>(simp only[aX,aK,↓aT,↓reduceIte,Nat.reduceEqDiff,aE,aM,aF,aN,aO,and_true,true_and];all_goals (repeat' first|exact CLe.refl _|exact True.intro| (refine ay ?_;first|rfl| (simp only[List.take_zero];done)) |exact aV (by omega) |exact aB (by omega) |exact aJ (by omega) |exact aP (by omega) |with_reducible apply And.intro));all_goals first|exact lJ (by simp) |exact aB (by omega)
 . omega
 rintro a ha;refine aa fun K10 hK10=>?_;have hy:=True.intro;refine Tr.w hcx [] _ [] rfl rfl rfl ?_ bz;refine af rfl (fun hc33=>?_) (fun hc33=>?_)
 ·
  refine Tr.skip ?_;refine hK10 _ ?_;refine aa fun K11 hK11=>?_;refine Tr.blk ?_;refine Tr.v hcx [36,1000045] _ [] rfl rfl rfl ?_ bz;refine hK11 _ ?_;refine Tr.v hcx [1000035] _ [] rfl rfl rfl ?_ bz;refine ⟨a+1,⟨by omega,O1⟩,?_,rfl⟩
  (simp only[aX,aK,↓aT,↓reduceIte,Nat.reduceEqDiff,aE,aM,aF,aN,aO,and_true,true_and];all_goals (repeat' first|exact CLe.refl _|exact True.intro| (refine ay ?_;first|rfl| (simp only[List.take_zero];done)) |exact aV (by omega) |exact aB (by omega) |exact aJ (by omega) |exact aP (by omega) |with_reducible apply And.intro))
  all_goals first|exact CLe.refl _|exact aB (by omega) | (refine fE ?_;rw[←qC m _ a (by omega),show (((8:Nat):Int)*(((le m).length:Int) - 1 - (a:Int))).toNat=8*((le m).length - 1 - a) by omega];try rfl)
 obtain rfl:a= (le m).length:=by omega
 refine Tr.exit ?_;refine hK9 _ ?_;refine Tr.w hcx [1000046] _ [] rfl rfl rfl ?_ bz;exact Tr.ret BP
theorem c8 {p:Prop}(e:p:=by intro KZ hZ;simp -implicitDefEqProofs (disch:=first|omega| (simp only[go_sem,lA,lD,lT] <;>omega) |decide) only[go_sem,↓reduceIte,Nat.reduceEqDiff,reduceCtorEq,Nat.reduceLT,Nat.reduceBEq,Nat.reduceAdd,em,hy];exact hZ):p:=e
theorem XG {gl:Nat→C}{M:Nat}{pu:Nat→List C→Option C}(hcx:CxOK (ax gl M pu))(m:Nat)(hm:m< 9223372036854775808):FC Tryd.prog gl 49 [.val (.int .i64 (-1 - (m:Int)))] [] (sl bC (.own 1) (wI m 255)) []:=by
 replace hcx:=hcx.reN (M:=47);refine aH (cx:=ax gl 47 pu) (rs:=[.tmp 2]) rfl Tryd.func49 rfl rfl rfl (by simp only[List.length_cons,List.length_nil];decide) (by simp only[go_sem]) ?_;simp only[bj,go_sem];have hy:=True.intro;have hk8: (le m).length≤8:=fu 8 m (by omega);have em:18446744073709551615 - ((-1 - (m:Int)) % 18446744073709551616).toNat=m:=by omega
 refine Tr.w hcx [] _ [] rfl rfl rfl ?_ c8;refine Tr.scope ?_;refine Tr.w hcx [1000009] _ [] rfl rfl rfl ?_ c8;refine aa fun K1 hK1=>?_;refine Tr.w hcx [] _ [] rfl rfl rfl ?_ c8;refine wl rfl ((decide_eq_true (by omega))) ?_;refine Tr.v hcx [1000013] _ [] rfl rfl rfl ?_ c8;refine hK1 _ ?_;refine Tr.w hcx [] _ [] rfl rfl rfl ?_ c8;refine aa fun K2 hK2=>?_;refine Tr.label ?_;refine hK2 _ ?_;refine Tr.k [3,4,5] ?_;refine aa fun K3 hK3=>?_;refine Tr.blk ?_;refine ao (α:=Nat) (fun a=>[(3,?v3_1),(4,?v4_1),(5,.val (nI a))]) (fun a=>?h_1) (fun a=>a≤8∧m< 256 ^ a) (fun a=>a) (8) ?_ ?le_1 ?hh_1 ?bd_1
 case hh_1=>exact rfl
 case le_1=>exact LT
 . exact ⟨by omega,by omega⟩
 rintro k ⟨hk,hmk⟩;refine aa fun K4 hK4=>?_;refine Tr.w hcx [] _ [] rfl rfl rfl ?_ c8;refine af rfl (fun hc15=>?_) (fun hc15=>?_)
 ·
  refine Tr.skip ?_;refine hK4 _ ?_;refine Tr.blk ?_;refine aa fun K5 hK5=>?_;refine Tr.w hcx [] _ [] rfl rfl rfl ?_ c8;refine af rfl (fun hc21=>?_) (fun hc21=>?_)
  ·
   have hkk:=qB m k hmk (.inr hc21);subst hkk;clear hc21 hmk hk hc15;refine Tr.exit ?_;refine hK3 _ ?_;refine Tr.w hcx [1000029] _ [] rfl rfl rfl ?_ c8;refine aa fun K6 hK6=>?_;have hy:= @mg;refine Tr.w hcx [1000031] _ [] rfl rfl rfl ?_ c8;refine Tr.k [3,4,6,7] ?_;refine Tr.blk ?_;refine ao (α:=Nat) (fun a=>[(3,?v3_2),(4,?v4_2),(6,sl bC (.own 1) ((UInt8.ofNat (128+(le m).length) ^^^ UInt8.ofNat 255):: ((be m (le m).length).map (· ^^^ UInt8.ofNat 255)).take a)),(7,.val (.int .i64 (((le m).length:Int) - 1 - (a:Int))))]) (fun a=>?h_2) (fun a=>a≤(le m).length) (fun a=>(le m).length - a) (0) ?_ ?le_2 ?hh_2 ?bd_2
   case hh_2=>exact rfl
   case le_2=>(simp only[aX,aK,↓aT,↓reduceIte,Nat.reduceEqDiff,aE,aM,aF,aN,aO,and_true,true_and];all_goals (repeat' first|exact CLe.refl _|exact True.intro| (refine ay ?_;first|rfl| (simp only[List.take_zero];done)) |exact aV (by omega) |exact aB (by omega) |exact aJ (by omega) |exact aP (by omega) |with_reducible apply And.intro));all_goals first|exact lJ (by simp) |exact aB (by omega)
   . omega
   rintro a ha;refine aa fun K7 hK7=>?_;have hy:=True.intro;refine Tr.w hcx [] _ [] rfl rfl rfl ?_ c8;refine af rfl (fun hc33=>?_) (fun hc33=>?_)
   ·
    refine Tr.skip ?_;refine hK7 _ ?_;refine aa fun K8 hK8=>?_;refine Tr.blk ?_;refine Tr.v hcx [36,1000045] _ [] rfl rfl rfl ?_ c8;refine hK8 _ ?_;refine Tr.v hcx [1000035] _ [] rfl rfl rfl ?_ c8;refine ⟨a+1,⟨by omega,O1⟩,?_,rfl⟩
    (simp only[aX,aK,↓aT,↓reduceIte,Nat.reduceEqDiff,aE,aM,aF,aN,aO,and_true,true_and];all_goals (repeat' first|exact CLe.refl _|exact True.intro| (refine ay ?_;first|rfl| (simp only[List.take_zero];done)) |exact aV (by omega) |exact aB (by omega) |exact aJ (by omega) |exact aP (by omega) |with_reducible apply And.intro))
    all_goals first|exact CLe.refl _|exact aB (by omega) | (refine fE ?_;rw[←qC m _ a (by omega),show (((8:Nat):Int)*(((le m).length:Int) - 1 - (a:Int))).toNat=8*((le m).length - 1 - a) by omega];try rfl)
   obtain rfl:a= (le m).length:=by omega
   refine Tr.exit ?_;refine hK6 _ ?_;refine Tr.w hcx [1000046] _ [] rfl rfl rfl ?_ c8;exact Tr.ret BP
  refine Tr.skip ?_;refine hK5 _ ?_;refine Tr.v hcx [1000023] _ [] rfl rfl rfl ?_ c8;refine ⟨k - 1,⟨⟨by omega,ze m k hc15 hc21⟩,O1⟩,?_,rfl⟩
  (simp only[aX,aK,↓aT,↓reduceIte,Nat.reduceEqDiff,aE,aM,aF,aN,aO,and_true,true_and];all_goals (repeat' first|exact CLe.refl _|exact True.intro| (refine ay ?_;first|rfl| (simp only[List.take_zero];done)) |exact aV (by omega) |exact aB (by omega) |exact aJ (by omega) |exact aP (by omega) |with_reducible apply And.intro))
  all_goals first|exact CLe.refl _|exact aB (by omega) |exact aV (by omega) |exact aP (by omega) |exact aJ (by omega)
 have hkk:=qB m k hmk (.inl hc15);subst hkk;clear hc15 hmk hk;refine Tr.exit ?_;refine hK3 _ ?_;refine Tr.w hcx [1000029] _ [] rfl rfl rfl ?_ c8;refine aa fun K9 hK9=>?_;have hy:= @mg;refine Tr.w hcx [1000031] _ [] rfl rfl rfl ?_ c8;refine Tr.k [3,4,6,7] ?_;refine Tr.blk ?_;refine ao (α:=Nat) (fun a=>[(3,?v3_3),(4,?v4_3),(6,sl bC (.own 1) ((UInt8.ofNat (128+(le m).length) ^^^ UInt8.ofNat 255):: ((be m (le m).length).map (· ^^^ UInt8.ofNat 255)).take a)),(7,.val (.int .i64 (((le m).length:Int) - 1 - (a:Int))))]) (fun a=>?h_3) (fun a=>a≤(le m).length) (fun a=>(le m).length - a) (0) ?_ ?le_3 ?hh_3 ?bd_3
 case hh_3=>exact rfl
 case le_3=>(simp only[aX,aK,↓aT,↓reduceIte,Nat.reduceEqDiff,aE,aM,aF,aN,aO,and_true,true_and];all_goals (repeat' first|exact CLe.refl _|exact True.intro| (refine ay ?_;first|rfl| (simp only[List.take_zero];done)) |exact aV (by omega) |exact aB (by omega) |exact aJ (by omega) |exact aP (by omega) |with_reducible apply And.intro));all_goals first|exact lJ (by simp) |exact aB (by omega)
 . omega
 rintro a ha;refine aa fun K10 hK10=>?_;have hy:=True.intro;refine Tr.w hcx [] _ [] rfl rfl rfl ?_ c8;refine af rfl (fun hc33=>?_) (fun hc33=>?_)
 ·
  refine Tr.skip ?_;refine hK10 _ ?_;refine aa fun K11 hK11=>?_;refine Tr.blk ?_;refine Tr.v hcx [36,1000045] _ [] rfl rfl rfl ?_ c8;refine hK11 _ ?_;refine Tr.v hcx [1000035] _ [] rfl rfl rfl ?_ c8;refine ⟨a+1,⟨by omega,O1⟩,?_,rfl⟩
  (simp only[aX,aK,↓aT,↓reduceIte,Nat.reduceEqDiff,aE,aM,aF,aN,aO,and_true,true_and];all_goals (repeat' first|exact CLe.refl _|exact True.intro| (refine ay ?_;first|rfl| (simp only[List.take_zero];done)) |exact aV (by omega) |exact aB (by omega) |exact aJ (by omega) |exact aP (by omega) |with_reducible apply And.intro))
  all_goals first|exact CLe.refl _|exact aB (by omega) | (refine fE ?_;rw[←qC m _ a (by omega),show (((8:Nat):Int)*(((le m).length:Int) - 1 - (a:Int))).toNat=8*((le m).length - 1 - a) by omega];try rfl)
 obtain rfl:a= (le m).length:=by omega
 refine Tr.exit ?_;refine hK9 _ ?_;refine Tr.w hcx [1000046] _ [] rfl rfl rfl ?_ c8;exact Tr.ret BP
theorem L3 {p:Prop}(e:p:=by simp -implicitDefEqProofs (disch:=first|omega| (simp only[go_sem,lA,lD,lT] <;>omega) |decide) only[go_sem,↓reduceIte,Nat.reduceEqDiff,reduceCtorEq];all_goals (rw[List.take_of_length_le (by simp)];rw[←wint_pos m];unfold bu;rw[if_pos (by omega)];simp)):p:=e
theorem XH {gl:Nat→C}{M:Nat}{pu:Nat→List C→Option C}(hcx:CxOK (ax gl M pu))(m:Nat)(hm:m< 9223372036854775808):FC Tryd.prog gl 84 [.val (nI m)] [] (sl bC (.own 1) (wI m 0)) []:=by
 replace hcx:=hcx.reN (M:=59);refine aH (cx:=ax gl 59 pu) (rs:=[.tmp 2]) rfl Tryd.func84 rfl rfl rfl (by simp only[List.length_cons,List.length_nil];decide) (by simp only[go_sem]) ?_;simp only[bj,go_sem];have hy:=True.intro;have hk8: (le m).length≤8:=fu 8 m (by omega);refine Tr.w hcx [] _ [] rfl rfl rfl ?_ bz;refine Tr.w hcx [1000009] _ [] rfl rfl rfl ?_ bz;refine aa fun K1 hK1=>?_;refine Tr.w hcx [] _ [] rfl rfl rfl ?_ bz;refine wm rfl ((decide_eq_false (by omega))) ?_;refine Tr.skip ?_;refine hK1 _ ?_;refine Tr.w hcx [] _ [] rfl rfl rfl ?_ bz;refine Tr.k [0,3,4] ?_;refine aa fun K2 hK2=>?_;refine Tr.blk ?_;refine ao (α:=(Nat×List UInt8)) (fun a=>[(0,?v0_1),(3,.val (nI a.1)),(4,sl bC (.own 1) a.2)]) (fun a=>?h_1) (fun a=>a.1≤m∧a.2++le a.1=le m) (fun a=>a.1) ((m,[])) ?_ ?le_1 ?hh_1 ?bd_1
 case hh_1=>exact rfl
 case le_1=>(simp only[aX,aK,↓aT,↓reduceIte,Nat.reduceEqDiff,aE,aM,aF,aN,aO,and_true,true_and];all_goals (repeat' first|exact CLe.refl _|exact True.intro| (refine ay ?_;first|rfl| (simp only[List.take_zero];done)) |exact aV (by omega) |exact aB (by omega) |exact aJ (by omega) |exact aP (by omega) |with_reducible apply And.intro));all_goals first|exact aJ (by omega) |exact CLe.refl _
 . exact ⟨Nat.le_refl _,rfl⟩
 rintro ⟨q,ds⟩ ⟨hq,hds⟩;have hdl:ds.length≤8:=by have:=congrArg List.length hds;simp only[List.length_append] at this;omega
 simp only[] at hq hds ⊢;refine aa fun K3 hK3=>?_;refine Tr.w hcx [] _ [] rfl rfl rfl ?_ bz;refine af rfl (fun hc15=>?_) (fun hc15=>?_)
 ·
  refine Tr.skip ?_;refine hK3 _ ?_;refine Tr.blk ?_;refine Tr.w hcx [16,1000021] _ [] rfl rfl rfl ?_ bz;refine Tr.v hcx [1000023] _ [] rfl rfl rfl ?_ bz;refine ⟨(q / 256,ds++[UInt8.ofNat (q % 256)]),⟨⟨by have:=Nat.div_le_self q 256;simp only[];omega,by simp only[] at hds ⊢;rw[←hds,nJ q (by omega)];simp⟩,by have:q / 256< q:=Nat.div_lt_self (by omega) (by decide);exact this⟩,?_,rfl⟩
  (simp only[aX,aK,↓aT,↓reduceIte,Nat.reduceEqDiff,aE,aM,aF,aN,aO,and_true,true_and];all_goals (repeat' first|exact CLe.refl _|exact True.intro| (refine ay ?_;first|rfl| (simp only[List.take_zero];done)) |exact aV (by omega) |exact aB (by omega) |exact aJ (by omega) |exact aP (by omega) |with_reducible apply And.intro))
  all_goals exact CLe.refl _
 obtain rfl:q=0:=by omega
 rw[ka,List.append_nil] at hds;subst hds;clear hq hdl;refine Tr.exit ?_;refine hK2 _ ?_;refine Tr.w hcx [1000025] _ [] rfl rfl rfl ?_ bz;refine Tr.w hcx [] _ [] rfl rfl rfl ?_ bz;refine aa fun K4 hK4=>?_;refine Tr.w hcx [] _ [] rfl rfl rfl ?_ bz;refine wl rfl ((decide_eq_true (by omega))) ?_;refine Tr.v hcx [28,1000033] _ [] rfl rfl rfl ?_ bz;refine hK4 _ ?_;refine aa fun K5 hK5=>?_;have hy:= @mg;refine Tr.w hcx [1000041] _ [] rfl rfl rfl ?_ bz;refine Tr.k [0,4,6,7] ?_;refine Tr.blk ?_;refine ao (α:=Nat) (fun a=>[(0,?v0_2),(4,?v4_2),(6,sl bC (.own 1) (UInt8.ofNat (128+(le m).length):: ((le m).reverse.map (fun c=>c)).take a)),(7,.val (.int .i64 (((le m).length:Int) - 1 - (a:Int))))]) (fun a=>?h_2) (fun a=>a≤(le m).length) (fun a=>(le m).length - a) (0) ?_ ?le_2 ?hh_2 ?bd_2
 case hh_2=>exact rfl
 case le_2=>(simp only[aX,aK,↓aT,↓reduceIte,Nat.reduceEqDiff,aE,aM,aF,aN,aO,and_true,true_and];all_goals (repeat' first|exact CLe.refl _|exact True.intro| (refine ay ?_;first|rfl| (simp only[List.take_zero];done)) |exact aV (by omega) |exact aB (by omega) |exact aJ (by omega) |exact aP (by omega) |with_reducible apply And.intro));all_goals first|exact lJ (by simp) |exact CLe.refl _|exact aB (by omega) |exact fE (by simp)
 . omega
 rintro a ha;refine aa fun K6 hK6=>?_;have hy:=True.intro;refine Tr.w hcx [] _ [] rfl rfl rfl ?_ bz;refine af rfl (fun hc43=>?_) (fun hc43=>?_)
 ·
  refine Tr.skip ?_;refine hK6 _ ?_;refine aa fun K7 hK7=>?_;refine Tr.blk ?_;refine Tr.w hcx [1000049] _ [] rfl rfl rfl ?_ bz;refine aa fun K8 hK8=>?_;refine Tr.w hcx [] _ [] rfl rfl rfl ?_ bz;refine wm rfl ((decide_eq_false (by omega))) ?_;refine Tr.skip ?_;refine hK8 _ ?_;refine Tr.v hcx [54,1000057] _ [] rfl rfl rfl ?_ bz;refine hK7 _ ?_;refine Tr.v hcx [1000045] _ [] rfl rfl rfl ?_ bz;refine ⟨a+1,⟨by omega,O1⟩,?_,rfl⟩
  (simp only[aX,aK,↓aT,↓reduceIte,Nat.reduceEqDiff,aE,aM,aF,aN,aO,and_true,true_and];all_goals (repeat' first|exact CLe.refl _|exact True.intro| (refine ay ?_;first|rfl| (simp only[List.take_zero];done)) |exact aV (by omega) |exact aB (by omega) |exact aJ (by omega) |exact aP (by omega) |with_reducible apply And.intro))
  all_goals first|exact CLe.refl _|exact aB (by omega) | (refine fE ?_;rw[←zf (le m) _ a (by omega),show (((le m).length:Int) - 1 - (a:Int)).toNat= (le m).length - 1 - a by omega];try rfl)
 obtain rfl:a= (le m).length:=by omega
 refine Tr.exit ?_;refine hK5 _ ?_;refine Tr.w hcx [1000058] _ [] rfl rfl rfl ?_ bz;exact Tr.ret L3
theorem L4 {p:Prop}(e:p:=by simp -implicitDefEqProofs (disch:=first|omega| (simp only[go_sem,lA,lD,lT] <;>omega) |decide) only[go_sem,↓reduceIte,Nat.reduceEqDiff,reduceCtorEq];all_goals (rw[List.take_of_length_le (by simp)];rw[←oI m hk8];unfold bu;rw[if_neg (by omega),show (-1 - (-1 - (m:Int))).toNat=m by omega];rfl)):p:=e
theorem XI {gl:Nat→C}{M:Nat}{pu:Nat→List C→Option C}(hcx:CxOK (ax gl M pu))(m:Nat)(hm:m< 9223372036854775808):FC Tryd.prog gl 84 [.val (.int .i64 (-1 - (m:Int)))] [] (sl bC (.own 1) (wI m 255)) []:=by
 replace hcx:=hcx.reN (M:=59);refine aH (cx:=ax gl 59 pu) (rs:=[.tmp 2]) rfl Tryd.func84 rfl rfl rfl (by simp only[List.length_cons,List.length_nil];decide) (by simp only[go_sem]) ?_;simp only[bj,go_sem];have hy:=True.intro;have hk8: (le m).length≤8:=fu 8 m (by omega);refine Tr.w hcx [] _ [] rfl rfl rfl ?_ bz;refine Tr.w hcx [1000009] _ [] rfl rfl rfl ?_ bz;refine aa fun K1 hK1=>?_;refine Tr.w hcx [] _ [] rfl rfl rfl ?_ bz;refine wl rfl ((decide_eq_true (by omega))) ?_;refine Tr.v hcx [1000013] _ [] rfl rfl rfl ?_ bz;refine hK1 _ ?_;refine Tr.w hcx [] _ [] rfl rfl rfl ?_ bz;refine Tr.k [0,3,4] ?_;refine aa fun K2 hK2=>?_;refine Tr.blk ?_;refine ao (α:=(Nat×List UInt8)) (fun a=>[(0,?v0_1),(3,.val (nI a.1)),(4,sl bC (.own 1) a.2)]) (fun a=>?h_1) (fun a=>a.1≤m∧a.2++le a.1=le m) (fun a=>a.1) ((m,[])) ?_ ?le_1 ?hh_1 ?bd_1
 case hh_1=>exact rfl
 case le_1=>(simp only[aX,aK,↓aT,↓reduceIte,Nat.reduceEqDiff,aE,aM,aF,aN,aO,and_true,true_and];all_goals (repeat' first|exact CLe.refl _|exact True.intro| (refine ay ?_;first|rfl| (simp only[List.take_zero];done)) |exact aV (by omega) |exact aB (by omega) |exact aJ (by omega) |exact aP (by omega) |with_reducible apply And.intro));all_goals first|exact aJ (by omega) |exact CLe.refl _
 . exact ⟨Nat.le_refl _,rfl⟩
 rintro ⟨q,ds⟩ ⟨hq,hds⟩;have hdl:ds.length≤8:=by have:=congrArg List.length hds;simp only[List.length_append] at this;omega
 simp only[] at hq hds ⊢;refine aa fun K3 hK3=>?_;refine Tr.w hcx [] _ [] rfl rfl rfl ?_ bz;refine af rfl (fun hc15=>?_) (fun hc15=>?_)
 ·
  refine Tr.skip ?_;refine hK3 _ ?_;refine Tr.blk ?_;refine Tr.w hcx [16,1000021] _ [] rfl rfl rfl ?_ bz;refine Tr.v hcx [1000023] _ [] rfl rfl rfl ?_ bz;refine ⟨(q / 256,ds++[UInt8.ofNat (q % 256)]),⟨⟨by have:=Nat.div_le_self q 256;simp only[];omega,by simp only[] at hds ⊢;rw[←hds,nJ q (by omega)];simp⟩,by have:q / 256< q:=Nat.div_lt_self (by omega) (by decide);exact this⟩,?_,rfl⟩
  (simp only[aX,aK,↓aT,↓reduceIte,Nat.reduceEqDiff,aE,aM,aF,aN,aO,and_true,true_and];all_goals (repeat' first|exact CLe.refl _|exact True.intro| (refine ay ?_;first|rfl| (simp only[List.take_zero];done)) |exact aV (by omega) |exact aB (by omega) |exact aJ (by omega) |exact aP (by omega) |with_reducible apply And.intro))
  all_goals exact CLe.refl _
 obtain rfl:q=0:=by omega
 rw[ka,List.append_nil] at hds;subst hds;clear hq hdl;refine Tr.exit ?_;refine hK2 _ ?_;refine Tr.w hcx [1000025] _ [] rfl rfl rfl ?_ bz;refine Tr.w hcx [] _ [] rfl rfl rfl ?_ bz;refine aa fun K4 hK4=>?_;refine Tr.w hcx [] _ [] rfl rfl rfl ?_ bz;refine wm rfl ((decide_eq_false (by omega))) ?_;refine Tr.v hcx [34,1000039] _ [] rfl rfl rfl ?_ bz;refine hK4 _ ?_;refine aa fun K5 hK5=>?_;have hy:= @mg;refine Tr.w hcx [1000041] _ [] rfl rfl rfl ?_ bz;refine Tr.k [0,4,6,7] ?_;refine Tr.blk ?_;refine ao (α:=Nat) (fun a=>[(0,?v0_2),(4,?v4_2),(6,sl bC (.own 1) (UInt8.ofNat (127 - (le m).length):: ((le m).reverse.map (fun c=>UInt8.ofNat 255 - c)).take a)),(7,.val (.int .i64 (((le m).length:Int) - 1 - (a:Int))))]) (fun a=>?h_2) (fun a=>a≤(le m).length) (fun a=>(le m).length - a) (0) ?_ ?le_2 ?hh_2 ?bd_2
 case hh_2=>exact rfl
 case le_2=>(simp only[aX,aK,↓aT,↓reduceIte,Nat.reduceEqDiff,aE,aM,aF,aN,aO,and_true,true_and];all_goals (repeat' first|exact CLe.refl _|exact True.intro| (refine ay ?_;first|rfl| (simp only[List.take_zero];done)) |exact aV (by omega) |exact aB (by omega) |exact aJ (by omega) |exact aP (by omega) |with_reducible apply And.intro));all_goals first|exact lJ (by simp) |exact CLe.refl _|exact aB (by omega) |exact fE (by simp)
 . omega
 rintro a ha;refine aa fun K6 hK6=>?_;have hy:=True.intro;refine Tr.w hcx [] _ [] rfl rfl rfl ?_ bz;refine af rfl (fun hc43=>?_) (fun hc43=>?_)
 ·
  refine Tr.skip ?_;refine hK6 _ ?_;refine aa fun K7 hK7=>?_;refine Tr.blk ?_;refine Tr.w hcx [1000049] _ [] rfl rfl rfl ?_ bz;refine aa fun K8 hK8=>?_;refine Tr.w hcx [] _ [] rfl rfl rfl ?_ bz;refine wl rfl ((decide_eq_true (by omega))) ?_;refine Tr.v hcx [1000053] _ [] rfl rfl rfl ?_ bz;refine hK8 _ ?_;refine Tr.v hcx [54,1000057] _ [] rfl rfl rfl ?_ bz;refine hK7 _ ?_;refine Tr.v hcx [1000045] _ [] rfl rfl rfl ?_ bz;refine ⟨a+1,⟨by omega,O1⟩,?_,rfl⟩
  (simp only[aX,aK,↓aT,↓reduceIte,Nat.reduceEqDiff,aE,aM,aF,aN,aO,and_true,true_and];all_goals (repeat' first|exact CLe.refl _|exact True.intro| (refine ay ?_;first|rfl| (simp only[List.take_zero];done)) |exact aV (by omega) |exact aB (by omega) |exact aJ (by omega) |exact aP (by omega) |with_reducible apply And.intro))
  all_goals first|exact CLe.refl _|exact aB (by omega) | (refine fE ?_;rw[←zf (le m) _ a (by omega),show (((le m).length:Int) - 1 - (a:Int)).toNat= (le m).length - 1 - a by omega];try rfl)
 obtain rfl:a= (le m).length:=by omega
 refine Tr.exit ?_;refine hK5 _ ?_;refine Tr.w hcx [1000058] _ [] rfl rfl rfl ?_ bz;exact Tr.ret L4
theorem CB {p:Prop}(e:p:=by intro KZ hZ;simp -implicitDefEqProofs (disch:=first|omega| (simp only[go_sem,lA,lD,lT] <;>omega) |decide) only[go_sem,↓reduceIte,Nat.reduceEqDiff,reduceCtorEq,Nat.reduceLT,Nat.reduceBEq,Nat.reduceAdd,h49,hy];exact hZ):p:=e
theorem ab7 {gl:Nat→C}{M:Nat}{pu:Nat→List C→Option C}(hcx:CxOK (ax gl M pu))(h49:∀m:Nat,m< 9223372036854775808→pu 49 [.val (nI m)] =some (sl bC (.own 1) (wI m 0)))(s:List UInt8)(hs:s.length< 70368744177664):FC Tryd.prog gl 77 [.val (str s)] [] (sl bC (.own 1) (wb s)) []:=by
 replace hcx:=hcx.reN (M:=8);refine aH (cx:=ax gl 8 pu) (rs:=[.tmp 2]) rfl Tryd.func77 rfl rfl rfl (by simp only[List.length_cons,List.length_nil];decide) (by simp only[go_sem]) ?_;simp only[bj,go_sem];have hy:=True.intro;have hk8: (wI s.length 0).length≤9:=by have:=fu 8 s.length (by omega);simp[wI,be_len];omega
 refine Tr.w hcx [] _ [] rfl rfl rfl ?_ CB;refine Tr.w hcx [5,1000007] _ [] rfl rfl rfl ?_ CB;exact Tr.ret SS
theorem CC {p:Prop}(e:p:=by intro KZ hZ;simp -implicitDefEqProofs (disch:=first|omega| (simp only[go_sem,lA,lD,lT] <;>omega) |decide) only[go_sem,↓reduceIte,Nat.reduceEqDiff,reduceCtorEq,Nat.reduceLT,Nat.reduceBEq,Nat.reduceAdd,h84,hy];exact hZ):p:=e
theorem ab8 {gl:Nat→C}{M:Nat}{pu:Nat→List C→Option C}(hcx:CxOK (ax gl M pu))(h84:∀m:Nat,m< 9223372036854775808→pu 84 [.val (nI m)] =some (sl bC (.own 1) (wI m 0)))(s:List UInt8)(hs:s.length< 70368744177664):FC Tryd.prog gl 85 [.val (str s)] [] (sl bC (.own 1) (wb s)) []:=by
 replace hcx:=hcx.reN (M:=9);refine aH (cx:=ax gl 9 pu) (rs:=[.tmp 2]) rfl Tryd.func85 rfl rfl rfl (by simp only[List.length_cons,List.length_nil];decide) (by simp only[go_sem]) ?_;simp only[bj,go_sem];have hy:=True.intro;have hk8: (wI s.length 0).length≤9:=by have:=fu 8 s.length (by omega);simp[wI,be_len];omega
 refine Tr.w hcx [] _ [] rfl rfl rfl ?_ CC;refine Tr.w hcx [5,1000008] _ [] rfl rfl rfl ?_ CC;exact Tr.ret SS
theorem xZ {α:Type}[Inhabited α](l:List α)(i:Nat)(h:i< l.length):gt l i∈l:=by
 simp[gt,List.getD,List.getElem?_eq_getElem h]
def eQ (l:List Int):List UInt8:=bu l.length++l.flatMap bu
theorem gG (n:Int)(h: -9223372036854775808≤n∧n≤9223372036854775807): (bu n).length≤9:=by
 unfold bu;split
 . have:=fu 8 n.toNat (by omega)
   simp;omega
 . have:=fu 8 (-1 - n).toNat (by omega)
   simp;omega
theorem gy (n:Nat)(h:n< 18446744073709551616): (bu (n:Int)).length≤9:=by
 unfold bu;rw[if_pos (by omega)];have:=fu 8 n (by simpa using h);simp;omega
theorem qS {α β:Type}[Inhabited α](f:α→List β)(l:List α)(i:Nat)(h:i< l.length): (l.take i).flatMap f++f (gt l i) = (l.take (i+1)).flatMap f:=by
 rw[fq l i h];simp
theorem qT (l:List Int)(hr:∀x∈l,-9223372036854775808≤x∧x≤9223372036854775807):∀i≤l.length,((l.take i).flatMap bu).length≤9*i
 |0,_=>by simp
 |i+1,h=>by
  rw[←qS bu l i (by omega),List.length_append];have:=qT l hr i (by omega);have:=gG (gt l i) (hr _ (xZ l i (by omega)));omega
theorem OH {α:Type}[DecidableEq α]{x y:List α}(h:¬x.length=y.length):decide (x=y) =false:=by
 rw[decide_eq_false_iff_not];rintro rfl;exact h rfl
theorem Tv {α:Type}[Inhabited α][DecidableEq α]{x y:List α}{i:Nat}(h:¬gt x i=gt y i):decide (x=y) =false:=by
 rw[decide_eq_false_iff_not];rintro rfl;exact h rfl
theorem Tw {α:Type}[DecidableEq α]{x y:List α}{i:Nat}(hi:¬i< x.length)(hl:x.length=y.length)(h:x.take i=y.take i):decide (x=y) =true:=by
 rw[decide_eq_true_iff,←List.take_of_length_le (show x.length≤i by omega),h,List.take_of_length_le (by omega)]
theorem BU {α:Type}[Inhabited α]{x y:List α}{i:Nat}(hi:i< x.length)(hl:x.length=y.length)(h:x.take i=y.take i)(he:gt x i=gt y i):x.take (i+1) =y.take (i+1):=by
 rw[fq x i hi,fq y i (by omega),h,he]
def am (x:UInt8):UInt8:=if x< 128 then 255 else 0
def j8 (x:UInt8):Nat:=(x ^^^ am x).toNat - 128
def bF (f:UInt8)(l:List UInt8):Nat:=l.foldl (fun m c=>m*256+(c ^^^ f).toNat) 0
theorem m8 (f:UInt8)(l:List UInt8)(c:UInt8):bF f (l++[c]) =bF f l*256+(c ^^^ f).toNat:=by simp[bF]
theorem lN (f:UInt8)(l:List UInt8):bF f l< 256 ^ l.length:=by
 have key:∀n (l:List UInt8),l.length=n→bF f l< 256 ^ n:=by
  intro n
  induction n with
  |zero=>intro l hl;rw[List.length_eq_zero_iff.1 hl];simp[bF]
  |succ n ih=>
   intro l hl;have hne:l≠[]:=by rintro rfl;simp at hl
   rw[←List.dropLast_concat_getLast hne,m8];have h1:=ih l.dropLast (by simp[hl]);have h2:=(l.getLast hne ^^^ f).toNat_lt;rw[Nat.pow_succ];omega
 exact key _ l rfl
theorem z8 (x:UInt8):128≤(x ^^^ am x).toNat:=by
 unfold am;split
 . rename_i h
   rw[sy,UInt8.toNat_sub_of_le _ _ (by rw[UInt8.le_iff_toNat_le];have:=x.toNat_lt;show _≤255;omega)];rw[UInt8.lt_iff_toNat_lt] at h;have h':x.toNat< 128:=h;show 128≤255 - x.toNat;omega
 . rename_i h
   rw[UInt8.lt_iff_toNat_lt] at h;have h':¬x.toNat< 128:=h;simp;omega
def ab (b:List UInt8):Int×Nat×Nat:=match b with
 | [] =>(0,0,3)
 |x::r=>
  if 8< j8 x then (0,0,2) else
  if (x::r).length≤j8 x then (0,0,3) else
  if 0< j8 x∧gt (x::r) 1 ^^^ am x=0 then (0,0,2) else
  if 9223372036854775808≤bF (am x) (r.take (j8 x)) then (0,0,2) else
  (if x< 128 then -1 - (bF (am x) (r.take (j8 x)):Int) else (bF (am x) (r.take (j8 x)):Int),j8 x+1,0)
section
variable {x:UInt8} {r:List UInt8} {k:Nat} (hk:j8 x=k)
include hk
theorem tj (h:8< k):ab (x::r) = (0,0,2):=by subst hk;simp only[ab];rw[if_pos h]
theorem tk (h:¬8< k)(h2: (x::r).length≤k):ab (x::r) = (0,0,3):=by subst hk;simp only[ab];rw[if_neg h,if_pos h2]
theorem oc (h:¬8< k)(h2:¬ (x::r).length≤k)(h3:0< k)(h4:gt (x::r) 1 ^^^ am x=0):ab (x::r) = (0,0,2):=by
 subst hk;simp only[ab];rw[if_neg h,if_neg h2,if_pos ⟨h3,h4⟩]
theorem tl (h:¬8< k)(h2:¬ (x::r).length≤k)(h3:¬ (0< k∧gt (x::r) 1 ^^^ am x=0))(h4:9223372036854775808≤bF (am x) (r.take k)):ab (x::r) = (0,0,2):=by
 subst hk;simp only[ab];rw[if_neg h,if_neg h2,if_neg h3,if_pos h4]
theorem tn (h:¬8< k)(h2:¬ (x::r).length≤k)(h3:¬ (0< k∧gt (x::r) 1 ^^^ am x=0))(h4:¬9223372036854775808≤bF (am x) (r.take k))(h5:x< 128):ab (x::r) = (-1 - (bF (am x) (r.take k):Int),k+1,0):=by
 subst hk;simp only[ab];rw[if_neg h,if_neg h2,if_neg h3,if_neg h4,if_pos h5]
theorem tp (h:¬8< k)(h2:¬ (x::r).length≤k)(h3:¬ (0< k∧gt (x::r) 1 ^^^ am x=0))(h4:¬9223372036854775808≤bF (am x) (r.take k))(h5:¬x< 128):ab (x::r) = ((bF (am x) (r.take k):Int),k+1,0):=by
 subst hk;simp only[ab];rw[if_neg h,if_neg h2,if_neg h3,if_neg h4,if_neg h5]
end
theorem x4 (x:UInt8): (UInt8.ofNat 0< am x) = (x< 128):=by
 unfold am;split
 . rename_i h;simp[h]
 . rename_i h
   simp only[h,eq_iff_iff,iff_false];decide
theorem BV (m:Nat)(h:m< 18446744073709551616): (0< m>>>63) = (9223372036854775808≤m):=by
 rw[Nat.shiftRight_eq_div_pow];apply propext;constructor
 . intro h2
   have:=(Nat.div_pos_iff.1 h2).2;simpa using this
 . intro h2
   exact Nat.div_pos (by simpa using h2) (by decide)
theorem x5 (f:UInt8)(l:List UInt8)(a:Nat)(h:a< l.length)(h8:a< 8): (bF f (l.take a)*2 ^ 8 % 18446744073709551616||| (gt l a ^^^ f).toNat) =bF f (l.take (a+1)):=by
 rw[fq l a h,m8];have h1:=lN f (l.take a);rw[List.length_take,Nat.min_eq_left (by omega)] at h1;have h2:256 ^ a≤256 ^ 7:=Nat.pow_le_pow_right (by decide) (by omega);have h3:=(gt l a ^^^ f).toNat_lt;have h4: (256:Nat) ^ 7=72057594037927936:=by decide
 rw[Nat.mod_eq_of_lt (by omega)];have:=Nat.two_pow_add_eq_or_of_lt (i:=8) (b:=(gt l a ^^^ f).toNat) (by simpa using h3) (bF f (l.take a));rw[Nat.mul_comm] at this;rw[←this]
theorem E3 (x:UInt8): (x.toNat< 128∧j8 x=127 - x.toNat)∨(128≤x.toNat∧j8 x=x.toNat - 128):=by
 unfold j8 am;have hx:=x.toNat_lt;split
 . rename_i h
   rw[UInt8.lt_iff_toNat_lt] at h;have h':x.toNat< 128:=h;left
   refine ⟨h',?_⟩;rw[sy,UInt8.toNat_sub_of_le _ _ (by rw[UInt8.le_iff_toNat_le];show _≤255;omega)];show 255 - x.toNat - 128=_;omega
 . rename_i h
   rw[UInt8.lt_iff_toNat_lt] at h;have h':¬x.toNat< 128:=h;right
   exact ⟨by omega,by simp⟩
theorem Lh (c x:UInt8): (c ^^^ am x).toNat=if x.toNat< 128 then 255 - c.toNat else c.toNat:=by
 have e: (x< 128) = (x.toNat< 128):=by rw[UInt8.lt_iff_toNat_lt];rfl
 unfold am;simp only[e];split
 . rw[sy,UInt8.toNat_sub_of_le _ _ (by rw[UInt8.le_iff_toNat_le];have:=c.toNat_lt;show _≤255;omega)];rfl
 . simp
theorem OI (m c k:Nat)(hc:c< 256):be (m*256+c) (k+1) =be m k++[UInt8.ofNat c]:=by
 refine Cu _ _ (by simp[be_len]) fun i hi=>?_;rw[be_len] at hi;rw[v5 _ _ _ hi];rcases Nat.lt_or_ge i k with h|h
 . rw[uh _ _ _ (by rw[be_len];exact h),v5 _ _ _ h]
   congr 1
   rw[show k+1 - 1 - i= (k - 1 - i)+1 by omega,qA,qA,Nat.pow_succ,Nat.mul_comm (256 ^ (k - 1 - i)),←Nat.div_div_eq_div_mul];congr 1;omega
 . have:i=k:=by omega
   subst this;rw[wA _ _ _ _ (be_len _ _)];apply UInt8.toNat_inj.1;simp
theorem Tx (f:UInt8)(l:List UInt8):be (bF f l) l.length=l.map (· ^^^ f):=by
 have key:∀n (l:List UInt8),l.length=n→be (bF f l) l.length=l.map (· ^^^ f):=by
  intro n
  induction n with
  |zero=>intro l hl;rw[List.length_eq_zero_iff.1 hl];rfl
  |succ n ih=>
   intro l hl;have hne:l≠[]:=by rintro rfl;simp at hl
   rw[←List.dropLast_concat_getLast hne,m8,List.length_append,List.length_singleton,OI _ _ _ (l.getLast hne ^^^ f).toNat_lt,ih l.dropLast (by simp[hl]),List.map_append];simp
 exact key _ l rfl
theorem x6 (f:UInt8):∀ (l:List UInt8)(m:Nat),m*256 ^ l.length≤l.foldl (fun m c=>m*256+(c ^^^ f).toNat) m
 | [],m=>by simp
 |c::l,m=>by
  refine Nat.le_trans ?_ (x6 f l (m*256+(c ^^^ f).toNat));rw[List.length_cons,Nat.pow_succ,Nat.mul_comm (256 ^ l.length),←Nat.mul_assoc];exact Nat.mul_le_mul_right _ (by omega)
theorem OJ (f:UInt8)(l l':List UInt8):bF f l*256 ^ l'.length≤bF f (l++l'):=by
 unfold bF;rw[List.foldl_append];exact x6 f l' _
theorem BW (a b c:UInt8):a ^^^ c=b ^^^ c↔a=b:=by
 constructor
 . intro h
   have:=congrArg (· ^^^ c) h;simpa[UInt8.xor_assoc] using this
 . rintro rfl;rfl
theorem YP {x:UInt8}{r:List UInt8}{k:Nat}(hk:j8 x=k)(h8:k≤8)(hl:k≤r.length):wI (bF (am x) (r.take k)) (am x) =x::r.take k↔¬ (0< k∧gt (x::r) 1 ^^^ am x=0):=by
 have hkl: (r.take k).length=k:=by rw[List.length_take];omega
 have hx:x=UInt8.ofNat (128+k) ^^^ am x:=by
  have hge:=z8 x;have hlt:=(x ^^^ am x).toNat_lt;have e:UInt8.ofNat (128+k) =x ^^^ am x:=by
   apply UInt8.toNat_inj.1;unfold j8 at hk;have e2: (UInt8.ofNat (128+k)).toNat= (128+k) % 256:=rfl;rw[e2];omega
  rw[e,UInt8.xor_assoc,UInt8.xor_self,UInt8.xor_zero]
 have hlt:=lN (am x) (r.take k);rw[hkl] at hlt;have hle: (le (bF (am x) (r.take k))).length≤k:=fu k _ hlt;unfold wI;constructor
 . intro h
   rintro ⟨hk0,hz⟩;have h2:UInt8.ofNat (128+(le (bF (am x) (r.take k))).length) =UInt8.ofNat (128+k):=by
    have h3:UInt8.ofNat (128+(le (bF (am x) (r.take k))).length) ^^^ am x=UInt8.ofNat (128+k) ^^^ am x:=by
     exact (List.cons.inj h).1.trans hx
    exact (BW _ _ _).1 h3
   have h4:=congrArg UInt8.toNat h2;simp at h4
   have h5: (le (bF (am x) (r.take k))).length=k:=by omega
   obtain ⟨c,r',rfl⟩:∃c r',r=c::r':=by
    cases r with
    |nil=>simp at hl;omega
    |cons c r'=>exact ⟨c,r',rfl⟩
   have hz':c ^^^ am x=0:=hz;obtain ⟨k',rfl⟩:∃k',k=k'+1:=⟨k - 1,by omega⟩;rw[List.take_succ_cons] at hlt h5;have h6:bF (am x) (c::r'.take k') =bF (am x) (r'.take k'):=by
    show List.foldl _ _ _=_;rw[List.foldl_cons,hz'];rfl
   have h7:=lN (am x) (r'.take k');have h8: (r'.take k').length≤k':=by rw[List.length_take];omega
   have h9: (le (bF (am x) (r'.take k'))).length≤k':=fu k' _ (Nat.lt_of_lt_of_le h7 (Nat.pow_le_pow_right (by decide) h8));rw[h6] at h5;omega
 . intro hn
   have h5: (le (bF (am x) (r.take k))).length=k:=by
    refine pL k _ hlt ?_;rcases Nat.eq_zero_or_pos k with h0|h0
    . exact .inl h0
    . right
      obtain ⟨c,r',rfl⟩:∃c r',r=c::r':=by
       cases r with
       |nil=>simp at hl;omega
       |cons c r'=>exact ⟨c,r',rfl⟩
      obtain ⟨k',rfl⟩:∃k',k=k'+1:=⟨k - 1,by omega⟩;have hc:c ^^^ am x≠0:=fun h=>hn ⟨h0,h⟩;have hc':1≤(c ^^^ am x).toNat:=by
       rcases Nat.eq_zero_or_pos (c ^^^ am x).toNat with h|h
       . exact absurd (UInt8.toNat_inj.1 (by simpa using h)) hc
       . exact h
      rw[List.take_succ_cons];have h1:=x6 (am x) (r'.take k') (0*256+(c ^^^ am x).toNat);have h2: (r'.take k').length=k':=by rw[List.length_take];simp at hl;omega
      rw[h2] at h1;simp only[Nat.add_sub_cancel];refine Nat.le_trans ?_ h1;rw[Nat.zero_mul,Nat.zero_add];exact Nat.le_mul_of_pos_left _ hc'
   rw[h5];rw[←hx];refine congrArg (List.cons x) ?_;have h6:=Tx (am x) (r.take k);rw[hkl] at h6;rw[h6,List.map_map];have: ((fun y=>y ^^^ am x) ∘fun y=>y ^^^ am x) =id:=by
    funext y
    show (y ^^^ am x) ^^^ am x=y;rw[UInt8.xor_assoc,UInt8.xor_self,UInt8.xor_zero]
   rw[this,List.map_id]
end Go.Sx
namespace Go.Sx
theorem BX (x:UInt8): (x< 128) = (x.toNat< 128):=by rw[UInt8.lt_iff_toNat_lt];rfl
theorem z9 (x:UInt8): (x.toNat< 128→am x=255)∧(¬x.toNat< 128→am x=0):=by
 unfold am;have e:=BX x;exact ⟨fun h=>if_pos (e.mpr h),fun h=>if_neg fun h'=>h (e.mp h')⟩
section
variable {b:List UInt8} {x:UInt8} {r:List UInt8} {k:Nat} (hbe:b=x::r) (hk:j8 x=k)
include hbe hk
theorem rg1 (h:8< k):ab b= (0,0,2):=by subst hbe;exact tj hk h
theorem rg2 (h8:k≤8)(h:b.length< k+1):ab b= (0,0,3):=by subst hbe;exact tk hk (by omega) (by omega)
theorem rg3 (h8:k≤8)(hl:¬b.length< k+1)(i:Nat)(hi:i+1≤k)(hc:36028797018963967< bF (am x) ((r.take k).take i)):ab b= (0,0,2):=by
 subst hbe;by_cases h3:0< k∧gt (x::r) 1 ^^^ am x=0
 . exact oc hk (by omega) (by omega) h3.1 h3.2
 . refine tl hk (by omega) (by omega) h3 ?_
   have h1:=OJ (am x) ((r.take k).take i) ((r.take k).drop i);rw[List.take_append_drop] at h1;have h2: ((r.take k).drop i).length=k - i:=by rw[List.length_drop,List.length_take];simp at hl;omega
   rw[h2] at h1;have h4:256 ^ 1≤256 ^ (k - i):=Nat.pow_le_pow_right (by decide) (by omega);have h5:=Nat.mul_le_mul_left (bF (am x) ((r.take k).take i)) h4;omega
theorem Li (h8:k≤8)(hl:¬b.length< k+1)(i:Nat)(hi:i+1≤k):gt b (i+1) =gt (r.take k) i∧i< (r.take k).length:=by
 have _:=hk;subst hbe;simp at hl
 refine ⟨?_,by rw[List.length_take];omega⟩;rw[rX];unfold gt;rw[List.getD_eq_getElem?_getD,List.getD_eq_getElem?_getD,List.getElem?_take_of_lt (by omega)]
theorem Lj (h8:k≤8)(hl:¬b.length< k+1)(i:Nat)(hi:i+1≤k):256*bF (am x) ((r.take k).take i)+(gt (r.take k) i ^^^ am x).toNat=bF (am x) ((r.take k).take (i+1)):=by
 rw[fq _ _ (Li hbe hk h8 hl i hi).2,m8];omega
theorem rwi (h8:k≤8)(hl:¬b.length< k+1): (if x.toNat< 128 then bu (-1 - (bF (am x) (r.take k):Int)) else bu (bF (am x) (r.take k))) =wI (bF (am x) (r.take k)) (am x):=by
 have _:=hbe;have hle: (le (bF (am x) (r.take k))).length≤8:=by
  refine fu 8 _ (Nat.lt_of_lt_of_le (lN _ _) (Nat.pow_le_pow_right (by decide) ?_));rw[List.length_take];omega
 split
 . rename_i h;rw[oI _ hle,(z9 x).1 h]
 . rename_i h;rw[wint_pos,(z9 x).2 h]
theorem x7 (h8:k≤8)(hl:¬b.length< k+1): ((if x.toNat< 128 then bu (-1 - (bF (am x) (r.take k):Int)) else bu (bF (am x) (r.take k))) =b.take (k+1))↔¬ (0< k∧gt (x::r) 1 ^^^ am x=0):=by
 rw[rwi hbe hk h8 hl,←YP hk h8 (by subst hbe;simp at hl;omega)];subst hbe;rw[List.take_succ_cons]
theorem acl (h8:k≤8)(hl:¬b.length< k+1)(h128:x.toNat< 128)(hc:bu (-1 - (bF (am x) (r.take k):Int))≠b.take (k+1)):ab b= (0,0,2):=by
 have h:=x7 hbe hk h8 hl;rw[if_pos h128] at h;have h3:=Classical.not_not.1 (mt h.2 hc);subst hbe;exact oc hk (by omega) (by omega) h3.1 h3.2
theorem acm (h8:k≤8)(hl:¬b.length< k+1)(h128:¬x.toNat< 128)(hc:bu (bF (am x) (r.take k))≠b.take (k+1)):ab b= (0,0,2):=by
 have h:=x7 hbe hk h8 hl;rw[if_neg h128] at h;have h3:=Classical.not_not.1 (mt h.2 hc);subst hbe;exact oc hk (by omega) (by omega) h3.1 h3.2
theorem rg5 (h8:k≤8)(hl:¬b.length< k+1)(h128:x.toNat< 128)(hm:bF (am x) (r.take k) < 9223372036854775808)(hc:bu (-1 - (bF (am x) (r.take k):Int)) =b.take (k+1)):ab b= (-1 - (bF (am x) (r.take k):Int),k+1,0):=by
 have h:=x7 hbe hk h8 hl;rw[if_pos h128] at h;have h3:=h.1 hc;have hx:=BX x;subst hbe;exact tn hk (by omega) (by omega) h3 (by omega) (by rw[hx];exact h128)
theorem rg6 (h8:k≤8)(hl:¬b.length< k+1)(h128:¬x.toNat< 128)(hm:bF (am x) (r.take k) < 9223372036854775808)(hc:bu (bF (am x) (r.take k)) =b.take (k+1)):ab b= ((bF (am x) (r.take k):Int),k+1,0):=by
 have h:=x7 hbe hk h8 hl;rw[if_neg h128] at h;have h3:=h.1 hc;have hx:=BX x;subst hbe;exact tp hk (by omega) (by omega) h3 (by omega) (by rw[hx];exact h128)
end
end Go.Sx
