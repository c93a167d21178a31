/-
   And what follows.
-/
import Derived.Test.YtmoaeemdlompaaaDoorPal
set_option linter.unusedSimpArgs false
set_option linter.unusedVariables false
namespace Go.Sx
open Go.RowKit Go.Proofs
set_option maxRecDepth 100000
set_option maxHeartbeats 8000000
theorem dj {p:Prop}(e:p:=by intro KZ hZ;simp -implicitDefEqProofs (disch:=first|omega| (simp only[go_sem,lA,lD,lT] <;>omega) |decide) only[go_sem,↓reduceIte,Nat.reduceEqDiff,reduceCtorEq,Nat.reduceLT,Nat.reduceBEq,Nat.reduceAdd,hy];exact hZ):p:=e
theorem Dm {p:Prop}(e:p:=by simp -implicitDefEqProofs (disch:=first|omega| (simp only[go_sem,lA,lD,lT] <;>omega) |decide) only[go_sem,↓reduceIte,Nat.reduceEqDiff,reduceCtorEq];all_goals (rw[List.take_of_length_le (by simp[ga])];rfl)):p:=e
theorem ael {gl:Nat→C}{M:Nat}{pu:Nat→List C→Option C}(hcx:CxOK (af gl M pu))(m:Nat)(hm:m< 9223372036854775808):FC Tryd.prog gl 39 [.val (nI m)] [] (sl bC (.own 1) (wI m 0)) []:=by
 replace hcx:=hcx.reN (M:=47)
 refine aB (cx:=af gl 47 pu) (rs:=[.tmp 2]) rfl Tryd.func39 rfl rfl rfl (by simp only[List.length_cons,List.length_nil];decide) (by simp only[go_sem]) ?_
 simp only[bq,go_sem]
 have hy:=True.intro
 have hk8: (le m).length≤8:=ey 8 m (by omega)
 refine Tr.w hcx [] _ [] rfl rfl rfl ?_ dj
 refine Tr.scope ?_
 refine Tr.w hcx [1000009] _ [] rfl rfl rfl ?_ dj
 refine aa fun K1 hK1=>?_
 refine Tr.w hcx [] _ [] rfl rfl rfl ?_ dj
 refine zi rfl ((decide_eq_false (by omega))) ?_
 refine Tr.skip ?_
 refine hK1 _ ?_
 refine Tr.w hcx [] _ [] rfl rfl rfl ?_ dj
 refine aa fun K2 hK2=>?_
 refine Tr.label ?_
 refine hK2 _ ?_
 refine Tr.k [3,4,5] ?_
 refine aa fun K3 hK3=>?_
 refine Tr.blk ?_
 refine aN (α:=Nat) (fun a=>[(3,?v3_1),(4,?v4_1),(5,.val (nI a))]) (fun a=>?h_1) (fun a=>a≤8∧m< 256 ^ a) (fun a=>a) (8) ?_ ?le_1 ?hh_1 ?bd_1
 case hh_1=>exact rfl
 case le_1=>exact LT
 . exact ⟨by omega,by omega⟩
 rintro k ⟨hk,hmk⟩
 refine aa fun K4 hK4=>?_
 refine Tr.w hcx [] _ [] rfl rfl rfl ?_ dj
 refine aq rfl (fun hc15=>?_) (fun hc15=>?_)
 ·
  refine Tr.skip ?_
  refine hK4 _ ?_
  refine Tr.blk ?_
  refine aa fun K5 hK5=>?_
  refine Tr.w hcx [] _ [] rfl rfl rfl ?_ dj
  refine aq rfl (fun hc21=>?_) (fun hc21=>?_)
  ·
   have hkk:=rV m k hmk (.inr hc21)
   subst hkk
   clear hc21 hmk hk hc15
   refine Tr.exit ?_
   refine hK3 _ ?_
   refine Tr.w hcx [1000029] _ [] rfl rfl rfl ?_ dj
   refine aa fun K6 hK6=>?_
   have hy:= @iw
   refine Tr.w hcx [1000031] _ [] rfl rfl rfl ?_ dj
   refine Tr.k [3,4,6,7] ?_
   refine Tr.blk ?_
   refine aN (α:=Nat) (fun a=>[(3,?v3_2),(4,?v4_2),(6,sl bC (.own 1) ((UInt8.ofNat (128+(le m).length) ^^^ UInt8.ofNat 0):: ((be m (le m).length).map (· ^^^ UInt8.ofNat 0)).take a)),(7,.val (.int .i64 (((le m).length:Int) - 1 - (a:Int))))]) (fun a=>?h_2) (fun a=>a≤(le m).length) (fun a=>(le m).length - a) (0) ?_ ?le_2 ?hh_2 ?bd_2
   case hh_2=>exact rfl
   case le_2=>(simp only[aZ,aK,↓aY,↓reduceIte,Nat.reduceEqDiff,aC,aP,aD,aL,aQ,and_true,true_and];all_goals (repeat' first|exact CLe.refl _|exact True.intro| (refine an ?_;first|rfl| (simp only[List.take_zero];done)) |exact a7 (by omega) |exact ay (by omega) |exact aS (by omega) |exact aW (by omega) |with_reducible apply And.intro));all_goals first|exact kn (by simp) |exact ay (by omega)
   . omega
   rintro a ha
   refine aa fun K7 hK7=>?_
   have hy:=True.intro
   refine Tr.w hcx [] _ [] rfl rfl rfl ?_ dj
   refine aq rfl (fun hc33=>?_) (fun hc33=>?_)
   ·
    refine Tr.skip ?_
    refine hK7 _ ?_
    refine aa fun K8 hK8=>?_
    refine Tr.blk ?_
    refine Tr.v hcx [36,1000045] _ [] rfl rfl rfl ?_ dj
    refine hK8 _ ?_
    refine Tr.v hcx [1000035] _ [] rfl rfl rfl ?_ dj
    refine ⟨a+1,⟨by omega,O1⟩,?_,rfl⟩
    (simp only[aZ,aK,↓aY,↓reduceIte,Nat.reduceEqDiff,aC,aP,aD,aL,aQ,and_true,true_and];all_goals (repeat' first|exact CLe.refl _|exact True.intro| (refine an ?_;first|rfl| (simp only[List.take_zero];done)) |exact a7 (by omega) |exact ay (by omega) |exact aS (by omega) |exact aW (by omega) |with_reducible apply And.intro))
    all_goals first|exact CLe.refl _|exact ay (by omega) | (refine cg ?_;rw[←rW m _ a (by omega),show (((8:Nat):Int)*(((le m).length:Int) - 1 - (a:Int))).toNat=8*((le m).length - 1 - a) by omega];try rfl)
   obtain rfl:a= (le m).length:=by omega
   refine Tr.exit ?_
   refine hK6 _ ?_
   refine Tr.w hcx [1000046] _ [] rfl rfl rfl ?_ dj
   exact Tr.ret Dm
  refine Tr.skip ?_
  refine hK5 _ ?_
  refine Tr.v hcx [1000023] _ [] rfl rfl rfl ?_ dj
  refine ⟨k - 1,⟨⟨by omega,De m k hc15 hc21⟩,O1⟩,?_,rfl⟩
  (simp only[aZ,aK,↓aY,↓reduceIte,Nat.reduceEqDiff,aC,aP,aD,aL,aQ,and_true,true_and];all_goals (repeat' first|exact CLe.refl _|exact True.intro| (refine an ?_;first|rfl| (simp only[List.take_zero];done)) |exact a7 (by omega) |exact ay (by omega) |exact aS (by omega) |exact aW (by omega) |with_reducible apply And.intro))
  all_goals first|exact CLe.refl _|exact ay (by omega) |exact a7 (by omega) |exact aW (by omega) |exact aS (by omega)
 have hkk:=rV m k hmk (.inl hc15)
 subst hkk
 clear hc15 hmk hk
 refine Tr.exit ?_
 refine hK3 _ ?_
 refine Tr.w hcx [1000029] _ [] rfl rfl rfl ?_ dj
 refine aa fun K9 hK9=>?_
 have hy:= @iw
 refine Tr.w hcx [1000031] _ [] rfl rfl rfl ?_ dj
 refine Tr.k [3,4,6,7] ?_
 refine Tr.blk ?_
 refine aN (α:=Nat) (fun a=>[(3,?v3_3),(4,?v4_3),(6,sl bC (.own 1) ((UInt8.ofNat (128+(le m).length) ^^^ UInt8.ofNat 0):: ((be m (le m).length).map (· ^^^ UInt8.ofNat 0)).take a)),(7,.val (.int .i64 (((le m).length:Int) - 1 - (a:Int))))]) (fun a=>?h_3) (fun a=>a≤(le m).length) (fun a=>(le m).length - a) (0) ?_ ?le_3 ?hh_3 ?bd_3
 case hh_3=>exact rfl
 case le_3=>(simp only[aZ,aK,↓aY,↓reduceIte,Nat.reduceEqDiff,aC,aP,aD,aL,aQ,and_true,true_and];all_goals (repeat' first|exact CLe.refl _|exact True.intro| (refine an ?_;first|rfl| (simp only[List.take_zero];done)) |exact a7 (by omega) |exact ay (by omega) |exact aS (by omega) |exact aW (by omega) |with_reducible apply And.intro));all_goals first|exact kn (by simp) |exact ay (by omega)
 . omega
 rintro a ha
 refine aa fun K10 hK10=>?_
 have hy:=True.intro
 refine Tr.w hcx [] _ [] rfl rfl rfl ?_ dj
 refine aq rfl (fun hc33=>?_) (fun hc33=>?_)
 ·
  refine Tr.skip ?_
  refine hK10 _ ?_
  refine aa fun K11 hK11=>?_
  refine Tr.blk ?_
  refine Tr.v hcx [36,1000045] _ [] rfl rfl rfl ?_ dj
  refine hK11 _ ?_
  refine Tr.v hcx [1000035] _ [] rfl rfl rfl ?_ dj
  refine ⟨a+1,⟨by omega,O1⟩,?_,rfl⟩
  (simp only[aZ,aK,↓aY,↓reduceIte,Nat.reduceEqDiff,aC,aP,aD,aL,aQ,and_true,true_and];all_goals (repeat' first|exact CLe.refl _|exact True.intro| (refine an ?_;first|rfl| (simp only[List.take_zero];done)) |exact a7 (by omega) |exact ay (by omega) |exact aS (by omega) |exact aW (by omega) |with_reducible apply And.intro))
  all_goals first|exact CLe.refl _|exact ay (by omega) | (refine cg ?_;rw[←rW m _ a (by omega),show (((8:Nat):Int)*(((le m).length:Int) - 1 - (a:Int))).toNat=8*((le m).length - 1 - a) by omega];try rfl)
 obtain rfl:a= (le m).length:=by omega
 refine Tr.exit ?_
 refine hK9 _ ?_
 refine Tr.w hcx [1000046] _ [] rfl rfl rfl ?_ dj
 exact Tr.ret Dm
theorem c9 {p:Prop}(e:p:=by intro KZ hZ;simp -implicitDefEqProofs (disch:=first|omega| (simp only[go_sem,lA,lD,lT] <;>omega) |decide) only[go_sem,↓reduceIte,Nat.reduceEqDiff,reduceCtorEq,Nat.reduceLT,Nat.reduceBEq,Nat.reduceAdd,em,hy];exact hZ):p:=e
theorem Dn {p:Prop}(e:p:=by simp -implicitDefEqProofs (disch:=first|omega| (simp only[go_sem,lA,lD,lT] <;>omega) |decide) only[go_sem,↓reduceIte,Nat.reduceEqDiff,reduceCtorEq];all_goals (rw[List.take_of_length_le (by simp[ga])];rfl)):p:=e
theorem aem {gl:Nat→C}{M:Nat}{pu:Nat→List C→Option C}(hcx:CxOK (af gl M pu))(m:Nat)(hm:m< 9223372036854775808):FC Tryd.prog gl 39 [.val (.int .i64 (-1 - (m:Int)))] [] (sl bC (.own 1) (wI m 255)) []:=by
 replace hcx:=hcx.reN (M:=47)
 refine aB (cx:=af gl 47 pu) (rs:=[.tmp 2]) rfl Tryd.func39 rfl rfl rfl (by simp only[List.length_cons,List.length_nil];decide) (by simp only[go_sem]) ?_
 simp only[bq,go_sem]
 have hy:=True.intro
 have hk8: (le m).length≤8:=ey 8 m (by omega)
 have em:18446744073709551615 - ((-1 - (m:Int)) % 18446744073709551616).toNat=m:=by omega
 refine Tr.w hcx [] _ [] rfl rfl rfl ?_ c9
 refine Tr.scope ?_
 refine Tr.w hcx [1000009] _ [] rfl rfl rfl ?_ c9
 refine aa fun K1 hK1=>?_
 refine Tr.w hcx [] _ [] rfl rfl rfl ?_ c9
 refine zh rfl ((decide_eq_true (by omega))) ?_
 refine Tr.v hcx [1000013] _ [] rfl rfl rfl ?_ c9
 refine hK1 _ ?_
 refine Tr.w hcx [] _ [] rfl rfl rfl ?_ c9
 refine aa fun K2 hK2=>?_
 refine Tr.label ?_
 refine hK2 _ ?_
 refine Tr.k [3,4,5] ?_
 refine aa fun K3 hK3=>?_
 refine Tr.blk ?_
 refine aN (α:=Nat) (fun a=>[(3,?v3_1),(4,?v4_1),(5,.val (nI a))]) (fun a=>?h_1) (fun a=>a≤8∧m< 256 ^ a) (fun a=>a) (8) ?_ ?le_1 ?hh_1 ?bd_1
 case hh_1=>exact rfl
 case le_1=>exact LT
 . exact ⟨by omega,by omega⟩
 rintro k ⟨hk,hmk⟩
 refine aa fun K4 hK4=>?_
 refine Tr.w hcx [] _ [] rfl rfl rfl ?_ c9
 refine aq rfl (fun hc15=>?_) (fun hc15=>?_)
 ·
  refine Tr.skip ?_
  refine hK4 _ ?_
  refine Tr.blk ?_
  refine aa fun K5 hK5=>?_
  refine Tr.w hcx [] _ [] rfl rfl rfl ?_ c9
  refine aq rfl (fun hc21=>?_) (fun hc21=>?_)
  ·
   have hkk:=rV m k hmk (.inr hc21)
   subst hkk
   clear hc21 hmk hk hc15
   refine Tr.exit ?_
   refine hK3 _ ?_
   refine Tr.w hcx [1000029] _ [] rfl rfl rfl ?_ c9
   refine aa fun K6 hK6=>?_
   have hy:= @iw
   refine Tr.w hcx [1000031] _ [] rfl rfl rfl ?_ c9
   refine Tr.k [3,4,6,7] ?_
   refine Tr.blk ?_
   refine aN (α:=Nat) (fun a=>[(3,?v3_2),(4,?v4_2),(6,sl bC (.own 1) ((UInt8.ofNat (128+(le m).length) ^^^ UInt8.ofNat 255):: ((be m (le m).length).map (· ^^^ UInt8.ofNat 255)).take a)),(7,.val (.int .i64 (((le m).length:Int) - 1 - (a:Int))))]) (fun a=>?h_2) (fun a=>a≤(le m).length) (fun a=>(le m).length - a) (0) ?_ ?le_2 ?hh_2 ?bd_2
   case hh_2=>exact rfl
   case le_2=>(simp only[aZ,aK,↓aY,↓reduceIte,Nat.reduceEqDiff,aC,aP,aD,aL,aQ,and_true,true_and];all_goals (repeat' first|exact CLe.refl _|exact True.intro| (refine an ?_;first|rfl| (simp only[List.take_zero];done)) |exact a7 (by omega) |exact ay (by omega) |exact aS (by omega) |exact aW (by omega) |with_reducible apply And.intro));all_goals first|exact kn (by simp) |exact ay (by omega)
   . omega
   rintro a ha
   refine aa fun K7 hK7=>?_
   have hy:=True.intro
   refine Tr.w hcx [] _ [] rfl rfl rfl ?_ c9
   refine aq rfl (fun hc33=>?_) (fun hc33=>?_)
   ·
    refine Tr.skip ?_
    refine hK7 _ ?_
    refine aa fun K8 hK8=>?_
    refine Tr.blk ?_
    refine Tr.v hcx [36,1000045] _ [] rfl rfl rfl ?_ c9
    refine hK8 _ ?_
    refine Tr.v hcx [1000035] _ [] rfl rfl rfl ?_ c9
    refine ⟨a+1,⟨by omega,O1⟩,?_,rfl⟩
    (simp only[aZ,aK,↓aY,↓reduceIte,Nat.reduceEqDiff,aC,aP,aD,aL,aQ,and_true,true_and];all_goals (repeat' first|exact CLe.refl _|exact True.intro| (refine an ?_;first|rfl| (simp only[List.take_zero];done)) |exact a7 (by omega) |exact ay (by omega) |exact aS (by omega) |exact aW (by omega) |with_reducible apply And.intro))
    all_goals first|exact CLe.refl _|exact ay (by omega) | (refine cg ?_;rw[←rW m _ a (by omega),show (((8:Nat):Int)*(((le m).length:Int) - 1 - (a:Int))).toNat=8*((le m).length - 1 - a) by omega];try rfl)
   obtain rfl:a= (le m).length:=by omega
   refine Tr.exit ?_
   refine hK6 _ ?_
   refine Tr.w hcx [1000046] _ [] rfl rfl rfl ?_ c9
   exact Tr.ret Dn
  refine Tr.skip ?_
  refine hK5 _ ?_
  refine Tr.v hcx [1000023] _ [] rfl rfl rfl ?_ c9
  refine ⟨k - 1,⟨⟨by omega,De m k hc15 hc21⟩,O1⟩,?_,rfl⟩
  (simp only[aZ,aK,↓aY,↓reduceIte,Nat.reduceEqDiff,aC,aP,aD,aL,aQ,and_true,true_and];all_goals (repeat' first|exact CLe.refl _|exact True.intro| (refine an ?_;first|rfl| (simp only[List.take_zero];done)) |exact a7 (by omega) |exact ay (by omega) |exact aS (by omega) |exact aW (by omega) |with_reducible apply And.intro))
  all_goals first|exact CLe.refl _|exact ay (by omega) |exact a7 (by omega) |exact aW (by omega) |exact aS (by omega)
 have hkk:=rV m k hmk (.inl hc15)
 subst hkk
 clear hc15 hmk hk
 refine Tr.exit ?_
 refine hK3 _ ?_
 refine Tr.w hcx [1000029] _ [] rfl rfl rfl ?_ c9
 refine aa fun K9 hK9=>?_
 have hy:= @iw
 refine Tr.w hcx [1000031] _ [] rfl rfl rfl ?_ c9
 refine Tr.k [3,4,6,7] ?_
 refine Tr.blk ?_
 refine aN (α:=Nat) (fun a=>[(3,?v3_3),(4,?v4_3),(6,sl bC (.own 1) ((UInt8.ofNat (128+(le m).length) ^^^ UInt8.ofNat 255):: ((be m (le m).length).map (· ^^^ UInt8.ofNat 255)).take a)),(7,.val (.int .i64 (((le m).length:Int) - 1 - (a:Int))))]) (fun a=>?h_3) (fun a=>a≤(le m).length) (fun a=>(le m).length - a) (0) ?_ ?le_3 ?hh_3 ?bd_3
 case hh_3=>exact rfl
 case le_3=>(simp only[aZ,aK,↓aY,↓reduceIte,Nat.reduceEqDiff,aC,aP,aD,aL,aQ,and_true,true_and];all_goals (repeat' first|exact CLe.refl _|exact True.intro| (refine an ?_;first|rfl| (simp only[List.take_zero];done)) |exact a7 (by omega) |exact ay (by omega) |exact aS (by omega) |exact aW (by omega) |with_reducible apply And.intro));all_goals first|exact kn (by simp) |exact ay (by omega)
 . omega
 rintro a ha
 refine aa fun K10 hK10=>?_
 have hy:=True.intro
 refine Tr.w hcx [] _ [] rfl rfl rfl ?_ c9
 refine aq rfl (fun hc33=>?_) (fun hc33=>?_)
 ·
  refine Tr.skip ?_
  refine hK10 _ ?_
  refine aa fun K11 hK11=>?_
  refine Tr.blk ?_
  refine Tr.v hcx [36,1000045] _ [] rfl rfl rfl ?_ c9
  refine hK11 _ ?_
  refine Tr.v hcx [1000035] _ [] rfl rfl rfl ?_ c9
  refine ⟨a+1,⟨by omega,O1⟩,?_,rfl⟩
  (simp only[aZ,aK,↓aY,↓reduceIte,Nat.reduceEqDiff,aC,aP,aD,aL,aQ,and_true,true_and];all_goals (repeat' first|exact CLe.refl _|exact True.intro| (refine an ?_;first|rfl| (simp only[List.take_zero];done)) |exact a7 (by omega) |exact ay (by omega) |exact aS (by omega) |exact aW (by omega) |with_reducible apply And.intro))
  all_goals first|exact CLe.refl _|exact ay (by omega) | (refine cg ?_;rw[←rW m _ a (by omega),show (((8:Nat):Int)*(((le m).length:Int) - 1 - (a:Int))).toNat=8*((le m).length - 1 - a) by omega];try rfl)
 obtain rfl:a= (le m).length:=by omega
 refine Tr.exit ?_
 refine hK9 _ ?_
 refine Tr.w hcx [1000046] _ [] rfl rfl rfl ?_ c9
 exact Tr.ret Dn
theorem dB {p:Prop}(e:p:=by intro KZ hZ;simp -implicitDefEqProofs (disch:=first|omega| (simp only[go_sem,lA,lD,lT] <;>omega) |decide) only[go_sem,↓reduceIte,Nat.reduceEqDiff,reduceCtorEq,Nat.reduceLT,Nat.reduceBEq,Nat.reduceAdd,hy];exact hZ):p:=e
theorem Rj {p:Prop}(e:p:=by simp -implicitDefEqProofs (disch:=first|omega| (simp only[go_sem,lA,lD,lT] <;>omega) |decide) only[go_sem,↓reduceIte,Nat.reduceEqDiff,reduceCtorEq];all_goals (rw[List.take_of_length_le (by simp)];rw[←gC m];unfold aA;rw[if_pos (by omega)];simp)):p:=e
theorem aen {gl:Nat→C}{M:Nat}{pu:Nat→List C→Option C}(hcx:CxOK (af gl M pu))(m:Nat)(hm:m< 9223372036854775808):FC Tryd.prog gl 83 [.val (nI m)] [] (sl bC (.own 1) (wI m 0)) []:=by
 replace hcx:=hcx.reN (M:=59)
 refine aB (cx:=af gl 59 pu) (rs:=[.tmp 2]) rfl Tryd.func83 rfl rfl rfl (by simp only[List.length_cons,List.length_nil];decide) (by simp only[go_sem]) ?_
 simp only[bq,go_sem]
 have hy:=True.intro
 have hk8: (le m).length≤8:=ey 8 m (by omega)
 refine Tr.w hcx [] _ [] rfl rfl rfl ?_ dB
 refine Tr.w hcx [1000009] _ [] rfl rfl rfl ?_ dB
 refine aa fun K1 hK1=>?_
 refine Tr.w hcx [] _ [] rfl rfl rfl ?_ dB
 refine zi rfl ((decide_eq_false (by omega))) ?_
 refine Tr.skip ?_
 refine hK1 _ ?_
 refine Tr.w hcx [] _ [] rfl rfl rfl ?_ dB
 refine Tr.k [0,3,4] ?_
 refine aa fun K2 hK2=>?_
 refine Tr.blk ?_
 refine aN (α:=(Nat×List UInt8)) (fun a=>[(0,?v0_1),(3,.val (nI a.1)),(4,sl bC (.own 1) a.2)]) (fun a=>?h_1) (fun a=>a.1≤m∧a.2++le a.1=le m) (fun a=>a.1) ((m,[])) ?_ ?le_1 ?hh_1 ?bd_1
 case hh_1=>exact rfl
 case le_1=>(simp only[aZ,aK,↓aY,↓reduceIte,Nat.reduceEqDiff,aC,aP,aD,aL,aQ,and_true,true_and];all_goals (repeat' first|exact CLe.refl _|exact True.intro| (refine an ?_;first|rfl| (simp only[List.take_zero];done)) |exact a7 (by omega) |exact ay (by omega) |exact aS (by omega) |exact aW (by omega) |with_reducible apply And.intro));all_goals first|exact aS (by omega) |exact CLe.refl _
 . exact ⟨Nat.le_refl _,rfl⟩
 rintro ⟨q,ds⟩ ⟨hq,hds⟩
 have hdl:ds.length≤8:=by have:=congrArg List.length hds;simp only[List.length_append] at this;omega
 simp only[] at hq hds ⊢
 refine aa fun K3 hK3=>?_
 refine Tr.w hcx [] _ [] rfl rfl rfl ?_ dB
 refine aq rfl (fun hc15=>?_) (fun hc15=>?_)
 ·
  refine Tr.skip ?_
  refine hK3 _ ?_
  refine Tr.blk ?_
  refine Tr.w hcx [16,1000021] _ [] rfl rfl rfl ?_ dB
  refine Tr.v hcx [1000023] _ [] rfl rfl rfl ?_ dB
  refine ⟨(q / 256,ds++[UInt8.ofNat (q % 256)]),⟨⟨by have:=Nat.div_le_self q 256;simp only[];omega,by simp only[] at hds ⊢;rw[←hds,ma q (by omega)];simp⟩,by have:q / 256< q:=Nat.div_lt_self (by omega) (by decide);exact this⟩,?_,rfl⟩
  (simp only[aZ,aK,↓aY,↓reduceIte,Nat.reduceEqDiff,aC,aP,aD,aL,aQ,and_true,true_and];all_goals (repeat' first|exact CLe.refl _|exact True.intro| (refine an ?_;first|rfl| (simp only[List.take_zero];done)) |exact a7 (by omega) |exact ay (by omega) |exact aS (by omega) |exact aW (by omega) |with_reducible apply And.intro))
  all_goals exact CLe.refl _
 obtain rfl:q=0:=by omega
 rw[jw,List.append_nil] at hds
 subst hds
 clear hq hdl
 refine Tr.exit ?_
 refine hK2 _ ?_
 refine Tr.w hcx [1000025] _ [] rfl rfl rfl ?_ dB
 refine Tr.w hcx [] _ [] rfl rfl rfl ?_ dB
 refine aa fun K4 hK4=>?_
 refine Tr.w hcx [] _ [] rfl rfl rfl ?_ dB
 refine zh rfl ((decide_eq_true (by omega))) ?_
 refine Tr.v hcx [28,1000033] _ [] rfl rfl rfl ?_ dB
 refine hK4 _ ?_
 refine aa fun K5 hK5=>?_
 have hy:= @iw
 refine Tr.w hcx [1000041] _ [] rfl rfl rfl ?_ dB
 refine Tr.k [0,4,6,7] ?_
 refine Tr.blk ?_
 refine aN (α:=Nat) (fun a=>[(0,?v0_2),(4,?v4_2),(6,sl bC (.own 1) (UInt8.ofNat (128+(le m).length):: ((le m).reverse.map (fun c=>c)).take a)),(7,.val (.int .i64 (((le m).length:Int) - 1 - (a:Int))))]) (fun a=>?h_2) (fun a=>a≤(le m).length) (fun a=>(le m).length - a) (0) ?_ ?le_2 ?hh_2 ?bd_2
 case hh_2=>exact rfl
 case le_2=>(simp only[aZ,aK,↓aY,↓reduceIte,Nat.reduceEqDiff,aC,aP,aD,aL,aQ,and_true,true_and];all_goals (repeat' first|exact CLe.refl _|exact True.intro| (refine an ?_;first|rfl| (simp only[List.take_zero];done)) |exact a7 (by omega) |exact ay (by omega) |exact aS (by omega) |exact aW (by omega) |with_reducible apply And.intro));all_goals first|exact kn (by simp) |exact CLe.refl _|exact ay (by omega) |exact cg (by simp)
 . omega
 rintro a ha
 refine aa fun K6 hK6=>?_
 have hy:=True.intro
 refine Tr.w hcx [] _ [] rfl rfl rfl ?_ dB
 refine aq rfl (fun hc43=>?_) (fun hc43=>?_)
 ·
  refine Tr.skip ?_
  refine hK6 _ ?_
  refine aa fun K7 hK7=>?_
  refine Tr.blk ?_
  refine Tr.w hcx [1000049] _ [] rfl rfl rfl ?_ dB
  refine aa fun K8 hK8=>?_
  refine Tr.w hcx [] _ [] rfl rfl rfl ?_ dB
  refine zi rfl ((decide_eq_false (by omega))) ?_
  refine Tr.skip ?_
  refine hK8 _ ?_
  refine Tr.v hcx [54,1000057] _ [] rfl rfl rfl ?_ dB
  refine hK7 _ ?_
  refine Tr.v hcx [1000045] _ [] rfl rfl rfl ?_ dB
  refine ⟨a+1,⟨by omega,O1⟩,?_,rfl⟩
  (simp only[aZ,aK,↓aY,↓reduceIte,Nat.reduceEqDiff,aC,aP,aD,aL,aQ,and_true,true_and];all_goals (repeat' first|exact CLe.refl _|exact True.intro| (refine an ?_;first|rfl| (simp only[List.take_zero];done)) |exact a7 (by omega) |exact ay (by omega) |exact aS (by omega) |exact aW (by omega) |with_reducible apply And.intro))
  all_goals first|exact CLe.refl _|exact ay (by omega) | (refine cg ?_;rw[←Dg (le m) _ a (by omega),show (((le m).length:Int) - 1 - (a:Int)).toNat= (le m).length - 1 - a by omega];try rfl)
 obtain rfl:a= (le m).length:=by omega
 refine Tr.exit ?_
 refine hK5 _ ?_
 refine Tr.w hcx [1000058] _ [] rfl rfl rfl ?_ dB
 exact Tr.ret Rj
theorem da {p:Prop}(e:p:=by intro KZ hZ;simp -implicitDefEqProofs (disch:=first|omega| (simp only[go_sem,lA,lD,lT] <;>omega) |decide) only[go_sem,↓reduceIte,Nat.reduceEqDiff,reduceCtorEq,Nat.reduceLT,Nat.reduceBEq,Nat.reduceAdd,hy];exact hZ):p:=e
theorem Rk {p:Prop}(e:p:=by simp -implicitDefEqProofs (disch:=first|omega| (simp only[go_sem,lA,lD,lT] <;>omega) |decide) only[go_sem,↓reduceIte,Nat.reduceEqDiff,reduceCtorEq];all_goals (rw[List.take_of_length_le (by simp)];rw[←mb m hk8];unfold aA;rw[if_neg (by omega),show (-1 - (-1 - (m:Int))).toNat=m by omega];rfl)):p:=e
theorem aeo {gl:Nat→C}{M:Nat}{pu:Nat→List C→Option C}(hcx:CxOK (af gl M pu))(m:Nat)(hm:m< 9223372036854775808):FC Tryd.prog gl 83 [.val (.int .i64 (-1 - (m:Int)))] [] (sl bC (.own 1) (wI m 255)) []:=by
 replace hcx:=hcx.reN (M:=59)
 refine aB (cx:=af gl 59 pu) (rs:=[.tmp 2]) rfl Tryd.func83 rfl rfl rfl (by simp only[List.length_cons,List.length_nil];decide) (by simp only[go_sem]) ?_
 simp only[bq,go_sem]
 have hy:=True.intro
 have hk8: (le m).length≤8:=ey 8 m (by omega)
 refine Tr.w hcx [] _ [] rfl rfl rfl ?_ da
 refine Tr.w hcx [1000009] _ [] rfl rfl rfl ?_ da
 refine aa fun K1 hK1=>?_
 refine Tr.w hcx [] _ [] rfl rfl rfl ?_ da
 refine zh rfl ((decide_eq_true (by omega))) ?_
 refine Tr.v hcx [1000013] _ [] rfl rfl rfl ?_ da
 refine hK1 _ ?_
 refine Tr.w hcx [] _ [] rfl rfl rfl ?_ da
 refine Tr.k [0,3,4] ?_
 refine aa fun K2 hK2=>?_
 refine Tr.blk ?_
 refine aN (α:=(Nat×List UInt8)) (fun a=>[(0,?v0_1),(3,.val (nI a.1)),(4,sl bC (.own 1) a.2)]) (fun a=>?h_1) (fun a=>a.1≤m∧a.2++le a.1=le m) (fun a=>a.1) ((m,[])) ?_ ?le_1 ?hh_1 ?bd_1
 case hh_1=>exact rfl
 case le_1=>(simp only[aZ,aK,↓aY,↓reduceIte,Nat.reduceEqDiff,aC,aP,aD,aL,aQ,and_true,true_and];all_goals (repeat' first|exact CLe.refl _|exact True.intro| (refine an ?_;first|rfl| (simp only[List.take_zero];done)) |exact a7 (by omega) |exact ay (by omega) |exact aS (by omega) |exact aW (by omega) |with_reducible apply And.intro));all_goals first|exact aS (by omega) |exact CLe.refl _
 . exact ⟨Nat.le_refl _,rfl⟩
 rintro ⟨q,ds⟩ ⟨hq,hds⟩
 have hdl:ds.length≤8:=by have:=congrArg List.length hds;simp only[List.length_append] at this;omega
 simp only[] at hq hds ⊢
 refine aa fun K3 hK3=>?_
 refine Tr.w hcx [] _ [] rfl rfl rfl ?_ da
 refine aq rfl (fun hc15=>?_) (fun hc15=>?_)
 ·
  refine Tr.skip ?_
  refine hK3 _ ?_
  refine Tr.blk ?_
  refine Tr.w hcx [16,1000021] _ [] rfl rfl rfl ?_ da
  refine Tr.v hcx [1000023] _ [] rfl rfl rfl ?_ da
  refine ⟨(q / 256,ds++[UInt8.ofNat (q % 256)]),⟨⟨by have:=Nat.div_le_self q 256;simp only[];omega,by simp only[] at hds ⊢;rw[←hds,ma q (by omega)];simp⟩,by have:q / 256< q:=Nat.div_lt_self (by omega) (by decide);exact this⟩,?_,rfl⟩
  (simp only[aZ,aK,↓aY,↓reduceIte,Nat.reduceEqDiff,aC,aP,aD,aL,aQ,and_true,true_and];all_goals (repeat' first|exact CLe.refl _|exact True.intro| (refine an ?_;first|rfl| (simp only[List.take_zero];done)) |exact a7 (by omega) |exact ay (by omega) |exact aS (by omega) |exact aW (by omega) |with_reducible apply And.intro))
  all_goals exact CLe.refl _
 obtain rfl:q=0:=by omega
 rw[jw,List.append_nil] at hds
 subst hds
 clear hq hdl
 refine Tr.exit ?_
 refine hK2 _ ?_
 refine Tr.w hcx [1000025] _ [] rfl rfl rfl ?_ da
 refine Tr.w hcx [] _ [] rfl rfl rfl ?_ da
 refine aa fun K4 hK4=>?_
 refine Tr.w hcx [] _ [] rfl rfl rfl ?_ da
 refine zi rfl ((decide_eq_false (by omega))) ?_
 refine Tr.v hcx [34,1000039] _ [] rfl rfl rfl ?_ da
 refine hK4 _ ?_
 refine aa fun K5 hK5=>?_
 have hy:= @iw
 refine Tr.w hcx [1000041] _ [] rfl rfl rfl ?_ da
 refine Tr.k [0,4,6,7] ?_
 refine Tr.blk ?_
 refine aN (α:=Nat) (fun a=>[(0,?v0_2),(4,?v4_2),(6,sl bC (.own 1) (UInt8.ofNat (127 - (le m).length):: ((le m).reverse.map (fun c=>UInt8.ofNat 255 - c)).take a)),(7,.val (.int .i64 (((le m).length:Int) - 1 - (a:Int))))]) (fun a=>?h_2) (fun a=>a≤(le m).length) (fun a=>(le m).length - a) (0) ?_ ?le_2 ?hh_2 ?bd_2
 case hh_2=>exact rfl
 case le_2=>(simp only[aZ,aK,↓aY,↓reduceIte,Nat.reduceEqDiff,aC,aP,aD,aL,aQ,and_true,true_and];all_goals (repeat' first|exact CLe.refl _|exact True.intro| (refine an ?_;first|rfl| (simp only[List.take_zero];done)) |exact a7 (by omega) |exact ay (by omega) |exact aS (by omega) |exact aW (by omega) |with_reducible apply And.intro));all_goals first|exact kn (by simp) |exact CLe.refl _|exact ay (by omega) |exact cg (by simp)
 . omega
 rintro a ha
 refine aa fun K6 hK6=>?_
 have hy:=True.intro
 refine Tr.w hcx [] _ [] rfl rfl rfl ?_ da
 refine aq rfl (fun hc43=>?_) (fun hc43=>?_)
 ·
  refine Tr.skip ?_
  refine hK6 _ ?_
  refine aa fun K7 hK7=>?_
  refine Tr.blk ?_
  refine Tr.w hcx [1000049] _ [] rfl rfl rfl ?_ da
  refine aa fun K8 hK8=>?_
  refine Tr.w hcx [] _ [] rfl rfl rfl ?_ da
  refine zh rfl ((decide_eq_true (by omega))) ?_
  refine Tr.v hcx [1000053] _ [] rfl rfl rfl ?_ da
  refine hK8 _ ?_
  refine Tr.v hcx [54,1000057] _ [] rfl rfl rfl ?_ da
  refine hK7 _ ?_
  refine Tr.v hcx [1000045] _ [] rfl rfl rfl ?_ da
  refine ⟨a+1,⟨by omega,O1⟩,?_,rfl⟩
  (simp only[aZ,aK,↓aY,↓reduceIte,Nat.reduceEqDiff,aC,aP,aD,aL,aQ,and_true,true_and];all_goals (repeat' first|exact CLe.refl _|exact True.intro| (refine an ?_;first|rfl| (simp only[List.take_zero];done)) |exact a7 (by omega) |exact ay (by omega) |exact aS (by omega) |exact aW (by omega) |with_reducible apply And.intro))
  all_goals first|exact CLe.refl _|exact ay (by omega) | (refine cg ?_;rw[←Dg (le m) _ a (by omega),show (((le m).length:Int) - 1 - (a:Int)).toNat= (le m).length - 1 - a by omega];try rfl)
 obtain rfl:a= (le m).length:=by omega
 refine Tr.exit ?_
 refine hK5 _ ?_
 refine Tr.w hcx [1000058] _ [] rfl rfl rfl ?_ da
 exact Tr.ret Rk
theorem HE {p:Prop}(e:p:=by intro KZ hZ;simp -implicitDefEqProofs (disch:=first|omega| (simp only[go_sem,lA,lD,lT] <;>omega) |decide) only[go_sem,↓reduceIte,Nat.reduceEqDiff,reduceCtorEq,Nat.reduceLT,Nat.reduceBEq,Nat.reduceAdd,h39,hy];exact hZ):p:=e
theorem YZ {p:Prop}(e:p:=by simp -implicitDefEqProofs (disch:=first|omega| (simp only[go_sem,lA,lD,lT] <;>omega) |decide) only[go_sem,↓reduceIte,Nat.reduceEqDiff,reduceCtorEq];all_goals (unfold wb;rw[gC])):p:=e
theorem ai0 {gl:Nat→C}{M:Nat}{pu:Nat→List C→Option C}(hcx:CxOK (af gl M pu))(h39:∀m:Nat,m< 9223372036854775808→pu 39 [.val (nI m)] =some (sl bC (.own 1) (wI m 0)))(s:List UInt8)(hs:s.length< 70368744177664):FC Tryd.prog gl 74 [.val (str s)] [] (sl bC (.own 1) (wb s)) []:=by
 replace hcx:=hcx.reN (M:=8)
 refine aB (cx:=af gl 8 pu) (rs:=[.tmp 2]) rfl Tryd.func74 rfl rfl rfl (by simp only[List.length_cons,List.length_nil];decide) (by simp only[go_sem]) ?_
 simp only[bq,go_sem]
 have hy:=True.intro
 have hk8: (wI s.length 0).length≤9:=by have:=ey 8 s.length (by omega);simp[wI,ga];omega
 refine Tr.w hcx [] _ [] rfl rfl rfl ?_ HE
 refine Tr.w hcx [5,1000007] _ [] rfl rfl rfl ?_ HE
 exact Tr.ret YZ
theorem HF {p:Prop}(e:p:=by intro KZ hZ;simp -implicitDefEqProofs (disch:=first|omega| (simp only[go_sem,lA,lD,lT] <;>omega) |decide) only[go_sem,↓reduceIte,Nat.reduceEqDiff,reduceCtorEq,Nat.reduceLT,Nat.reduceBEq,Nat.reduceAdd,h83,hy];exact hZ):p:=e
theorem Y0 {p:Prop}(e:p:=by simp -implicitDefEqProofs (disch:=first|omega| (simp only[go_sem,lA,lD,lT] <;>omega) |decide) only[go_sem,↓reduceIte,Nat.reduceEqDiff,reduceCtorEq];all_goals (unfold wb;rw[gC])):p:=e
theorem ai1 {gl:Nat→C}{M:Nat}{pu:Nat→List C→Option C}(hcx:CxOK (af gl M pu))(h83:∀m:Nat,m< 9223372036854775808→pu 83 [.val (nI m)] =some (sl bC (.own 1) (wI m 0)))(s:List UInt8)(hs:s.length< 70368744177664):FC Tryd.prog gl 95 [.val (str s)] [] (sl bC (.own 1) (wb s)) []:=by
 replace hcx:=hcx.reN (M:=9)
 refine aB (cx:=af gl 9 pu) (rs:=[.tmp 2]) rfl Tryd.func95 rfl rfl rfl (by simp only[List.length_cons,List.length_nil];decide) (by simp only[go_sem]) ?_
 simp only[bq,go_sem]
 have hy:=True.intro
 have hk8: (wI s.length 0).length≤9:=by have:=ey 8 s.length (by omega);simp[wI,ga];omega
 refine Tr.w hcx [] _ [] rfl rfl rfl ?_ HF
 refine Tr.w hcx [5,1000008] _ [] rfl rfl rfl ?_ HF
 exact Tr.ret Y0
end Go.Sx
namespace Go.Sx
open Go.RowKit Go.Proofs
theorem Q7 (b:List UInt8)(t:Nat)(h:t< 16):bh b (t+1) =bh b t++[zb b t]:=by
 simp only[bh,h,if_true]
theorem HC (b:List UInt8)(t:Nat)(h:¬t< 16):bh b (t+1) =bh b t++[gt (bh b t) (t - 16)+(rr (gt (bh b t) (t - 15)) 7 ^^^ rr (gt (bh b t) (t - 15)) 18 ^^^ gt (bh b t) (t - 15) >>>3)+gt (bh b t) (t - 7)+
        (rr (gt (bh b t) (t - 2)) 17 ^^^ rr (gt (bh b t) (t - 2)) 19 ^^^ gt (bh b t) (t - 2) >>>10)]:=by
 simp only[bh,h,if_false]
theorem wE {α:Type}(l:List α)(x y:α)(t:Nat):l++x::List.replicate (63 - t) y= (l++[x])++List.replicate (64 - (t+1)) y:=by
 rw[show 64 - (t+1) =63 - t by omega];simp
end Go.Sx
namespace Go.Sx
open Go.RowKit Go.Proofs
set_option maxRecDepth 100000
set_option maxHeartbeats 8000000
theorem mh {p:Prop}(e:p:=by intro KZ hZ;simp -implicitDefEqProofs (disch:=first|omega| (simp only[go_sem,lA,lD,lT,hh] <;>omega) |decide) only[go_sem,↓reduceIte,Nat.reduceEqDiff,reduceCtorEq,Nat.reduceLT,Nat.reduceBEq,Nat.reduceAdd,hy];exact hZ):p:=e
theorem Y1 {p:Prop}(e:p:=by simp -implicitDefEqProofs (disch:=first|omega| (simp only[go_sem,lA,lD,lT,hh] <;>omega) |decide) only[go_sem,↓reduceIte,Nat.reduceEqDiff,reduceCtorEq];all_goals (rw[List.take_of_length_le (by omega)])):p:=e
theorem ai2 {gl:Nat→C}{M:Nat}{pu:Nat→List C→Option C}(hcx:CxOK (af gl M pu))(h:List UInt8)(hh:h.length=16):FC Tryd.prog gl 84 [.agg (cl bC h)] [] (.val (str h)) []:=by
 replace hcx:=hcx.reN (M:=17)
 refine aB (cx:=af gl 17 pu) (rs:=[.tmp 2]) rfl Tryd.func84 rfl rfl rfl (by simp only[List.length_cons,List.length_nil];decide) (by simp only[go_sem]) ?_
 simp only[bq,go_sem]
 have hy:=True.intro
 refine Tr.w hcx [] _ [none] rfl rfl rfl ?_ mh
 refine Tr.w hcx [] _ [] rfl rfl rfl ?_ mh
 refine aa fun K1 hK1=>?_
 refine Tr.w hcx [] _ [] rfl rfl rfl ?_ mh
 refine Tr.k [1,3,4] ?_
 refine Tr.blk ?_
 refine aN (α:=Nat) (fun a=>[(1,?v1_1),(3,sl bC (.own 1) (h.take a)),(4,.val (nI a))]) (fun a=>[some (cl bC h)]) (fun a=>a≤16) (fun a=>16 - a) (0) ?_ ?le_1 ?hh_1 ?bd_1
 case hh_1=>exact rfl
 case le_1=>exact LT
 . omega
 rintro i hi
 refine aa fun K2 hK2=>?_
 refine Tr.w hcx [] _ [] rfl rfl rfl ?_ mh
 refine aq rfl (fun hc6=>?_) (fun hc6=>?_)
 ·
  refine Tr.skip ?_
  refine hK2 _ ?_
  refine aa fun K3 hK3=>?_
  refine Tr.blk ?_
  refine Tr.v hcx [9,1000014] _ [] rfl rfl rfl ?_ mh
  refine hK3 _ ?_
  refine Tr.v hcx [1000008] _ [] rfl rfl rfl ?_ mh
  refine ⟨i+1,⟨by omega,O1⟩,?_,rfl⟩
  (simp only[aZ,aK,↓aY,↓reduceIte,Nat.reduceEqDiff,aC,aP,aD,aL,aQ,and_true,true_and];all_goals (repeat' first|exact CLe.refl _|exact True.intro| (refine an ?_;first|rfl| (simp only[List.take_zero];done)) |exact a7 (by omega) |exact ay (by omega) |exact aS (by omega) |exact aW (by omega) |with_reducible apply And.intro))
  all_goals (refine cg ?_;rw[cM _ _ (by omega)])
 obtain rfl:i=16:=by omega
 refine Tr.exit ?_
 refine hK1 _ ?_
 refine Tr.w hcx [1000016] _ [] rfl rfl rfl ?_ mh
 exact Tr.ret Y1
theorem gc {p:Prop}(e:p:=by intro KZ hZ;simp -implicitDefEqProofs (disch:=first|omega| (simp only[go_sem,lA,lD,lT,kg] <;>omega) |decide) only[go_sem,↓reduceIte,Nat.reduceEqDiff,reduceCtorEq,Nat.reduceLT,Nat.reduceBEq,Nat.reduceAdd,hy];exact hZ):p:=e
theorem Rl {p:Prop}(e:p:=by simp -implicitDefEqProofs (disch:=first|omega| (simp only[go_sem,lA,lD,lT,kg] <;>omega) |decide) only[go_sem,↓reduceIte,Nat.reduceEqDiff,reduceCtorEq];all_goals (simp[me])):p:=e
theorem aep {gl:Nat→C}{M:Nat}{pu:Nat→List C→Option C}(hcx:CxOK (af gl M pu))(b:List UInt8)(hb:b.length< 35184372088832):FC Tryd.prog gl 108 [sl bC .no b] [] (sl bC (.own 1) (b++me b.length)) []:=by
 replace hcx:=hcx.reN (M:=37)
 refine aB (cx:=af gl 37 pu) (rs:=[.tmp 2]) rfl Tryd.func108 rfl rfl rfl (by simp only[List.length_cons,List.length_nil];decide) (by simp only[go_sem]) ?_
 simp only[bq,go_sem]
 have hy:=True.intro
 have hz:gb b.length< 64:=Nat.mod_lt _ (by decide)
 refine Tr.w hcx [] _ [] rfl rfl rfl ?_ gc
 refine Tr.w hcx [6,1000008] _ [] rfl rfl rfl ?_ gc
 refine Tr.w hcx [9,1000011] _ [] rfl rfl rfl ?_ gc
 refine Tr.k [0,3] ?_
 refine aa fun K1 hK1=>?_
 refine Tr.blk ?_
 refine aN (α:=Nat) (fun a=>[(0,?v0_1),(3,sl bC (.own 1) (b++128::List.replicate a 0))]) (fun a=>?h_1) (fun a=>a≤gb b.length) (fun a=>gb b.length - a) (0) ?_ ?le_1 ?hh_1 ?bd_1
 case hh_1=>exact rfl
 case le_1=>(simp only[aZ,aK,↓aY,↓reduceIte,Nat.reduceEqDiff,aC,aP,aD,aL,aQ,and_true,true_and];all_goals (repeat' first|exact CLe.refl _|exact True.intro| (refine an ?_;first|rfl| (simp only[List.take_zero];done)) |exact a7 (by omega) |exact ay (by omega) |exact aS (by omega) |exact aW (by omega) |with_reducible apply And.intro));all_goals exact cg (by simp)
 . omega
 rintro z hzz
 have hL: (b++128::List.replicate z 0).length=b.length+1+z:=by simp;omega
 refine aa fun K2 hK2=>?_
 refine Tr.w hcx [] _ [] rfl rfl rfl ?_ gc
 refine aq rfl (fun hc15=>?_) (fun hc15=>?_)
 ·
  refine Tr.skip ?_
  refine hK2 _ ?_
  refine Tr.blk ?_
  refine Tr.v hcx [16,1000018] _ [] rfl rfl rfl ?_ gc
  refine ⟨z+1,⟨by unfold gb at*;omega,by unfold gb at*;omega⟩,?_,rfl⟩
  (simp only[aZ,aK,↓aY,↓reduceIte,Nat.reduceEqDiff,aC,aP,aD,aL,aQ,and_true,true_and];all_goals (repeat' first|exact CLe.refl _|exact True.intro| (refine an ?_;first|rfl| (simp only[List.take_zero];done)) |exact a7 (by omega) |exact ay (by omega) |exact aS (by omega) |exact aW (by omega) |with_reducible apply And.intro))
  all_goals (refine cg ?_;rw[←Ks z];simp)
 obtain rfl:z=gb b.length:=by unfold gb at*;omega
 refine Tr.exit ?_
 refine hK1 _ ?_
 refine Tr.w hcx [1000022] _ [] rfl rfl rfl ?_ gc
 refine aa fun K3 hK3=>?_
 refine Tr.w hcx [] _ [] rfl rfl rfl ?_ gc
 refine Tr.k [3,4,5] ?_
 refine Tr.blk ?_
 refine aN (α:=Nat) (fun a=>[(3,sl bC (.own 1) (b++128::List.replicate (gb b.length) 0++nd (8*b.length) a)),(4,?v4_2),(5,.val (nI a))]) (fun a=>?h_2) (fun a=>a≤8) (fun a=>8 - a) (0) ?_ ?le_2 ?hh_2 ?bd_2
 case hh_2=>exact rfl
 case le_2=>(simp only[aZ,aK,↓aY,↓reduceIte,Nat.reduceEqDiff,aC,aP,aD,aL,aQ,and_true,true_and];all_goals (repeat' first|exact CLe.refl _|exact True.intro| (refine an ?_;first|rfl| (simp only[List.take_zero];done)) |exact a7 (by omega) |exact ay (by omega) |exact aS (by omega) |exact aW (by omega) |with_reducible apply And.intro));all_goals exact cg (by simp[nd])
 . omega
 rintro k hk
 refine aa fun K4 hK4=>?_
 refine Tr.w hcx [] _ [] rfl rfl rfl ?_ gc
 refine aq rfl (fun hc24=>?_) (fun hc24=>?_)
 ·
  refine Tr.skip ?_
  refine hK4 _ ?_
  refine aa fun K5 hK5=>?_
  refine Tr.blk ?_
  refine Tr.v hcx [27,1000035] _ [] rfl rfl rfl ?_ gc
  refine hK5 _ ?_
  refine Tr.v hcx [1000026] _ [] rfl rfl rfl ?_ gc
  refine ⟨k+1,⟨by omega,O1⟩,?_,rfl⟩
  (simp only[aZ,aK,↓aY,↓reduceIte,Nat.reduceEqDiff,aC,aP,aD,aL,aQ,and_true,true_and];all_goals (repeat' first|exact CLe.refl _|exact True.intro| (refine an ?_;first|rfl| (simp only[List.take_zero];done)) |exact a7 (by omega) |exact ay (by omega) |exact aS (by omega) |exact aW (by omega) |with_reducible apply And.intro))
  all_goals (refine cg ?_;rw[wA];simp)
 obtain rfl:k=8:=by omega
 refine Tr.exit ?_
 refine hK3 _ ?_
 refine Tr.w hcx [1000036] _ [] rfl rfl rfl ?_ gc
 exact Tr.ret Rl
theorem iD {p:Prop}(e:p:=by intro KZ hZ;simp -implicitDefEqProofs (disch:=first|omega| (simp only[go_sem,lA,lD,lT,cu,hb] <;>omega) |decide) only[go_sem,↓reduceIte,Nat.reduceEqDiff,reduceCtorEq,Nat.reduceLT,Nat.reduceBEq,Nat.reduceAdd,Nat.reduceSub,Nat.reduceMul,Nat.reduceMod,Int.reduceMod,Int.reduceToNat,Int.reduceNeg,h110,ke,l8,jv,cu,hy];exact hZ):p:=e
theorem rX {p:Prop}(e:p:=by intro KZ hZ;simp -implicitDefEqProofs (disch:=first|omega| (simp only[go_sem,lA,lD,lT,cu,hb] <;>omega) |decide) only[go_sem,↓reduceIte,Nat.reduceEqDiff,reduceCtorEq,Nat.reduceLT,Nat.reduceBEq,Nat.reduceAdd,Nat.reduceSub,Nat.reduceMul,Nat.reduceMod,Int.reduceMod,Int.reduceToNat,Int.reduceNeg,h110,ke,l8,jv,cu,hy];refine And.intro ?_ hZ;exact rfl):p:=e
theorem Rm {p:Prop}(e:p:=by simp -implicitDefEqProofs (disch:=first|omega| (simp only[go_sem,lA,lD,lT,cu,hb] <;>omega) |decide) only[go_sem,↓reduceIte,Nat.reduceEqDiff,reduceCtorEq];all_goals (simp)):p:=e
theorem aeq {gl:Nat→C}{M:Nat}{pu:Nat→List C→Option C}(hcx:CxOK (af gl M pu))(h110:∀x n,n< 32→pu 110 [.val (bE x),.val (nI n)] =some (.val (bE (rr x n))))(b:List UInt8)(hb:b.length=64):FC Tryd.prog gl 109 [sl bC .no b] [] (.agg (cl wC (bh b 64))) []:=by
 replace hcx:=hcx.reN (M:=101)
 refine aB (cx:=af gl 101 pu) (rs:=[.cell 2 162]) rfl Tryd.func109 rfl rfl rfl (by simp only[List.length_cons,List.length_nil];decide) (by simp only[go_sem]) ?_
 simp only[bq,go_sem]
 have hy:=True.intro
 refine Tr.w hcx [] _ [none] rfl rfl rfl ?_ iD
 refine Tr.w hcx [] _ [none] rfl rfl rfl ?_ iD
 refine aa fun K1 hK1=>?_
 refine Tr.w hcx [] _ [] rfl rfl rfl ?_ iD
 refine Tr.k [0,2,3,4] ?_
 refine Tr.blk ?_
 refine aN (α:=Nat) (fun a=>[(0,?v0_1),(2,?v2_1),(3,?v3_1),(4,.val (nI a))]) (fun a=>[some (cl wC (List.replicate 64 0)),some (cl wC (bh b a++List.replicate (64 - a) 0))]) (fun a=>a≤16) (fun a=>16 - a) (0) ?_ ?le_1 ?hh_1 ?bd_1
 case hh_1=>exact rfl
 case le_1=>exact LT
 . omega
 rintro t ht
 refine aa fun K2 hK2=>?_
 refine Tr.w hcx [] _ [] rfl rfl rfl ?_ iD
 refine aq rfl (fun hc9=>?_) (fun hc9=>?_)
 ·
  refine Tr.skip ?_
  refine hK2 _ ?_
  refine Tr.k [0,2,3,4] ?_
  refine aa fun K3 hK3=>?_
  refine Tr.blk ?_
  refine fA hcx ct [] _ [] rfl rfl rfl rfl ?_ rX
  refine hK3 _ ?_
  refine Tr.k [0,2,3,4] ?_
  refine Tr.v hcx [1000011] _ [] rfl rfl rfl ?_ iD
  exact ⟨t+1,⟨by omega,O1⟩,LT,by dsimp only;rw[Q7 b t hc9];first|rw[vK] |rw[wE];rfl⟩
 obtain rfl:t=16:=by omega
 refine Tr.exit ?_
 refine hK1 _ ?_
 refine aa fun K4 hK4=>?_
 refine Tr.w hcx [] _ [] rfl rfl rfl ?_ iD
 refine Tr.k [2,3,5] ?_
 refine Tr.blk ?_
 refine aN (α:=Nat) (fun a=>[(2,?v2_2),(3,?v3_2),(5,.val (nI a))]) (fun a=>[some (cl wC (List.replicate 64 0)),some (cl wC (bh b a++List.replicate (64 - a) 0))]) (fun a=>16≤a∧a≤64) (fun a=>64 - a) (16) ?_ ?le_2 ?hh_2 ?bd_2
 case hh_2=>exact rfl
 case le_2=>exact LT
 . exact ⟨by omega,by omega⟩
 rintro t ht
 refine aa fun K5 hK5=>?_
 refine Tr.w hcx [] _ [] rfl rfl rfl ?_ iD
 refine aq rfl (fun hc48=>?_) (fun hc48=>?_)
 ·
  refine Tr.skip ?_
  refine hK5 _ ?_
  refine aa fun K6 hK6=>?_
  refine Tr.blk ?_
  refine Tr.wD hcx ct [1000067] _ [] rfl rfl rfl rfl ?_ rX
  refine Tr.k [2,3,5,6] ?_
  refine Tr.wD hcx ct [1000084] _ [] rfl rfl rfl rfl ?_ rX
  refine Tr.k [2,3,5,6,7] ?_
  refine fA hcx ct [] _ [] rfl rfl rfl rfl ?_ rX
  refine hK6 _ ?_
  refine Tr.v hcx [1000050] _ [] rfl rfl rfl ?_ iD
  exact ⟨t+1,⟨by omega,O1⟩,LT,by dsimp only;rw[HC b t (by omega)];first|rw[vK] |rw[wE] <;>rfl⟩
 obtain rfl:t=64:=by omega
 refine Tr.exit ?_
 refine hK4 _ ?_
 refine Tr.w hcx [] _ [] rfl rfl rfl ?_ iD
 exact Tr.ret Rm
end Go.Sx
namespace Go.Sx
open Go.RowKit Go.Proofs
set_option maxRecDepth 100000
set_option maxHeartbeats 8000000
theorem cW {p:Prop}(e:p:=by intro KZ hZ;simp -implicitDefEqProofs (disch:=first|omega| (simp only[go_sem,lA,lD,lT,hMl,hMq,cu,dw,gV,kK] <;>omega) |decide) only[go_sem,↓reduceIte,Nat.reduceEqDiff,reduceCtorEq,Nat.reduceLT,Nat.reduceBEq,Nat.reduceAdd,hM,h108,h109,h110,HB,hg0,S8.l,nV,hy];exact hZ):p:=e
theorem HG {p:Prop}(e:p:=by intro KZ hZ;simp -implicitDefEqProofs (disch:=first|omega| (simp only[go_sem,lA,lD,lT,hMl,hMq,cu,dw,gV,kK] <;>omega) |decide) only[go_sem,↓reduceIte,Nat.reduceEqDiff,reduceCtorEq,Nat.reduceLT,Nat.reduceBEq,Nat.reduceAdd,hM,h108,h109,h110,HB,hg0,S8.l,nV,hy];refine And.intro ?_ hZ;exact rfl):p:=e
theorem Y2 {p:Prop}(e:p:=by simp -implicitDefEqProofs (disch:=first|omega| (simp only[go_sem,lA,lD,lT,hMl,hMq,cu,dw,gV,kK] <;>omega) |decide) only[go_sem,↓reduceIte,Nat.reduceEqDiff,reduceCtorEq];all_goals (rw[hsha];simp)):p:=e
theorem ai3 {gl:Nat→C}{M:Nat}{pu:Nat→List C→Option C}(hcx:CxOK (af gl M pu))(hg0:gl 0= .kp (cl wC kc))(h108:∀b:List UInt8,b.length< 35184372088832→pu 108 [sl bC .no b] =some (sl bC (.own 1) (b++me b.length)))(h109:∀b:List UInt8,b.length=64→pu 109 [sl bC .no b] =some (.agg (cl wC (bh b 64))))(h110:∀x n,n< 32→pu 110 [.val (bE x),.val (nI n)] =some (.val (bE (rr x n))))(b:List UInt8)(hb:b.length< 35184372088832):FC Tryd.prog gl 94 [sl bC .no b] [] (.agg (cl bC (gx b))) []:=by
 replace hcx:=hcx.reN (M:=164)
 refine aB (cx:=af gl 164 pu) (rs:=[.cell 2 141]) rfl Tryd.func94 rfl rfl rfl (by simp only[List.length_cons,List.length_nil];decide) (by simp only[go_sem]) ?_
 simp only[bq,go_sem]
 have hy:=True.intro
 obtain ⟨Q,hQ⟩:=Kz b
 have hpl:=Di b.length
 have hz:gb b.length< 64:=Nat.mod_lt _ (by decide)
 have hsha:=YX b
 obtain ⟨M,hM⟩:∃M,b++me b.length=M:=⟨_,rfl⟩
 rw[hM] at hQ hsha
 have hMl:M.length=64*Q:=hQ
 have hMb:M.length< 35184372088932:=by rw[←hM,List.length_append,hpl];omega
 have hMq:=True.intro
 refine Tr.w hcx [] _ [none] rfl rfl rfl ?_ cW
 refine Tr.w hcx [] _ [none] rfl rfl rfl ?_ cW
 refine Tr.w hcx [1000022] _ [] rfl rfl rfl ?_ cW
 refine aa fun K1 hK1=>?_
 refine Tr.w hcx [] _ [] rfl rfl rfl ?_ cW
 refine Tr.k [2,3,4,5] ?_
 refine Tr.blk ?_
 refine aN (α:=Nat) (fun a=>[(2,?v2_1),(3,?v3_1),(4,?v4_1),(5,.val (nI (64*a)))]) (fun a=>[some (cl bC (List.replicate 32 0)),some (cl wC (cz F0 (M.take (64*a))).s.l)]) (fun a=>a≤Q) (fun a=>Q - a) (0) ?_ ?le_1 ?hh_1 ?bd_1
 case hh_1=>exact by simp only[Nat.mul_zero,List.take_zero];rfl
 case le_1=>exact LT
 . omega
 rintro q hq
 have hMq: ((M.drop (64*q)).take (64*q+64 - 64*q)).length=min 64 (64*Q - 64*q):=by rw[List.length_take,List.length_drop,hMl];omega
 refine aa fun K2 hK2=>?_
 refine Tr.w hcx [] _ [] rfl rfl rfl ?_ cW
 refine aq rfl (fun hc26=>?_) (fun hc26=>?_)
 ·
  refine Tr.skip ?_
  refine hK2 _ ?_
  refine aa fun K3 hK3=>?_
  refine Tr.blk ?_
  refine Tr.w hcx [] _ [none] rfl rfl rfl ?_ cW
  refine Tr.k [2,3,4,5,6] ?_
  refine Tr.wD hcx ct [1000036,1000038,1000040,1000042,1000044,1000046,1000048,1000050] _ [] rfl rfl rfl rfl ?_ HG
  refine Tr.k [2,3,4,5,6,7,8,9,10,11,12,13,14] ?_
  refine aa fun K4 hK4=>?_
  refine Tr.w hcx [] _ [] rfl rfl rfl ?_ cW
  refine Tr.k [2,3,4,5,6,7,8,9,10,11,12,13,14,15] ?_
  refine Tr.blk ?_
  refine aN (α:=Nat) (fun a=>[(2,?v2_2),(3,?v3_2),(4,?v4_2),(5,?v5_2),(6,?v6_2),(7,.val (bE (dM (bh ((M.drop (64*q)).take 64) 64) (cz F0 (M.take (64*q))).s a).a)),(8,.val (bE (dM (bh ((M.drop (64*q)).take 64) 64) (cz F0 (M.take (64*q))).s a).b)),(9,.val (bE (dM (bh ((M.drop (64*q)).take 64) 64) (cz F0 (M.take (64*q))).s a).c)),(10,.val (bE (dM (bh ((M.drop (64*q)).take 64) 64) (cz F0 (M.take (64*q))).s a).d)),(11,.val (bE (dM (bh ((M.drop (64*q)).take 64) 64) (cz F0 (M.take (64*q))).s a).e)),(12,.val (bE (dM (bh ((M.drop (64*q)).take 64) 64) (cz F0 (M.take (64*q))).s a).f)),(13,.val (bE (dM (bh ((M.drop (64*q)).take 64) 64) (cz F0 (M.take (64*q))).s a).g)),(14,.val (bE (dM (bh ((M.drop (64*q)).take 64) 64) (cz F0 (M.take (64*q))).s a).h)),(15,.val (nI a))]) (fun a=>[some (cl bC (List.replicate 32 0)),some (cl wC (cz F0 (M.take (64*q))).s.l),some (cl wC (bh ((M.drop (64*q)).take 64) 64))]) (fun a=>a≤64) (fun a=>64 - a) (0) ?_ ?le_2 ?hh_2 ?bd_2
  case hh_2=>exact rfl
  case le_2=>exact LT
  . omega
  rintro i hi
  refine aa fun K5 hK5=>?_
  refine Tr.w hcx [] _ [] rfl rfl rfl ?_ cW
  refine aq rfl (fun hc52=>?_) (fun hc52=>?_)
  ·
   refine Tr.skip ?_
   refine hK5 _ ?_
   refine Tr.k [2,3,4,5,6,7,8,9,10,11,12,13,14,15] ?_
   refine aa fun K6 hK6=>?_
   refine Tr.blk ?_
   refine Tr.wD hcx ct [1000081] _ [] rfl rfl rfl rfl ?_ HG
   refine Tr.k [2,3,4,5,6,7,8,9,10,11,12,13,15,16] ?_
   refine Tr.w hcx [1000101] _ [] rfl rfl rfl ?_ cW
   refine Tr.k [2,3,4,5,6,7,8,9,10,11,12,13,15,16,17] ?_
   refine Tr.w hcx [1000102] _ [] rfl rfl rfl ?_ cW
   refine Tr.w hcx [1000103] _ [] rfl rfl rfl ?_ cW
   refine Tr.w hcx [1000104] _ [] rfl rfl rfl ?_ cW
   refine Tr.w hcx [1000107] _ [] rfl rfl rfl ?_ cW
   refine Tr.k [2,3,4,5,6,7,8,9,11,12,13,14,15,16,17] ?_
   refine Tr.w hcx [1000108] _ [] rfl rfl rfl ?_ cW
   refine Tr.w hcx [1000109] _ [] rfl rfl rfl ?_ cW
   refine Tr.w hcx [1000110] _ [] rfl rfl rfl ?_ cW
   refine Tr.v hcx [1000113] _ [] rfl rfl rfl ?_ cW
   refine hK6 _ ?_
   refine Tr.k [2,3,4,5,6,7,8,9,10,11,12,13,14,15] ?_
   refine Tr.v hcx [1000054] _ [] rfl rfl rfl ?_ cW
   exact ⟨i+1,⟨by omega,O1⟩,LT,rfl⟩
  obtain rfl:i=64:=by omega
  refine Tr.exit ?_
  refine hK4 _ ?_
  refine Tr.k [2,3,4,5,7,8,9,10,11,12,13,14] ?_
  refine Tr.v hcx [] _ [] rfl rfl rfl ?_ cW
  refine hK3 _ ?_
  refine Tr.k [2,3,4,5] ?_
  refine wa hcx 2 (by decide) ?_ ?_ ?_
  . simp only[oN,kF,go_sem,Bool.true_and] <;>decide
  . simp only[List.take_succ_cons,List.take_zero,oO,nl,jc,go_sem,Bool.true_and] <;>decide
  simp only[List.take_succ_cons,List.take_zero]
  refine Tr.v hcx [1000028] _ [] rfl rfl rfl ?_ cW
  exact ⟨q+1,⟨by omega,O1⟩,LT,by dsimp only;rw[Ky M q (by omega)];rfl⟩
 obtain rfl:q=Q:=by omega
 rw[show 64*q=M.length by omega,List.take_length]
 refine Tr.exit ?_
 refine hK1 _ ?_
 refine Tr.w hcx [] _ [none] rfl rfl rfl ?_ cW
 refine aa fun K7 hK7=>?_
 refine Tr.w hcx [] _ [] rfl rfl rfl ?_ cW
 refine Tr.k [2,3,18,19] ?_
 refine Tr.blk ?_
 refine aN (α:=Nat) (fun a=>[(2,?v2_3),(3,?v3_3),(18,?v18_3),(19,.val (nI a))]) (fun a=>[some (cl bC (List.replicate 32 0)),some (cl wC (cz F0 M).s.l),some (cl bC (pE (cz F0 M).s a++List.replicate (32 - a) 0))]) (fun a=>a≤32) (fun a=>32 - a) (0) ?_ ?le_3 ?hh_3 ?bd_3
 case hh_3=>exact rfl
 case le_3=>exact LT
 . omega
 rintro i hi
 refine aa fun K8 hK8=>?_
 refine Tr.w hcx [] _ [] rfl rfl rfl ?_ cW
 refine aq rfl (fun hc148=>?_) (fun hc148=>?_)
 ·
  refine Tr.skip ?_
  refine hK8 _ ?_
  refine aa fun K9 hK9=>?_
  refine Tr.blk ?_
  refine Tr.v hcx [] _ [] rfl rfl rfl ?_ cW
  refine hK9 _ ?_
  refine Tr.v hcx [1000150] _ [] rfl rfl rfl ?_ cW
  exact ⟨i+1,⟨by omega,O1⟩,LT,by dsimp only;rw[jv _ _ _ _ _ (gV _ _) hc148,←Bn _ i hc148];rfl⟩
 obtain rfl:i=32:=by omega
 refine Tr.exit ?_
 refine hK7 _ ?_
 refine Tr.w hcx [] _ [] rfl rfl rfl ?_ cW
 exact Tr.ret Y2
theorem kL {p:Prop}(e:p:=by intro KZ hZ;simp -implicitDefEqProofs (disch:=first|omega| (simp only[go_sem,lA,lD,lT,hl32,hl16] <;>omega) |decide) only[go_sem,↓reduceIte,Nat.reduceEqDiff,reduceCtorEq,Nat.reduceLT,Nat.reduceBEq,Nat.reduceAdd,h94,nV,hy];exact hZ):p:=e
theorem Y3 {p:Prop}(e:p:=by simp -implicitDefEqProofs (disch:=first|omega| (simp only[go_sem,lA,lD,lT,hl32,hl16] <;>omega) |decide) only[go_sem,↓reduceIte,Nat.reduceEqDiff,reduceCtorEq];all_goals (simp)):p:=e
theorem ai4 {gl:Nat→C}{M:Nat}{pu:Nat→List C→Option C}(hcx:CxOK (af gl M pu))(h94:∀b:List UInt8,b.length< 35184372088832→pu 94 [sl bC .no b] =some (.agg (cl bC (gx b))))(b:List UInt8)(hb:b.length< 35184372088832):FC Tryd.prog gl 64 [sl bC .no b] [] (.agg (cl bC ((gx b).take 16))) []:=by
 replace hcx:=hcx.reN (M:=19)
 refine aB (cx:=af gl 19 pu) (rs:=[.cell 2 29]) rfl Tryd.func64 rfl rfl rfl (by simp only[List.length_cons,List.length_nil];decide) (by simp only[go_sem]) ?_
 simp only[bq,go_sem]
 have hy:=True.intro
 have hl32:=Dh b
 have hl16: ((gx b).take 16).length=16:=by simp[hl32]
 refine Tr.w hcx [] _ [none] rfl rfl rfl ?_ kL
 refine Tr.w hcx [] _ [none] rfl rfl rfl ?_ kL
 refine Tr.w hcx [] _ [none] rfl rfl rfl ?_ kL
 refine aa fun K1 hK1=>?_
 refine Tr.w hcx [] _ [] rfl rfl rfl ?_ kL
 refine Tr.k [2,3,4,5] ?_
 refine Tr.blk ?_
 refine aN (α:=Nat) (fun a=>[(2,?v2_1),(3,?v3_1),(4,?v4_1),(5,.val (nI a))]) (fun a=>[some (cl bC (List.replicate 16 0)),some (cl bC (gx b)),some (cl bC ((gx b).take a++List.replicate (16 - a) 0))]) (fun a=>a≤16) (fun a=>16 - a) (0) ?_ ?le_1 ?hh_1 ?bd_1
 case hh_1=>exact rfl
 case le_1=>exact LT
 . omega
 rintro i hi
 refine aa fun K2 hK2=>?_
 refine Tr.w hcx [] _ [] rfl rfl rfl ?_ kL
 refine aq rfl (fun hc10=>?_) (fun hc10=>?_)
 ·
  refine Tr.skip ?_
  refine hK2 _ ?_
  refine aa fun K3 hK3=>?_
  refine Tr.blk ?_
  refine Tr.v hcx [] _ [] rfl rfl rfl ?_ kL
  refine hK3 _ ?_
  refine Tr.v hcx [1000012] _ [] rfl rfl rfl ?_ kL
  exact ⟨i+1,⟨by omega,O1⟩,LT,by dsimp only;rw[jv _ _ _ _ _ (by rw[List.length_take];omega) hc10,Kt _ _ _ _ (by omega)] <;>rfl⟩
 obtain rfl:i=16:=by omega
 refine Tr.exit ?_
 refine hK1 _ ?_
 refine Tr.w hcx [] _ [] rfl rfl rfl ?_ kL
 exact Tr.ret Y3
theorem mi {p:Prop}(e:p:=by intro KZ hZ;simp -implicitDefEqProofs (disch:=first|omega| (simp only[go_sem,lA,lD,lT,hlp1,hlp2] <;>omega) |decide) only[go_sem,↓reduceIte,Nat.reduceEqDiff,reduceCtorEq,Nat.reduceLT,Nat.reduceBEq,Nat.reduceAdd,h95,hy];exact hZ):p:=e
theorem Y4 {p:Prop}(e:p:=by simp -implicitDefEqProofs (disch:=first|omega| (simp only[go_sem,lA,lD,lT,hlp1,hlp2] <;>omega) |decide) only[go_sem,↓reduceIte,Nat.reduceEqDiff,reduceCtorEq];all_goals (rw[List.take_length])):p:=e
theorem ai5 {gl:Nat→C}{M:Nat}{pu:Nat→List C→Option C}(hcx:CxOK (af gl M pu))(h95:∀s:List UInt8,s.length< 70368744177664→pu 95 [.val (str s)] =some (sl bC (.own 1) (wb s)))(tag:Int)(parts:List (List UInt8))(hl: (co tag parts).length< 1099511627776):FC Tryd.prog gl 65 [.val (.int .i64 tag),sl sC .no parts] [] (sl bC (.own 1) (co tag parts)) []:=by
 replace hcx:=hcx.reN (M:=24)
 refine aB (cx:=af gl 24 pu) (rs:=[.tmp 4]) rfl Tryd.func65 rfl rfl rfl (by simp only[List.length_cons,List.length_nil];decide) (by simp only[go_sem]) ?_
 simp only[bq,go_sem]
 have hy:=True.intro
 have hlp:=sB tag parts hl
 have hlp1:=hl
 have hpl:=wB tag parts hl
 have hlp2:=True.intro
 refine Tr.w hcx [] _ [] rfl rfl rfl ?_ mi
 refine Tr.w hcx [1000009] _ [] rfl rfl rfl ?_ mi
 refine aa fun K1 hK1=>?_
 refine Tr.w hcx [] _ [] rfl rfl rfl ?_ mi
 refine Tr.k [1,5,6] ?_
 refine Tr.blk ?_
 refine aN (α:=Nat) (fun a=>[(1,?v1_1),(5,sl bC (.own 1) (co tag (parts.take a))),(6,.val (nI a))]) (fun a=>?h_1) (fun a=>a≤parts.length) (fun a=>parts.length - a) (0) ?_ ?le_1 ?hh_1 ?bd_1
 case hh_1=>exact rfl
 case le_1=>(simp only[aZ,aK,↓aY,↓reduceIte,Nat.reduceEqDiff,aC,aP,aD,aL,aQ,and_true,true_and];all_goals (repeat' first|exact CLe.refl _|exact True.intro| (refine an ?_;first|rfl| (simp only[List.take_zero];done)) |exact a7 (by omega) |exact ay (by omega) |exact aS (by omega) |exact aW (by omega) |with_reducible apply And.intro));all_goals (exact kn (by simp[co]))
 . omega
 rintro i hi
 refine aa fun K2 hK2=>?_
 refine Tr.w hcx [] _ [] rfl rfl rfl ?_ mi
 refine aq rfl (fun hc13=>?_) (fun hc13=>?_)
 ·
  obtain ⟨hlp1,hlp2⟩:=hlp i hc13
  refine Tr.skip ?_
  refine hK2 _ ?_
  refine aa fun K3 hK3=>?_
  refine Tr.blk ?_
  refine Tr.v hcx [16,1000022] _ [] rfl rfl rfl ?_ mi
  refine hK3 _ ?_
  refine Tr.v hcx [1000015] _ [] rfl rfl rfl ?_ mi
  refine ⟨i+1,⟨by omega,O1⟩,?_,rfl⟩
  (simp only[aZ,aK,↓aY,↓reduceIte,Nat.reduceEqDiff,aC,aP,aD,aL,aQ,and_true,true_and];all_goals (repeat' first|exact CLe.refl _|exact True.intro| (refine an ?_;first|rfl| (simp only[List.take_zero];done)) |exact a7 (by omega) |exact ay (by omega) |exact aS (by omega) |exact aW (by omega) |with_reducible apply And.intro))
  all_goals (refine cg ?_;rw[sZ tag parts i hc13])
 obtain rfl:i=parts.length:=by omega
 refine Tr.exit ?_
 refine hK1 _ ?_
 refine Tr.w hcx [1000023] _ [] rfl rfl rfl ?_ mi
 exact Tr.ret Y4
end Go.Sx
namespace Go.Sx
open Go.RowKit Go.Proofs
def sm (s t:UInt8)(a b:List (List UInt8))(i:Nat):Bool:=decide (s=t∧a.length=b.length∧a.take i=b.take i)
end Go.Sx
namespace Go.Sx
open Go.RowKit Go.Proofs
theorem mK {α:Type}[Inhabited α](l:List α)(i:Nat)(h:i< l.length):gt l i∈l:=by
 simp[gt,List.getD,List.getElem?_eq_getElem h]
def bV (l:List Int):List UInt8:=aA l.length++l.flatMap aA
def cf (l:List (List UInt8)):List UInt8:=aA l.length++l.flatMap wb
def db (l:List ba):List UInt8:=aA l.length++l.flatMap (·.1)
theorem gJ (n:Int)(h: -9223372036854775808≤n∧n≤9223372036854775807): (aA n).length≤9:=by
 unfold aA
 split
 . have:=ey 8 n.toNat (by omega)
   simp;omega
 . have:=ey 8 (-1 - n).toNat (by omega)
   simp;omega
theorem d8 (n:Nat)(h:n< 18446744073709551616): (aA (n:Int)).length≤9:=by
 unfold aA
 rw[if_pos (by omega)]
 have:=ey 8 n (by simpa using h)
 simp;omega
theorem g6 {α β:Type}[Inhabited α](f:α→List β)(l:List α)(i:Nat)(h:i< l.length): (l.take i).flatMap f++f (gt l i) = (l.take (i+1)).flatMap f:=by
 rw[cM l i h];simp
theorem wo (l:List Int)(hr:∀x∈l,-9223372036854775808≤x∧x≤9223372036854775807):∀i≤l.length,((l.take i).flatMap aA).length≤9*i
 |0,_=>by simp
 |i+1,h=>by
  rw[←g6 aA l i (by omega),List.length_append]
  have:=wo l hr i (by omega)
  have:=gJ (gt l i) (hr _ (mK l i (by omega)))
  omega
theorem sr (l:List (List UInt8))(hb:l.flatten.length< 1099511627776):∀i≤l.length,((l.take i).flatMap wb).length≤9*i+(l.take i).flatten.length
 |0,_=>by simp
 |i+1,h=>by
  rw[←g6 wb l i (by omega),←wz l i (by omega),List.length_append,List.length_append]
  have:=sr l hb i (by omega)
  have:=vJ l i (by omega)
  have:=nM (gt l i) (by omega)
  omega
theorem oa (l:List ba):∀i≤l.length,((l.take i).flatMap (·.1)).length=16*i
 |0,_=>by simp
 |i+1,h=>by
  rw[←g6 (·.1) l i (by omega),List.length_append,oa l i (by omega),(gt l i).2];omega
theorem wp {α:Type}[DecidableEq α]{x y:List α}(h:¬x.length=y.length):decide (x=y) =false:=by
 rw[decide_eq_false_iff_not];rintro rfl;exact h rfl
theorem uT {α:Type}[Inhabited α][DecidableEq α]{x y:List α}{i:Nat}(h:¬gt x i=gt y i):decide (x=y) =false:=by
 rw[decide_eq_false_iff_not];rintro rfl;exact h rfl
theorem Cq {α:Type}[DecidableEq α]{x y:List α}{i:Nat}(hi:¬i< x.length)(hl:x.length=y.length)(h:x.take i=y.take i):decide (x=y) =true:=by
 rw[decide_eq_true_iff,←List.take_of_length_le (show x.length≤i by omega),h,List.take_of_length_le (by omega)]
theorem o5 {α:Type}[Inhabited α]{x y:List α}{i:Nat}(hi:i< x.length)(hl:x.length=y.length)(h:x.take i=y.take i)(he:gt x i=gt y i):x.take (i+1) =y.take (i+1):=by
 rw[cM x i hi,cM y i (by omega),h,he]
theorem DY {a b:ba}:a.1=b.1↔a=b:=⟨Subtype.ext,fun h=>by rw[h]⟩
theorem TU (l:List ba)(k i:Nat)(h:i< 16): (gt l k).1.take i++[gt (gt l k).1 i] = (gt l k).1.take (i+1):=(cM _ _ (by rw[(gt l k).2];exact h)).symm
def ao (x:UInt8):UInt8:=if x< 128 then 255 else 0
def iA (x:UInt8):Nat:=(x ^^^ ao x).toNat - 128
def bH (f:UInt8)(l:List UInt8):Nat:=l.foldl (fun m c=>m*256+(c ^^^ f).toNat) 0
theorem lc (f:UInt8)(l:List UInt8)(c:UInt8):bH f (l++[c]) =bH f l*256+(c ^^^ f).toNat:=by simp[bH]
theorem lS (f:UInt8)(l:List UInt8):bH f l< 256 ^ l.length:=by
 have key:∀n (l:List UInt8),l.length=n→bH f l< 256 ^ n:=by
  intro n
  induction n with
  |zero=>intro l hl;rw[List.length_eq_zero_iff.1 hl];simp[bH]
  |succ n ih=>
   intro l hl
   have hne:l≠[]:=by rintro rfl;simp at hl
   rw[←List.dropLast_concat_getLast hne,lc]
   have h1:=ih l.dropLast (by simp[hl])
   have h2:=(l.getLast hne ^^^ f).toNat_lt
   rw[Nat.pow_succ];omega
 exact key _ l rfl
theorem DZ (x:UInt8):128≤(x ^^^ ao x).toNat:=by
 unfold ao
 split
 . rename_i h
   rw[ua,UInt8.toNat_sub_of_le _ _ (by rw[UInt8.le_iff_toNat_le];have:=x.toNat_lt;show _≤255;omega)]
   rw[UInt8.lt_iff_toNat_lt] at h
   have h':x.toNat< 128:=h
   show 128≤255 - x.toNat
   omega
 . rename_i h
   rw[UInt8.lt_iff_toNat_lt] at h
   have h':¬x.toNat< 128:=h
   simp;omega
def ag (b:List UInt8):Int×Nat×Nat:=match b with
 | [] =>(0,0,3)
 |x::r=>
  if 8< iA x then (0,0,2) else
  if (x::r).length≤iA x then (0,0,3) else
  if 0< iA x∧gt (x::r) 1 ^^^ ao x=0 then (0,0,2) else
  if 9223372036854775808≤bH (ao x) (r.take (iA x)) then (0,0,2) else
  (if x< 128 then -1 - (bH (ao x) (r.take (iA x)):Int) else (bH (ao x) (r.take (iA x)):Int),iA x+1,0)
section
variable {x:UInt8} {r:List UInt8} {k:Nat} (hk:iA x=k)
include hk
theorem uU (h:8< k):ag (x::r) = (0,0,2):=by subst hk;simp only[ag];rw[if_pos h]
theorem qb (h:¬8< k)(h2: (x::r).length≤k):ag (x::r) = (0,0,3):=by subst hk;simp only[ag];rw[if_neg h,if_pos h2]
theorem oc (h:¬8< k)(h2:¬ (x::r).length≤k)(h3:0< k)(h4:gt (x::r) 1 ^^^ ao x=0):ag (x::r) = (0,0,2):=by
 subst hk;simp only[ag];rw[if_neg h,if_neg h2,if_pos ⟨h3,h4⟩]
theorem uV (h:¬8< k)(h2:¬ (x::r).length≤k)(h3:¬ (0< k∧gt (x::r) 1 ^^^ ao x=0))(h4:9223372036854775808≤bH (ao x) (r.take k)):ag (x::r) = (0,0,2):=by
 subst hk;simp only[ag];rw[if_neg h,if_neg h2,if_neg h3,if_pos h4]
theorem qc (h:¬8< k)(h2:¬ (x::r).length≤k)(h3:¬ (0< k∧gt (x::r) 1 ^^^ ao x=0))(h4:¬9223372036854775808≤bH (ao x) (r.take k))(h5:x< 128):ag (x::r) = (-1 - (bH (ao x) (r.take k):Int),k+1,0):=by
 subst hk;simp only[ag];rw[if_neg h,if_neg h2,if_neg h3,if_neg h4,if_pos h5]
theorem qd (h:¬8< k)(h2:¬ (x::r).length≤k)(h3:¬ (0< k∧gt (x::r) 1 ^^^ ao x=0))(h4:¬9223372036854775808≤bH (ao x) (r.take k))(h5:¬x< 128):ag (x::r) = ((bH (ao x) (r.take k):Int),k+1,0):=by
 subst hk;simp only[ag];rw[if_neg h,if_neg h2,if_neg h3,if_neg h4,if_neg h5]
end
theorem Cr (x:UInt8): (UInt8.ofNat 0< ao x) = (x< 128):=by
 unfold ao
 split
 . rename_i h;simp[h]
 . rename_i h
   simp only[h,eq_iff_iff,iff_false];decide
theorem FO (m:Nat)(h:m< 18446744073709551616): (0< m>>>63) = (9223372036854775808≤m):=by
 rw[Nat.shiftRight_eq_div_pow]
 apply propext
 constructor
 . intro h2
   have:=(Nat.div_pos_iff.1 h2).2
   simpa using this
 . intro h2
   exact Nat.div_pos (by simpa using h2) (by decide)
theorem Cs (f:UInt8)(l:List UInt8)(a:Nat)(h:a< l.length)(h8:a< 8): (bH f (l.take a)*2 ^ 8 % 18446744073709551616||| (gt l a ^^^ f).toNat) =bH f (l.take (a+1)):=by
 rw[cM l a h,lc]
 have h1:=lS f (l.take a)
 rw[List.length_take,Nat.min_eq_left (by omega)] at h1
 have h2:256 ^ a≤256 ^ 7:=Nat.pow_le_pow_right (by decide) (by omega)
 have h3:=(gt l a ^^^ f).toNat_lt
 have h4: (256:Nat) ^ 7=72057594037927936:=by decide
 rw[Nat.mod_eq_of_lt (by omega)]
 have:=Nat.two_pow_add_eq_or_of_lt (i:=8) (b:=(gt l a ^^^ f).toNat) (by simpa using h3) (bH f (l.take a))
 rw[Nat.mul_comm] at this
 rw[←this]
theorem JC (x:UInt8): (x.toNat< 128∧iA x=127 - x.toNat)∨(128≤x.toNat∧iA x=x.toNat - 128):=by
 unfold iA ao
 have hx:=x.toNat_lt
 split
 . rename_i h
   rw[UInt8.lt_iff_toNat_lt] at h
   have h':x.toNat< 128:=h
   left
   refine ⟨h',?_⟩
   rw[ua,UInt8.toNat_sub_of_le _ _ (by rw[UInt8.le_iff_toNat_le];show _≤255;omega)]
   show 255 - x.toNat - 128=_
   omega
 . rename_i h
   rw[UInt8.lt_iff_toNat_lt] at h
   have h':¬x.toNat< 128:=h
   right
   exact ⟨by omega,by simp⟩
theorem Qi (c x:UInt8): (c ^^^ ao x).toNat=if x.toNat< 128 then 255 - c.toNat else c.toNat:=by
 have e: (x< 128) = (x.toNat< 128):=by rw[UInt8.lt_iff_toNat_lt];rfl
 unfold ao
 simp only[e]
 split
 . rw[ua,UInt8.toNat_sub_of_le _ _ (by rw[UInt8.le_iff_toNat_le];have:=c.toNat_lt;show _≤255;omega)];rfl
 . simp
theorem Ea (m c k:Nat)(hc:c< 256):be (m*256+c) (k+1) =be m k++[UInt8.ofNat c]:=by
 refine Hm _ _ (by simp[ga]) fun i hi=>?_
 rw[ga] at hi
 rw[y8 _ _ _ hi]
 rcases Nat.lt_or_ge i k with h|h
 . rw[ke _ _ _ (by rw[ga];exact h),y8 _ _ _ h]
   congr 1
   rw[show k+1 - 1 - i= (k - 1 - i)+1 by omega,rU,rU,Nat.pow_succ,Nat.mul_comm (256 ^ (k - 1 - i)),←Nat.div_div_eq_div_mul]
   congr 1;omega
 . have:i=k:=by omega
   subst this
   rw[l8 _ _ _ _ (ga _ _)]
   apply UInt8.toNat_inj.1
   simp
theorem aaX (f:UInt8)(l:List UInt8):be (bH f l) l.length=l.map (· ^^^ f):=by
 have key:∀n (l:List UInt8),l.length=n→be (bH f l) l.length=l.map (· ^^^ f):=by
  intro n
  induction n with
  |zero=>intro l hl;rw[List.length_eq_zero_iff.1 hl];rfl
  |succ n ih=>
   intro l hl
   have hne:l≠[]:=by rintro rfl;simp at hl
   rw[←List.dropLast_concat_getLast hne,lc,List.length_append,List.length_singleton,Ea _ _ _ (l.getLast hne ^^^ f).toNat_lt,ih l.dropLast (by simp[hl]),List.map_append]
   simp
 exact key _ l rfl
theorem Ct (f:UInt8):∀ (l:List UInt8)(m:Nat),m*256 ^ l.length≤l.foldl (fun m c=>m*256+(c ^^^ f).toNat) m
 | [],m=>by simp
 |c::l,m=>by
  refine Nat.le_trans ?_ (Ct f l (m*256+(c ^^^ f).toNat))
  rw[List.length_cons,Nat.pow_succ,Nat.mul_comm (256 ^ l.length),←Nat.mul_assoc]
  exact Nat.mul_le_mul_right _ (by omega)
theorem TV (f:UInt8)(l l':List UInt8):bH f l*256 ^ l'.length≤bH f (l++l'):=by
 unfold bH
 rw[List.foldl_append]
 exact Ct f l' _
theorem FQ (a b c:UInt8):a ^^^ c=b ^^^ c↔a=b:=by
 constructor
 . intro h
   have:=congrArg (· ^^^ c) h
   simpa[UInt8.xor_assoc] using this
 . rintro rfl;rfl
theorem Qj {x:UInt8}{r:List UInt8}{k:Nat}(hk:iA x=k)(h8:k≤8)(hl:k≤r.length):wI (bH (ao x) (r.take k)) (ao x) =x::r.take k↔¬ (0< k∧gt (x::r) 1 ^^^ ao x=0):=by
 have hkl: (r.take k).length=k:=by rw[List.length_take];omega
 have hx:x=UInt8.ofNat (128+k) ^^^ ao x:=by
  have hge:=DZ x
  have hlt:=(x ^^^ ao x).toNat_lt
  have e:UInt8.ofNat (128+k) =x ^^^ ao x:=by
   apply UInt8.toNat_inj.1
   unfold iA at hk
   have e2: (UInt8.ofNat (128+k)).toNat= (128+k) % 256:=rfl
   rw[e2]
   omega
  rw[e,UInt8.xor_assoc,UInt8.xor_self,UInt8.xor_zero]
 have hlt:=lS (ao x) (r.take k)
 rw[hkl] at hlt
 have hle: (le (bH (ao x) (r.take k))).length≤k:=ey k _ hlt
 unfold wI
 constructor
 . intro h
   rintro ⟨hk0,hz⟩
   have h2:UInt8.ofNat (128+(le (bH (ao x) (r.take k))).length) =UInt8.ofNat (128+k):=by
    have h3:UInt8.ofNat (128+(le (bH (ao x) (r.take k))).length) ^^^ ao x=UInt8.ofNat (128+k) ^^^ ao x:=by
     exact (List.cons.inj h).1.trans hx
    exact (FQ _ _ _).1 h3
   have h4:=congrArg UInt8.toNat h2
   simp at h4
   have h5: (le (bH (ao x) (r.take k))).length=k:=by omega
   obtain ⟨c,r',rfl⟩:∃c r',r=c::r':=by
    cases r with
    |nil=>simp at hl;omega
    |cons c r'=>exact ⟨c,r',rfl⟩
   have hz':c ^^^ ao x=0:=hz
   obtain ⟨k',rfl⟩:∃k',k=k'+1:=⟨k - 1,by omega⟩
   rw[List.take_succ_cons] at hlt h5
   have h6:bH (ao x) (c::r'.take k') =bH (ao x) (r'.take k'):=by
    show List.foldl _ _ _=_
    rw[List.foldl_cons,hz'];rfl
   have h7:=lS (ao x) (r'.take k')
   have h8: (r'.take k').length≤k':=by rw[List.length_take];omega
   have h9: (le (bH (ao x) (r'.take k'))).length≤k':=ey k' _ (Nat.lt_of_lt_of_le h7 (Nat.pow_le_pow_right (by decide) h8))
   rw[h6] at h5
   omega
 . intro hn
   have h5: (le (bH (ao x) (r.take k))).length=k:=by
    refine pB k _ hlt ?_
    rcases Nat.eq_zero_or_pos k with h0|h0
    . exact .inl h0
    . right
      obtain ⟨c,r',rfl⟩:∃c r',r=c::r':=by
       cases r with
       |nil=>simp at hl;omega
       |cons c r'=>exact ⟨c,r',rfl⟩
      obtain ⟨k',rfl⟩:∃k',k=k'+1:=⟨k - 1,by omega⟩
      have hc:c ^^^ ao x≠0:=fun h=>hn ⟨h0,h⟩
      have hc':1≤(c ^^^ ao x).toNat:=by
       rcases Nat.eq_zero_or_pos (c ^^^ ao x).toNat with h|h
       . exact absurd (UInt8.toNat_inj.1 (by simpa using h)) hc
       . exact h
      rw[List.take_succ_cons]
      have h1:=Ct (ao x) (r'.take k') (0*256+(c ^^^ ao x).toNat)
      have h2: (r'.take k').length=k':=by rw[List.length_take];simp at hl;omega
      rw[h2] at h1
      simp only[Nat.add_sub_cancel]
      refine Nat.le_trans ?_ h1
      rw[Nat.zero_mul,Nat.zero_add]
      exact Nat.le_mul_of_pos_left _ hc'
   rw[h5]
   rw[←hx]
   refine congrArg (List.cons x) ?_
   have h6:=aaX (ao x) (r.take k)
   rw[hkl] at h6
   rw[h6,List.map_map]
   have: ((fun y=>y ^^^ ao x) ∘fun y=>y ^^^ ao x) =id:=by
    funext y
    show (y ^^^ ao x) ^^^ ao x=y
    rw[UInt8.xor_assoc,UInt8.xor_self,UInt8.xor_zero]
   rw[this,List.map_id]
end Go.Sx
namespace Go.Sx
theorem Cu (x:UInt8): (x< 128) = (x.toNat< 128):=by rw[UInt8.lt_iff_toNat_lt];rfl
theorem Eb (x:UInt8): (x.toNat< 128→ao x=255)∧(¬x.toNat< 128→ao x=0):=by
 unfold ao
 have e:=Cu x
 exact ⟨fun h=>if_pos (e.mpr h),fun h=>if_neg fun h'=>h (e.mp h')⟩
section
variable {b:List UInt8} {x:UInt8} {r:List UInt8} {k:Nat} (hbe:b=x::r) (hk:iA x=k)
include hbe hk
theorem rg1 (h:8< k):ag b= (0,0,2):=by subst hbe;exact uU hk h
theorem rg2 (h8:k≤8)(h:b.length< k+1):ag b= (0,0,3):=by subst hbe;exact qb hk (by omega) (by omega)
theorem rg3 (h8:k≤8)(hl:¬b.length< k+1)(i:Nat)(hi:i+1≤k)(hc:36028797018963967< bH (ao x) ((r.take k).take i)):ag b= (0,0,2):=by
 subst hbe
 by_cases h3:0< k∧gt (x::r) 1 ^^^ ao x=0
 . exact oc hk (by omega) (by omega) h3.1 h3.2
 . refine uV hk (by omega) (by omega) h3 ?_
   have h1:=TV (ao x) ((r.take k).take i) ((r.take k).drop i)
   rw[List.take_append_drop] at h1
   have h2: ((r.take k).drop i).length=k - i:=by rw[List.length_drop,List.length_take];simp at hl;omega
   rw[h2] at h1
   have h4:256 ^ 1≤256 ^ (k - i):=Nat.pow_le_pow_right (by decide) (by omega)
   have h5:=Nat.mul_le_mul_left (bH (ao x) ((r.take k).take i)) h4
   omega
theorem Qk (h8:k≤8)(hl:¬b.length< k+1)(i:Nat)(hi:i+1≤k):gt b (i+1) =gt (r.take k) i∧i< (r.take k).length:=by
 have _:=hk
 subst hbe
 simp at hl
 refine ⟨?_,by rw[List.length_take];omega⟩
 rw[tj]
 unfold gt
 rw[List.getD_eq_getElem?_getD,List.getD_eq_getElem?_getD,List.getElem?_take_of_lt (by omega)]
theorem Ql (h8:k≤8)(hl:¬b.length< k+1)(i:Nat)(hi:i+1≤k):256*bH (ao x) ((r.take k).take i)+(gt (r.take k) i ^^^ ao x).toNat=bH (ao x) ((r.take k).take (i+1)):=by
 rw[cM _ _ (Qk hbe hk h8 hl i hi).2,lc]
 omega
theorem rwi (h8:k≤8)(hl:¬b.length< k+1): (if x.toNat< 128 then aA (-1 - (bH (ao x) (r.take k):Int)) else aA (bH (ao x) (r.take k))) =wI (bH (ao x) (r.take k)) (ao x):=by
 have _:=hbe
 have hle: (le (bH (ao x) (r.take k))).length≤8:=by
  refine ey 8 _ (Nat.lt_of_lt_of_le (lS _ _) (Nat.pow_le_pow_right (by decide) ?_))
  rw[List.length_take];omega
 split
 . rename_i h;rw[mb _ hle,(Eb x).1 h]
 . rename_i h;rw[gC,(Eb x).2 h]
theorem Cv (h8:k≤8)(hl:¬b.length< k+1): ((if x.toNat< 128 then aA (-1 - (bH (ao x) (r.take k):Int)) else aA (bH (ao x) (r.take k))) =b.take (k+1))↔¬ (0< k∧gt (x::r) 1 ^^^ ao x=0):=by
 rw[rwi hbe hk h8 hl,←Qj hk h8 (by subst hbe;simp at hl;omega)]
 subst hbe
 rw[List.take_succ_cons]
theorem ajc (h8:k≤8)(hl:¬b.length< k+1)(h128:x.toNat< 128)(hc:aA (-1 - (bH (ao x) (r.take k):Int))≠b.take (k+1)):ag b= (0,0,2):=by
 have h:=Cv hbe hk h8 hl
 rw[if_pos h128] at h
 have h3:=Classical.not_not.1 (mt h.2 hc)
 subst hbe
 exact oc hk (by omega) (by omega) h3.1 h3.2
theorem ajd (h8:k≤8)(hl:¬b.length< k+1)(h128:¬x.toNat< 128)(hc:aA (bH (ao x) (r.take k))≠b.take (k+1)):ag b= (0,0,2):=by
 have h:=Cv hbe hk h8 hl
 rw[if_neg h128] at h
 have h3:=Classical.not_not.1 (mt h.2 hc)
 subst hbe
 exact oc hk (by omega) (by omega) h3.1 h3.2
theorem rg5 (h8:k≤8)(hl:¬b.length< k+1)(h128:x.toNat< 128)(hm:bH (ao x) (r.take k) < 9223372036854775808)(hc:aA (-1 - (bH (ao x) (r.take k):Int)) =b.take (k+1)):ag b= (-1 - (bH (ao x) (r.take k):Int),k+1,0):=by
 have h:=Cv hbe hk h8 hl
 rw[if_pos h128] at h
 have h3:=h.1 hc
 have hx:=Cu x
 subst hbe
 exact qc hk (by omega) (by omega) h3 (by omega) (by rw[hx];exact h128)
theorem rg6 (h8:k≤8)(hl:¬b.length< k+1)(h128:¬x.toNat< 128)(hm:bH (ao x) (r.take k) < 9223372036854775808)(hc:aA (bH (ao x) (r.take k)) =b.take (k+1)):ag b= ((bH (ao x) (r.take k):Int),k+1,0):=by
 have h:=Cv hbe hk h8 hl
 rw[if_neg h128] at h
 have h3:=h.1 hc
 have hx:=Cu x
 subst hbe
 exact qd hk (by omega) (by omega) h3 (by omega) (by rw[hx];exact h128)
end
end Go.Sx
