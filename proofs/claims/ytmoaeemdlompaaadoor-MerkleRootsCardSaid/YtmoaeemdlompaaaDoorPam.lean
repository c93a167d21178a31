/-
   And what follows.
-/
import Derived.Test.YtmoaeemdlompaaaDoorPal
import Derived.Test.YtmoaeemdlompaaaDoorPaj
import Derived.Test.YtmoaeemdlompaaaDoorPak
set_option linter.unusedSimpArgs false
set_option linter.unusedVariables false
namespace Go.Sx
open Go.RowKit Go.Proofs
set_option maxRecDepth 100000
set_option maxHeartbeats 8000000
theorem cI {p:Prop}(e:p:=by intro KZ hZ;simp -implicitDefEqProofs (disch:=first|omega| (simp only[go_sem,lA,lD,lT] <;>omega) |decide) only[go_sem,↓reduceIte,Nat.reduceEqDiff,reduceCtorEq,Nat.reduceLT,Nat.reduceBEq,Nat.reduceAdd,hy];exact hZ):p:=e
theorem wo {p:Prop}(e:p:=by simp -implicitDefEqProofs (disch:=first|omega| (simp only[go_sem,lA,lD,lT] <;>omega) |decide) only[go_sem,↓reduceIte,Nat.reduceEqDiff,reduceCtorEq];all_goals (rw[List.take_of_length_le (by simp[i1])];rfl)):p:=e
theorem RQ {gl:Nat→C}{M:Nat}{pu:Nat→List C→Option C}(hcx:CxOK (ao gl M pu))(m:Nat)(hm:m< 9223372036854775808):FC Tryd.prog gl 39 [.val (nI m)] [] (sl bC (.own 1) (wI m 0)) []:=by
 replace hcx:=hcx.reN (M:=47)
 refine aP (cx:=ao gl 47 pu) (rs:=[.tmp 2]) rfl Tryd.func39 rfl rfl rfl (by simp only[List.length_cons,List.length_nil];decide) (by simp only[go_sem]) ?_
 simp only[bQ,go_sem]
 have hy:=True.intro
 have hk8: (le m).length≤8:=fP 8 m (by omega)
 refine aa hcx [] _ [] rfl rfl rfl ?_ cI
 refine Tr.scope ?_
 refine aa hcx [1000009] _ [] rfl rfl rfl ?_ cI
 refine ae fun K1 hK1=>?_
 refine aa hcx [] _ [] rfl rfl rfl ?_ cI
 refine tH rfl ((decide_eq_false (by omega))) ?_
 refine Tr.skip ?_
 refine hK1 _ ?_
 refine aa hcx [] _ [] rfl rfl rfl ?_ cI
 refine ae fun K2 hK2=>?_
 refine Tr.label ?_
 refine hK2 _ ?_
 refine Tr.k [3,4,5] ?_
 refine ae fun K3 hK3=>?_
 refine Tr.blk ?_
 refine aX (α:=Nat) (fun a=>[(3,?v3_1),(4,?v4_1),(5,.val (nI a))]) (fun a=>?h_1) (fun a=>a≤8∧m< 256 ^ a) (fun a=>a) (8) ?_ ?le_1 ?hh_1 ?bd_1
 case hh_1=>exact rfl
 case le_1=>exact LT
 . exact ⟨by omega,by omega⟩
 rintro k ⟨hk,hmk⟩
 refine ae fun K4 hK4=>?_
 refine aa hcx [] _ [] rfl rfl rfl ?_ cI
 refine bq rfl (fun hc15=>?_) (fun hc15=>?_)
 ·
  refine Tr.skip ?_
  refine hK4 _ ?_
  refine Tr.blk ?_
  refine ae fun K5 hK5=>?_
  refine aa hcx [] _ [] rfl rfl rfl ?_ cI
  refine bq rfl (fun hc21=>?_) (fun hc21=>?_)
  ·
   have hkk:=nj m k hmk (.inr hc21)
   subst hkk
   clear hc21 hmk hk hc15
   refine Tr.exit ?_
   refine hK3 _ ?_
   refine aa hcx [1000029] _ [] rfl rfl rfl ?_ cI
   refine ae fun K6 hK6=>?_
   have hy:= @gx
   refine aa hcx [1000031] _ [] rfl rfl rfl ?_ cI
   refine Tr.k [3,4,6,7] ?_
   refine Tr.blk ?_
   refine aX (α:=Nat) (fun a=>[(3,?v3_2),(4,?v4_2),(6,sl bC (.own 1) ((UInt8.ofNat (128+(le m).length) ^^^ UInt8.ofNat 0):: ((be m (le m).length).map (· ^^^ UInt8.ofNat 0)).take a)),(7,.val (.int .i64 (((le m).length:Int) - 1 - (a:Int))))]) (fun a=>?h_2) (fun a=>a≤(le m).length) (fun a=>(le m).length - a) (0) ?_ ?le_2 ?hh_2 ?bd_2
   case hh_2=>exact rfl
   case le_2=>(simp only[bJ,bc,↓bG,↓reduceIte,Nat.reduceEqDiff,aY,bu,aZ,bv,bz,and_true,true_and];all_goals (repeat' first|exact CLe.refl _|exact True.intro| (refine aW ?_;first|rfl| (simp only[List.take_zero];done)) |exact bN (by omega) |exact aO (by omega) |exact bd (by omega) |exact bA (by omega) |with_reducible apply And.intro));all_goals first|exact gR (by simp) |exact aO (by omega)
   . omega
   rintro a ha
   refine ae fun K7 hK7=>?_
   have hy:=True.intro
   refine aa hcx [] _ [] rfl rfl rfl ?_ cI
   refine bq rfl (fun hc33=>?_) (fun hc33=>?_)
   ·
    refine Tr.skip ?_
    refine hK7 _ ?_
    refine ae fun K8 hK8=>?_
    refine Tr.blk ?_
    refine br hcx [36,1000045] _ [] rfl rfl rfl ?_ cI
    refine hK8 _ ?_
    refine br hcx [1000035] _ [] rfl rfl rfl ?_ cI
    refine ⟨a+1,⟨by omega,O1⟩,?_,rfl⟩
    (simp only[bJ,bc,↓bG,↓reduceIte,Nat.reduceEqDiff,aY,bu,aZ,bv,bz,and_true,true_and];all_goals (repeat' first|exact CLe.refl _|exact True.intro| (refine aW ?_;first|rfl| (simp only[List.take_zero];done)) |exact bN (by omega) |exact aO (by omega) |exact bd (by omega) |exact bA (by omega) |with_reducible apply And.intro))
    all_goals first|exact CLe.refl _|exact aO (by omega) | (refine du ?_;rw[←nl m _ a (by omega),show (((8:Nat):Int)*(((le m).length:Int) - 1 - (a:Int))).toNat=8*((le m).length - 1 - a) by omega];try rfl)
   obtain rfl:a= (le m).length:=by omega
   refine Tr.exit ?_
   refine hK6 _ ?_
   refine aa hcx [1000046] _ [] rfl rfl rfl ?_ cI
   exact Tr.ret wo
  refine Tr.skip ?_
  refine hK5 _ ?_
  refine br hcx [1000023] _ [] rfl rfl rfl ?_ cI
  refine ⟨k - 1,⟨⟨by omega,wd m k hc15 hc21⟩,O1⟩,?_,rfl⟩
  (simp only[bJ,bc,↓bG,↓reduceIte,Nat.reduceEqDiff,aY,bu,aZ,bv,bz,and_true,true_and];all_goals (repeat' first|exact CLe.refl _|exact True.intro| (refine aW ?_;first|rfl| (simp only[List.take_zero];done)) |exact bN (by omega) |exact aO (by omega) |exact bd (by omega) |exact bA (by omega) |with_reducible apply And.intro))
  all_goals first|exact CLe.refl _|exact aO (by omega) |exact bN (by omega) |exact bA (by omega) |exact bd (by omega)
 have hkk:=nj m k hmk (.inl hc15)
 subst hkk
 clear hc15 hmk hk
 refine Tr.exit ?_
 refine hK3 _ ?_
 refine aa hcx [1000029] _ [] rfl rfl rfl ?_ cI
 refine ae fun K9 hK9=>?_
 have hy:= @gx
 refine aa hcx [1000031] _ [] rfl rfl rfl ?_ cI
 refine Tr.k [3,4,6,7] ?_
 refine Tr.blk ?_
 refine aX (α:=Nat) (fun a=>[(3,?v3_3),(4,?v4_3),(6,sl bC (.own 1) ((UInt8.ofNat (128+(le m).length) ^^^ UInt8.ofNat 0):: ((be m (le m).length).map (· ^^^ UInt8.ofNat 0)).take a)),(7,.val (.int .i64 (((le m).length:Int) - 1 - (a:Int))))]) (fun a=>?h_3) (fun a=>a≤(le m).length) (fun a=>(le m).length - a) (0) ?_ ?le_3 ?hh_3 ?bd_3
 case hh_3=>exact rfl
 case le_3=>(simp only[bJ,bc,↓bG,↓reduceIte,Nat.reduceEqDiff,aY,bu,aZ,bv,bz,and_true,true_and];all_goals (repeat' first|exact CLe.refl _|exact True.intro| (refine aW ?_;first|rfl| (simp only[List.take_zero];done)) |exact bN (by omega) |exact aO (by omega) |exact bd (by omega) |exact bA (by omega) |with_reducible apply And.intro));all_goals first|exact gR (by simp) |exact aO (by omega)
 . omega
 rintro a ha
 refine ae fun K10 hK10=>?_
 have hy:=True.intro
 refine aa hcx [] _ [] rfl rfl rfl ?_ cI
 refine bq rfl (fun hc33=>?_) (fun hc33=>?_)
 ·
  refine Tr.skip ?_
  refine hK10 _ ?_
  refine ae fun K11 hK11=>?_
  refine Tr.blk ?_
  refine br hcx [36,1000045] _ [] rfl rfl rfl ?_ cI
  refine hK11 _ ?_
  refine br hcx [1000035] _ [] rfl rfl rfl ?_ cI
  refine ⟨a+1,⟨by omega,O1⟩,?_,rfl⟩
  (simp only[bJ,bc,↓bG,↓reduceIte,Nat.reduceEqDiff,aY,bu,aZ,bv,bz,and_true,true_and];all_goals (repeat' first|exact CLe.refl _|exact True.intro| (refine aW ?_;first|rfl| (simp only[List.take_zero];done)) |exact bN (by omega) |exact aO (by omega) |exact bd (by omega) |exact bA (by omega) |with_reducible apply And.intro))
  all_goals first|exact CLe.refl _|exact aO (by omega) | (refine du ?_;rw[←nl m _ a (by omega),show (((8:Nat):Int)*(((le m).length:Int) - 1 - (a:Int))).toNat=8*((le m).length - 1 - a) by omega];try rfl)
 obtain rfl:a= (le m).length:=by omega
 refine Tr.exit ?_
 refine hK9 _ ?_
 refine aa hcx [1000046] _ [] rfl rfl rfl ?_ cI
 exact Tr.ret wo
theorem cC {p:Prop}(e:p:=by intro KZ hZ;simp -implicitDefEqProofs (disch:=first|omega| (simp only[go_sem,lA,lD,lT] <;>omega) |decide) only[go_sem,↓reduceIte,Nat.reduceEqDiff,reduceCtorEq,Nat.reduceLT,Nat.reduceBEq,Nat.reduceAdd,em,hy];exact hZ):p:=e
theorem wp {p:Prop}(e:p:=by simp -implicitDefEqProofs (disch:=first|omega| (simp only[go_sem,lA,lD,lT] <;>omega) |decide) only[go_sem,↓reduceIte,Nat.reduceEqDiff,reduceCtorEq];all_goals (rw[List.take_of_length_le (by simp[i1])];rfl)):p:=e
theorem RR {gl:Nat→C}{M:Nat}{pu:Nat→List C→Option C}(hcx:CxOK (ao gl M pu))(m:Nat)(hm:m< 9223372036854775808):FC Tryd.prog gl 39 [.val (.int .i64 (-1 - (m:Int)))] [] (sl bC (.own 1) (wI m 255)) []:=by
 replace hcx:=hcx.reN (M:=47)
 refine aP (cx:=ao gl 47 pu) (rs:=[.tmp 2]) rfl Tryd.func39 rfl rfl rfl (by simp only[List.length_cons,List.length_nil];decide) (by simp only[go_sem]) ?_
 simp only[bQ,go_sem]
 have hy:=True.intro
 have hk8: (le m).length≤8:=fP 8 m (by omega)
 have em:18446744073709551615 - ((-1 - (m:Int)) % 18446744073709551616).toNat=m:=by omega
 refine aa hcx [] _ [] rfl rfl rfl ?_ cC
 refine Tr.scope ?_
 refine aa hcx [1000009] _ [] rfl rfl rfl ?_ cC
 refine ae fun K1 hK1=>?_
 refine aa hcx [] _ [] rfl rfl rfl ?_ cC
 refine tG rfl ((decide_eq_true (by omega))) ?_
 refine br hcx [1000013] _ [] rfl rfl rfl ?_ cC
 refine hK1 _ ?_
 refine aa hcx [] _ [] rfl rfl rfl ?_ cC
 refine ae fun K2 hK2=>?_
 refine Tr.label ?_
 refine hK2 _ ?_
 refine Tr.k [3,4,5] ?_
 refine ae fun K3 hK3=>?_
 refine Tr.blk ?_
 refine aX (α:=Nat) (fun a=>[(3,?v3_1),(4,?v4_1),(5,.val (nI a))]) (fun a=>?h_1) (fun a=>a≤8∧m< 256 ^ a) (fun a=>a) (8) ?_ ?le_1 ?hh_1 ?bd_1
 case hh_1=>exact rfl
 case le_1=>exact LT
 . exact ⟨by omega,by omega⟩
 rintro k ⟨hk,hmk⟩
 refine ae fun K4 hK4=>?_
 refine aa hcx [] _ [] rfl rfl rfl ?_ cC
 refine bq rfl (fun hc15=>?_) (fun hc15=>?_)
 ·
  refine Tr.skip ?_
  refine hK4 _ ?_
  refine Tr.blk ?_
  refine ae fun K5 hK5=>?_
  refine aa hcx [] _ [] rfl rfl rfl ?_ cC
  refine bq rfl (fun hc21=>?_) (fun hc21=>?_)
  ·
   have hkk:=nj m k hmk (.inr hc21)
   subst hkk
   clear hc21 hmk hk hc15
   refine Tr.exit ?_
   refine hK3 _ ?_
   refine aa hcx [1000029] _ [] rfl rfl rfl ?_ cC
   refine ae fun K6 hK6=>?_
   have hy:= @gx
   refine aa hcx [1000031] _ [] rfl rfl rfl ?_ cC
   refine Tr.k [3,4,6,7] ?_
   refine Tr.blk ?_
   refine aX (α:=Nat) (fun a=>[(3,?v3_2),(4,?v4_2),(6,sl bC (.own 1) ((UInt8.ofNat (128+(le m).length) ^^^ UInt8.ofNat 255):: ((be m (le m).length).map (· ^^^ UInt8.ofNat 255)).take a)),(7,.val (.int .i64 (((le m).length:Int) - 1 - (a:Int))))]) (fun a=>?h_2) (fun a=>a≤(le m).length) (fun a=>(le m).length - a) (0) ?_ ?le_2 ?hh_2 ?bd_2
   case hh_2=>exact rfl
   case le_2=>(simp only[bJ,bc,↓bG,↓reduceIte,Nat.reduceEqDiff,aY,bu,aZ,bv,bz,and_true,true_and];all_goals (repeat' first|exact CLe.refl _|exact True.intro| (refine aW ?_;first|rfl| (simp only[List.take_zero];done)) |exact bN (by omega) |exact aO (by omega) |exact bd (by omega) |exact bA (by omega) |with_reducible apply And.intro));all_goals first|exact gR (by simp) |exact aO (by omega)
   . omega
   rintro a ha
   refine ae fun K7 hK7=>?_
   have hy:=True.intro
   refine aa hcx [] _ [] rfl rfl rfl ?_ cC
   refine bq rfl (fun hc33=>?_) (fun hc33=>?_)
   ·
    refine Tr.skip ?_
    refine hK7 _ ?_
    refine ae fun K8 hK8=>?_
    refine Tr.blk ?_
    refine br hcx [36,1000045] _ [] rfl rfl rfl ?_ cC
    refine hK8 _ ?_
    refine br hcx [1000035] _ [] rfl rfl rfl ?_ cC
    refine ⟨a+1,⟨by omega,O1⟩,?_,rfl⟩
    (simp only[bJ,bc,↓bG,↓reduceIte,Nat.reduceEqDiff,aY,bu,aZ,bv,bz,and_true,true_and];all_goals (repeat' first|exact CLe.refl _|exact True.intro| (refine aW ?_;first|rfl| (simp only[List.take_zero];done)) |exact bN (by omega) |exact aO (by omega) |exact bd (by omega) |exact bA (by omega) |with_reducible apply And.intro))
    all_goals first|exact CLe.refl _|exact aO (by omega) | (refine du ?_;rw[←nl m _ a (by omega),show (((8:Nat):Int)*(((le m).length:Int) - 1 - (a:Int))).toNat=8*((le m).length - 1 - a) by omega];try rfl)
   obtain rfl:a= (le m).length:=by omega
   refine Tr.exit ?_
   refine hK6 _ ?_
   refine aa hcx [1000046] _ [] rfl rfl rfl ?_ cC
   exact Tr.ret wp
  refine Tr.skip ?_
  refine hK5 _ ?_
  refine br hcx [1000023] _ [] rfl rfl rfl ?_ cC
  refine ⟨k - 1,⟨⟨by omega,wd m k hc15 hc21⟩,O1⟩,?_,rfl⟩
  (simp only[bJ,bc,↓bG,↓reduceIte,Nat.reduceEqDiff,aY,bu,aZ,bv,bz,and_true,true_and];all_goals (repeat' first|exact CLe.refl _|exact True.intro| (refine aW ?_;first|rfl| (simp only[List.take_zero];done)) |exact bN (by omega) |exact aO (by omega) |exact bd (by omega) |exact bA (by omega) |with_reducible apply And.intro))
  all_goals first|exact CLe.refl _|exact aO (by omega) |exact bN (by omega) |exact bA (by omega) |exact bd (by omega)
 have hkk:=nj m k hmk (.inl hc15)
 subst hkk
 clear hc15 hmk hk
 refine Tr.exit ?_
 refine hK3 _ ?_
 refine aa hcx [1000029] _ [] rfl rfl rfl ?_ cC
 refine ae fun K9 hK9=>?_
 have hy:= @gx
 refine aa hcx [1000031] _ [] rfl rfl rfl ?_ cC
 refine Tr.k [3,4,6,7] ?_
 refine Tr.blk ?_
 refine aX (α:=Nat) (fun a=>[(3,?v3_3),(4,?v4_3),(6,sl bC (.own 1) ((UInt8.ofNat (128+(le m).length) ^^^ UInt8.ofNat 255):: ((be m (le m).length).map (· ^^^ UInt8.ofNat 255)).take a)),(7,.val (.int .i64 (((le m).length:Int) - 1 - (a:Int))))]) (fun a=>?h_3) (fun a=>a≤(le m).length) (fun a=>(le m).length - a) (0) ?_ ?le_3 ?hh_3 ?bd_3
 case hh_3=>exact rfl
 case le_3=>(simp only[bJ,bc,↓bG,↓reduceIte,Nat.reduceEqDiff,aY,bu,aZ,bv,bz,and_true,true_and];all_goals (repeat' first|exact CLe.refl _|exact True.intro| (refine aW ?_;first|rfl| (simp only[List.take_zero];done)) |exact bN (by omega) |exact aO (by omega) |exact bd (by omega) |exact bA (by omega) |with_reducible apply And.intro));all_goals first|exact gR (by simp) |exact aO (by omega)
 . omega
 rintro a ha
 refine ae fun K10 hK10=>?_
 have hy:=True.intro
 refine aa hcx [] _ [] rfl rfl rfl ?_ cC
 refine bq rfl (fun hc33=>?_) (fun hc33=>?_)
 ·
  refine Tr.skip ?_
  refine hK10 _ ?_
  refine ae fun K11 hK11=>?_
  refine Tr.blk ?_
  refine br hcx [36,1000045] _ [] rfl rfl rfl ?_ cC
  refine hK11 _ ?_
  refine br hcx [1000035] _ [] rfl rfl rfl ?_ cC
  refine ⟨a+1,⟨by omega,O1⟩,?_,rfl⟩
  (simp only[bJ,bc,↓bG,↓reduceIte,Nat.reduceEqDiff,aY,bu,aZ,bv,bz,and_true,true_and];all_goals (repeat' first|exact CLe.refl _|exact True.intro| (refine aW ?_;first|rfl| (simp only[List.take_zero];done)) |exact bN (by omega) |exact aO (by omega) |exact bd (by omega) |exact bA (by omega) |with_reducible apply And.intro))
  all_goals first|exact CLe.refl _|exact aO (by omega) | (refine du ?_;rw[←nl m _ a (by omega),show (((8:Nat):Int)*(((le m).length:Int) - 1 - (a:Int))).toNat=8*((le m).length - 1 - a) by omega];try rfl)
 obtain rfl:a= (le m).length:=by omega
 refine Tr.exit ?_
 refine hK9 _ ?_
 refine aa hcx [1000046] _ [] rfl rfl rfl ?_ cC
 exact Tr.ret wp
theorem cV {p:Prop}(e:p:=by intro KZ hZ;simp -implicitDefEqProofs (disch:=first|omega| (simp only[go_sem,lA,lD,lT] <;>omega) |decide) only[go_sem,↓reduceIte,Nat.reduceEqDiff,reduceCtorEq,Nat.reduceLT,Nat.reduceBEq,Nat.reduceAdd,hy];exact hZ):p:=e
theorem HF {p:Prop}(e:p:=by simp -implicitDefEqProofs (disch:=first|omega| (simp only[go_sem,lA,lD,lT] <;>omega) |decide) only[go_sem,↓reduceIte,Nat.reduceEqDiff,reduceCtorEq];all_goals (rw[List.take_of_length_le (by simp)];rw[←fW m];unfold co;rw[if_pos (by omega)];simp)):p:=e
theorem RS {gl:Nat→C}{M:Nat}{pu:Nat→List C→Option C}(hcx:CxOK (ao gl M pu))(m:Nat)(hm:m< 9223372036854775808):FC Tryd.prog gl 83 [.val (nI m)] [] (sl bC (.own 1) (wI m 0)) []:=by
 replace hcx:=hcx.reN (M:=59)
 refine aP (cx:=ao gl 59 pu) (rs:=[.tmp 2]) rfl Tryd.func83 rfl rfl rfl (by simp only[List.length_cons,List.length_nil];decide) (by simp only[go_sem]) ?_
 simp only[bQ,go_sem]
 have hy:=True.intro
 have hk8: (le m).length≤8:=fP 8 m (by omega)
 refine aa hcx [] _ [] rfl rfl rfl ?_ cV
 refine aa hcx [1000009] _ [] rfl rfl rfl ?_ cV
 refine ae fun K1 hK1=>?_
 refine aa hcx [] _ [] rfl rfl rfl ?_ cV
 refine tH rfl ((decide_eq_false (by omega))) ?_
 refine Tr.skip ?_
 refine hK1 _ ?_
 refine aa hcx [] _ [] rfl rfl rfl ?_ cV
 refine Tr.k [0,3,4] ?_
 refine ae fun K2 hK2=>?_
 refine Tr.blk ?_
 refine aX (α:=(Nat×List UInt8)) (fun a=>[(0,?v0_1),(3,.val (nI a.1)),(4,sl bC (.own 1) a.2)]) (fun a=>?h_1) (fun a=>a.1≤m∧a.2++le a.1=le m) (fun a=>a.1) ((m,[])) ?_ ?le_1 ?hh_1 ?bd_1
 case hh_1=>exact rfl
 case le_1=>(simp only[bJ,bc,↓bG,↓reduceIte,Nat.reduceEqDiff,aY,bu,aZ,bv,bz,and_true,true_and];all_goals (repeat' first|exact CLe.refl _|exact True.intro| (refine aW ?_;first|rfl| (simp only[List.take_zero];done)) |exact bN (by omega) |exact aO (by omega) |exact bd (by omega) |exact bA (by omega) |with_reducible apply And.intro));all_goals first|exact bd (by omega) |exact CLe.refl _
 . exact ⟨Nat.le_refl _,rfl⟩
 rintro ⟨q,ds⟩ ⟨hq,hds⟩
 have hdl:ds.length≤8:=by have:=congrArg List.length hds;simp only[List.length_append] at this;omega
 simp only[] at hq hds ⊢
 refine ae fun K3 hK3=>?_
 refine aa hcx [] _ [] rfl rfl rfl ?_ cV
 refine bq rfl (fun hc15=>?_) (fun hc15=>?_)
 ·
  refine Tr.skip ?_
  refine hK3 _ ?_
  refine Tr.blk ?_
  refine aa hcx [16,1000021] _ [] rfl rfl rfl ?_ cV
  refine br hcx [1000023] _ [] rfl rfl rfl ?_ cV
  refine ⟨(q / 256,ds++[UInt8.ofNat (q % 256)]),⟨⟨by have:=Nat.div_le_self q 256;simp only[];omega,by simp only[] at hds ⊢;rw[←hds,kl q (by omega)];simp⟩,by have:q / 256< q:=Nat.div_lt_self (by omega) (by decide);exact this⟩,?_,rfl⟩
  (simp only[bJ,bc,↓bG,↓reduceIte,Nat.reduceEqDiff,aY,bu,aZ,bv,bz,and_true,true_and];all_goals (repeat' first|exact CLe.refl _|exact True.intro| (refine aW ?_;first|rfl| (simp only[List.take_zero];done)) |exact bN (by omega) |exact aO (by omega) |exact bd (by omega) |exact bA (by omega) |with_reducible apply And.intro))
  all_goals exact CLe.refl _
 obtain rfl:q=0:=by omega
 rw[gK,List.append_nil] at hds
 subst hds
 clear hq hdl
 refine Tr.exit ?_
 refine hK2 _ ?_
 refine aa hcx [1000025] _ [] rfl rfl rfl ?_ cV
 refine aa hcx [] _ [] rfl rfl rfl ?_ cV
 refine ae fun K4 hK4=>?_
 refine aa hcx [] _ [] rfl rfl rfl ?_ cV
 refine tG rfl ((decide_eq_true (by omega))) ?_
 refine br hcx [28,1000033] _ [] rfl rfl rfl ?_ cV
 refine hK4 _ ?_
 refine ae fun K5 hK5=>?_
 have hy:= @gx
 refine aa hcx [1000041] _ [] rfl rfl rfl ?_ cV
 refine Tr.k [0,4,6,7] ?_
 refine Tr.blk ?_
 refine aX (α:=Nat) (fun a=>[(0,?v0_2),(4,?v4_2),(6,sl bC (.own 1) (UInt8.ofNat (128+(le m).length):: ((le m).reverse.map (fun c=>c)).take a)),(7,.val (.int .i64 (((le m).length:Int) - 1 - (a:Int))))]) (fun a=>?h_2) (fun a=>a≤(le m).length) (fun a=>(le m).length - a) (0) ?_ ?le_2 ?hh_2 ?bd_2
 case hh_2=>exact rfl
 case le_2=>(simp only[bJ,bc,↓bG,↓reduceIte,Nat.reduceEqDiff,aY,bu,aZ,bv,bz,and_true,true_and];all_goals (repeat' first|exact CLe.refl _|exact True.intro| (refine aW ?_;first|rfl| (simp only[List.take_zero];done)) |exact bN (by omega) |exact aO (by omega) |exact bd (by omega) |exact bA (by omega) |with_reducible apply And.intro));all_goals first|exact gR (by simp) |exact CLe.refl _|exact aO (by omega) |exact du (by simp)
 . omega
 rintro a ha
 refine ae fun K6 hK6=>?_
 have hy:=True.intro
 refine aa hcx [] _ [] rfl rfl rfl ?_ cV
 refine bq rfl (fun hc43=>?_) (fun hc43=>?_)
 ·
  refine Tr.skip ?_
  refine hK6 _ ?_
  refine ae fun K7 hK7=>?_
  refine Tr.blk ?_
  refine aa hcx [1000049] _ [] rfl rfl rfl ?_ cV
  refine ae fun K8 hK8=>?_
  refine aa hcx [] _ [] rfl rfl rfl ?_ cV
  refine tH rfl ((decide_eq_false (by omega))) ?_
  refine Tr.skip ?_
  refine hK8 _ ?_
  refine br hcx [54,1000057] _ [] rfl rfl rfl ?_ cV
  refine hK7 _ ?_
  refine br hcx [1000045] _ [] rfl rfl rfl ?_ cV
  refine ⟨a+1,⟨by omega,O1⟩,?_,rfl⟩
  (simp only[bJ,bc,↓bG,↓reduceIte,Nat.reduceEqDiff,aY,bu,aZ,bv,bz,and_true,true_and];all_goals (repeat' first|exact CLe.refl _|exact True.intro| (refine aW ?_;first|rfl| (simp only[List.take_zero];done)) |exact bN (by omega) |exact aO (by omega) |exact bd (by omega) |exact bA (by omega) |with_reducible apply And.intro))
  all_goals first|exact CLe.refl _|exact aO (by omega) | (refine du ?_;rw[←we (le m) _ a (by omega),show (((le m).length:Int) - 1 - (a:Int)).toNat= (le m).length - 1 - a by omega];try rfl)
 obtain rfl:a= (le m).length:=by omega
 refine Tr.exit ?_
 refine hK5 _ ?_
 refine aa hcx [1000058] _ [] rfl rfl rfl ?_ cV
 exact Tr.ret HF
theorem cE {p:Prop}(e:p:=by intro KZ hZ;simp -implicitDefEqProofs (disch:=first|omega| (simp only[go_sem,lA,lD,lT] <;>omega) |decide) only[go_sem,↓reduceIte,Nat.reduceEqDiff,reduceCtorEq,Nat.reduceLT,Nat.reduceBEq,Nat.reduceAdd,hy];exact hZ):p:=e
theorem HG {p:Prop}(e:p:=by simp -implicitDefEqProofs (disch:=first|omega| (simp only[go_sem,lA,lD,lT] <;>omega) |decide) only[go_sem,↓reduceIte,Nat.reduceEqDiff,reduceCtorEq];all_goals (rw[List.take_of_length_le (by simp)];rw[←oq m hk8];unfold co;rw[if_neg (by omega),show (-1 - (-1 - (m:Int))).toNat=m by omega];rfl)):p:=e
theorem RT {gl:Nat→C}{M:Nat}{pu:Nat→List C→Option C}(hcx:CxOK (ao gl M pu))(m:Nat)(hm:m< 9223372036854775808):FC Tryd.prog gl 83 [.val (.int .i64 (-1 - (m:Int)))] [] (sl bC (.own 1) (wI m 255)) []:=by
 replace hcx:=hcx.reN (M:=59)
 refine aP (cx:=ao gl 59 pu) (rs:=[.tmp 2]) rfl Tryd.func83 rfl rfl rfl (by simp only[List.length_cons,List.length_nil];decide) (by simp only[go_sem]) ?_
 simp only[bQ,go_sem]
 have hy:=True.intro
 have hk8: (le m).length≤8:=fP 8 m (by omega)
 refine aa hcx [] _ [] rfl rfl rfl ?_ cE
 refine aa hcx [1000009] _ [] rfl rfl rfl ?_ cE
 refine ae fun K1 hK1=>?_
 refine aa hcx [] _ [] rfl rfl rfl ?_ cE
 refine tG rfl ((decide_eq_true (by omega))) ?_
 refine br hcx [1000013] _ [] rfl rfl rfl ?_ cE
 refine hK1 _ ?_
 refine aa hcx [] _ [] rfl rfl rfl ?_ cE
 refine Tr.k [0,3,4] ?_
 refine ae fun K2 hK2=>?_
 refine Tr.blk ?_
 refine aX (α:=(Nat×List UInt8)) (fun a=>[(0,?v0_1),(3,.val (nI a.1)),(4,sl bC (.own 1) a.2)]) (fun a=>?h_1) (fun a=>a.1≤m∧a.2++le a.1=le m) (fun a=>a.1) ((m,[])) ?_ ?le_1 ?hh_1 ?bd_1
 case hh_1=>exact rfl
 case le_1=>(simp only[bJ,bc,↓bG,↓reduceIte,Nat.reduceEqDiff,aY,bu,aZ,bv,bz,and_true,true_and];all_goals (repeat' first|exact CLe.refl _|exact True.intro| (refine aW ?_;first|rfl| (simp only[List.take_zero];done)) |exact bN (by omega) |exact aO (by omega) |exact bd (by omega) |exact bA (by omega) |with_reducible apply And.intro));all_goals first|exact bd (by omega) |exact CLe.refl _
 . exact ⟨Nat.le_refl _,rfl⟩
 rintro ⟨q,ds⟩ ⟨hq,hds⟩
 have hdl:ds.length≤8:=by have:=congrArg List.length hds;simp only[List.length_append] at this;omega
 simp only[] at hq hds ⊢
 refine ae fun K3 hK3=>?_
 refine aa hcx [] _ [] rfl rfl rfl ?_ cE
 refine bq rfl (fun hc15=>?_) (fun hc15=>?_)
 ·
  refine Tr.skip ?_
  refine hK3 _ ?_
  refine Tr.blk ?_
  refine aa hcx [16,1000021] _ [] rfl rfl rfl ?_ cE
  refine br hcx [1000023] _ [] rfl rfl rfl ?_ cE
  refine ⟨(q / 256,ds++[UInt8.ofNat (q % 256)]),⟨⟨by have:=Nat.div_le_self q 256;simp only[];omega,by simp only[] at hds ⊢;rw[←hds,kl q (by omega)];simp⟩,by have:q / 256< q:=Nat.div_lt_self (by omega) (by decide);exact this⟩,?_,rfl⟩
  (simp only[bJ,bc,↓bG,↓reduceIte,Nat.reduceEqDiff,aY,bu,aZ,bv,bz,and_true,true_and];all_goals (repeat' first|exact CLe.refl _|exact True.intro| (refine aW ?_;first|rfl| (simp only[List.take_zero];done)) |exact bN (by omega) |exact aO (by omega) |exact bd (by omega) |exact bA (by omega) |with_reducible apply And.intro))
  all_goals exact CLe.refl _
 obtain rfl:q=0:=by omega
 rw[gK,List.append_nil] at hds
 subst hds
 clear hq hdl
 refine Tr.exit ?_
 refine hK2 _ ?_
 refine aa hcx [1000025] _ [] rfl rfl rfl ?_ cE
 refine aa hcx [] _ [] rfl rfl rfl ?_ cE
 refine ae fun K4 hK4=>?_
 refine aa hcx [] _ [] rfl rfl rfl ?_ cE
 refine tH rfl ((decide_eq_false (by omega))) ?_
 refine br hcx [34,1000039] _ [] rfl rfl rfl ?_ cE
 refine hK4 _ ?_
 refine ae fun K5 hK5=>?_
 have hy:= @gx
 refine aa hcx [1000041] _ [] rfl rfl rfl ?_ cE
 refine Tr.k [0,4,6,7] ?_
 refine Tr.blk ?_
 refine aX (α:=Nat) (fun a=>[(0,?v0_2),(4,?v4_2),(6,sl bC (.own 1) (UInt8.ofNat (127 - (le m).length):: ((le m).reverse.map (fun c=>UInt8.ofNat 255 - c)).take a)),(7,.val (.int .i64 (((le m).length:Int) - 1 - (a:Int))))]) (fun a=>?h_2) (fun a=>a≤(le m).length) (fun a=>(le m).length - a) (0) ?_ ?le_2 ?hh_2 ?bd_2
 case hh_2=>exact rfl
 case le_2=>(simp only[bJ,bc,↓bG,↓reduceIte,Nat.reduceEqDiff,aY,bu,aZ,bv,bz,and_true,true_and];all_goals (repeat' first|exact CLe.refl _|exact True.intro| (refine aW ?_;first|rfl| (simp only[List.take_zero];done)) |exact bN (by omega) |exact aO (by omega) |exact bd (by omega) |exact bA (by omega) |with_reducible apply And.intro));all_goals first|exact gR (by simp) |exact CLe.refl _|exact aO (by omega) |exact du (by simp)
 . omega
 rintro a ha
 refine ae fun K6 hK6=>?_
 have hy:=True.intro
 refine aa hcx [] _ [] rfl rfl rfl ?_ cE
 refine bq rfl (fun hc43=>?_) (fun hc43=>?_)
 ·
  refine Tr.skip ?_
  refine hK6 _ ?_
  refine ae fun K7 hK7=>?_
  refine Tr.blk ?_
  refine aa hcx [1000049] _ [] rfl rfl rfl ?_ cE
  refine ae fun K8 hK8=>?_
  refine aa hcx [] _ [] rfl rfl rfl ?_ cE
  refine tG rfl ((decide_eq_true (by omega))) ?_
  refine br hcx [1000053] _ [] rfl rfl rfl ?_ cE
  refine hK8 _ ?_
  refine br hcx [54,1000057] _ [] rfl rfl rfl ?_ cE
  refine hK7 _ ?_
  refine br hcx [1000045] _ [] rfl rfl rfl ?_ cE
  refine ⟨a+1,⟨by omega,O1⟩,?_,rfl⟩
  (simp only[bJ,bc,↓bG,↓reduceIte,Nat.reduceEqDiff,aY,bu,aZ,bv,bz,and_true,true_and];all_goals (repeat' first|exact CLe.refl _|exact True.intro| (refine aW ?_;first|rfl| (simp only[List.take_zero];done)) |exact bN (by omega) |exact aO (by omega) |exact bd (by omega) |exact bA (by omega) |with_reducible apply And.intro))
  all_goals first|exact CLe.refl _|exact aO (by omega) | (refine du ?_;rw[←we (le m) _ a (by omega),show (((le m).length:Int) - 1 - (a:Int)).toNat= (le m).length - 1 - a by omega];try rfl)
 obtain rfl:a= (le m).length:=by omega
 refine Tr.exit ?_
 refine hK5 _ ?_
 refine aa hcx [1000058] _ [] rfl rfl rfl ?_ cE
 exact Tr.ret HG
theorem Ap {p:Prop}(e:p:=by intro KZ hZ;simp -implicitDefEqProofs (disch:=first|omega| (simp only[go_sem,lA,lD,lT] <;>omega) |decide) only[go_sem,↓reduceIte,Nat.reduceEqDiff,reduceCtorEq,Nat.reduceLT,Nat.reduceBEq,Nat.reduceAdd,h39,hy];exact hZ):p:=e
theorem NE {p:Prop}(e:p:=by simp -implicitDefEqProofs (disch:=first|omega| (simp only[go_sem,lA,lD,lT] <;>omega) |decide) only[go_sem,↓reduceIte,Nat.reduceEqDiff,reduceCtorEq];all_goals (unfold wb;rw[fW])):p:=e
theorem Vu {gl:Nat→C}{M:Nat}{pu:Nat→List C→Option C}(hcx:CxOK (ao gl M pu))(h39:∀m:Nat,m< 9223372036854775808→pu 39 [.val (nI m)] =some (sl bC (.own 1) (wI m 0)))(s:List UInt8)(hs:s.length< 70368744177664):FC Tryd.prog gl 74 [.val (str s)] [] (sl bC (.own 1) (wb s)) []:=by
 replace hcx:=hcx.reN (M:=8)
 refine aP (cx:=ao gl 8 pu) (rs:=[.tmp 2]) rfl Tryd.func74 rfl rfl rfl (by simp only[List.length_cons,List.length_nil];decide) (by simp only[go_sem]) ?_
 simp only[bQ,go_sem]
 have hy:=True.intro
 have hk8: (wI s.length 0).length≤9:=by have:=fP 8 s.length (by omega);simp[wI,i1];omega
 refine aa hcx [] _ [] rfl rfl rfl ?_ Ap
 refine aa hcx [5,1000007] _ [] rfl rfl rfl ?_ Ap
 exact Tr.ret NE
theorem Aq {p:Prop}(e:p:=by intro KZ hZ;simp -implicitDefEqProofs (disch:=first|omega| (simp only[go_sem,lA,lD,lT] <;>omega) |decide) only[go_sem,↓reduceIte,Nat.reduceEqDiff,reduceCtorEq,Nat.reduceLT,Nat.reduceBEq,Nat.reduceAdd,h83,hy];exact hZ):p:=e
theorem NF {p:Prop}(e:p:=by simp -implicitDefEqProofs (disch:=first|omega| (simp only[go_sem,lA,lD,lT] <;>omega) |decide) only[go_sem,↓reduceIte,Nat.reduceEqDiff,reduceCtorEq];all_goals (unfold wb;rw[fW])):p:=e
theorem Vv {gl:Nat→C}{M:Nat}{pu:Nat→List C→Option C}(hcx:CxOK (ao gl M pu))(h83:∀m:Nat,m< 9223372036854775808→pu 83 [.val (nI m)] =some (sl bC (.own 1) (wI m 0)))(s:List UInt8)(hs:s.length< 70368744177664):FC Tryd.prog gl 95 [.val (str s)] [] (sl bC (.own 1) (wb s)) []:=by
 replace hcx:=hcx.reN (M:=9)
 refine aP (cx:=ao gl 9 pu) (rs:=[.tmp 2]) rfl Tryd.func95 rfl rfl rfl (by simp only[List.length_cons,List.length_nil];decide) (by simp only[go_sem]) ?_
 simp only[bQ,go_sem]
 have hy:=True.intro
 have hk8: (wI s.length 0).length≤9:=by have:=fP 8 s.length (by omega);simp[wI,i1];omega
 refine aa hcx [] _ [] rfl rfl rfl ?_ Aq
 refine aa hcx [5,1000008] _ [] rfl rfl rfl ?_ Aq
 exact Tr.ret NF
end Go.Sx
namespace Go.Sx
open Go.RowKit Go.Proofs
theorem Ht (b:List UInt8)(t:Nat)(h:t< 16):aN b (t+1) =aN b t++[tA b t]:=by
 simp only[aN,h,if_true]
theorem An (b:List UInt8)(t:Nat)(h:¬t< 16):aN b (t+1) =aN b t++[gt (aN b t) (t - 16)+(rr (gt (aN b t) (t - 15)) 7 ^^^ rr (gt (aN b t) (t - 15)) 18 ^^^ gt (aN b t) (t - 15) >>>3)+gt (aN b t) (t - 7)+
        (rr (gt (aN b t) (t - 2)) 17 ^^^ rr (gt (aN b t) (t - 2)) 19 ^^^ gt (aN b t) (t - 2) >>>10)]:=by
 simp only[aN,h,if_false]
theorem rN {α:Type}(l:List α)(x y:α)(t:Nat):l++x::List.replicate (63 - t) y= (l++[x])++List.replicate (64 - (t+1)) y:=by
 rw[show 64 - (t+1) =63 - t by omega];simp
end Go.Sx
namespace Go.Sx
open Go.RowKit Go.Proofs
set_option maxRecDepth 100000
set_option maxHeartbeats 8000000
theorem ja {p:Prop}(e:p:=by intro KZ hZ;simp -implicitDefEqProofs (disch:=first|omega| (simp only[go_sem,lA,lD,lT,hh] <;>omega) |decide) only[go_sem,↓reduceIte,Nat.reduceEqDiff,reduceCtorEq,Nat.reduceLT,Nat.reduceBEq,Nat.reduceAdd,hy];exact hZ):p:=e
theorem NG {p:Prop}(e:p:=by simp -implicitDefEqProofs (disch:=first|omega| (simp only[go_sem,lA,lD,lT,hh] <;>omega) |decide) only[go_sem,↓reduceIte,Nat.reduceEqDiff,reduceCtorEq];all_goals (rw[List.take_of_length_le (by omega)])):p:=e
theorem Vw {gl:Nat→C}{M:Nat}{pu:Nat→List C→Option C}(hcx:CxOK (ao gl M pu))(h:List UInt8)(hh:h.length=16):FC Tryd.prog gl 84 [.agg (cl bC h)] [] (.val (str h)) []:=by
 replace hcx:=hcx.reN (M:=17)
 refine aP (cx:=ao gl 17 pu) (rs:=[.tmp 2]) rfl Tryd.func84 rfl rfl rfl (by simp only[List.length_cons,List.length_nil];decide) (by simp only[go_sem]) ?_
 simp only[bQ,go_sem]
 have hy:=True.intro
 refine aa hcx [] _ [none] rfl rfl rfl ?_ ja
 refine aa hcx [] _ [] rfl rfl rfl ?_ ja
 refine ae fun K1 hK1=>?_
 refine aa hcx [] _ [] rfl rfl rfl ?_ ja
 refine Tr.k [1,3,4] ?_
 refine Tr.blk ?_
 refine aX (α:=Nat) (fun a=>[(1,?v1_1),(3,sl bC (.own 1) (h.take a)),(4,.val (nI a))]) (fun a=>[some (cl bC h)]) (fun a=>a≤16) (fun a=>16 - a) (0) ?_ ?le_1 ?hh_1 ?bd_1
 case hh_1=>exact rfl
 case le_1=>exact LT
 . omega
 rintro i hi
 refine ae fun K2 hK2=>?_
 refine aa hcx [] _ [] rfl rfl rfl ?_ ja
 refine bq rfl (fun hc6=>?_) (fun hc6=>?_)
 ·
  refine Tr.skip ?_
  refine hK2 _ ?_
  refine ae fun K3 hK3=>?_
  refine Tr.blk ?_
  refine br hcx [9,1000014] _ [] rfl rfl rfl ?_ ja
  refine hK3 _ ?_
  refine br hcx [1000008] _ [] rfl rfl rfl ?_ ja
  refine ⟨i+1,⟨by omega,O1⟩,?_,rfl⟩
  (simp only[bJ,bc,↓bG,↓reduceIte,Nat.reduceEqDiff,aY,bu,aZ,bv,bz,and_true,true_and];all_goals (repeat' first|exact CLe.refl _|exact True.intro| (refine aW ?_;first|rfl| (simp only[List.take_zero];done)) |exact bN (by omega) |exact aO (by omega) |exact bd (by omega) |exact bA (by omega) |with_reducible apply And.intro))
  all_goals (refine du ?_;rw[dG _ _ (by omega)])
 obtain rfl:i=16:=by omega
 refine Tr.exit ?_
 refine hK1 _ ?_
 refine aa hcx [1000016] _ [] rfl rfl rfl ?_ ja
 exact Tr.ret NG
theorem ew {p:Prop}(e:p:=by intro KZ hZ;simp -implicitDefEqProofs (disch:=first|omega| (simp only[go_sem,lA,lD,lT,gM] <;>omega) |decide) only[go_sem,↓reduceIte,Nat.reduceEqDiff,reduceCtorEq,Nat.reduceLT,Nat.reduceBEq,Nat.reduceAdd,hy];exact hZ):p:=e
theorem HH {p:Prop}(e:p:=by simp -implicitDefEqProofs (disch:=first|omega| (simp only[go_sem,lA,lD,lT,gM] <;>omega) |decide) only[go_sem,↓reduceIte,Nat.reduceEqDiff,reduceCtorEq];all_goals (simp[i6])):p:=e
theorem RU {gl:Nat→C}{M:Nat}{pu:Nat→List C→Option C}(hcx:CxOK (ao gl M pu))(b:List UInt8)(hb:b.length< 35184372088832):FC Tryd.prog gl 108 [sl bC .no b] [] (sl bC (.own 1) (b++i6 b.length)) []:=by
 replace hcx:=hcx.reN (M:=37)
 refine aP (cx:=ao gl 37 pu) (rs:=[.tmp 2]) rfl Tryd.func108 rfl rfl rfl (by simp only[List.length_cons,List.length_nil];decide) (by simp only[go_sem]) ?_
 simp only[bQ,go_sem]
 have hy:=True.intro
 have hz:eu b.length< 64:=Nat.mod_lt _ (by decide)
 refine aa hcx [] _ [] rfl rfl rfl ?_ ew
 refine aa hcx [6,1000008] _ [] rfl rfl rfl ?_ ew
 refine aa hcx [9,1000011] _ [] rfl rfl rfl ?_ ew
 refine Tr.k [0,3] ?_
 refine ae fun K1 hK1=>?_
 refine Tr.blk ?_
 refine aX (α:=Nat) (fun a=>[(0,?v0_1),(3,sl bC (.own 1) (b++128::List.replicate a 0))]) (fun a=>?h_1) (fun a=>a≤eu b.length) (fun a=>eu b.length - a) (0) ?_ ?le_1 ?hh_1 ?bd_1
 case hh_1=>exact rfl
 case le_1=>(simp only[bJ,bc,↓bG,↓reduceIte,Nat.reduceEqDiff,aY,bu,aZ,bv,bz,and_true,true_and];all_goals (repeat' first|exact CLe.refl _|exact True.intro| (refine aW ?_;first|rfl| (simp only[List.take_zero];done)) |exact bN (by omega) |exact aO (by omega) |exact bd (by omega) |exact bA (by omega) |with_reducible apply And.intro));all_goals exact du (by simp)
 . omega
 rintro z hzz
 have hL: (b++128::List.replicate z 0).length=b.length+1+z:=by simp;omega
 refine ae fun K2 hK2=>?_
 refine aa hcx [] _ [] rfl rfl rfl ?_ ew
 refine bq rfl (fun hc15=>?_) (fun hc15=>?_)
 ·
  refine Tr.skip ?_
  refine hK2 _ ?_
  refine Tr.blk ?_
  refine br hcx [16,1000018] _ [] rfl rfl rfl ?_ ew
  refine ⟨z+1,⟨by unfold eu at*;omega,by unfold eu at*;omega⟩,?_,rfl⟩
  (simp only[bJ,bc,↓bG,↓reduceIte,Nat.reduceEqDiff,aY,bu,aZ,bv,bz,and_true,true_and];all_goals (repeat' first|exact CLe.refl _|exact True.intro| (refine aW ?_;first|rfl| (simp only[List.take_zero];done)) |exact bN (by omega) |exact aO (by omega) |exact bd (by omega) |exact bA (by omega) |with_reducible apply And.intro))
  all_goals (refine du ?_;rw[←Cr z];simp)
 obtain rfl:z=eu b.length:=by unfold eu at*;omega
 refine Tr.exit ?_
 refine hK1 _ ?_
 refine aa hcx [1000022] _ [] rfl rfl rfl ?_ ew
 refine ae fun K3 hK3=>?_
 refine aa hcx [] _ [] rfl rfl rfl ?_ ew
 refine Tr.k [3,4,5] ?_
 refine Tr.blk ?_
 refine aX (α:=Nat) (fun a=>[(3,sl bC (.own 1) (b++128::List.replicate (eu b.length) 0++jT (8*b.length) a)),(4,?v4_2),(5,.val (nI a))]) (fun a=>?h_2) (fun a=>a≤8) (fun a=>8 - a) (0) ?_ ?le_2 ?hh_2 ?bd_2
 case hh_2=>exact rfl
 case le_2=>(simp only[bJ,bc,↓bG,↓reduceIte,Nat.reduceEqDiff,aY,bu,aZ,bv,bz,and_true,true_and];all_goals (repeat' first|exact CLe.refl _|exact True.intro| (refine aW ?_;first|rfl| (simp only[List.take_zero];done)) |exact bN (by omega) |exact aO (by omega) |exact bd (by omega) |exact bA (by omega) |with_reducible apply And.intro));all_goals exact du (by simp[jT])
 . omega
 rintro k hk
 refine ae fun K4 hK4=>?_
 refine aa hcx [] _ [] rfl rfl rfl ?_ ew
 refine bq rfl (fun hc24=>?_) (fun hc24=>?_)
 ·
  refine Tr.skip ?_
  refine hK4 _ ?_
  refine ae fun K5 hK5=>?_
  refine Tr.blk ?_
  refine br hcx [27,1000035] _ [] rfl rfl rfl ?_ ew
  refine hK5 _ ?_
  refine br hcx [1000026] _ [] rfl rfl rfl ?_ ew
  refine ⟨k+1,⟨by omega,O1⟩,?_,rfl⟩
  (simp only[bJ,bc,↓bG,↓reduceIte,Nat.reduceEqDiff,aY,bu,aZ,bv,bz,and_true,true_and];all_goals (repeat' first|exact CLe.refl _|exact True.intro| (refine aW ?_;first|rfl| (simp only[List.take_zero];done)) |exact bN (by omega) |exact aO (by omega) |exact bd (by omega) |exact bA (by omega) |with_reducible apply And.intro))
  all_goals (refine du ?_;rw[rL];simp)
 obtain rfl:k=8:=by omega
 refine Tr.exit ?_
 refine hK3 _ ?_
 refine aa hcx [1000036] _ [] rfl rfl rfl ?_ ew
 exact Tr.ret HH
theorem fx {p:Prop}(e:p:=by intro KZ hZ;simp -implicitDefEqProofs (disch:=first|omega| (simp only[go_sem,lA,lD,lT,b7,hb] <;>omega) |decide) only[go_sem,↓reduceIte,Nat.reduceEqDiff,reduceCtorEq,Nat.reduceLT,Nat.reduceBEq,Nat.reduceAdd,Nat.reduceSub,Nat.reduceMul,Nat.reduceMod,Int.reduceMod,Int.reduceToNat,Int.reduceNeg,h110,kj,lX,gJ,b7,hy];exact hZ):p:=e
theorem nn {p:Prop}(e:p:=by intro KZ hZ;simp -implicitDefEqProofs (disch:=first|omega| (simp only[go_sem,lA,lD,lT,b7,hb] <;>omega) |decide) only[go_sem,↓reduceIte,Nat.reduceEqDiff,reduceCtorEq,Nat.reduceLT,Nat.reduceBEq,Nat.reduceAdd,Nat.reduceSub,Nat.reduceMul,Nat.reduceMod,Int.reduceMod,Int.reduceToNat,Int.reduceNeg,h110,kj,lX,gJ,b7,hy];refine And.intro ?_ hZ;exact rfl):p:=e
theorem HI {p:Prop}(e:p:=by simp -implicitDefEqProofs (disch:=first|omega| (simp only[go_sem,lA,lD,lT,b7,hb] <;>omega) |decide) only[go_sem,↓reduceIte,Nat.reduceEqDiff,reduceCtorEq];all_goals (simp)):p:=e
theorem RV {gl:Nat→C}{M:Nat}{pu:Nat→List C→Option C}(hcx:CxOK (ao gl M pu))(h110:∀x n,n< 32→pu 110 [.val (bf x),.val (nI n)] =some (.val (bf (rr x n))))(b:List UInt8)(hb:b.length=64):FC Tryd.prog gl 109 [sl bC .no b] [] (.agg (cl wC (aN b 64))) []:=by
 replace hcx:=hcx.reN (M:=101)
 refine aP (cx:=ao gl 101 pu) (rs:=[.cell 2 162]) rfl Tryd.func109 rfl rfl rfl (by simp only[List.length_cons,List.length_nil];decide) (by simp only[go_sem]) ?_
 simp only[bQ,go_sem]
 have hy:=True.intro
 refine aa hcx [] _ [none] rfl rfl rfl ?_ fx
 refine aa hcx [] _ [none] rfl rfl rfl ?_ fx
 refine ae fun K1 hK1=>?_
 refine aa hcx [] _ [] rfl rfl rfl ?_ fx
 refine Tr.k [0,2,3,4] ?_
 refine Tr.blk ?_
 refine aX (α:=Nat) (fun a=>[(0,?v0_1),(2,?v2_1),(3,?v3_1),(4,.val (nI a))]) (fun a=>[some (cl wC (List.replicate 64 0)),some (cl wC (aN b a++List.replicate (64 - a) 0))]) (fun a=>a≤16) (fun a=>16 - a) (0) ?_ ?le_1 ?hh_1 ?bd_1
 case hh_1=>exact rfl
 case le_1=>exact LT
 . omega
 rintro t ht
 refine ae fun K2 hK2=>?_
 refine aa hcx [] _ [] rfl rfl rfl ?_ fx
 refine bq rfl (fun hc9=>?_) (fun hc9=>?_)
 ·
  refine Tr.skip ?_
  refine hK2 _ ?_
  refine Tr.k [0,2,3,4] ?_
  refine ae fun K3 hK3=>?_
  refine Tr.blk ?_
  refine gA hcx dR [] _ [] rfl rfl rfl rfl ?_ nn
  refine hK3 _ ?_
  refine Tr.k [0,2,3,4] ?_
  refine br hcx [1000011] _ [] rfl rfl rfl ?_ fx
  exact ⟨t+1,⟨by omega,O1⟩,LT,by dsimp only;rw[Ht b t hc9];first|rw[qS] |rw[rN];rfl⟩
 obtain rfl:t=16:=by omega
 refine Tr.exit ?_
 refine hK1 _ ?_
 refine ae fun K4 hK4=>?_
 refine aa hcx [] _ [] rfl rfl rfl ?_ fx
 refine Tr.k [2,3,5] ?_
 refine Tr.blk ?_
 refine aX (α:=Nat) (fun a=>[(2,?v2_2),(3,?v3_2),(5,.val (nI a))]) (fun a=>[some (cl wC (List.replicate 64 0)),some (cl wC (aN b a++List.replicate (64 - a) 0))]) (fun a=>16≤a∧a≤64) (fun a=>64 - a) (16) ?_ ?le_2 ?hh_2 ?bd_2
 case hh_2=>exact rfl
 case le_2=>exact LT
 . exact ⟨by omega,by omega⟩
 rintro t ht
 refine ae fun K5 hK5=>?_
 refine aa hcx [] _ [] rfl rfl rfl ?_ fx
 refine bq rfl (fun hc48=>?_) (fun hc48=>?_)
 ·
  refine Tr.skip ?_
  refine hK5 _ ?_
  refine ae fun K6 hK6=>?_
  refine Tr.blk ?_
  refine ce hcx dR [1000067] _ [] rfl rfl rfl rfl ?_ nn
  refine Tr.k [2,3,5,6] ?_
  refine ce hcx dR [1000084] _ [] rfl rfl rfl rfl ?_ nn
  refine Tr.k [2,3,5,6,7] ?_
  refine gA hcx dR [] _ [] rfl rfl rfl rfl ?_ nn
  refine hK6 _ ?_
  refine br hcx [1000050] _ [] rfl rfl rfl ?_ fx
  exact ⟨t+1,⟨by omega,O1⟩,LT,by dsimp only;rw[An b t (by omega)];first|rw[qS] |rw[rN] <;>rfl⟩
 obtain rfl:t=64:=by omega
 refine Tr.exit ?_
 refine hK4 _ ?_
 refine aa hcx [] _ [] rfl rfl rfl ?_ fx
 exact Tr.ret HI
end Go.Sx
namespace Go.Sx
open Go.RowKit Go.Proofs
set_option maxRecDepth 100000
set_option maxHeartbeats 8000000
theorem cu {p:Prop}(e:p:=by intro KZ hZ;simp -implicitDefEqProofs (disch:=first|omega| (simp only[go_sem,lA,lD,lT,hMl,hMq,b7,cL,eX,g9] <;>omega) |decide) only[go_sem,↓reduceIte,Nat.reduceEqDiff,reduceCtorEq,Nat.reduceLT,Nat.reduceBEq,Nat.reduceAdd,hM,h108,h109,h110,Am,hg0,S8.l,kz,hy];exact hZ):p:=e
theorem Ar {p:Prop}(e:p:=by intro KZ hZ;simp -implicitDefEqProofs (disch:=first|omega| (simp only[go_sem,lA,lD,lT,hMl,hMq,b7,cL,eX,g9] <;>omega) |decide) only[go_sem,↓reduceIte,Nat.reduceEqDiff,reduceCtorEq,Nat.reduceLT,Nat.reduceBEq,Nat.reduceAdd,hM,h108,h109,h110,Am,hg0,S8.l,kz,hy];refine And.intro ?_ hZ;exact rfl):p:=e
theorem NH {p:Prop}(e:p:=by simp -implicitDefEqProofs (disch:=first|omega| (simp only[go_sem,lA,lD,lT,hMl,hMq,b7,cL,eX,g9] <;>omega) |decide) only[go_sem,↓reduceIte,Nat.reduceEqDiff,reduceCtorEq];all_goals (rw[hsha];simp)):p:=e
theorem Vx {gl:Nat→C}{M:Nat}{pu:Nat→List C→Option C}(hcx:CxOK (ao gl M pu))(hg0:gl 0= .kp (cl wC kc))(h108:∀b:List UInt8,b.length< 35184372088832→pu 108 [sl bC .no b] =some (sl bC (.own 1) (b++i6 b.length)))(h109:∀b:List UInt8,b.length=64→pu 109 [sl bC .no b] =some (.agg (cl wC (aN b 64))))(h110:∀x n,n< 32→pu 110 [.val (bf x),.val (nI n)] =some (.val (bf (rr x n))))(b:List UInt8)(hb:b.length< 35184372088832):FC Tryd.prog gl 94 [sl bC .no b] [] (.agg (cl bC (eA b))) []:=by
 replace hcx:=hcx.reN (M:=164)
 refine aP (cx:=ao gl 164 pu) (rs:=[.cell 2 141]) rfl Tryd.func94 rfl rfl rfl (by simp only[List.length_cons,List.length_nil];decide) (by simp only[go_sem]) ?_
 simp only[bQ,go_sem]
 have hy:=True.intro
 obtain ⟨Q,hQ⟩:=Cy b
 have hpl:=wj b.length
 have hz:eu b.length< 64:=Nat.mod_lt _ (by decide)
 have hsha:=NC b
 obtain ⟨M,hM⟩:∃M,b++i6 b.length=M:=⟨_,rfl⟩
 rw[hM] at hQ hsha
 have hMl:M.length=64*Q:=hQ
 have hMb:M.length< 35184372088932:=by rw[←hM,List.length_append,hpl];omega
 have hMq:=True.intro
 refine aa hcx [] _ [none] rfl rfl rfl ?_ cu
 refine aa hcx [] _ [none] rfl rfl rfl ?_ cu
 refine aa hcx [1000022] _ [] rfl rfl rfl ?_ cu
 refine ae fun K1 hK1=>?_
 refine aa hcx [] _ [] rfl rfl rfl ?_ cu
 refine Tr.k [2,3,4,5] ?_
 refine Tr.blk ?_
 refine aX (α:=Nat) (fun a=>[(2,?v2_1),(3,?v3_1),(4,?v4_1),(5,.val (nI (64*a)))]) (fun a=>[some (cl bC (List.replicate 32 0)),some (cl wC (b9 F0 (M.take (64*a))).s.l)]) (fun a=>a≤Q) (fun a=>Q - a) (0) ?_ ?le_1 ?hh_1 ?bd_1
 case hh_1=>exact by simp only[Nat.mul_zero,List.take_zero];rfl
 case le_1=>exact LT
 . omega
 rintro q hq
 have hMq: ((M.drop (64*q)).take (64*q+64 - 64*q)).length=min 64 (64*Q - 64*q):=by rw[List.length_take,List.length_drop,hMl];omega
 refine ae fun K2 hK2=>?_
 refine aa hcx [] _ [] rfl rfl rfl ?_ cu
 refine bq rfl (fun hc26=>?_) (fun hc26=>?_)
 ·
  refine Tr.skip ?_
  refine hK2 _ ?_
  refine ae fun K3 hK3=>?_
  refine Tr.blk ?_
  refine aa hcx [] _ [none] rfl rfl rfl ?_ cu
  refine Tr.k [2,3,4,5,6] ?_
  refine ce hcx dR [1000036,1000038,1000040,1000042,1000044,1000046,1000048,1000050] _ [] rfl rfl rfl rfl ?_ Ar
  refine Tr.k [2,3,4,5,6,7,8,9,10,11,12,13,14] ?_
  refine ae fun K4 hK4=>?_
  refine aa hcx [] _ [] rfl rfl rfl ?_ cu
  refine Tr.k [2,3,4,5,6,7,8,9,10,11,12,13,14,15] ?_
  refine Tr.blk ?_
  refine aX (α:=Nat) (fun a=>[(2,?v2_2),(3,?v3_2),(4,?v4_2),(5,?v5_2),(6,?v6_2),(7,.val (bf (c8 (aN ((M.drop (64*q)).take 64) 64) (b9 F0 (M.take (64*q))).s a).a)),(8,.val (bf (c8 (aN ((M.drop (64*q)).take 64) 64) (b9 F0 (M.take (64*q))).s a).b)),(9,.val (bf (c8 (aN ((M.drop (64*q)).take 64) 64) (b9 F0 (M.take (64*q))).s a).c)),(10,.val (bf (c8 (aN ((M.drop (64*q)).take 64) 64) (b9 F0 (M.take (64*q))).s a).d)),(11,.val (bf (c8 (aN ((M.drop (64*q)).take 64) 64) (b9 F0 (M.take (64*q))).s a).e)),(12,.val (bf (c8 (aN ((M.drop (64*q)).take 64) 64) (b9 F0 (M.take (64*q))).s a).f)),(13,.val (bf (c8 (aN ((M.drop (64*q)).take 64) 64) (b9 F0 (M.take (64*q))).s a).g)),(14,.val (bf (c8 (aN ((M.drop (64*q)).take 64) 64) (b9 F0 (M.take (64*q))).s a).h)),(15,.val (nI a))]) (fun a=>[some (cl bC (List.replicate 32 0)),some (cl wC (b9 F0 (M.take (64*q))).s.l),some (cl wC (aN ((M.drop (64*q)).take 64) 64))]) (fun a=>a≤64) (fun a=>64 - a) (0) ?_ ?le_2 ?hh_2 ?bd_2
  case hh_2=>exact rfl
  case le_2=>exact LT
  . omega
  rintro i hi
  refine ae fun K5 hK5=>?_
  refine aa hcx [] _ [] rfl rfl rfl ?_ cu
  refine bq rfl (fun hc52=>?_) (fun hc52=>?_)
  ·
   refine Tr.skip ?_
   refine hK5 _ ?_
   refine Tr.k [2,3,4,5,6,7,8,9,10,11,12,13,14,15] ?_
   refine ae fun K6 hK6=>?_
   refine Tr.blk ?_
   refine ce hcx dR [1000081] _ [] rfl rfl rfl rfl ?_ Ar
   refine Tr.k [2,3,4,5,6,7,8,9,10,11,12,13,15,16] ?_
   refine aa hcx [1000101] _ [] rfl rfl rfl ?_ cu
   refine Tr.k [2,3,4,5,6,7,8,9,10,11,12,13,15,16,17] ?_
   refine aa hcx [1000102] _ [] rfl rfl rfl ?_ cu
   refine aa hcx [1000103] _ [] rfl rfl rfl ?_ cu
   refine aa hcx [1000104] _ [] rfl rfl rfl ?_ cu
   refine aa hcx [1000107] _ [] rfl rfl rfl ?_ cu
   refine Tr.k [2,3,4,5,6,7,8,9,11,12,13,14,15,16,17] ?_
   refine aa hcx [1000108] _ [] rfl rfl rfl ?_ cu
   refine aa hcx [1000109] _ [] rfl rfl rfl ?_ cu
   refine aa hcx [1000110] _ [] rfl rfl rfl ?_ cu
   refine br hcx [1000113] _ [] rfl rfl rfl ?_ cu
   refine hK6 _ ?_
   refine Tr.k [2,3,4,5,6,7,8,9,10,11,12,13,14,15] ?_
   refine br hcx [1000054] _ [] rfl rfl rfl ?_ cu
   exact ⟨i+1,⟨by omega,O1⟩,LT,rfl⟩
  obtain rfl:i=64:=by omega
  refine Tr.exit ?_
  refine hK4 _ ?_
  refine Tr.k [2,3,4,5,7,8,9,10,11,12,13,14] ?_
  refine br hcx [] _ [] rfl rfl rfl ?_ cu
  refine hK3 _ ?_
  refine Tr.k [2,3,4,5] ?_
  refine Jw hcx 2 (by decide) ?_ ?_ ?_
  . simp only[yX,oa,go_sem,Bool.true_and] <;>decide
  . simp only[List.take_succ_cons,List.take_zero,yY,vO,j1,go_sem,Bool.true_and] <;>decide
  simp only[List.take_succ_cons,List.take_zero]
  refine br hcx [1000028] _ [] rfl rfl rfl ?_ cu
  exact ⟨q+1,⟨by omega,O1⟩,LT,by dsimp only;rw[Cw M q (by omega)];rfl⟩
 obtain rfl:q=Q:=by omega
 rw[show 64*q=M.length by omega,List.take_length]
 refine Tr.exit ?_
 refine hK1 _ ?_
 refine aa hcx [] _ [none] rfl rfl rfl ?_ cu
 refine ae fun K7 hK7=>?_
 refine aa hcx [] _ [] rfl rfl rfl ?_ cu
 refine Tr.k [2,3,18,19] ?_
 refine Tr.blk ?_
 refine aX (α:=Nat) (fun a=>[(2,?v2_3),(3,?v3_3),(18,?v18_3),(19,.val (nI a))]) (fun a=>[some (cl bC (List.replicate 32 0)),some (cl wC (b9 F0 M).s.l),some (cl bC (l3 (b9 F0 M).s a++List.replicate (32 - a) 0))]) (fun a=>a≤32) (fun a=>32 - a) (0) ?_ ?le_3 ?hh_3 ?bd_3
 case hh_3=>exact rfl
 case le_3=>exact LT
 . omega
 rintro i hi
 refine ae fun K8 hK8=>?_
 refine aa hcx [] _ [] rfl rfl rfl ?_ cu
 refine bq rfl (fun hc148=>?_) (fun hc148=>?_)
 ·
  refine Tr.skip ?_
  refine hK8 _ ?_
  refine ae fun K9 hK9=>?_
  refine Tr.blk ?_
  refine br hcx [] _ [] rfl rfl rfl ?_ cu
  refine hK9 _ ?_
  refine br hcx [1000150] _ [] rfl rfl rfl ?_ cu
  exact ⟨i+1,⟨by omega,O1⟩,LT,by dsimp only;rw[gJ _ _ _ _ _ (eX _ _) hc148,←ux _ i hc148];rfl⟩
 obtain rfl:i=32:=by omega
 refine Tr.exit ?_
 refine hK7 _ ?_
 refine aa hcx [] _ [] rfl rfl rfl ?_ cu
 exact Tr.ret NH
theorem hJ {p:Prop}(e:p:=by intro KZ hZ;simp -implicitDefEqProofs (disch:=first|omega| (simp only[go_sem,lA,lD,lT,hl32,hl16] <;>omega) |decide) only[go_sem,↓reduceIte,Nat.reduceEqDiff,reduceCtorEq,Nat.reduceLT,Nat.reduceBEq,Nat.reduceAdd,h94,kz,hy];exact hZ):p:=e
theorem NI {p:Prop}(e:p:=by simp -implicitDefEqProofs (disch:=first|omega| (simp only[go_sem,lA,lD,lT,hl32,hl16] <;>omega) |decide) only[go_sem,↓reduceIte,Nat.reduceEqDiff,reduceCtorEq];all_goals (simp)):p:=e
theorem Vy {gl:Nat→C}{M:Nat}{pu:Nat→List C→Option C}(hcx:CxOK (ao gl M pu))(h94:∀b:List UInt8,b.length< 35184372088832→pu 94 [sl bC .no b] =some (.agg (cl bC (eA b))))(b:List UInt8)(hb:b.length< 35184372088832):FC Tryd.prog gl 64 [sl bC .no b] [] (.agg (cl bC ((eA b).take 16))) []:=by
 replace hcx:=hcx.reN (M:=19)
 refine aP (cx:=ao gl 19 pu) (rs:=[.cell 2 29]) rfl Tryd.func64 rfl rfl rfl (by simp only[List.length_cons,List.length_nil];decide) (by simp only[go_sem]) ?_
 simp only[bQ,go_sem]
 have hy:=True.intro
 have hl32:=wh b
 have hl16: ((eA b).take 16).length=16:=by simp[hl32]
 refine aa hcx [] _ [none] rfl rfl rfl ?_ hJ
 refine aa hcx [] _ [none] rfl rfl rfl ?_ hJ
 refine aa hcx [] _ [none] rfl rfl rfl ?_ hJ
 refine ae fun K1 hK1=>?_
 refine aa hcx [] _ [] rfl rfl rfl ?_ hJ
 refine Tr.k [2,3,4,5] ?_
 refine Tr.blk ?_
 refine aX (α:=Nat) (fun a=>[(2,?v2_1),(3,?v3_1),(4,?v4_1),(5,.val (nI a))]) (fun a=>[some (cl bC (List.replicate 16 0)),some (cl bC (eA b)),some (cl bC ((eA b).take a++List.replicate (16 - a) 0))]) (fun a=>a≤16) (fun a=>16 - a) (0) ?_ ?le_1 ?hh_1 ?bd_1
 case hh_1=>exact rfl
 case le_1=>exact LT
 . omega
 rintro i hi
 refine ae fun K2 hK2=>?_
 refine aa hcx [] _ [] rfl rfl rfl ?_ hJ
 refine bq rfl (fun hc10=>?_) (fun hc10=>?_)
 ·
  refine Tr.skip ?_
  refine hK2 _ ?_
  refine ae fun K3 hK3=>?_
  refine Tr.blk ?_
  refine br hcx [] _ [] rfl rfl rfl ?_ hJ
  refine hK3 _ ?_
  refine br hcx [1000012] _ [] rfl rfl rfl ?_ hJ
  exact ⟨i+1,⟨by omega,O1⟩,LT,by dsimp only;rw[gJ _ _ _ _ _ (by rw[List.length_take];omega) hc10,Cs _ _ _ _ (by omega)] <;>rfl⟩
 obtain rfl:i=16:=by omega
 refine Tr.exit ?_
 refine hK1 _ ?_
 refine aa hcx [] _ [] rfl rfl rfl ?_ hJ
 exact Tr.ret NI
theorem jb {p:Prop}(e:p:=by intro KZ hZ;simp -implicitDefEqProofs (disch:=first|omega| (simp only[go_sem,lA,lD,lT,hlp1,hlp2] <;>omega) |decide) only[go_sem,↓reduceIte,Nat.reduceEqDiff,reduceCtorEq,Nat.reduceLT,Nat.reduceBEq,Nat.reduceAdd,h95,hy];exact hZ):p:=e
theorem NJ {p:Prop}(e:p:=by simp -implicitDefEqProofs (disch:=first|omega| (simp only[go_sem,lA,lD,lT,hlp1,hlp2] <;>omega) |decide) only[go_sem,↓reduceIte,Nat.reduceEqDiff,reduceCtorEq];all_goals (rw[List.take_length])):p:=e
theorem Vz {gl:Nat→C}{M:Nat}{pu:Nat→List C→Option C}(hcx:CxOK (ao gl M pu))(h95:∀s:List UInt8,s.length< 70368744177664→pu 95 [.val (str s)] =some (sl bC (.own 1) (wb s)))(tag:Int)(parts:List (List UInt8))(hl: (bU tag parts).length< 1099511627776):FC Tryd.prog gl 65 [.val (.int .i64 tag),sl sC .no parts] [] (sl bC (.own 1) (bU tag parts)) []:=by
 replace hcx:=hcx.reN (M:=24)
 refine aP (cx:=ao gl 24 pu) (rs:=[.tmp 4]) rfl Tryd.func65 rfl rfl rfl (by simp only[List.length_cons,List.length_nil];decide) (by simp only[go_sem]) ?_
 simp only[bQ,go_sem]
 have hy:=True.intro
 have hlp:=nV tag parts hl
 have hlp1:=hl
 have hpl:=rM tag parts hl
 have hlp2:=True.intro
 refine aa hcx [] _ [] rfl rfl rfl ?_ jb
 refine aa hcx [1000009] _ [] rfl rfl rfl ?_ jb
 refine ae fun K1 hK1=>?_
 refine aa hcx [] _ [] rfl rfl rfl ?_ jb
 refine Tr.k [1,5,6] ?_
 refine Tr.blk ?_
 refine aX (α:=Nat) (fun a=>[(1,?v1_1),(5,sl bC (.own 1) (bU tag (parts.take a))),(6,.val (nI a))]) (fun a=>?h_1) (fun a=>a≤parts.length) (fun a=>parts.length - a) (0) ?_ ?le_1 ?hh_1 ?bd_1
 case hh_1=>exact rfl
 case le_1=>(simp only[bJ,bc,↓bG,↓reduceIte,Nat.reduceEqDiff,aY,bu,aZ,bv,bz,and_true,true_and];all_goals (repeat' first|exact CLe.refl _|exact True.intro| (refine aW ?_;first|rfl| (simp only[List.take_zero];done)) |exact bN (by omega) |exact aO (by omega) |exact bd (by omega) |exact bA (by omega) |with_reducible apply And.intro));all_goals (exact gR (by simp[bU]))
 . omega
 rintro i hi
 refine ae fun K2 hK2=>?_
 refine aa hcx [] _ [] rfl rfl rfl ?_ jb
 refine bq rfl (fun hc13=>?_) (fun hc13=>?_)
 ·
  obtain ⟨hlp1,hlp2⟩:=hlp i hc13
  refine Tr.skip ?_
  refine hK2 _ ?_
  refine ae fun K3 hK3=>?_
  refine Tr.blk ?_
  refine br hcx [16,1000022] _ [] rfl rfl rfl ?_ jb
  refine hK3 _ ?_
  refine br hcx [1000015] _ [] rfl rfl rfl ?_ jb
  refine ⟨i+1,⟨by omega,O1⟩,?_,rfl⟩
  (simp only[bJ,bc,↓bG,↓reduceIte,Nat.reduceEqDiff,aY,bu,aZ,bv,bz,and_true,true_and];all_goals (repeat' first|exact CLe.refl _|exact True.intro| (refine aW ?_;first|rfl| (simp only[List.take_zero];done)) |exact bN (by omega) |exact aO (by omega) |exact bd (by omega) |exact bA (by omega) |with_reducible apply And.intro))
  all_goals (refine du ?_;rw[ot tag parts i hc13])
 obtain rfl:i=parts.length:=by omega
 refine Tr.exit ?_
 refine hK1 _ ?_
 refine aa hcx [1000023] _ [] rfl rfl rfl ?_ jb
 exact Tr.ret NJ
end Go.Sx
namespace Go.Sx
open Go.RowKit Go.Proofs
end Go.Sx
namespace Go.Sx
open Go.RowKit Go.Proofs
theorem Pv {α:Type}[Inhabited α](l:List α)(i:Nat)(h:i< l.length):gt l i∈l:=by
 simp[gt,List.getD,List.getElem?_eq_getElem h]
theorem ms (n:Nat)(h:n< 18446744073709551616): (co (n:Int)).length≤9:=by
 unfold co
 rw[if_pos (by omega)]
 have:=fP 8 n (by simpa using h)
 simp;omega
end Go.Sx
namespace Go.Sx
end Go.Sx
namespace Go.Sx
end Go.Sx
namespace Go.Sx
end Go.Sx
namespace Go.Sx
end Go.Sx
namespace Go.Sx
open Go.RowKit
section
variable (a1 b1:Nat) (z1:List Value)
theorem Po (x y:Array TypeId)(v:Bool)(xs:List C):sd (some ⟨.func x y v,a1,b1,z1⟩) xs= (dA xs 0).map vp:=rfl
end
theorem EM (o:Option (List C))(h:Hp):Hp.mp (o::h) 0=ec o:=rfl
theorem EN (o:Option (List C))(h:Hp)(n:Nat):Hp.mp (o::h) (n+1) =Hp.mp h n:=rfl
attribute [go_sem] Po EM EN
end Go.Sx
namespace Go.Sx
open Go.RowKit
end Go.Sx
namespace Go.Sx
open Go.RowKit
def EO (t n:Nat):Option Nat→C
 |some j=> .bt j t n
 |none=> .top
theorem qf (ρ:List Nat)(b t n:Nat):bn ρ (.bt b t n) =EO t n (da ρ 0 b):=by simp only[bn];cases da ρ 0 b<;>rfl
theorem jI (t n j:Nat):EO t n (some j) = .bt j t n:=rfl
theorem jJ (t n:Nat):EO t n none= .top:=rfl
def EP:Option Nat→C
 |some j=> .mp j
 |none=> .top
theorem qg (ρ:List Nat)(b:Nat):bn ρ (.mp b) =EP (da ρ 0 b):=by simp only[bn];cases da ρ 0 b<;>rfl
theorem jK (j:Nat):EP (some j) = .mp j:=rfl
theorem jL:EP none= .top:=rfl
section
variable (cx:Cx) (apps:List Nat) (dsts:List (Option Nat)) (l:List Oper) (id':Nat) (d:Option Nat) (e:List (Nat×C)) (h:Hp) (fs:List FP) (K:List FP→St→Prop)
def y7 (b off:Nat)(cells:List C)(o:Option C):Prop:=match o with
 |none=>False
 |some x=>run cx apps dsts l id' (eD d x e) (h.set b (some (cells.set off x.noR))) ((3,b)::fs) K
theorem B4 (b off:Nat)(cells:List C):AP cx apps dsts l id' d e h fs K b off (some cells) =y7 cx apps dsts l id' d e h fs K b off cells (cells[off]?):=rfl
theorem B5 (b off:Nat)(cells:List C)(x:C):y7 cx apps dsts l id' d e h fs K b off cells (some x) =run cx apps dsts l id' (eD d x e) (h.set b (some (cells.set off x.noR))) ((3,b)::fs) K:=rfl
end
@[congr] theorem SJ {cx:Cx} {apps:List Nat} {dsts:List (Option Nat)} {l:List Oper} {id':Nat} {d:Option Nat} {e:List (Nat×C)} {h:Hp} {fs:List FP} {K:List FP→St→Prop} {b off:Nat} {cells:List C} {p p':Option C} (hp:p=p'):
   y7 cx apps dsts l id' d e h fs K b off cells p=y7 cx apps dsts l id' d e h fs K b off cells p':=by rw[hp]
attribute [go_sem] B4 B5
end Go.Sx
