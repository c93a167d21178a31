/-
   And what follows.
-/
import Derived.Test.YtmoaeemdlompaaaDoorPal
import Derived.Test.YtmoaeemdlompaaaDoorPaj
import Derived.Test.YtmoaeemdlompaaaDoorPak
set_option linter.unusedSimpArgs false
set_option linter.unusedVariables false
namespace Go.Sx
open Go.RowKit Go.Proofs
set_option maxRecDepth 100000
set_option maxHeartbeats 8000000
theorem dW {p:Prop} (e:p:=by intro KZ hZ;simp -implicitDefEqProofs (disch:=first|omega| (simp only[go_sem,lA,lD,lT] <;>omega) |decide) only[go_sem,↓reduceIte,Nat.reduceEqDiff,reduceCtorEq,Nat.reduceLT,Nat.reduceBEq,Nat.reduceAdd,hy];exact hZ) :p:=e
theorem zf {p:Prop} (e:p:=by simp -implicitDefEqProofs (disch:=first|omega| (simp only[go_sem,lA,lD,lT] <;>omega) |decide) only[go_sem,↓reduceIte,Nat.reduceEqDiff,reduceCtorEq];all_goals (rw[List.take_of_length_le (by simp[gi])];rfl)) :p:=e
theorem WZ {gl:Nat→C} {M:Nat} {pu:Nat→List C→Option C} (hcx:CxOK (aO gl M pu)) (m:Nat) (hm:m< 9223372036854775808) :FC Tryd.prog gl 39 [.val (nI m)] [] (sl bC (.own 1) (wI m 0)) [] :=by
 replace hcx:=hcx.reN (M:=47)
 refine bZ (cx:=aO gl 47 pu) (rs:= [.tmp 2]) rfl Tryd.func39 rfl rfl rfl (by simp only[List.length_cons,List.length_nil];decide) (by simp only[go_sem]) ?_
 simp only[cO,go_sem]
 have hy:=True.intro
 have hk8: (le m).length≤8:=fm 8 m (by omega)
 refine aa hcx [] _ [] rfl rfl rfl ?_ dW
 refine Tr.scope ?_
 refine aa hcx [1000009] _ [] rfl rfl rfl ?_ dW
 refine ae fun K1 hK1=> ?_
 refine aa hcx [] _ [] rfl rfl rfl ?_ dW
 refine wn rfl ((decide_eq_false (by omega))) ?_
 refine Tr.skip ?_
 refine hK1 _ ?_
 refine aa hcx [] _ [] rfl rfl rfl ?_ dW
 refine ae fun K2 hK2=> ?_
 refine Tr.label ?_
 refine hK2 _ ?_
 refine Tr.k [3,4,5] ?_
 refine ae fun K3 hK3=> ?_
 refine Tr.blk ?_
 refine cm (α:=Nat) (fun a=> [(3,?v3_1),(4,?v4_1),(5,.val (nI a))]) (fun a=> ?h_1) (fun a=>a≤8∧m< 256 ^ a) (fun a=>a) (8) ?_ ?le_1 ?hh_1 ?bd_1
 case hh_1=>exact rfl
 case le_1=>exact LT
 · exact ⟨by omega,by omega⟩
 rintro k ⟨hk,hmk⟩
 refine ae fun K4 hK4=> ?_
 refine aa hcx [] _ [] rfl rfl rfl ?_ dW
 refine bS rfl (fun hc15=> ?_) (fun hc15=> ?_)
 ·
  refine Tr.skip ?_
  refine hK4 _ ?_
  refine Tr.blk ?_
  refine ae fun K5 hK5=> ?_
  refine aa hcx [] _ [] rfl rfl rfl ?_ dW
  refine bS rfl (fun hc21=> ?_) (fun hc21=> ?_)
  ·
   have hkk:=p8 m k hmk (.inr hc21)
   subst hkk
   clear hc21 hmk hk hc15
   refine Tr.exit ?_
   refine hK3 _ ?_
   refine aa hcx [1000029] _ [] rfl rfl rfl ?_ dW
   refine ae fun K6 hK6=> ?_
   have hy:= @iu
   refine aa hcx [1000031] _ [] rfl rfl rfl ?_ dW
   refine Tr.k [3,4,6,7] ?_
   refine Tr.blk ?_
   refine cm (α:=Nat) (fun a=> [(3,?v3_2),(4,?v4_2),(6,sl bC (.own 1) ((UInt8.ofNat (128+(le m).length) ^^^ UInt8.ofNat 0) :: ((be m (le m).length).map (· ^^^ UInt8.ofNat 0)).take a)),(7,.val (.int .i64 (((le m).length:Int) - 1 - (a:Int))))]) (fun a=> ?h_2) (fun a=>a≤(le m).length) (fun a=> (le m).length - a) (0) ?_ ?le_2 ?hh_2 ?bd_2
   case hh_2=>exact rfl
   case le_2=> (simp only[bE,aP,↓bD,↓reduceIte,Nat.reduceEqDiff,aE,aQ,aF,aR,aS,and_true,true_and];all_goals (repeat' first|exact CLe.refl _|exact True.intro| (refine bR ?_;first|rfl| (simp only[List.take_zero];done)) |exact cH (by omega) |exact b9 (by omega) |exact cu (by omega) |exact cw (by omega) |with_reducible apply And.intro));all_goals first|exact jO (by simp) |exact b9 (by omega)
   · omega
   rintro a ha
   refine ae fun K7 hK7=> ?_
   have hy:=True.intro
   refine aa hcx [] _ [] rfl rfl rfl ?_ dW
   refine bS rfl (fun hc33=> ?_) (fun hc33=> ?_)
   ·
    refine Tr.skip ?_
    refine hK7 _ ?_
    refine ae fun K8 hK8=> ?_
    refine Tr.blk ?_
    refine bG hcx [36,1000045] _ [] rfl rfl rfl ?_ dW
    refine hK8 _ ?_
    refine bG hcx [1000035] _ [] rfl rfl rfl ?_ dW
    refine ⟨a+1,⟨by omega,O1⟩,?_,rfl⟩
    (simp only[bE,aP,↓bD,↓reduceIte,Nat.reduceEqDiff,aE,aQ,aF,aR,aS,and_true,true_and];all_goals (repeat' first|exact CLe.refl _|exact True.intro| (refine bR ?_;first|rfl| (simp only[List.take_zero];done)) |exact cH (by omega) |exact b9 (by omega) |exact cu (by omega) |exact cw (by omega) |with_reducible apply And.intro))
    all_goals first|exact CLe.refl _|exact b9 (by omega) | (refine dL ?_;rw[←p9 m _ a (by omega),show (((8:Nat) :Int)*(((le m).length:Int) - 1 - (a:Int))).toNat=8*((le m).length - 1 - a) by omega];try rfl)
   obtain rfl:a= (le m).length:=by omega
   refine Tr.exit ?_
   refine hK6 _ ?_
   refine aa hcx [1000046] _ [] rfl rfl rfl ?_ dW
   exact Tr.ret zf
  refine Tr.skip ?_
  refine hK5 _ ?_
  refine bG hcx [1000023] _ [] rfl rfl rfl ?_ dW
  refine ⟨k - 1,⟨⟨by omega,y8 m k hc15 hc21⟩,O1⟩,?_,rfl⟩
  (simp only[bE,aP,↓bD,↓reduceIte,Nat.reduceEqDiff,aE,aQ,aF,aR,aS,and_true,true_and];all_goals (repeat' first|exact CLe.refl _|exact True.intro| (refine bR ?_;first|rfl| (simp only[List.take_zero];done)) |exact cH (by omega) |exact b9 (by omega) |exact cu (by omega) |exact cw (by omega) |with_reducible apply And.intro))
  all_goals first|exact CLe.refl _|exact b9 (by omega) |exact cH (by omega) |exact cw (by omega) |exact cu (by omega)
 have hkk:=p8 m k hmk (.inl hc15)
 subst hkk
 clear hc15 hmk hk
 refine Tr.exit ?_
 refine hK3 _ ?_
 refine aa hcx [1000029] _ [] rfl rfl rfl ?_ dW
 refine ae fun K9 hK9=> ?_
 have hy:= @iu
 refine aa hcx [1000031] _ [] rfl rfl rfl ?_ dW
 refine Tr.k [3,4,6,7] ?_
 refine Tr.blk ?_
 refine cm (α:=Nat) (fun a=> [(3,?v3_3),(4,?v4_3),(6,sl bC (.own 1) ((UInt8.ofNat (128+(le m).length) ^^^ UInt8.ofNat 0) :: ((be m (le m).length).map (· ^^^ UInt8.ofNat 0)).take a)),(7,.val (.int .i64 (((le m).length:Int) - 1 - (a:Int))))]) (fun a=> ?h_3) (fun a=>a≤(le m).length) (fun a=> (le m).length - a) (0) ?_ ?le_3 ?hh_3 ?bd_3
 case hh_3=>exact rfl
 case le_3=> (simp only[bE,aP,↓bD,↓reduceIte,Nat.reduceEqDiff,aE,aQ,aF,aR,aS,and_true,true_and];all_goals (repeat' first|exact CLe.refl _|exact True.intro| (refine bR ?_;first|rfl| (simp only[List.take_zero];done)) |exact cH (by omega) |exact b9 (by omega) |exact cu (by omega) |exact cw (by omega) |with_reducible apply And.intro));all_goals first|exact jO (by simp) |exact b9 (by omega)
 · omega
 rintro a ha
 refine ae fun K10 hK10=> ?_
 have hy:=True.intro
 refine aa hcx [] _ [] rfl rfl rfl ?_ dW
 refine bS rfl (fun hc33=> ?_) (fun hc33=> ?_)
 ·
  refine Tr.skip ?_
  refine hK10 _ ?_
  refine ae fun K11 hK11=> ?_
  refine Tr.blk ?_
  refine bG hcx [36,1000045] _ [] rfl rfl rfl ?_ dW
  refine hK11 _ ?_
  refine bG hcx [1000035] _ [] rfl rfl rfl ?_ dW
  refine ⟨a+1,⟨by omega,O1⟩,?_,rfl⟩
  (simp only[bE,aP,↓bD,↓reduceIte,Nat.reduceEqDiff,aE,aQ,aF,aR,aS,and_true,true_and];all_goals (repeat' first|exact CLe.refl _|exact True.intro| (refine bR ?_;first|rfl| (simp only[List.take_zero];done)) |exact cH (by omega) |exact b9 (by omega) |exact cu (by omega) |exact cw (by omega) |with_reducible apply And.intro))
  all_goals first|exact CLe.refl _|exact b9 (by omega) | (refine dL ?_;rw[←p9 m _ a (by omega),show (((8:Nat) :Int)*(((le m).length:Int) - 1 - (a:Int))).toNat=8*((le m).length - 1 - a) by omega];try rfl)
 obtain rfl:a= (le m).length:=by omega
 refine Tr.exit ?_
 refine hK9 _ ?_
 refine aa hcx [1000046] _ [] rfl rfl rfl ?_ dW
 exact Tr.ret zf
theorem dR {p:Prop} (e:p:=by intro KZ hZ;simp -implicitDefEqProofs (disch:=first|omega| (simp only[go_sem,lA,lD,lT] <;>omega) |decide) only[go_sem,↓reduceIte,Nat.reduceEqDiff,reduceCtorEq,Nat.reduceLT,Nat.reduceBEq,Nat.reduceAdd,em,hy];exact hZ) :p:=e
theorem zg {p:Prop} (e:p:=by simp -implicitDefEqProofs (disch:=first|omega| (simp only[go_sem,lA,lD,lT] <;>omega) |decide) only[go_sem,↓reduceIte,Nat.reduceEqDiff,reduceCtorEq];all_goals (rw[List.take_of_length_le (by simp[gi])];rfl)) :p:=e
theorem W0 {gl:Nat→C} {M:Nat} {pu:Nat→List C→Option C} (hcx:CxOK (aO gl M pu)) (m:Nat) (hm:m< 9223372036854775808) :FC Tryd.prog gl 39 [.val (.int .i64 (-1 - (m:Int)))] [] (sl bC (.own 1) (wI m 255)) [] :=by
 replace hcx:=hcx.reN (M:=47)
 refine bZ (cx:=aO gl 47 pu) (rs:= [.tmp 2]) rfl Tryd.func39 rfl rfl rfl (by simp only[List.length_cons,List.length_nil];decide) (by simp only[go_sem]) ?_
 simp only[cO,go_sem]
 have hy:=True.intro
 have hk8: (le m).length≤8:=fm 8 m (by omega)
 have em:18446744073709551615 - ((-1 - (m:Int)) % 18446744073709551616).toNat=m:=by omega
 refine aa hcx [] _ [] rfl rfl rfl ?_ dR
 refine Tr.scope ?_
 refine aa hcx [1000009] _ [] rfl rfl rfl ?_ dR
 refine ae fun K1 hK1=> ?_
 refine aa hcx [] _ [] rfl rfl rfl ?_ dR
 refine wm rfl ((decide_eq_true (by omega))) ?_
 refine bG hcx [1000013] _ [] rfl rfl rfl ?_ dR
 refine hK1 _ ?_
 refine aa hcx [] _ [] rfl rfl rfl ?_ dR
 refine ae fun K2 hK2=> ?_
 refine Tr.label ?_
 refine hK2 _ ?_
 refine Tr.k [3,4,5] ?_
 refine ae fun K3 hK3=> ?_
 refine Tr.blk ?_
 refine cm (α:=Nat) (fun a=> [(3,?v3_1),(4,?v4_1),(5,.val (nI a))]) (fun a=> ?h_1) (fun a=>a≤8∧m< 256 ^ a) (fun a=>a) (8) ?_ ?le_1 ?hh_1 ?bd_1
 case hh_1=>exact rfl
 case le_1=>exact LT
 · exact ⟨by omega,by omega⟩
 rintro k ⟨hk,hmk⟩
 refine ae fun K4 hK4=> ?_
 refine aa hcx [] _ [] rfl rfl rfl ?_ dR
 refine bS rfl (fun hc15=> ?_) (fun hc15=> ?_)
 ·
  refine Tr.skip ?_
  refine hK4 _ ?_
  refine Tr.blk ?_
  refine ae fun K5 hK5=> ?_
  refine aa hcx [] _ [] rfl rfl rfl ?_ dR
  refine bS rfl (fun hc21=> ?_) (fun hc21=> ?_)
  ·
   have hkk:=p8 m k hmk (.inr hc21)
   subst hkk
   clear hc21 hmk hk hc15
   refine Tr.exit ?_
   refine hK3 _ ?_
   refine aa hcx [1000029] _ [] rfl rfl rfl ?_ dR
   refine ae fun K6 hK6=> ?_
   have hy:= @iu
   refine aa hcx [1000031] _ [] rfl rfl rfl ?_ dR
   refine Tr.k [3,4,6,7] ?_
   refine Tr.blk ?_
   refine cm (α:=Nat) (fun a=> [(3,?v3_2),(4,?v4_2),(6,sl bC (.own 1) ((UInt8.ofNat (128+(le m).length) ^^^ UInt8.ofNat 255) :: ((be m (le m).length).map (· ^^^ UInt8.ofNat 255)).take a)),(7,.val (.int .i64 (((le m).length:Int) - 1 - (a:Int))))]) (fun a=> ?h_2) (fun a=>a≤(le m).length) (fun a=> (le m).length - a) (0) ?_ ?le_2 ?hh_2 ?bd_2
   case hh_2=>exact rfl
   case le_2=> (simp only[bE,aP,↓bD,↓reduceIte,Nat.reduceEqDiff,aE,aQ,aF,aR,aS,and_true,true_and];all_goals (repeat' first|exact CLe.refl _|exact True.intro| (refine bR ?_;first|rfl| (simp only[List.take_zero];done)) |exact cH (by omega) |exact b9 (by omega) |exact cu (by omega) |exact cw (by omega) |with_reducible apply And.intro));all_goals first|exact jO (by simp) |exact b9 (by omega)
   · omega
   rintro a ha
   refine ae fun K7 hK7=> ?_
   have hy:=True.intro
   refine aa hcx [] _ [] rfl rfl rfl ?_ dR
   refine bS rfl (fun hc33=> ?_) (fun hc33=> ?_)
   ·
    refine Tr.skip ?_
    refine hK7 _ ?_
    refine ae fun K8 hK8=> ?_
    refine Tr.blk ?_
    refine bG hcx [36,1000045] _ [] rfl rfl rfl ?_ dR
    refine hK8 _ ?_
    refine bG hcx [1000035] _ [] rfl rfl rfl ?_ dR
    refine ⟨a+1,⟨by omega,O1⟩,?_,rfl⟩
    (simp only[bE,aP,↓bD,↓reduceIte,Nat.reduceEqDiff,aE,aQ,aF,aR,aS,and_true,true_and];all_goals (repeat' first|exact CLe.refl _|exact True.intro| (refine bR ?_;first|rfl| (simp only[List.take_zero];done)) |exact cH (by omega) |exact b9 (by omega) |exact cu (by omega) |exact cw (by omega) |with_reducible apply And.intro))
    all_goals first|exact CLe.refl _|exact b9 (by omega) | (refine dL ?_;rw[←p9 m _ a (by omega),show (((8:Nat) :Int)*(((le m).length:Int) - 1 - (a:Int))).toNat=8*((le m).length - 1 - a) by omega];try rfl)
   obtain rfl:a= (le m).length:=by omega
   refine Tr.exit ?_
   refine hK6 _ ?_
   refine aa hcx [1000046] _ [] rfl rfl rfl ?_ dR
   exact Tr.ret zg
  refine Tr.skip ?_
  refine hK5 _ ?_
  refine bG hcx [1000023] _ [] rfl rfl rfl ?_ dR
  refine ⟨k - 1,⟨⟨by omega,y8 m k hc15 hc21⟩,O1⟩,?_,rfl⟩
  (simp only[bE,aP,↓bD,↓reduceIte,Nat.reduceEqDiff,aE,aQ,aF,aR,aS,and_true,true_and];all_goals (repeat' first|exact CLe.refl _|exact True.intro| (refine bR ?_;first|rfl| (simp only[List.take_zero];done)) |exact cH (by omega) |exact b9 (by omega) |exact cu (by omega) |exact cw (by omega) |with_reducible apply And.intro))
  all_goals first|exact CLe.refl _|exact b9 (by omega) |exact cH (by omega) |exact cw (by omega) |exact cu (by omega)
 have hkk:=p8 m k hmk (.inl hc15)
 subst hkk
 clear hc15 hmk hk
 refine Tr.exit ?_
 refine hK3 _ ?_
 refine aa hcx [1000029] _ [] rfl rfl rfl ?_ dR
 refine ae fun K9 hK9=> ?_
 have hy:= @iu
 refine aa hcx [1000031] _ [] rfl rfl rfl ?_ dR
 refine Tr.k [3,4,6,7] ?_
 refine Tr.blk ?_
 refine cm (α:=Nat) (fun a=> [(3,?v3_3),(4,?v4_3),(6,sl bC (.own 1) ((UInt8.ofNat (128+(le m).length) ^^^ UInt8.ofNat 255) :: ((be m (le m).length).map (· ^^^ UInt8.ofNat 255)).take a)),(7,.val (.int .i64 (((le m).length:Int) - 1 - (a:Int))))]) (fun a=> ?h_3) (fun a=>a≤(le m).length) (fun a=> (le m).length - a) (0) ?_ ?le_3 ?hh_3 ?bd_3
 case hh_3=>exact rfl
 case le_3=> (simp only[bE,aP,↓bD,↓reduceIte,Nat.reduceEqDiff,aE,aQ,aF,aR,aS,and_true,true_and];all_goals (repeat' first|exact CLe.refl _|exact True.intro| (refine bR ?_;first|rfl| (simp only[List.take_zero];done)) |exact cH (by omega) |exact b9 (by omega) |exact cu (by omega) |exact cw (by omega) |with_reducible apply And.intro));all_goals first|exact jO (by simp) |exact b9 (by omega)
 · omega
 rintro a ha
 refine ae fun K10 hK10=> ?_
 have hy:=True.intro
 refine aa hcx [] _ [] rfl rfl rfl ?_ dR
 refine bS rfl (fun hc33=> ?_) (fun hc33=> ?_)
 ·
  refine Tr.skip ?_
  refine hK10 _ ?_
  refine ae fun K11 hK11=> ?_
  refine Tr.blk ?_
  refine bG hcx [36,1000045] _ [] rfl rfl rfl ?_ dR
  refine hK11 _ ?_
  refine bG hcx [1000035] _ [] rfl rfl rfl ?_ dR
  refine ⟨a+1,⟨by omega,O1⟩,?_,rfl⟩
  (simp only[bE,aP,↓bD,↓reduceIte,Nat.reduceEqDiff,aE,aQ,aF,aR,aS,and_true,true_and];all_goals (repeat' first|exact CLe.refl _|exact True.intro| (refine bR ?_;first|rfl| (simp only[List.take_zero];done)) |exact cH (by omega) |exact b9 (by omega) |exact cu (by omega) |exact cw (by omega) |with_reducible apply And.intro))
  all_goals first|exact CLe.refl _|exact b9 (by omega) | (refine dL ?_;rw[←p9 m _ a (by omega),show (((8:Nat) :Int)*(((le m).length:Int) - 1 - (a:Int))).toNat=8*((le m).length - 1 - a) by omega];try rfl)
 obtain rfl:a= (le m).length:=by omega
 refine Tr.exit ?_
 refine hK9 _ ?_
 refine aa hcx [1000046] _ [] rfl rfl rfl ?_ dR
 exact Tr.ret zg
theorem ee {p:Prop} (e:p:=by intro KZ hZ;simp -implicitDefEqProofs (disch:=first|omega| (simp only[go_sem,lA,lD,lT] <;>omega) |decide) only[go_sem,↓reduceIte,Nat.reduceEqDiff,reduceCtorEq,Nat.reduceLT,Nat.reduceBEq,Nat.reduceAdd,hy];exact hZ) :p:=e
theorem L1 {p:Prop} (e:p:=by simp -implicitDefEqProofs (disch:=first|omega| (simp only[go_sem,lA,lD,lT] <;>omega) |decide) only[go_sem,↓reduceIte,Nat.reduceEqDiff,reduceCtorEq];all_goals (rw[List.take_of_length_le (by simp)];rw[←ik m];unfold cX;rw[if_pos (by omega)];simp)) :p:=e
theorem W4 {gl:Nat→C} {M:Nat} {pu:Nat→List C→Option C} (hcx:CxOK (aO gl M pu)) (m:Nat) (hm:m< 9223372036854775808) :FC Tryd.prog gl 83 [.val (nI m)] [] (sl bC (.own 1) (wI m 0)) [] :=by
 replace hcx:=hcx.reN (M:=59)
 refine bZ (cx:=aO gl 59 pu) (rs:= [.tmp 2]) rfl Tryd.func83 rfl rfl rfl (by simp only[List.length_cons,List.length_nil];decide) (by simp only[go_sem]) ?_
 simp only[cO,go_sem]
 have hy:=True.intro
 have hk8: (le m).length≤8:=fm 8 m (by omega)
 refine aa hcx [] _ [] rfl rfl rfl ?_ ee
 refine aa hcx [1000009] _ [] rfl rfl rfl ?_ ee
 refine ae fun K1 hK1=> ?_
 refine aa hcx [] _ [] rfl rfl rfl ?_ ee
 refine wn rfl ((decide_eq_false (by omega))) ?_
 refine Tr.skip ?_
 refine hK1 _ ?_
 refine aa hcx [] _ [] rfl rfl rfl ?_ ee
 refine Tr.k [0,3,4] ?_
 refine ae fun K2 hK2=> ?_
 refine Tr.blk ?_
 refine cm (α:= (Nat×List UInt8)) (fun a=> [(0,?v0_1),(3,.val (nI a.1)),(4,sl bC (.own 1) a.2)]) (fun a=> ?h_1) (fun a=>a.1≤m∧a.2++le a.1=le m) (fun a=>a.1) ((m,[])) ?_ ?le_1 ?hh_1 ?bd_1
 case hh_1=>exact rfl
 case le_1=> (simp only[bE,aP,↓bD,↓reduceIte,Nat.reduceEqDiff,aE,aQ,aF,aR,aS,and_true,true_and];all_goals (repeat' first|exact CLe.refl _|exact True.intro| (refine bR ?_;first|rfl| (simp only[List.take_zero];done)) |exact cH (by omega) |exact b9 (by omega) |exact cu (by omega) |exact cw (by omega) |with_reducible apply And.intro));all_goals first|exact cu (by omega) |exact CLe.refl _
 · exact ⟨Nat.le_refl _,rfl⟩
 rintro ⟨q,ds⟩ ⟨hq,hds⟩
 have hdl:ds.length≤8:=by have:=congrArg List.length hds;simp only[List.length_append] at this;omega
 simp only[] at hq hds ⊢
 refine ae fun K3 hK3=> ?_
 refine aa hcx [] _ [] rfl rfl rfl ?_ ee
 refine bS rfl (fun hc15=> ?_) (fun hc15=> ?_)
 ·
  refine Tr.skip ?_
  refine hK3 _ ?_
  refine Tr.blk ?_
  refine aa hcx [16,1000021] _ [] rfl rfl rfl ?_ ee
  refine bG hcx [1000023] _ [] rfl rfl rfl ?_ ee
  refine ⟨(q / 256,ds++[UInt8.ofNat (q % 256)]),⟨⟨by have:=Nat.div_le_self q 256;simp only[];omega,by simp only[] at hds ⊢;rw[←hds,ii q (by omega)];simp⟩,by have:q / 256< q:=Nat.div_lt_self (by omega) (by decide);exact this⟩,?_,rfl⟩
  (simp only[bE,aP,↓bD,↓reduceIte,Nat.reduceEqDiff,aE,aQ,aF,aR,aS,and_true,true_and];all_goals (repeat' first|exact CLe.refl _|exact True.intro| (refine bR ?_;first|rfl| (simp only[List.take_zero];done)) |exact cH (by omega) |exact b9 (by omega) |exact cu (by omega) |exact cw (by omega) |with_reducible apply And.intro))
  all_goals exact CLe.refl _
 obtain rfl:q=0:=by omega
 rw[gY,List.append_nil] at hds
 subst hds
 clear hq hdl
 refine Tr.exit ?_
 refine hK2 _ ?_
 refine aa hcx [1000025] _ [] rfl rfl rfl ?_ ee
 refine aa hcx [] _ [] rfl rfl rfl ?_ ee
 refine ae fun K4 hK4=> ?_
 refine aa hcx [] _ [] rfl rfl rfl ?_ ee
 refine wm rfl ((decide_eq_true (by omega))) ?_
 refine bG hcx [28,1000033] _ [] rfl rfl rfl ?_ ee
 refine hK4 _ ?_
 refine ae fun K5 hK5=> ?_
 have hy:= @iu
 refine aa hcx [1000041] _ [] rfl rfl rfl ?_ ee
 refine Tr.k [0,4,6,7] ?_
 refine Tr.blk ?_
 refine cm (α:=Nat) (fun a=> [(0,?v0_2),(4,?v4_2),(6,sl bC (.own 1) (UInt8.ofNat (128+(le m).length) :: ((le m).reverse.map (fun c=>c)).take a)),(7,.val (.int .i64 (((le m).length:Int) - 1 - (a:Int))))]) (fun a=> ?h_2) (fun a=>a≤(le m).length) (fun a=> (le m).length - a) (0) ?_ ?le_2 ?hh_2 ?bd_2
 case hh_2=>exact rfl
 case le_2=> (simp only[bE,aP,↓bD,↓reduceIte,Nat.reduceEqDiff,aE,aQ,aF,aR,aS,and_true,true_and];all_goals (repeat' first|exact CLe.refl _|exact True.intro| (refine bR ?_;first|rfl| (simp only[List.take_zero];done)) |exact cH (by omega) |exact b9 (by omega) |exact cu (by omega) |exact cw (by omega) |with_reducible apply And.intro));all_goals first|exact jO (by simp) |exact CLe.refl _|exact b9 (by omega) |exact dL (by simp)
 · omega
 rintro a ha
 refine ae fun K6 hK6=> ?_
 have hy:=True.intro
 refine aa hcx [] _ [] rfl rfl rfl ?_ ee
 refine bS rfl (fun hc43=> ?_) (fun hc43=> ?_)
 ·
  refine Tr.skip ?_
  refine hK6 _ ?_
  refine ae fun K7 hK7=> ?_
  refine Tr.blk ?_
  refine aa hcx [1000049] _ [] rfl rfl rfl ?_ ee
  refine ae fun K8 hK8=> ?_
  refine aa hcx [] _ [] rfl rfl rfl ?_ ee
  refine wn rfl ((decide_eq_false (by omega))) ?_
  refine Tr.skip ?_
  refine hK8 _ ?_
  refine bG hcx [54,1000057] _ [] rfl rfl rfl ?_ ee
  refine hK7 _ ?_
  refine bG hcx [1000045] _ [] rfl rfl rfl ?_ ee
  refine ⟨a+1,⟨by omega,O1⟩,?_,rfl⟩
  (simp only[bE,aP,↓bD,↓reduceIte,Nat.reduceEqDiff,aE,aQ,aF,aR,aS,and_true,true_and];all_goals (repeat' first|exact CLe.refl _|exact True.intro| (refine bR ?_;first|rfl| (simp only[List.take_zero];done)) |exact cH (by omega) |exact b9 (by omega) |exact cu (by omega) |exact cw (by omega) |with_reducible apply And.intro))
  all_goals first|exact CLe.refl _|exact b9 (by omega) | (refine dL ?_;rw[←y9 (le m) _ a (by omega),show (((le m).length:Int) - 1 - (a:Int)).toNat= (le m).length - 1 - a by omega];try rfl)
 obtain rfl:a= (le m).length:=by omega
 refine Tr.exit ?_
 refine hK5 _ ?_
 refine aa hcx [1000058] _ [] rfl rfl rfl ?_ ee
 exact Tr.ret L1
theorem dS {p:Prop} (e:p:=by intro KZ hZ;simp -implicitDefEqProofs (disch:=first|omega| (simp only[go_sem,lA,lD,lT] <;>omega) |decide) only[go_sem,↓reduceIte,Nat.reduceEqDiff,reduceCtorEq,Nat.reduceLT,Nat.reduceBEq,Nat.reduceAdd,hy];exact hZ) :p:=e
theorem L2 {p:Prop} (e:p:=by simp -implicitDefEqProofs (disch:=first|omega| (simp only[go_sem,lA,lD,lT] <;>omega) |decide) only[go_sem,↓reduceIte,Nat.reduceEqDiff,reduceCtorEq];all_goals (rw[List.take_of_length_le (by simp)];rw[←m9 m hk8];unfold cX;rw[if_neg (by omega),show (-1 - (-1 - (m:Int))).toNat=m by omega];rfl)) :p:=e
theorem W5 {gl:Nat→C} {M:Nat} {pu:Nat→List C→Option C} (hcx:CxOK (aO gl M pu)) (m:Nat) (hm:m< 9223372036854775808) :FC Tryd.prog gl 83 [.val (.int .i64 (-1 - (m:Int)))] [] (sl bC (.own 1) (wI m 255)) [] :=by
 replace hcx:=hcx.reN (M:=59)
 refine bZ (cx:=aO gl 59 pu) (rs:= [.tmp 2]) rfl Tryd.func83 rfl rfl rfl (by simp only[List.length_cons,List.length_nil];decide) (by simp only[go_sem]) ?_
 simp only[cO,go_sem]
 have hy:=True.intro
 have hk8: (le m).length≤8:=fm 8 m (by omega)
 refine aa hcx [] _ [] rfl rfl rfl ?_ dS
 refine aa hcx [1000009] _ [] rfl rfl rfl ?_ dS
 refine ae fun K1 hK1=> ?_
 refine aa hcx [] _ [] rfl rfl rfl ?_ dS
 refine wm rfl ((decide_eq_true (by omega))) ?_
 refine bG hcx [1000013] _ [] rfl rfl rfl ?_ dS
 refine hK1 _ ?_
 refine aa hcx [] _ [] rfl rfl rfl ?_ dS
 refine Tr.k [0,3,4] ?_
 refine ae fun K2 hK2=> ?_
 refine Tr.blk ?_
 refine cm (α:= (Nat×List UInt8)) (fun a=> [(0,?v0_1),(3,.val (nI a.1)),(4,sl bC (.own 1) a.2)]) (fun a=> ?h_1) (fun a=>a.1≤m∧a.2++le a.1=le m) (fun a=>a.1) ((m,[])) ?_ ?le_1 ?hh_1 ?bd_1
 case hh_1=>exact rfl
 case le_1=> (simp only[bE,aP,↓bD,↓reduceIte,Nat.reduceEqDiff,aE,aQ,aF,aR,aS,and_true,true_and];all_goals (repeat' first|exact CLe.refl _|exact True.intro| (refine bR ?_;first|rfl| (simp only[List.take_zero];done)) |exact cH (by omega) |exact b9 (by omega) |exact cu (by omega) |exact cw (by omega) |with_reducible apply And.intro));all_goals first|exact cu (by omega) |exact CLe.refl _
 · exact ⟨Nat.le_refl _,rfl⟩
 rintro ⟨q,ds⟩ ⟨hq,hds⟩
 have hdl:ds.length≤8:=by have:=congrArg List.length hds;simp only[List.length_append] at this;omega
 simp only[] at hq hds ⊢
 refine ae fun K3 hK3=> ?_
 refine aa hcx [] _ [] rfl rfl rfl ?_ dS
 refine bS rfl (fun hc15=> ?_) (fun hc15=> ?_)
 ·
  refine Tr.skip ?_
  refine hK3 _ ?_
  refine Tr.blk ?_
  refine aa hcx [16,1000021] _ [] rfl rfl rfl ?_ dS
  refine bG hcx [1000023] _ [] rfl rfl rfl ?_ dS
  refine ⟨(q / 256,ds++[UInt8.ofNat (q % 256)]),⟨⟨by have:=Nat.div_le_self q 256;simp only[];omega,by simp only[] at hds ⊢;rw[←hds,ii q (by omega)];simp⟩,by have:q / 256< q:=Nat.div_lt_self (by omega) (by decide);exact this⟩,?_,rfl⟩
  (simp only[bE,aP,↓bD,↓reduceIte,Nat.reduceEqDiff,aE,aQ,aF,aR,aS,and_true,true_and];all_goals (repeat' first|exact CLe.refl _|exact True.intro| (refine bR ?_;first|rfl| (simp only[List.take_zero];done)) |exact cH (by omega) |exact b9 (by omega) |exact cu (by omega) |exact cw (by omega) |with_reducible apply And.intro))
  all_goals exact CLe.refl _
 obtain rfl:q=0:=by omega
 rw[gY,List.append_nil] at hds
 subst hds
 clear hq hdl
 refine Tr.exit ?_
 refine hK2 _ ?_
 refine aa hcx [1000025] _ [] rfl rfl rfl ?_ dS
 refine aa hcx [] _ [] rfl rfl rfl ?_ dS
 refine ae fun K4 hK4=> ?_
 refine aa hcx [] _ [] rfl rfl rfl ?_ dS
 refine wn rfl ((decide_eq_false (by omega))) ?_
 refine bG hcx [34,1000039] _ [] rfl rfl rfl ?_ dS
 refine hK4 _ ?_
 refine ae fun K5 hK5=> ?_
 have hy:= @iu
 refine aa hcx [1000041] _ [] rfl rfl rfl ?_ dS
 refine Tr.k [0,4,6,7] ?_
 refine Tr.blk ?_
 refine cm (α:=Nat) (fun a=> [(0,?v0_2),(4,?v4_2),(6,sl bC (.own 1) (UInt8.ofNat (127 - (le m).length) :: ((le m).reverse.map (fun c=>UInt8.ofNat 255 - c)).take a)),(7,.val (.int .i64 (((le m).length:Int) - 1 - (a:Int))))]) (fun a=> ?h_2) (fun a=>a≤(le m).length) (fun a=> (le m).length - a) (0) ?_ ?le_2 ?hh_2 ?bd_2
 case hh_2=>exact rfl
 case le_2=> (simp only[bE,aP,↓bD,↓reduceIte,Nat.reduceEqDiff,aE,aQ,aF,aR,aS,and_true,true_and];all_goals (repeat' first|exact CLe.refl _|exact True.intro| (refine bR ?_;first|rfl| (simp only[List.take_zero];done)) |exact cH (by omega) |exact b9 (by omega) |exact cu (by omega) |exact cw (by omega) |with_reducible apply And.intro));all_goals first|exact jO (by simp) |exact CLe.refl _|exact b9 (by omega) |exact dL (by simp)
 · omega
 rintro a ha
 refine ae fun K6 hK6=> ?_
 have hy:=True.intro
 refine aa hcx [] _ [] rfl rfl rfl ?_ dS
 refine bS rfl (fun hc43=> ?_) (fun hc43=> ?_)
 ·
  refine Tr.skip ?_
  refine hK6 _ ?_
  refine ae fun K7 hK7=> ?_
  refine Tr.blk ?_
  refine aa hcx [1000049] _ [] rfl rfl rfl ?_ dS
  refine ae fun K8 hK8=> ?_
  refine aa hcx [] _ [] rfl rfl rfl ?_ dS
  refine wm rfl ((decide_eq_true (by omega))) ?_
  refine bG hcx [1000053] _ [] rfl rfl rfl ?_ dS
  refine hK8 _ ?_
  refine bG hcx [54,1000057] _ [] rfl rfl rfl ?_ dS
  refine hK7 _ ?_
  refine bG hcx [1000045] _ [] rfl rfl rfl ?_ dS
  refine ⟨a+1,⟨by omega,O1⟩,?_,rfl⟩
  (simp only[bE,aP,↓bD,↓reduceIte,Nat.reduceEqDiff,aE,aQ,aF,aR,aS,and_true,true_and];all_goals (repeat' first|exact CLe.refl _|exact True.intro| (refine bR ?_;first|rfl| (simp only[List.take_zero];done)) |exact cH (by omega) |exact b9 (by omega) |exact cu (by omega) |exact cw (by omega) |with_reducible apply And.intro))
  all_goals first|exact CLe.refl _|exact b9 (by omega) | (refine dL ?_;rw[←y9 (le m) _ a (by omega),show (((le m).length:Int) - 1 - (a:Int)).toNat= (le m).length - 1 - a by omega];try rfl)
 obtain rfl:a= (le m).length:=by omega
 refine Tr.exit ?_
 refine hK5 _ ?_
 refine aa hcx [1000058] _ [] rfl rfl rfl ?_ dS
 exact Tr.ret L2
theorem DE {p:Prop} (e:p:=by intro KZ hZ;simp -implicitDefEqProofs (disch:=first|omega| (simp only[go_sem,lA,lD,lT] <;>omega) |decide) only[go_sem,↓reduceIte,Nat.reduceEqDiff,reduceCtorEq,Nat.reduceLT,Nat.reduceBEq,Nat.reduceAdd,h39,hy];exact hZ) :p:=e
theorem Sl {p:Prop} (e:p:=by simp -implicitDefEqProofs (disch:=first|omega| (simp only[go_sem,lA,lD,lT] <;>omega) |decide) only[go_sem,↓reduceIte,Nat.reduceEqDiff,reduceCtorEq];all_goals (unfold wb;rw[ik])) :p:=e
theorem aaP {gl:Nat→C} {M:Nat} {pu:Nat→List C→Option C} (hcx:CxOK (aO gl M pu)) (h39: ∀m:Nat,m< 9223372036854775808→pu 39 [.val (nI m)] =some (sl bC (.own 1) (wI m 0))) (s:List UInt8) (hs:s.length< 70368744177664) :FC Tryd.prog gl 74 [.val (str s)] [] (sl bC (.own 1) (wb s)) [] :=by
 replace hcx:=hcx.reN (M:=8)
 refine bZ (cx:=aO gl 8 pu) (rs:= [.tmp 2]) rfl Tryd.func74 rfl rfl rfl (by simp only[List.length_cons,List.length_nil];decide) (by simp only[go_sem]) ?_
 simp only[cO,go_sem]
 have hy:=True.intro
 have hk8: (wI s.length 0).length≤9:=by have:=fm 8 s.length (by omega);simp[wI,gi];omega
 refine aa hcx [] _ [] rfl rfl rfl ?_ DE
 refine aa hcx [5,1000007] _ [] rfl rfl rfl ?_ DE
 exact Tr.ret Sl
theorem DF {p:Prop} (e:p:=by intro KZ hZ;simp -implicitDefEqProofs (disch:=first|omega| (simp only[go_sem,lA,lD,lT] <;>omega) |decide) only[go_sem,↓reduceIte,Nat.reduceEqDiff,reduceCtorEq,Nat.reduceLT,Nat.reduceBEq,Nat.reduceAdd,h83,hy];exact hZ) :p:=e
theorem Sm {p:Prop} (e:p:=by simp -implicitDefEqProofs (disch:=first|omega| (simp only[go_sem,lA,lD,lT] <;>omega) |decide) only[go_sem,↓reduceIte,Nat.reduceEqDiff,reduceCtorEq];all_goals (unfold wb;rw[ik])) :p:=e
theorem aaQ {gl:Nat→C} {M:Nat} {pu:Nat→List C→Option C} (hcx:CxOK (aO gl M pu)) (h83: ∀m:Nat,m< 9223372036854775808→pu 83 [.val (nI m)] =some (sl bC (.own 1) (wI m 0))) (s:List UInt8) (hs:s.length< 70368744177664) :FC Tryd.prog gl 95 [.val (str s)] [] (sl bC (.own 1) (wb s)) [] :=by
 replace hcx:=hcx.reN (M:=9)
 refine bZ (cx:=aO gl 9 pu) (rs:= [.tmp 2]) rfl Tryd.func95 rfl rfl rfl (by simp only[List.length_cons,List.length_nil];decide) (by simp only[go_sem]) ?_
 simp only[cO,go_sem]
 have hy:=True.intro
 have hk8: (wI s.length 0).length≤9:=by have:=fm 8 s.length (by omega);simp[wI,gi];omega
 refine aa hcx [] _ [] rfl rfl rfl ?_ DF
 refine aa hcx [5,1000008] _ [] rfl rfl rfl ?_ DF
 exact Tr.ret Sm
end Go.Sx
namespace Go.Sx
open Go.RowKit Go.Proofs
theorem LK (b:List UInt8) (t:Nat) (h:t< 16) :cd b (t+1) =cd b t++[wd b t] :=by
 simp only[cd,h,if_true]
theorem DC (b:List UInt8) (t:Nat) (h: ¬t< 16) :cd b (t+1) =cd b t++[gt (cd b t) (t - 16)+(rr (gt (cd b t) (t - 15)) 7 ^^^ rr (gt (cd b t) (t - 15)) 18 ^^^ gt (cd b t) (t - 15) >>>3)+gt (cd b t) (t - 7)+
        (rr (gt (cd b t) (t - 2)) 17 ^^^ rr (gt (cd b t) (t - 2)) 19 ^^^ gt (cd b t) (t - 2) >>>10)] :=by
 simp only[cd,h,if_false]
theorem ud {α:Type} (l:List α) (x y:α) (t:Nat) :l++x::List.replicate (63 - t) y= (l++[x])++List.replicate (64 - (t+1)) y:=by
 rw[show 64 - (t+1) =63 - t by omega];simp
end Go.Sx
namespace Go.Sx
open Go.RowKit Go.Proofs
set_option maxRecDepth 100000
set_option maxHeartbeats 8000000
theorem lu {p:Prop} (e:p:=by intro KZ hZ;simp -implicitDefEqProofs (disch:=first|omega| (simp only[go_sem,lA,lD,lT,hh] <;>omega) |decide) only[go_sem,↓reduceIte,Nat.reduceEqDiff,reduceCtorEq,Nat.reduceLT,Nat.reduceBEq,Nat.reduceAdd,hy];exact hZ) :p:=e
theorem Sn {p:Prop} (e:p:=by simp -implicitDefEqProofs (disch:=first|omega| (simp only[go_sem,lA,lD,lT,hh] <;>omega) |decide) only[go_sem,↓reduceIte,Nat.reduceEqDiff,reduceCtorEq];all_goals (rw[List.take_of_length_le (by omega)])) :p:=e
theorem aaR {gl:Nat→C} {M:Nat} {pu:Nat→List C→Option C} (hcx:CxOK (aO gl M pu)) (h:List UInt8) (hh:h.length=16) :FC Tryd.prog gl 84 [.agg (cl bC h)] [] (.val (str h)) [] :=by
 replace hcx:=hcx.reN (M:=17)
 refine bZ (cx:=aO gl 17 pu) (rs:= [.tmp 2]) rfl Tryd.func84 rfl rfl rfl (by simp only[List.length_cons,List.length_nil];decide) (by simp only[go_sem]) ?_
 simp only[cO,go_sem]
 have hy:=True.intro
 refine aa hcx [] _ [none] rfl rfl rfl ?_ lu
 refine aa hcx [] _ [] rfl rfl rfl ?_ lu
 refine ae fun K1 hK1=> ?_
 refine aa hcx [] _ [] rfl rfl rfl ?_ lu
 refine Tr.k [1,3,4] ?_
 refine Tr.blk ?_
 refine cm (α:=Nat) (fun a=> [(1,?v1_1),(3,sl bC (.own 1) (h.take a)),(4,.val (nI a))]) (fun a=> [some (cl bC h)]) (fun a=>a≤16) (fun a=>16 - a) (0) ?_ ?le_1 ?hh_1 ?bd_1
 case hh_1=>exact rfl
 case le_1=>exact LT
 · omega
 rintro i hi
 refine ae fun K2 hK2=> ?_
 refine aa hcx [] _ [] rfl rfl rfl ?_ lu
 refine bS rfl (fun hc6=> ?_) (fun hc6=> ?_)
 ·
  refine Tr.skip ?_
  refine hK2 _ ?_
  refine ae fun K3 hK3=> ?_
  refine Tr.blk ?_
  refine bG hcx [9,1000014] _ [] rfl rfl rfl ?_ lu
  refine hK3 _ ?_
  refine bG hcx [1000008] _ [] rfl rfl rfl ?_ lu
  refine ⟨i+1,⟨by omega,O1⟩,?_,rfl⟩
  (simp only[bE,aP,↓bD,↓reduceIte,Nat.reduceEqDiff,aE,aQ,aF,aR,aS,and_true,true_and];all_goals (repeat' first|exact CLe.refl _|exact True.intro| (refine bR ?_;first|rfl| (simp only[List.take_zero];done)) |exact cH (by omega) |exact b9 (by omega) |exact cu (by omega) |exact cw (by omega) |with_reducible apply And.intro))
  all_goals (refine dL ?_;rw[dO _ _ (by omega)])
 obtain rfl:i=16:=by omega
 refine Tr.exit ?_
 refine hK1 _ ?_
 refine aa hcx [1000016] _ [] rfl rfl rfl ?_ lu
 exact Tr.ret Sn
theorem gm {p:Prop} (e:p:=by intro KZ hZ;simp -implicitDefEqProofs (disch:=first|omega| (simp only[go_sem,lA,lD,lT,jK] <;>omega) |decide) only[go_sem,↓reduceIte,Nat.reduceEqDiff,reduceCtorEq,Nat.reduceLT,Nat.reduceBEq,Nat.reduceAdd,hy];exact hZ) :p:=e
theorem L3 {p:Prop} (e:p:=by simp -implicitDefEqProofs (disch:=first|omega| (simp only[go_sem,lA,lD,lT,jK] <;>omega) |decide) only[go_sem,↓reduceIte,Nat.reduceEqDiff,reduceCtorEq];all_goals (simp[lq])) :p:=e
theorem W6 {gl:Nat→C} {M:Nat} {pu:Nat→List C→Option C} (hcx:CxOK (aO gl M pu)) (b:List UInt8) (hb:b.length< 35184372088832) :FC Tryd.prog gl 108 [sl bC .no b] [] (sl bC (.own 1) (b++lq b.length)) [] :=by
 replace hcx:=hcx.reN (M:=37)
 refine bZ (cx:=aO gl 37 pu) (rs:= [.tmp 2]) rfl Tryd.func108 rfl rfl rfl (by simp only[List.length_cons,List.length_nil];decide) (by simp only[go_sem]) ?_
 simp only[cO,go_sem]
 have hy:=True.intro
 have hz:gj b.length< 64:=Nat.mod_lt _ (by decide)
 refine aa hcx [] _ [] rfl rfl rfl ?_ gm
 refine aa hcx [6,1000008] _ [] rfl rfl rfl ?_ gm
 refine aa hcx [9,1000011] _ [] rfl rfl rfl ?_ gm
 refine Tr.k [0,3] ?_
 refine ae fun K1 hK1=> ?_
 refine Tr.blk ?_
 refine cm (α:=Nat) (fun a=> [(0,?v0_1),(3,sl bC (.own 1) (b++128::List.replicate a 0))]) (fun a=> ?h_1) (fun a=>a≤gj b.length) (fun a=>gj b.length - a) (0) ?_ ?le_1 ?hh_1 ?bd_1
 case hh_1=>exact rfl
 case le_1=> (simp only[bE,aP,↓bD,↓reduceIte,Nat.reduceEqDiff,aE,aQ,aF,aR,aS,and_true,true_and];all_goals (repeat' first|exact CLe.refl _|exact True.intro| (refine bR ?_;first|rfl| (simp only[List.take_zero];done)) |exact cH (by omega) |exact b9 (by omega) |exact cu (by omega) |exact cw (by omega) |with_reducible apply And.intro));all_goals exact dL (by simp)
 · omega
 rintro z hzz
 have hL: (b++128::List.replicate z 0).length=b.length+1+z:=by simp;omega
 refine ae fun K2 hK2=> ?_
 refine aa hcx [] _ [] rfl rfl rfl ?_ gm
 refine bS rfl (fun hc15=> ?_) (fun hc15=> ?_)
 ·
  refine Tr.skip ?_
  refine hK2 _ ?_
  refine Tr.blk ?_
  refine bG hcx [16,1000018] _ [] rfl rfl rfl ?_ gm
  refine ⟨z+1,⟨by unfold gj at*;omega,by unfold gj at*;omega⟩,?_,rfl⟩
  (simp only[bE,aP,↓bD,↓reduceIte,Nat.reduceEqDiff,aE,aQ,aF,aR,aS,and_true,true_and];all_goals (repeat' first|exact CLe.refl _|exact True.intro| (refine bR ?_;first|rfl| (simp only[List.take_zero];done)) |exact cH (by omega) |exact b9 (by omega) |exact cu (by omega) |exact cw (by omega) |with_reducible apply And.intro))
  all_goals (refine dL ?_;rw[←FY z];simp)
 obtain rfl:z=gj b.length:=by unfold gj at*;omega
 refine Tr.exit ?_
 refine hK1 _ ?_
 refine aa hcx [1000022] _ [] rfl rfl rfl ?_ gm
 refine ae fun K3 hK3=> ?_
 refine aa hcx [] _ [] rfl rfl rfl ?_ gm
 refine Tr.k [3,4,5] ?_
 refine Tr.blk ?_
 refine cm (α:=Nat) (fun a=> [(3,sl bC (.own 1) (b++128::List.replicate (gj b.length) 0++mc (8*b.length) a)),(4,?v4_2),(5,.val (nI a))]) (fun a=> ?h_2) (fun a=>a≤8) (fun a=>8 - a) (0) ?_ ?le_2 ?hh_2 ?bd_2
 case hh_2=>exact rfl
 case le_2=> (simp only[bE,aP,↓bD,↓reduceIte,Nat.reduceEqDiff,aE,aQ,aF,aR,aS,and_true,true_and];all_goals (repeat' first|exact CLe.refl _|exact True.intro| (refine bR ?_;first|rfl| (simp only[List.take_zero];done)) |exact cH (by omega) |exact b9 (by omega) |exact cu (by omega) |exact cw (by omega) |with_reducible apply And.intro));all_goals exact dL (by simp[mc])
 · omega
 rintro k hk
 refine ae fun K4 hK4=> ?_
 refine aa hcx [] _ [] rfl rfl rfl ?_ gm
 refine bS rfl (fun hc24=> ?_) (fun hc24=> ?_)
 ·
  refine Tr.skip ?_
  refine hK4 _ ?_
  refine ae fun K5 hK5=> ?_
  refine Tr.blk ?_
  refine bG hcx [27,1000035] _ [] rfl rfl rfl ?_ gm
  refine hK5 _ ?_
  refine bG hcx [1000026] _ [] rfl rfl rfl ?_ gm
  refine ⟨k+1,⟨by omega,O1⟩,?_,rfl⟩
  (simp only[bE,aP,↓bD,↓reduceIte,Nat.reduceEqDiff,aE,aQ,aF,aR,aS,and_true,true_and];all_goals (repeat' first|exact CLe.refl _|exact True.intro| (refine bR ?_;first|rfl| (simp only[List.take_zero];done)) |exact cH (by omega) |exact b9 (by omega) |exact cu (by omega) |exact cw (by omega) |with_reducible apply And.intro))
  all_goals (refine dL ?_;rw[ub];simp)
 obtain rfl:k=8:=by omega
 refine Tr.exit ?_
 refine hK3 _ ?_
 refine aa hcx [1000036] _ [] rfl rfl rfl ?_ gm
 exact Tr.ret L3
theorem iz {p:Prop} (e:p:=by intro KZ hZ;simp -implicitDefEqProofs (disch:=first|omega| (simp only[go_sem,lA,lD,lT,dl,hb] <;>omega) |decide) only[go_sem,↓reduceIte,Nat.reduceEqDiff,reduceCtorEq,Nat.reduceLT,Nat.reduceBEq,Nat.reduceAdd,Nat.reduceSub,Nat.reduceMul,Nat.reduceMod,Int.reduceMod,Int.reduceToNat,Int.reduceNeg,h110,jI,lm,jH,dl,hy];exact hZ) :p:=e
theorem qa {p:Prop} (e:p:=by intro KZ hZ;simp -implicitDefEqProofs (disch:=first|omega| (simp only[go_sem,lA,lD,lT,dl,hb] <;>omega) |decide) only[go_sem,↓reduceIte,Nat.reduceEqDiff,reduceCtorEq,Nat.reduceLT,Nat.reduceBEq,Nat.reduceAdd,Nat.reduceSub,Nat.reduceMul,Nat.reduceMod,Int.reduceMod,Int.reduceToNat,Int.reduceNeg,h110,jI,lm,jH,dl,hy];refine And.intro ?_ hZ;exact rfl) :p:=e
theorem L4 {p:Prop} (e:p:=by simp -implicitDefEqProofs (disch:=first|omega| (simp only[go_sem,lA,lD,lT,dl,hb] <;>omega) |decide) only[go_sem,↓reduceIte,Nat.reduceEqDiff,reduceCtorEq];all_goals (simp)) :p:=e
theorem W7 {gl:Nat→C} {M:Nat} {pu:Nat→List C→Option C} (hcx:CxOK (aO gl M pu)) (h110: ∀x n,n< 32→pu 110 [.val (cB x),.val (nI n)] =some (.val (cB (rr x n)))) (b:List UInt8) (hb:b.length=64) :FC Tryd.prog gl 109 [sl bC .no b] [] (.agg (cl wC (cd b 64))) [] :=by
 replace hcx:=hcx.reN (M:=101)
 refine bZ (cx:=aO gl 101 pu) (rs:= [.cell 2 162]) rfl Tryd.func109 rfl rfl rfl (by simp only[List.length_cons,List.length_nil];decide) (by simp only[go_sem]) ?_
 simp only[cO,go_sem]
 have hy:=True.intro
 refine aa hcx [] _ [none] rfl rfl rfl ?_ iz
 refine aa hcx [] _ [none] rfl rfl rfl ?_ iz
 refine ae fun K1 hK1=> ?_
 refine aa hcx [] _ [] rfl rfl rfl ?_ iz
 refine Tr.k [0,2,3,4] ?_
 refine Tr.blk ?_
 refine cm (α:=Nat) (fun a=> [(0,?v0_1),(2,?v2_1),(3,?v3_1),(4,.val (nI a))]) (fun a=> [some (cl wC (List.replicate 64 0)),some (cl wC (cd b a++List.replicate (64 - a) 0))]) (fun a=>a≤16) (fun a=>16 - a) (0) ?_ ?le_1 ?hh_1 ?bd_1
 case hh_1=>exact rfl
 case le_1=>exact LT
 · omega
 rintro t ht
 refine ae fun K2 hK2=> ?_
 refine aa hcx [] _ [] rfl rfl rfl ?_ iz
 refine bS rfl (fun hc9=> ?_) (fun hc9=> ?_)
 ·
  refine Tr.skip ?_
  refine hK2 _ ?_
  refine Tr.k [0,2,3,4] ?_
  refine ae fun K3 hK3=> ?_
  refine Tr.blk ?_
  refine gK hcx cK [] _ [] rfl rfl rfl rfl ?_ qa
  refine hK3 _ ?_
  refine Tr.k [0,2,3,4] ?_
  refine bG hcx [1000011] _ [] rfl rfl rfl ?_ iz
  exact ⟨t+1,⟨by omega,O1⟩,LT,by dsimp only;rw[LK b t hc9];first|rw[tF] |rw[ud];rfl⟩
 obtain rfl:t=16:=by omega
 refine Tr.exit ?_
 refine hK1 _ ?_
 refine ae fun K4 hK4=> ?_
 refine aa hcx [] _ [] rfl rfl rfl ?_ iz
 refine Tr.k [2,3,5] ?_
 refine Tr.blk ?_
 refine cm (α:=Nat) (fun a=> [(2,?v2_2),(3,?v3_2),(5,.val (nI a))]) (fun a=> [some (cl wC (List.replicate 64 0)),some (cl wC (cd b a++List.replicate (64 - a) 0))]) (fun a=>16≤a∧a≤64) (fun a=>64 - a) (16) ?_ ?le_2 ?hh_2 ?bd_2
 case hh_2=>exact rfl
 case le_2=>exact LT
 · exact ⟨by omega,by omega⟩
 rintro t ht
 refine ae fun K5 hK5=> ?_
 refine aa hcx [] _ [] rfl rfl rfl ?_ iz
 refine bS rfl (fun hc48=> ?_) (fun hc48=> ?_)
 ·
  refine Tr.skip ?_
  refine hK5 _ ?_
  refine ae fun K6 hK6=> ?_
  refine Tr.blk ?_
  refine bH hcx cK [1000067] _ [] rfl rfl rfl rfl ?_ qa
  refine Tr.k [2,3,5,6] ?_
  refine bH hcx cK [1000084] _ [] rfl rfl rfl rfl ?_ qa
  refine Tr.k [2,3,5,6,7] ?_
  refine gK hcx cK [] _ [] rfl rfl rfl rfl ?_ qa
  refine hK6 _ ?_
  refine bG hcx [1000050] _ [] rfl rfl rfl ?_ iz
  exact ⟨t+1,⟨by omega,O1⟩,LT,by dsimp only;rw[DC b t (by omega)];first|rw[tF] |rw[ud] <;>rfl⟩
 obtain rfl:t=64:=by omega
 refine Tr.exit ?_
 refine hK4 _ ?_
 refine aa hcx [] _ [] rfl rfl rfl ?_ iz
 exact Tr.ret L4
end Go.Sx
namespace Go.Sx
open Go.RowKit Go.Proofs
set_option maxRecDepth 100000
set_option maxHeartbeats 8000000
theorem dK {p:Prop} (e:p:=by intro KZ hZ;simp -implicitDefEqProofs (disch:=first|omega| (simp only[go_sem,lA,lD,lT,hMl,hMq,dl,d7,gZ,j7] <;>omega) |decide) only[go_sem,↓reduceIte,Nat.reduceEqDiff,reduceCtorEq,Nat.reduceLT,Nat.reduceBEq,Nat.reduceAdd,hM,h108,h109,h110,DB,hg0,S8.l,lM,hy];exact hZ) :p:=e
theorem DG {p:Prop} (e:p:=by intro KZ hZ;simp -implicitDefEqProofs (disch:=first|omega| (simp only[go_sem,lA,lD,lT,hMl,hMq,dl,d7,gZ,j7] <;>omega) |decide) only[go_sem,↓reduceIte,Nat.reduceEqDiff,reduceCtorEq,Nat.reduceLT,Nat.reduceBEq,Nat.reduceAdd,hM,h108,h109,h110,DB,hg0,S8.l,lM,hy];refine And.intro ?_ hZ;exact rfl) :p:=e
theorem So {p:Prop} (e:p:=by simp -implicitDefEqProofs (disch:=first|omega| (simp only[go_sem,lA,lD,lT,hMl,hMq,dl,d7,gZ,j7] <;>omega) |decide) only[go_sem,↓reduceIte,Nat.reduceEqDiff,reduceCtorEq];all_goals (rw[hsha];simp)) :p:=e
theorem aaS {gl:Nat→C} {M:Nat} {pu:Nat→List C→Option C} (hcx:CxOK (aO gl M pu)) (hg0:gl 0= .kp (cl wC kc)) (h108: ∀b:List UInt8,b.length< 35184372088832→pu 108 [sl bC .no b] =some (sl bC (.own 1) (b++lq b.length))) (h109: ∀b:List UInt8,b.length=64→pu 109 [sl bC .no b] =some (.agg (cl wC (cd b 64)))) (h110: ∀x n,n< 32→pu 110 [.val (cB x),.val (nI n)] =some (.val (cB (rr x n)))) (b:List UInt8) (hb:b.length< 35184372088832) :FC Tryd.prog gl 94 [sl bC .no b] [] (.agg (cl bC (eR b))) [] :=by
 replace hcx:=hcx.reN (M:=164)
 refine bZ (cx:=aO gl 164 pu) (rs:= [.cell 2 141]) rfl Tryd.func94 rfl rfl rfl (by simp only[List.length_cons,List.length_nil];decide) (by simp only[go_sem]) ?_
 simp only[cO,go_sem]
 have hy:=True.intro
 obtain ⟨Q,hQ⟩ :=F7 b
 have hpl:=za b.length
 have hz:gj b.length< 64:=Nat.mod_lt _ (by decide)
 have hsha:=Sj b
 obtain ⟨M,hM⟩ : ∃M,b++lq b.length=M:= ⟨_,rfl⟩
 rw[hM] at hQ hsha
 have hMl:M.length=64*Q:=hQ
 have hMb:M.length< 35184372088932:=by rw[←hM,List.length_append,hpl];omega
 have hMq:=True.intro
 refine aa hcx [] _ [none] rfl rfl rfl ?_ dK
 refine aa hcx [] _ [none] rfl rfl rfl ?_ dK
 refine aa hcx [1000022] _ [] rfl rfl rfl ?_ dK
 refine ae fun K1 hK1=> ?_
 refine aa hcx [] _ [] rfl rfl rfl ?_ dK
 refine Tr.k [2,3,4,5] ?_
 refine Tr.blk ?_
 refine cm (α:=Nat) (fun a=> [(2,?v2_1),(3,?v3_1),(4,?v4_1),(5,.val (nI (64*a)))]) (fun a=> [some (cl bC (List.replicate 32 0)),some (cl wC (dn F0 (M.take (64*a))).s.l)]) (fun a=>a≤Q) (fun a=>Q - a) (0) ?_ ?le_1 ?hh_1 ?bd_1
 case hh_1=>exact by simp only[Nat.mul_zero,List.take_zero];rfl
 case le_1=>exact LT
 · omega
 rintro q hq
 have hMq: ((M.drop (64*q)).take (64*q+64 - 64*q)).length=min 64 (64*Q - 64*q) :=by rw[List.length_take,List.length_drop,hMl];omega
 refine ae fun K2 hK2=> ?_
 refine aa hcx [] _ [] rfl rfl rfl ?_ dK
 refine bS rfl (fun hc26=> ?_) (fun hc26=> ?_)
 ·
  refine Tr.skip ?_
  refine hK2 _ ?_
  refine ae fun K3 hK3=> ?_
  refine Tr.blk ?_
  refine aa hcx [] _ [none] rfl rfl rfl ?_ dK
  refine Tr.k [2,3,4,5,6] ?_
  refine bH hcx cK [1000036,1000038,1000040,1000042,1000044,1000046,1000048,1000050] _ [] rfl rfl rfl rfl ?_ DG
  refine Tr.k [2,3,4,5,6,7,8,9,10,11,12,13,14] ?_
  refine ae fun K4 hK4=> ?_
  refine aa hcx [] _ [] rfl rfl rfl ?_ dK
  refine Tr.k [2,3,4,5,6,7,8,9,10,11,12,13,14,15] ?_
  refine Tr.blk ?_
  refine cm (α:=Nat) (fun a=> [(2,?v2_2),(3,?v3_2),(4,?v4_2),(5,?v5_2),(6,?v6_2),(7,.val (cB (ez (cd ((M.drop (64*q)).take 64) 64) (dn F0 (M.take (64*q))).s a).a)),(8,.val (cB (ez (cd ((M.drop (64*q)).take 64) 64) (dn F0 (M.take (64*q))).s a).b)),(9,.val (cB (ez (cd ((M.drop (64*q)).take 64) 64) (dn F0 (M.take (64*q))).s a).c)),(10,.val (cB (ez (cd ((M.drop (64*q)).take 64) 64) (dn F0 (M.take (64*q))).s a).d)),(11,.val (cB (ez (cd ((M.drop (64*q)).take 64) 64) (dn F0 (M.take (64*q))).s a).e)),(12,.val (cB (ez (cd ((M.drop (64*q)).take 64) 64) (dn F0 (M.take (64*q))).s a).f)),(13,.val (cB (ez (cd ((M.drop (64*q)).take 64) 64) (dn F0 (M.take (64*q))).s a).g)),(14,.val (cB (ez (cd ((M.drop (64*q)).take 64) 64) (dn F0 (M.take (64*q))).s a).h)),(15,.val (nI a))]) (fun a=> [some (cl bC (List.replicate 32 0)),some (cl wC (dn F0 (M.take (64*q))).s.l),some (cl wC (cd ((M.drop (64*q)).take 64) 64))]) (fun a=>a≤64) (fun a=>64 - a) (0) ?_ ?le_2 ?hh_2 ?bd_2
  case hh_2=>exact rfl
  case le_2=>exact LT
  · omega
  rintro i hi
  refine ae fun K5 hK5=> ?_
  refine aa hcx [] _ [] rfl rfl rfl ?_ dK
  refine bS rfl (fun hc52=> ?_) (fun hc52=> ?_)
  ·
   refine Tr.skip ?_
   refine hK5 _ ?_
   refine Tr.k [2,3,4,5,6,7,8,9,10,11,12,13,14,15] ?_
   refine ae fun K6 hK6=> ?_
   refine Tr.blk ?_
   refine bH hcx cK [1000081] _ [] rfl rfl rfl rfl ?_ DG
   refine Tr.k [2,3,4,5,6,7,8,9,10,11,12,13,15,16] ?_
   refine aa hcx [1000101] _ [] rfl rfl rfl ?_ dK
   refine Tr.k [2,3,4,5,6,7,8,9,10,11,12,13,15,16,17] ?_
   refine aa hcx [1000102] _ [] rfl rfl rfl ?_ dK
   refine aa hcx [1000103] _ [] rfl rfl rfl ?_ dK
   refine aa hcx [1000104] _ [] rfl rfl rfl ?_ dK
   refine aa hcx [1000107] _ [] rfl rfl rfl ?_ dK
   refine Tr.k [2,3,4,5,6,7,8,9,11,12,13,14,15,16,17] ?_
   refine aa hcx [1000108] _ [] rfl rfl rfl ?_ dK
   refine aa hcx [1000109] _ [] rfl rfl rfl ?_ dK
   refine aa hcx [1000110] _ [] rfl rfl rfl ?_ dK
   refine bG hcx [1000113] _ [] rfl rfl rfl ?_ dK
   refine hK6 _ ?_
   refine Tr.k [2,3,4,5,6,7,8,9,10,11,12,13,14,15] ?_
   refine bG hcx [1000054] _ [] rfl rfl rfl ?_ dK
   exact ⟨i+1,⟨by omega,O1⟩,LT,rfl⟩
  obtain rfl:i=64:=by omega
  refine Tr.exit ?_
  refine hK4 _ ?_
  refine Tr.k [2,3,4,5,7,8,9,10,11,12,13,14] ?_
  refine bG hcx [] _ [] rfl rfl rfl ?_ dK
  refine hK3 _ ?_
  refine Tr.k [2,3,4,5] ?_
  refine NX hcx 2 (by decide) ?_ ?_ ?_
  · simp only[BQ,qI,go_sem,Bool.true_and] <;>decide
  · simp only[List.take_succ_cons,List.take_zero,BR,yM,mj,go_sem,Bool.true_and] <;>decide
  simp only[List.take_succ_cons,List.take_zero]
  refine bG hcx [1000028] _ [] rfl rfl rfl ?_ dK
  exact ⟨q+1,⟨by omega,O1⟩,LT,by dsimp only;rw[F6 M q (by omega)];rfl⟩
 obtain rfl:q=Q:=by omega
 rw[show 64*q=M.length by omega,List.take_length]
 refine Tr.exit ?_
 refine hK1 _ ?_
 refine aa hcx [] _ [none] rfl rfl rfl ?_ dK
 refine ae fun K7 hK7=> ?_
 refine aa hcx [] _ [] rfl rfl rfl ?_ dK
 refine Tr.k [2,3,18,19] ?_
 refine Tr.blk ?_
 refine cm (α:=Nat) (fun a=> [(2,?v2_3),(3,?v3_3),(18,?v18_3),(19,.val (nI a))]) (fun a=> [some (cl bC (List.replicate 32 0)),some (cl wC (dn F0 M).s.l),some (cl bC (oe (dn F0 M).s a++List.replicate (32 - a) 0))]) (fun a=>a≤32) (fun a=>32 - a) (0) ?_ ?le_3 ?hh_3 ?bd_3
 case hh_3=>exact rfl
 case le_3=>exact LT
 · omega
 rintro i hi
 refine ae fun K8 hK8=> ?_
 refine aa hcx [] _ [] rfl rfl rfl ?_ dK
 refine bS rfl (fun hc148=> ?_) (fun hc148=> ?_)
 ·
  refine Tr.skip ?_
  refine hK8 _ ?_
  refine ae fun K9 hK9=> ?_
  refine Tr.blk ?_
  refine bG hcx [] _ [] rfl rfl rfl ?_ dK
  refine hK9 _ ?_
  refine bG hcx [1000150] _ [] rfl rfl rfl ?_ dK
  exact ⟨i+1,⟨by omega,O1⟩,LT,by dsimp only;rw[jH _ _ _ _ _ (gZ _ _) hc148,←xy _ i hc148];rfl⟩
 obtain rfl:i=32:=by omega
 refine Tr.exit ?_
 refine hK7 _ ?_
 refine aa hcx [] _ [] rfl rfl rfl ?_ dK
 exact Tr.ret So
theorem j8 {p:Prop} (e:p:=by intro KZ hZ;simp -implicitDefEqProofs (disch:=first|omega| (simp only[go_sem,lA,lD,lT,hl32,hl16] <;>omega) |decide) only[go_sem,↓reduceIte,Nat.reduceEqDiff,reduceCtorEq,Nat.reduceLT,Nat.reduceBEq,Nat.reduceAdd,h94,lM,hy];exact hZ) :p:=e
theorem Sp {p:Prop} (e:p:=by simp -implicitDefEqProofs (disch:=first|omega| (simp only[go_sem,lA,lD,lT,hl32,hl16] <;>omega) |decide) only[go_sem,↓reduceIte,Nat.reduceEqDiff,reduceCtorEq];all_goals (simp)) :p:=e
theorem aaT {gl:Nat→C} {M:Nat} {pu:Nat→List C→Option C} (hcx:CxOK (aO gl M pu)) (h94: ∀b:List UInt8,b.length< 35184372088832→pu 94 [sl bC .no b] =some (.agg (cl bC (eR b)))) (b:List UInt8) (hb:b.length< 35184372088832) :FC Tryd.prog gl 64 [sl bC .no b] [] (.agg (cl bC ((eR b).take 16))) [] :=by
 replace hcx:=hcx.reN (M:=19)
 refine bZ (cx:=aO gl 19 pu) (rs:= [.cell 2 29]) rfl Tryd.func64 rfl rfl rfl (by simp only[List.length_cons,List.length_nil];decide) (by simp only[go_sem]) ?_
 simp only[cO,go_sem]
 have hy:=True.intro
 have hl32:=tG b
 have hl16: ((eR b).take 16).length=16:=by simp[hl32]
 refine aa hcx [] _ [none] rfl rfl rfl ?_ j8
 refine aa hcx [] _ [none] rfl rfl rfl ?_ j8
 refine aa hcx [] _ [none] rfl rfl rfl ?_ j8
 refine ae fun K1 hK1=> ?_
 refine aa hcx [] _ [] rfl rfl rfl ?_ j8
 refine Tr.k [2,3,4,5] ?_
 refine Tr.blk ?_
 refine cm (α:=Nat) (fun a=> [(2,?v2_1),(3,?v3_1),(4,?v4_1),(5,.val (nI a))]) (fun a=> [some (cl bC (List.replicate 16 0)),some (cl bC (eR b)),some (cl bC ((eR b).take a++List.replicate (16 - a) 0))]) (fun a=>a≤16) (fun a=>16 - a) (0) ?_ ?le_1 ?hh_1 ?bd_1
 case hh_1=>exact rfl
 case le_1=>exact LT
 · omega
 rintro i hi
 refine ae fun K2 hK2=> ?_
 refine aa hcx [] _ [] rfl rfl rfl ?_ j8
 refine bS rfl (fun hc10=> ?_) (fun hc10=> ?_)
 ·
  refine Tr.skip ?_
  refine hK2 _ ?_
  refine ae fun K3 hK3=> ?_
  refine Tr.blk ?_
  refine bG hcx [] _ [] rfl rfl rfl ?_ j8
  refine hK3 _ ?_
  refine bG hcx [1000012] _ [] rfl rfl rfl ?_ j8
  exact ⟨i+1,⟨by omega,O1⟩,LT,by dsimp only;rw[jH _ _ _ _ _ (by rw[List.length_take];omega) hc10,FZ _ _ _ _ (by omega)] <;>rfl⟩
 obtain rfl:i=16:=by omega
 refine Tr.exit ?_
 refine hK1 _ ?_
 refine aa hcx [] _ [] rfl rfl rfl ?_ j8
 exact Tr.ret Sp
theorem lw {p:Prop} (e:p:=by intro KZ hZ;simp -implicitDefEqProofs (disch:=first|omega| (simp only[go_sem,lA,lD,lT,hlp1,hlp2] <;>omega) |decide) only[go_sem,↓reduceIte,Nat.reduceEqDiff,reduceCtorEq,Nat.reduceLT,Nat.reduceBEq,Nat.reduceAdd,h95,hy];exact hZ) :p:=e
theorem Sq {p:Prop} (e:p:=by simp -implicitDefEqProofs (disch:=first|omega| (simp only[go_sem,lA,lD,lT,hlp1,hlp2] <;>omega) |decide) only[go_sem,↓reduceIte,Nat.reduceEqDiff,reduceCtorEq];all_goals (rw[List.take_length])) :p:=e
theorem aaU {gl:Nat→C} {M:Nat} {pu:Nat→List C→Option C} (hcx:CxOK (aO gl M pu)) (h95: ∀s:List UInt8,s.length< 70368744177664→pu 95 [.val (str s)] =some (sl bC (.own 1) (wb s))) (tag:Int) (parts:List (List UInt8)) (hl: (cL tag parts).length< 1099511627776) :FC Tryd.prog gl 65 [.val (.int .i64 tag),sl sC .no parts] [] (sl bC (.own 1) (cL tag parts)) [] :=by
 replace hcx:=hcx.reN (M:=24)
 refine bZ (cx:=aO gl 24 pu) (rs:= [.tmp 4]) rfl Tryd.func65 rfl rfl rfl (by simp only[List.length_cons,List.length_nil];decide) (by simp only[go_sem]) ?_
 simp only[cO,go_sem]
 have hy:=True.intro
 have hlp:=qv tag parts hl
 have hlp1:=hl
 have hpl:=uc tag parts hl
 have hlp2:=True.intro
 refine aa hcx [] _ [] rfl rfl rfl ?_ lw
 refine aa hcx [1000009] _ [] rfl rfl rfl ?_ lw
 refine ae fun K1 hK1=> ?_
 refine aa hcx [] _ [] rfl rfl rfl ?_ lw
 refine Tr.k [1,5,6] ?_
 refine Tr.blk ?_
 refine cm (α:=Nat) (fun a=> [(1,?v1_1),(5,sl bC (.own 1) (cL tag (parts.take a))),(6,.val (nI a))]) (fun a=> ?h_1) (fun a=>a≤parts.length) (fun a=>parts.length - a) (0) ?_ ?le_1 ?hh_1 ?bd_1
 case hh_1=>exact rfl
 case le_1=> (simp only[bE,aP,↓bD,↓reduceIte,Nat.reduceEqDiff,aE,aQ,aF,aR,aS,and_true,true_and];all_goals (repeat' first|exact CLe.refl _|exact True.intro| (refine bR ?_;first|rfl| (simp only[List.take_zero];done)) |exact cH (by omega) |exact b9 (by omega) |exact cu (by omega) |exact cw (by omega) |with_reducible apply And.intro));all_goals (exact jO (by simp[cL]))
 · omega
 rintro i hi
 refine ae fun K2 hK2=> ?_
 refine aa hcx [] _ [] rfl rfl rfl ?_ lw
 refine bS rfl (fun hc13=> ?_) (fun hc13=> ?_)
 ·
  obtain ⟨hlp1,hlp2⟩ :=hlp i hc13
  refine Tr.skip ?_
  refine hK2 _ ?_
  refine ae fun K3 hK3=> ?_
  refine Tr.blk ?_
  refine bG hcx [16,1000022] _ [] rfl rfl rfl ?_ lw
  refine hK3 _ ?_
  refine bG hcx [1000015] _ [] rfl rfl rfl ?_ lw
  refine ⟨i+1,⟨by omega,O1⟩,?_,rfl⟩
  (simp only[bE,aP,↓bD,↓reduceIte,Nat.reduceEqDiff,aE,aQ,aF,aR,aS,and_true,true_and];all_goals (repeat' first|exact CLe.refl _|exact True.intro| (refine bR ?_;first|rfl| (simp only[List.take_zero];done)) |exact cH (by omega) |exact b9 (by omega) |exact cu (by omega) |exact cw (by omega) |with_reducible apply And.intro))
  all_goals (refine dL ?_;rw[qT tag parts i hc13])
 obtain rfl:i=parts.length:=by omega
 refine Tr.exit ?_
 refine hK1 _ ?_
 refine aa hcx [1000023] _ [] rfl rfl rfl ?_ lw
 exact Tr.ret Sq
end Go.Sx
namespace Go.Sx
open Go.RowKit Go.Proofs
theorem ue: ∀ (a b:List (List UInt8)),(∀s∈a,s.length< 18446744073709551616)→(∀s∈b,s.length< 18446744073709551616)→a.flatMap wb=b.flatMap wb→a=b
 | [],[],_,_,_=>rfl
 | [],t::b,_,_,h=>by
   have:=congrArg List.length h
   have h2:=xk t
   rw[List.flatMap_nil,List.flatMap_cons,List.length_append,List.length_nil] at this;omega
 |s::a,[],_,_,h=>by
  have:=congrArg List.length h
  have h2:=xk s
  rw[List.flatMap_nil,List.flatMap_cons,List.length_append,List.length_nil] at this;omega
 |s::a,t::b,ha,hb,h=>by
  rw[List.flatMap_cons,List.flatMap_cons] at h
  obtain ⟨h1,h2⟩ :=Dr _ _ _ _ (ha s (by simp)) (hb t (by simp)) h
  rw[h1,ue a b (fun x hx=>ha x (by simp[hx])) (fun x hx=>hb x (by simp[hx])) h2]
end Go.Sx
namespace Go.Sx
open Go.RowKit Go.Proofs
theorem kB {α:Type} [Inhabited α] (l:List α) (i:Nat) (h:i< l.length) :gt l i∈l:=by
 simp[gt,List.getD,List.getElem?_eq_getElem h]
theorem l7 (n:Nat) (h:n< 18446744073709551616) : (cX (n:Int)).length≤9:=by
 unfold cX
 rw[if_pos (by omega)]
 have:=fm 8 n (by simpa using h)
 simp;omega
theorem On {α:Type} [DecidableEq α] {x y:List α} (h: ¬x.length=y.length) :decide (x=y) =false:=by
 rw[decide_eq_false_iff_not];rintro rfl;exact h rfl
theorem FE {α:Type} [Inhabited α] [DecidableEq α] {x y:List α} {i:Nat} (h: ¬gt x i=gt y i) :decide (x=y) =false:=by
 rw[decide_eq_false_iff_not];rintro rfl;exact h rfl
theorem Uy {α:Type} [DecidableEq α] {x y:List α} {i:Nat} (hi: ¬i< x.length) (hl:x.length=y.length) (h:x.take i=y.take i) :decide (x=y) =true:=by
 rw[decide_eq_true_iff,←List.take_of_length_le (show x.length≤i by omega),h,List.take_of_length_le (by omega)]
theorem B4 {α:Type} [Inhabited α] {x y:List α} {i:Nat} (hi:i< x.length) (hl:x.length=y.length) (h:x.take i=y.take i) (he:gt x i=gt y i) :x.take (i+1) =y.take (i+1) :=by
 rw[dO x i hi,dO y i (by omega),h,he]
def cA (x:UInt8) :UInt8:=if x< 128 then 255 else 0
def nW (x:UInt8) :Nat:= (x ^^^ cA x).toNat - 128
def eZ (f:UInt8) (l:List UInt8) :Nat:=l.foldl (fun m c=>m*256+(c ^^^ f).toNat) 0
theorem oK (f:UInt8) (l:List UInt8) (c:UInt8) :eZ f (l++[c]) =eZ f l*256+(c ^^^ f).toNat:=by simp[eZ]
theorem zR (f:UInt8) (l:List UInt8) :eZ f l< 256 ^ l.length:=by
 have key: ∀n (l:List UInt8),l.length=n→eZ f l< 256 ^ n:=by
  intro n
  induction n with
  |zero=>intro l hl;rw[List.length_eq_zero_iff.1 hl];simp[eZ]
  |succ n ih=>
   intro l hl
   have hne:l≠[] :=by rintro rfl;simp at hl
   rw[←List.dropLast_concat_getLast hne,oK]
   have h1:=ih l.dropLast (by simp[hl])
   have h2:= (l.getLast hne ^^^ f).toNat_lt
   rw[Nat.pow_succ];omega
 exact key _ l rfl
theorem Oo (x:UInt8) :128≤(x ^^^ cA x).toNat:=by
 unfold cA
 split
 · rename_i h
   rw[Dp,UInt8.toNat_sub_of_le _ _ (by rw[UInt8.le_iff_toNat_le];have:=x.toNat_lt;show _≤255;omega)]
   rw[UInt8.lt_iff_toNat_lt] at h
   have h':x.toNat< 128:=h
   show 128≤255 - x.toNat
   omega
 · rename_i h
   rw[UInt8.lt_iff_toNat_lt] at h
   have h': ¬x.toNat< 128:=h
   simp;omega
def ry (b:List UInt8) :Int×Nat×Nat:=match b with
 | [] => (0,0,3)
 |x::r=>
  if 8< nW x then (0,0,2) else
  if (x::r).length≤nW x then (0,0,3) else
  if 0< nW x∧gt (x::r) 1 ^^^ cA x=0 then (0,0,2) else
  if 9223372036854775808≤eZ (cA x) (r.take (nW x)) then (0,0,2) else
  (if x< 128 then -1 - (eZ (cA x) (r.take (nW x)) :Int) else (eZ (cA x) (r.take (nW x)) :Int),nW x+1,0)
section
variable {x:UInt8} {r:List UInt8} {k:Nat} (hk:nW x=k)
include hk
theorem Uz (h: ¬8< k) (h2: ¬ (x::r).length≤k) (h3: ¬ (0< k∧gt (x::r) 1 ^^^ cA x=0)) (h4: ¬9223372036854775808≤eZ (cA x) (r.take k)) (h5:x< 128) :ry (x::r) = (-1 - (eZ (cA x) (r.take k) :Int),k+1,0) :=by
 subst hk;simp only[ry];rw[if_neg h,if_neg h2,if_neg h3,if_neg h4,if_pos h5]
theorem UA (h: ¬8< k) (h2: ¬ (x::r).length≤k) (h3: ¬ (0< k∧gt (x::r) 1 ^^^ cA x=0)) (h4: ¬9223372036854775808≤eZ (cA x) (r.take k)) (h5: ¬x< 128) :ry (x::r) = ((eZ (cA x) (r.take k) :Int),k+1,0) :=by
 subst hk;simp only[ry];rw[if_neg h,if_neg h2,if_neg h3,if_neg h4,if_neg h5]
end
theorem zS (m c k:Nat) (hc:c< 256) :be (m*256+c) (k+1) =be m k++[UInt8.ofNat c] :=by
 refine Dn _ _ (by simp[gi]) fun i hi=> ?_
 rw[gi] at hi
 rw[v8 _ _ _ hi]
 rcases Nat.lt_or_ge i k with h|h
 · rw[jI _ _ _ (by rw[gi];exact h),v8 _ _ _ h]
   congr 1
   rw[show k+1 - 1 - i= (k - 1 - i)+1 by omega,p7,p7,Nat.pow_succ,Nat.mul_comm (256 ^ (k - 1 - i)),←Nat.div_div_eq_div_mul]
   congr 1;omega
 · have:i=k:=by omega
   subst this
   rw[lm _ _ _ _ (gi _ _)]
   apply UInt8.toNat_inj.1
   simp
theorem UB (f:UInt8) (l:List UInt8) :be (eZ f l) l.length=l.map (· ^^^ f) :=by
 have key: ∀n (l:List UInt8),l.length=n→be (eZ f l) l.length=l.map (· ^^^ f) :=by
  intro n
  induction n with
  |zero=>intro l hl;rw[List.length_eq_zero_iff.1 hl];rfl
  |succ n ih=>
   intro l hl
   have hne:l≠[] :=by rintro rfl;simp at hl
   rw[←List.dropLast_concat_getLast hne,oK,List.length_append,List.length_singleton,zS _ _ _ (l.getLast hne ^^^ f).toNat_lt,ih l.dropLast (by simp[hl]),List.map_append]
   simp
 exact key _ l rfl
theorem FF (f:UInt8) : ∀ (l:List UInt8) (m:Nat),m*256 ^ l.length≤l.foldl (fun m c=>m*256+(c ^^^ f).toNat) m
 | [],m=>by simp
 |c::l,m=>by
  refine Nat.le_trans ?_ (FF f l (m*256+(c ^^^ f).toNat))
  rw[List.length_cons,Nat.pow_succ,Nat.mul_comm (256 ^ l.length),←Nat.mul_assoc]
  exact Nat.mul_le_mul_right _ (by omega)
theorem B5 (a b c:UInt8) :a ^^^ c=b ^^^ c↔a=b:=by
 constructor
 · intro h
   have:=congrArg (· ^^^ c) h
   simpa[UInt8.xor_assoc] using this
 · rintro rfl;rfl
theorem X0 {x:UInt8} {r:List UInt8} {k:Nat} (hk:nW x=k) (h8:k≤8) (hl:k≤r.length) :wI (eZ (cA x) (r.take k)) (cA x) =x::r.take k↔¬ (0< k∧gt (x::r) 1 ^^^ cA x=0) :=by
 have hkl: (r.take k).length=k:=by rw[List.length_take];omega
 have hx:x=UInt8.ofNat (128+k) ^^^ cA x:=by
  have hge:=Oo x
  have hlt:= (x ^^^ cA x).toNat_lt
  have e:UInt8.ofNat (128+k) =x ^^^ cA x:=by
   apply UInt8.toNat_inj.1
   unfold nW at hk
   have e2: (UInt8.ofNat (128+k)).toNat= (128+k) % 256:=rfl
   rw[e2]
   omega
  rw[e,UInt8.xor_assoc,UInt8.xor_self,UInt8.xor_zero]
 have hlt:=zR (cA x) (r.take k)
 rw[hkl] at hlt
 have hle: (le (eZ (cA x) (r.take k))).length≤k:=fm k _ hlt
 unfold wI
 constructor
 · intro h
   rintro ⟨hk0,hz⟩
   have h2:UInt8.ofNat (128+(le (eZ (cA x) (r.take k))).length) =UInt8.ofNat (128+k) :=by
    have h3:UInt8.ofNat (128+(le (eZ (cA x) (r.take k))).length) ^^^ cA x=UInt8.ofNat (128+k) ^^^ cA x:=by
     exact (List.cons.inj h).1.trans hx
    exact (B5 _ _ _).1 h3
   have h4:=congrArg UInt8.toNat h2
   simp at h4
   have h5: (le (eZ (cA x) (r.take k))).length=k:=by omega
   obtain ⟨c,r',rfl⟩ : ∃c r',r=c::r':=by
    cases r with
    |nil=>simp at hl;omega
    |cons c r'=>exact ⟨c,r',rfl⟩
   have hz':c ^^^ cA x=0:=hz
   obtain ⟨k',rfl⟩ : ∃k',k=k'+1:= ⟨k - 1,by omega⟩
   rw[List.take_succ_cons] at hlt h5
   have h6:eZ (cA x) (c::r'.take k') =eZ (cA x) (r'.take k') :=by
    show List.foldl _ _ _=_
    rw[List.foldl_cons,hz'];rfl
   have h7:=zR (cA x) (r'.take k')
   have h8: (r'.take k').length≤k':=by rw[List.length_take];omega
   have h9: (le (eZ (cA x) (r'.take k'))).length≤k':=fm k' _ (Nat.lt_of_lt_of_le h7 (Nat.pow_le_pow_right (by decide) h8))
   rw[h6] at h5
   omega
 · intro hn
   have h5: (le (eZ (cA x) (r.take k))).length=k:=by
    refine n9 k _ hlt ?_
    rcases Nat.eq_zero_or_pos k with h0|h0
    · exact .inl h0
    · right
      obtain ⟨c,r',rfl⟩ : ∃c r',r=c::r':=by
       cases r with
       |nil=>simp at hl;omega
       |cons c r'=>exact ⟨c,r',rfl⟩
      obtain ⟨k',rfl⟩ : ∃k',k=k'+1:= ⟨k - 1,by omega⟩
      have hc:c ^^^ cA x≠0:=fun h=>hn ⟨h0,h⟩
      have hc':1≤(c ^^^ cA x).toNat:=by
       rcases Nat.eq_zero_or_pos (c ^^^ cA x).toNat with h|h
       · exact absurd (UInt8.toNat_inj.1 (by simpa using h)) hc
       · exact h
      rw[List.take_succ_cons]
      have h1:=FF (cA x) (r'.take k') (0*256+(c ^^^ cA x).toNat)
      have h2: (r'.take k').length=k':=by rw[List.length_take];simp at hl;omega
      rw[h2] at h1
      simp only[Nat.add_sub_cancel]
      refine Nat.le_trans ?_ h1
      rw[Nat.zero_mul,Nat.zero_add]
      exact Nat.le_mul_of_pos_left _ hc'
   rw[h5]
   rw[←hx]
   refine congrArg (List.cons x) ?_
   have h6:=UB (cA x) (r.take k)
   rw[hkl] at h6
   rw[h6,List.map_map]
   have: ((fun y=>y ^^^ cA x) ∘fun y=>y ^^^ cA x) =id:=by
    funext y
    show (y ^^^ cA x) ^^^ cA x=y
    rw[UInt8.xor_assoc,UInt8.xor_self,UInt8.xor_zero]
   rw[this,List.map_id]
end Go.Sx
namespace Go.Sx
theorem aa0 (x:UInt8) : (x< 128) = (x.toNat< 128) :=by rw[UInt8.lt_iff_toNat_lt];rfl
end Go.Sx
namespace Go.Sx
end Go.Sx
namespace Go.Sx
end Go.Sx
namespace Go.Sx
end Go.Sx
namespace Go.Sx
open Go.RowKit
section
variable (a1 b1:Nat) (z1:List Value)
theorem Ur (x y:Array TypeId) (v:Bool) (xs:List C) :uy (some ⟨.func x y v,a1,b1,z1⟩) xs= (eK xs 0).map vp:=rfl
end
theorem Io (o:Option (List C)) (h:Hp) :Hp.mp (o::h) 0=ga o:=rfl
theorem Ip (o:Option (List C)) (h:Hp) (n:Nat) :Hp.mp (o::h) (n+1) =Hp.mp h n:=rfl
attribute [go_sem] Ur Io Ip
end Go.Sx
namespace Go.Sx
open Go.RowKit
end Go.Sx
namespace Go.Sx
open Go.RowKit
def Iq (t n:Nat) :Option Nat→C
 |some j=> .bt j t n
 |none=> .top
theorem bj (ρ:List Nat) (b t n:Nat) :cC ρ (.bt b t n) =Iq t n (eB ρ 0 b) :=by simp only[cC];cases eB ρ 0 b<;>rfl
theorem ar (t n j:Nat) :Iq t n (some j) = .bt j t n:=rfl
theorem au (t n:Nat) :Iq t n none= .top:=rfl
def Ir:Option Nat→C
 |some j=> .mp j
 |none=> .top
theorem bm (ρ:List Nat) (b:Nat) :cC ρ (.mp b) =Ir (eB ρ 0 b) :=by simp only[cC];cases eB ρ 0 b<;>rfl
theorem aw (j:Nat) :Ir (some j) = .mp j:=rfl
theorem ax:Ir none= .top:=rfl
section
variable (cx:Cx) (apps:List Nat) (dsts:List (Option Nat)) (l:List Oper) (id':Nat) (d:Option Nat) (e:List (Nat×C)) (h:Hp) (fs:List FP) (K:List FP→St→Prop)
def BZ (b off:Nat) (cells:List C) (o:Option C) :Prop:=match o with
 |none=>False
 |some x=>run cx apps dsts l id' (fK d x e) (h.set b (some (cells.set off x.noR))) ((3,b) ::fs) K
theorem Fu (b off:Nat) (cells:List C) :Eb cx apps dsts l id' d e h fs K b off (some cells) =BZ cx apps dsts l id' d e h fs K b off cells (cells[off]?) :=rfl
theorem Fv (b off:Nat) (cells:List C) (x:C) :BZ cx apps dsts l id' d e h fs K b off cells (some x) =run cx apps dsts l id' (fK d x e) (h.set b (some (cells.set off x.noR))) ((3,b) ::fs) K:=rfl
end
@[congr] theorem XX {cx:Cx} {apps:List Nat} {dsts:List (Option Nat)} {l:List Oper} {id':Nat} {d:Option Nat} {e:List (Nat×C)} {h:Hp} {fs:List FP} {K:List FP→St→Prop} {b off:Nat} {cells:List C} {p p':Option C} (hp:p=p') :
   BZ cx apps dsts l id' d e h fs K b off cells p=BZ cx apps dsts l id' d e h fs K b off cells p':=by rw[hp]
attribute [go_sem] Fu Fv
end Go.Sx
