/-
   And what follows.
-/
import Derived.Test.YtmoaeemdlompaaaDoorPan
import Derived.Test.YtmoaeemdlompaaaDoorPal
import Derived.Test.YtmoaeemdlompaaaDoorPam
set_option linter.unusedSimpArgs false
set_option linter.unusedVariables false
namespace Go.Sx
open Go.RowKit Go.Proofs
set_option maxRecDepth 100000
set_option maxHeartbeats 8000000
theorem X_fc39p {p : Prop} (e : p := by intro KZ hZ; simp -implicitDefEqProofs (disch := first | omega | (simp only [go_sem,lA,lD,lT] <;> omega) | decide) only [go_sem,↓reduceIte,Nat.reduceEqDiff,reduceCtorEq,Nat.reduceLT,Nat.reduceBEq,Nat.reduceAdd,hy]; exact hZ) : p := e
theorem F_fc39p {p : Prop} (e : p := by simp -implicitDefEqProofs (disch := first | omega | (simp only [go_sem,lA,lD,lT] <;> omega) | decide) only [go_sem,↓reduceIte,Nat.reduceEqDiff,reduceCtorEq]; all_goals (rw [List.take_of_length_le (by simp [be_len])]; rfl)) : p := e
theorem fc39p {gl : Nat → C} {M : Nat} {pu : Nat → List C → Option C} (hcx : CxOK (cxP gl M pu)) (m : Nat) (hm : m < 9223372036854775808) : FC Tryd.prog gl 39 [.val (nI m)] [] (sl bC (.own 1) (wI m 0)) [] := by
 replace hcx := hcx.reN (M := 47)
 refine FC.ofA (cx := cxP gl 47 pu) (rs := [.tmp 2]) rfl Tryd.func39 rfl rfl rfl (by simp only [List.length_cons,List.length_nil]; decide) (by simp only [go_sem]) ?_
 simp only [ini,go_sem]
 have hy := True.intro
 have hk8 : (le m).length ≤ 8 := le_len 8 m (by omega)
 refine Tr.w hcx [] _ [] rfl rfl rfl ?_ X_fc39p
 refine Tr.scope ?_
 refine Tr.w hcx [1000009] _ [] rfl rfl rfl ?_ X_fc39p
 refine Tr.seqK fun K1 hK1 => ?_
 refine Tr.w hcx [] _ [] rfl rfl rfl ?_ X_fc39p
 refine Tr.cN rfl ((decide_eq_false (by omega))) ?_
 refine Tr.skip ?_
 refine hK1 _ ?_
 refine Tr.w hcx [] _ [] rfl rfl rfl ?_ X_fc39p
 refine Tr.seqK fun K2 hK2 => ?_
 refine Tr.label ?_
 refine hK2 _ ?_
 refine Tr.k [3,4,5] ?_
 refine Tr.seqK fun K3 hK3 => ?_
 refine Tr.blk ?_
 refine Tr.loopI (α := Nat) (fun a => [(3,?v3_1),(4,?v4_1),(5,.val (nI a))]) (fun a => ?h_1) (fun a => a ≤ 8 ∧ m < 256 ^ a) (fun a => a) (8) ?_ ?le_1 ?hh_1 ?bd_1
 case hh_1 => exact rfl
 case le_1 => exact LT
 · exact ⟨by omega,by omega⟩
 rintro k ⟨hk,hmk⟩
 refine Tr.seqK fun K4 hK4 => ?_
 refine Tr.w hcx [] _ [] rfl rfl rfl ?_ X_fc39p
 refine Tr.cD rfl (fun hc15 => ?_) (fun hc15 => ?_)
 ·
  refine Tr.skip ?_
  refine hK4 _ ?_
  refine Tr.blk ?_
  refine Tr.seqK fun K5 hK5 => ?_
  refine Tr.w hcx [] _ [] rfl rfl rfl ?_ X_fc39p
  refine Tr.cD rfl (fun hc21 => ?_) (fun hc21 => ?_)
  ·
   have hkk := le_done m k hmk (.inr hc21)
   subst hkk
   clear hc21 hmk hk hc15
   refine Tr.exit ?_
   refine hK3 _ ?_
   refine Tr.w hcx [1000029] _ [] rfl rfl rfl ?_ X_fc39p
   refine Tr.seqK fun K6 hK6 => ?_
   have hy := @n_subG
   refine Tr.w hcx [1000031] _ [] rfl rfl rfl ?_ X_fc39p
   refine Tr.k [3,4,6,7] ?_
   refine Tr.blk ?_
   refine Tr.loopI (α := Nat) (fun a => [(3,?v3_2),(4,?v4_2),(6,sl bC (.own 1) ((UInt8.ofNat (128 + (le m).length) ^^^ UInt8.ofNat 0) :: ((be m (le m).length).map (· ^^^ UInt8.ofNat 0)).take a)),(7,.val (.int .i64 (((le m).length : Int) - 1 - (a : Int))))]) (fun a => ?h_2) (fun a => a ≤ (le m).length) (fun a => (le m).length - a) (0) ?_ ?le_2 ?hh_2 ?bd_2
   case hh_2 => exact rfl
   case le_2 => (simp only [Le_nil,Le_cons,↓A_cons,↓reduceIte,Nat.reduceEqDiff,CLe_refl,CLe_top,CLe_full,CLe_nil,CLe_own,and_true,true_and]; all_goals (repeat' first | exact CLe.refl _ | exact True.intro | (refine CLe_sln ?_; first | rfl | (simp only [List.take_zero]; done)) | exact CLe_nI (by omega) | exact CLe_int (by omega) | exact CLe_inI (by omega) | exact CLe_nIi (by omega) | with_reducible apply And.intro)); all_goals first | exact CLe_slf (by simp) | exact CLe_int (by omega)
   · omega
   rintro a ha
   refine Tr.seqK fun K7 hK7 => ?_
   have hy := True.intro
   refine Tr.w hcx [] _ [] rfl rfl rfl ?_ X_fc39p
   refine Tr.cD rfl (fun hc33 => ?_) (fun hc33 => ?_)
   ·
    refine Tr.skip ?_
    refine hK7 _ ?_
    refine Tr.seqK fun K8 hK8 => ?_
    refine Tr.blk ?_
    refine Tr.v hcx [36,1000045] _ [] rfl rfl rfl ?_ X_fc39p
    refine hK8 _ ?_
    refine Tr.v hcx [1000035] _ [] rfl rfl rfl ?_ X_fc39p
    refine ⟨a + 1,⟨by omega,O1⟩,?_,rfl⟩
    (simp only [Le_nil,Le_cons,↓A_cons,↓reduceIte,Nat.reduceEqDiff,CLe_refl,CLe_top,CLe_full,CLe_nil,CLe_own,and_true,true_and]; all_goals (repeat' first | exact CLe.refl _ | exact True.intro | (refine CLe_sln ?_; first | rfl | (simp only [List.take_zero]; done)) | exact CLe_nI (by omega) | exact CLe_int (by omega) | exact CLe_inI (by omega) | exact CLe_nIi (by omega) | with_reducible apply And.intro))
    all_goals first | exact CLe.refl _ | exact CLe_int (by omega) | (refine CLe_sl ?_; rw [← wI_next m _ a (by omega),show (((8 : Nat) : Int) * (((le m).length : Int) - 1 - (a : Int))).toNat = 8 * ((le m).length - 1 - a) by omega]; try rfl)
   obtain rfl : a = (le m).length := by omega
   refine Tr.exit ?_
   refine hK6 _ ?_
   refine Tr.w hcx [1000046] _ [] rfl rfl rfl ?_ X_fc39p
   exact Tr.ret F_fc39p
  refine Tr.skip ?_
  refine hK5 _ ?_
  refine Tr.v hcx [1000023] _ [] rfl rfl rfl ?_ X_fc39p
  refine ⟨k - 1,⟨⟨by omega,le_less m k hc15 hc21⟩,O1⟩,?_,rfl⟩
  (simp only [Le_nil,Le_cons,↓A_cons,↓reduceIte,Nat.reduceEqDiff,CLe_refl,CLe_top,CLe_full,CLe_nil,CLe_own,and_true,true_and]; all_goals (repeat' first | exact CLe.refl _ | exact True.intro | (refine CLe_sln ?_; first | rfl | (simp only [List.take_zero]; done)) | exact CLe_nI (by omega) | exact CLe_int (by omega) | exact CLe_inI (by omega) | exact CLe_nIi (by omega) | with_reducible apply And.intro))
  all_goals first | exact CLe.refl _ | exact CLe_int (by omega) | exact CLe_nI (by omega) | exact CLe_nIi (by omega) | exact CLe_inI (by omega)
 have hkk := le_done m k hmk (.inl hc15)
 subst hkk
 clear hc15 hmk hk
 refine Tr.exit ?_
 refine hK3 _ ?_
 refine Tr.w hcx [1000029] _ [] rfl rfl rfl ?_ X_fc39p
 refine Tr.seqK fun K9 hK9 => ?_
 have hy := @n_subG
 refine Tr.w hcx [1000031] _ [] rfl rfl rfl ?_ X_fc39p
 refine Tr.k [3,4,6,7] ?_
 refine Tr.blk ?_
 refine Tr.loopI (α := Nat) (fun a => [(3,?v3_3),(4,?v4_3),(6,sl bC (.own 1) ((UInt8.ofNat (128 + (le m).length) ^^^ UInt8.ofNat 0) :: ((be m (le m).length).map (· ^^^ UInt8.ofNat 0)).take a)),(7,.val (.int .i64 (((le m).length : Int) - 1 - (a : Int))))]) (fun a => ?h_3) (fun a => a ≤ (le m).length) (fun a => (le m).length - a) (0) ?_ ?le_3 ?hh_3 ?bd_3
 case hh_3 => exact rfl
 case le_3 => (simp only [Le_nil,Le_cons,↓A_cons,↓reduceIte,Nat.reduceEqDiff,CLe_refl,CLe_top,CLe_full,CLe_nil,CLe_own,and_true,true_and]; all_goals (repeat' first | exact CLe.refl _ | exact True.intro | (refine CLe_sln ?_; first | rfl | (simp only [List.take_zero]; done)) | exact CLe_nI (by omega) | exact CLe_int (by omega) | exact CLe_inI (by omega) | exact CLe_nIi (by omega) | with_reducible apply And.intro)); all_goals first | exact CLe_slf (by simp) | exact CLe_int (by omega)
 · omega
 rintro a ha
 refine Tr.seqK fun K10 hK10 => ?_
 have hy := True.intro
 refine Tr.w hcx [] _ [] rfl rfl rfl ?_ X_fc39p
 refine Tr.cD rfl (fun hc33 => ?_) (fun hc33 => ?_)
 ·
  refine Tr.skip ?_
  refine hK10 _ ?_
  refine Tr.seqK fun K11 hK11 => ?_
  refine Tr.blk ?_
  refine Tr.v hcx [36,1000045] _ [] rfl rfl rfl ?_ X_fc39p
  refine hK11 _ ?_
  refine Tr.v hcx [1000035] _ [] rfl rfl rfl ?_ X_fc39p
  refine ⟨a + 1,⟨by omega,O1⟩,?_,rfl⟩
  (simp only [Le_nil,Le_cons,↓A_cons,↓reduceIte,Nat.reduceEqDiff,CLe_refl,CLe_top,CLe_full,CLe_nil,CLe_own,and_true,true_and]; all_goals (repeat' first | exact CLe.refl _ | exact True.intro | (refine CLe_sln ?_; first | rfl | (simp only [List.take_zero]; done)) | exact CLe_nI (by omega) | exact CLe_int (by omega) | exact CLe_inI (by omega) | exact CLe_nIi (by omega) | with_reducible apply And.intro))
  all_goals first | exact CLe.refl _ | exact CLe_int (by omega) | (refine CLe_sl ?_; rw [← wI_next m _ a (by omega),show (((8 : Nat) : Int) * (((le m).length : Int) - 1 - (a : Int))).toNat = 8 * ((le m).length - 1 - a) by omega]; try rfl)
 obtain rfl : a = (le m).length := by omega
 refine Tr.exit ?_
 refine hK9 _ ?_
 refine Tr.w hcx [1000046] _ [] rfl rfl rfl ?_ X_fc39p
 exact Tr.ret F_fc39p
theorem X_fc39n {p : Prop} (e : p := by intro KZ hZ; simp -implicitDefEqProofs (disch := first | omega | (simp only [go_sem,lA,lD,lT] <;> omega) | decide) only [go_sem,↓reduceIte,Nat.reduceEqDiff,reduceCtorEq,Nat.reduceLT,Nat.reduceBEq,Nat.reduceAdd,em,hy]; exact hZ) : p := e
theorem F_fc39n {p : Prop} (e : p := by simp -implicitDefEqProofs (disch := first | omega | (simp only [go_sem,lA,lD,lT] <;> omega) | decide) only [go_sem,↓reduceIte,Nat.reduceEqDiff,reduceCtorEq]; all_goals (rw [List.take_of_length_le (by simp [be_len])]; rfl)) : p := e
theorem fc39n {gl : Nat → C} {M : Nat} {pu : Nat → List C → Option C} (hcx : CxOK (cxP gl M pu)) (m : Nat) (hm : m < 9223372036854775808) : FC Tryd.prog gl 39 [.val (.int .i64 (-1 - (m : Int)))] [] (sl bC (.own 1) (wI m 255)) [] := by
 replace hcx := hcx.reN (M := 47)
 refine FC.ofA (cx := cxP gl 47 pu) (rs := [.tmp 2]) rfl Tryd.func39 rfl rfl rfl (by simp only [List.length_cons,List.length_nil]; decide) (by simp only [go_sem]) ?_
 simp only [ini,go_sem]
 have hy := True.intro
 have hk8 : (le m).length ≤ 8 := le_len 8 m (by omega)
 have em : 18446744073709551615 - ((-1 - (m : Int)) % 18446744073709551616).toNat = m := by omega
 refine Tr.w hcx [] _ [] rfl rfl rfl ?_ X_fc39n
 refine Tr.scope ?_
 refine Tr.w hcx [1000009] _ [] rfl rfl rfl ?_ X_fc39n
 refine Tr.seqK fun K1 hK1 => ?_
 refine Tr.w hcx [] _ [] rfl rfl rfl ?_ X_fc39n
 refine Tr.cP rfl ((decide_eq_true (by omega))) ?_
 refine Tr.v hcx [1000013] _ [] rfl rfl rfl ?_ X_fc39n
 refine hK1 _ ?_
 refine Tr.w hcx [] _ [] rfl rfl rfl ?_ X_fc39n
 refine Tr.seqK fun K2 hK2 => ?_
 refine Tr.label ?_
 refine hK2 _ ?_
 refine Tr.k [3,4,5] ?_
 refine Tr.seqK fun K3 hK3 => ?_
 refine Tr.blk ?_
 refine Tr.loopI (α := Nat) (fun a => [(3,?v3_1),(4,?v4_1),(5,.val (nI a))]) (fun a => ?h_1) (fun a => a ≤ 8 ∧ m < 256 ^ a) (fun a => a) (8) ?_ ?le_1 ?hh_1 ?bd_1
 case hh_1 => exact rfl
 case le_1 => exact LT
 · exact ⟨by omega,by omega⟩
 rintro k ⟨hk,hmk⟩
 refine Tr.seqK fun K4 hK4 => ?_
 refine Tr.w hcx [] _ [] rfl rfl rfl ?_ X_fc39n
 refine Tr.cD rfl (fun hc15 => ?_) (fun hc15 => ?_)
 ·
  refine Tr.skip ?_
  refine hK4 _ ?_
  refine Tr.blk ?_
  refine Tr.seqK fun K5 hK5 => ?_
  refine Tr.w hcx [] _ [] rfl rfl rfl ?_ X_fc39n
  refine Tr.cD rfl (fun hc21 => ?_) (fun hc21 => ?_)
  ·
   have hkk := le_done m k hmk (.inr hc21)
   subst hkk
   clear hc21 hmk hk hc15
   refine Tr.exit ?_
   refine hK3 _ ?_
   refine Tr.w hcx [1000029] _ [] rfl rfl rfl ?_ X_fc39n
   refine Tr.seqK fun K6 hK6 => ?_
   have hy := @n_subG
   refine Tr.w hcx [1000031] _ [] rfl rfl rfl ?_ X_fc39n
   refine Tr.k [3,4,6,7] ?_
   refine Tr.blk ?_
   refine Tr.loopI (α := Nat) (fun a => [(3,?v3_2),(4,?v4_2),(6,sl bC (.own 1) ((UInt8.ofNat (128 + (le m).length) ^^^ UInt8.ofNat 255) :: ((be m (le m).length).map (· ^^^ UInt8.ofNat 255)).take a)),(7,.val (.int .i64 (((le m).length : Int) - 1 - (a : Int))))]) (fun a => ?h_2) (fun a => a ≤ (le m).length) (fun a => (le m).length - a) (0) ?_ ?le_2 ?hh_2 ?bd_2
   case hh_2 => exact rfl
   case le_2 => (simp only [Le_nil,Le_cons,↓A_cons,↓reduceIte,Nat.reduceEqDiff,CLe_refl,CLe_top,CLe_full,CLe_nil,CLe_own,and_true,true_and]; all_goals (repeat' first | exact CLe.refl _ | exact True.intro | (refine CLe_sln ?_; first | rfl | (simp only [List.take_zero]; done)) | exact CLe_nI (by omega) | exact CLe_int (by omega) | exact CLe_inI (by omega) | exact CLe_nIi (by omega) | with_reducible apply And.intro)); all_goals first | exact CLe_slf (by simp) | exact CLe_int (by omega)
   · omega
   rintro a ha
   refine Tr.seqK fun K7 hK7 => ?_
   have hy := True.intro
   refine Tr.w hcx [] _ [] rfl rfl rfl ?_ X_fc39n
   refine Tr.cD rfl (fun hc33 => ?_) (fun hc33 => ?_)
   ·
    refine Tr.skip ?_
    refine hK7 _ ?_
    refine Tr.seqK fun K8 hK8 => ?_
    refine Tr.blk ?_
    refine Tr.v hcx [36,1000045] _ [] rfl rfl rfl ?_ X_fc39n
    refine hK8 _ ?_
    refine Tr.v hcx [1000035] _ [] rfl rfl rfl ?_ X_fc39n
    refine ⟨a + 1,⟨by omega,O1⟩,?_,rfl⟩
    (simp only [Le_nil,Le_cons,↓A_cons,↓reduceIte,Nat.reduceEqDiff,CLe_refl,CLe_top,CLe_full,CLe_nil,CLe_own,and_true,true_and]; all_goals (repeat' first | exact CLe.refl _ | exact True.intro | (refine CLe_sln ?_; first | rfl | (simp only [List.take_zero]; done)) | exact CLe_nI (by omega) | exact CLe_int (by omega) | exact CLe_inI (by omega) | exact CLe_nIi (by omega) | with_reducible apply And.intro))
    all_goals first | exact CLe.refl _ | exact CLe_int (by omega) | (refine CLe_sl ?_; rw [← wI_next m _ a (by omega),show (((8 : Nat) : Int) * (((le m).length : Int) - 1 - (a : Int))).toNat = 8 * ((le m).length - 1 - a) by omega]; try rfl)
   obtain rfl : a = (le m).length := by omega
   refine Tr.exit ?_
   refine hK6 _ ?_
   refine Tr.w hcx [1000046] _ [] rfl rfl rfl ?_ X_fc39n
   exact Tr.ret F_fc39n
  refine Tr.skip ?_
  refine hK5 _ ?_
  refine Tr.v hcx [1000023] _ [] rfl rfl rfl ?_ X_fc39n
  refine ⟨k - 1,⟨⟨by omega,le_less m k hc15 hc21⟩,O1⟩,?_,rfl⟩
  (simp only [Le_nil,Le_cons,↓A_cons,↓reduceIte,Nat.reduceEqDiff,CLe_refl,CLe_top,CLe_full,CLe_nil,CLe_own,and_true,true_and]; all_goals (repeat' first | exact CLe.refl _ | exact True.intro | (refine CLe_sln ?_; first | rfl | (simp only [List.take_zero]; done)) | exact CLe_nI (by omega) | exact CLe_int (by omega) | exact CLe_inI (by omega) | exact CLe_nIi (by omega) | with_reducible apply And.intro))
  all_goals first | exact CLe.refl _ | exact CLe_int (by omega) | exact CLe_nI (by omega) | exact CLe_nIi (by omega) | exact CLe_inI (by omega)
 have hkk := le_done m k hmk (.inl hc15)
 subst hkk
 clear hc15 hmk hk
 refine Tr.exit ?_
 refine hK3 _ ?_
 refine Tr.w hcx [1000029] _ [] rfl rfl rfl ?_ X_fc39n
 refine Tr.seqK fun K9 hK9 => ?_
 have hy := @n_subG
 refine Tr.w hcx [1000031] _ [] rfl rfl rfl ?_ X_fc39n
 refine Tr.k [3,4,6,7] ?_
 refine Tr.blk ?_
 refine Tr.loopI (α := Nat) (fun a => [(3,?v3_3),(4,?v4_3),(6,sl bC (.own 1) ((UInt8.ofNat (128 + (le m).length) ^^^ UInt8.ofNat 255) :: ((be m (le m).length).map (· ^^^ UInt8.ofNat 255)).take a)),(7,.val (.int .i64 (((le m).length : Int) - 1 - (a : Int))))]) (fun a => ?h_3) (fun a => a ≤ (le m).length) (fun a => (le m).length - a) (0) ?_ ?le_3 ?hh_3 ?bd_3
 case hh_3 => exact rfl
 case le_3 => (simp only [Le_nil,Le_cons,↓A_cons,↓reduceIte,Nat.reduceEqDiff,CLe_refl,CLe_top,CLe_full,CLe_nil,CLe_own,and_true,true_and]; all_goals (repeat' first | exact CLe.refl _ | exact True.intro | (refine CLe_sln ?_; first | rfl | (simp only [List.take_zero]; done)) | exact CLe_nI (by omega) | exact CLe_int (by omega) | exact CLe_inI (by omega) | exact CLe_nIi (by omega) | with_reducible apply And.intro)); all_goals first | exact CLe_slf (by simp) | exact CLe_int (by omega)
 · omega
 rintro a ha
 refine Tr.seqK fun K10 hK10 => ?_
 have hy := True.intro
 refine Tr.w hcx [] _ [] rfl rfl rfl ?_ X_fc39n
 refine Tr.cD rfl (fun hc33 => ?_) (fun hc33 => ?_)
 ·
  refine Tr.skip ?_
  refine hK10 _ ?_
  refine Tr.seqK fun K11 hK11 => ?_
  refine Tr.blk ?_
  refine Tr.v hcx [36,1000045] _ [] rfl rfl rfl ?_ X_fc39n
  refine hK11 _ ?_
  refine Tr.v hcx [1000035] _ [] rfl rfl rfl ?_ X_fc39n
  refine ⟨a + 1,⟨by omega,O1⟩,?_,rfl⟩
  (simp only [Le_nil,Le_cons,↓A_cons,↓reduceIte,Nat.reduceEqDiff,CLe_refl,CLe_top,CLe_full,CLe_nil,CLe_own,and_true,true_and]; all_goals (repeat' first | exact CLe.refl _ | exact True.intro | (refine CLe_sln ?_; first | rfl | (simp only [List.take_zero]; done)) | exact CLe_nI (by omega) | exact CLe_int (by omega) | exact CLe_inI (by omega) | exact CLe_nIi (by omega) | with_reducible apply And.intro))
  all_goals first | exact CLe.refl _ | exact CLe_int (by omega) | (refine CLe_sl ?_; rw [← wI_next m _ a (by omega),show (((8 : Nat) : Int) * (((le m).length : Int) - 1 - (a : Int))).toNat = 8 * ((le m).length - 1 - a) by omega]; try rfl)
 obtain rfl : a = (le m).length := by omega
 refine Tr.exit ?_
 refine hK9 _ ?_
 refine Tr.w hcx [1000046] _ [] rfl rfl rfl ?_ X_fc39n
 exact Tr.ret F_fc39n
theorem X_fc83p {p : Prop} (e : p := by intro KZ hZ; simp -implicitDefEqProofs (disch := first | omega | (simp only [go_sem,lA,lD,lT] <;> omega) | decide) only [go_sem,↓reduceIte,Nat.reduceEqDiff,reduceCtorEq,Nat.reduceLT,Nat.reduceBEq,Nat.reduceAdd,hy]; exact hZ) : p := e
theorem F_fc83p {p : Prop} (e : p := by simp -implicitDefEqProofs (disch := first | omega | (simp only [go_sem,lA,lD,lT] <;> omega) | decide) only [go_sem,↓reduceIte,Nat.reduceEqDiff,reduceCtorEq]; all_goals (rw [List.take_of_length_le (by simp)]; rw [← wint_pos m]; unfold wint; rw [if_pos (by omega)]; simp)) : p := e
theorem fc83p {gl : Nat → C} {M : Nat} {pu : Nat → List C → Option C} (hcx : CxOK (cxP gl M pu)) (m : Nat) (hm : m < 9223372036854775808) : FC Tryd.prog gl 83 [.val (nI m)] [] (sl bC (.own 1) (wI m 0)) [] := by
 replace hcx := hcx.reN (M := 59)
 refine FC.ofA (cx := cxP gl 59 pu) (rs := [.tmp 2]) rfl Tryd.func83 rfl rfl rfl (by simp only [List.length_cons,List.length_nil]; decide) (by simp only [go_sem]) ?_
 simp only [ini,go_sem]
 have hy := True.intro
 have hk8 : (le m).length ≤ 8 := le_len 8 m (by omega)
 refine Tr.w hcx [] _ [] rfl rfl rfl ?_ X_fc83p
 refine Tr.w hcx [1000009] _ [] rfl rfl rfl ?_ X_fc83p
 refine Tr.seqK fun K1 hK1 => ?_
 refine Tr.w hcx [] _ [] rfl rfl rfl ?_ X_fc83p
 refine Tr.cN rfl ((decide_eq_false (by omega))) ?_
 refine Tr.skip ?_
 refine hK1 _ ?_
 refine Tr.w hcx [] _ [] rfl rfl rfl ?_ X_fc83p
 refine Tr.k [0,3,4] ?_
 refine Tr.seqK fun K2 hK2 => ?_
 refine Tr.blk ?_
 refine Tr.loopI (α := (Nat × List UInt8)) (fun a => [(0,?v0_1),(3,.val (nI a.1)),(4,sl bC (.own 1) a.2)]) (fun a => ?h_1) (fun a => a.1 ≤ m ∧ a.2 ++ le a.1 = le m) (fun a => a.1) ((m,[])) ?_ ?le_1 ?hh_1 ?bd_1
 case hh_1 => exact rfl
 case le_1 => (simp only [Le_nil,Le_cons,↓A_cons,↓reduceIte,Nat.reduceEqDiff,CLe_refl,CLe_top,CLe_full,CLe_nil,CLe_own,and_true,true_and]; all_goals (repeat' first | exact CLe.refl _ | exact True.intro | (refine CLe_sln ?_; first | rfl | (simp only [List.take_zero]; done)) | exact CLe_nI (by omega) | exact CLe_int (by omega) | exact CLe_inI (by omega) | exact CLe_nIi (by omega) | with_reducible apply And.intro)); all_goals first | exact CLe_inI (by omega) | exact CLe.refl _
 · exact ⟨Nat.le_refl _,rfl⟩
 rintro ⟨q,ds⟩ ⟨hq,hds⟩
 have hdl : ds.length ≤ 8 := by have := congrArg List.length hds; simp only [List.length_append] at this; omega
 simp only [] at hq hds ⊢
 refine Tr.seqK fun K3 hK3 => ?_
 refine Tr.w hcx [] _ [] rfl rfl rfl ?_ X_fc83p
 refine Tr.cD rfl (fun hc15 => ?_) (fun hc15 => ?_)
 ·
  refine Tr.skip ?_
  refine hK3 _ ?_
  refine Tr.blk ?_
  refine Tr.w hcx [16,1000021] _ [] rfl rfl rfl ?_ X_fc83p
  refine Tr.v hcx [1000023] _ [] rfl rfl rfl ?_ X_fc83p
  refine ⟨(q / 256,ds ++ [UInt8.ofNat (q % 256)]),⟨⟨by have := Nat.div_le_self q 256; simp only []; omega,by simp only [] at hds ⊢; rw [← hds,le_pos q (by omega)]; simp⟩,by have : q / 256 < q := Nat.div_lt_self (by omega) (by decide); exact this⟩,?_,rfl⟩
  (simp only [Le_nil,Le_cons,↓A_cons,↓reduceIte,Nat.reduceEqDiff,CLe_refl,CLe_top,CLe_full,CLe_nil,CLe_own,and_true,true_and]; all_goals (repeat' first | exact CLe.refl _ | exact True.intro | (refine CLe_sln ?_; first | rfl | (simp only [List.take_zero]; done)) | exact CLe_nI (by omega) | exact CLe_int (by omega) | exact CLe_inI (by omega) | exact CLe_nIi (by omega) | with_reducible apply And.intro))
  all_goals exact CLe.refl _
 obtain rfl : q = 0 := by omega
 rw [le_zero,List.append_nil] at hds
 subst hds
 clear hq hdl
 refine Tr.exit ?_
 refine hK2 _ ?_
 refine Tr.w hcx [1000025] _ [] rfl rfl rfl ?_ X_fc83p
 refine Tr.w hcx [] _ [] rfl rfl rfl ?_ X_fc83p
 refine Tr.seqK fun K4 hK4 => ?_
 refine Tr.w hcx [] _ [] rfl rfl rfl ?_ X_fc83p
 refine Tr.cP rfl ((decide_eq_true (by omega))) ?_
 refine Tr.v hcx [28,1000033] _ [] rfl rfl rfl ?_ X_fc83p
 refine hK4 _ ?_
 refine Tr.seqK fun K5 hK5 => ?_
 have hy := @n_subG
 refine Tr.w hcx [1000041] _ [] rfl rfl rfl ?_ X_fc83p
 refine Tr.k [0,4,6,7] ?_
 refine Tr.blk ?_
 refine Tr.loopI (α := Nat) (fun a => [(0,?v0_2),(4,?v4_2),(6,sl bC (.own 1) (UInt8.ofNat (128 + (le m).length) :: ((le m).reverse.map (fun c => c)).take a)),(7,.val (.int .i64 (((le m).length : Int) - 1 - (a : Int))))]) (fun a => ?h_2) (fun a => a ≤ (le m).length) (fun a => (le m).length - a) (0) ?_ ?le_2 ?hh_2 ?bd_2
 case hh_2 => exact rfl
 case le_2 => (simp only [Le_nil,Le_cons,↓A_cons,↓reduceIte,Nat.reduceEqDiff,CLe_refl,CLe_top,CLe_full,CLe_nil,CLe_own,and_true,true_and]; all_goals (repeat' first | exact CLe.refl _ | exact True.intro | (refine CLe_sln ?_; first | rfl | (simp only [List.take_zero]; done)) | exact CLe_nI (by omega) | exact CLe_int (by omega) | exact CLe_inI (by omega) | exact CLe_nIi (by omega) | with_reducible apply And.intro)); all_goals first | exact CLe_slf (by simp) | exact CLe.refl _ | exact CLe_int (by omega) | exact CLe_sl (by simp)
 · omega
 rintro a ha
 refine Tr.seqK fun K6 hK6 => ?_
 have hy := True.intro
 refine Tr.w hcx [] _ [] rfl rfl rfl ?_ X_fc83p
 refine Tr.cD rfl (fun hc43 => ?_) (fun hc43 => ?_)
 ·
  refine Tr.skip ?_
  refine hK6 _ ?_
  refine Tr.seqK fun K7 hK7 => ?_
  refine Tr.blk ?_
  refine Tr.w hcx [1000049] _ [] rfl rfl rfl ?_ X_fc83p
  refine Tr.seqK fun K8 hK8 => ?_
  refine Tr.w hcx [] _ [] rfl rfl rfl ?_ X_fc83p
  refine Tr.cN rfl ((decide_eq_false (by omega))) ?_
  refine Tr.skip ?_
  refine hK8 _ ?_
  refine Tr.v hcx [54,1000057] _ [] rfl rfl rfl ?_ X_fc83p
  refine hK7 _ ?_
  refine Tr.v hcx [1000045] _ [] rfl rfl rfl ?_ X_fc83p
  refine ⟨a + 1,⟨by omega,O1⟩,?_,rfl⟩
  (simp only [Le_nil,Le_cons,↓A_cons,↓reduceIte,Nat.reduceEqDiff,CLe_refl,CLe_top,CLe_full,CLe_nil,CLe_own,and_true,true_and]; all_goals (repeat' first | exact CLe.refl _ | exact True.intro | (refine CLe_sln ?_; first | rfl | (simp only [List.take_zero]; done)) | exact CLe_nI (by omega) | exact CLe_int (by omega) | exact CLe_inI (by omega) | exact CLe_nIi (by omega) | with_reducible apply And.intro))
  all_goals first | exact CLe.refl _ | exact CLe_int (by omega) | (refine CLe_sl ?_; rw [← rI_next (le m) _ a (by omega),show (((le m).length : Int) - 1 - (a : Int)).toNat = (le m).length - 1 - a by omega]; try rfl)
 obtain rfl : a = (le m).length := by omega
 refine Tr.exit ?_
 refine hK5 _ ?_
 refine Tr.w hcx [1000058] _ [] rfl rfl rfl ?_ X_fc83p
 exact Tr.ret F_fc83p
theorem X_fc83n {p : Prop} (e : p := by intro KZ hZ; simp -implicitDefEqProofs (disch := first | omega | (simp only [go_sem,lA,lD,lT] <;> omega) | decide) only [go_sem,↓reduceIte,Nat.reduceEqDiff,reduceCtorEq,Nat.reduceLT,Nat.reduceBEq,Nat.reduceAdd,hy]; exact hZ) : p := e
theorem F_fc83n {p : Prop} (e : p := by simp -implicitDefEqProofs (disch := first | omega | (simp only [go_sem,lA,lD,lT] <;> omega) | decide) only [go_sem,↓reduceIte,Nat.reduceEqDiff,reduceCtorEq]; all_goals (rw [List.take_of_length_le (by simp)]; rw [← wint_neg m hk8]; unfold wint; rw [if_neg (by omega),show (-1 - (-1 - (m : Int))).toNat = m by omega]; rfl)) : p := e
theorem fc83n {gl : Nat → C} {M : Nat} {pu : Nat → List C → Option C} (hcx : CxOK (cxP gl M pu)) (m : Nat) (hm : m < 9223372036854775808) : FC Tryd.prog gl 83 [.val (.int .i64 (-1 - (m : Int)))] [] (sl bC (.own 1) (wI m 255)) [] := by
 replace hcx := hcx.reN (M := 59)
 refine FC.ofA (cx := cxP gl 59 pu) (rs := [.tmp 2]) rfl Tryd.func83 rfl rfl rfl (by simp only [List.length_cons,List.length_nil]; decide) (by simp only [go_sem]) ?_
 simp only [ini,go_sem]
 have hy := True.intro
 have hk8 : (le m).length ≤ 8 := le_len 8 m (by omega)
 refine Tr.w hcx [] _ [] rfl rfl rfl ?_ X_fc83n
 refine Tr.w hcx [1000009] _ [] rfl rfl rfl ?_ X_fc83n
 refine Tr.seqK fun K1 hK1 => ?_
 refine Tr.w hcx [] _ [] rfl rfl rfl ?_ X_fc83n
 refine Tr.cP rfl ((decide_eq_true (by omega))) ?_
 refine Tr.v hcx [1000013] _ [] rfl rfl rfl ?_ X_fc83n
 refine hK1 _ ?_
 refine Tr.w hcx [] _ [] rfl rfl rfl ?_ X_fc83n
 refine Tr.k [0,3,4] ?_
 refine Tr.seqK fun K2 hK2 => ?_
 refine Tr.blk ?_
 refine Tr.loopI (α := (Nat × List UInt8)) (fun a => [(0,?v0_1),(3,.val (nI a.1)),(4,sl bC (.own 1) a.2)]) (fun a => ?h_1) (fun a => a.1 ≤ m ∧ a.2 ++ le a.1 = le m) (fun a => a.1) ((m,[])) ?_ ?le_1 ?hh_1 ?bd_1
 case hh_1 => exact rfl
 case le_1 => (simp only [Le_nil,Le_cons,↓A_cons,↓reduceIte,Nat.reduceEqDiff,CLe_refl,CLe_top,CLe_full,CLe_nil,CLe_own,and_true,true_and]; all_goals (repeat' first | exact CLe.refl _ | exact True.intro | (refine CLe_sln ?_; first | rfl | (simp only [List.take_zero]; done)) | exact CLe_nI (by omega) | exact CLe_int (by omega) | exact CLe_inI (by omega) | exact CLe_nIi (by omega) | with_reducible apply And.intro)); all_goals first | exact CLe_inI (by omega) | exact CLe.refl _
 · exact ⟨Nat.le_refl _,rfl⟩
 rintro ⟨q,ds⟩ ⟨hq,hds⟩
 have hdl : ds.length ≤ 8 := by have := congrArg List.length hds; simp only [List.length_append] at this; omega
 simp only [] at hq hds ⊢
 refine Tr.seqK fun K3 hK3 => ?_
 refine Tr.w hcx [] _ [] rfl rfl rfl ?_ X_fc83n
 refine Tr.cD rfl (fun hc15 => ?_) (fun hc15 => ?_)
 ·
  refine Tr.skip ?_
  refine hK3 _ ?_
  refine Tr.blk ?_
  refine Tr.w hcx [16,1000021] _ [] rfl rfl rfl ?_ X_fc83n
  refine Tr.v hcx [1000023] _ [] rfl rfl rfl ?_ X_fc83n
  refine ⟨(q / 256,ds ++ [UInt8.ofNat (q % 256)]),⟨⟨by have := Nat.div_le_self q 256; simp only []; omega,by simp only [] at hds ⊢; rw [← hds,le_pos q (by omega)]; simp⟩,by have : q / 256 < q := Nat.div_lt_self (by omega) (by decide); exact this⟩,?_,rfl⟩
  (simp only [Le_nil,Le_cons,↓A_cons,↓reduceIte,Nat.reduceEqDiff,CLe_refl,CLe_top,CLe_full,CLe_nil,CLe_own,and_true,true_and]; all_goals (repeat' first | exact CLe.refl _ | exact True.intro | (refine CLe_sln ?_; first | rfl | (simp only [List.take_zero]; done)) | exact CLe_nI (by omega) | exact CLe_int (by omega) | exact CLe_inI (by omega) | exact CLe_nIi (by omega) | with_reducible apply And.intro))
  all_goals exact CLe.refl _
 obtain rfl : q = 0 := by omega
 rw [le_zero,List.append_nil] at hds
 subst hds
 clear hq hdl
 refine Tr.exit ?_
 refine hK2 _ ?_
 refine Tr.w hcx [1000025] _ [] rfl rfl rfl ?_ X_fc83n
 refine Tr.w hcx [] _ [] rfl rfl rfl ?_ X_fc83n
 refine Tr.seqK fun K4 hK4 => ?_
 refine Tr.w hcx [] _ [] rfl rfl rfl ?_ X_fc83n
 refine Tr.cN rfl ((decide_eq_false (by omega))) ?_
 refine Tr.v hcx [34,1000039] _ [] rfl rfl rfl ?_ X_fc83n
 refine hK4 _ ?_
 refine Tr.seqK fun K5 hK5 => ?_
 have hy := @n_subG
 refine Tr.w hcx [1000041] _ [] rfl rfl rfl ?_ X_fc83n
 refine Tr.k [0,4,6,7] ?_
 refine Tr.blk ?_
 refine Tr.loopI (α := Nat) (fun a => [(0,?v0_2),(4,?v4_2),(6,sl bC (.own 1) (UInt8.ofNat (127 - (le m).length) :: ((le m).reverse.map (fun c => UInt8.ofNat 255 - c)).take a)),(7,.val (.int .i64 (((le m).length : Int) - 1 - (a : Int))))]) (fun a => ?h_2) (fun a => a ≤ (le m).length) (fun a => (le m).length - a) (0) ?_ ?le_2 ?hh_2 ?bd_2
 case hh_2 => exact rfl
 case le_2 => (simp only [Le_nil,Le_cons,↓A_cons,↓reduceIte,Nat.reduceEqDiff,CLe_refl,CLe_top,CLe_full,CLe_nil,CLe_own,and_true,true_and]; all_goals (repeat' first | exact CLe.refl _ | exact True.intro | (refine CLe_sln ?_; first | rfl | (simp only [List.take_zero]; done)) | exact CLe_nI (by omega) | exact CLe_int (by omega) | exact CLe_inI (by omega) | exact CLe_nIi (by omega) | with_reducible apply And.intro)); all_goals first | exact CLe_slf (by simp) | exact CLe.refl _ | exact CLe_int (by omega) | exact CLe_sl (by simp)
 · omega
 rintro a ha
 refine Tr.seqK fun K6 hK6 => ?_
 have hy := True.intro
 refine Tr.w hcx [] _ [] rfl rfl rfl ?_ X_fc83n
 refine Tr.cD rfl (fun hc43 => ?_) (fun hc43 => ?_)
 ·
  refine Tr.skip ?_
  refine hK6 _ ?_
  refine Tr.seqK fun K7 hK7 => ?_
  refine Tr.blk ?_
  refine Tr.w hcx [1000049] _ [] rfl rfl rfl ?_ X_fc83n
  refine Tr.seqK fun K8 hK8 => ?_
  refine Tr.w hcx [] _ [] rfl rfl rfl ?_ X_fc83n
  refine Tr.cP rfl ((decide_eq_true (by omega))) ?_
  refine Tr.v hcx [1000053] _ [] rfl rfl rfl ?_ X_fc83n
  refine hK8 _ ?_
  refine Tr.v hcx [54,1000057] _ [] rfl rfl rfl ?_ X_fc83n
  refine hK7 _ ?_
  refine Tr.v hcx [1000045] _ [] rfl rfl rfl ?_ X_fc83n
  refine ⟨a + 1,⟨by omega,O1⟩,?_,rfl⟩
  (simp only [Le_nil,Le_cons,↓A_cons,↓reduceIte,Nat.reduceEqDiff,CLe_refl,CLe_top,CLe_full,CLe_nil,CLe_own,and_true,true_and]; all_goals (repeat' first | exact CLe.refl _ | exact True.intro | (refine CLe_sln ?_; first | rfl | (simp only [List.take_zero]; done)) | exact CLe_nI (by omega) | exact CLe_int (by omega) | exact CLe_inI (by omega) | exact CLe_nIi (by omega) | with_reducible apply And.intro))
  all_goals first | exact CLe.refl _ | exact CLe_int (by omega) | (refine CLe_sl ?_; rw [← rI_next (le m) _ a (by omega),show (((le m).length : Int) - 1 - (a : Int)).toNat = (le m).length - 1 - a by omega]; try rfl)
 obtain rfl : a = (le m).length := by omega
 refine Tr.exit ?_
 refine hK5 _ ?_
 refine Tr.w hcx [1000058] _ [] rfl rfl rfl ?_ X_fc83n
 exact Tr.ret F_fc83n
theorem X_fc74 {p : Prop} (e : p := by intro KZ hZ; simp -implicitDefEqProofs (disch := first | omega | (simp only [go_sem,lA,lD,lT] <;> omega) | decide) only [go_sem,↓reduceIte,Nat.reduceEqDiff,reduceCtorEq,Nat.reduceLT,Nat.reduceBEq,Nat.reduceAdd,h39,hy]; exact hZ) : p := e
theorem F_fc74 {p : Prop} (e : p := by simp -implicitDefEqProofs (disch := first | omega | (simp only [go_sem,lA,lD,lT] <;> omega) | decide) only [go_sem,↓reduceIte,Nat.reduceEqDiff,reduceCtorEq]; all_goals (unfold wb; rw [wint_pos])) : p := e
theorem fc74 {gl : Nat → C} {M : Nat} {pu : Nat → List C → Option C} (hcx : CxOK (cxP gl M pu)) (h39 : ∀ m : Nat,m < 9223372036854775808 → pu 39 [.val (nI m)] = some (sl bC (.own 1) (wI m 0))) (s : List UInt8) (hs : s.length < 70368744177664) : FC Tryd.prog gl 74 [.val (str s)] [] (sl bC (.own 1) (wb s)) [] := by
 replace hcx := hcx.reN (M := 8)
 refine FC.ofA (cx := cxP gl 8 pu) (rs := [.tmp 2]) rfl Tryd.func74 rfl rfl rfl (by simp only [List.length_cons,List.length_nil]; decide) (by simp only [go_sem]) ?_
 simp only [ini,go_sem]
 have hy := True.intro
 have hk8 : (wI s.length 0).length ≤ 9 := by have := le_len 8 s.length (by omega); simp [wI,be_len]; omega
 refine Tr.w hcx [] _ [] rfl rfl rfl ?_ X_fc74
 refine Tr.w hcx [5,1000007] _ [] rfl rfl rfl ?_ X_fc74
 exact Tr.ret F_fc74
theorem X_fc95 {p : Prop} (e : p := by intro KZ hZ; simp -implicitDefEqProofs (disch := first | omega | (simp only [go_sem,lA,lD,lT] <;> omega) | decide) only [go_sem,↓reduceIte,Nat.reduceEqDiff,reduceCtorEq,Nat.reduceLT,Nat.reduceBEq,Nat.reduceAdd,h83,hy]; exact hZ) : p := e
theorem F_fc95 {p : Prop} (e : p := by simp -implicitDefEqProofs (disch := first | omega | (simp only [go_sem,lA,lD,lT] <;> omega) | decide) only [go_sem,↓reduceIte,Nat.reduceEqDiff,reduceCtorEq]; all_goals (unfold wb; rw [wint_pos])) : p := e
theorem fc95 {gl : Nat → C} {M : Nat} {pu : Nat → List C → Option C} (hcx : CxOK (cxP gl M pu)) (h83 : ∀ m : Nat,m < 9223372036854775808 → pu 83 [.val (nI m)] = some (sl bC (.own 1) (wI m 0))) (s : List UInt8) (hs : s.length < 70368744177664) : FC Tryd.prog gl 95 [.val (str s)] [] (sl bC (.own 1) (wb s)) [] := by
 replace hcx := hcx.reN (M := 9)
 refine FC.ofA (cx := cxP gl 9 pu) (rs := [.tmp 2]) rfl Tryd.func95 rfl rfl rfl (by simp only [List.length_cons,List.length_nil]; decide) (by simp only [go_sem]) ?_
 simp only [ini,go_sem]
 have hy := True.intro
 have hk8 : (wI s.length 0).length ≤ 9 := by have := le_len 8 s.length (by omega); simp [wI,be_len]; omega
 refine Tr.w hcx [] _ [] rfl rfl rfl ?_ X_fc95
 refine Tr.w hcx [5,1000008] _ [] rfl rfl rfl ?_ X_fc95
 exact Tr.ret F_fc95
end Go.Sx
namespace Go.Sx
open Go.RowKit Go.Proofs
theorem word_eq (b : List UInt8) (t : Nat) (h : t < 16) : sched b (t + 1) = sched b t ++ [word4 b t] := by
  simp only [sched,h,if_true]
theorem sched_big (b : List UInt8) (t : Nat) (h : ¬ t < 16) : sched b (t + 1) = sched b t ++ [gt (sched b t) (t - 16) + (rr (gt (sched b t) (t - 15)) 7 ^^^ rr (gt (sched b t) (t - 15)) 18 ^^^ gt (sched b t) (t - 15) >>> 3) + gt (sched b t) (t - 7) +
        (rr (gt (sched b t) (t - 2)) 17 ^^^ rr (gt (sched b t) (t - 2)) 19 ^^^ gt (sched b t) (t - 2) >>> 10)] := by
  simp only [sched,h,if_false]
theorem app_rep63 {α : Type} (l : List α) (x y : α) (t : Nat) : l ++ x :: List.replicate (63 - t) y = (l ++ [x]) ++ List.replicate (64 - (t + 1)) y := by
  rw [show 64 - (t + 1) = 63 - t by omega]; simp
end Go.Sx
namespace Go.Sx
open Go.RowKit Go.Proofs
set_option maxRecDepth 100000
set_option maxHeartbeats 8000000
theorem X_fc84 {p : Prop} (e : p := by intro KZ hZ; simp -implicitDefEqProofs (disch := first | omega | (simp only [go_sem,lA,lD,lT,hh] <;> omega) | decide) only [go_sem,↓reduceIte,Nat.reduceEqDiff,reduceCtorEq,Nat.reduceLT,Nat.reduceBEq,Nat.reduceAdd,hy]; exact hZ) : p := e
theorem F_fc84 {p : Prop} (e : p := by simp -implicitDefEqProofs (disch := first | omega | (simp only [go_sem,lA,lD,lT,hh] <;> omega) | decide) only [go_sem,↓reduceIte,Nat.reduceEqDiff,reduceCtorEq]; all_goals (rw [List.take_of_length_le (by omega)])) : p := e
theorem fc84 {gl : Nat → C} {M : Nat} {pu : Nat → List C → Option C} (hcx : CxOK (cxP gl M pu)) (h : List UInt8) (hh : h.length = 16) : FC Tryd.prog gl 84 [.agg (cl bC h)] [] (.val (str h)) [] := by
 replace hcx := hcx.reN (M := 17)
 refine FC.ofA (cx := cxP gl 17 pu) (rs := [.tmp 2]) rfl Tryd.func84 rfl rfl rfl (by simp only [List.length_cons,List.length_nil]; decide) (by simp only [go_sem]) ?_
 simp only [ini,go_sem]
 have hy := True.intro
 refine Tr.w hcx [] _ [none] rfl rfl rfl ?_ X_fc84
 refine Tr.w hcx [] _ [] rfl rfl rfl ?_ X_fc84
 refine Tr.seqK fun K1 hK1 => ?_
 refine Tr.w hcx [] _ [] rfl rfl rfl ?_ X_fc84
 refine Tr.k [1,3,4] ?_
 refine Tr.blk ?_
 refine Tr.loopI (α := Nat) (fun a => [(1,?v1_1),(3,sl bC (.own 1) (h.take a)),(4,.val (nI a))]) (fun a => [some (cl bC h)]) (fun a => a ≤ 16) (fun a => 16 - a) (0) ?_ ?le_1 ?hh_1 ?bd_1
 case hh_1 => exact rfl
 case le_1 => exact LT
 · omega
 rintro i hi
 refine Tr.seqK fun K2 hK2 => ?_
 refine Tr.w hcx [] _ [] rfl rfl rfl ?_ X_fc84
 refine Tr.cD rfl (fun hc6 => ?_) (fun hc6 => ?_)
 ·
  refine Tr.skip ?_
  refine hK2 _ ?_
  refine Tr.seqK fun K3 hK3 => ?_
  refine Tr.blk ?_
  refine Tr.v hcx [9,1000014] _ [] rfl rfl rfl ?_ X_fc84
  refine hK3 _ ?_
  refine Tr.v hcx [1000008] _ [] rfl rfl rfl ?_ X_fc84
  refine ⟨i + 1,⟨by omega,O1⟩,?_,rfl⟩
  (simp only [Le_nil,Le_cons,↓A_cons,↓reduceIte,Nat.reduceEqDiff,CLe_refl,CLe_top,CLe_full,CLe_nil,CLe_own,and_true,true_and]; all_goals (repeat' first | exact CLe.refl _ | exact True.intro | (refine CLe_sln ?_; first | rfl | (simp only [List.take_zero]; done)) | exact CLe_nI (by omega) | exact CLe_int (by omega) | exact CLe_inI (by omega) | exact CLe_nIi (by omega) | with_reducible apply And.intro))
  all_goals (refine CLe_sl ?_; rw [take_snoc _ _ (by omega)])
 obtain rfl : i = 16 := by omega
 refine Tr.exit ?_
 refine hK1 _ ?_
 refine Tr.w hcx [1000016] _ [] rfl rfl rfl ?_ X_fc84
 exact Tr.ret F_fc84
theorem X_fc108 {p : Prop} (e : p := by intro KZ hZ; simp -implicitDefEqProofs (disch := first | omega | (simp only [go_sem,lA,lD,lT,be64_len] <;> omega) | decide) only [go_sem,↓reduceIte,Nat.reduceEqDiff,reduceCtorEq,Nat.reduceLT,Nat.reduceBEq,Nat.reduceAdd,hy]; exact hZ) : p := e
theorem F_fc108 {p : Prop} (e : p := by simp -implicitDefEqProofs (disch := first | omega | (simp only [go_sem,lA,lD,lT,be64_len] <;> omega) | decide) only [go_sem,↓reduceIte,Nat.reduceEqDiff,reduceCtorEq]; all_goals (simp [pad])) : p := e
theorem fc108 {gl : Nat → C} {M : Nat} {pu : Nat → List C → Option C} (hcx : CxOK (cxP gl M pu)) (b : List UInt8) (hb : b.length < 35184372088832) : FC Tryd.prog gl 108 [sl bC .no b] [] (sl bC (.own 1) (b ++ pad b.length)) [] := by
 replace hcx := hcx.reN (M := 37)
 refine FC.ofA (cx := cxP gl 37 pu) (rs := [.tmp 2]) rfl Tryd.func108 rfl rfl rfl (by simp only [List.length_cons,List.length_nil]; decide) (by simp only [go_sem]) ?_
 simp only [ini,go_sem]
 have hy := True.intro
 have hz : zpad b.length < 64 := Nat.mod_lt _ (by decide)
 refine Tr.w hcx [] _ [] rfl rfl rfl ?_ X_fc108
 refine Tr.w hcx [6,1000008] _ [] rfl rfl rfl ?_ X_fc108
 refine Tr.w hcx [9,1000011] _ [] rfl rfl rfl ?_ X_fc108
 refine Tr.k [0,3] ?_
 refine Tr.seqK fun K1 hK1 => ?_
 refine Tr.blk ?_
 refine Tr.loopI (α := Nat) (fun a => [(0,?v0_1),(3,sl bC (.own 1) (b ++ 128 :: List.replicate a 0))]) (fun a => ?h_1) (fun a => a ≤ zpad b.length) (fun a => zpad b.length - a) (0) ?_ ?le_1 ?hh_1 ?bd_1
 case hh_1 => exact rfl
 case le_1 => (simp only [Le_nil,Le_cons,↓A_cons,↓reduceIte,Nat.reduceEqDiff,CLe_refl,CLe_top,CLe_full,CLe_nil,CLe_own,and_true,true_and]; all_goals (repeat' first | exact CLe.refl _ | exact True.intro | (refine CLe_sln ?_; first | rfl | (simp only [List.take_zero]; done)) | exact CLe_nI (by omega) | exact CLe_int (by omega) | exact CLe_inI (by omega) | exact CLe_nIi (by omega) | with_reducible apply And.intro)); all_goals exact CLe_sl (by simp)
 · omega
 rintro z hzz
 have hL : (b ++ 128 :: List.replicate z 0).length = b.length + 1 + z := by simp; omega
 refine Tr.seqK fun K2 hK2 => ?_
 refine Tr.w hcx [] _ [] rfl rfl rfl ?_ X_fc108
 refine Tr.cD rfl (fun hc15 => ?_) (fun hc15 => ?_)
 ·
  refine Tr.skip ?_
  refine hK2 _ ?_
  refine Tr.blk ?_
  refine Tr.v hcx [16,1000018] _ [] rfl rfl rfl ?_ X_fc108
  refine ⟨z + 1,⟨by unfold zpad at *; omega,by unfold zpad at *; omega⟩,?_,rfl⟩
  (simp only [Le_nil,Le_cons,↓A_cons,↓reduceIte,Nat.reduceEqDiff,CLe_refl,CLe_top,CLe_full,CLe_nil,CLe_own,and_true,true_and]; all_goals (repeat' first | exact CLe.refl _ | exact True.intro | (refine CLe_sln ?_; first | rfl | (simp only [List.take_zero]; done)) | exact CLe_nI (by omega) | exact CLe_int (by omega) | exact CLe_inI (by omega) | exact CLe_nIi (by omega) | with_reducible apply And.intro))
  all_goals (refine CLe_sl ?_; rw [← rep_snoc z]; simp)
 obtain rfl : z = zpad b.length := by unfold zpad at *; omega
 refine Tr.exit ?_
 refine hK1 _ ?_
 refine Tr.w hcx [1000022] _ [] rfl rfl rfl ?_ X_fc108
 refine Tr.seqK fun K3 hK3 => ?_
 refine Tr.w hcx [] _ [] rfl rfl rfl ?_ X_fc108
 refine Tr.k [3,4,5] ?_
 refine Tr.blk ?_
 refine Tr.loopI (α := Nat) (fun a => [(3,sl bC (.own 1) (b ++ 128 :: List.replicate (zpad b.length) 0 ++ be64 (8 * b.length) a)),(4,?v4_2),(5,.val (nI a))]) (fun a => ?h_2) (fun a => a ≤ 8) (fun a => 8 - a) (0) ?_ ?le_2 ?hh_2 ?bd_2
 case hh_2 => exact rfl
 case le_2 => (simp only [Le_nil,Le_cons,↓A_cons,↓reduceIte,Nat.reduceEqDiff,CLe_refl,CLe_top,CLe_full,CLe_nil,CLe_own,and_true,true_and]; all_goals (repeat' first | exact CLe.refl _ | exact True.intro | (refine CLe_sln ?_; first | rfl | (simp only [List.take_zero]; done)) | exact CLe_nI (by omega) | exact CLe_int (by omega) | exact CLe_inI (by omega) | exact CLe_nIi (by omega) | with_reducible apply And.intro)); all_goals exact CLe_sl (by simp [be64])
 · omega
 rintro k hk
 refine Tr.seqK fun K4 hK4 => ?_
 refine Tr.w hcx [] _ [] rfl rfl rfl ?_ X_fc108
 refine Tr.cD rfl (fun hc24 => ?_) (fun hc24 => ?_)
 ·
  refine Tr.skip ?_
  refine hK4 _ ?_
  refine Tr.seqK fun K5 hK5 => ?_
  refine Tr.blk ?_
  refine Tr.v hcx [27,1000035] _ [] rfl rfl rfl ?_ X_fc108
  refine hK5 _ ?_
  refine Tr.v hcx [1000026] _ [] rfl rfl rfl ?_ X_fc108
  refine ⟨k + 1,⟨by omega,O1⟩,?_,rfl⟩
  (simp only [Le_nil,Le_cons,↓A_cons,↓reduceIte,Nat.reduceEqDiff,CLe_refl,CLe_top,CLe_full,CLe_nil,CLe_own,and_true,true_and]; all_goals (repeat' first | exact CLe.refl _ | exact True.intro | (refine CLe_sln ?_; first | rfl | (simp only [List.take_zero]; done)) | exact CLe_nI (by omega) | exact CLe_int (by omega) | exact CLe_inI (by omega) | exact CLe_nIi (by omega) | with_reducible apply And.intro))
  all_goals (refine CLe_sl ?_; rw [be64_succ]; simp)
 obtain rfl : k = 8 := by omega
 refine Tr.exit ?_
 refine hK3 _ ?_
 refine Tr.w hcx [1000036] _ [] rfl rfl rfl ?_ X_fc108
 exact Tr.ret F_fc108
theorem X_fc109 {p : Prop} (e : p := by intro KZ hZ; simp -implicitDefEqProofs (disch := first | omega | (simp only [go_sem,lA,lD,lT,sched_len,hb] <;> omega) | decide) only [go_sem,↓reduceIte,Nat.reduceEqDiff,reduceCtorEq,Nat.reduceLT,Nat.reduceBEq,Nat.reduceAdd,Nat.reduceSub,Nat.reduceMul,Nat.reduceMod,Int.reduceMod,Int.reduceToNat,Int.reduceNeg,h110,gt_left,gt_mid,set_rep,sched_len,hy]; exact hZ) : p := e
theorem Y_fc109 {p : Prop} (e : p := by intro KZ hZ; simp -implicitDefEqProofs (disch := first | omega | (simp only [go_sem,lA,lD,lT,sched_len,hb] <;> omega) | decide) only [go_sem,↓reduceIte,Nat.reduceEqDiff,reduceCtorEq,Nat.reduceLT,Nat.reduceBEq,Nat.reduceAdd,Nat.reduceSub,Nat.reduceMul,Nat.reduceMod,Int.reduceMod,Int.reduceToNat,Int.reduceNeg,h110,gt_left,gt_mid,set_rep,sched_len,hy]; refine And.intro ?_ hZ; exact rfl) : p := e
theorem F_fc109 {p : Prop} (e : p := by simp -implicitDefEqProofs (disch := first | omega | (simp only [go_sem,lA,lD,lT,sched_len,hb] <;> omega) | decide) only [go_sem,↓reduceIte,Nat.reduceEqDiff,reduceCtorEq]; all_goals (simp)) : p := e
theorem fc109 {gl : Nat → C} {M : Nat} {pu : Nat → List C → Option C} (hcx : CxOK (cxP gl M pu)) (h110 : ∀ x n,n < 32 → pu 110 [.val (w32 x),.val (nI n)] = some (.val (w32 (rr x n)))) (b : List UInt8) (hb : b.length = 64) : FC Tryd.prog gl 109 [sl bC .no b] [] (.agg (cl wC (sched b 64))) [] := by
 replace hcx := hcx.reN (M := 101)
 refine FC.ofA (cx := cxP gl 101 pu) (rs := [.cell 2 162]) rfl Tryd.func109 rfl rfl rfl (by simp only [List.length_cons,List.length_nil]; decide) (by simp only [go_sem]) ?_
 simp only [ini,go_sem]
 have hy := True.intro
 refine Tr.w hcx [] _ [none] rfl rfl rfl ?_ X_fc109
 refine Tr.w hcx [] _ [none] rfl rfl rfl ?_ X_fc109
 refine Tr.seqK fun K1 hK1 => ?_
 refine Tr.w hcx [] _ [] rfl rfl rfl ?_ X_fc109
 refine Tr.k [0,2,3,4] ?_
 refine Tr.blk ?_
 refine Tr.loopI (α := Nat) (fun a => [(0,?v0_1),(2,?v2_1),(3,?v3_1),(4,.val (nI a))]) (fun a => [some (cl wC (List.replicate 64 0)),some (cl wC (sched b a ++ List.replicate (64 - a) 0))]) (fun a => a ≤ 16) (fun a => 16 - a) (0) ?_ ?le_1 ?hh_1 ?bd_1
 case hh_1 => exact rfl
 case le_1 => exact LT
 · omega
 rintro t ht
 refine Tr.seqK fun K2 hK2 => ?_
 refine Tr.w hcx [] _ [] rfl rfl rfl ?_ X_fc109
 refine Tr.cD rfl (fun hc9 => ?_) (fun hc9 => ?_)
 ·
  refine Tr.skip ?_
  refine hK2 _ ?_
  refine Tr.k [0,2,3,4] ?_
  refine Tr.seqK fun K3 hK3 => ?_
  refine Tr.blk ?_
  refine Tr.vD hcx hMO [] _ [] rfl rfl rfl rfl ?_ Y_fc109
  refine hK3 _ ?_
  refine Tr.k [0,2,3,4] ?_
  refine Tr.v hcx [1000011] _ [] rfl rfl rfl ?_ X_fc109
  exact ⟨t + 1,⟨by omega,O1⟩,LT,by dsimp only; rw [word_eq b t hc9]; first | rw [app_rep] | rw [app_rep63]; rfl⟩
 obtain rfl : t = 16 := by omega
 refine Tr.exit ?_
 refine hK1 _ ?_
 refine Tr.seqK fun K4 hK4 => ?_
 refine Tr.w hcx [] _ [] rfl rfl rfl ?_ X_fc109
 refine Tr.k [2,3,5] ?_
 refine Tr.blk ?_
 refine Tr.loopI (α := Nat) (fun a => [(2,?v2_2),(3,?v3_2),(5,.val (nI a))]) (fun a => [some (cl wC (List.replicate 64 0)),some (cl wC (sched b a ++ List.replicate (64 - a) 0))]) (fun a => 16 ≤ a ∧ a ≤ 64) (fun a => 64 - a) (16) ?_ ?le_2 ?hh_2 ?bd_2
 case hh_2 => exact rfl
 case le_2 => exact LT
 · exact ⟨by omega,by omega⟩
 rintro t ht
 refine Tr.seqK fun K5 hK5 => ?_
 refine Tr.w hcx [] _ [] rfl rfl rfl ?_ X_fc109
 refine Tr.cD rfl (fun hc48 => ?_) (fun hc48 => ?_)
 ·
  refine Tr.skip ?_
  refine hK5 _ ?_
  refine Tr.seqK fun K6 hK6 => ?_
  refine Tr.blk ?_
  refine Tr.wD hcx hMO [1000067] _ [] rfl rfl rfl rfl ?_ Y_fc109
  refine Tr.k [2,3,5,6] ?_
  refine Tr.wD hcx hMO [1000084] _ [] rfl rfl rfl rfl ?_ Y_fc109
  refine Tr.k [2,3,5,6,7] ?_
  refine Tr.vD hcx hMO [] _ [] rfl rfl rfl rfl ?_ Y_fc109
  refine hK6 _ ?_
  refine Tr.v hcx [1000050] _ [] rfl rfl rfl ?_ X_fc109
  exact ⟨t + 1,⟨by omega,O1⟩,LT,by dsimp only; rw [sched_big b t (by omega)]; first | rw [app_rep] | rw [app_rep63] <;> rfl⟩
 obtain rfl : t = 64 := by omega
 refine Tr.exit ?_
 refine hK4 _ ?_
 refine Tr.w hcx [] _ [] rfl rfl rfl ?_ X_fc109
 exact Tr.ret F_fc109
end Go.Sx
namespace Go.Sx
open Go.RowKit Go.Proofs
set_option maxRecDepth 100000
set_option maxHeartbeats 8000000
theorem X_fc94 {p : Prop} (e : p := by intro KZ hZ; simp -implicitDefEqProofs (disch := first | omega | (simp only [go_sem,lA,lD,lT,hMl,hMq,sched_len,S8.l_len,dig_len,kc_len] <;> omega) | decide) only [go_sem,↓reduceIte,Nat.reduceEqDiff,reduceCtorEq,Nat.reduceLT,Nat.reduceBEq,Nat.reduceAdd,hM,h108,h109,h110,xor_ff,hg0,S8.l,cl_nil,hy]; exact hZ) : p := e
theorem Y_fc94 {p : Prop} (e : p := by intro KZ hZ; simp -implicitDefEqProofs (disch := first | omega | (simp only [go_sem,lA,lD,lT,hMl,hMq,sched_len,S8.l_len,dig_len,kc_len] <;> omega) | decide) only [go_sem,↓reduceIte,Nat.reduceEqDiff,reduceCtorEq,Nat.reduceLT,Nat.reduceBEq,Nat.reduceAdd,hM,h108,h109,h110,xor_ff,hg0,S8.l,cl_nil,hy]; refine And.intro ?_ hZ; exact rfl) : p := e
theorem F_fc94 {p : Prop} (e : p := by simp -implicitDefEqProofs (disch := first | omega | (simp only [go_sem,lA,lD,lT,hMl,hMq,sched_len,S8.l_len,dig_len,kc_len] <;> omega) | decide) only [go_sem,↓reduceIte,Nat.reduceEqDiff,reduceCtorEq]; all_goals (rw [hsha]; simp)) : p := e
theorem fc94 {gl : Nat → C} {M : Nat} {pu : Nat → List C → Option C} (hcx : CxOK (cxP gl M pu)) (hg0 : gl 0 = .kp (cl wC kc)) (h108 : ∀ b : List UInt8,b.length < 35184372088832 → pu 108 [sl bC .no b] = some (sl bC (.own 1) (b ++ pad b.length))) (h109 : ∀ b : List UInt8,b.length = 64 → pu 109 [sl bC .no b] = some (.agg (cl wC (sched b 64)))) (h110 : ∀ x n,n < 32 → pu 110 [.val (w32 x),.val (nI n)] = some (.val (w32 (rr x n)))) (b : List UInt8) (hb : b.length < 35184372088832) : FC Tryd.prog gl 94 [sl bC .no b] [] (.agg (cl bC (sha b))) [] := by
 replace hcx := hcx.reN (M := 164)
 refine FC.ofA (cx := cxP gl 164 pu) (rs := [.cell 2 141]) rfl Tryd.func94 rfl rfl rfl (by simp only [List.length_cons,List.length_nil]; decide) (by simp only [go_sem]) ?_
 simp only [ini,go_sem]
 have hy := True.intro
 obtain ⟨Q,hQ⟩ := padM_len b
 have hpl := pad_len b.length
 have hz : zpad b.length < 64 := Nat.mod_lt _ (by decide)
 have hsha := sha_eq b
 obtain ⟨M,hM⟩ : ∃ M,b ++ pad b.length = M := ⟨_,rfl⟩
 rw [hM] at hQ hsha
 have hMl : M.length = 64 * Q := hQ
 have hMb : M.length < 35184372088932 := by rw [← hM,List.length_append,hpl]; omega
 have hMq := True.intro
 refine Tr.w hcx [] _ [none] rfl rfl rfl ?_ X_fc94
 refine Tr.w hcx [] _ [none] rfl rfl rfl ?_ X_fc94
 refine Tr.w hcx [1000022] _ [] rfl rfl rfl ?_ X_fc94
 refine Tr.seqK fun K1 hK1 => ?_
 refine Tr.w hcx [] _ [] rfl rfl rfl ?_ X_fc94
 refine Tr.k [2,3,4,5] ?_
 refine Tr.blk ?_
 refine Tr.loopI (α := Nat) (fun a => [(2,?v2_1),(3,?v3_1),(4,?v4_1),(5,.val (nI (64 * a)))]) (fun a => [some (cl bC (List.replicate 32 0)),some (cl wC (feed F0 (M.take (64 * a))).s.l)]) (fun a => a ≤ Q) (fun a => Q - a) (0) ?_ ?le_1 ?hh_1 ?bd_1
 case hh_1 => exact by simp only [Nat.mul_zero,List.take_zero]; rfl
 case le_1 => exact LT
 · omega
 rintro q hq
 have hMq : ((M.drop (64 * q)).take (64 * q + 64 - 64 * q)).length = min 64 (64 * Q - 64 * q) := by rw [List.length_take,List.length_drop,hMl]; omega
 refine Tr.seqK fun K2 hK2 => ?_
 refine Tr.w hcx [] _ [] rfl rfl rfl ?_ X_fc94
 refine Tr.cD rfl (fun hc26 => ?_) (fun hc26 => ?_)
 ·
  refine Tr.skip ?_
  refine hK2 _ ?_
  refine Tr.seqK fun K3 hK3 => ?_
  refine Tr.blk ?_
  refine Tr.w hcx [] _ [none] rfl rfl rfl ?_ X_fc94
  refine Tr.k [2,3,4,5,6] ?_
  refine Tr.wD hcx hMO [1000036,1000038,1000040,1000042,1000044,1000046,1000048,1000050] _ [] rfl rfl rfl rfl ?_ Y_fc94
  refine Tr.k [2,3,4,5,6,7,8,9,10,11,12,13,14] ?_
  refine Tr.seqK fun K4 hK4 => ?_
  refine Tr.w hcx [] _ [] rfl rfl rfl ?_ X_fc94
  refine Tr.k [2,3,4,5,6,7,8,9,10,11,12,13,14,15] ?_
  refine Tr.blk ?_
  refine Tr.loopI (α := Nat) (fun a => [(2,?v2_2),(3,?v3_2),(4,?v4_2),(5,?v5_2),(6,?v6_2),(7,.val (w32 (rounds (sched ((M.drop (64 * q)).take 64) 64) (feed F0 (M.take (64 * q))).s a).a)),(8,.val (w32 (rounds (sched ((M.drop (64 * q)).take 64) 64) (feed F0 (M.take (64 * q))).s a).b)),(9,.val (w32 (rounds (sched ((M.drop (64 * q)).take 64) 64) (feed F0 (M.take (64 * q))).s a).c)),(10,.val (w32 (rounds (sched ((M.drop (64 * q)).take 64) 64) (feed F0 (M.take (64 * q))).s a).d)),(11,.val (w32 (rounds (sched ((M.drop (64 * q)).take 64) 64) (feed F0 (M.take (64 * q))).s a).e)),(12,.val (w32 (rounds (sched ((M.drop (64 * q)).take 64) 64) (feed F0 (M.take (64 * q))).s a).f)),(13,.val (w32 (rounds (sched ((M.drop (64 * q)).take 64) 64) (feed F0 (M.take (64 * q))).s a).g)),(14,.val (w32 (rounds (sched ((M.drop (64 * q)).take 64) 64) (feed F0 (M.take (64 * q))).s a).h)),(15,.val (nI a))]) (fun a => [some (cl bC (List.replicate 32 0)),some (cl wC (feed F0 (M.take (64 * q))).s.l),some (cl wC (sched ((M.drop (64 * q)).take 64) 64))]) (fun a => a ≤ 64) (fun a => 64 - a) (0) ?_ ?le_2 ?hh_2 ?bd_2
  case hh_2 => exact rfl
  case le_2 => exact LT
  · omega
  rintro i hi
  refine Tr.seqK fun K5 hK5 => ?_
  refine Tr.w hcx [] _ [] rfl rfl rfl ?_ X_fc94
  refine Tr.cD rfl (fun hc52 => ?_) (fun hc52 => ?_)
  ·
   refine Tr.skip ?_
   refine hK5 _ ?_
   refine Tr.k [2,3,4,5,6,7,8,9,10,11,12,13,14,15] ?_
   refine Tr.seqK fun K6 hK6 => ?_
   refine Tr.blk ?_
   refine Tr.wD hcx hMO [1000081] _ [] rfl rfl rfl rfl ?_ Y_fc94
   refine Tr.k [2,3,4,5,6,7,8,9,10,11,12,13,15,16] ?_
   refine Tr.w hcx [1000101] _ [] rfl rfl rfl ?_ X_fc94
   refine Tr.k [2,3,4,5,6,7,8,9,10,11,12,13,15,16,17] ?_
   refine Tr.w hcx [1000102] _ [] rfl rfl rfl ?_ X_fc94
   refine Tr.w hcx [1000103] _ [] rfl rfl rfl ?_ X_fc94
   refine Tr.w hcx [1000104] _ [] rfl rfl rfl ?_ X_fc94
   refine Tr.w hcx [1000107] _ [] rfl rfl rfl ?_ X_fc94
   refine Tr.k [2,3,4,5,6,7,8,9,11,12,13,14,15,16,17] ?_
   refine Tr.w hcx [1000108] _ [] rfl rfl rfl ?_ X_fc94
   refine Tr.w hcx [1000109] _ [] rfl rfl rfl ?_ X_fc94
   refine Tr.w hcx [1000110] _ [] rfl rfl rfl ?_ X_fc94
   refine Tr.v hcx [1000113] _ [] rfl rfl rfl ?_ X_fc94
   refine hK6 _ ?_
   refine Tr.k [2,3,4,5,6,7,8,9,10,11,12,13,14,15] ?_
   refine Tr.v hcx [1000054] _ [] rfl rfl rfl ?_ X_fc94
   exact ⟨i + 1,⟨by omega,O1⟩,LT,rfl⟩
  obtain rfl : i = 64 := by omega
  refine Tr.exit ?_
  refine hK4 _ ?_
  refine Tr.k [2,3,4,5,7,8,9,10,11,12,13,14] ?_
  refine Tr.v hcx [] _ [] rfl rfl rfl ?_ X_fc94
  refine hK3 _ ?_
  refine Tr.k [2,3,4,5] ?_
  refine Tr.cutA hcx 2 (by decide) ?_ ?_ ?_
  · simp only [noRefE_nil,noRefE_cons,go_sem,Bool.true_and] <;> decide
  · simp only [List.take_succ_cons,List.take_zero,noRefH_nil,noRefH_none,noRefH_some,go_sem,Bool.true_and] <;> decide
  simp only [List.take_succ_cons,List.take_zero]
  refine Tr.v hcx [1000028] _ [] rfl rfl rfl ?_ X_fc94
  exact ⟨q + 1,⟨by omega,O1⟩,LT,by dsimp only; rw [blk_step M q (by omega)]; rfl⟩
 obtain rfl : q = Q := by omega
 rw [show 64 * q = M.length by omega,List.take_length]
 refine Tr.exit ?_
 refine hK1 _ ?_
 refine Tr.w hcx [] _ [none] rfl rfl rfl ?_ X_fc94
 refine Tr.seqK fun K7 hK7 => ?_
 refine Tr.w hcx [] _ [] rfl rfl rfl ?_ X_fc94
 refine Tr.k [2,3,18,19] ?_
 refine Tr.blk ?_
 refine Tr.loopI (α := Nat) (fun a => [(2,?v2_3),(3,?v3_3),(18,?v18_3),(19,.val (nI a))]) (fun a => [some (cl bC (List.replicate 32 0)),some (cl wC (feed F0 M).s.l),some (cl bC (dig (feed F0 M).s a ++ List.replicate (32 - a) 0))]) (fun a => a ≤ 32) (fun a => 32 - a) (0) ?_ ?le_3 ?hh_3 ?bd_3
 case hh_3 => exact rfl
 case le_3 => exact LT
 · omega
 rintro i hi
 refine Tr.seqK fun K8 hK8 => ?_
 refine Tr.w hcx [] _ [] rfl rfl rfl ?_ X_fc94
 refine Tr.cD rfl (fun hc148 => ?_) (fun hc148 => ?_)
 ·
  refine Tr.skip ?_
  refine hK8 _ ?_
  refine Tr.seqK fun K9 hK9 => ?_
  refine Tr.blk ?_
  refine Tr.v hcx [] _ [] rfl rfl rfl ?_ X_fc94
  refine hK9 _ ?_
  refine Tr.v hcx [1000150] _ [] rfl rfl rfl ?_ X_fc94
  exact ⟨i + 1,⟨by omega,O1⟩,LT,by dsimp only; rw [set_rep _ _ _ _ _ (dig_len _ _) hc148,← dig_next _ i hc148]; rfl⟩
 obtain rfl : i = 32 := by omega
 refine Tr.exit ?_
 refine hK7 _ ?_
 refine Tr.w hcx [] _ [] rfl rfl rfl ?_ X_fc94
 exact Tr.ret F_fc94
theorem X_fc64 {p : Prop} (e : p := by intro KZ hZ; simp -implicitDefEqProofs (disch := first | omega | (simp only [go_sem,lA,lD,lT,hl32,hl16] <;> omega) | decide) only [go_sem,↓reduceIte,Nat.reduceEqDiff,reduceCtorEq,Nat.reduceLT,Nat.reduceBEq,Nat.reduceAdd,h94,cl_nil,hy]; exact hZ) : p := e
theorem F_fc64 {p : Prop} (e : p := by simp -implicitDefEqProofs (disch := first | omega | (simp only [go_sem,lA,lD,lT,hl32,hl16] <;> omega) | decide) only [go_sem,↓reduceIte,Nat.reduceEqDiff,reduceCtorEq]; all_goals (simp)) : p := e
theorem fc64 {gl : Nat → C} {M : Nat} {pu : Nat → List C → Option C} (hcx : CxOK (cxP gl M pu)) (h94 : ∀ b : List UInt8,b.length < 35184372088832 → pu 94 [sl bC .no b] = some (.agg (cl bC (sha b)))) (b : List UInt8) (hb : b.length < 35184372088832) : FC Tryd.prog gl 64 [sl bC .no b] [] (.agg (cl bC ((sha b).take 16))) [] := by
 replace hcx := hcx.reN (M := 19)
 refine FC.ofA (cx := cxP gl 19 pu) (rs := [.cell 2 29]) rfl Tryd.func64 rfl rfl rfl (by simp only [List.length_cons,List.length_nil]; decide) (by simp only [go_sem]) ?_
 simp only [ini,go_sem]
 have hy := True.intro
 have hl32 := sha_len b
 have hl16 : ((sha b).take 16).length = 16 := by simp [hl32]
 refine Tr.w hcx [] _ [none] rfl rfl rfl ?_ X_fc64
 refine Tr.w hcx [] _ [none] rfl rfl rfl ?_ X_fc64
 refine Tr.w hcx [] _ [none] rfl rfl rfl ?_ X_fc64
 refine Tr.seqK fun K1 hK1 => ?_
 refine Tr.w hcx [] _ [] rfl rfl rfl ?_ X_fc64
 refine Tr.k [2,3,4,5] ?_
 refine Tr.blk ?_
 refine Tr.loopI (α := Nat) (fun a => [(2,?v2_1),(3,?v3_1),(4,?v4_1),(5,.val (nI a))]) (fun a => [some (cl bC (List.replicate 16 0)),some (cl bC (sha b)),some (cl bC ((sha b).take a ++ List.replicate (16 - a) 0))]) (fun a => a ≤ 16) (fun a => 16 - a) (0) ?_ ?le_1 ?hh_1 ?bd_1
 case hh_1 => exact rfl
 case le_1 => exact LT
 · omega
 rintro i hi
 refine Tr.seqK fun K2 hK2 => ?_
 refine Tr.w hcx [] _ [] rfl rfl rfl ?_ X_fc64
 refine Tr.cD rfl (fun hc10 => ?_) (fun hc10 => ?_)
 ·
  refine Tr.skip ?_
  refine hK2 _ ?_
  refine Tr.seqK fun K3 hK3 => ?_
  refine Tr.blk ?_
  refine Tr.v hcx [] _ [] rfl rfl rfl ?_ X_fc64
  refine hK3 _ ?_
  refine Tr.v hcx [1000012] _ [] rfl rfl rfl ?_ X_fc64
  exact ⟨i + 1,⟨by omega,O1⟩,LT,by dsimp only; rw [set_rep _ _ _ _ _ (by rw [List.length_take]; omega) hc10,take_rep _ _ _ _ (by omega)] <;> rfl⟩
 obtain rfl : i = 16 := by omega
 refine Tr.exit ?_
 refine hK1 _ ?_
 refine Tr.w hcx [] _ [] rfl rfl rfl ?_ X_fc64
 exact Tr.ret F_fc64
theorem X_fc65 {p : Prop} (e : p := by intro KZ hZ; simp -implicitDefEqProofs (disch := first | omega | (simp only [go_sem,lA,lD,lT,hlp1,hlp2] <;> omega) | decide) only [go_sem,↓reduceIte,Nat.reduceEqDiff,reduceCtorEq,Nat.reduceLT,Nat.reduceBEq,Nat.reduceAdd,h95,hy]; exact hZ) : p := e
theorem F_fc65 {p : Prop} (e : p := by simp -implicitDefEqProofs (disch := first | omega | (simp only [go_sem,lA,lD,lT,hlp1,hlp2] <;> omega) | decide) only [go_sem,↓reduceIte,Nat.reduceEqDiff,reduceCtorEq]; all_goals (rw [List.take_length])) : p := e
theorem fc65 {gl : Nat → C} {M : Nat} {pu : Nat → List C → Option C} (hcx : CxOK (cxP gl M pu)) (h95 : ∀ s : List UInt8,s.length < 70368744177664 → pu 95 [.val (str s)] = some (sl bC (.own 1) (wb s))) (tag : Int) (parts : List (List UInt8)) (hl : (inp tag parts).length < 1099511627776) : FC Tryd.prog gl 65 [.val (.int .i64 tag),sl sC .no parts] [] (sl bC (.own 1) (inp tag parts)) [] := by
 replace hcx := hcx.reN (M := 24)
 refine FC.ofA (cx := cxP gl 24 pu) (rs := [.tmp 4]) rfl Tryd.func65 rfl rfl rfl (by simp only [List.length_cons,List.length_nil]; decide) (by simp only [go_sem]) ?_
 simp only [ini,go_sem]
 have hy := True.intro
 have hlp := parts_bound tag parts hl
 have hlp1 := hl
 have hpl := parts_len tag parts hl
 have hlp2 := True.intro
 refine Tr.w hcx [] _ [] rfl rfl rfl ?_ X_fc65
 refine Tr.w hcx [1000009] _ [] rfl rfl rfl ?_ X_fc65
 refine Tr.seqK fun K1 hK1 => ?_
 refine Tr.w hcx [] _ [] rfl rfl rfl ?_ X_fc65
 refine Tr.k [1,5,6] ?_
 refine Tr.blk ?_
 refine Tr.loopI (α := Nat) (fun a => [(1,?v1_1),(5,sl bC (.own 1) (inp tag (parts.take a))),(6,.val (nI a))]) (fun a => ?h_1) (fun a => a ≤ parts.length) (fun a => parts.length - a) (0) ?_ ?le_1 ?hh_1 ?bd_1
 case hh_1 => exact rfl
 case le_1 => (simp only [Le_nil,Le_cons,↓A_cons,↓reduceIte,Nat.reduceEqDiff,CLe_refl,CLe_top,CLe_full,CLe_nil,CLe_own,and_true,true_and]; all_goals (repeat' first | exact CLe.refl _ | exact True.intro | (refine CLe_sln ?_; first | rfl | (simp only [List.take_zero]; done)) | exact CLe_nI (by omega) | exact CLe_int (by omega) | exact CLe_inI (by omega) | exact CLe_nIi (by omega) | with_reducible apply And.intro)); all_goals (exact CLe_slf (by simp [inp]))
 · omega
 rintro i hi
 refine Tr.seqK fun K2 hK2 => ?_
 refine Tr.w hcx [] _ [] rfl rfl rfl ?_ X_fc65
 refine Tr.cD rfl (fun hc13 => ?_) (fun hc13 => ?_)
 ·
  obtain ⟨hlp1,hlp2⟩ := hlp i hc13
  refine Tr.skip ?_
  refine hK2 _ ?_
  refine Tr.seqK fun K3 hK3 => ?_
  refine Tr.blk ?_
  refine Tr.v hcx [16,1000022] _ [] rfl rfl rfl ?_ X_fc65
  refine hK3 _ ?_
  refine Tr.v hcx [1000015] _ [] rfl rfl rfl ?_ X_fc65
  refine ⟨i + 1,⟨by omega,O1⟩,?_,rfl⟩
  (simp only [Le_nil,Le_cons,↓A_cons,↓reduceIte,Nat.reduceEqDiff,CLe_refl,CLe_top,CLe_full,CLe_nil,CLe_own,and_true,true_and]; all_goals (repeat' first | exact CLe.refl _ | exact True.intro | (refine CLe_sln ?_; first | rfl | (simp only [List.take_zero]; done)) | exact CLe_nI (by omega) | exact CLe_int (by omega) | exact CLe_inI (by omega) | exact CLe_nIi (by omega) | with_reducible apply And.intro))
  all_goals (refine CLe_sl ?_; rw [inp_take tag parts i hc13])
 obtain rfl : i = parts.length := by omega
 refine Tr.exit ?_
 refine hK1 _ ?_
 refine Tr.w hcx [1000023] _ [] rfl rfl rfl ?_ X_fc65
 exact Tr.ret F_fc65
end Go.Sx
namespace Go.Sx
open Go.RowKit Go.Proofs
end Go.Sx
namespace Go.Sx
open Go.RowKit Go.Proofs
theorem gt_mem {α : Type} [Inhabited α] (l : List α) (i : Nat) (h : i < l.length) : gt l i ∈ l := by
  simp [gt,List.getD,List.getElem?_eq_getElem h]
theorem wintn_len (n : Nat) (h : n < 18446744073709551616) : (wint (n : Int)).length ≤ 9 := by
  unfold wint
  rw [if_pos (by omega)]
  have := le_len 8 n (by simpa using h)
  simp; omega
theorem dec_len {α : Type} [DecidableEq α] {x y : List α} (h : ¬ x.length = y.length) : decide (x = y) = false := by
  rw [decide_eq_false_iff_not]; rintro rfl; exact h rfl
theorem dec_ne {α : Type} [Inhabited α] [DecidableEq α] {x y : List α} {i : Nat} (h : ¬ gt x i = gt y i) : decide (x = y) = false := by
  rw [decide_eq_false_iff_not]; rintro rfl; exact h rfl
theorem dec_eq {α : Type} [DecidableEq α] {x y : List α} {i : Nat} (hi : ¬ i < x.length) (hl : x.length = y.length) (h : x.take i = y.take i) : decide (x = y) = true := by
  rw [decide_eq_true_iff,← List.take_of_length_le (show x.length ≤ i by omega),h,List.take_of_length_le (by omega)]
theorem take_next2 {α : Type} [Inhabited α] {x y : List α} {i : Nat} (hi : i < x.length) (hl : x.length = y.length) (h : x.take i = y.take i) (he : gt x i = gt y i) : x.take (i + 1) = y.take (i + 1) := by
  rw [take_snoc x i hi,take_snoc y i (by omega),h,he]
end Go.Sx
namespace Go.Sx
end Go.Sx
namespace Go.Sx
end Go.Sx
namespace Go.Sx
end Go.Sx
namespace Go.Sx
end Go.Sx
namespace Go.Sx
open Go.RowKit
section
variable (a1 b1 : Nat) (z1 : List Value)
theorem ldK_fn (x y : Array TypeId) (v : Bool) (xs : List C) : ldK (some ⟨.func x y v,a1,b1,z1⟩) xs = (rdc xs 0).map vp := rfl
end
theorem mp_cons0 (o : Option (List C)) (h : Hp) : Hp.mp (o :: h) 0 = mpL o := rfl
theorem mp_consS (o : Option (List C)) (h : Hp) (n : Nat) : Hp.mp (o :: h) (n + 1) = Hp.mp h n := rfl
attribute [go_sem] ldK_fn mp_cons0 mp_consS
end Go.Sx
namespace Go.Sx
open Go.RowKit
end Go.Sx
namespace Go.Sx
open Go.RowKit
def mvBt (t n : Nat) : Option Nat → C
  | some j => .bt j t n
  | none => .top
theorem mvC_bt (ρ : List Nat) (b t n : Nat) : mvC ρ (.bt b t n) = mvBt t n (loc ρ 0 b) := by simp only [mvC]; cases loc ρ 0 b <;> rfl
theorem mvBt_some (t n j : Nat) : mvBt t n (some j) = .bt j t n := rfl
theorem mvBt_none (t n : Nat) : mvBt t n none = .top := rfl
def mvMp : Option Nat → C
  | some j => .mp j
  | none => .top
theorem mvC_mp (ρ : List Nat) (b : Nat) : mvC ρ (.mp b) = mvMp (loc ρ 0 b) := by simp only [mvC]; cases loc ρ 0 b <;> rfl
theorem mvMp_some (j : Nat) : mvMp (some j) = .mp j := rfl
theorem mvMp_none : mvMp none = .top := rfl
section
variable (cx : Cx) (apps : List Nat) (dsts : List (Option Nat)) (l : List Oper) (id' : Nat) (d : Option Nat) (e : List (Nat × C)) (h : Hp) (fs : List FP) (K : List FP → St → Prop)
def stXo (b off : Nat) (cells : List C) (o : Option C) : Prop := match o with
  | none => False
  | some x => run cx apps dsts l id' (mkE d x e) (h.set b (some (cells.set off x.noR))) ((3,b) :: fs) K
theorem stX_cells (b off : Nat) (cells : List C) : stX cx apps dsts l id' d e h fs K b off (some cells) = stXo cx apps dsts l id' d e h fs K b off cells (cells[off]?) := rfl
theorem stXo_some (b off : Nat) (cells : List C) (x : C) : stXo cx apps dsts l id' d e h fs K b off cells (some x) = run cx apps dsts l id' (mkE d x e) (h.set b (some (cells.set off x.noR))) ((3,b) :: fs) K := rfl
end
@[congr] theorem stXo_congr {cx : Cx} {apps : List Nat} {dsts : List (Option Nat)} {l : List Oper} {id' : Nat} {d : Option Nat} {e : List (Nat × C)} {h : Hp} {fs : List FP} {K : List FP → St → Prop} {b off : Nat} {cells : List C} {p p' : Option C} (hp : p = p') :
    stXo cx apps dsts l id' d e h fs K b off cells p = stXo cx apps dsts l id' d e h fs K b off cells p' := by rw [hp]
attribute [go_sem] stX_cells stXo_some
end Go.Sx
