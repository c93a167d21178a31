/-
  Package wire: contracts of functions. Package wire: contracts of functions. Package wire: contracts of functions.
-/
import Derived.Test.YtclpbgpclnipcaaWb
import Derived.Test.YtclpbgpclnipcaaWa
set_option linter.unusedSimpArgs false
set_option linter.unusedVariables false
namespace Go.Sx
open Go.RowKit Go.Proofs


set_option maxRecDepth 100000 in
set_option maxHeartbeats 8000000 in
theorem fc24 {gl : Nat → C} {M : Nat} {pu : Nat → List C → Option C}  (hcx : CxOK (cxP gl M pu)) (b : List UInt8) (hb : b.length < 9223372036854775807) : FC Try.prog gl 24 [sl bC .no b] [] (.tup [.val (.int .i64 (getI b).1), .val (nI (getI b).2.1), .val (nI (getI b).2.2)]) [] := by
 replace hcx := hcx.reN (M := 71)
 refine FC.ofA (cx := cxP gl 71 pu) (rs := [.tmp 2, .tmp 3, .tmp 4]) rfl Try.func24 rfl rfl rfl (by simp only [List.length_cons, List.length_nil]; decide) (by simp only [go_sem]) ?_
 simp only [ini, go_sem]
 have hb1 := True.intro
 refine Tr.seqK fun K1 hK1 => ?_
 -- region 0 (wire.go:33)
 refine Tr.rg hcx [] _ [] rfl rfl rfl ?_
 simp -implicitDefEqProofs (maxSteps := 2000000) (disch := first | omega | (simp only [go_sem, List.length_append, List.length_drop, List.length_take, hb1] <;> omega) | decide) only [go_sem, ↓reduceIte, Nat.reduceEqDiff, reduceCtorEq, Nat.reduceLT, Nat.reduceBEq, Nat.reduceAdd, Nat.reduceSub, Nat.reduceMul, Nat.reduceMod, Int.reduceMod, Int.reduceToNat, Int.reduceNeg, Nat.add_sub_cancel]
 refine hK1 _ ?_
 clear hK1 K1
 refine Tr.kp [0] ?_
 simp only [pk_cons, pk_nil, ↓A_cons, ↓reduceIte, Nat.reduceEqDiff, reduceCtorEq]
 refine Tr.seqK fun K2 hK2 => ?_
 refine Tr.seqK fun K3 hK3 => ?_
 -- region 1 (wire.go:34)
 refine Tr.rg hcx [] _ [] rfl rfl rfl ?_
 simp -implicitDefEqProofs (maxSteps := 2000000) (disch := first | omega | (simp only [go_sem, List.length_append, List.length_drop, List.length_take, hb1] <;> omega) | decide) only [go_sem, ↓reduceIte, Nat.reduceEqDiff, reduceCtorEq, Nat.reduceLT, Nat.reduceBEq, Nat.reduceAdd, Nat.reduceSub, Nat.reduceMul, Nat.reduceMod, Int.reduceMod, Int.reduceToNat, Int.reduceNeg, Nat.add_sub_cancel]
 refine hK3 _ ?_
 clear hK3 K3
 refine Tr.kp [0, 12] ?_
 simp only [pk_cons, pk_nil, ↓A_cons, ↓reduceIte, Nat.reduceEqDiff, reduceCtorEq]
 refine Tr.condG fun KT KF hT hF => ?_
 simp only [ev_tmp, ev_const, ↓A_cons, ↓reduceIte, Nat.reduceEqDiff, reduceCtorEq, condG_bool, GB_true, GB_false, decide_eq_true_eq]
 refine GB.dec (fun hc12 => hT ?_) (fun hc12 => hF ?_)
 ·
  clear hT hF KT KF
  obtain rfl : b = [] := List.length_eq_zero_iff.1 hc12
  refine Tr.seqK fun K4 hK4 => ?_
  -- region 2 (wire.go:35)
  refine Tr.rg hcx [] _ [] rfl rfl rfl ?_
  simp -implicitDefEqProofs (maxSteps := 2000000) (disch := first | omega | (simp only [go_sem, List.length_append, List.length_drop, List.length_take, hb1] <;> omega) | decide) only [go_sem, ↓reduceIte, Nat.reduceEqDiff, reduceCtorEq, Nat.reduceLT, Nat.reduceBEq, Nat.reduceAdd, Nat.reduceSub, Nat.reduceMul, Nat.reduceMod, Int.reduceMod, Int.reduceToNat, Int.reduceNeg, Nat.add_sub_cancel]
  refine hK4 _ ?_
  clear hK4 K4
  refine Tr.kp [2, 3, 4] ?_
  simp only [pk_cons, pk_nil, ↓A_cons, ↓reduceIte, Nat.reduceEqDiff, reduceCtorEq]
  refine Tr.ret ?_
  simp -implicitDefEqProofs (disch := first | omega | (simp only [go_sem, List.length_append, List.length_drop, List.length_take, hb1] <;> omega) | decide) only [go_sem, ↓reduceIte, Nat.reduceEqDiff, reduceCtorEq]
  all_goals (first | rfl | (rw [hbe, getI_1 hk hc24]; rfl) | (rw [hbe, getI_2 hk hc24 (by rw [← hbe]; exact hc27)]; rfl) | (rw [hbe, getI_3 hk hc24 (by rw [← hbe]; exact hc27) hk0 (by rw [← hbe]; exact hc32)]; rfl) | (rw [hbe, getI_4 hk hc24 (by rw [← hbe]; exact hc27) (by rw [← hbe]; first | exact fun h => hc32 h.2 | exact fun h => hk0 h.1) (by rw [← big63 _ hac2]; exact hc62)]; rfl) | (rw [hbe, getI_5 hk hc24 (by rw [← hbe]; exact hc27) (by rw [← hbe]; first | exact fun h => hc32 h.2 | exact fun h => hk0 h.1) (by rw [← big63 _ hac2]; exact hc62) (by rw [← flip_pos]; exact hc64)]; (rw [show ((18446744073709551615 - accF (flipOf x) (r.take k) : Nat) : Int) - 18446744073709551616 = -1 - (accF (flipOf x) (r.take k) : Int) by omega]; try rfl)) | (rw [hbe, getI_6 hk hc24 (by rw [← hbe]; exact hc27) (by rw [← hbe]; first | exact fun h => hc32 h.2 | exact fun h => hk0 h.1) (by rw [← big63 _ hac2]; exact hc62) (by rw [← flip_pos]; exact hc64)]; rfl))
 ·
  clear hT hF KT KF
  obtain ⟨x, r, hbe⟩ : ∃ x r, b = x :: r := by
    cases b with
    | nil => exact absurd rfl hc12
    | cons x r => exact ⟨x, r, rfl⟩
  have hge := flip_ge x
  have hlt := (x ^^^ flipOf x).toNat_lt
  obtain ⟨k, hk⟩ : ∃ k, kOf x = k := ⟨_, rfl⟩
  have hk2 : (x ^^^ flipOf x).toNat - 128 = k := hk
  have hlen : b.length = r.length + 1 := by rw [hbe]; rfl
  have hx0 : gt b 0 = x := by rw [hbe]; rfl
  have hr : b.drop 1 = r := by rw [hbe]; rfl
  refine Tr.skip ?_
  refine hK2 _ ?_
  clear hK2 K2
  refine Tr.kp [0] ?_
  simp only [pk_cons, pk_nil, ↓A_cons, ↓reduceIte, Nat.reduceEqDiff, reduceCtorEq]
  refine Tr.seqK fun K5 hK5 => ?_
  -- region 3 (wire.go:37)
  refine Tr.rg hcx [] _ [] rfl rfl rfl ?_
  simp -implicitDefEqProofs (maxSteps := 2000000) (disch := first | omega | (simp only [go_sem, List.length_append, List.length_drop, List.length_take, hb1] <;> omega) | decide) only [go_sem, ↓reduceIte, Nat.reduceEqDiff, reduceCtorEq, Nat.reduceLT, Nat.reduceBEq, Nat.reduceAdd, Nat.reduceSub, Nat.reduceMul, Nat.reduceMod, Int.reduceMod, Int.reduceToNat, Int.reduceNeg, Nat.add_sub_cancel]
  refine hK5 _ ?_
  clear hK5 K5
  refine Tr.kp [0, 5] ?_
  simp only [pk_cons, pk_nil, ↓A_cons, ↓reduceIte, Nat.reduceEqDiff, reduceCtorEq]
  refine Tr.seqJ (α := Unit) (fun a => [(0, ?v0_12), (5, .val (w8 (flipOf x)))]) (fun a => []) (fun a => True) ?ja_12 ?jb_12
  case ja_12 =>
   refine Tr.seqK fun K6 hK6 => ?_
   -- region 4 (wire.go:38)
   refine Tr.rg hcx [] _ [] rfl rfl rfl ?_
   simp -implicitDefEqProofs (maxSteps := 2000000) (disch := first | omega | (simp only [go_sem, List.length_append, List.length_drop, List.length_take, hb1] <;> omega) | decide) only [go_sem, ↓reduceIte, Nat.reduceEqDiff, reduceCtorEq, Nat.reduceLT, Nat.reduceBEq, Nat.reduceAdd, Nat.reduceSub, Nat.reduceMul, Nat.reduceMod, Int.reduceMod, Int.reduceToNat, Int.reduceNeg, Nat.add_sub_cancel, hx0]
   refine hK6 _ ?_
   clear hK6 K6
   refine Tr.kp [0, 5, 16] ?_
   simp only [pk_cons, pk_nil, ↓A_cons, ↓reduceIte, Nat.reduceEqDiff, reduceCtorEq]
   refine Tr.condG fun KT KF hT hF => ?_
   simp only [ev_tmp, ev_const, ↓A_cons, ↓reduceIte, Nat.reduceEqDiff, reduceCtorEq, condG_bool, GB_true, GB_false, decide_eq_true_eq]
   refine GB.dec (fun hc16 => hT ?_) (fun hc16 => hF ?_)
   ·
    clear hT hF KT KF
    -- region 5 (wire.go:39)
    refine Tr.rg hcx [] _ [] rfl rfl rfl ?_
    simp -implicitDefEqProofs (maxSteps := 2000000) (disch := first | omega | (simp only [go_sem, List.length_append, List.length_drop, List.length_take, hb1] <;> omega) | decide) only [go_sem, ↓reduceIte, Nat.reduceEqDiff, reduceCtorEq, Nat.reduceLT, Nat.reduceBEq, Nat.reduceAdd, Nat.reduceSub, Nat.reduceMul, Nat.reduceMod, Int.reduceMod, Int.reduceToNat, Int.reduceNeg, Nat.add_sub_cancel]
    refine ⟨(), trivial, ?_, rfl⟩
    (simp only [Le_nil, Le_cons, ↓A_cons, ↓reduceIte, Nat.reduceEqDiff, reduceCtorEq, CLe_refl, CLe_top, CLe_full, CLe_nil, CLe_own, and_true, true_and]; all_goals (repeat' first | exact CLe.refl _ | exact True.intro | (refine CLe_sln ?_; first | with_reducible rfl | (simp only [List.take_zero]; done) | (rfl; done)) | exact CLe_nI (by omega) | exact CLe_int (by omega) | exact CLe_inI (by omega) | exact CLe_nIi (by omega) | with_reducible apply And.intro))
    all_goals (refine CLe_val ?_; show _ = w8 (if x < UInt8.ofNat 128 then UInt8.ofNat 255 else UInt8.ofNat 0); first | rw [if_pos hc16] | rw [if_neg hc16])
   ·
    clear hT hF KT KF
    refine Tr.skip ?_
    refine ⟨(), trivial, ?_, rfl⟩
    (simp only [Le_nil, Le_cons, ↓A_cons, ↓reduceIte, Nat.reduceEqDiff, reduceCtorEq, CLe_refl, CLe_top, CLe_full, CLe_nil, CLe_own, and_true, true_and]; all_goals (repeat' first | exact CLe.refl _ | exact True.intro | (refine CLe_sln ?_; first | with_reducible rfl | (simp only [List.take_zero]; done) | (rfl; done)) | exact CLe_nI (by omega) | exact CLe_int (by omega) | exact CLe_inI (by omega) | exact CLe_nIi (by omega) | with_reducible apply And.intro))
    all_goals (refine CLe_val ?_; show _ = w8 (if x < UInt8.ofNat 128 then UInt8.ofNat 255 else UInt8.ofNat 0); first | rw [if_pos hc16] | rw [if_neg hc16])
  case jb_12 =>
   rintro a ha
   refine Tr.seqK fun K7 hK7 => ?_
   -- region 6 (wire.go:41)
   refine Tr.rg hcx [1000023] _ [] rfl rfl rfl ?_
   simp -implicitDefEqProofs (maxSteps := 2000000) (disch := first | omega | (simp only [go_sem, List.length_append, List.length_drop, List.length_take, hb1] <;> omega) | decide) only [go_sem, ↓reduceIte, Nat.reduceEqDiff, reduceCtorEq, Nat.reduceLT, Nat.reduceBEq, Nat.reduceAdd, Nat.reduceSub, Nat.reduceMul, Nat.reduceMod, Int.reduceMod, Int.reduceToNat, Int.reduceNeg, Nat.add_sub_cancel, hx0, hk2]
   refine hK7 _ ?_
   clear hK7 K7
   refine Tr.kp [0, 5, 6] ?_
   simp only [pk_cons, pk_nil, ↓A_cons, ↓reduceIte, Nat.reduceEqDiff, reduceCtorEq]
   refine Tr.seqK fun K8 hK8 => ?_
   refine Tr.blk ?_
   refine Tr.seqK fun K9 hK9 => ?_
   -- region 7 (wire.go:43)
   refine Tr.rg hcx [1000026] _ [] rfl rfl rfl ?_
   simp -implicitDefEqProofs (maxSteps := 2000000) (disch := first | omega | (simp only [go_sem, List.length_append, List.length_drop, List.length_take, hb1] <;> omega) | decide) only [go_sem, ↓reduceIte, Nat.reduceEqDiff, reduceCtorEq, Nat.reduceLT, Nat.reduceBEq, Nat.reduceAdd, Nat.reduceSub, Nat.reduceMul, Nat.reduceMod, Int.reduceMod, Int.reduceToNat, Int.reduceNeg, Nat.add_sub_cancel]
   refine hK9 _ ?_
   clear hK9 K9
   refine Tr.kp [0, 5, 6, 24] ?_
   simp only [pk_cons, pk_nil, ↓A_cons, ↓reduceIte, Nat.reduceEqDiff, reduceCtorEq]
   refine Tr.condG fun KT KF hT hF => ?_
   simp only [ev_tmp, ev_const, ↓A_cons, ↓reduceIte, Nat.reduceEqDiff, reduceCtorEq, condG_bool, GB_true, GB_false, decide_eq_true_eq]
   refine GB.dec (fun hc24 => hT ?_) (fun hc24 => hF ?_)
   ·
    clear hT hF KT KF
    refine Tr.seqK fun K10 hK10 => ?_
    -- region 8 (wire.go:44)
    refine Tr.rg hcx [] _ [] rfl rfl rfl ?_
    simp -implicitDefEqProofs (maxSteps := 2000000) (disch := first | omega | (simp only [go_sem, List.length_append, List.length_drop, List.length_take, hb1] <;> omega) | decide) only [go_sem, ↓reduceIte, Nat.reduceEqDiff, reduceCtorEq, Nat.reduceLT, Nat.reduceBEq, Nat.reduceAdd, Nat.reduceSub, Nat.reduceMul, Nat.reduceMod, Int.reduceMod, Int.reduceToNat, Int.reduceNeg, Nat.add_sub_cancel]
    refine hK10 _ ?_
    clear hK10 K10
    refine Tr.kp [2, 3, 4] ?_
    simp only [pk_cons, pk_nil, ↓A_cons, ↓reduceIte, Nat.reduceEqDiff, reduceCtorEq]
    refine Tr.ret ?_
    simp -implicitDefEqProofs (disch := first | omega | (simp only [go_sem, List.length_append, List.length_drop, List.length_take, hb1] <;> omega) | decide) only [go_sem, ↓reduceIte, Nat.reduceEqDiff, reduceCtorEq]
    all_goals (first | rfl | (rw [hbe, getI_1 hk hc24]; rfl) | (rw [hbe, getI_2 hk hc24 (by rw [← hbe]; exact hc27)]; rfl) | (rw [hbe, getI_3 hk hc24 (by rw [← hbe]; exact hc27) hk0 (by rw [← hbe]; exact hc32)]; rfl) | (rw [hbe, getI_4 hk hc24 (by rw [← hbe]; exact hc27) (by rw [← hbe]; first | exact fun h => hc32 h.2 | exact fun h => hk0 h.1) (by rw [← big63 _ hac2]; exact hc62)]; rfl) | (rw [hbe, getI_5 hk hc24 (by rw [← hbe]; exact hc27) (by rw [← hbe]; first | exact fun h => hc32 h.2 | exact fun h => hk0 h.1) (by rw [← big63 _ hac2]; exact hc62) (by rw [← flip_pos]; exact hc64)]; (rw [show ((18446744073709551615 - accF (flipOf x) (r.take k) : Nat) : Int) - 18446744073709551616 = -1 - (accF (flipOf x) (r.take k) : Int) by omega]; try rfl)) | (rw [hbe, getI_6 hk hc24 (by rw [← hbe]; exact hc27) (by rw [← hbe]; first | exact fun h => hc32 h.2 | exact fun h => hk0 h.1) (by rw [← big63 _ hac2]; exact hc62) (by rw [← flip_pos]; exact hc64)]; rfl))
   ·
    clear hT hF KT KF
    refine Tr.seqK fun K11 hK11 => ?_
    -- region 9 (wire.go:45)
    refine Tr.rg hcx [1000031] _ [] rfl rfl rfl ?_
    simp -implicitDefEqProofs (maxSteps := 2000000) (disch := first | omega | (simp only [go_sem, List.length_append, List.length_drop, List.length_take, hb1] <;> omega) | decide) only [go_sem, ↓reduceIte, Nat.reduceEqDiff, reduceCtorEq, Nat.reduceLT, Nat.reduceBEq, Nat.reduceAdd, Nat.reduceSub, Nat.reduceMul, Nat.reduceMod, Int.reduceMod, Int.reduceToNat, Int.reduceNeg, Nat.add_sub_cancel]
    refine hK11 _ ?_
    clear hK11 K11
    refine Tr.kp [0, 5, 6, 27] ?_
    simp only [pk_cons, pk_nil, ↓A_cons, ↓reduceIte, Nat.reduceEqDiff, reduceCtorEq]
    refine Tr.condG fun KT KF hT hF => ?_
    simp only [ev_tmp, ev_const, ↓A_cons, ↓reduceIte, Nat.reduceEqDiff, reduceCtorEq, condG_bool, GB_true, GB_false, decide_eq_true_eq]
    refine GB.dec (fun hc27 => hT ?_) (fun hc27 => hF ?_)
    ·
     clear hT hF KT KF
     refine Tr.seqK fun K12 hK12 => ?_
     -- region 10 (wire.go:46)
     refine Tr.rg hcx [] _ [] rfl rfl rfl ?_
     simp -implicitDefEqProofs (maxSteps := 2000000) (disch := first | omega | (simp only [go_sem, List.length_append, List.length_drop, List.length_take, hb1] <;> omega) | decide) only [go_sem, ↓reduceIte, Nat.reduceEqDiff, reduceCtorEq, Nat.reduceLT, Nat.reduceBEq, Nat.reduceAdd, Nat.reduceSub, Nat.reduceMul, Nat.reduceMod, Int.reduceMod, Int.reduceToNat, Int.reduceNeg, Nat.add_sub_cancel]
     refine hK12 _ ?_
     clear hK12 K12
     refine Tr.kp [2, 3, 4] ?_
     simp only [pk_cons, pk_nil, ↓A_cons, ↓reduceIte, Nat.reduceEqDiff, reduceCtorEq]
     refine Tr.ret ?_
     simp -implicitDefEqProofs (disch := first | omega | (simp only [go_sem, List.length_append, List.length_drop, List.length_take, hb1] <;> omega) | decide) only [go_sem, ↓reduceIte, Nat.reduceEqDiff, reduceCtorEq]
     all_goals (first | rfl | (rw [hbe, getI_1 hk hc24]; rfl) | (rw [hbe, getI_2 hk hc24 (by rw [← hbe]; exact hc27)]; rfl) | (rw [hbe, getI_3 hk hc24 (by rw [← hbe]; exact hc27) hk0 (by rw [← hbe]; exact hc32)]; rfl) | (rw [hbe, getI_4 hk hc24 (by rw [← hbe]; exact hc27) (by rw [← hbe]; first | exact fun h => hc32 h.2 | exact fun h => hk0 h.1) (by rw [← big63 _ hac2]; exact hc62)]; rfl) | (rw [hbe, getI_5 hk hc24 (by rw [← hbe]; exact hc27) (by rw [← hbe]; first | exact fun h => hc32 h.2 | exact fun h => hk0 h.1) (by rw [← big63 _ hac2]; exact hc62) (by rw [← flip_pos]; exact hc64)]; (rw [show ((18446744073709551615 - accF (flipOf x) (r.take k) : Nat) : Int) - 18446744073709551616 = -1 - (accF (flipOf x) (r.take k) : Int) by omega]; try rfl)) | (rw [hbe, getI_6 hk hc24 (by rw [← hbe]; exact hc27) (by rw [← hbe]; first | exact fun h => hc32 h.2 | exact fun h => hk0 h.1) (by rw [← big63 _ hac2]; exact hc62) (by rw [← flip_pos]; exact hc64)]; rfl))
    ·
     clear hT hF KT KF
     refine Tr.seqK fun K13 hK13 => ?_
     by_cases hk0 : 0 < k
     ·
      -- region 11 (wire.go:47)
      refine Tr.rg hcx [1000042] [some 33, some 34, some 35, some 36, some 37, some 38, some 39, some 40, some 41, some 42, some 32] [] rfl rfl rfl ?_
      simp -implicitDefEqProofs (maxSteps := 2000000) (disch := first | omega | (simp only [go_sem, List.length_append, List.length_drop, List.length_take, hb1] <;> omega) | decide) only [go_sem, ↓reduceIte, Nat.reduceEqDiff, reduceCtorEq, Nat.reduceLT, Nat.reduceBEq, Nat.reduceAdd, Nat.reduceSub, Nat.reduceMul, Nat.reduceMod, Int.reduceMod, Int.reduceToNat, Int.reduceNeg, Nat.add_sub_cancel, hk0]
      refine hK13 _ ?_
      clear hK13 K13
      refine Tr.kp [0, 5, 6, 32] ?_
      simp only [pk_cons, pk_nil, ↓A_cons, ↓reduceIte, Nat.reduceEqDiff, reduceCtorEq]
      refine Tr.condG fun KT KF hT hF => ?_
      simp only [ev_tmp, ev_const, ↓A_cons, ↓reduceIte, Nat.reduceEqDiff, reduceCtorEq, condG_bool, GB_true, GB_false, decide_eq_true_eq]
      refine GB.dec (fun hc32 => hT ?_) (fun hc32 => hF ?_)
      ·
       clear hT hF KT KF
       refine Tr.seqK fun K14 hK14 => ?_
       -- region 12 (wire.go:48)
       refine Tr.rg hcx [] _ [] rfl rfl rfl ?_
       simp -implicitDefEqProofs (maxSteps := 2000000) (disch := first | omega | (simp only [go_sem, List.length_append, List.length_drop, List.length_take, hb1] <;> omega) | decide) only [go_sem, ↓reduceIte, Nat.reduceEqDiff, reduceCtorEq, Nat.reduceLT, Nat.reduceBEq, Nat.reduceAdd, Nat.reduceSub, Nat.reduceMul, Nat.reduceMod, Int.reduceMod, Int.reduceToNat, Int.reduceNeg, Nat.add_sub_cancel, hk0]
       refine hK14 _ ?_
       clear hK14 K14
       refine Tr.kp [2, 3, 4] ?_
       simp only [pk_cons, pk_nil, ↓A_cons, ↓reduceIte, Nat.reduceEqDiff, reduceCtorEq]
       refine Tr.ret ?_
       simp -implicitDefEqProofs (disch := first | omega | (simp only [go_sem, List.length_append, List.length_drop, List.length_take, hb1] <;> omega) | decide) only [go_sem, ↓reduceIte, Nat.reduceEqDiff, reduceCtorEq]
       all_goals (first | rfl | (rw [hbe, getI_1 hk hc24]; rfl) | (rw [hbe, getI_2 hk hc24 (by rw [← hbe]; exact hc27)]; rfl) | (rw [hbe, getI_3 hk hc24 (by rw [← hbe]; exact hc27) hk0 (by rw [← hbe]; exact hc32)]; rfl) | (rw [hbe, getI_4 hk hc24 (by rw [← hbe]; exact hc27) (by rw [← hbe]; first | exact fun h => hc32 h.2 | exact fun h => hk0 h.1) (by rw [← big63 _ hac2]; exact hc62)]; rfl) | (rw [hbe, getI_5 hk hc24 (by rw [← hbe]; exact hc27) (by rw [← hbe]; first | exact fun h => hc32 h.2 | exact fun h => hk0 h.1) (by rw [← big63 _ hac2]; exact hc62) (by rw [← flip_pos]; exact hc64)]; (rw [show ((18446744073709551615 - accF (flipOf x) (r.take k) : Nat) : Int) - 18446744073709551616 = -1 - (accF (flipOf x) (r.take k) : Int) by omega]; try rfl)) | (rw [hbe, getI_6 hk hc24 (by rw [← hbe]; exact hc27) (by rw [← hbe]; first | exact fun h => hc32 h.2 | exact fun h => hk0 h.1) (by rw [← big63 _ hac2]; exact hc62) (by rw [← flip_pos]; exact hc64)]; rfl))
      ·
       clear hT hF KT KF
       refine Tr.skip ?_
       refine hK8 _ ?_
       clear hK8 K8
       refine Tr.kp [0, 5, 6] ?_
       simp only [pk_cons, pk_nil, ↓A_cons, ↓reduceIte, Nat.reduceEqDiff, reduceCtorEq]
       refine Tr.seqK fun K15 hK15 => ?_
       -- region 13 (wire.go:50)
       refine Tr.rg hcx [] _ [] rfl rfl rfl ?_
       simp -implicitDefEqProofs (maxSteps := 2000000) (disch := first | omega | (simp only [go_sem, List.length_append, List.length_drop, List.length_take, hb1] <;> omega) | decide) only [go_sem, ↓reduceIte, Nat.reduceEqDiff, reduceCtorEq, Nat.reduceLT, Nat.reduceBEq, Nat.reduceAdd, Nat.reduceSub, Nat.reduceMul, Nat.reduceMod, Int.reduceMod, Int.reduceToNat, Int.reduceNeg, Nat.add_sub_cancel, hk0]
       refine hK15 _ ?_
       clear hK15 K15
       refine Tr.kp [0, 5, 6, 7] ?_
       simp only [pk_cons, pk_nil, ↓A_cons, ↓reduceIte, Nat.reduceEqDiff, reduceCtorEq]
       refine Tr.seqK fun K16 hK16 => ?_
       refine Tr.seqK fun K17 hK17 => ?_
       -- region 14 (wire.go:51)
       refine Tr.rg hcx [] _ [] rfl rfl rfl ?_
       simp -implicitDefEqProofs (maxSteps := 2000000) (disch := first | omega | (simp only [go_sem, List.length_append, List.length_drop, List.length_take, hb1] <;> omega) | decide) only [go_sem, ↓reduceIte, Nat.reduceEqDiff, reduceCtorEq, Nat.reduceLT, Nat.reduceBEq, Nat.reduceAdd, Nat.reduceSub, Nat.reduceMul, Nat.reduceMod, Int.reduceMod, Int.reduceToNat, Int.reduceNeg, Nat.add_sub_cancel, hk0, hr]
       refine hK17 _ ?_
       clear hK17 K17
       refine Tr.kp [5, 6, 7, 46, 47, 48] ?_
       simp only [pk_cons, pk_nil, ↓A_cons, ↓reduceIte, Nat.reduceEqDiff, reduceCtorEq]
       refine Tr.blk ?_
       refine Tr.loopI (α := Nat) (fun a => [(5, ?v5_47), (6, ?v6_47), (7, .val (nU (accF (flipOf x) ((r.take k).take a)))), (46, ?v46_47), (47, ?v47_47), (48, .val (nI a))]) (fun a => ?h_47) (fun a => a ≤ (r.take k).length) (fun a => (r.take k).length - a) (0) ?_ ?le_47 ?hh_47 ?bd_47
       case hh_47 => exact rfl
       case le_47 => (simp only [Le_nil, Le_cons, ↓A_cons, ↓reduceIte, Nat.reduceEqDiff, reduceCtorEq, CLe_refl, CLe_top, CLe_full, CLe_nil, CLe_own, and_true, true_and]; all_goals (repeat' first | exact CLe.refl _ | exact True.intro | (refine CLe_sln ?_; first | with_reducible rfl | (simp only [List.take_zero]; done) | (rfl; done)) | exact CLe_nI (by omega) | exact CLe_int (by omega) | exact CLe_inI (by omega) | exact CLe_nIi (by omega) | with_reducible apply And.intro))
       · omega
       case bd_47 =>
        rintro i hi
        have hcl := (gt (r.take k) i ^^^ flipOf x).toNat_lt
        have hkl : (r.take k).length = k := by rw [List.length_take]; omega
        have hac := accF_lt (flipOf x) ((r.take k).take i)
        rw [List.length_take, Nat.min_eq_left hi] at hac
        have hp8 : 256 ^ i ≤ 256 ^ 8 := Nat.pow_le_pow_right (by decide) (by omega)
        have hac2 : accF (flipOf x) ((r.take k).take i) < 18446744073709551616 := Nat.lt_of_lt_of_le hac (by simpa using hp8)
        refine Tr.seqK fun K18 hK18 => ?_
        -- region 15 (wire.go:51)
        refine Tr.rg hcx [] _ [] rfl rfl rfl ?_
        simp -implicitDefEqProofs (maxSteps := 2000000) (disch := first | omega | (simp only [go_sem, List.length_append, List.length_drop, List.length_take, hb1] <;> omega) | decide) only [go_sem, ↓reduceIte, Nat.reduceEqDiff, reduceCtorEq, Nat.reduceLT, Nat.reduceBEq, Nat.reduceAdd, Nat.reduceSub, Nat.reduceMul, Nat.reduceMod, Int.reduceMod, Int.reduceToNat, Int.reduceNeg, Nat.add_sub_cancel, hk0]
        refine hK18 _ ?_
        clear hK18 K18
        refine Tr.kp [5, 6, 7, 46, 47, 48, 49] ?_
        simp only [pk_cons, pk_nil, ↓A_cons, ↓reduceIte, Nat.reduceEqDiff, reduceCtorEq]
        refine Tr.seqK fun K19 hK19 => ?_
        refine Tr.condG fun KT KF hT hF => ?_
        simp only [ev_tmp, ev_const, ↓A_cons, ↓reduceIte, Nat.reduceEqDiff, reduceCtorEq, condG_bool, GB_true, GB_false, decide_eq_true_eq]
        refine GB.dec (fun hc49 => hT ?_) (fun hc49 => hF ?_)
        ·
         clear hT hF KT KF
         refine Tr.skip ?_
         refine hK19 _ ?_
         clear hK19 K19
         refine Tr.kp [5, 6, 7, 46, 47, 48] ?_
         simp only [pk_cons, pk_nil, ↓A_cons, ↓reduceIte, Nat.reduceEqDiff, reduceCtorEq]
         refine Tr.seqK fun K20 hK20 => ?_
         refine Tr.blk ?_
         refine Tr.seqK fun K21 hK21 => ?_
         -- region 16 (wire.go:51)
         refine Tr.rg hcx [1000051] _ [] rfl rfl rfl ?_
         simp -implicitDefEqProofs (maxSteps := 2000000) (disch := first | omega | (simp only [go_sem, List.length_append, List.length_drop, List.length_take, hb1] <;> omega) | decide) only [go_sem, ↓reduceIte, Nat.reduceEqDiff, reduceCtorEq, Nat.reduceLT, Nat.reduceBEq, Nat.reduceAdd, Nat.reduceSub, Nat.reduceMul, Nat.reduceMod, Int.reduceMod, Int.reduceToNat, Int.reduceNeg, Nat.add_sub_cancel, hk0]
         refine hK21 _ ?_
         clear hK21 K21
         refine Tr.kp [5, 6, 7, 9, 46, 47, 48] ?_
         simp only [pk_cons, pk_nil, ↓A_cons, ↓reduceIte, Nat.reduceEqDiff, reduceCtorEq]
         -- region 17 (wire.go:52)
         refine Tr.rg hcx [1000058] _ [] rfl rfl rfl ?_
         simp -implicitDefEqProofs (maxSteps := 2000000) (disch := first | omega | (simp only [go_sem, List.length_append, List.length_drop, List.length_take, hb1] <;> omega) | decide) only [go_sem, ↓reduceIte, Nat.reduceEqDiff, reduceCtorEq, Nat.reduceLT, Nat.reduceBEq, Nat.reduceAdd, Nat.reduceSub, Nat.reduceMul, Nat.reduceMod, Int.reduceMod, Int.reduceToNat, Int.reduceNeg, Nat.add_sub_cancel, hk0]
         refine hK20 _ ?_
         clear hK20 K20
         refine Tr.kp [5, 6, 7, 46, 47, 48] ?_
         simp only [pk_cons, pk_nil, ↓A_cons, ↓reduceIte, Nat.reduceEqDiff, reduceCtorEq]
         -- region 18 (wire.go:51)
         refine Tr.rg hcx [] _ [] rfl rfl rfl ?_
         simp -implicitDefEqProofs (maxSteps := 2000000) (disch := first | omega | (simp only [go_sem, List.length_append, List.length_drop, List.length_take, hb1] <;> omega) | decide) only [go_sem, ↓reduceIte, Nat.reduceEqDiff, reduceCtorEq, Nat.reduceLT, Nat.reduceBEq, Nat.reduceAdd, Nat.reduceSub, Nat.reduceMul, Nat.reduceMod, Int.reduceMod, Int.reduceToNat, Int.reduceNeg, Nat.add_sub_cancel, hk0]
         refine ⟨i + 1, ⟨by omega, by first | omega | (simp only []; omega)⟩, ?_, rfl⟩
         (simp only [Le_nil, Le_cons, ↓A_cons, ↓reduceIte, Nat.reduceEqDiff, reduceCtorEq, CLe_refl, CLe_top, CLe_full, CLe_nil, CLe_own, and_true, true_and]; all_goals (repeat' first | exact CLe.refl _ | exact True.intro | (refine CLe_sln ?_; first | with_reducible rfl | (simp only [List.take_zero]; done) | (rfl; done)) | exact CLe_nI (by omega) | exact CLe_int (by omega) | exact CLe_inI (by omega) | exact CLe_nIi (by omega) | with_reducible apply And.intro))
         all_goals (exact CLe_val (congrArg nU (acc_next (flipOf x) (r.take k) i hc49 (by omega))))
        ·
         clear hT hF KT KF
         obtain rfl : i = (r.take k).length := by omega
         rw [List.take_length] at *
         refine Tr.exit ?_
         refine hK16 _ ?_
         clear hK19 K19 hK16 K16
         refine Tr.kp [5, 6, 7] ?_
         simp only [pk_cons, pk_nil, ↓A_cons, ↓reduceIte, Nat.reduceEqDiff, reduceCtorEq]
         refine Tr.seqK fun K22 hK22 => ?_
         refine Tr.seqK fun K23 hK23 => ?_
         -- region 19 (wire.go:54)
         refine Tr.rg hcx [] _ [] rfl rfl rfl ?_
         simp -implicitDefEqProofs (maxSteps := 2000000) (disch := first | omega | (simp only [go_sem, List.length_append, List.length_drop, List.length_take, hb1] <;> omega) | decide) only [go_sem, ↓reduceIte, Nat.reduceEqDiff, reduceCtorEq, Nat.reduceLT, Nat.reduceBEq, Nat.reduceAdd, Nat.reduceSub, Nat.reduceMul, Nat.reduceMod, Int.reduceMod, Int.reduceToNat, Int.reduceNeg, Nat.add_sub_cancel, hk0, List.take_length]
         refine hK23 _ ?_
         clear hK23 K23
         refine Tr.kp [5, 6, 7, 62] ?_
         simp only [pk_cons, pk_nil, ↓A_cons, ↓reduceIte, Nat.reduceEqDiff, reduceCtorEq]
         refine Tr.condG fun KT KF hT hF => ?_
         simp only [ev_tmp, ev_const, ↓A_cons, ↓reduceIte, Nat.reduceEqDiff, reduceCtorEq, condG_bool, GB_true, GB_false, decide_eq_true_eq]
         refine GB.dec (fun hc62 => hT ?_) (fun hc62 => hF ?_)
         ·
          clear hT hF KT KF
          refine Tr.seqK fun K24 hK24 => ?_
          -- region 20 (wire.go:55)
          refine Tr.rg hcx [] _ [] rfl rfl rfl ?_
          simp -implicitDefEqProofs (maxSteps := 2000000) (disch := first | omega | (simp only [go_sem, List.length_append, List.length_drop, List.length_take, hb1] <;> omega) | decide) only [go_sem, ↓reduceIte, Nat.reduceEqDiff, reduceCtorEq, Nat.reduceLT, Nat.reduceBEq, Nat.reduceAdd, Nat.reduceSub, Nat.reduceMul, Nat.reduceMod, Int.reduceMod, Int.reduceToNat, Int.reduceNeg, Nat.add_sub_cancel, hk0]
          refine hK24 _ ?_
          clear hK24 K24
          refine Tr.kp [2, 3, 4] ?_
          simp only [pk_cons, pk_nil, ↓A_cons, ↓reduceIte, Nat.reduceEqDiff, reduceCtorEq]
          refine Tr.ret ?_
          simp -implicitDefEqProofs (disch := first | omega | (simp only [go_sem, List.length_append, List.length_drop, List.length_take, hb1] <;> omega) | decide) only [go_sem, ↓reduceIte, Nat.reduceEqDiff, reduceCtorEq]
          all_goals (first | rfl | (rw [hbe, getI_1 hk hc24]; rfl) | (rw [hbe, getI_2 hk hc24 (by rw [← hbe]; exact hc27)]; rfl) | (rw [hbe, getI_3 hk hc24 (by rw [← hbe]; exact hc27) hk0 (by rw [← hbe]; exact hc32)]; rfl) | (rw [hbe, getI_4 hk hc24 (by rw [← hbe]; exact hc27) (by rw [← hbe]; first | exact fun h => hc32 h.2 | exact fun h => hk0 h.1) (by rw [← big63 _ hac2]; exact hc62)]; rfl) | (rw [hbe, getI_5 hk hc24 (by rw [← hbe]; exact hc27) (by rw [← hbe]; first | exact fun h => hc32 h.2 | exact fun h => hk0 h.1) (by rw [← big63 _ hac2]; exact hc62) (by rw [← flip_pos]; exact hc64)]; (rw [show ((18446744073709551615 - accF (flipOf x) (r.take k) : Nat) : Int) - 18446744073709551616 = -1 - (accF (flipOf x) (r.take k) : Int) by omega]; try rfl)) | (rw [hbe, getI_6 hk hc24 (by rw [← hbe]; exact hc27) (by rw [← hbe]; first | exact fun h => hc32 h.2 | exact fun h => hk0 h.1) (by rw [← big63 _ hac2]; exact hc62) (by rw [← flip_pos]; exact hc64)]; rfl))
         ·
          clear hT hF KT KF
          refine Tr.skip ?_
          refine hK22 _ ?_
          clear hK22 K22
          refine Tr.kp [5, 6, 7] ?_
          simp only [pk_cons, pk_nil, ↓A_cons, ↓reduceIte, Nat.reduceEqDiff, reduceCtorEq]
          refine Tr.seqK fun K25 hK25 => ?_
          refine Tr.seqK fun K26 hK26 => ?_
          -- region 21 (wire.go:57)
          refine Tr.rg hcx [] _ [] rfl rfl rfl ?_
          simp -implicitDefEqProofs (maxSteps := 2000000) (disch := first | omega | (simp only [go_sem, List.length_append, List.length_drop, List.length_take, hb1] <;> omega) | decide) only [go_sem, ↓reduceIte, Nat.reduceEqDiff, reduceCtorEq, Nat.reduceLT, Nat.reduceBEq, Nat.reduceAdd, Nat.reduceSub, Nat.reduceMul, Nat.reduceMod, Int.reduceMod, Int.reduceToNat, Int.reduceNeg, Nat.add_sub_cancel, hk0, List.take_length]
          refine hK26 _ ?_
          clear hK26 K26
          refine Tr.kp [6, 7, 64] ?_
          simp only [pk_cons, pk_nil, ↓A_cons, ↓reduceIte, Nat.reduceEqDiff, reduceCtorEq]
          refine Tr.condG fun KT KF hT hF => ?_
          simp only [ev_tmp, ev_const, ↓A_cons, ↓reduceIte, Nat.reduceEqDiff, reduceCtorEq, condG_bool, GB_true, GB_false, decide_eq_true_eq]
          refine GB.dec (fun hc64 => hT ?_) (fun hc64 => hF ?_)
          ·
           clear hT hF KT KF
           -- region 22 (wire.go:58)
           refine Tr.rg hcx [1000066] _ [] rfl rfl rfl ?_
           simp -implicitDefEqProofs (maxSteps := 2000000) (disch := first | omega | (simp only [go_sem, List.length_append, List.length_drop, List.length_take, hb1] <;> omega) | decide) only [go_sem, ↓reduceIte, Nat.reduceEqDiff, reduceCtorEq, Nat.reduceLT, Nat.reduceBEq, Nat.reduceAdd, Nat.reduceSub, Nat.reduceMul, Nat.reduceMod, Int.reduceMod, Int.reduceToNat, Int.reduceNeg, Nat.add_sub_cancel, hk0, List.take_length]
           refine hK25 _ ?_
           clear hK25 K25
           refine Tr.kp [6, 7] ?_
           simp only [pk_cons, pk_nil, ↓A_cons, ↓reduceIte, Nat.reduceEqDiff, reduceCtorEq]
           refine Tr.seqK fun K27 hK27 => ?_
           -- region 23 (wire.go:60)
           refine Tr.rg hcx [1000068, 1000070] _ [] rfl rfl rfl ?_
           simp -implicitDefEqProofs (maxSteps := 2000000) (disch := first | omega | (simp only [go_sem, List.length_append, List.length_drop, List.length_take, hb1] <;> omega) | decide) only [go_sem, ↓reduceIte, Nat.reduceEqDiff, reduceCtorEq, Nat.reduceLT, Nat.reduceBEq, Nat.reduceAdd, Nat.reduceSub, Nat.reduceMul, Nat.reduceMod, Int.reduceMod, Int.reduceToNat, Int.reduceNeg, Nat.add_sub_cancel, hk0, List.take_length]
           refine hK27 _ ?_
           clear hK27 K27
           refine Tr.kp [2, 3, 4] ?_
           simp only [pk_cons, pk_nil, ↓A_cons, ↓reduceIte, Nat.reduceEqDiff, reduceCtorEq]
           refine Tr.ret ?_
           simp -implicitDefEqProofs (disch := first | omega | (simp only [go_sem, List.length_append, List.length_drop, List.length_take, hb1] <;> omega) | decide) only [go_sem, ↓reduceIte, Nat.reduceEqDiff, reduceCtorEq]
           all_goals (first | rfl | (rw [hbe, getI_1 hk hc24]; rfl) | (rw [hbe, getI_2 hk hc24 (by rw [← hbe]; exact hc27)]; rfl) | (rw [hbe, getI_3 hk hc24 (by rw [← hbe]; exact hc27) hk0 (by rw [← hbe]; exact hc32)]; rfl) | (rw [hbe, getI_4 hk hc24 (by rw [← hbe]; exact hc27) (by rw [← hbe]; first | exact fun h => hc32 h.2 | exact fun h => hk0 h.1) (by rw [← big63 _ hac2]; exact hc62)]; rfl) | (rw [hbe, getI_5 hk hc24 (by rw [← hbe]; exact hc27) (by rw [← hbe]; first | exact fun h => hc32 h.2 | exact fun h => hk0 h.1) (by rw [← big63 _ hac2]; exact hc62) (by rw [← flip_pos]; exact hc64)]; (rw [show ((18446744073709551615 - accF (flipOf x) (r.take k) : Nat) : Int) - 18446744073709551616 = -1 - (accF (flipOf x) (r.take k) : Int) by omega]; try rfl)) | (rw [hbe, getI_6 hk hc24 (by rw [← hbe]; exact hc27) (by rw [← hbe]; first | exact fun h => hc32 h.2 | exact fun h => hk0 h.1) (by rw [← big63 _ hac2]; exact hc62) (by rw [← flip_pos]; exact hc64)]; rfl))
          ·
           clear hT hF KT KF
           refine Tr.skip ?_
           refine hK25 _ ?_
           clear hK25 K25
           refine Tr.kp [6, 7] ?_
           simp only [pk_cons, pk_nil, ↓A_cons, ↓reduceIte, Nat.reduceEqDiff, reduceCtorEq]
           refine Tr.seqK fun K28 hK28 => ?_
           -- region 23 (wire.go:60)
           refine Tr.rg hcx [1000068, 1000070] _ [] rfl rfl rfl ?_
           simp -implicitDefEqProofs (maxSteps := 2000000) (disch := first | omega | (simp only [go_sem, List.length_append, List.length_drop, List.length_take, hb1] <;> omega) | decide) only [go_sem, ↓reduceIte, Nat.reduceEqDiff, reduceCtorEq, Nat.reduceLT, Nat.reduceBEq, Nat.reduceAdd, Nat.reduceSub, Nat.reduceMul, Nat.reduceMod, Int.reduceMod, Int.reduceToNat, Int.reduceNeg, Nat.add_sub_cancel, hk0, List.take_length]
           refine hK28 _ ?_
           clear hK28 K28
           refine Tr.kp [2, 3, 4] ?_
           simp only [pk_cons, pk_nil, ↓A_cons, ↓reduceIte, Nat.reduceEqDiff, reduceCtorEq]
           refine Tr.ret ?_
           simp -implicitDefEqProofs (disch := first | omega | (simp only [go_sem, List.length_append, List.length_drop, List.length_take, hb1] <;> omega) | decide) only [go_sem, ↓reduceIte, Nat.reduceEqDiff, reduceCtorEq]
           all_goals (first | rfl | (rw [hbe, getI_1 hk hc24]; rfl) | (rw [hbe, getI_2 hk hc24 (by rw [← hbe]; exact hc27)]; rfl) | (rw [hbe, getI_3 hk hc24 (by rw [← hbe]; exact hc27) hk0 (by rw [← hbe]; exact hc32)]; rfl) | (rw [hbe, getI_4 hk hc24 (by rw [← hbe]; exact hc27) (by rw [← hbe]; first | exact fun h => hc32 h.2 | exact fun h => hk0 h.1) (by rw [← big63 _ hac2]; exact hc62)]; rfl) | (rw [hbe, getI_5 hk hc24 (by rw [← hbe]; exact hc27) (by rw [← hbe]; first | exact fun h => hc32 h.2 | exact fun h => hk0 h.1) (by rw [← big63 _ hac2]; exact hc62) (by rw [← flip_pos]; exact hc64)]; (rw [show ((18446744073709551615 - accF (flipOf x) (r.take k) : Nat) : Int) - 18446744073709551616 = -1 - (accF (flipOf x) (r.take k) : Int) by omega]; try rfl)) | (rw [hbe, getI_6 hk hc24 (by rw [← hbe]; exact hc27) (by rw [← hbe]; first | exact fun h => hc32 h.2 | exact fun h => hk0 h.1) (by rw [← big63 _ hac2]; exact hc62) (by rw [← flip_pos]; exact hc64)]; rfl))
     ·
      -- region 11 (wire.go:47)
      refine Tr.rg hcx [1000042] [some 33, some 34, some 35, some 36, some 37, some 38, some 39, some 40, some 41, some 42, some 32] [] rfl rfl rfl ?_
      simp -implicitDefEqProofs (maxSteps := 2000000) (disch := first | omega | (simp only [go_sem, List.length_append, List.length_drop, List.length_take, hb1] <;> omega) | decide) only [go_sem, ↓reduceIte, Nat.reduceEqDiff, reduceCtorEq, Nat.reduceLT, Nat.reduceBEq, Nat.reduceAdd, Nat.reduceSub, Nat.reduceMul, Nat.reduceMod, Int.reduceMod, Int.reduceToNat, Int.reduceNeg, Nat.add_sub_cancel, hk0]
      refine hK13 _ ?_
      clear hK13 K13
      refine Tr.kp [0, 5, 6, 32] ?_
      simp only [pk_cons, pk_nil, ↓A_cons, ↓reduceIte, Nat.reduceEqDiff, reduceCtorEq]
      refine Tr.condG fun KT KF hT hF => ?_
      simp only [ev_tmp, ev_const, ↓A_cons, ↓reduceIte, Nat.reduceEqDiff, reduceCtorEq, condG_bool, GB_true, GB_false, decide_eq_true_eq]
      refine hF ?_
      clear hT hF KT KF
      refine Tr.skip ?_
      refine hK8 _ ?_
      clear hK8 K8
      refine Tr.kp [0, 5, 6] ?_
      simp only [pk_cons, pk_nil, ↓A_cons, ↓reduceIte, Nat.reduceEqDiff, reduceCtorEq]
      refine Tr.seqK fun K29 hK29 => ?_
      -- region 13 (wire.go:50)
      refine Tr.rg hcx [] _ [] rfl rfl rfl ?_
      simp -implicitDefEqProofs (maxSteps := 2000000) (disch := first | omega | (simp only [go_sem, List.length_append, List.length_drop, List.length_take, hb1] <;> omega) | decide) only [go_sem, ↓reduceIte, Nat.reduceEqDiff, reduceCtorEq, Nat.reduceLT, Nat.reduceBEq, Nat.reduceAdd, Nat.reduceSub, Nat.reduceMul, Nat.reduceMod, Int.reduceMod, Int.reduceToNat, Int.reduceNeg, Nat.add_sub_cancel, hk0]
      refine hK29 _ ?_
      clear hK29 K29
      refine Tr.kp [0, 5, 6, 7] ?_
      simp only [pk_cons, pk_nil, ↓A_cons, ↓reduceIte, Nat.reduceEqDiff, reduceCtorEq]
      refine Tr.seqK fun K30 hK30 => ?_
      refine Tr.seqK fun K31 hK31 => ?_
      -- region 14 (wire.go:51)
      refine Tr.rg hcx [] _ [] rfl rfl rfl ?_
      simp -implicitDefEqProofs (maxSteps := 2000000) (disch := first | omega | (simp only [go_sem, List.length_append, List.length_drop, List.length_take, hb1] <;> omega) | decide) only [go_sem, ↓reduceIte, Nat.reduceEqDiff, reduceCtorEq, Nat.reduceLT, Nat.reduceBEq, Nat.reduceAdd, Nat.reduceSub, Nat.reduceMul, Nat.reduceMod, Int.reduceMod, Int.reduceToNat, Int.reduceNeg, Nat.add_sub_cancel, hk0, hr]
      refine hK31 _ ?_
      clear hK31 K31
      refine Tr.kp [5, 6, 7, 46, 47, 48] ?_
      simp only [pk_cons, pk_nil, ↓A_cons, ↓reduceIte, Nat.reduceEqDiff, reduceCtorEq]
      refine Tr.blk ?_
      refine Tr.loopI (α := Nat) (fun a => [(5, ?v5_47), (6, ?v6_47), (7, .val (nU (accF (flipOf x) ((r.take k).take a)))), (46, ?v46_47), (47, ?v47_47), (48, .val (nI a))]) (fun a => ?h_47) (fun a => a ≤ (r.take k).length) (fun a => (r.take k).length - a) (0) ?_ ?le_47 ?hh_47 ?bd_47
      case hh_47 => exact rfl
      case le_47 => (simp only [Le_nil, Le_cons, ↓A_cons, ↓reduceIte, Nat.reduceEqDiff, reduceCtorEq, CLe_refl, CLe_top, CLe_full, CLe_nil, CLe_own, and_true, true_and]; all_goals (repeat' first | exact CLe.refl _ | exact True.intro | (refine CLe_sln ?_; first | with_reducible rfl | (simp only [List.take_zero]; done) | (rfl; done)) | exact CLe_nI (by omega) | exact CLe_int (by omega) | exact CLe_inI (by omega) | exact CLe_nIi (by omega) | with_reducible apply And.intro))
      · omega
      case bd_47 =>
       rintro i hi
       have hcl := (gt (r.take k) i ^^^ flipOf x).toNat_lt
       have hkl : (r.take k).length = k := by rw [List.length_take]; omega
       have hac := accF_lt (flipOf x) ((r.take k).take i)
       rw [List.length_take, Nat.min_eq_left hi] at hac
       have hp8 : 256 ^ i ≤ 256 ^ 8 := Nat.pow_le_pow_right (by decide) (by omega)
       have hac2 : accF (flipOf x) ((r.take k).take i) < 18446744073709551616 := Nat.lt_of_lt_of_le hac (by simpa using hp8)
       refine Tr.seqK fun K32 hK32 => ?_
       -- region 15 (wire.go:51)
       refine Tr.rg hcx [] _ [] rfl rfl rfl ?_
       simp -implicitDefEqProofs (maxSteps := 2000000) (disch := first | omega | (simp only [go_sem, List.length_append, List.length_drop, List.length_take, hb1] <;> omega) | decide) only [go_sem, ↓reduceIte, Nat.reduceEqDiff, reduceCtorEq, Nat.reduceLT, Nat.reduceBEq, Nat.reduceAdd, Nat.reduceSub, Nat.reduceMul, Nat.reduceMod, Int.reduceMod, Int.reduceToNat, Int.reduceNeg, Nat.add_sub_cancel, hk0]
       refine hK32 _ ?_
       clear hK32 K32
       refine Tr.kp [5, 6, 7, 46, 47, 48, 49] ?_
       simp only [pk_cons, pk_nil, ↓A_cons, ↓reduceIte, Nat.reduceEqDiff, reduceCtorEq]
       refine Tr.seqK fun K33 hK33 => ?_
       refine Tr.condG fun KT KF hT hF => ?_
       simp only [ev_tmp, ev_const, ↓A_cons, ↓reduceIte, Nat.reduceEqDiff, reduceCtorEq, condG_bool, GB_true, GB_false, decide_eq_true_eq]
       refine GB.dec (fun hc49 => hT ?_) (fun hc49 => hF ?_)
       ·
        clear hT hF KT KF
        refine Tr.skip ?_
        refine hK33 _ ?_
        clear hK33 K33
        refine Tr.kp [5, 6, 7, 46, 47, 48] ?_
        simp only [pk_cons, pk_nil, ↓A_cons, ↓reduceIte, Nat.reduceEqDiff, reduceCtorEq]
        refine Tr.seqK fun K34 hK34 => ?_
        refine Tr.blk ?_
        refine Tr.seqK fun K35 hK35 => ?_
        -- region 16 (wire.go:51)
        refine Tr.rg hcx [1000051] _ [] rfl rfl rfl ?_
        simp -implicitDefEqProofs (maxSteps := 2000000) (disch := first | omega | (simp only [go_sem, List.length_append, List.length_drop, List.length_take, hb1] <;> omega) | decide) only [go_sem, ↓reduceIte, Nat.reduceEqDiff, reduceCtorEq, Nat.reduceLT, Nat.reduceBEq, Nat.reduceAdd, Nat.reduceSub, Nat.reduceMul, Nat.reduceMod, Int.reduceMod, Int.reduceToNat, Int.reduceNeg, Nat.add_sub_cancel, hk0]
        refine hK35 _ ?_
        clear hK35 K35
        refine Tr.kp [5, 6, 7, 9, 46, 47, 48] ?_
        simp only [pk_cons, pk_nil, ↓A_cons, ↓reduceIte, Nat.reduceEqDiff, reduceCtorEq]
        -- region 17 (wire.go:52)
        refine Tr.rg hcx [1000058] _ [] rfl rfl rfl ?_
        simp -implicitDefEqProofs (maxSteps := 2000000) (disch := first | omega | (simp only [go_sem, List.length_append, List.length_drop, List.length_take, hb1] <;> omega) | decide) only [go_sem, ↓reduceIte, Nat.reduceEqDiff, reduceCtorEq, Nat.reduceLT, Nat.reduceBEq, Nat.reduceAdd, Nat.reduceSub, Nat.reduceMul, Nat.reduceMod, Int.reduceMod, Int.reduceToNat, Int.reduceNeg, Nat.add_sub_cancel, hk0]
        refine hK34 _ ?_
        clear hK34 K34
        refine Tr.kp [5, 6, 7, 46, 47, 48] ?_
        simp only [pk_cons, pk_nil, ↓A_cons, ↓reduceIte, Nat.reduceEqDiff, reduceCtorEq]
        -- region 18 (wire.go:51)
        refine Tr.rg hcx [] _ [] rfl rfl rfl ?_
        simp -implicitDefEqProofs (maxSteps := 2000000) (disch := first | omega | (simp only [go_sem, List.length_append, List.length_drop, List.length_take, hb1] <;> omega) | decide) only [go_sem, ↓reduceIte, Nat.reduceEqDiff, reduceCtorEq, Nat.reduceLT, Nat.reduceBEq, Nat.reduceAdd, Nat.reduceSub, Nat.reduceMul, Nat.reduceMod, Int.reduceMod, Int.reduceToNat, Int.reduceNeg, Nat.add_sub_cancel, hk0]
        refine ⟨i + 1, ⟨by omega, by first | omega | (simp only []; omega)⟩, ?_, rfl⟩
        (simp only [Le_nil, Le_cons, ↓A_cons, ↓reduceIte, Nat.reduceEqDiff, reduceCtorEq, CLe_refl, CLe_top, CLe_full, CLe_nil, CLe_own, and_true, true_and]; all_goals (repeat' first | exact CLe.refl _ | exact True.intro | (refine CLe_sln ?_; first | with_reducible rfl | (simp only [List.take_zero]; done) | (rfl; done)) | exact CLe_nI (by omega) | exact CLe_int (by omega) | exact CLe_inI (by omega) | exact CLe_nIi (by omega) | with_reducible apply And.intro))
        all_goals (exact CLe_val (congrArg nU (acc_next (flipOf x) (r.take k) i hc49 (by omega))))
       ·
        clear hT hF KT KF
        obtain rfl : i = (r.take k).length := by omega
        rw [List.take_length] at *
        refine Tr.exit ?_
        refine hK30 _ ?_
        clear hK33 K33 hK30 K30
        refine Tr.kp [5, 6, 7] ?_
        simp only [pk_cons, pk_nil, ↓A_cons, ↓reduceIte, Nat.reduceEqDiff, reduceCtorEq]
        refine Tr.seqK fun K36 hK36 => ?_
        refine Tr.seqK fun K37 hK37 => ?_
        -- region 19 (wire.go:54)
        refine Tr.rg hcx [] _ [] rfl rfl rfl ?_
        simp -implicitDefEqProofs (maxSteps := 2000000) (disch := first | omega | (simp only [go_sem, List.length_append, List.length_drop, List.length_take, hb1] <;> omega) | decide) only [go_sem, ↓reduceIte, Nat.reduceEqDiff, reduceCtorEq, Nat.reduceLT, Nat.reduceBEq, Nat.reduceAdd, Nat.reduceSub, Nat.reduceMul, Nat.reduceMod, Int.reduceMod, Int.reduceToNat, Int.reduceNeg, Nat.add_sub_cancel, hk0, List.take_length]
        refine hK37 _ ?_
        clear hK37 K37
        refine Tr.kp [5, 6, 7, 62] ?_
        simp only [pk_cons, pk_nil, ↓A_cons, ↓reduceIte, Nat.reduceEqDiff, reduceCtorEq]
        refine Tr.condG fun KT KF hT hF => ?_
        simp only [ev_tmp, ev_const, ↓A_cons, ↓reduceIte, Nat.reduceEqDiff, reduceCtorEq, condG_bool, GB_true, GB_false, decide_eq_true_eq]
        refine GB.dec (fun hc62 => hT ?_) (fun hc62 => hF ?_)
        ·
         clear hT hF KT KF
         refine Tr.seqK fun K38 hK38 => ?_
         -- region 20 (wire.go:55)
         refine Tr.rg hcx [] _ [] rfl rfl rfl ?_
         simp -implicitDefEqProofs (maxSteps := 2000000) (disch := first | omega | (simp only [go_sem, List.length_append, List.length_drop, List.length_take, hb1] <;> omega) | decide) only [go_sem, ↓reduceIte, Nat.reduceEqDiff, reduceCtorEq, Nat.reduceLT, Nat.reduceBEq, Nat.reduceAdd, Nat.reduceSub, Nat.reduceMul, Nat.reduceMod, Int.reduceMod, Int.reduceToNat, Int.reduceNeg, Nat.add_sub_cancel, hk0]
         refine hK38 _ ?_
         clear hK38 K38
         refine Tr.kp [2, 3, 4] ?_
         simp only [pk_cons, pk_nil, ↓A_cons, ↓reduceIte, Nat.reduceEqDiff, reduceCtorEq]
         refine Tr.ret ?_
         simp -implicitDefEqProofs (disch := first | omega | (simp only [go_sem, List.length_append, List.length_drop, List.length_take, hb1] <;> omega) | decide) only [go_sem, ↓reduceIte, Nat.reduceEqDiff, reduceCtorEq]
         all_goals (first | rfl | (rw [hbe, getI_1 hk hc24]; rfl) | (rw [hbe, getI_2 hk hc24 (by rw [← hbe]; exact hc27)]; rfl) | (rw [hbe, getI_3 hk hc24 (by rw [← hbe]; exact hc27) hk0 (by rw [← hbe]; exact hc32)]; rfl) | (rw [hbe, getI_4 hk hc24 (by rw [← hbe]; exact hc27) (by rw [← hbe]; first | exact fun h => hc32 h.2 | exact fun h => hk0 h.1) (by rw [← big63 _ hac2]; exact hc62)]; rfl) | (rw [hbe, getI_5 hk hc24 (by rw [← hbe]; exact hc27) (by rw [← hbe]; first | exact fun h => hc32 h.2 | exact fun h => hk0 h.1) (by rw [← big63 _ hac2]; exact hc62) (by rw [← flip_pos]; exact hc64)]; (rw [show ((18446744073709551615 - accF (flipOf x) (r.take k) : Nat) : Int) - 18446744073709551616 = -1 - (accF (flipOf x) (r.take k) : Int) by omega]; try rfl)) | (rw [hbe, getI_6 hk hc24 (by rw [← hbe]; exact hc27) (by rw [← hbe]; first | exact fun h => hc32 h.2 | exact fun h => hk0 h.1) (by rw [← big63 _ hac2]; exact hc62) (by rw [← flip_pos]; exact hc64)]; rfl))
        ·
         clear hT hF KT KF
         refine Tr.skip ?_
         refine hK36 _ ?_
         clear hK36 K36
         refine Tr.kp [5, 6, 7] ?_
         simp only [pk_cons, pk_nil, ↓A_cons, ↓reduceIte, Nat.reduceEqDiff, reduceCtorEq]
         refine Tr.seqK fun K39 hK39 => ?_
         refine Tr.seqK fun K40 hK40 => ?_
         -- region 21 (wire.go:57)
         refine Tr.rg hcx [] _ [] rfl rfl rfl ?_
         simp -implicitDefEqProofs (maxSteps := 2000000) (disch := first | omega | (simp only [go_sem, List.length_append, List.length_drop, List.length_take, hb1] <;> omega) | decide) only [go_sem, ↓reduceIte, Nat.reduceEqDiff, reduceCtorEq, Nat.reduceLT, Nat.reduceBEq, Nat.reduceAdd, Nat.reduceSub, Nat.reduceMul, Nat.reduceMod, Int.reduceMod, Int.reduceToNat, Int.reduceNeg, Nat.add_sub_cancel, hk0, List.take_length]
         refine hK40 _ ?_
         clear hK40 K40
         refine Tr.kp [6, 7, 64] ?_
         simp only [pk_cons, pk_nil, ↓A_cons, ↓reduceIte, Nat.reduceEqDiff, reduceCtorEq]
         refine Tr.condG fun KT KF hT hF => ?_
         simp only [ev_tmp, ev_const, ↓A_cons, ↓reduceIte, Nat.reduceEqDiff, reduceCtorEq, condG_bool, GB_true, GB_false, decide_eq_true_eq]
         refine GB.dec (fun hc64 => hT ?_) (fun hc64 => hF ?_)
         ·
          clear hT hF KT KF
          -- region 22 (wire.go:58)
          refine Tr.rg hcx [1000066] _ [] rfl rfl rfl ?_
          simp -implicitDefEqProofs (maxSteps := 2000000) (disch := first | omega | (simp only [go_sem, List.length_append, List.length_drop, List.length_take, hb1] <;> omega) | decide) only [go_sem, ↓reduceIte, Nat.reduceEqDiff, reduceCtorEq, Nat.reduceLT, Nat.reduceBEq, Nat.reduceAdd, Nat.reduceSub, Nat.reduceMul, Nat.reduceMod, Int.reduceMod, Int.reduceToNat, Int.reduceNeg, Nat.add_sub_cancel, hk0, List.take_length]
          refine hK39 _ ?_
          clear hK39 K39
          refine Tr.kp [6, 7] ?_
          simp only [pk_cons, pk_nil, ↓A_cons, ↓reduceIte, Nat.reduceEqDiff, reduceCtorEq]
          refine Tr.seqK fun K41 hK41 => ?_
          -- region 23 (wire.go:60)
          refine Tr.rg hcx [1000068, 1000070] _ [] rfl rfl rfl ?_
          simp -implicitDefEqProofs (maxSteps := 2000000) (disch := first | omega | (simp only [go_sem, List.length_append, List.length_drop, List.length_take, hb1] <;> omega) | decide) only [go_sem, ↓reduceIte, Nat.reduceEqDiff, reduceCtorEq, Nat.reduceLT, Nat.reduceBEq, Nat.reduceAdd, Nat.reduceSub, Nat.reduceMul, Nat.reduceMod, Int.reduceMod, Int.reduceToNat, Int.reduceNeg, Nat.add_sub_cancel, hk0, List.take_length]
          refine hK41 _ ?_
          clear hK41 K41
          refine Tr.kp [2, 3, 4] ?_
          simp only [pk_cons, pk_nil, ↓A_cons, ↓reduceIte, Nat.reduceEqDiff, reduceCtorEq]
          refine Tr.ret ?_
          simp -implicitDefEqProofs (disch := first | omega | (simp only [go_sem, List.length_append, List.length_drop, List.length_take, hb1] <;> omega) | decide) only [go_sem, ↓reduceIte, Nat.reduceEqDiff, reduceCtorEq]
          all_goals (first | rfl | (rw [hbe, getI_1 hk hc24]; rfl) | (rw [hbe, getI_2 hk hc24 (by rw [← hbe]; exact hc27)]; rfl) | (rw [hbe, getI_3 hk hc24 (by rw [← hbe]; exact hc27) hk0 (by rw [← hbe]; exact hc32)]; rfl) | (rw [hbe, getI_4 hk hc24 (by rw [← hbe]; exact hc27) (by rw [← hbe]; first | exact fun h => hc32 h.2 | exact fun h => hk0 h.1) (by rw [← big63 _ hac2]; exact hc62)]; rfl) | (rw [hbe, getI_5 hk hc24 (by rw [← hbe]; exact hc27) (by rw [← hbe]; first | exact fun h => hc32 h.2 | exact fun h => hk0 h.1) (by rw [← big63 _ hac2]; exact hc62) (by rw [← flip_pos]; exact hc64)]; (rw [show ((18446744073709551615 - accF (flipOf x) (r.take k) : Nat) : Int) - 18446744073709551616 = -1 - (accF (flipOf x) (r.take k) : Int) by omega]; try rfl)) | (rw [hbe, getI_6 hk hc24 (by rw [← hbe]; exact hc27) (by rw [← hbe]; first | exact fun h => hc32 h.2 | exact fun h => hk0 h.1) (by rw [← big63 _ hac2]; exact hc62) (by rw [← flip_pos]; exact hc64)]; rfl))
         ·
          clear hT hF KT KF
          refine Tr.skip ?_
          refine hK39 _ ?_
          clear hK39 K39
          refine Tr.kp [6, 7] ?_
          simp only [pk_cons, pk_nil, ↓A_cons, ↓reduceIte, Nat.reduceEqDiff, reduceCtorEq]
          refine Tr.seqK fun K42 hK42 => ?_
          -- region 23 (wire.go:60)
          refine Tr.rg hcx [1000068, 1000070] _ [] rfl rfl rfl ?_
          simp -implicitDefEqProofs (maxSteps := 2000000) (disch := first | omega | (simp only [go_sem, List.length_append, List.length_drop, List.length_take, hb1] <;> omega) | decide) only [go_sem, ↓reduceIte, Nat.reduceEqDiff, reduceCtorEq, Nat.reduceLT, Nat.reduceBEq, Nat.reduceAdd, Nat.reduceSub, Nat.reduceMul, Nat.reduceMod, Int.reduceMod, Int.reduceToNat, Int.reduceNeg, Nat.add_sub_cancel, hk0, List.take_length]
          refine hK42 _ ?_
          clear hK42 K42
          refine Tr.kp [2, 3, 4] ?_
          simp only [pk_cons, pk_nil, ↓A_cons, ↓reduceIte, Nat.reduceEqDiff, reduceCtorEq]
          refine Tr.ret ?_
          simp -implicitDefEqProofs (disch := first | omega | (simp only [go_sem, List.length_append, List.length_drop, List.length_take, hb1] <;> omega) | decide) only [go_sem, ↓reduceIte, Nat.reduceEqDiff, reduceCtorEq]
          all_goals (first | rfl | (rw [hbe, getI_1 hk hc24]; rfl) | (rw [hbe, getI_2 hk hc24 (by rw [← hbe]; exact hc27)]; rfl) | (rw [hbe, getI_3 hk hc24 (by rw [← hbe]; exact hc27) hk0 (by rw [← hbe]; exact hc32)]; rfl) | (rw [hbe, getI_4 hk hc24 (by rw [← hbe]; exact hc27) (by rw [← hbe]; first | exact fun h => hc32 h.2 | exact fun h => hk0 h.1) (by rw [← big63 _ hac2]; exact hc62)]; rfl) | (rw [hbe, getI_5 hk hc24 (by rw [← hbe]; exact hc27) (by rw [← hbe]; first | exact fun h => hc32 h.2 | exact fun h => hk0 h.1) (by rw [← big63 _ hac2]; exact hc62) (by rw [← flip_pos]; exact hc64)]; (rw [show ((18446744073709551615 - accF (flipOf x) (r.take k) : Nat) : Int) - 18446744073709551616 = -1 - (accF (flipOf x) (r.take k) : Int) by omega]; try rfl)) | (rw [hbe, getI_6 hk hc24 (by rw [← hbe]; exact hc27) (by rw [← hbe]; first | exact fun h => hc32 h.2 | exact fun h => hk0 h.1) (by rw [← big63 _ hac2]; exact hc62) (by rw [← flip_pos]; exact hc64)]; rfl))

end Go.Sx

namespace Go.Sx
open Go.RowKit Go.Proofs


set_option maxRecDepth 100000 in
set_option maxHeartbeats 8000000 in
theorem fc25 {gl : Nat → C} {M : Nat} {pu : Nat → List C → Option C}  (hcx : CxOK (cxP gl M pu)) (h15 : ∀ n : Int, -9223372036854775808 ≤ n ∧ n ≤ 9223372036854775807 → pu 15 [.val (.int .i64 n)] = some (sl bC (.own 1) (wint n))) (h13 : ∀ x y : List UInt8, x.length < 9223372036854775807 → pu 13 [sl bC .no x, sl bC .no y] = some (.val (.bool (decide (x = y))))) (b : List UInt8) (hb : b.length < 9223372036854775807) : FC Try.prog gl 25 [sl bC .no b] [] (.tup [.val (.int .i64 (getI b).1), .val (nI (getI b).2.1), .val (nI (getI b).2.2)]) [] := by
 replace hcx := hcx.reN (M := 71)
 refine FC.ofA (cx := cxP gl 71 pu) (rs := [.tmp 2, .tmp 3, .tmp 4]) rfl Try.func25 rfl rfl rfl (by simp only [List.length_cons, List.length_nil]; decide) (by simp only [go_sem]) ?_
 simp only [ini, go_sem]
 have hb1 := True.intro
 have h15n : ∀ m : Nat, m < 9223372036854775808 → pu 15 [.val (nI m)] = some (sl bC (.own 1) (wint m)) := fun m h => h15 m (by omega)
 refine Tr.seqK fun K1 hK1 => ?_
 -- region 0 (ref.go:50)
 refine Tr.rg hcx [] _ [] rfl rfl rfl ?_
 simp -implicitDefEqProofs (maxSteps := 2000000) (disch := first | omega | (simp only [go_sem, List.length_append, List.length_drop, List.length_take, hb1] <;> omega) | decide) only [go_sem, ↓reduceIte, Nat.reduceEqDiff, reduceCtorEq, Nat.reduceLT, Nat.reduceBEq, Nat.reduceAdd, Nat.reduceSub, Nat.reduceMul, Nat.reduceMod, Int.reduceMod, Int.reduceToNat, Int.reduceNeg, h15, h15n, h13]
 refine hK1 _ ?_
 clear hK1 K1
 refine Tr.kp [0] ?_
 simp only [pk_cons, pk_nil, ↓A_cons, ↓reduceIte, Nat.reduceEqDiff, reduceCtorEq]
 refine Tr.seqK fun K2 hK2 => ?_
 refine Tr.seqK fun K3 hK3 => ?_
 -- region 1 (ref.go:51)
 refine Tr.rg hcx [] _ [] rfl rfl rfl ?_
 simp -implicitDefEqProofs (maxSteps := 2000000) (disch := first | omega | (simp only [go_sem, List.length_append, List.length_drop, List.length_take, hb1] <;> omega) | decide) only [go_sem, ↓reduceIte, Nat.reduceEqDiff, reduceCtorEq, Nat.reduceLT, Nat.reduceBEq, Nat.reduceAdd, Nat.reduceSub, Nat.reduceMul, Nat.reduceMod, Int.reduceMod, Int.reduceToNat, Int.reduceNeg, h15, h15n, h13]
 refine hK3 _ ?_
 clear hK3 K3
 refine Tr.kp [0, 13] ?_
 simp only [pk_cons, pk_nil, ↓A_cons, ↓reduceIte, Nat.reduceEqDiff, reduceCtorEq]
 refine Tr.condG fun KT KF hT hF => ?_
 simp only [ev_tmp, ev_const, ↓A_cons, ↓reduceIte, Nat.reduceEqDiff, reduceCtorEq, condG_bool, GB_true, GB_false, decide_eq_true_eq]
 refine GB.dec (fun hc13 => hT ?_) (fun hc13 => hF ?_)
 ·
  clear hT hF KT KF
  obtain rfl : b = [] := List.length_eq_zero_iff.1 hc13
  refine Tr.seqK fun K4 hK4 => ?_
  -- region 2 (ref.go:52)
  refine Tr.rg hcx [] _ [] rfl rfl rfl ?_
  simp -implicitDefEqProofs (maxSteps := 2000000) (disch := first | omega | (simp only [go_sem, List.length_append, List.length_drop, List.length_take, hb1] <;> omega) | decide) only [go_sem, ↓reduceIte, Nat.reduceEqDiff, reduceCtorEq, Nat.reduceLT, Nat.reduceBEq, Nat.reduceAdd, Nat.reduceSub, Nat.reduceMul, Nat.reduceMod, Int.reduceMod, Int.reduceToNat, Int.reduceNeg, h15, h15n, h13]
  refine hK4 _ ?_
  clear hK4 K4
  refine Tr.kp [2, 3, 4] ?_
  simp only [pk_cons, pk_nil, ↓A_cons, ↓reduceIte, Nat.reduceEqDiff, reduceCtorEq]
  refine Tr.ret ?_
  simp -implicitDefEqProofs (disch := first | omega | (simp only [go_sem, List.length_append, List.length_drop, List.length_take, hb1] <;> omega) | decide) only [go_sem, ↓reduceIte, Nat.reduceEqDiff, reduceCtorEq]
  all_goals (first | rfl | (rw [rg1 hbe hk (by omega)]; rfl) | (rw [rg2 hbe hk (by omega) hc34]; rfl) | (rw [rg3 hbe hk h8 hc34 i hc37 hc50]; rfl) | (rw [rg4n hbe hk h8 hc34 hc57 hc67]; rfl) | (rw [rg4p hbe hk h8 hc34 hc57 hc67]; rfl) | (rw [rg5 hbe hk h8 hc34 hc57 hac (Classical.not_not.1 hc67)]; try rfl) | (rw [rg6 hbe hk h8 hc34 hc57 hac (Classical.not_not.1 hc67)]; try rfl))
 ·
  clear hT hF KT KF
  obtain ⟨x, r, hbe⟩ : ∃ x r, b = x :: r := by
    cases b with
    | nil => exact absurd rfl hc13
    | cons x r => exact ⟨x, r, rfl⟩
  obtain ⟨k, hk⟩ : ∃ k, kOf x = k := ⟨_, rfl⟩
  have hkc := kOf_cases x
  rw [hk] at hkc
  have hlen : b.length = r.length + 1 := by rw [hbe]; rfl
  have hx0 : gt b 0 = x := by rw [hbe]; rfl
  have hx256 := x.toNat_lt
  refine Tr.skip ?_
  refine hK2 _ ?_
  clear hK2 K2
  refine Tr.kp [0] ?_
  simp only [pk_cons, pk_nil, ↓A_cons, ↓reduceIte, Nat.reduceEqDiff, reduceCtorEq]
  refine Tr.seqK fun K5 hK5 => ?_
  -- region 3 (ref.go:54)
  refine Tr.rg hcx [1000017] _ [] rfl rfl rfl ?_
  simp -implicitDefEqProofs (maxSteps := 2000000) (disch := first | omega | (simp only [go_sem, List.length_append, List.length_drop, List.length_take, hb1] <;> omega) | decide) only [go_sem, ↓reduceIte, Nat.reduceEqDiff, reduceCtorEq, Nat.reduceLT, Nat.reduceBEq, Nat.reduceAdd, Nat.reduceSub, Nat.reduceMul, Nat.reduceMod, Int.reduceMod, Int.reduceToNat, Int.reduceNeg, h15, h15n, h13, hx0]
  refine hK5 _ ?_
  clear hK5 K5
  refine Tr.kp [0, 5] ?_
  simp only [pk_cons, pk_nil, ↓A_cons, ↓reduceIte, Nat.reduceEqDiff, reduceCtorEq]
  refine Tr.seqK fun K6 hK6 => ?_
  refine Tr.seqK fun K7 hK7 => ?_
  by_cases h119 : x.toNat < 119
  ·
   -- region 4 (ref.go:55)
   refine Tr.rg hcx [] [some 18, some 19, some 20, some 21, some 22, some 23] [] rfl rfl rfl ?_
   simp -implicitDefEqProofs (maxSteps := 2000000) (disch := first | omega | (simp only [go_sem, List.length_append, List.length_drop, List.length_take, hb1] <;> omega) | decide) only [go_sem, ↓reduceIte, Nat.reduceEqDiff, reduceCtorEq, Nat.reduceLT, Nat.reduceBEq, Nat.reduceAdd, Nat.reduceSub, Nat.reduceMul, Nat.reduceMod, Int.reduceMod, Int.reduceToNat, Int.reduceNeg, h15, h15n, h13, h119]
   refine hK7 _ ?_
   clear hK7 K7
   refine Tr.kp [0, 5, 23] ?_
   simp only [pk_cons, pk_nil, ↓A_cons, ↓reduceIte, Nat.reduceEqDiff, reduceCtorEq]
   refine Tr.condG fun KT KF hT hF => ?_
   simp only [ev_tmp, ev_const, ↓A_cons, ↓reduceIte, Nat.reduceEqDiff, reduceCtorEq, condG_bool, GB_true, GB_false, decide_eq_true_eq]
   refine hT ?_
   clear hT hF KT KF
   refine Tr.seqK fun K8 hK8 => ?_
   -- region 5 (ref.go:56)
   refine Tr.rg hcx [] _ [] rfl rfl rfl ?_
   simp -implicitDefEqProofs (maxSteps := 2000000) (disch := first | omega | (simp only [go_sem, List.length_append, List.length_drop, List.length_take, hb1] <;> omega) | decide) only [go_sem, ↓reduceIte, Nat.reduceEqDiff, reduceCtorEq, Nat.reduceLT, Nat.reduceBEq, Nat.reduceAdd, Nat.reduceSub, Nat.reduceMul, Nat.reduceMod, Int.reduceMod, Int.reduceToNat, Int.reduceNeg, h15, h15n, h13, h119]
   refine hK8 _ ?_
   clear hK8 K8
   refine Tr.kp [2, 3, 4] ?_
   simp only [pk_cons, pk_nil, ↓A_cons, ↓reduceIte, Nat.reduceEqDiff, reduceCtorEq]
   refine Tr.ret ?_
   simp -implicitDefEqProofs (disch := first | omega | (simp only [go_sem, List.length_append, List.length_drop, List.length_take, hb1] <;> omega) | decide) only [go_sem, ↓reduceIte, Nat.reduceEqDiff, reduceCtorEq]
   all_goals (first | rfl | (rw [rg1 hbe hk (by omega)]; rfl) | (rw [rg2 hbe hk (by omega) hc34]; rfl) | (rw [rg3 hbe hk h8 hc34 i hc37 hc50]; rfl) | (rw [rg4n hbe hk h8 hc34 hc57 hc67]; rfl) | (rw [rg4p hbe hk h8 hc34 hc57 hc67]; rfl) | (rw [rg5 hbe hk h8 hc34 hc57 hac (Classical.not_not.1 hc67)]; try rfl) | (rw [rg6 hbe hk h8 hc34 hc57 hac (Classical.not_not.1 hc67)]; try rfl))
  ·
   by_cases h136 : 136 < x.toNat
   ·
    -- region 4 (ref.go:55)
    refine Tr.rg hcx [] [some 18, some 19, some 20, some 21, some 22, some 23] [] rfl rfl rfl ?_
    simp -implicitDefEqProofs (maxSteps := 2000000) (disch := first | omega | (simp only [go_sem, List.length_append, List.length_drop, List.length_take, hb1] <;> omega) | decide) only [go_sem, ↓reduceIte, Nat.reduceEqDiff, reduceCtorEq, Nat.reduceLT, Nat.reduceBEq, Nat.reduceAdd, Nat.reduceSub, Nat.reduceMul, Nat.reduceMod, Int.reduceMod, Int.reduceToNat, Int.reduceNeg, h15, h15n, h13, h119, h136]
    refine hK7 _ ?_
    clear hK7 K7
    refine Tr.kp [0, 5, 23] ?_
    simp only [pk_cons, pk_nil, ↓A_cons, ↓reduceIte, Nat.reduceEqDiff, reduceCtorEq]
    refine Tr.condG fun KT KF hT hF => ?_
    simp only [ev_tmp, ev_const, ↓A_cons, ↓reduceIte, Nat.reduceEqDiff, reduceCtorEq, condG_bool, GB_true, GB_false, decide_eq_true_eq]
    refine hT ?_
    clear hT hF KT KF
    refine Tr.seqK fun K9 hK9 => ?_
    -- region 5 (ref.go:56)
    refine Tr.rg hcx [] _ [] rfl rfl rfl ?_
    simp -implicitDefEqProofs (maxSteps := 2000000) (disch := first | omega | (simp only [go_sem, List.length_append, List.length_drop, List.length_take, hb1] <;> omega) | decide) only [go_sem, ↓reduceIte, Nat.reduceEqDiff, reduceCtorEq, Nat.reduceLT, Nat.reduceBEq, Nat.reduceAdd, Nat.reduceSub, Nat.reduceMul, Nat.reduceMod, Int.reduceMod, Int.reduceToNat, Int.reduceNeg, h15, h15n, h13, h119, h136]
    refine hK9 _ ?_
    clear hK9 K9
    refine Tr.kp [2, 3, 4] ?_
    simp only [pk_cons, pk_nil, ↓A_cons, ↓reduceIte, Nat.reduceEqDiff, reduceCtorEq]
    refine Tr.ret ?_
    simp -implicitDefEqProofs (disch := first | omega | (simp only [go_sem, List.length_append, List.length_drop, List.length_take, hb1] <;> omega) | decide) only [go_sem, ↓reduceIte, Nat.reduceEqDiff, reduceCtorEq]
    all_goals (first | rfl | (rw [rg1 hbe hk (by omega)]; rfl) | (rw [rg2 hbe hk (by omega) hc34]; rfl) | (rw [rg3 hbe hk h8 hc34 i hc37 hc50]; rfl) | (rw [rg4n hbe hk h8 hc34 hc57 hc67]; rfl) | (rw [rg4p hbe hk h8 hc34 hc57 hc67]; rfl) | (rw [rg5 hbe hk h8 hc34 hc57 hac (Classical.not_not.1 hc67)]; try rfl) | (rw [rg6 hbe hk h8 hc34 hc57 hac (Classical.not_not.1 hc67)]; try rfl))
   ·
    -- region 4 (ref.go:55)
    refine Tr.rg hcx [] [some 18, some 19, some 20, some 21, some 22, some 23] [] rfl rfl rfl ?_
    simp -implicitDefEqProofs (maxSteps := 2000000) (disch := first | omega | (simp only [go_sem, List.length_append, List.length_drop, List.length_take, hb1] <;> omega) | decide) only [go_sem, ↓reduceIte, Nat.reduceEqDiff, reduceCtorEq, Nat.reduceLT, Nat.reduceBEq, Nat.reduceAdd, Nat.reduceSub, Nat.reduceMul, Nat.reduceMod, Int.reduceMod, Int.reduceToNat, Int.reduceNeg, h15, h15n, h13, h119, h136]
    refine hK7 _ ?_
    clear hK7 K7
    refine Tr.kp [0, 5, 23] ?_
    simp only [pk_cons, pk_nil, ↓A_cons, ↓reduceIte, Nat.reduceEqDiff, reduceCtorEq]
    refine Tr.condG fun KT KF hT hF => ?_
    simp only [ev_tmp, ev_const, ↓A_cons, ↓reduceIte, Nat.reduceEqDiff, reduceCtorEq, condG_bool, GB_true, GB_false, decide_eq_true_eq]
    refine hF ?_
    clear hT hF KT KF
    refine Tr.skip ?_
    refine hK6 _ ?_
    clear hK6 K6
    refine Tr.kp [0, 5] ?_
    simp only [pk_cons, pk_nil, ↓A_cons, ↓reduceIte, Nat.reduceEqDiff, reduceCtorEq]
    refine Tr.seqK fun K10 hK10 => ?_
    -- region 6 (ref.go:58)
    refine Tr.rg hcx [1000025] _ [] rfl rfl rfl ?_
    simp -implicitDefEqProofs (maxSteps := 2000000) (disch := first | omega | (simp only [go_sem, List.length_append, List.length_drop, List.length_take, hb1] <;> omega) | decide) only [go_sem, ↓reduceIte, Nat.reduceEqDiff, reduceCtorEq, Nat.reduceLT, Nat.reduceBEq, Nat.reduceAdd, Nat.reduceSub, Nat.reduceMul, Nat.reduceMod, Int.reduceMod, Int.reduceToNat, Int.reduceNeg, h15, h15n, h13, h119, h136, n_subG]
    refine hK10 _ ?_
    clear hK10 K10
    refine Tr.kp [0, 5, 6] ?_
    simp only [pk_cons, pk_nil, ↓A_cons, ↓reduceIte, Nat.reduceEqDiff, reduceCtorEq]
    refine Tr.seqJ (α := Unit) (fun a => [(0, ?v0_22), (5, ?v5_22), (6, .val (nI k))]) (fun a => []) (fun a => True) ?ja_22 ?jb_22
    case ja_22 =>
     refine Tr.seqK fun K11 hK11 => ?_
     -- region 7 (ref.go:59)
     refine Tr.rg hcx [] _ [] rfl rfl rfl ?_
     simp -implicitDefEqProofs (maxSteps := 2000000) (disch := first | omega | (simp only [go_sem, List.length_append, List.length_drop, List.length_take, hb1] <;> omega) | decide) only [go_sem, ↓reduceIte, Nat.reduceEqDiff, reduceCtorEq, Nat.reduceLT, Nat.reduceBEq, Nat.reduceAdd, Nat.reduceSub, Nat.reduceMul, Nat.reduceMod, Int.reduceMod, Int.reduceToNat, Int.reduceNeg, h15, h15n, h13, h119, h136]
     refine hK11 _ ?_
     clear hK11 K11
     refine Tr.kp [0, 5, 6, 27] ?_
     simp only [pk_cons, pk_nil, ↓A_cons, ↓reduceIte, Nat.reduceEqDiff, reduceCtorEq]
     refine Tr.condG fun KT KF hT hF => ?_
     simp only [ev_tmp, ev_const, ↓A_cons, ↓reduceIte, Nat.reduceEqDiff, reduceCtorEq, condG_bool, GB_true, GB_false, decide_eq_true_eq]
     refine GB.dec (fun hc27 => hT ?_) (fun hc27 => hF ?_)
     ·
      clear hT hF KT KF
      -- region 8 (ref.go:60)
      refine Tr.rg hcx [1000029] _ [] rfl rfl rfl ?_
      simp -implicitDefEqProofs (maxSteps := 2000000) (disch := first | omega | (simp only [go_sem, List.length_append, List.length_drop, List.length_take, hb1] <;> omega) | decide) only [go_sem, ↓reduceIte, Nat.reduceEqDiff, reduceCtorEq, Nat.reduceLT, Nat.reduceBEq, Nat.reduceAdd, Nat.reduceSub, Nat.reduceMul, Nat.reduceMod, Int.reduceMod, Int.reduceToNat, Int.reduceNeg, h15, h15n, h13, h119, h136]
      refine ⟨(), trivial, ?_, rfl⟩
      (simp only [Le_nil, Le_cons, ↓A_cons, ↓reduceIte, Nat.reduceEqDiff, reduceCtorEq, CLe_refl, CLe_top, CLe_full, CLe_nil, CLe_own, and_true, true_and]; all_goals (repeat' first | exact CLe.refl _ | exact True.intro | (refine CLe_sln ?_; first | with_reducible rfl | (simp only [List.take_zero]; done) | (rfl; done)) | exact CLe_nI (by omega) | exact CLe_int (by omega) | exact CLe_inI (by omega) | exact CLe_nIi (by omega) | with_reducible apply And.intro))
      all_goals (refine CLe_val (congrArg (Value.int .i64) ?_); omega)
     ·
      clear hT hF KT KF
      refine Tr.skip ?_
      refine ⟨(), trivial, ?_, rfl⟩
      (simp only [Le_nil, Le_cons, ↓A_cons, ↓reduceIte, Nat.reduceEqDiff, reduceCtorEq, CLe_refl, CLe_top, CLe_full, CLe_nil, CLe_own, and_true, true_and]; all_goals (repeat' first | exact CLe.refl _ | exact True.intro | (refine CLe_sln ?_; first | with_reducible rfl | (simp only [List.take_zero]; done) | (rfl; done)) | exact CLe_nI (by omega) | exact CLe_int (by omega) | exact CLe_inI (by omega) | exact CLe_nIi (by omega) | with_reducible apply And.intro))
      all_goals (refine CLe_val (congrArg (Value.int .i64) ?_); omega)
    case jb_22 =>
     rintro a ha
     refine Tr.seqK fun K12 hK12 => ?_
     refine Tr.seqK fun K13 hK13 => ?_
     -- region 9 (ref.go:62)
     refine Tr.rg hcx [] _ [] rfl rfl rfl ?_
     simp -implicitDefEqProofs (maxSteps := 2000000) (disch := first | omega | (simp only [go_sem, List.length_append, List.length_drop, List.length_take, hb1] <;> omega) | decide) only [go_sem, ↓reduceIte, Nat.reduceEqDiff, reduceCtorEq, Nat.reduceLT, Nat.reduceBEq, Nat.reduceAdd, Nat.reduceSub, Nat.reduceMul, Nat.reduceMod, Int.reduceMod, Int.reduceToNat, Int.reduceNeg, h15, h15n, h13, h119, h136]
     refine hK13 _ ?_
     clear hK13 K13
     refine Tr.kp [0, 5, 6, 34] ?_
     simp only [pk_cons, pk_nil, ↓A_cons, ↓reduceIte, Nat.reduceEqDiff, reduceCtorEq]
     refine Tr.condG fun KT KF hT hF => ?_
     simp only [ev_tmp, ev_const, ↓A_cons, ↓reduceIte, Nat.reduceEqDiff, reduceCtorEq, condG_bool, GB_true, GB_false, decide_eq_true_eq]
     refine GB.dec (fun hc34 => hT ?_) (fun hc34 => hF ?_)
     ·
      clear hT hF KT KF
      refine Tr.seqK fun K14 hK14 => ?_
      -- region 10 (ref.go:63)
      refine Tr.rg hcx [] _ [] rfl rfl rfl ?_
      simp -implicitDefEqProofs (maxSteps := 2000000) (disch := first | omega | (simp only [go_sem, List.length_append, List.length_drop, List.length_take, hb1] <;> omega) | decide) only [go_sem, ↓reduceIte, Nat.reduceEqDiff, reduceCtorEq, Nat.reduceLT, Nat.reduceBEq, Nat.reduceAdd, Nat.reduceSub, Nat.reduceMul, Nat.reduceMod, Int.reduceMod, Int.reduceToNat, Int.reduceNeg, h15, h15n, h13, h119, h136]
      refine hK14 _ ?_
      clear hK14 K14
      refine Tr.kp [2, 3, 4] ?_
      simp only [pk_cons, pk_nil, ↓A_cons, ↓reduceIte, Nat.reduceEqDiff, reduceCtorEq]
      refine Tr.ret ?_
      simp -implicitDefEqProofs (disch := first | omega | (simp only [go_sem, List.length_append, List.length_drop, List.length_take, hb1] <;> omega) | decide) only [go_sem, ↓reduceIte, Nat.reduceEqDiff, reduceCtorEq]
      all_goals (first | rfl | (rw [rg1 hbe hk (by omega)]; rfl) | (rw [rg2 hbe hk (by omega) hc34]; rfl) | (rw [rg3 hbe hk h8 hc34 i hc37 hc50]; rfl) | (rw [rg4n hbe hk h8 hc34 hc57 hc67]; rfl) | (rw [rg4p hbe hk h8 hc34 hc57 hc67]; rfl) | (rw [rg5 hbe hk h8 hc34 hc57 hac (Classical.not_not.1 hc67)]; try rfl) | (rw [rg6 hbe hk h8 hc34 hc57 hac (Classical.not_not.1 hc67)]; try rfl))
     ·
      clear hT hF KT KF
      have h8 : k ≤ 8 := by omega
      have htk : (r.take k).take k = r.take k := by rw [List.take_take, Nat.min_self]
      refine Tr.skip ?_
      refine hK12 _ ?_
      clear hK12 K12
      refine Tr.kp [0, 5, 6] ?_
      simp only [pk_cons, pk_nil, ↓A_cons, ↓reduceIte, Nat.reduceEqDiff, reduceCtorEq]
      refine Tr.seqK fun K15 hK15 => ?_
      -- region 11 (ref.go:65)
      refine Tr.rg hcx [] _ [] rfl rfl rfl ?_
      simp -implicitDefEqProofs (maxSteps := 2000000) (disch := first | omega | (simp only [go_sem, List.length_append, List.length_drop, List.length_take, hb1] <;> omega) | decide) only [go_sem, ↓reduceIte, Nat.reduceEqDiff, reduceCtorEq, Nat.reduceLT, Nat.reduceBEq, Nat.reduceAdd, Nat.reduceSub, Nat.reduceMul, Nat.reduceMod, Int.reduceMod, Int.reduceToNat, Int.reduceNeg, h15, h15n, h13, h119, h136]
      refine hK15 _ ?_
      clear hK15 K15
      refine Tr.kp [0, 5, 6, 7] ?_
      simp only [pk_cons, pk_nil, ↓A_cons, ↓reduceIte, Nat.reduceEqDiff, reduceCtorEq]
      refine Tr.seqK fun K16 hK16 => ?_
      refine Tr.seqK fun K17 hK17 => ?_
      -- region 12 (ref.go:66)
      refine Tr.rg hcx [] _ [] rfl rfl rfl ?_
      simp -implicitDefEqProofs (maxSteps := 2000000) (disch := first | omega | (simp only [go_sem, List.length_append, List.length_drop, List.length_take, hb1] <;> omega) | decide) only [go_sem, ↓reduceIte, Nat.reduceEqDiff, reduceCtorEq, Nat.reduceLT, Nat.reduceBEq, Nat.reduceAdd, Nat.reduceSub, Nat.reduceMul, Nat.reduceMod, Int.reduceMod, Int.reduceToNat, Int.reduceNeg, h15, h15n, h13, h119, h136]
      refine hK17 _ ?_
      clear hK17 K17
      refine Tr.kp [0, 5, 6, 7, 8] ?_
      simp only [pk_cons, pk_nil, ↓A_cons, ↓reduceIte, Nat.reduceEqDiff, reduceCtorEq]
      refine Tr.blk ?_
      refine Tr.loopI (α := Nat) (fun a => [(0, ?v0_42), (5, ?v5_42), (6, ?v6_42), (7, .val (nI (accF (flipOf x) ((r.take k).take a)))), (8, .val (nI (a + 1)))]) (fun a => ?h_42) (fun a => a ≤ k ∧ accF (flipOf x) ((r.take k).take a) < 9223372036854775808) (fun a => k - a) (0) ?_ ?le_42 ?hh_42 ?bd_42
      case hh_42 => exact rfl
      case le_42 => (simp only [Le_nil, Le_cons, ↓A_cons, ↓reduceIte, Nat.reduceEqDiff, reduceCtorEq, CLe_refl, CLe_top, CLe_full, CLe_nil, CLe_own, and_true, true_and]; all_goals (repeat' first | exact CLe.refl _ | exact True.intro | (refine CLe_sln ?_; first | with_reducible rfl | (simp only [List.take_zero]; done) | (rfl; done)) | exact CLe_nI (by omega) | exact CLe_int (by omega) | exact CLe_inI (by omega) | exact CLe_nIi (by omega) | with_reducible apply And.intro))
      · exact ⟨by omega, by simp [accF]⟩
      case bd_42 =>
       rintro i ⟨hi, hac⟩
       have hcl := (gt (r.take k) i).toNat_lt
       have hcl2 := (gt (r.take k) i ^^^ flipOf x).toNat_lt
       refine Tr.seqK fun K18 hK18 => ?_
       refine Tr.seqK fun K19 hK19 => ?_
       -- region 13 (ref.go:66)
       refine Tr.rg hcx [] _ [] rfl rfl rfl ?_
       simp -implicitDefEqProofs (maxSteps := 2000000) (disch := first | omega | (simp only [go_sem, List.length_append, List.length_drop, List.length_take, hb1] <;> omega) | decide) only [go_sem, ↓reduceIte, Nat.reduceEqDiff, reduceCtorEq, Nat.reduceLT, Nat.reduceBEq, Nat.reduceAdd, Nat.reduceSub, Nat.reduceMul, Nat.reduceMod, Int.reduceMod, Int.reduceToNat, Int.reduceNeg, h15, h15n, h13, h119, h136]
       refine hK19 _ ?_
       clear hK19 K19
       refine Tr.kp [0, 5, 6, 7, 8, 37] ?_
       simp only [pk_cons, pk_nil, ↓A_cons, ↓reduceIte, Nat.reduceEqDiff, reduceCtorEq]
       refine Tr.condG fun KT KF hT hF => ?_
       simp only [ev_tmp, ev_const, ↓A_cons, ↓reduceIte, Nat.reduceEqDiff, reduceCtorEq, condG_bool, GB_true, GB_false, decide_eq_true_eq]
       refine GB.dec (fun hc37 => hT ?_) (fun hc37 => hF ?_)
       ·
        clear hT hF KT KF
        have hbi := (rtake hbe hk h8 hc34 i hc37).1
        refine Tr.skip ?_
        refine hK18 _ ?_
        clear hK18 K18
        refine Tr.kp [0, 5, 6, 7, 8] ?_
        simp only [pk_cons, pk_nil, ↓A_cons, ↓reduceIte, Nat.reduceEqDiff, reduceCtorEq]
        refine Tr.seqK fun K20 hK20 => ?_
        refine Tr.blk ?_
        refine Tr.seqK fun K21 hK21 => ?_
        -- region 15 (ref.go:67)
        refine Tr.rg hcx [1000044] _ [] rfl rfl rfl ?_
        simp -implicitDefEqProofs (maxSteps := 2000000) (disch := first | omega | (simp only [go_sem, List.length_append, List.length_drop, List.length_take, hb1] <;> omega) | decide) only [go_sem, ↓reduceIte, Nat.reduceEqDiff, reduceCtorEq, Nat.reduceLT, Nat.reduceBEq, Nat.reduceAdd, Nat.reduceSub, Nat.reduceMul, Nat.reduceMod, Int.reduceMod, Int.reduceToNat, Int.reduceNeg, h15, h15n, h13, h119, h136, hbi]
        refine hK21 _ ?_
        clear hK21 K21
        refine Tr.kp [0, 5, 6, 7, 8, 9] ?_
        simp only [pk_cons, pk_nil, ↓A_cons, ↓reduceIte, Nat.reduceEqDiff, reduceCtorEq]
        refine Tr.seqJ (α := Unit) (fun a => [(0, ?v0_53), (5, ?v5_53), (6, ?v6_53), (7, ?v7_53), (8, ?v8_53), (9, .val (nI (gt (r.take k) i ^^^ flipOf x).toNat))]) (fun a => []) (fun a => True) ?ja_53 ?jb_53
        case ja_53 =>
         refine Tr.seqK fun K22 hK22 => ?_
         -- region 16 (ref.go:68)
         refine Tr.rg hcx [] _ [] rfl rfl rfl ?_
         simp -implicitDefEqProofs (maxSteps := 2000000) (disch := first | omega | (simp only [go_sem, List.length_append, List.length_drop, List.length_take, hb1] <;> omega) | decide) only [go_sem, ↓reduceIte, Nat.reduceEqDiff, reduceCtorEq, Nat.reduceLT, Nat.reduceBEq, Nat.reduceAdd, Nat.reduceSub, Nat.reduceMul, Nat.reduceMod, Int.reduceMod, Int.reduceToNat, Int.reduceNeg, h15, h15n, h13, h119, h136]
         refine hK22 _ ?_
         clear hK22 K22
         refine Tr.kp [0, 5, 6, 7, 8, 9, 46] ?_
         simp only [pk_cons, pk_nil, ↓A_cons, ↓reduceIte, Nat.reduceEqDiff, reduceCtorEq]
         refine Tr.condG fun KT KF hT hF => ?_
         simp only [ev_tmp, ev_const, ↓A_cons, ↓reduceIte, Nat.reduceEqDiff, reduceCtorEq, condG_bool, GB_true, GB_false, decide_eq_true_eq]
         refine GB.dec (fun hc46 => hT ?_) (fun hc46 => hF ?_)
         ·
          clear hT hF KT KF
          -- region 17 (ref.go:69)
          refine Tr.rg hcx [1000048] _ [] rfl rfl rfl ?_
          simp -implicitDefEqProofs (maxSteps := 2000000) (disch := first | omega | (simp only [go_sem, List.length_append, List.length_drop, List.length_take, hb1] <;> omega) | decide) only [go_sem, ↓reduceIte, Nat.reduceEqDiff, reduceCtorEq, Nat.reduceLT, Nat.reduceBEq, Nat.reduceAdd, Nat.reduceSub, Nat.reduceMul, Nat.reduceMod, Int.reduceMod, Int.reduceToNat, Int.reduceNeg, h15, h15n, h13, h119, h136]
          refine ⟨(), trivial, ?_, rfl⟩
          (simp only [Le_nil, Le_cons, ↓A_cons, ↓reduceIte, Nat.reduceEqDiff, reduceCtorEq, CLe_refl, CLe_top, CLe_full, CLe_nil, CLe_own, and_true, true_and]; all_goals (repeat' first | exact CLe.refl _ | exact True.intro | (refine CLe_sln ?_; first | with_reducible rfl | (simp only [List.take_zero]; done) | (rfl; done)) | exact CLe_nI (by omega) | exact CLe_int (by omega) | exact CLe_inI (by omega) | exact CLe_nIi (by omega) | with_reducible apply And.intro))
          all_goals (refine CLe_val (congrArg nI ?_); rw [xflip]; first | rw [if_pos hc46] | rw [if_neg hc46])
         ·
          clear hT hF KT KF
          refine Tr.skip ?_
          refine ⟨(), trivial, ?_, rfl⟩
          (simp only [Le_nil, Le_cons, ↓A_cons, ↓reduceIte, Nat.reduceEqDiff, reduceCtorEq, CLe_refl, CLe_top, CLe_full, CLe_nil, CLe_own, and_true, true_and]; all_goals (repeat' first | exact CLe.refl _ | exact True.intro | (refine CLe_sln ?_; first | with_reducible rfl | (simp only [List.take_zero]; done) | (rfl; done)) | exact CLe_nI (by omega) | exact CLe_int (by omega) | exact CLe_inI (by omega) | exact CLe_nIi (by omega) | with_reducible apply And.intro))
          all_goals (refine CLe_val (congrArg nI ?_); rw [xflip]; first | rw [if_pos hc46] | rw [if_neg hc46])
        case jb_53 =>
         rintro a ha
         refine Tr.seqK fun K23 hK23 => ?_
         refine Tr.seqK fun K24 hK24 => ?_
         -- region 18 (ref.go:71)
         refine Tr.rg hcx [] _ [] rfl rfl rfl ?_
         simp -implicitDefEqProofs (maxSteps := 2000000) (disch := first | omega | (simp only [go_sem, List.length_append, List.length_drop, List.length_take, hb1] <;> omega) | decide) only [go_sem, ↓reduceIte, Nat.reduceEqDiff, reduceCtorEq, Nat.reduceLT, Nat.reduceBEq, Nat.reduceAdd, Nat.reduceSub, Nat.reduceMul, Nat.reduceMod, Int.reduceMod, Int.reduceToNat, Int.reduceNeg, h15, h15n, h13, h119, h136]
         refine hK24 _ ?_
         clear hK24 K24
         refine Tr.kp [0, 5, 6, 7, 8, 9, 50] ?_
         simp only [pk_cons, pk_nil, ↓A_cons, ↓reduceIte, Nat.reduceEqDiff, reduceCtorEq]
         refine Tr.condG fun KT KF hT hF => ?_
         simp only [ev_tmp, ev_const, ↓A_cons, ↓reduceIte, Nat.reduceEqDiff, reduceCtorEq, condG_bool, GB_true, GB_false, decide_eq_true_eq]
         refine GB.dec (fun hc50 => hT ?_) (fun hc50 => hF ?_)
         ·
          clear hT hF KT KF
          refine Tr.seqK fun K25 hK25 => ?_
          -- region 19 (ref.go:72)
          refine Tr.rg hcx [] _ [] rfl rfl rfl ?_
          simp -implicitDefEqProofs (maxSteps := 2000000) (disch := first | omega | (simp only [go_sem, List.length_append, List.length_drop, List.length_take, hb1] <;> omega) | decide) only [go_sem, ↓reduceIte, Nat.reduceEqDiff, reduceCtorEq, Nat.reduceLT, Nat.reduceBEq, Nat.reduceAdd, Nat.reduceSub, Nat.reduceMul, Nat.reduceMod, Int.reduceMod, Int.reduceToNat, Int.reduceNeg, h15, h15n, h13, h119, h136]
          refine hK25 _ ?_
          clear hK25 K25
          refine Tr.kp [2, 3, 4] ?_
          simp only [pk_cons, pk_nil, ↓A_cons, ↓reduceIte, Nat.reduceEqDiff, reduceCtorEq]
          refine Tr.ret ?_
          simp -implicitDefEqProofs (disch := first | omega | (simp only [go_sem, List.length_append, List.length_drop, List.length_take, hb1] <;> omega) | decide) only [go_sem, ↓reduceIte, Nat.reduceEqDiff, reduceCtorEq]
          all_goals (first | rfl | (rw [rg1 hbe hk (by omega)]; rfl) | (rw [rg2 hbe hk (by omega) hc34]; rfl) | (rw [rg3 hbe hk h8 hc34 i hc37 hc50]; rfl) | (rw [rg4n hbe hk h8 hc34 hc57 hc67]; rfl) | (rw [rg4p hbe hk h8 hc34 hc57 hc67]; rfl) | (rw [rg5 hbe hk h8 hc34 hc57 hac (Classical.not_not.1 hc67)]; try rfl) | (rw [rg6 hbe hk h8 hc34 hc57 hac (Classical.not_not.1 hc67)]; try rfl))
         ·
          clear hT hF KT KF
          refine Tr.skip ?_
          refine hK23 _ ?_
          clear hK23 K23
          refine Tr.kp [0, 5, 6, 7, 8, 9] ?_
          simp only [pk_cons, pk_nil, ↓A_cons, ↓reduceIte, Nat.reduceEqDiff, reduceCtorEq]
          -- region 20 (ref.go:74)
          refine Tr.rg hcx [1000054] _ [] rfl rfl rfl ?_
          simp -implicitDefEqProofs (maxSteps := 2000000) (disch := first | omega | (simp only [go_sem, List.length_append, List.length_drop, List.length_take, hb1] <;> omega) | decide) only [go_sem, ↓reduceIte, Nat.reduceEqDiff, reduceCtorEq, Nat.reduceLT, Nat.reduceBEq, Nat.reduceAdd, Nat.reduceSub, Nat.reduceMul, Nat.reduceMod, Int.reduceMod, Int.reduceToNat, Int.reduceNeg, h15, h15n, h13, h119, h136]
          refine hK20 _ ?_
          clear hK20 K20
          refine Tr.kp [0, 5, 6, 7, 8] ?_
          simp only [pk_cons, pk_nil, ↓A_cons, ↓reduceIte, Nat.reduceEqDiff, reduceCtorEq]
          -- region 14 (ref.go:66)
          refine Tr.rg hcx [1000039] _ [] rfl rfl rfl ?_
          simp -implicitDefEqProofs (maxSteps := 2000000) (disch := first | omega | (simp only [go_sem, List.length_append, List.length_drop, List.length_take, hb1] <;> omega) | decide) only [go_sem, ↓reduceIte, Nat.reduceEqDiff, reduceCtorEq, Nat.reduceLT, Nat.reduceBEq, Nat.reduceAdd, Nat.reduceSub, Nat.reduceMul, Nat.reduceMod, Int.reduceMod, Int.reduceToNat, Int.reduceNeg, h15, h15n, h13, h119, h136]
          refine ⟨i + 1, ⟨⟨by omega, by rw [← raccN hbe hk h8 hc34 i hc37]; omega⟩, by first | omega | (simp only []; omega)⟩, ?_, rfl⟩
          (simp only [Le_nil, Le_cons, ↓A_cons, ↓reduceIte, Nat.reduceEqDiff, reduceCtorEq, CLe_refl, CLe_top, CLe_full, CLe_nil, CLe_own, and_true, true_and]; all_goals (repeat' first | exact CLe.refl _ | exact True.intro | (refine CLe_sln ?_; first | with_reducible rfl | (simp only [List.take_zero]; done) | (rfl; done)) | exact CLe_nI (by omega) | exact CLe_int (by omega) | exact CLe_inI (by omega) | exact CLe_nIi (by omega) | with_reducible apply And.intro))
          all_goals (exact CLe_val (congrArg nI (raccN hbe hk h8 hc34 i hc37)))
       ·
        clear hT hF KT KF
        obtain rfl : k = i := by omega
        rw [htk] at hac
        have hw1 := wint_len (-1 - (accF (flipOf x) (r.take k) : Int)) (by omega)
        have hw2 := wint_len (accF (flipOf x) (r.take k)) (by omega)
        refine Tr.exit ?_
        refine hK16 _ ?_
        clear hK18 K18 hK16 K16
        refine Tr.kp [0, 5, 6, 7] ?_
        simp only [pk_cons, pk_nil, ↓A_cons, ↓reduceIte, Nat.reduceEqDiff, reduceCtorEq]
        refine Tr.seqK fun K26 hK26 => ?_
        -- region 21 (ref.go:76)
        refine Tr.rg hcx [1000055] _ [] rfl rfl rfl ?_
        simp -implicitDefEqProofs (maxSteps := 2000000) (disch := first | omega | (simp only [go_sem, List.length_append, List.length_drop, List.length_take, hb1] <;> omega) | decide) only [go_sem, ↓reduceIte, Nat.reduceEqDiff, reduceCtorEq, Nat.reduceLT, Nat.reduceBEq, Nat.reduceAdd, Nat.reduceSub, Nat.reduceMul, Nat.reduceMod, Int.reduceMod, Int.reduceToNat, Int.reduceNeg, h15, h15n, h13, h119, h136, htk]
        refine hK26 _ ?_
        clear hK26 K26
        refine Tr.kp [0, 5, 6, 7, 10] ?_
        simp only [pk_cons, pk_nil, ↓A_cons, ↓reduceIte, Nat.reduceEqDiff, reduceCtorEq]
        refine Tr.seqK fun K27 hK27 => ?_
        refine Tr.seqK fun K28 hK28 => ?_
        -- region 22 (ref.go:77)
        refine Tr.rg hcx [] _ [] rfl rfl rfl ?_
        simp -implicitDefEqProofs (maxSteps := 2000000) (disch := first | omega | (simp only [go_sem, List.length_append, List.length_drop, List.length_take, hb1] <;> omega) | decide) only [go_sem, ↓reduceIte, Nat.reduceEqDiff, reduceCtorEq, Nat.reduceLT, Nat.reduceBEq, Nat.reduceAdd, Nat.reduceSub, Nat.reduceMul, Nat.reduceMod, Int.reduceMod, Int.reduceToNat, Int.reduceNeg, h15, h15n, h13, h119, h136, htk]
        refine hK28 _ ?_
        clear hK28 K28
        refine Tr.kp [0, 6, 7, 10, 57] ?_
        simp only [pk_cons, pk_nil, ↓A_cons, ↓reduceIte, Nat.reduceEqDiff, reduceCtorEq]
        refine Tr.condG fun KT KF hT hF => ?_
        simp only [ev_tmp, ev_const, ↓A_cons, ↓reduceIte, Nat.reduceEqDiff, reduceCtorEq, condG_bool, GB_true, GB_false, decide_eq_true_eq]
        refine GB.dec (fun hc57 => hT ?_) (fun hc57 => hF ?_)
        ·
         clear hT hF KT KF
         -- region 23 (ref.go:78)
         refine Tr.rg hcx [1000059] _ [] rfl rfl rfl ?_
         simp -implicitDefEqProofs (maxSteps := 2000000) (disch := first | omega | (simp only [go_sem, List.length_append, List.length_drop, List.length_take, hb1] <;> omega) | decide) only [go_sem, ↓reduceIte, Nat.reduceEqDiff, reduceCtorEq, Nat.reduceLT, Nat.reduceBEq, Nat.reduceAdd, Nat.reduceSub, Nat.reduceMul, Nat.reduceMod, Int.reduceMod, Int.reduceToNat, Int.reduceNeg, h15, h15n, h13, h119, h136, htk]
         refine hK27 _ ?_
         clear hK27 K27
         refine Tr.kp [0, 6, 10] ?_
         simp only [pk_cons, pk_nil, ↓A_cons, ↓reduceIte, Nat.reduceEqDiff, reduceCtorEq]
         refine Tr.seqK fun K29 hK29 => ?_
         refine Tr.seqK fun K30 hK30 => ?_
         -- region 24 (ref.go:80)
         refine Tr.rgD hcx hMO [] _ [] rfl rfl rfl rfl ?_
         simp -implicitDefEqProofs (maxSteps := 2000000) (disch := first | omega | (simp only [go_sem, List.length_append, List.length_drop, List.length_take, hb1] <;> omega) | decide) only [go_sem, ↓reduceIte, Nat.reduceEqDiff, reduceCtorEq, Nat.reduceLT, Nat.reduceBEq, Nat.reduceAdd, Nat.reduceSub, Nat.reduceMul, Nat.reduceMod, Int.reduceMod, Int.reduceToNat, Int.reduceNeg, h15, h15n, h13, h119, h136, htk]
         with_reducible refine And.intro ?_ ?_
         · exact rfl
         refine hK30 _ ?_
         clear hK30 K30
         refine Tr.kp [6, 10, 67] ?_
         simp only [pk_cons, pk_nil, ↓A_cons, ↓reduceIte, Nat.reduceEqDiff, reduceCtorEq]
         refine Tr.condG fun KT KF hT hF => ?_
         simp only [ev_tmp, ev_const, ↓A_cons, ↓reduceIte, Nat.reduceEqDiff, reduceCtorEq, condG_bool, GB_true, GB_false, decide_eq_true_eq]
         refine GB.dec (fun hc67 => hT ?_) (fun hc67 => hF ?_)
         ·
          clear hT hF KT KF
          refine Tr.seqK fun K31 hK31 => ?_
          -- region 25 (ref.go:81)
          refine Tr.rg hcx [] _ [] rfl rfl rfl ?_
          simp -implicitDefEqProofs (maxSteps := 2000000) (disch := first | omega | (simp only [go_sem, List.length_append, List.length_drop, List.length_take, hb1] <;> omega) | decide) only [go_sem, ↓reduceIte, Nat.reduceEqDiff, reduceCtorEq, Nat.reduceLT, Nat.reduceBEq, Nat.reduceAdd, Nat.reduceSub, Nat.reduceMul, Nat.reduceMod, Int.reduceMod, Int.reduceToNat, Int.reduceNeg, h15, h15n, h13, h119, h136]
          refine hK31 _ ?_
          clear hK31 K31
          refine Tr.kp [2, 3, 4] ?_
          simp only [pk_cons, pk_nil, ↓A_cons, ↓reduceIte, Nat.reduceEqDiff, reduceCtorEq]
          refine Tr.ret ?_
          simp -implicitDefEqProofs (disch := first | omega | (simp only [go_sem, List.length_append, List.length_drop, List.length_take, hb1] <;> omega) | decide) only [go_sem, ↓reduceIte, Nat.reduceEqDiff, reduceCtorEq]
          all_goals (first | rfl | (rw [rg1 hbe hk (by omega)]; rfl) | (rw [rg2 hbe hk (by omega) hc34]; rfl) | (rw [rg3 hbe hk h8 hc34 i hc37 hc50]; rfl) | (rw [rg4n hbe hk h8 hc34 hc57 hc67]; rfl) | (rw [rg4p hbe hk h8 hc34 hc57 hc67]; rfl) | (rw [rg5 hbe hk h8 hc34 hc57 hac (Classical.not_not.1 hc67)]; try rfl) | (rw [rg6 hbe hk h8 hc34 hc57 hac (Classical.not_not.1 hc67)]; try rfl))
         ·
          clear hT hF KT KF
          refine Tr.skip ?_
          refine hK29 _ ?_
          clear hK29 K29
          refine Tr.kp [6, 10] ?_
          simp only [pk_cons, pk_nil, ↓A_cons, ↓reduceIte, Nat.reduceEqDiff, reduceCtorEq]
          refine Tr.seqK fun K32 hK32 => ?_
          -- region 26 (ref.go:83)
          refine Tr.rg hcx [1000068, 1000070] _ [] rfl rfl rfl ?_
          simp -implicitDefEqProofs (maxSteps := 2000000) (disch := first | omega | (simp only [go_sem, List.length_append, List.length_drop, List.length_take, hb1] <;> omega) | decide) only [go_sem, ↓reduceIte, Nat.reduceEqDiff, reduceCtorEq, Nat.reduceLT, Nat.reduceBEq, Nat.reduceAdd, Nat.reduceSub, Nat.reduceMul, Nat.reduceMod, Int.reduceMod, Int.reduceToNat, Int.reduceNeg, h15, h15n, h13, h119, h136, htk]
          refine hK32 _ ?_
          clear hK32 K32
          refine Tr.kp [2, 3, 4] ?_
          simp only [pk_cons, pk_nil, ↓A_cons, ↓reduceIte, Nat.reduceEqDiff, reduceCtorEq]
          refine Tr.ret ?_
          simp -implicitDefEqProofs (disch := first | omega | (simp only [go_sem, List.length_append, List.length_drop, List.length_take, hb1] <;> omega) | decide) only [go_sem, ↓reduceIte, Nat.reduceEqDiff, reduceCtorEq]
          all_goals (first | rfl | (rw [rg1 hbe hk (by omega)]; rfl) | (rw [rg2 hbe hk (by omega) hc34]; rfl) | (rw [rg3 hbe hk h8 hc34 i hc37 hc50]; rfl) | (rw [rg4n hbe hk h8 hc34 hc57 hc67]; rfl) | (rw [rg4p hbe hk h8 hc34 hc57 hc67]; rfl) | (rw [rg5 hbe hk h8 hc34 hc57 hac (Classical.not_not.1 hc67)]; try rfl) | (rw [rg6 hbe hk h8 hc34 hc57 hac (Classical.not_not.1 hc67)]; try rfl))
        ·
         clear hT hF KT KF
         refine Tr.skip ?_
         refine hK27 _ ?_
         clear hK27 K27
         refine Tr.kp [0, 6, 10] ?_
         simp only [pk_cons, pk_nil, ↓A_cons, ↓reduceIte, Nat.reduceEqDiff, reduceCtorEq]
         refine Tr.seqK fun K33 hK33 => ?_
         refine Tr.seqK fun K34 hK34 => ?_
         -- region 24 (ref.go:80)
         refine Tr.rgD hcx hMO [] _ [] rfl rfl rfl rfl ?_
         simp -implicitDefEqProofs (maxSteps := 2000000) (disch := first | omega | (simp only [go_sem, List.length_append, List.length_drop, List.length_take, hb1] <;> omega) | decide) only [go_sem, ↓reduceIte, Nat.reduceEqDiff, reduceCtorEq, Nat.reduceLT, Nat.reduceBEq, Nat.reduceAdd, Nat.reduceSub, Nat.reduceMul, Nat.reduceMod, Int.reduceMod, Int.reduceToNat, Int.reduceNeg, h15, h15n, h13, h119, h136, htk]
         with_reducible refine And.intro ?_ ?_
         · exact rfl
         refine hK34 _ ?_
         clear hK34 K34
         refine Tr.kp [6, 10, 67] ?_
         simp only [pk_cons, pk_nil, ↓A_cons, ↓reduceIte, Nat.reduceEqDiff, reduceCtorEq]
         refine Tr.condG fun KT KF hT hF => ?_
         simp only [ev_tmp, ev_const, ↓A_cons, ↓reduceIte, Nat.reduceEqDiff, reduceCtorEq, condG_bool, GB_true, GB_false, decide_eq_true_eq]
         refine GB.dec (fun hc67 => hT ?_) (fun hc67 => hF ?_)
         ·
          clear hT hF KT KF
          refine Tr.seqK fun K35 hK35 => ?_
          -- region 25 (ref.go:81)
          refine Tr.rg hcx [] _ [] rfl rfl rfl ?_
          simp -implicitDefEqProofs (maxSteps := 2000000) (disch := first | omega | (simp only [go_sem, List.length_append, List.length_drop, List.length_take, hb1] <;> omega) | decide) only [go_sem, ↓reduceIte, Nat.reduceEqDiff, reduceCtorEq, Nat.reduceLT, Nat.reduceBEq, Nat.reduceAdd, Nat.reduceSub, Nat.reduceMul, Nat.reduceMod, Int.reduceMod, Int.reduceToNat, Int.reduceNeg, h15, h15n, h13, h119, h136]
          refine hK35 _ ?_
          clear hK35 K35
          refine Tr.kp [2, 3, 4] ?_
          simp only [pk_cons, pk_nil, ↓A_cons, ↓reduceIte, Nat.reduceEqDiff, reduceCtorEq]
          refine Tr.ret ?_
          simp -implicitDefEqProofs (disch := first | omega | (simp only [go_sem, List.length_append, List.length_drop, List.length_take, hb1] <;> omega) | decide) only [go_sem, ↓reduceIte, Nat.reduceEqDiff, reduceCtorEq]
          all_goals (first | rfl | (rw [rg1 hbe hk (by omega)]; rfl) | (rw [rg2 hbe hk (by omega) hc34]; rfl) | (rw [rg3 hbe hk h8 hc34 i hc37 hc50]; rfl) | (rw [rg4n hbe hk h8 hc34 hc57 hc67]; rfl) | (rw [rg4p hbe hk h8 hc34 hc57 hc67]; rfl) | (rw [rg5 hbe hk h8 hc34 hc57 hac (Classical.not_not.1 hc67)]; try rfl) | (rw [rg6 hbe hk h8 hc34 hc57 hac (Classical.not_not.1 hc67)]; try rfl))
         ·
          clear hT hF KT KF
          refine Tr.skip ?_
          refine hK33 _ ?_
          clear hK33 K33
          refine Tr.kp [6, 10] ?_
          simp only [pk_cons, pk_nil, ↓A_cons, ↓reduceIte, Nat.reduceEqDiff, reduceCtorEq]
          refine Tr.seqK fun K36 hK36 => ?_
          -- region 26 (ref.go:83)
          refine Tr.rg hcx [1000068, 1000070] _ [] rfl rfl rfl ?_
          simp -implicitDefEqProofs (maxSteps := 2000000) (disch := first | omega | (simp only [go_sem, List.length_append, List.length_drop, List.length_take, hb1] <;> omega) | decide) only [go_sem, ↓reduceIte, Nat.reduceEqDiff, reduceCtorEq, Nat.reduceLT, Nat.reduceBEq, Nat.reduceAdd, Nat.reduceSub, Nat.reduceMul, Nat.reduceMod, Int.reduceMod, Int.reduceToNat, Int.reduceNeg, h15, h15n, h13, h119, h136, htk]
          refine hK36 _ ?_
          clear hK36 K36
          refine Tr.kp [2, 3, 4] ?_
          simp only [pk_cons, pk_nil, ↓A_cons, ↓reduceIte, Nat.reduceEqDiff, reduceCtorEq]
          refine Tr.ret ?_
          simp -implicitDefEqProofs (disch := first | omega | (simp only [go_sem, List.length_append, List.length_drop, List.length_take, hb1] <;> omega) | decide) only [go_sem, ↓reduceIte, Nat.reduceEqDiff, reduceCtorEq]
          all_goals (first | rfl | (rw [rg1 hbe hk (by omega)]; rfl) | (rw [rg2 hbe hk (by omega) hc34]; rfl) | (rw [rg3 hbe hk h8 hc34 i hc37 hc50]; rfl) | (rw [rg4n hbe hk h8 hc34 hc57 hc67]; rfl) | (rw [rg4p hbe hk h8 hc34 hc57 hc67]; rfl) | (rw [rg5 hbe hk h8 hc34 hc57 hac (Classical.not_not.1 hc67)]; try rfl) | (rw [rg6 hbe hk h8 hc34 hc57 hac (Classical.not_not.1 hc67)]; try rfl))

end Go.Sx

namespace Go.Sx
open Go.RowKit Go.Proofs


set_option maxRecDepth 100000 in
set_option maxHeartbeats 8000000 in
theorem fc38 {gl : Nat → C} {M : Nat} {pu : Nat → List C → Option C}  (hcx : CxOK (cxP gl M pu)) (h24 : ∀ b : List UInt8, b.length < 1099511627776 → pu 24 [sl bC .no b] = some (.tup [.val (.int .i64 (getI b).1), .val (nI (getI b).2.1), .val (nI (getI b).2.2)])) (b : List UInt8) (s : Nat) (hb : b.length < 1099511627776) (hs : 0 < s ∧ s ≤ 16) : FC Try.prog gl 38 [sl bC .no b, .val (nI s)] [] (.tup [.val (.int .i64 (getI b).1), .val (nI (getI b).2.1), .val (nI (cntE b s))]) [] := by
 replace hcx := hcx.reN (M := 31)
 refine FC.ofA (cx := cxP gl 31 pu) (rs := [.tmp 4, .tmp 5, .tmp 6]) rfl Try.func38 rfl rfl rfl (by simp only [List.length_cons, List.length_nil]; decide) (by simp only [go_sem]) ?_
 simp only [ini, go_sem]
 have hgb := getI_bd b
 refine Tr.seqK fun K1 hK1 => ?_
 -- region 0 (wire.go:64)
 refine Tr.rg hcx [] _ [] rfl rfl rfl ?_
 simp -implicitDefEqProofs (maxSteps := 2000000) (disch := first | omega | (simp only [go_sem, List.length_append, List.length_drop, List.length_take, hgb] <;> omega) | decide) only [go_sem, ↓reduceIte, Nat.reduceEqDiff, reduceCtorEq, Nat.reduceLT, Nat.reduceBEq, Nat.reduceAdd, Nat.reduceSub, Nat.reduceMul, Nat.reduceMod, Int.reduceMod, Int.reduceToNat, Int.reduceNeg, h24]
 refine hK1 _ ?_
 clear hK1 K1
 refine Tr.kp [0, 1] ?_
 simp only [pk_cons, pk_nil, ↓A_cons, ↓reduceIte, Nat.reduceEqDiff, reduceCtorEq]
 refine Tr.seqK fun K2 hK2 => ?_
 -- region 1 (wire.go:65)
 refine Tr.rg hcx [1000010, 1000011, 1000012] _ [] rfl rfl rfl ?_
 simp -implicitDefEqProofs (maxSteps := 2000000) (disch := first | omega | (simp only [go_sem, List.length_append, List.length_drop, List.length_take, hgb] <;> omega) | decide) only [go_sem, ↓reduceIte, Nat.reduceEqDiff, reduceCtorEq, Nat.reduceLT, Nat.reduceBEq, Nat.reduceAdd, Nat.reduceSub, Nat.reduceMul, Nat.reduceMod, Int.reduceMod, Int.reduceToNat, Int.reduceNeg, h24]
 refine hK2 _ ?_
 clear hK2 K2
 refine Tr.kp [0, 1, 4, 5, 6] ?_
 simp only [pk_cons, pk_nil, ↓A_cons, ↓reduceIte, Nat.reduceEqDiff, reduceCtorEq]
 refine Tr.seqK fun K3 hK3 => ?_
 refine Tr.blk ?_
 refine Tr.seqK fun K4 hK4 => ?_
 -- region 2 (wire.go:67)
 refine Tr.rg hcx [1000015] _ [] rfl rfl rfl ?_
 simp -implicitDefEqProofs (maxSteps := 2000000) (disch := first | omega | (simp only [go_sem, List.length_append, List.length_drop, List.length_take, hgb] <;> omega) | decide) only [go_sem, ↓reduceIte, Nat.reduceEqDiff, reduceCtorEq, Nat.reduceLT, Nat.reduceBEq, Nat.reduceAdd, Nat.reduceSub, Nat.reduceMul, Nat.reduceMod, Int.reduceMod, Int.reduceToNat, Int.reduceNeg, h24]
 refine hK4 _ ?_
 clear hK4 K4
 refine Tr.kp [0, 1, 4, 5, 6, 13] ?_
 simp only [pk_cons, pk_nil, ↓A_cons, ↓reduceIte, Nat.reduceEqDiff, reduceCtorEq]
 refine Tr.condG fun KT KF hT hF => ?_
 simp only [ev_tmp, ev_const, ↓A_cons, ↓reduceIte, Nat.reduceEqDiff, reduceCtorEq, condG_bool, GB_true, GB_false, decide_eq_true_eq]
 refine GB.dec (fun hc13 => hT ?_) (fun hc13 => hF ?_)
 ·
  clear hT hF KT KF
  refine Tr.skip ?_
  refine hK3 _ ?_
  clear hK3 K3
  refine Tr.kp [4, 5, 6] ?_
  simp only [pk_cons, pk_nil, ↓A_cons, ↓reduceIte, Nat.reduceEqDiff, reduceCtorEq]
  refine Tr.seqK fun K5 hK5 => ?_
  -- region 7 (wire.go:73)
  refine Tr.rg hcx [1000028, 1000029, 1000030] _ [] rfl rfl rfl ?_
  simp -implicitDefEqProofs (maxSteps := 2000000) (disch := first | omega | (simp only [go_sem, List.length_append, List.length_drop, List.length_take, hgb] <;> omega) | decide) only [go_sem, ↓reduceIte, Nat.reduceEqDiff, reduceCtorEq, Nat.reduceLT, Nat.reduceBEq, Nat.reduceAdd, Nat.reduceSub, Nat.reduceMul, Nat.reduceMod, Int.reduceMod, Int.reduceToNat, Int.reduceNeg, h24]
  refine hK5 _ ?_
  clear hK5 K5
  refine Tr.kp [4, 5, 6] ?_
  simp only [pk_cons, pk_nil, ↓A_cons, ↓reduceIte, Nat.reduceEqDiff, reduceCtorEq]
  refine Tr.ret ?_
  simp -implicitDefEqProofs (disch := first | omega | (simp only [go_sem, List.length_append, List.length_drop, List.length_take, hgb] <;> omega) | decide) only [go_sem, ↓reduceIte, Nat.reduceEqDiff, reduceCtorEq]
  all_goals (first | (rw [cnt_1 hc13]; try rfl) | (rw [cnt_2 hc13 hc16]; try rfl) | (rw [cnt_3 hc13 hc16 hc19, hm]; try rfl) | (rw [cnt_0 hc13 hc16 hc19, Classical.not_not.1 hc13, hm]; try rfl))
 ·
  clear hT hF KT KF
  refine Tr.seqK fun K6 hK6 => ?_
  -- region 3 (wire.go:68)
  refine Tr.rg hcx [1000018] _ [] rfl rfl rfl ?_
  simp -implicitDefEqProofs (maxSteps := 2000000) (disch := first | omega | (simp only [go_sem, List.length_append, List.length_drop, List.length_take, hgb] <;> omega) | decide) only [go_sem, ↓reduceIte, Nat.reduceEqDiff, reduceCtorEq, Nat.reduceLT, Nat.reduceBEq, Nat.reduceAdd, Nat.reduceSub, Nat.reduceMul, Nat.reduceMod, Int.reduceMod, Int.reduceToNat, Int.reduceNeg, h24]
  refine hK6 _ ?_
  clear hK6 K6
  refine Tr.kp [0, 1, 4, 5, 6, 16] ?_
  simp only [pk_cons, pk_nil, ↓A_cons, ↓reduceIte, Nat.reduceEqDiff, reduceCtorEq]
  refine Tr.condG fun KT KF hT hF => ?_
  simp only [ev_tmp, ev_const, ↓A_cons, ↓reduceIte, Nat.reduceEqDiff, reduceCtorEq, condG_bool, GB_true, GB_false, decide_eq_true_eq]
  refine GB.dec (fun hc16 => hT ?_) (fun hc16 => hF ?_)
  ·
   clear hT hF KT KF
   -- region 4 (wire.go:69)
   refine Tr.rg hcx [] _ [] rfl rfl rfl ?_
   simp -implicitDefEqProofs (maxSteps := 2000000) (disch := first | omega | (simp only [go_sem, List.length_append, List.length_drop, List.length_take, hgb] <;> omega) | decide) only [go_sem, ↓reduceIte, Nat.reduceEqDiff, reduceCtorEq, Nat.reduceLT, Nat.reduceBEq, Nat.reduceAdd, Nat.reduceSub, Nat.reduceMul, Nat.reduceMod, Int.reduceMod, Int.reduceToNat, Int.reduceNeg, h24]
   refine hK3 _ ?_
   clear hK3 K3
   refine Tr.kp [4, 5, 6] ?_
   simp only [pk_cons, pk_nil, ↓A_cons, ↓reduceIte, Nat.reduceEqDiff, reduceCtorEq]
   refine Tr.seqK fun K7 hK7 => ?_
   -- region 7 (wire.go:73)
   refine Tr.rg hcx [1000028, 1000029, 1000030] _ [] rfl rfl rfl ?_
   simp -implicitDefEqProofs (maxSteps := 2000000) (disch := first | omega | (simp only [go_sem, List.length_append, List.length_drop, List.length_take, hgb] <;> omega) | decide) only [go_sem, ↓reduceIte, Nat.reduceEqDiff, reduceCtorEq, Nat.reduceLT, Nat.reduceBEq, Nat.reduceAdd, Nat.reduceSub, Nat.reduceMul, Nat.reduceMod, Int.reduceMod, Int.reduceToNat, Int.reduceNeg, h24]
   refine hK7 _ ?_
   clear hK7 K7
   refine Tr.kp [4, 5, 6] ?_
   simp only [pk_cons, pk_nil, ↓A_cons, ↓reduceIte, Nat.reduceEqDiff, reduceCtorEq]
   refine Tr.ret ?_
   simp -implicitDefEqProofs (disch := first | omega | (simp only [go_sem, List.length_append, List.length_drop, List.length_take, hgb] <;> omega) | decide) only [go_sem, ↓reduceIte, Nat.reduceEqDiff, reduceCtorEq]
   all_goals (first | (rw [cnt_1 hc13]; try rfl) | (rw [cnt_2 hc13 hc16]; try rfl) | (rw [cnt_3 hc13 hc16 hc19, hm]; try rfl) | (rw [cnt_0 hc13 hc16 hc19, Classical.not_not.1 hc13, hm]; try rfl))
  ·
   clear hT hF KT KF
   have hm := nn_nI hc16
   refine Tr.seqK fun K8 hK8 => ?_
   -- region 5 (wire.go:70)
   refine Tr.rg hcx [1000027] _ [] rfl rfl rfl ?_
   simp -implicitDefEqProofs (maxSteps := 2000000) (disch := first | omega | (simp only [go_sem, List.length_append, List.length_drop, List.length_take, hgb] <;> omega) | decide) only [go_sem, ↓reduceIte, Nat.reduceEqDiff, reduceCtorEq, Nat.reduceLT, Nat.reduceBEq, Nat.reduceAdd, Nat.reduceSub, Nat.reduceMul, Nat.reduceMod, Int.reduceMod, Int.reduceToNat, Int.reduceNeg, h24, hm]
   refine hK8 _ ?_
   clear hK8 K8
   refine Tr.kp [4, 5, 6, 19] ?_
   simp only [pk_cons, pk_nil, ↓A_cons, ↓reduceIte, Nat.reduceEqDiff, reduceCtorEq]
   refine Tr.condG fun KT KF hT hF => ?_
   simp only [ev_tmp, ev_const, ↓A_cons, ↓reduceIte, Nat.reduceEqDiff, reduceCtorEq, condG_bool, GB_true, GB_false, decide_eq_true_eq]
   refine GB.dec (fun hc19 => hT ?_) (fun hc19 => hF ?_)
   ·
    clear hT hF KT KF
    -- region 6 (wire.go:71)
    refine Tr.rg hcx [] _ [] rfl rfl rfl ?_
    simp -implicitDefEqProofs (maxSteps := 2000000) (disch := first | omega | (simp only [go_sem, List.length_append, List.length_drop, List.length_take, hgb] <;> omega) | decide) only [go_sem, ↓reduceIte, Nat.reduceEqDiff, reduceCtorEq, Nat.reduceLT, Nat.reduceBEq, Nat.reduceAdd, Nat.reduceSub, Nat.reduceMul, Nat.reduceMod, Int.reduceMod, Int.reduceToNat, Int.reduceNeg, h24]
    refine hK3 _ ?_
    clear hK3 K3
    refine Tr.kp [4, 5, 6] ?_
    simp only [pk_cons, pk_nil, ↓A_cons, ↓reduceIte, Nat.reduceEqDiff, reduceCtorEq]
    refine Tr.seqK fun K9 hK9 => ?_
    -- region 7 (wire.go:73)
    refine Tr.rg hcx [1000028, 1000029, 1000030] _ [] rfl rfl rfl ?_
    simp -implicitDefEqProofs (maxSteps := 2000000) (disch := first | omega | (simp only [go_sem, List.length_append, List.length_drop, List.length_take, hgb] <;> omega) | decide) only [go_sem, ↓reduceIte, Nat.reduceEqDiff, reduceCtorEq, Nat.reduceLT, Nat.reduceBEq, Nat.reduceAdd, Nat.reduceSub, Nat.reduceMul, Nat.reduceMod, Int.reduceMod, Int.reduceToNat, Int.reduceNeg, h24]
    refine hK9 _ ?_
    clear hK9 K9
    refine Tr.kp [4, 5, 6] ?_
    simp only [pk_cons, pk_nil, ↓A_cons, ↓reduceIte, Nat.reduceEqDiff, reduceCtorEq]
    refine Tr.ret ?_
    simp -implicitDefEqProofs (disch := first | omega | (simp only [go_sem, List.length_append, List.length_drop, List.length_take, hgb] <;> omega) | decide) only [go_sem, ↓reduceIte, Nat.reduceEqDiff, reduceCtorEq]
    all_goals (first | (rw [cnt_1 hc13]; try rfl) | (rw [cnt_2 hc13 hc16]; try rfl) | (rw [cnt_3 hc13 hc16 hc19, hm]; try rfl) | (rw [cnt_0 hc13 hc16 hc19, Classical.not_not.1 hc13, hm]; try rfl))
   ·
    clear hT hF KT KF
    refine Tr.skip ?_
    refine hK3 _ ?_
    clear hK3 K3
    refine Tr.kp [4, 5, 6] ?_
    simp only [pk_cons, pk_nil, ↓A_cons, ↓reduceIte, Nat.reduceEqDiff, reduceCtorEq]
    refine Tr.seqK fun K10 hK10 => ?_
    -- region 7 (wire.go:73)
    refine Tr.rg hcx [1000028, 1000029, 1000030] _ [] rfl rfl rfl ?_
    simp -implicitDefEqProofs (maxSteps := 2000000) (disch := first | omega | (simp only [go_sem, List.length_append, List.length_drop, List.length_take, hgb] <;> omega) | decide) only [go_sem, ↓reduceIte, Nat.reduceEqDiff, reduceCtorEq, Nat.reduceLT, Nat.reduceBEq, Nat.reduceAdd, Nat.reduceSub, Nat.reduceMul, Nat.reduceMod, Int.reduceMod, Int.reduceToNat, Int.reduceNeg, h24]
    refine hK10 _ ?_
    clear hK10 K10
    refine Tr.kp [4, 5, 6] ?_
    simp only [pk_cons, pk_nil, ↓A_cons, ↓reduceIte, Nat.reduceEqDiff, reduceCtorEq]
    refine Tr.ret ?_
    simp -implicitDefEqProofs (disch := first | omega | (simp only [go_sem, List.length_append, List.length_drop, List.length_take, hgb] <;> omega) | decide) only [go_sem, ↓reduceIte, Nat.reduceEqDiff, reduceCtorEq]
    all_goals (first | (rw [cnt_1 hc13]; try rfl) | (rw [cnt_2 hc13 hc16]; try rfl) | (rw [cnt_3 hc13 hc16 hc19, hm]; try rfl) | (rw [cnt_0 hc13 hc16 hc19, Classical.not_not.1 hc13, hm]; try rfl))

set_option maxRecDepth 100000 in
set_option maxHeartbeats 8000000 in
theorem fc39a {gl : Nat → C} {M : Nat} {pu : Nat → List C → Option C}  (hcx : CxOK (cxP gl M pu)) (h25 : ∀ b : List UInt8, b.length < 1099511627776 → pu 25 [sl bC .no b] = some (.tup [.val (.int .i64 (getI b).1), .val (nI (getI b).2.1), .val (nI (getI b).2.2)])) (b : List UInt8) (s : Nat) (hb : b.length < 1099511627776) (hs : 0 < s ∧ s ≤ 16) (hE : cntE b s = 0) : FC Try.prog gl 39 [sl bC .no b, .val (nI s)] [] (.tup [.val (nI (cn b)), .val (nI (ca b)), .val (nI 0)]) [] := by
 replace hcx := hcx.reN (M := 37)
 refine FC.ofA (cx := cxP gl 37 pu) (rs := [.tmp 4, .tmp 5, .tmp 6]) rfl Try.func39 rfl rfl rfl (by simp only [List.length_cons, List.length_nil]; decide) (by simp only [go_sem]) ?_
 simp only [ini, go_sem]
 have hgb := getI_bd b
 refine Tr.seqK fun K1 hK1 => ?_
 -- region 0 (ref.go:90)
 refine Tr.rg hcx [] _ [] rfl rfl rfl ?_
 simp -implicitDefEqProofs (maxSteps := 2000000) (disch := first | omega | (simp only [go_sem, List.length_append, List.length_drop, List.length_take, hgb] <;> omega) | decide) only [go_sem, ↓reduceIte, Nat.reduceEqDiff, reduceCtorEq, Nat.reduceLT, Nat.reduceBEq, Nat.reduceAdd, Nat.reduceSub, Nat.reduceMul, Nat.reduceMod, Int.reduceMod, Int.reduceToNat, Int.reduceNeg, h25]
 refine hK1 _ ?_
 clear hK1 K1
 refine Tr.kp [0, 1] ?_
 simp only [pk_cons, pk_nil, ↓A_cons, ↓reduceIte, Nat.reduceEqDiff, reduceCtorEq]
 refine Tr.seqK fun K2 hK2 => ?_
 -- region 1 (ref.go:91)
 refine Tr.rg hcx [1000013, 1000014, 1000015] _ [] rfl rfl rfl ?_
 simp -implicitDefEqProofs (maxSteps := 2000000) (disch := first | omega | (simp only [go_sem, List.length_append, List.length_drop, List.length_take, hgb] <;> omega) | decide) only [go_sem, ↓reduceIte, Nat.reduceEqDiff, reduceCtorEq, Nat.reduceLT, Nat.reduceBEq, Nat.reduceAdd, Nat.reduceSub, Nat.reduceMul, Nat.reduceMod, Int.reduceMod, Int.reduceToNat, Int.reduceNeg, h25]
 refine hK2 _ ?_
 clear hK2 K2
 refine Tr.kp [0, 1, 7, 8, 9] ?_
 simp only [pk_cons, pk_nil, ↓A_cons, ↓reduceIte, Nat.reduceEqDiff, reduceCtorEq]
 refine Tr.seqK fun K3 hK3 => ?_
 refine Tr.seqK fun K4 hK4 => ?_
 -- region 2 (ref.go:92)
 refine Tr.rg hcx [] _ [] rfl rfl rfl ?_
 simp -implicitDefEqProofs (maxSteps := 2000000) (disch := first | omega | (simp only [go_sem, List.length_append, List.length_drop, List.length_take, hgb] <;> omega) | decide) only [go_sem, ↓reduceIte, Nat.reduceEqDiff, reduceCtorEq, Nat.reduceLT, Nat.reduceBEq, Nat.reduceAdd, Nat.reduceSub, Nat.reduceMul, Nat.reduceMod, Int.reduceMod, Int.reduceToNat, Int.reduceNeg, h25]
 refine hK4 _ ?_
 clear hK4 K4
 refine Tr.kp [0, 1, 7, 8, 9, 17] ?_
 simp only [pk_cons, pk_nil, ↓A_cons, ↓reduceIte, Nat.reduceEqDiff, reduceCtorEq]
 refine Tr.condG fun KT KF hT hF => ?_
 simp only [ev_tmp, ev_const, ↓A_cons, ↓reduceIte, Nat.reduceEqDiff, reduceCtorEq, condG_bool, GB_true, GB_false, decide_eq_true_eq]
 refine GB.dec (fun hc17 => hT ?_) (fun hc17 => hF ?_)
 ·
  clear hT hF KT KF
  refine Tr.seqK fun K5 hK5 => ?_
  -- region 3 (ref.go:93)
  refine Tr.rg hcx [1000018] _ [] rfl rfl rfl ?_
  simp -implicitDefEqProofs (maxSteps := 2000000) (disch := first | omega | (simp only [go_sem, List.length_append, List.length_drop, List.length_take, hgb] <;> omega) | decide) only [go_sem, ↓reduceIte, Nat.reduceEqDiff, reduceCtorEq, Nat.reduceLT, Nat.reduceBEq, Nat.reduceAdd, Nat.reduceSub, Nat.reduceMul, Nat.reduceMod, Int.reduceMod, Int.reduceToNat, Int.reduceNeg, h25]
  refine hK5 _ ?_
  clear hK5 K5
  refine Tr.kp [4, 5, 6] ?_
  simp only [pk_cons, pk_nil, ↓A_cons, ↓reduceIte, Nat.reduceEqDiff, reduceCtorEq]
  refine Tr.ret ?_
  simp -implicitDefEqProofs (disch := first | omega | (simp only [go_sem, List.length_append, List.length_drop, List.length_take, hgb] <;> omega) | decide) only [go_sem, ↓reduceIte, Nat.reduceEqDiff, reduceCtorEq]
  all_goals (first | (have hq := cnt_1 (s := s) hc17; first | (exact absurd (hq.symm.trans hE) hc17) | (rw [hq]; try rfl)) | (have hq := cnt_2 (s := s) hc17 hc20; first | (exfalso; omega) | (rw [hq]; try rfl)) | (have hq := cnt_3' hs.1 hc17 hc20 (.inl hgt); first | (exfalso; omega) | (rw [hq]; try rfl)) | (have hq := cnt_3' hs.1 hc17 hc20 (.inr hmul); first | (exfalso; omega) | (rw [hq]; try rfl)) | (have hq := cnt_0' hs.1 hc17 hc20 hmul; first | exact absurd hq hE | rfl))
 ·
  clear hT hF KT KF
  refine Tr.skip ?_
  refine hK3 _ ?_
  clear hK3 K3
  refine Tr.kp [0, 1, 7, 8] ?_
  simp only [pk_cons, pk_nil, ↓A_cons, ↓reduceIte, Nat.reduceEqDiff, reduceCtorEq]
  refine Tr.seqK fun K6 hK6 => ?_
  refine Tr.seqK fun K7 hK7 => ?_
  -- region 4 (ref.go:95)
  refine Tr.rg hcx [] _ [] rfl rfl rfl ?_
  simp -implicitDefEqProofs (maxSteps := 2000000) (disch := first | omega | (simp only [go_sem, List.length_append, List.length_drop, List.length_take, hgb] <;> omega) | decide) only [go_sem, ↓reduceIte, Nat.reduceEqDiff, reduceCtorEq, Nat.reduceLT, Nat.reduceBEq, Nat.reduceAdd, Nat.reduceSub, Nat.reduceMul, Nat.reduceMod, Int.reduceMod, Int.reduceToNat, Int.reduceNeg, h25]
  refine hK7 _ ?_
  clear hK7 K7
  refine Tr.kp [0, 1, 7, 8, 20] ?_
  simp only [pk_cons, pk_nil, ↓A_cons, ↓reduceIte, Nat.reduceEqDiff, reduceCtorEq]
  refine Tr.condG fun KT KF hT hF => ?_
  simp only [ev_tmp, ev_const, ↓A_cons, ↓reduceIte, Nat.reduceEqDiff, reduceCtorEq, condG_bool, GB_true, GB_false, decide_eq_true_eq]
  refine GB.dec (fun hc20 => hT ?_) (fun hc20 => hF ?_)
  ·
   clear hT hF KT KF
   refine Tr.seqK fun K8 hK8 => ?_
   -- region 5 (ref.go:96)
   refine Tr.rg hcx [] _ [] rfl rfl rfl ?_
   simp -implicitDefEqProofs (maxSteps := 2000000) (disch := first | omega | (simp only [go_sem, List.length_append, List.length_drop, List.length_take, hgb] <;> omega) | decide) only [go_sem, ↓reduceIte, Nat.reduceEqDiff, reduceCtorEq, Nat.reduceLT, Nat.reduceBEq, Nat.reduceAdd, Nat.reduceSub, Nat.reduceMul, Nat.reduceMod, Int.reduceMod, Int.reduceToNat, Int.reduceNeg, h25]
   refine hK8 _ ?_
   clear hK8 K8
   refine Tr.kp [4, 5, 6] ?_
   simp only [pk_cons, pk_nil, ↓A_cons, ↓reduceIte, Nat.reduceEqDiff, reduceCtorEq]
   refine Tr.ret ?_
   simp -implicitDefEqProofs (disch := first | omega | (simp only [go_sem, List.length_append, List.length_drop, List.length_take, hgb] <;> omega) | decide) only [go_sem, ↓reduceIte, Nat.reduceEqDiff, reduceCtorEq]
   all_goals (first | (have hq := cnt_1 (s := s) hc17; first | (exact absurd (hq.symm.trans hE) hc17) | (rw [hq]; try rfl)) | (have hq := cnt_2 (s := s) hc17 hc20; first | (exfalso; omega) | (rw [hq]; try rfl)) | (have hq := cnt_3' hs.1 hc17 hc20 (.inl hgt); first | (exfalso; omega) | (rw [hq]; try rfl)) | (have hq := cnt_3' hs.1 hc17 hc20 (.inr hmul); first | (exfalso; omega) | (rw [hq]; try rfl)) | (have hq := cnt_0' hs.1 hc17 hc20 hmul; first | exact absurd hq hE | rfl))
  ·
   clear hT hF KT KF
   have hm := nn_nI hc20
   have hms : (getI b).1.toNat * s ≤ (getI b).1.toNat * 16 := Nat.mul_le_mul_left _ hs.2
   refine Tr.skip ?_
   refine hK6 _ ?_
   clear hK6 K6
   refine Tr.kp [0, 1, 7, 8] ?_
   simp only [pk_cons, pk_nil, ↓A_cons, ↓reduceIte, Nat.reduceEqDiff, reduceCtorEq]
   refine Tr.seqK fun K9 hK9 => ?_
   refine Tr.seqK fun K10 hK10 => ?_
   by_cases hgt : b.length < (getI b).1.toNat
   ·
    -- region 6 (ref.go:98)
    refine Tr.rg hcx [] [some 21, some 22, some 23, some 24, some 25, some 26, some 27, some 28, some 29, some 30, some 31, some 32, some 33, some 34] [] rfl rfl rfl ?_
    simp -implicitDefEqProofs (maxSteps := 2000000) (disch := first | omega | (simp only [go_sem, List.length_append, List.length_drop, List.length_take, hgb] <;> omega) | decide) only [go_sem, ↓reduceIte, Nat.reduceEqDiff, reduceCtorEq, Nat.reduceLT, Nat.reduceBEq, Nat.reduceAdd, Nat.reduceSub, Nat.reduceMul, Nat.reduceMod, Int.reduceMod, Int.reduceToNat, Int.reduceNeg, h25, hgt, hm]
    refine hK10 _ ?_
    clear hK10 K10
    refine Tr.kp [7, 8, 34] ?_
    simp only [pk_cons, pk_nil, ↓A_cons, ↓reduceIte, Nat.reduceEqDiff, reduceCtorEq]
    refine Tr.condG fun KT KF hT hF => ?_
    simp only [ev_tmp, ev_const, ↓A_cons, ↓reduceIte, Nat.reduceEqDiff, reduceCtorEq, condG_bool, GB_true, GB_false, decide_eq_true_eq]
    refine hT ?_
    clear hT hF KT KF
    refine Tr.seqK fun K11 hK11 => ?_
    -- region 7 (ref.go:99)
    refine Tr.rg hcx [] _ [] rfl rfl rfl ?_
    simp -implicitDefEqProofs (maxSteps := 2000000) (disch := first | omega | (simp only [go_sem, List.length_append, List.length_drop, List.length_take, hgb] <;> omega) | decide) only [go_sem, ↓reduceIte, Nat.reduceEqDiff, reduceCtorEq, Nat.reduceLT, Nat.reduceBEq, Nat.reduceAdd, Nat.reduceSub, Nat.reduceMul, Nat.reduceMod, Int.reduceMod, Int.reduceToNat, Int.reduceNeg, h25, hgt]
    refine hK11 _ ?_
    clear hK11 K11
    refine Tr.kp [4, 5, 6] ?_
    simp only [pk_cons, pk_nil, ↓A_cons, ↓reduceIte, Nat.reduceEqDiff, reduceCtorEq]
    refine Tr.ret ?_
    simp -implicitDefEqProofs (disch := first | omega | (simp only [go_sem, List.length_append, List.length_drop, List.length_take, hgb] <;> omega) | decide) only [go_sem, ↓reduceIte, Nat.reduceEqDiff, reduceCtorEq]
    all_goals (first | (have hq := cnt_1 (s := s) hc17; first | (exact absurd (hq.symm.trans hE) hc17) | (rw [hq]; try rfl)) | (have hq := cnt_2 (s := s) hc17 hc20; first | (exfalso; omega) | (rw [hq]; try rfl)) | (have hq := cnt_3' hs.1 hc17 hc20 (.inl hgt); first | (exfalso; omega) | (rw [hq]; try rfl)) | (have hq := cnt_3' hs.1 hc17 hc20 (.inr hmul); first | (exfalso; omega) | (rw [hq]; try rfl)) | (have hq := cnt_0' hs.1 hc17 hc20 hmul; first | exact absurd hq hE | rfl))
   ·
    by_cases hmul : b.length - (getI b).2.1 < (getI b).1.toNat * s
    ·
     -- region 6 (ref.go:98)
     refine Tr.rg hcx [] [some 21, some 22, some 23, some 24, some 25, some 26, some 27, some 28, some 29, some 30, some 31, some 32, some 33, some 34] [] rfl rfl rfl ?_
     simp -implicitDefEqProofs (maxSteps := 2000000) (disch := first | omega | (simp only [go_sem, List.length_append, List.length_drop, List.length_take, hgb] <;> omega) | decide) only [go_sem, ↓reduceIte, Nat.reduceEqDiff, reduceCtorEq, Nat.reduceLT, Nat.reduceBEq, Nat.reduceAdd, Nat.reduceSub, Nat.reduceMul, Nat.reduceMod, Int.reduceMod, Int.reduceToNat, Int.reduceNeg, h25, hgt, hmul, hm]
     refine hK10 _ ?_
     clear hK10 K10
     refine Tr.kp [7, 8, 34] ?_
     simp only [pk_cons, pk_nil, ↓A_cons, ↓reduceIte, Nat.reduceEqDiff, reduceCtorEq]
     refine Tr.condG fun KT KF hT hF => ?_
     simp only [ev_tmp, ev_const, ↓A_cons, ↓reduceIte, Nat.reduceEqDiff, reduceCtorEq, condG_bool, GB_true, GB_false, decide_eq_true_eq]
     refine hT ?_
     clear hT hF KT KF
     refine Tr.seqK fun K12 hK12 => ?_
     -- region 7 (ref.go:99)
     refine Tr.rg hcx [] _ [] rfl rfl rfl ?_
     simp -implicitDefEqProofs (maxSteps := 2000000) (disch := first | omega | (simp only [go_sem, List.length_append, List.length_drop, List.length_take, hgb] <;> omega) | decide) only [go_sem, ↓reduceIte, Nat.reduceEqDiff, reduceCtorEq, Nat.reduceLT, Nat.reduceBEq, Nat.reduceAdd, Nat.reduceSub, Nat.reduceMul, Nat.reduceMod, Int.reduceMod, Int.reduceToNat, Int.reduceNeg, h25, hgt, hmul]
     refine hK12 _ ?_
     clear hK12 K12
     refine Tr.kp [4, 5, 6] ?_
     simp only [pk_cons, pk_nil, ↓A_cons, ↓reduceIte, Nat.reduceEqDiff, reduceCtorEq]
     refine Tr.ret ?_
     simp -implicitDefEqProofs (disch := first | omega | (simp only [go_sem, List.length_append, List.length_drop, List.length_take, hgb] <;> omega) | decide) only [go_sem, ↓reduceIte, Nat.reduceEqDiff, reduceCtorEq]
     all_goals (first | (have hq := cnt_1 (s := s) hc17; first | (exact absurd (hq.symm.trans hE) hc17) | (rw [hq]; try rfl)) | (have hq := cnt_2 (s := s) hc17 hc20; first | (exfalso; omega) | (rw [hq]; try rfl)) | (have hq := cnt_3' hs.1 hc17 hc20 (.inl hgt); first | (exfalso; omega) | (rw [hq]; try rfl)) | (have hq := cnt_3' hs.1 hc17 hc20 (.inr hmul); first | (exfalso; omega) | (rw [hq]; try rfl)) | (have hq := cnt_0' hs.1 hc17 hc20 hmul; first | exact absurd hq hE | rfl))
    ·
     -- region 6 (ref.go:98)
     refine Tr.rg hcx [] [some 21, some 22, some 23, some 24, some 25, some 26, some 27, some 28, some 29, some 30, some 31, some 32, some 33, some 34] [] rfl rfl rfl ?_
     simp -implicitDefEqProofs (maxSteps := 2000000) (disch := first | omega | (simp only [go_sem, List.length_append, List.length_drop, List.length_take, hgb] <;> omega) | decide) only [go_sem, ↓reduceIte, Nat.reduceEqDiff, reduceCtorEq, Nat.reduceLT, Nat.reduceBEq, Nat.reduceAdd, Nat.reduceSub, Nat.reduceMul, Nat.reduceMod, Int.reduceMod, Int.reduceToNat, Int.reduceNeg, h25, hgt, hmul, hm]
     refine hK10 _ ?_
     clear hK10 K10
     refine Tr.kp [7, 8, 34] ?_
     simp only [pk_cons, pk_nil, ↓A_cons, ↓reduceIte, Nat.reduceEqDiff, reduceCtorEq]
     refine Tr.condG fun KT KF hT hF => ?_
     simp only [ev_tmp, ev_const, ↓A_cons, ↓reduceIte, Nat.reduceEqDiff, reduceCtorEq, condG_bool, GB_true, GB_false, decide_eq_true_eq]
     refine hF ?_
     clear hT hF KT KF
     refine Tr.skip ?_
     refine hK9 _ ?_
     clear hK9 K9
     refine Tr.kp [7, 8] ?_
     simp only [pk_cons, pk_nil, ↓A_cons, ↓reduceIte, Nat.reduceEqDiff, reduceCtorEq]
     refine Tr.seqK fun K13 hK13 => ?_
     -- region 8 (ref.go:101)
     refine Tr.rg hcx [1000035, 1000036] _ [] rfl rfl rfl ?_
     simp -implicitDefEqProofs (maxSteps := 2000000) (disch := first | omega | (simp only [go_sem, List.length_append, List.length_drop, List.length_take, hgb] <;> omega) | decide) only [go_sem, ↓reduceIte, Nat.reduceEqDiff, reduceCtorEq, Nat.reduceLT, Nat.reduceBEq, Nat.reduceAdd, Nat.reduceSub, Nat.reduceMul, Nat.reduceMod, Int.reduceMod, Int.reduceToNat, Int.reduceNeg, h25, hgt, hmul]
     refine hK13 _ ?_
     clear hK13 K13
     refine Tr.kp [4, 5, 6] ?_
     simp only [pk_cons, pk_nil, ↓A_cons, ↓reduceIte, Nat.reduceEqDiff, reduceCtorEq]
     refine Tr.ret ?_
     simp -implicitDefEqProofs (disch := first | omega | (simp only [go_sem, List.length_append, List.length_drop, List.length_take, hgb] <;> omega) | decide) only [go_sem, ↓reduceIte, Nat.reduceEqDiff, reduceCtorEq]
     all_goals (first | (have hq := cnt_1 (s := s) hc17; first | (exact absurd (hq.symm.trans hE) hc17) | (rw [hq]; try rfl)) | (have hq := cnt_2 (s := s) hc17 hc20; first | (exfalso; omega) | (rw [hq]; try rfl)) | (have hq := cnt_3' hs.1 hc17 hc20 (.inl hgt); first | (exfalso; omega) | (rw [hq]; try rfl)) | (have hq := cnt_3' hs.1 hc17 hc20 (.inr hmul); first | (exfalso; omega) | (rw [hq]; try rfl)) | (have hq := cnt_0' hs.1 hc17 hc20 hmul; first | exact absurd hq hE | rfl))

set_option maxRecDepth 100000 in
set_option maxHeartbeats 8000000 in
theorem fc39e {gl : Nat → C} {M : Nat} {pu : Nat → List C → Option C}  (hcx : CxOK (cxP gl M pu)) (h25 : ∀ b : List UInt8, b.length < 1099511627776 → pu 25 [sl bC .no b] = some (.tup [.val (.int .i64 (getI b).1), .val (nI (getI b).2.1), .val (nI (getI b).2.2)])) (b : List UInt8) (s : Nat) (hb : b.length < 1099511627776) (hs : 0 < s ∧ s ≤ 16) (hE : ¬ cntE b s = 0) : FC Try.prog gl 39 [sl bC .no b, .val (nI s)] [] (.tup [.val (nI 0), .val (nI 0), .val (nI (cntE b s))]) [] := by
 replace hcx := hcx.reN (M := 37)
 refine FC.ofA (cx := cxP gl 37 pu) (rs := [.tmp 4, .tmp 5, .tmp 6]) rfl Try.func39 rfl rfl rfl (by simp only [List.length_cons, List.length_nil]; decide) (by simp only [go_sem]) ?_
 simp only [ini, go_sem]
 have hgb := getI_bd b
 refine Tr.seqK fun K1 hK1 => ?_
 -- region 0 (ref.go:90)
 refine Tr.rg hcx [] _ [] rfl rfl rfl ?_
 simp -implicitDefEqProofs (maxSteps := 2000000) (disch := first | omega | (simp only [go_sem, List.length_append, List.length_drop, List.length_take, hgb] <;> omega) | decide) only [go_sem, ↓reduceIte, Nat.reduceEqDiff, reduceCtorEq, Nat.reduceLT, Nat.reduceBEq, Nat.reduceAdd, Nat.reduceSub, Nat.reduceMul, Nat.reduceMod, Int.reduceMod, Int.reduceToNat, Int.reduceNeg, h25]
 refine hK1 _ ?_
 clear hK1 K1
 refine Tr.kp [0, 1] ?_
 simp only [pk_cons, pk_nil, ↓A_cons, ↓reduceIte, Nat.reduceEqDiff, reduceCtorEq]
 refine Tr.seqK fun K2 hK2 => ?_
 -- region 1 (ref.go:91)
 refine Tr.rg hcx [1000013, 1000014, 1000015] _ [] rfl rfl rfl ?_
 simp -implicitDefEqProofs (maxSteps := 2000000) (disch := first | omega | (simp only [go_sem, List.length_append, List.length_drop, List.length_take, hgb] <;> omega) | decide) only [go_sem, ↓reduceIte, Nat.reduceEqDiff, reduceCtorEq, Nat.reduceLT, Nat.reduceBEq, Nat.reduceAdd, Nat.reduceSub, Nat.reduceMul, Nat.reduceMod, Int.reduceMod, Int.reduceToNat, Int.reduceNeg, h25]
 refine hK2 _ ?_
 clear hK2 K2
 refine Tr.kp [0, 1, 7, 8, 9] ?_
 simp only [pk_cons, pk_nil, ↓A_cons, ↓reduceIte, Nat.reduceEqDiff, reduceCtorEq]
 refine Tr.seqK fun K3 hK3 => ?_
 refine Tr.seqK fun K4 hK4 => ?_
 -- region 2 (ref.go:92)
 refine Tr.rg hcx [] _ [] rfl rfl rfl ?_
 simp -implicitDefEqProofs (maxSteps := 2000000) (disch := first | omega | (simp only [go_sem, List.length_append, List.length_drop, List.length_take, hgb] <;> omega) | decide) only [go_sem, ↓reduceIte, Nat.reduceEqDiff, reduceCtorEq, Nat.reduceLT, Nat.reduceBEq, Nat.reduceAdd, Nat.reduceSub, Nat.reduceMul, Nat.reduceMod, Int.reduceMod, Int.reduceToNat, Int.reduceNeg, h25]
 refine hK4 _ ?_
 clear hK4 K4
 refine Tr.kp [0, 1, 7, 8, 9, 17] ?_
 simp only [pk_cons, pk_nil, ↓A_cons, ↓reduceIte, Nat.reduceEqDiff, reduceCtorEq]
 refine Tr.condG fun KT KF hT hF => ?_
 simp only [ev_tmp, ev_const, ↓A_cons, ↓reduceIte, Nat.reduceEqDiff, reduceCtorEq, condG_bool, GB_true, GB_false, decide_eq_true_eq]
 refine GB.dec (fun hc17 => hT ?_) (fun hc17 => hF ?_)
 ·
  clear hT hF KT KF
  refine Tr.seqK fun K5 hK5 => ?_
  -- region 3 (ref.go:93)
  refine Tr.rg hcx [1000018] _ [] rfl rfl rfl ?_
  simp -implicitDefEqProofs (maxSteps := 2000000) (disch := first | omega | (simp only [go_sem, List.length_append, List.length_drop, List.length_take, hgb] <;> omega) | decide) only [go_sem, ↓reduceIte, Nat.reduceEqDiff, reduceCtorEq, Nat.reduceLT, Nat.reduceBEq, Nat.reduceAdd, Nat.reduceSub, Nat.reduceMul, Nat.reduceMod, Int.reduceMod, Int.reduceToNat, Int.reduceNeg, h25]
  refine hK5 _ ?_
  clear hK5 K5
  refine Tr.kp [4, 5, 6] ?_
  simp only [pk_cons, pk_nil, ↓A_cons, ↓reduceIte, Nat.reduceEqDiff, reduceCtorEq]
  refine Tr.ret ?_
  simp -implicitDefEqProofs (disch := first | omega | (simp only [go_sem, List.length_append, List.length_drop, List.length_take, hgb] <;> omega) | decide) only [go_sem, ↓reduceIte, Nat.reduceEqDiff, reduceCtorEq]
  all_goals (first | (have hq := cnt_1 (s := s) hc17; first | (exact absurd (hq.symm.trans hE) hc17) | (rw [hq]; try rfl)) | (have hq := cnt_2 (s := s) hc17 hc20; first | (exfalso; omega) | (rw [hq]; try rfl)) | (have hq := cnt_3' hs.1 hc17 hc20 (.inl hgt); first | (exfalso; omega) | (rw [hq]; try rfl)) | (have hq := cnt_3' hs.1 hc17 hc20 (.inr hmul); first | (exfalso; omega) | (rw [hq]; try rfl)) | (have hq := cnt_0' hs.1 hc17 hc20 hmul; first | exact absurd hq hE | rfl))
 ·
  clear hT hF KT KF
  refine Tr.skip ?_
  refine hK3 _ ?_
  clear hK3 K3
  refine Tr.kp [0, 1, 7, 8] ?_
  simp only [pk_cons, pk_nil, ↓A_cons, ↓reduceIte, Nat.reduceEqDiff, reduceCtorEq]
  refine Tr.seqK fun K6 hK6 => ?_
  refine Tr.seqK fun K7 hK7 => ?_
  -- region 4 (ref.go:95)
  refine Tr.rg hcx [] _ [] rfl rfl rfl ?_
  simp -implicitDefEqProofs (maxSteps := 2000000) (disch := first | omega | (simp only [go_sem, List.length_append, List.length_drop, List.length_take, hgb] <;> omega) | decide) only [go_sem, ↓reduceIte, Nat.reduceEqDiff, reduceCtorEq, Nat.reduceLT, Nat.reduceBEq, Nat.reduceAdd, Nat.reduceSub, Nat.reduceMul, Nat.reduceMod, Int.reduceMod, Int.reduceToNat, Int.reduceNeg, h25]
  refine hK7 _ ?_
  clear hK7 K7
  refine Tr.kp [0, 1, 7, 8, 20] ?_
  simp only [pk_cons, pk_nil, ↓A_cons, ↓reduceIte, Nat.reduceEqDiff, reduceCtorEq]
  refine Tr.condG fun KT KF hT hF => ?_
  simp only [ev_tmp, ev_const, ↓A_cons, ↓reduceIte, Nat.reduceEqDiff, reduceCtorEq, condG_bool, GB_true, GB_false, decide_eq_true_eq]
  refine GB.dec (fun hc20 => hT ?_) (fun hc20 => hF ?_)
  ·
   clear hT hF KT KF
   refine Tr.seqK fun K8 hK8 => ?_
   -- region 5 (ref.go:96)
   refine Tr.rg hcx [] _ [] rfl rfl rfl ?_
   simp -implicitDefEqProofs (maxSteps := 2000000) (disch := first | omega | (simp only [go_sem, List.length_append, List.length_drop, List.length_take, hgb] <;> omega) | decide) only [go_sem, ↓reduceIte, Nat.reduceEqDiff, reduceCtorEq, Nat.reduceLT, Nat.reduceBEq, Nat.reduceAdd, Nat.reduceSub, Nat.reduceMul, Nat.reduceMod, Int.reduceMod, Int.reduceToNat, Int.reduceNeg, h25]
   refine hK8 _ ?_
   clear hK8 K8
   refine Tr.kp [4, 5, 6] ?_
   simp only [pk_cons, pk_nil, ↓A_cons, ↓reduceIte, Nat.reduceEqDiff, reduceCtorEq]
   refine Tr.ret ?_
   simp -implicitDefEqProofs (disch := first | omega | (simp only [go_sem, List.length_append, List.length_drop, List.length_take, hgb] <;> omega) | decide) only [go_sem, ↓reduceIte, Nat.reduceEqDiff, reduceCtorEq]
   all_goals (first | (have hq := cnt_1 (s := s) hc17; first | (exact absurd (hq.symm.trans hE) hc17) | (rw [hq]; try rfl)) | (have hq := cnt_2 (s := s) hc17 hc20; first | (exfalso; omega) | (rw [hq]; try rfl)) | (have hq := cnt_3' hs.1 hc17 hc20 (.inl hgt); first | (exfalso; omega) | (rw [hq]; try rfl)) | (have hq := cnt_3' hs.1 hc17 hc20 (.inr hmul); first | (exfalso; omega) | (rw [hq]; try rfl)) | (have hq := cnt_0' hs.1 hc17 hc20 hmul; first | exact absurd hq hE | rfl))
  ·
   clear hT hF KT KF
   have hm := nn_nI hc20
   have hms : (getI b).1.toNat * s ≤ (getI b).1.toNat * 16 := Nat.mul_le_mul_left _ hs.2
   refine Tr.skip ?_
   refine hK6 _ ?_
   clear hK6 K6
   refine Tr.kp [0, 1, 7, 8] ?_
   simp only [pk_cons, pk_nil, ↓A_cons, ↓reduceIte, Nat.reduceEqDiff, reduceCtorEq]
   refine Tr.seqK fun K9 hK9 => ?_
   refine Tr.seqK fun K10 hK10 => ?_
   by_cases hgt : b.length < (getI b).1.toNat
   ·
    -- region 6 (ref.go:98)
    refine Tr.rg hcx [] [some 21, some 22, some 23, some 24, some 25, some 26, some 27, some 28, some 29, some 30, some 31, some 32, some 33, some 34] [] rfl rfl rfl ?_
    simp -implicitDefEqProofs (maxSteps := 2000000) (disch := first | omega | (simp only [go_sem, List.length_append, List.length_drop, List.length_take, hgb] <;> omega) | decide) only [go_sem, ↓reduceIte, Nat.reduceEqDiff, reduceCtorEq, Nat.reduceLT, Nat.reduceBEq, Nat.reduceAdd, Nat.reduceSub, Nat.reduceMul, Nat.reduceMod, Int.reduceMod, Int.reduceToNat, Int.reduceNeg, h25, hgt, hm]
    refine hK10 _ ?_
    clear hK10 K10
    refine Tr.kp [7, 8, 34] ?_
    simp only [pk_cons, pk_nil, ↓A_cons, ↓reduceIte, Nat.reduceEqDiff, reduceCtorEq]
    refine Tr.condG fun KT KF hT hF => ?_
    simp only [ev_tmp, ev_const, ↓A_cons, ↓reduceIte, Nat.reduceEqDiff, reduceCtorEq, condG_bool, GB_true, GB_false, decide_eq_true_eq]
    refine hT ?_
    clear hT hF KT KF
    refine Tr.seqK fun K11 hK11 => ?_
    -- region 7 (ref.go:99)
    refine Tr.rg hcx [] _ [] rfl rfl rfl ?_
    simp -implicitDefEqProofs (maxSteps := 2000000) (disch := first | omega | (simp only [go_sem, List.length_append, List.length_drop, List.length_take, hgb] <;> omega) | decide) only [go_sem, ↓reduceIte, Nat.reduceEqDiff, reduceCtorEq, Nat.reduceLT, Nat.reduceBEq, Nat.reduceAdd, Nat.reduceSub, Nat.reduceMul, Nat.reduceMod, Int.reduceMod, Int.reduceToNat, Int.reduceNeg, h25, hgt]
    refine hK11 _ ?_
    clear hK11 K11
    refine Tr.kp [4, 5, 6] ?_
    simp only [pk_cons, pk_nil, ↓A_cons, ↓reduceIte, Nat.reduceEqDiff, reduceCtorEq]
    refine Tr.ret ?_
    simp -implicitDefEqProofs (disch := first | omega | (simp only [go_sem, List.length_append, List.length_drop, List.length_take, hgb] <;> omega) | decide) only [go_sem, ↓reduceIte, Nat.reduceEqDiff, reduceCtorEq]
    all_goals (first | (have hq := cnt_1 (s := s) hc17; first | (exact absurd (hq.symm.trans hE) hc17) | (rw [hq]; try rfl)) | (have hq := cnt_2 (s := s) hc17 hc20; first | (exfalso; omega) | (rw [hq]; try rfl)) | (have hq := cnt_3' hs.1 hc17 hc20 (.inl hgt); first | (exfalso; omega) | (rw [hq]; try rfl)) | (have hq := cnt_3' hs.1 hc17 hc20 (.inr hmul); first | (exfalso; omega) | (rw [hq]; try rfl)) | (have hq := cnt_0' hs.1 hc17 hc20 hmul; first | exact absurd hq hE | rfl))
   ·
    by_cases hmul : b.length - (getI b).2.1 < (getI b).1.toNat * s
    ·
     -- region 6 (ref.go:98)
     refine Tr.rg hcx [] [some 21, some 22, some 23, some 24, some 25, some 26, some 27, some 28, some 29, some 30, some 31, some 32, some 33, some 34] [] rfl rfl rfl ?_
     simp -implicitDefEqProofs (maxSteps := 2000000) (disch := first | omega | (simp only [go_sem, List.length_append, List.length_drop, List.length_take, hgb] <;> omega) | decide) only [go_sem, ↓reduceIte, Nat.reduceEqDiff, reduceCtorEq, Nat.reduceLT, Nat.reduceBEq, Nat.reduceAdd, Nat.reduceSub, Nat.reduceMul, Nat.reduceMod, Int.reduceMod, Int.reduceToNat, Int.reduceNeg, h25, hgt, hmul, hm]
     refine hK10 _ ?_
     clear hK10 K10
     refine Tr.kp [7, 8, 34] ?_
     simp only [pk_cons, pk_nil, ↓A_cons, ↓reduceIte, Nat.reduceEqDiff, reduceCtorEq]
     refine Tr.condG fun KT KF hT hF => ?_
     simp only [ev_tmp, ev_const, ↓A_cons, ↓reduceIte, Nat.reduceEqDiff, reduceCtorEq, condG_bool, GB_true, GB_false, decide_eq_true_eq]
     refine hT ?_
     clear hT hF KT KF
     refine Tr.seqK fun K12 hK12 => ?_
     -- region 7 (ref.go:99)
     refine Tr.rg hcx [] _ [] rfl rfl rfl ?_
     simp -implicitDefEqProofs (maxSteps := 2000000) (disch := first | omega | (simp only [go_sem, List.length_append, List.length_drop, List.length_take, hgb] <;> omega) | decide) only [go_sem, ↓reduceIte, Nat.reduceEqDiff, reduceCtorEq, Nat.reduceLT, Nat.reduceBEq, Nat.reduceAdd, Nat.reduceSub, Nat.reduceMul, Nat.reduceMod, Int.reduceMod, Int.reduceToNat, Int.reduceNeg, h25, hgt, hmul]
     refine hK12 _ ?_
     clear hK12 K12
     refine Tr.kp [4, 5, 6] ?_
     simp only [pk_cons, pk_nil, ↓A_cons, ↓reduceIte, Nat.reduceEqDiff, reduceCtorEq]
     refine Tr.ret ?_
     simp -implicitDefEqProofs (disch := first | omega | (simp only [go_sem, List.length_append, List.length_drop, List.length_take, hgb] <;> omega) | decide) only [go_sem, ↓reduceIte, Nat.reduceEqDiff, reduceCtorEq]
     all_goals (first | (have hq := cnt_1 (s := s) hc17; first | (exact absurd (hq.symm.trans hE) hc17) | (rw [hq]; try rfl)) | (have hq := cnt_2 (s := s) hc17 hc20; first | (exfalso; omega) | (rw [hq]; try rfl)) | (have hq := cnt_3' hs.1 hc17 hc20 (.inl hgt); first | (exfalso; omega) | (rw [hq]; try rfl)) | (have hq := cnt_3' hs.1 hc17 hc20 (.inr hmul); first | (exfalso; omega) | (rw [hq]; try rfl)) | (have hq := cnt_0' hs.1 hc17 hc20 hmul; first | exact absurd hq hE | rfl))
    ·
     -- region 6 (ref.go:98)
     refine Tr.rg hcx [] [some 21, some 22, some 23, some 24, some 25, some 26, some 27, some 28, some 29, some 30, some 31, some 32, some 33, some 34] [] rfl rfl rfl ?_
     simp -implicitDefEqProofs (maxSteps := 2000000) (disch := first | omega | (simp only [go_sem, List.length_append, List.length_drop, List.length_take, hgb] <;> omega) | decide) only [go_sem, ↓reduceIte, Nat.reduceEqDiff, reduceCtorEq, Nat.reduceLT, Nat.reduceBEq, Nat.reduceAdd, Nat.reduceSub, Nat.reduceMul, Nat.reduceMod, Int.reduceMod, Int.reduceToNat, Int.reduceNeg, h25, hgt, hmul, hm]
     refine hK10 _ ?_
     clear hK10 K10
     refine Tr.kp [7, 8, 34] ?_
     simp only [pk_cons, pk_nil, ↓A_cons, ↓reduceIte, Nat.reduceEqDiff, reduceCtorEq]
     refine Tr.condG fun KT KF hT hF => ?_
     simp only [ev_tmp, ev_const, ↓A_cons, ↓reduceIte, Nat.reduceEqDiff, reduceCtorEq, condG_bool, GB_true, GB_false, decide_eq_true_eq]
     refine hF ?_
     clear hT hF KT KF
     refine Tr.skip ?_
     refine hK9 _ ?_
     clear hK9 K9
     refine Tr.kp [7, 8] ?_
     simp only [pk_cons, pk_nil, ↓A_cons, ↓reduceIte, Nat.reduceEqDiff, reduceCtorEq]
     refine Tr.seqK fun K13 hK13 => ?_
     -- region 8 (ref.go:101)
     refine Tr.rg hcx [1000035, 1000036] _ [] rfl rfl rfl ?_
     simp -implicitDefEqProofs (maxSteps := 2000000) (disch := first | omega | (simp only [go_sem, List.length_append, List.length_drop, List.length_take, hgb] <;> omega) | decide) only [go_sem, ↓reduceIte, Nat.reduceEqDiff, reduceCtorEq, Nat.reduceLT, Nat.reduceBEq, Nat.reduceAdd, Nat.reduceSub, Nat.reduceMul, Nat.reduceMod, Int.reduceMod, Int.reduceToNat, Int.reduceNeg, h25, hgt, hmul]
     refine hK13 _ ?_
     clear hK13 K13
     refine Tr.kp [4, 5, 6] ?_
     simp only [pk_cons, pk_nil, ↓A_cons, ↓reduceIte, Nat.reduceEqDiff, reduceCtorEq]
     refine Tr.ret ?_
     simp -implicitDefEqProofs (disch := first | omega | (simp only [go_sem, List.length_append, List.length_drop, List.length_take, hgb] <;> omega) | decide) only [go_sem, ↓reduceIte, Nat.reduceEqDiff, reduceCtorEq]
     all_goals (first | (have hq := cnt_1 (s := s) hc17; first | (exact absurd (hq.symm.trans hE) hc17) | (rw [hq]; try rfl)) | (have hq := cnt_2 (s := s) hc17 hc20; first | (exfalso; omega) | (rw [hq]; try rfl)) | (have hq := cnt_3' hs.1 hc17 hc20 (.inl hgt); first | (exfalso; omega) | (rw [hq]; try rfl)) | (have hq := cnt_3' hs.1 hc17 hc20 (.inr hmul); first | (exfalso; omega) | (rw [hq]; try rfl)) | (have hq := cnt_0' hs.1 hc17 hc20 hmul; first | exact absurd hq hE | rfl))

set_option maxRecDepth 100000 in
set_option maxHeartbeats 8000000 in
theorem fc26 {gl : Nat → C} {M : Nat} {pu : Nat → List C → Option C}  (hcx : CxOK (cxP gl M pu)) (h38 : ∀ (b : List UInt8) (s : Nat), b.length < 1099511627776 ∧ 0 < s ∧ s ≤ 16 ∧ cntE b s = 0 → pu 38 [sl bC .no b, .val (nI s)] = some (.tup [.val (nI (cn b)), .val (nI (ca b)), .val (nI 0)])) (h38e : ∀ (b : List UInt8) (s : Nat), b.length < 1099511627776 ∧ 0 < s ∧ s ≤ 16 ∧ ¬ cntE b s = 0 → pu 38 [sl bC .no b, .val (nI s)] = some (.tup [.val (.int .i64 (getI b).1), .val (nI (getI b).2.1), .val (nI (cntE b s))])) (b : List UInt8) (hb : b.length < 1099511627776) : FC Try.prog gl 26 [sl bC .no b] [] (.tup [.val (str (getB b).1), .val (nI (getB b).2.1), .val (nI (getB b).2.2)]) [] := by
 replace hcx := hcx.reN (M := 27)
 refine FC.ofA (cx := cxP gl 27 pu) (rs := [.tmp 2, .tmp 3, .tmp 4]) rfl Try.func26 rfl rfl rfl (by simp only [List.length_cons, List.length_nil]; decide) (by simp only [go_sem]) ?_
 simp only [ini, go_sem]
 have hgb := getI_bd b
 have hcl := cnt_le b 1
 refine Tr.seqK fun K1 hK1 => ?_
 -- region 0 (wire.go:80)
 refine Tr.rg hcx [] _ [] rfl rfl rfl ?_
 simp -implicitDefEqProofs (maxSteps := 2000000) (disch := first | omega | (simp only [go_sem, List.length_append, List.length_drop, List.length_take, hgb, hcl] <;> omega) | decide) only [go_sem, ↓reduceIte, Nat.reduceEqDiff, reduceCtorEq, Nat.reduceLT, Nat.reduceBEq, Nat.reduceAdd, Nat.reduceSub, Nat.reduceMul, Nat.reduceMod, Int.reduceMod, Int.reduceToNat, Int.reduceNeg, h38, h38e]
 refine hK1 _ ?_
 clear hK1 K1
 refine Tr.kp [0] ?_
 simp only [pk_cons, pk_nil, ↓A_cons, ↓reduceIte, Nat.reduceEqDiff, reduceCtorEq]
 refine Tr.seqK fun K2 hK2 => ?_
 by_cases hcE : cntE b 1 = 0
 ·
  have hok := cnt_ok (by decide) hcE
  -- region 1 (wire.go:81)
  refine Tr.rg hcx [1000011, 1000012, 1000013] _ [] rfl rfl rfl ?_
  simp -implicitDefEqProofs (maxSteps := 2000000) (disch := first | omega | (simp only [go_sem, List.length_append, List.length_drop, List.length_take, hgb, hcl] <;> omega) | decide) only [go_sem, ↓reduceIte, Nat.reduceEqDiff, reduceCtorEq, Nat.reduceLT, Nat.reduceBEq, Nat.reduceAdd, Nat.reduceSub, Nat.reduceMul, Nat.reduceMod, Int.reduceMod, Int.reduceToNat, Int.reduceNeg, h38, h38e, hcE]
  refine hK2 _ ?_
  clear hK2 K2
  refine Tr.kp [0, 5, 6, 7] ?_
  simp only [pk_cons, pk_nil, ↓A_cons, ↓reduceIte, Nat.reduceEqDiff, reduceCtorEq]
  refine Tr.seqK fun K3 hK3 => ?_
  refine Tr.seqK fun K4 hK4 => ?_
  -- region 2 (wire.go:82)
  refine Tr.rg hcx [] _ [] rfl rfl rfl ?_
  simp -implicitDefEqProofs (maxSteps := 2000000) (disch := first | omega | (simp only [go_sem, List.length_append, List.length_drop, List.length_take, hgb, hcl] <;> omega) | decide) only [go_sem, ↓reduceIte, Nat.reduceEqDiff, reduceCtorEq, Nat.reduceLT, Nat.reduceBEq, Nat.reduceAdd, Nat.reduceSub, Nat.reduceMul, Nat.reduceMod, Int.reduceMod, Int.reduceToNat, Int.reduceNeg, h38, h38e, hcE]
  refine hK4 _ ?_
  clear hK4 K4
  refine Tr.kp [0, 5, 6, 7, 15] ?_
  simp only [pk_cons, pk_nil, ↓A_cons, ↓reduceIte, Nat.reduceEqDiff, reduceCtorEq]
  refine Tr.condG fun KT KF hT hF => ?_
  simp only [ev_tmp, ev_const, ↓A_cons, ↓reduceIte, Nat.reduceEqDiff, reduceCtorEq, condG_bool, GB_true, GB_false, decide_eq_true_eq]
  refine hF ?_
  clear hT hF KT KF
  refine Tr.skip ?_
  refine hK3 _ ?_
  clear hK3 K3
  refine Tr.kp [0, 5, 6] ?_
  simp only [pk_cons, pk_nil, ↓A_cons, ↓reduceIte, Nat.reduceEqDiff, reduceCtorEq]
  refine Tr.seqK fun K5 hK5 => ?_
  -- region 4 (wire.go:85)
  refine Tr.rg hcx [1000023, 1000026] _ [] rfl rfl rfl ?_
  simp -implicitDefEqProofs (maxSteps := 2000000) (disch := first | omega | (simp only [go_sem, List.length_append, List.length_drop, List.length_take, hgb, hcl] <;> omega) | decide) only [go_sem, ↓reduceIte, Nat.reduceEqDiff, reduceCtorEq, Nat.reduceLT, Nat.reduceBEq, Nat.reduceAdd, Nat.reduceSub, Nat.reduceMul, Nat.reduceMod, Int.reduceMod, Int.reduceToNat, Int.reduceNeg, h38, h38e, hcE]
  refine hK5 _ ?_
  clear hK5 K5
  refine Tr.kp [2, 3, 4] ?_
  simp only [pk_cons, pk_nil, ↓A_cons, ↓reduceIte, Nat.reduceEqDiff, reduceCtorEq]
  refine Tr.ret ?_
  simp -implicitDefEqProofs (disch := first | omega | (simp only [go_sem, List.length_append, List.length_drop, List.length_take, hgb, hcl] <;> omega) | decide) only [go_sem, ↓reduceIte, Nat.reduceEqDiff, reduceCtorEq]
  all_goals (first | (rw [getB_1 hcE]; done) | (rw [getB_1 hcE]; simp only [Nat.add_sub_cancel_left]) | (rw [getB_2 hcE]; try rfl))
 ·
  have hok := True.intro
  -- region 1 (wire.go:81)
  refine Tr.rg hcx [1000011, 1000012, 1000013] _ [] rfl rfl rfl ?_
  simp -implicitDefEqProofs (maxSteps := 2000000) (disch := first | omega | (simp only [go_sem, List.length_append, List.length_drop, List.length_take, hgb, hcl] <;> omega) | decide) only [go_sem, ↓reduceIte, Nat.reduceEqDiff, reduceCtorEq, Nat.reduceLT, Nat.reduceBEq, Nat.reduceAdd, Nat.reduceSub, Nat.reduceMul, Nat.reduceMod, Int.reduceMod, Int.reduceToNat, Int.reduceNeg, h38, h38e, hcE]
  refine hK2 _ ?_
  clear hK2 K2
  refine Tr.kp [0, 5, 6, 7] ?_
  simp only [pk_cons, pk_nil, ↓A_cons, ↓reduceIte, Nat.reduceEqDiff, reduceCtorEq]
  refine Tr.seqK fun K6 hK6 => ?_
  refine Tr.seqK fun K7 hK7 => ?_
  -- region 2 (wire.go:82)
  refine Tr.rg hcx [] _ [] rfl rfl rfl ?_
  simp -implicitDefEqProofs (maxSteps := 2000000) (disch := first | omega | (simp only [go_sem, List.length_append, List.length_drop, List.length_take, hgb, hcl] <;> omega) | decide) only [go_sem, ↓reduceIte, Nat.reduceEqDiff, reduceCtorEq, Nat.reduceLT, Nat.reduceBEq, Nat.reduceAdd, Nat.reduceSub, Nat.reduceMul, Nat.reduceMod, Int.reduceMod, Int.reduceToNat, Int.reduceNeg, h38, h38e, hcE]
  refine hK7 _ ?_
  clear hK7 K7
  refine Tr.kp [0, 5, 6, 7, 15] ?_
  simp only [pk_cons, pk_nil, ↓A_cons, ↓reduceIte, Nat.reduceEqDiff, reduceCtorEq]
  refine Tr.condG fun KT KF hT hF => ?_
  simp only [ev_tmp, ev_const, ↓A_cons, ↓reduceIte, Nat.reduceEqDiff, reduceCtorEq, condG_bool, GB_true, GB_false, decide_eq_true_eq]
  refine hT ?_
  clear hT hF KT KF
  refine Tr.seqK fun K8 hK8 => ?_
  -- region 3 (wire.go:83)
  refine Tr.rg hcx [1000016] _ [] rfl rfl rfl ?_
  simp -implicitDefEqProofs (maxSteps := 2000000) (disch := first | omega | (simp only [go_sem, List.length_append, List.length_drop, List.length_take, hgb, hcl] <;> omega) | decide) only [go_sem, ↓reduceIte, Nat.reduceEqDiff, reduceCtorEq, Nat.reduceLT, Nat.reduceBEq, Nat.reduceAdd, Nat.reduceSub, Nat.reduceMul, Nat.reduceMod, Int.reduceMod, Int.reduceToNat, Int.reduceNeg, h38, h38e, hcE]
  refine hK8 _ ?_
  clear hK8 K8
  refine Tr.kp [2, 3, 4] ?_
  simp only [pk_cons, pk_nil, ↓A_cons, ↓reduceIte, Nat.reduceEqDiff, reduceCtorEq]
  refine Tr.ret ?_
  simp -implicitDefEqProofs (disch := first | omega | (simp only [go_sem, List.length_append, List.length_drop, List.length_take, hgb, hcl] <;> omega) | decide) only [go_sem, ↓reduceIte, Nat.reduceEqDiff, reduceCtorEq]
  all_goals (first | (rw [getB_1 hcE]; done) | (rw [getB_1 hcE]; simp only [Nat.add_sub_cancel_left]) | (rw [getB_2 hcE]; try rfl))

set_option maxRecDepth 100000 in
set_option maxHeartbeats 8000000 in
theorem fc27 {gl : Nat → C} {M : Nat} {pu : Nat → List C → Option C}  (hcx : CxOK (cxP gl M pu)) (h39 : ∀ (b : List UInt8) (s : Nat), b.length < 1099511627776 ∧ 0 < s ∧ s ≤ 16 ∧ cntE b s = 0 → pu 39 [sl bC .no b, .val (nI s)] = some (.tup [.val (nI (cn b)), .val (nI (ca b)), .val (nI 0)])) (h39e : ∀ (b : List UInt8) (s : Nat), b.length < 1099511627776 ∧ 0 < s ∧ s ≤ 16 ∧ ¬ cntE b s = 0 → pu 39 [sl bC .no b, .val (nI s)] = some (.tup [.val (nI 0), .val (nI 0), .val (nI (cntE b s))])) (b : List UInt8) (hb : b.length < 1099511627776) : FC Try.prog gl 27 [sl bC .no b] [] (.tup [.val (str (getB b).1), .val (nI (getB b).2.1), .val (nI (getB b).2.2)]) [] := by
 replace hcx := hcx.reN (M := 27)
 refine FC.ofA (cx := cxP gl 27 pu) (rs := [.tmp 2, .tmp 3, .tmp 4]) rfl Try.func27 rfl rfl rfl (by simp only [List.length_cons, List.length_nil]; decide) (by simp only [go_sem]) ?_
 simp only [ini, go_sem]
 have hgb := getI_bd b
 have hcl := cnt_le b 1
 refine Tr.seqK fun K1 hK1 => ?_
 -- region 0 (ref.go:105)
 refine Tr.rg hcx [] _ [] rfl rfl rfl ?_
 simp -implicitDefEqProofs (maxSteps := 2000000) (disch := first | omega | (simp only [go_sem, List.length_append, List.length_drop, List.length_take, hgb, hcl] <;> omega) | decide) only [go_sem, ↓reduceIte, Nat.reduceEqDiff, reduceCtorEq, Nat.reduceLT, Nat.reduceBEq, Nat.reduceAdd, Nat.reduceSub, Nat.reduceMul, Nat.reduceMod, Int.reduceMod, Int.reduceToNat, Int.reduceNeg, h39, h39e]
 refine hK1 _ ?_
 clear hK1 K1
 refine Tr.kp [0] ?_
 simp only [pk_cons, pk_nil, ↓A_cons, ↓reduceIte, Nat.reduceEqDiff, reduceCtorEq]
 refine Tr.seqK fun K2 hK2 => ?_
 by_cases hcE : cntE b 1 = 0
 ·
  have hok := cnt_ok (by decide) hcE
  -- region 1 (ref.go:106)
  refine Tr.rg hcx [1000011, 1000012, 1000013] _ [] rfl rfl rfl ?_
  simp -implicitDefEqProofs (maxSteps := 2000000) (disch := first | omega | (simp only [go_sem, List.length_append, List.length_drop, List.length_take, hgb, hcl] <;> omega) | decide) only [go_sem, ↓reduceIte, Nat.reduceEqDiff, reduceCtorEq, Nat.reduceLT, Nat.reduceBEq, Nat.reduceAdd, Nat.reduceSub, Nat.reduceMul, Nat.reduceMod, Int.reduceMod, Int.reduceToNat, Int.reduceNeg, h39, h39e, hcE]
  refine hK2 _ ?_
  clear hK2 K2
  refine Tr.kp [0, 5, 6, 7] ?_
  simp only [pk_cons, pk_nil, ↓A_cons, ↓reduceIte, Nat.reduceEqDiff, reduceCtorEq]
  refine Tr.seqK fun K3 hK3 => ?_
  refine Tr.seqK fun K4 hK4 => ?_
  -- region 2 (ref.go:107)
  refine Tr.rg hcx [] _ [] rfl rfl rfl ?_
  simp -implicitDefEqProofs (maxSteps := 2000000) (disch := first | omega | (simp only [go_sem, List.length_append, List.length_drop, List.length_take, hgb, hcl] <;> omega) | decide) only [go_sem, ↓reduceIte, Nat.reduceEqDiff, reduceCtorEq, Nat.reduceLT, Nat.reduceBEq, Nat.reduceAdd, Nat.reduceSub, Nat.reduceMul, Nat.reduceMod, Int.reduceMod, Int.reduceToNat, Int.reduceNeg, h39, h39e, hcE]
  refine hK4 _ ?_
  clear hK4 K4
  refine Tr.kp [0, 5, 6, 7, 15] ?_
  simp only [pk_cons, pk_nil, ↓A_cons, ↓reduceIte, Nat.reduceEqDiff, reduceCtorEq]
  refine Tr.condG fun KT KF hT hF => ?_
  simp only [ev_tmp, ev_const, ↓A_cons, ↓reduceIte, Nat.reduceEqDiff, reduceCtorEq, condG_bool, GB_true, GB_false, decide_eq_true_eq]
  refine hF ?_
  clear hT hF KT KF
  refine Tr.skip ?_
  refine hK3 _ ?_
  clear hK3 K3
  refine Tr.kp [0, 5, 6] ?_
  simp only [pk_cons, pk_nil, ↓A_cons, ↓reduceIte, Nat.reduceEqDiff, reduceCtorEq]
  refine Tr.seqK fun K5 hK5 => ?_
  -- region 4 (ref.go:110)
  refine Tr.rg hcx [1000023, 1000026] _ [] rfl rfl rfl ?_
  simp -implicitDefEqProofs (maxSteps := 2000000) (disch := first | omega | (simp only [go_sem, List.length_append, List.length_drop, List.length_take, hgb, hcl] <;> omega) | decide) only [go_sem, ↓reduceIte, Nat.reduceEqDiff, reduceCtorEq, Nat.reduceLT, Nat.reduceBEq, Nat.reduceAdd, Nat.reduceSub, Nat.reduceMul, Nat.reduceMod, Int.reduceMod, Int.reduceToNat, Int.reduceNeg, h39, h39e, hcE]
  refine hK5 _ ?_
  clear hK5 K5
  refine Tr.kp [2, 3, 4] ?_
  simp only [pk_cons, pk_nil, ↓A_cons, ↓reduceIte, Nat.reduceEqDiff, reduceCtorEq]
  refine Tr.ret ?_
  simp -implicitDefEqProofs (disch := first | omega | (simp only [go_sem, List.length_append, List.length_drop, List.length_take, hgb, hcl] <;> omega) | decide) only [go_sem, ↓reduceIte, Nat.reduceEqDiff, reduceCtorEq]
  all_goals (first | (rw [getB_1 hcE]; done) | (rw [getB_1 hcE]; simp only [Nat.add_sub_cancel_left]) | (rw [getB_2 hcE]; try rfl))
 ·
  have hok := True.intro
  -- region 1 (ref.go:106)
  refine Tr.rg hcx [1000011, 1000012, 1000013] _ [] rfl rfl rfl ?_
  simp -implicitDefEqProofs (maxSteps := 2000000) (disch := first | omega | (simp only [go_sem, List.length_append, List.length_drop, List.length_take, hgb, hcl] <;> omega) | decide) only [go_sem, ↓reduceIte, Nat.reduceEqDiff, reduceCtorEq, Nat.reduceLT, Nat.reduceBEq, Nat.reduceAdd, Nat.reduceSub, Nat.reduceMul, Nat.reduceMod, Int.reduceMod, Int.reduceToNat, Int.reduceNeg, h39, h39e, hcE]
  refine hK2 _ ?_
  clear hK2 K2
  refine Tr.kp [0, 5, 6, 7] ?_
  simp only [pk_cons, pk_nil, ↓A_cons, ↓reduceIte, Nat.reduceEqDiff, reduceCtorEq]
  refine Tr.seqK fun K6 hK6 => ?_
  refine Tr.seqK fun K7 hK7 => ?_
  -- region 2 (ref.go:107)
  refine Tr.rg hcx [] _ [] rfl rfl rfl ?_
  simp -implicitDefEqProofs (maxSteps := 2000000) (disch := first | omega | (simp only [go_sem, List.length_append, List.length_drop, List.length_take, hgb, hcl] <;> omega) | decide) only [go_sem, ↓reduceIte, Nat.reduceEqDiff, reduceCtorEq, Nat.reduceLT, Nat.reduceBEq, Nat.reduceAdd, Nat.reduceSub, Nat.reduceMul, Nat.reduceMod, Int.reduceMod, Int.reduceToNat, Int.reduceNeg, h39, h39e, hcE]
  refine hK7 _ ?_
  clear hK7 K7
  refine Tr.kp [0, 5, 6, 7, 15] ?_
  simp only [pk_cons, pk_nil, ↓A_cons, ↓reduceIte, Nat.reduceEqDiff, reduceCtorEq]
  refine Tr.condG fun KT KF hT hF => ?_
  simp only [ev_tmp, ev_const, ↓A_cons, ↓reduceIte, Nat.reduceEqDiff, reduceCtorEq, condG_bool, GB_true, GB_false, decide_eq_true_eq]
  refine hT ?_
  clear hT hF KT KF
  refine Tr.seqK fun K8 hK8 => ?_
  -- region 3 (ref.go:108)
  refine Tr.rg hcx [1000016] _ [] rfl rfl rfl ?_
  simp -implicitDefEqProofs (maxSteps := 2000000) (disch := first | omega | (simp only [go_sem, List.length_append, List.length_drop, List.length_take, hgb, hcl] <;> omega) | decide) only [go_sem, ↓reduceIte, Nat.reduceEqDiff, reduceCtorEq, Nat.reduceLT, Nat.reduceBEq, Nat.reduceAdd, Nat.reduceSub, Nat.reduceMul, Nat.reduceMod, Int.reduceMod, Int.reduceToNat, Int.reduceNeg, h39, h39e, hcE]
  refine hK8 _ ?_
  clear hK8 K8
  refine Tr.kp [2, 3, 4] ?_
  simp only [pk_cons, pk_nil, ↓A_cons, ↓reduceIte, Nat.reduceEqDiff, reduceCtorEq]
  refine Tr.ret ?_
  simp -implicitDefEqProofs (disch := first | omega | (simp only [go_sem, List.length_append, List.length_drop, List.length_take, hgb, hcl] <;> omega) | decide) only [go_sem, ↓reduceIte, Nat.reduceEqDiff, reduceCtorEq]
  all_goals (first | (rw [getB_1 hcE]; done) | (rw [getB_1 hcE]; simp only [Nat.add_sub_cancel_left]) | (rw [getB_2 hcE]; try rfl))

set_option maxRecDepth 100000 in
set_option maxHeartbeats 8000000 in
theorem fc29 {gl : Nat → C} {M : Nat} {pu : Nat → List C → Option C}  (hcx : CxOK (cxP gl M pu)) (h39 : ∀ (b : List UInt8) (s : Nat), b.length < 1099511627776 ∧ 0 < s ∧ s ≤ 16 ∧ cntE b s = 0 → pu 39 [sl bC .no b, .val (nI s)] = some (.tup [.val (nI (cn b)), .val (nI (ca b)), .val (nI 0)])) (h39e : ∀ (b : List UInt8) (s : Nat), b.length < 1099511627776 ∧ 0 < s ∧ s ≤ 16 ∧ ¬ cntE b s = 0 → pu 39 [sl bC .no b, .val (nI s)] = some (.tup [.val (nI 0), .val (nI 0), .val (nI (cntE b s))])) (h25 : ∀ b : List UInt8, b.length < 1099511627776 → pu 25 [sl bC .no b] = some (.tup [.val (.int .i64 (getI b).1), .val (nI (getI b).2.1), .val (nI (getI b).2.2)])) (b : List UInt8) (hb : b.length < 1099511627776) : FC Try.prog gl 29 [sl bC .no b] [] (.tup [sl iC .no (getL getI 1 b).1, .val (nI (getL getI 1 b).2.1), .val (nI (getL getI 1 b).2.2)]) [] := by
 replace hcx := hcx.reN (M := 47)
 refine FC.ofA (cx := cxP gl 47 pu) (rs := [.tmp 2, .tmp 3, .tmp 4]) rfl Try.func29 rfl rfl rfl (by simp only [List.length_cons, List.length_nil]; decide) (by simp only [go_sem]) ?_
 simp only [ini, go_sem]
 have hgb := getI_bd b
 have hcl := cnt_le b 1
 refine Tr.seqK fun K1 hK1 => ?_
 -- region 0 (ref.go:123)
 refine Tr.rg hcx [] _ [] rfl rfl rfl ?_
 simp -implicitDefEqProofs (maxSteps := 2000000) (disch := first | omega | (simp only [go_sem, List.length_append, List.length_drop, List.length_take, hgb, hcl] <;> omega) | decide) only [go_sem, ↓reduceIte, Nat.reduceEqDiff, reduceCtorEq, Nat.reduceLT, Nat.reduceBEq, Nat.reduceAdd, Nat.reduceSub, Nat.reduceMul, Nat.reduceMod, Int.reduceMod, Int.reduceToNat, Int.reduceNeg, h39, h39e, h25]
 refine hK1 _ ?_
 clear hK1 K1
 refine Tr.kp [0] ?_
 simp only [pk_cons, pk_nil, ↓A_cons, ↓reduceIte, Nat.reduceEqDiff, reduceCtorEq]
 refine Tr.seqK fun K2 hK2 => ?_
 by_cases hcE : cntE b 1 = 0
 ·
  have hok := cnt_ok (by decide) hcE
  -- region 1 (ref.go:124)
  refine Tr.rg hcx [1000016, 1000017, 1000018] _ [] rfl rfl rfl ?_
  simp -implicitDefEqProofs (maxSteps := 2000000) (disch := first | omega | (simp only [go_sem, List.length_append, List.length_drop, List.length_take, hgb, hcl] <;> omega) | decide) only [go_sem, ↓reduceIte, Nat.reduceEqDiff, reduceCtorEq, Nat.reduceLT, Nat.reduceBEq, Nat.reduceAdd, Nat.reduceSub, Nat.reduceMul, Nat.reduceMod, Int.reduceMod, Int.reduceToNat, Int.reduceNeg, h39, h39e, h25, hcE]
  refine hK2 _ ?_
  clear hK2 K2
  refine Tr.kp [0, 5, 6, 7] ?_
  simp only [pk_cons, pk_nil, ↓A_cons, ↓reduceIte, Nat.reduceEqDiff, reduceCtorEq]
  refine Tr.seqK fun K3 hK3 => ?_
  refine Tr.seqK fun K4 hK4 => ?_
  -- region 2 (ref.go:125)
  refine Tr.rg hcx [] _ [] rfl rfl rfl ?_
  simp -implicitDefEqProofs (maxSteps := 2000000) (disch := first | omega | (simp only [go_sem, List.length_append, List.length_drop, List.length_take, hgb, hcl] <;> omega) | decide) only [go_sem, ↓reduceIte, Nat.reduceEqDiff, reduceCtorEq, Nat.reduceLT, Nat.reduceBEq, Nat.reduceAdd, Nat.reduceSub, Nat.reduceMul, Nat.reduceMod, Int.reduceMod, Int.reduceToNat, Int.reduceNeg, h39, h39e, h25, hcE]
  refine hK4 _ ?_
  clear hK4 K4
  refine Tr.kp [0, 5, 6, 7, 20] ?_
  simp only [pk_cons, pk_nil, ↓A_cons, ↓reduceIte, Nat.reduceEqDiff, reduceCtorEq]
  refine Tr.condG fun KT KF hT hF => ?_
  simp only [ev_tmp, ev_const, ↓A_cons, ↓reduceIte, Nat.reduceEqDiff, reduceCtorEq, condG_bool, GB_true, GB_false, decide_eq_true_eq]
  refine hF ?_
  clear hT hF KT KF
  refine Tr.skip ?_
  refine hK3 _ ?_
  clear hK3 K3
  refine Tr.kp [0, 5, 6] ?_
  simp only [pk_cons, pk_nil, ↓A_cons, ↓reduceIte, Nat.reduceEqDiff, reduceCtorEq]
  refine Tr.seqK fun K5 hK5 => ?_
  -- region 4 (ref.go:128)
  refine Tr.rg hcx [] _ [] rfl rfl rfl ?_
  simp -implicitDefEqProofs (maxSteps := 2000000) (disch := first | omega | (simp only [go_sem, List.length_append, List.length_drop, List.length_take, hgb, hcl] <;> omega) | decide) only [go_sem, ↓reduceIte, Nat.reduceEqDiff, reduceCtorEq, Nat.reduceLT, Nat.reduceBEq, Nat.reduceAdd, Nat.reduceSub, Nat.reduceMul, Nat.reduceMod, Int.reduceMod, Int.reduceToNat, Int.reduceNeg, h39, h39e, h25, hcE]
  refine hK5 _ ?_
  clear hK5 K5
  refine Tr.kp [0, 5, 6, 8] ?_
  simp only [pk_cons, pk_nil, ↓A_cons, ↓reduceIte, Nat.reduceEqDiff, reduceCtorEq]
  refine Tr.seqK fun K6 hK6 => ?_
  refine Tr.seqK fun K7 hK7 => ?_
  -- region 5 (ref.go:129)
  refine Tr.rg hcx [] _ [] rfl rfl rfl ?_
  simp -implicitDefEqProofs (maxSteps := 2000000) (disch := first | omega | (simp only [go_sem, List.length_append, List.length_drop, List.length_take, hgb, hcl] <;> omega) | decide) only [go_sem, ↓reduceIte, Nat.reduceEqDiff, reduceCtorEq, Nat.reduceLT, Nat.reduceBEq, Nat.reduceAdd, Nat.reduceSub, Nat.reduceMul, Nat.reduceMod, Int.reduceMod, Int.reduceToNat, Int.reduceNeg, h39, h39e, h25, hcE]
  refine hK7 _ ?_
  clear hK7 K7
  refine Tr.kp [0, 5, 6, 8, 9] ?_
  simp only [pk_cons, pk_nil, ↓A_cons, ↓reduceIte, Nat.reduceEqDiff, reduceCtorEq]
  refine Tr.blk ?_
  refine Tr.loopI (α := (Nat × Nat × List Int)) (fun a => [(0, ?v0_132), (5, ?v5_132), (6, .val (nI a.2.1)), (8, sl iC (.own 1) a.2.2), (9, .val (nI a.1))]) (fun a => ?h_132) (fun a => a.1 ≤ cn b ∧ a.2.1 ≤ b.length ∧ a.2.2.length = a.1 ∧ lst getI b (cn b - a.1) a.2.1 a.2.2 = lst getI b (cn b) (ca b) []) (fun a => cn b - a.1) ((0, ca b, [])) ?_ ?le_132 ?hh_132 ?bd_132
  case hh_132 => exact rfl
  case le_132 => (simp only [Le_nil, Le_cons, ↓A_cons, ↓reduceIte, Nat.reduceEqDiff, reduceCtorEq, CLe_refl, CLe_top, CLe_full, CLe_nil, CLe_own, and_true, true_and]; all_goals (repeat' first | exact CLe.refl _ | exact True.intro | (refine CLe_sln ?_; first | with_reducible rfl | (simp only [List.take_zero]; done) | (rfl; done)) | exact CLe_nI (by omega) | exact CLe_int (by omega) | exact CLe_inI (by omega) | exact CLe_nIi (by omega) | with_reducible apply And.intro))
  · exact ⟨Nat.zero_le _, hok.2.2.2.2.1, rfl, rfl⟩
  case bd_132 =>
   rintro ⟨i, p, l⟩ ⟨hi, hp, hll, hst⟩
   dsimp only at *
   have hbd := getI_bd (b.drop p)
   rw [List.length_drop] at hbd
   refine Tr.seqK fun K8 hK8 => ?_
   refine Tr.seqK fun K9 hK9 => ?_
   -- region 6 (ref.go:129)
   refine Tr.rg hcx [] _ [] rfl rfl rfl ?_
   simp -implicitDefEqProofs (maxSteps := 2000000) (disch := first | omega | (simp only [go_sem, List.length_append, List.length_drop, List.length_take, hgb, hcl] <;> omega) | decide) only [go_sem, ↓reduceIte, Nat.reduceEqDiff, reduceCtorEq, Nat.reduceLT, Nat.reduceBEq, Nat.reduceAdd, Nat.reduceSub, Nat.reduceMul, Nat.reduceMod, Int.reduceMod, Int.reduceToNat, Int.reduceNeg, h39, h39e, h25, hcE]
   refine hK9 _ ?_
   clear hK9 K9
   refine Tr.kp [0, 5, 6, 8, 9, 24] ?_
   simp only [pk_cons, pk_nil, ↓A_cons, ↓reduceIte, Nat.reduceEqDiff, reduceCtorEq]
   refine Tr.condG fun KT KF hT hF => ?_
   simp only [ev_tmp, ev_const, ↓A_cons, ↓reduceIte, Nat.reduceEqDiff, reduceCtorEq, condG_bool, GB_true, GB_false, decide_eq_true_eq]
   refine GB.dec (fun hc24 => hT ?_) (fun hc24 => hF ?_)
   ·
    clear hT hF KT KF
    refine Tr.skip ?_
    refine hK8 _ ?_
    clear hK8 K8
    refine Tr.kp [0, 5, 6, 8, 9] ?_
    simp only [pk_cons, pk_nil, ↓A_cons, ↓reduceIte, Nat.reduceEqDiff, reduceCtorEq]
    refine Tr.seqK fun K10 hK10 => ?_
    refine Tr.blk ?_
    refine Tr.seqK fun K11 hK11 => ?_
    -- region 8 (ref.go:130)
    refine Tr.rg hcx [1000032, 1000033, 1000034] _ [] rfl rfl rfl ?_
    simp -implicitDefEqProofs (maxSteps := 2000000) (disch := first | omega | (simp only [go_sem, List.length_append, List.length_drop, List.length_take, hgb, hcl] <;> omega) | decide) only [go_sem, ↓reduceIte, Nat.reduceEqDiff, reduceCtorEq, Nat.reduceLT, Nat.reduceBEq, Nat.reduceAdd, Nat.reduceSub, Nat.reduceMul, Nat.reduceMod, Int.reduceMod, Int.reduceToNat, Int.reduceNeg, h39, h39e, h25, hcE]
    refine hK11 _ ?_
    clear hK11 K11
    refine Tr.kp [0, 5, 6, 8, 9, 10, 11, 12] ?_
    simp only [pk_cons, pk_nil, ↓A_cons, ↓reduceIte, Nat.reduceEqDiff, reduceCtorEq]
    refine Tr.seqK fun K12 hK12 => ?_
    refine Tr.seqK fun K13 hK13 => ?_
    -- region 9 (ref.go:131)
    refine Tr.rg hcx [] _ [] rfl rfl rfl ?_
    simp -implicitDefEqProofs (maxSteps := 2000000) (disch := first | omega | (simp only [go_sem, List.length_append, List.length_drop, List.length_take, hgb, hcl] <;> omega) | decide) only [go_sem, ↓reduceIte, Nat.reduceEqDiff, reduceCtorEq, Nat.reduceLT, Nat.reduceBEq, Nat.reduceAdd, Nat.reduceSub, Nat.reduceMul, Nat.reduceMod, Int.reduceMod, Int.reduceToNat, Int.reduceNeg, h39, h39e, h25, hcE]
    refine hK13 _ ?_
    clear hK13 K13
    refine Tr.kp [0, 5, 6, 8, 9, 10, 11, 12, 36] ?_
    simp only [pk_cons, pk_nil, ↓A_cons, ↓reduceIte, Nat.reduceEqDiff, reduceCtorEq]
    refine Tr.condG fun KT KF hT hF => ?_
    simp only [ev_tmp, ev_const, ↓A_cons, ↓reduceIte, Nat.reduceEqDiff, reduceCtorEq, condG_bool, GB_true, GB_false, decide_eq_true_eq]
    refine GB.dec (fun hc36 => hT ?_) (fun hc36 => hF ?_)
    ·
     clear hT hF KT KF
     refine Tr.seqK fun K14 hK14 => ?_
     -- region 10 (ref.go:132)
     refine Tr.rg hcx [1000037] _ [] rfl rfl rfl ?_
     simp -implicitDefEqProofs (maxSteps := 2000000) (disch := first | omega | (simp only [go_sem, List.length_append, List.length_drop, List.length_take, hgb, hcl] <;> omega) | decide) only [go_sem, ↓reduceIte, Nat.reduceEqDiff, reduceCtorEq, Nat.reduceLT, Nat.reduceBEq, Nat.reduceAdd, Nat.reduceSub, Nat.reduceMul, Nat.reduceMod, Int.reduceMod, Int.reduceToNat, Int.reduceNeg, h39, h39e, h25, hcE]
     refine hK14 _ ?_
     clear hK14 K14
     refine Tr.kp [2, 3, 4] ?_
     simp only [pk_cons, pk_nil, ↓A_cons, ↓reduceIte, Nat.reduceEqDiff, reduceCtorEq]
     first | refine Tr.nil3 iC .no (by decide) (by decide) (by decide) ?_ | skip
     refine Tr.ret ?_
     simp -implicitDefEqProofs (disch := first | omega | (simp only [go_sem, List.length_append, List.length_drop, List.length_take, hgb, hcl] <;> omega) | decide) only [go_sem, ↓reduceIte, Nat.reduceEqDiff, reduceCtorEq]
     all_goals (first | (rw [getL_1 hcE, ← hst, lst_e (by omega) hc36]; try rfl) | (rw [getL_1 hcE, ← hst]; try rfl) | (rw [getL_2 hcE]; try rfl))
    ·
     clear hT hF KT KF
     refine Tr.skip ?_
     refine hK12 _ ?_
     clear hK12 K12
     refine Tr.kp [0, 5, 6, 8, 9, 10, 11] ?_
     simp only [pk_cons, pk_nil, ↓A_cons, ↓reduceIte, Nat.reduceEqDiff, reduceCtorEq]
     refine Tr.seqK fun K15 hK15 => ?_
     -- region 11 (ref.go:134)
     refine Tr.rg hcx [38, 1000041] _ [] rfl rfl rfl ?_
     simp -implicitDefEqProofs (maxSteps := 2000000) (disch := first | omega | (simp only [go_sem, List.length_append, List.length_drop, List.length_take, hgb, hcl] <;> omega) | decide) only [go_sem, ↓reduceIte, Nat.reduceEqDiff, reduceCtorEq, Nat.reduceLT, Nat.reduceBEq, Nat.reduceAdd, Nat.reduceSub, Nat.reduceMul, Nat.reduceMod, Int.reduceMod, Int.reduceToNat, Int.reduceNeg, h39, h39e, h25, hcE]
     refine hK15 _ ?_
     clear hK15 K15
     refine Tr.kp [0, 5, 6, 8, 9, 11] ?_
     simp only [pk_cons, pk_nil, ↓A_cons, ↓reduceIte, Nat.reduceEqDiff, reduceCtorEq]
     -- region 12 (ref.go:135)
     refine Tr.rg hcx [1000044] _ [] rfl rfl rfl ?_
     simp -implicitDefEqProofs (maxSteps := 2000000) (disch := first | omega | (simp only [go_sem, List.length_append, List.length_drop, List.length_take, hgb, hcl] <;> omega) | decide) only [go_sem, ↓reduceIte, Nat.reduceEqDiff, reduceCtorEq, Nat.reduceLT, Nat.reduceBEq, Nat.reduceAdd, Nat.reduceSub, Nat.reduceMul, Nat.reduceMod, Int.reduceMod, Int.reduceToNat, Int.reduceNeg, h39, h39e, h25, hcE]
     refine hK10 _ ?_
     clear hK10 K10
     refine Tr.kp [0, 5, 6, 8, 9] ?_
     simp only [pk_cons, pk_nil, ↓A_cons, ↓reduceIte, Nat.reduceEqDiff, reduceCtorEq]
     -- region 7 (ref.go:129)
     refine Tr.rg hcx [1000026] _ [] rfl rfl rfl ?_
     simp -implicitDefEqProofs (maxSteps := 2000000) (disch := first | omega | (simp only [go_sem, List.length_append, List.length_drop, List.length_take, hgb, hcl] <;> omega) | decide) only [go_sem, ↓reduceIte, Nat.reduceEqDiff, reduceCtorEq, Nat.reduceLT, Nat.reduceBEq, Nat.reduceAdd, Nat.reduceSub, Nat.reduceMul, Nat.reduceMod, Int.reduceMod, Int.reduceToNat, Int.reduceNeg, h39, h39e, h25, hcE]
     refine ⟨(i + 1, p + (getI (b.drop p)).2.1, l ++ [(getI (b.drop p)).1]), ⟨⟨by show i + 1 ≤ cn b; omega, by show p + (getI (b.drop p)).2.1 ≤ b.length; omega, by show (l ++ [(getI (b.drop p)).1]).length = i + 1; rw [List.length_append, hll]; rfl, (lst_s hc24 (Classical.not_not.1 hc36)).symm.trans hst⟩, by first | omega | (simp only []; omega)⟩, ?_, rfl⟩
     (simp only [Le_nil, Le_cons, ↓A_cons, ↓reduceIte, Nat.reduceEqDiff, reduceCtorEq, CLe_refl, CLe_top, CLe_full, CLe_nil, CLe_own, and_true, true_and]; all_goals (repeat' first | exact CLe.refl _ | exact True.intro | (refine CLe_sln ?_; first | with_reducible rfl | (simp only [List.take_zero]; done) | (rfl; done)) | exact CLe_nI (by omega) | exact CLe_int (by omega) | exact CLe_inI (by omega) | exact CLe_nIi (by omega) | with_reducible apply And.intro))
   ·
    clear hT hF KT KF
    have hie : i = cn b := by omega
    rw [hie, Nat.sub_self, lst_0] at hst
    refine Tr.exit ?_
    refine hK6 _ ?_
    clear hK8 K8 hK6 K6
    refine Tr.kp [6, 8] ?_
    simp only [pk_cons, pk_nil, ↓A_cons, ↓reduceIte, Nat.reduceEqDiff, reduceCtorEq]
    refine Tr.seqK fun K16 hK16 => ?_
    -- region 13 (ref.go:137)
    refine Tr.rg hcx [1000045, 1000046] _ [] rfl rfl rfl ?_
    simp -implicitDefEqProofs (maxSteps := 2000000) (disch := first | omega | (simp only [go_sem, List.length_append, List.length_drop, List.length_take, hgb, hcl] <;> omega) | decide) only [go_sem, ↓reduceIte, Nat.reduceEqDiff, reduceCtorEq, Nat.reduceLT, Nat.reduceBEq, Nat.reduceAdd, Nat.reduceSub, Nat.reduceMul, Nat.reduceMod, Int.reduceMod, Int.reduceToNat, Int.reduceNeg, h39, h39e, h25, hcE]
    refine hK16 _ ?_
    clear hK16 K16
    refine Tr.kp [2, 3, 4] ?_
    simp only [pk_cons, pk_nil, ↓A_cons, ↓reduceIte, Nat.reduceEqDiff, reduceCtorEq]
    first | refine Tr.nil3 iC .no (by decide) (by decide) (by decide) ?_ | skip
    refine Tr.ret ?_
    simp -implicitDefEqProofs (disch := first | omega | (simp only [go_sem, List.length_append, List.length_drop, List.length_take, hgb, hcl] <;> omega) | decide) only [go_sem, ↓reduceIte, Nat.reduceEqDiff, reduceCtorEq]
    all_goals (first | (rw [getL_1 hcE, ← hst, lst_e (by omega) hc36]; try rfl) | (rw [getL_1 hcE, ← hst]; try rfl) | (rw [getL_2 hcE]; try rfl))
 ·
  have hok := True.intro
  -- region 1 (ref.go:124)
  refine Tr.rg hcx [1000016, 1000017, 1000018] _ [] rfl rfl rfl ?_
  simp -implicitDefEqProofs (maxSteps := 2000000) (disch := first | omega | (simp only [go_sem, List.length_append, List.length_drop, List.length_take, hgb, hcl] <;> omega) | decide) only [go_sem, ↓reduceIte, Nat.reduceEqDiff, reduceCtorEq, Nat.reduceLT, Nat.reduceBEq, Nat.reduceAdd, Nat.reduceSub, Nat.reduceMul, Nat.reduceMod, Int.reduceMod, Int.reduceToNat, Int.reduceNeg, h39, h39e, h25, hcE]
  refine hK2 _ ?_
  clear hK2 K2
  refine Tr.kp [0, 5, 6, 7] ?_
  simp only [pk_cons, pk_nil, ↓A_cons, ↓reduceIte, Nat.reduceEqDiff, reduceCtorEq]
  refine Tr.seqK fun K17 hK17 => ?_
  refine Tr.seqK fun K18 hK18 => ?_
  -- region 2 (ref.go:125)
  refine Tr.rg hcx [] _ [] rfl rfl rfl ?_
  simp -implicitDefEqProofs (maxSteps := 2000000) (disch := first | omega | (simp only [go_sem, List.length_append, List.length_drop, List.length_take, hgb, hcl] <;> omega) | decide) only [go_sem, ↓reduceIte, Nat.reduceEqDiff, reduceCtorEq, Nat.reduceLT, Nat.reduceBEq, Nat.reduceAdd, Nat.reduceSub, Nat.reduceMul, Nat.reduceMod, Int.reduceMod, Int.reduceToNat, Int.reduceNeg, h39, h39e, h25, hcE]
  refine hK18 _ ?_
  clear hK18 K18
  refine Tr.kp [0, 5, 6, 7, 20] ?_
  simp only [pk_cons, pk_nil, ↓A_cons, ↓reduceIte, Nat.reduceEqDiff, reduceCtorEq]
  refine Tr.condG fun KT KF hT hF => ?_
  simp only [ev_tmp, ev_const, ↓A_cons, ↓reduceIte, Nat.reduceEqDiff, reduceCtorEq, condG_bool, GB_true, GB_false, decide_eq_true_eq]
  refine hT ?_
  clear hT hF KT KF
  refine Tr.seqK fun K19 hK19 => ?_
  -- region 3 (ref.go:126)
  refine Tr.rg hcx [1000021] _ [] rfl rfl rfl ?_
  simp -implicitDefEqProofs (maxSteps := 2000000) (disch := first | omega | (simp only [go_sem, List.length_append, List.length_drop, List.length_take, hgb, hcl] <;> omega) | decide) only [go_sem, ↓reduceIte, Nat.reduceEqDiff, reduceCtorEq, Nat.reduceLT, Nat.reduceBEq, Nat.reduceAdd, Nat.reduceSub, Nat.reduceMul, Nat.reduceMod, Int.reduceMod, Int.reduceToNat, Int.reduceNeg, h39, h39e, h25, hcE]
  refine hK19 _ ?_
  clear hK19 K19
  refine Tr.kp [2, 3, 4] ?_
  simp only [pk_cons, pk_nil, ↓A_cons, ↓reduceIte, Nat.reduceEqDiff, reduceCtorEq]
  first | refine Tr.nil3 iC .no (by decide) (by decide) (by decide) ?_ | skip
  refine Tr.ret ?_
  simp -implicitDefEqProofs (disch := first | omega | (simp only [go_sem, List.length_append, List.length_drop, List.length_take, hgb, hcl] <;> omega) | decide) only [go_sem, ↓reduceIte, Nat.reduceEqDiff, reduceCtorEq]
  all_goals (first | (rw [getL_1 hcE, ← hst, lst_e (by omega) hc36]; try rfl) | (rw [getL_1 hcE, ← hst]; try rfl) | (rw [getL_2 hcE]; try rfl))

set_option maxRecDepth 100000 in
set_option maxHeartbeats 8000000 in
theorem fc32 {gl : Nat → C} {M : Nat} {pu : Nat → List C → Option C}  (hcx : CxOK (cxP gl M pu)) (h39 : ∀ (b : List UInt8) (s : Nat), b.length < 1099511627776 ∧ 0 < s ∧ s ≤ 16 ∧ cntE b s = 0 → pu 39 [sl bC .no b, .val (nI s)] = some (.tup [.val (nI (cn b)), .val (nI (ca b)), .val (nI 0)])) (h39e : ∀ (b : List UInt8) (s : Nat), b.length < 1099511627776 ∧ 0 < s ∧ s ≤ 16 ∧ ¬ cntE b s = 0 → pu 39 [sl bC .no b, .val (nI s)] = some (.tup [.val (nI 0), .val (nI 0), .val (nI (cntE b s))])) (h27 : ∀ b : List UInt8, b.length < 1099511627776 → pu 27 [sl bC .no b] = some (.tup [.val (str (getB b).1), .val (nI (getB b).2.1), .val (nI (getB b).2.2)])) (b : List UInt8) (hb : b.length < 1099511627776) : FC Try.prog gl 32 [sl bC .no b] [] (.tup [sl sC .no (getL getB 1 b).1, .val (nI (getL getB 1 b).2.1), .val (nI (getL getB 1 b).2.2)]) [] := by
 replace hcx := hcx.reN (M := 47)
 refine FC.ofA (cx := cxP gl 47 pu) (rs := [.tmp 2, .tmp 3, .tmp 4]) rfl Try.func32 rfl rfl rfl (by simp only [List.length_cons, List.length_nil]; decide) (by simp only [go_sem]) ?_
 simp only [ini, go_sem]
 have hgb := getI_bd b
 have hcl := cnt_le b 1
 refine Tr.seqK fun K1 hK1 => ?_
 -- region 0 (ref.go:150)
 refine Tr.rg hcx [] _ [] rfl rfl rfl ?_
 simp -implicitDefEqProofs (maxSteps := 2000000) (disch := first | omega | (simp only [go_sem, List.length_append, List.length_drop, List.length_take, hgb, hcl] <;> omega) | decide) only [go_sem, ↓reduceIte, Nat.reduceEqDiff, reduceCtorEq, Nat.reduceLT, Nat.reduceBEq, Nat.reduceAdd, Nat.reduceSub, Nat.reduceMul, Nat.reduceMod, Int.reduceMod, Int.reduceToNat, Int.reduceNeg, h39, h39e, h27]
 refine hK1 _ ?_
 clear hK1 K1
 refine Tr.kp [0] ?_
 simp only [pk_cons, pk_nil, ↓A_cons, ↓reduceIte, Nat.reduceEqDiff, reduceCtorEq]
 refine Tr.seqK fun K2 hK2 => ?_
 by_cases hcE : cntE b 1 = 0
 ·
  have hok := cnt_ok (by decide) hcE
  -- region 1 (ref.go:151)
  refine Tr.rg hcx [1000016, 1000017, 1000018] _ [] rfl rfl rfl ?_
  simp -implicitDefEqProofs (maxSteps := 2000000) (disch := first | omega | (simp only [go_sem, List.length_append, List.length_drop, List.length_take, hgb, hcl] <;> omega) | decide) only [go_sem, ↓reduceIte, Nat.reduceEqDiff, reduceCtorEq, Nat.reduceLT, Nat.reduceBEq, Nat.reduceAdd, Nat.reduceSub, Nat.reduceMul, Nat.reduceMod, Int.reduceMod, Int.reduceToNat, Int.reduceNeg, h39, h39e, h27, hcE]
  refine hK2 _ ?_
  clear hK2 K2
  refine Tr.kp [0, 5, 6, 7] ?_
  simp only [pk_cons, pk_nil, ↓A_cons, ↓reduceIte, Nat.reduceEqDiff, reduceCtorEq]
  refine Tr.seqK fun K3 hK3 => ?_
  refine Tr.seqK fun K4 hK4 => ?_
  -- region 2 (ref.go:152)
  refine Tr.rg hcx [] _ [] rfl rfl rfl ?_
  simp -implicitDefEqProofs (maxSteps := 2000000) (disch := first | omega | (simp only [go_sem, List.length_append, List.length_drop, List.length_take, hgb, hcl] <;> omega) | decide) only [go_sem, ↓reduceIte, Nat.reduceEqDiff, reduceCtorEq, Nat.reduceLT, Nat.reduceBEq, Nat.reduceAdd, Nat.reduceSub, Nat.reduceMul, Nat.reduceMod, Int.reduceMod, Int.reduceToNat, Int.reduceNeg, h39, h39e, h27, hcE]
  refine hK4 _ ?_
  clear hK4 K4
  refine Tr.kp [0, 5, 6, 7, 20] ?_
  simp only [pk_cons, pk_nil, ↓A_cons, ↓reduceIte, Nat.reduceEqDiff, reduceCtorEq]
  refine Tr.condG fun KT KF hT hF => ?_
  simp only [ev_tmp, ev_const, ↓A_cons, ↓reduceIte, Nat.reduceEqDiff, reduceCtorEq, condG_bool, GB_true, GB_false, decide_eq_true_eq]
  refine hF ?_
  clear hT hF KT KF
  refine Tr.skip ?_
  refine hK3 _ ?_
  clear hK3 K3
  refine Tr.kp [0, 5, 6] ?_
  simp only [pk_cons, pk_nil, ↓A_cons, ↓reduceIte, Nat.reduceEqDiff, reduceCtorEq]
  refine Tr.seqK fun K5 hK5 => ?_
  -- region 4 (ref.go:155)
  refine Tr.rg hcx [] _ [] rfl rfl rfl ?_
  simp -implicitDefEqProofs (maxSteps := 2000000) (disch := first | omega | (simp only [go_sem, List.length_append, List.length_drop, List.length_take, hgb, hcl] <;> omega) | decide) only [go_sem, ↓reduceIte, Nat.reduceEqDiff, reduceCtorEq, Nat.reduceLT, Nat.reduceBEq, Nat.reduceAdd, Nat.reduceSub, Nat.reduceMul, Nat.reduceMod, Int.reduceMod, Int.reduceToNat, Int.reduceNeg, h39, h39e, h27, hcE]
  refine hK5 _ ?_
  clear hK5 K5
  refine Tr.kp [0, 5, 6, 8] ?_
  simp only [pk_cons, pk_nil, ↓A_cons, ↓reduceIte, Nat.reduceEqDiff, reduceCtorEq]
  refine Tr.seqK fun K6 hK6 => ?_
  refine Tr.seqK fun K7 hK7 => ?_
  -- region 5 (ref.go:156)
  refine Tr.rg hcx [] _ [] rfl rfl rfl ?_
  simp -implicitDefEqProofs (maxSteps := 2000000) (disch := first | omega | (simp only [go_sem, List.length_append, List.length_drop, List.length_take, hgb, hcl] <;> omega) | decide) only [go_sem, ↓reduceIte, Nat.reduceEqDiff, reduceCtorEq, Nat.reduceLT, Nat.reduceBEq, Nat.reduceAdd, Nat.reduceSub, Nat.reduceMul, Nat.reduceMod, Int.reduceMod, Int.reduceToNat, Int.reduceNeg, h39, h39e, h27, hcE]
  refine hK7 _ ?_
  clear hK7 K7
  refine Tr.kp [0, 5, 6, 8, 9] ?_
  simp only [pk_cons, pk_nil, ↓A_cons, ↓reduceIte, Nat.reduceEqDiff, reduceCtorEq]
  refine Tr.blk ?_
  refine Tr.loopI (α := (Nat × Nat × List (List UInt8))) (fun a => [(0, ?v0_176), (5, ?v5_176), (6, .val (nI a.2.1)), (8, sl sC (.own 1) a.2.2), (9, .val (nI a.1))]) (fun a => ?h_176) (fun a => a.1 ≤ cn b ∧ a.2.1 ≤ b.length ∧ a.2.2.length = a.1 ∧ lst getB b (cn b - a.1) a.2.1 a.2.2 = lst getB b (cn b) (ca b) []) (fun a => cn b - a.1) ((0, ca b, [])) ?_ ?le_176 ?hh_176 ?bd_176
  case hh_176 => exact rfl
  case le_176 => (simp only [Le_nil, Le_cons, ↓A_cons, ↓reduceIte, Nat.reduceEqDiff, reduceCtorEq, CLe_refl, CLe_top, CLe_full, CLe_nil, CLe_own, and_true, true_and]; all_goals (repeat' first | exact CLe.refl _ | exact True.intro | (refine CLe_sln ?_; first | with_reducible rfl | (simp only [List.take_zero]; done) | (rfl; done)) | exact CLe_nI (by omega) | exact CLe_int (by omega) | exact CLe_inI (by omega) | exact CLe_nIi (by omega) | with_reducible apply And.intro))
  · exact ⟨Nat.zero_le _, hok.2.2.2.2.1, rfl, rfl⟩
  case bd_176 =>
   rintro ⟨i, p, l⟩ ⟨hi, hp, hll, hst⟩
   dsimp only at *
   have hbd := getB_bd (b.drop p)
   rw [List.length_drop] at hbd
   refine Tr.seqK fun K8 hK8 => ?_
   refine Tr.seqK fun K9 hK9 => ?_
   -- region 6 (ref.go:156)
   refine Tr.rg hcx [] _ [] rfl rfl rfl ?_
   simp -implicitDefEqProofs (maxSteps := 2000000) (disch := first | omega | (simp only [go_sem, List.length_append, List.length_drop, List.length_take, hgb, hcl] <;> omega) | decide) only [go_sem, ↓reduceIte, Nat.reduceEqDiff, reduceCtorEq, Nat.reduceLT, Nat.reduceBEq, Nat.reduceAdd, Nat.reduceSub, Nat.reduceMul, Nat.reduceMod, Int.reduceMod, Int.reduceToNat, Int.reduceNeg, h39, h39e, h27, hcE]
   refine hK9 _ ?_
   clear hK9 K9
   refine Tr.kp [0, 5, 6, 8, 9, 24] ?_
   simp only [pk_cons, pk_nil, ↓A_cons, ↓reduceIte, Nat.reduceEqDiff, reduceCtorEq]
   refine Tr.condG fun KT KF hT hF => ?_
   simp only [ev_tmp, ev_const, ↓A_cons, ↓reduceIte, Nat.reduceEqDiff, reduceCtorEq, condG_bool, GB_true, GB_false, decide_eq_true_eq]
   refine GB.dec (fun hc24 => hT ?_) (fun hc24 => hF ?_)
   ·
    clear hT hF KT KF
    refine Tr.skip ?_
    refine hK8 _ ?_
    clear hK8 K8
    refine Tr.kp [0, 5, 6, 8, 9] ?_
    simp only [pk_cons, pk_nil, ↓A_cons, ↓reduceIte, Nat.reduceEqDiff, reduceCtorEq]
    refine Tr.seqK fun K10 hK10 => ?_
    refine Tr.blk ?_
    refine Tr.seqK fun K11 hK11 => ?_
    -- region 8 (ref.go:157)
    refine Tr.rg hcx [1000032, 1000033, 1000034] _ [] rfl rfl rfl ?_
    simp -implicitDefEqProofs (maxSteps := 2000000) (disch := first | omega | (simp only [go_sem, List.length_append, List.length_drop, List.length_take, hgb, hcl] <;> omega) | decide) only [go_sem, ↓reduceIte, Nat.reduceEqDiff, reduceCtorEq, Nat.reduceLT, Nat.reduceBEq, Nat.reduceAdd, Nat.reduceSub, Nat.reduceMul, Nat.reduceMod, Int.reduceMod, Int.reduceToNat, Int.reduceNeg, h39, h39e, h27, hcE]
    refine hK11 _ ?_
    clear hK11 K11
    refine Tr.kp [0, 5, 6, 8, 9, 10, 11, 12] ?_
    simp only [pk_cons, pk_nil, ↓A_cons, ↓reduceIte, Nat.reduceEqDiff, reduceCtorEq]
    refine Tr.seqK fun K12 hK12 => ?_
    refine Tr.seqK fun K13 hK13 => ?_
    -- region 9 (ref.go:158)
    refine Tr.rg hcx [] _ [] rfl rfl rfl ?_
    simp -implicitDefEqProofs (maxSteps := 2000000) (disch := first | omega | (simp only [go_sem, List.length_append, List.length_drop, List.length_take, hgb, hcl] <;> omega) | decide) only [go_sem, ↓reduceIte, Nat.reduceEqDiff, reduceCtorEq, Nat.reduceLT, Nat.reduceBEq, Nat.reduceAdd, Nat.reduceSub, Nat.reduceMul, Nat.reduceMod, Int.reduceMod, Int.reduceToNat, Int.reduceNeg, h39, h39e, h27, hcE]
    refine hK13 _ ?_
    clear hK13 K13
    refine Tr.kp [0, 5, 6, 8, 9, 10, 11, 12, 36] ?_
    simp only [pk_cons, pk_nil, ↓A_cons, ↓reduceIte, Nat.reduceEqDiff, reduceCtorEq]
    refine Tr.condG fun KT KF hT hF => ?_
    simp only [ev_tmp, ev_const, ↓A_cons, ↓reduceIte, Nat.reduceEqDiff, reduceCtorEq, condG_bool, GB_true, GB_false, decide_eq_true_eq]
    refine GB.dec (fun hc36 => hT ?_) (fun hc36 => hF ?_)
    ·
     clear hT hF KT KF
     refine Tr.seqK fun K14 hK14 => ?_
     -- region 10 (ref.go:159)
     refine Tr.rg hcx [1000037] _ [] rfl rfl rfl ?_
     simp -implicitDefEqProofs (maxSteps := 2000000) (disch := first | omega | (simp only [go_sem, List.length_append, List.length_drop, List.length_take, hgb, hcl] <;> omega) | decide) only [go_sem, ↓reduceIte, Nat.reduceEqDiff, reduceCtorEq, Nat.reduceLT, Nat.reduceBEq, Nat.reduceAdd, Nat.reduceSub, Nat.reduceMul, Nat.reduceMod, Int.reduceMod, Int.reduceToNat, Int.reduceNeg, h39, h39e, h27, hcE]
     refine hK14 _ ?_
     clear hK14 K14
     refine Tr.kp [2, 3, 4] ?_
     simp only [pk_cons, pk_nil, ↓A_cons, ↓reduceIte, Nat.reduceEqDiff, reduceCtorEq]
     first | refine Tr.nil3 sC .no (by decide) (by decide) (by decide) ?_ | skip
     refine Tr.ret ?_
     simp -implicitDefEqProofs (disch := first | omega | (simp only [go_sem, List.length_append, List.length_drop, List.length_take, hgb, hcl] <;> omega) | decide) only [go_sem, ↓reduceIte, Nat.reduceEqDiff, reduceCtorEq]
     all_goals (first | (rw [getL_1 hcE, ← hst, lst_e (by omega) hc36]; try rfl) | (rw [getL_1 hcE, ← hst]; try rfl) | (rw [getL_2 hcE]; try rfl))
    ·
     clear hT hF KT KF
     refine Tr.skip ?_
     refine hK12 _ ?_
     clear hK12 K12
     refine Tr.kp [0, 5, 6, 8, 9, 10, 11] ?_
     simp only [pk_cons, pk_nil, ↓A_cons, ↓reduceIte, Nat.reduceEqDiff, reduceCtorEq]
     refine Tr.seqK fun K15 hK15 => ?_
     -- region 11 (ref.go:161)
     refine Tr.rg hcx [38, 1000041] _ [] rfl rfl rfl ?_
     simp -implicitDefEqProofs (maxSteps := 2000000) (disch := first | omega | (simp only [go_sem, List.length_append, List.length_drop, List.length_take, hgb, hcl] <;> omega) | decide) only [go_sem, ↓reduceIte, Nat.reduceEqDiff, reduceCtorEq, Nat.reduceLT, Nat.reduceBEq, Nat.reduceAdd, Nat.reduceSub, Nat.reduceMul, Nat.reduceMod, Int.reduceMod, Int.reduceToNat, Int.reduceNeg, h39, h39e, h27, hcE]
     refine hK15 _ ?_
     clear hK15 K15
     refine Tr.kp [0, 5, 6, 8, 9, 11] ?_
     simp only [pk_cons, pk_nil, ↓A_cons, ↓reduceIte, Nat.reduceEqDiff, reduceCtorEq]
     -- region 12 (ref.go:162)
     refine Tr.rg hcx [1000044] _ [] rfl rfl rfl ?_
     simp -implicitDefEqProofs (maxSteps := 2000000) (disch := first | omega | (simp only [go_sem, List.length_append, List.length_drop, List.length_take, hgb, hcl] <;> omega) | decide) only [go_sem, ↓reduceIte, Nat.reduceEqDiff, reduceCtorEq, Nat.reduceLT, Nat.reduceBEq, Nat.reduceAdd, Nat.reduceSub, Nat.reduceMul, Nat.reduceMod, Int.reduceMod, Int.reduceToNat, Int.reduceNeg, h39, h39e, h27, hcE]
     refine hK10 _ ?_
     clear hK10 K10
     refine Tr.kp [0, 5, 6, 8, 9] ?_
     simp only [pk_cons, pk_nil, ↓A_cons, ↓reduceIte, Nat.reduceEqDiff, reduceCtorEq]
     -- region 7 (ref.go:156)
     refine Tr.rg hcx [1000026] _ [] rfl rfl rfl ?_
     simp -implicitDefEqProofs (maxSteps := 2000000) (disch := first | omega | (simp only [go_sem, List.length_append, List.length_drop, List.length_take, hgb, hcl] <;> omega) | decide) only [go_sem, ↓reduceIte, Nat.reduceEqDiff, reduceCtorEq, Nat.reduceLT, Nat.reduceBEq, Nat.reduceAdd, Nat.reduceSub, Nat.reduceMul, Nat.reduceMod, Int.reduceMod, Int.reduceToNat, Int.reduceNeg, h39, h39e, h27, hcE]
     refine ⟨(i + 1, p + (getB (b.drop p)).2.1, l ++ [(getB (b.drop p)).1]), ⟨⟨by show i + 1 ≤ cn b; omega, by show p + (getB (b.drop p)).2.1 ≤ b.length; omega, by show (l ++ [(getB (b.drop p)).1]).length = i + 1; rw [List.length_append, hll]; rfl, (lst_s hc24 (Classical.not_not.1 hc36)).symm.trans hst⟩, by first | omega | (simp only []; omega)⟩, ?_, rfl⟩
     (simp only [Le_nil, Le_cons, ↓A_cons, ↓reduceIte, Nat.reduceEqDiff, reduceCtorEq, CLe_refl, CLe_top, CLe_full, CLe_nil, CLe_own, and_true, true_and]; all_goals (repeat' first | exact CLe.refl _ | exact True.intro | (refine CLe_sln ?_; first | with_reducible rfl | (simp only [List.take_zero]; done) | (rfl; done)) | exact CLe_nI (by omega) | exact CLe_int (by omega) | exact CLe_inI (by omega) | exact CLe_nIi (by omega) | with_reducible apply And.intro))
   ·
    clear hT hF KT KF
    have hie : i = cn b := by omega
    rw [hie, Nat.sub_self, lst_0] at hst
    refine Tr.exit ?_
    refine hK6 _ ?_
    clear hK8 K8 hK6 K6
    refine Tr.kp [6, 8] ?_
    simp only [pk_cons, pk_nil, ↓A_cons, ↓reduceIte, Nat.reduceEqDiff, reduceCtorEq]
    refine Tr.seqK fun K16 hK16 => ?_
    -- region 13 (ref.go:164)
    refine Tr.rg hcx [1000045, 1000046] _ [] rfl rfl rfl ?_
    simp -implicitDefEqProofs (maxSteps := 2000000) (disch := first | omega | (simp only [go_sem, List.length_append, List.length_drop, List.length_take, hgb, hcl] <;> omega) | decide) only [go_sem, ↓reduceIte, Nat.reduceEqDiff, reduceCtorEq, Nat.reduceLT, Nat.reduceBEq, Nat.reduceAdd, Nat.reduceSub, Nat.reduceMul, Nat.reduceMod, Int.reduceMod, Int.reduceToNat, Int.reduceNeg, h39, h39e, h27, hcE]
    refine hK16 _ ?_
    clear hK16 K16
    refine Tr.kp [2, 3, 4] ?_
    simp only [pk_cons, pk_nil, ↓A_cons, ↓reduceIte, Nat.reduceEqDiff, reduceCtorEq]
    first | refine Tr.nil3 sC .no (by decide) (by decide) (by decide) ?_ | skip
    refine Tr.ret ?_
    simp -implicitDefEqProofs (disch := first | omega | (simp only [go_sem, List.length_append, List.length_drop, List.length_take, hgb, hcl] <;> omega) | decide) only [go_sem, ↓reduceIte, Nat.reduceEqDiff, reduceCtorEq]
    all_goals (first | (rw [getL_1 hcE, ← hst, lst_e (by omega) hc36]; try rfl) | (rw [getL_1 hcE, ← hst]; try rfl) | (rw [getL_2 hcE]; try rfl))
 ·
  have hok := True.intro
  -- region 1 (ref.go:151)
  refine Tr.rg hcx [1000016, 1000017, 1000018] _ [] rfl rfl rfl ?_
  simp -implicitDefEqProofs (maxSteps := 2000000) (disch := first | omega | (simp only [go_sem, List.length_append, List.length_drop, List.length_take, hgb, hcl] <;> omega) | decide) only [go_sem, ↓reduceIte, Nat.reduceEqDiff, reduceCtorEq, Nat.reduceLT, Nat.reduceBEq, Nat.reduceAdd, Nat.reduceSub, Nat.reduceMul, Nat.reduceMod, Int.reduceMod, Int.reduceToNat, Int.reduceNeg, h39, h39e, h27, hcE]
  refine hK2 _ ?_
  clear hK2 K2
  refine Tr.kp [0, 5, 6, 7] ?_
  simp only [pk_cons, pk_nil, ↓A_cons, ↓reduceIte, Nat.reduceEqDiff, reduceCtorEq]
  refine Tr.seqK fun K17 hK17 => ?_
  refine Tr.seqK fun K18 hK18 => ?_
  -- region 2 (ref.go:152)
  refine Tr.rg hcx [] _ [] rfl rfl rfl ?_
  simp -implicitDefEqProofs (maxSteps := 2000000) (disch := first | omega | (simp only [go_sem, List.length_append, List.length_drop, List.length_take, hgb, hcl] <;> omega) | decide) only [go_sem, ↓reduceIte, Nat.reduceEqDiff, reduceCtorEq, Nat.reduceLT, Nat.reduceBEq, Nat.reduceAdd, Nat.reduceSub, Nat.reduceMul, Nat.reduceMod, Int.reduceMod, Int.reduceToNat, Int.reduceNeg, h39, h39e, h27, hcE]
  refine hK18 _ ?_
  clear hK18 K18
  refine Tr.kp [0, 5, 6, 7, 20] ?_
  simp only [pk_cons, pk_nil, ↓A_cons, ↓reduceIte, Nat.reduceEqDiff, reduceCtorEq]
  refine Tr.condG fun KT KF hT hF => ?_
  simp only [ev_tmp, ev_const, ↓A_cons, ↓reduceIte, Nat.reduceEqDiff, reduceCtorEq, condG_bool, GB_true, GB_false, decide_eq_true_eq]
  refine hT ?_
  clear hT hF KT KF
  refine Tr.seqK fun K19 hK19 => ?_
  -- region 3 (ref.go:153)
  refine Tr.rg hcx [1000021] _ [] rfl rfl rfl ?_
  simp -implicitDefEqProofs (maxSteps := 2000000) (disch := first | omega | (simp only [go_sem, List.length_append, List.length_drop, List.length_take, hgb, hcl] <;> omega) | decide) only [go_sem, ↓reduceIte, Nat.reduceEqDiff, reduceCtorEq, Nat.reduceLT, Nat.reduceBEq, Nat.reduceAdd, Nat.reduceSub, Nat.reduceMul, Nat.reduceMod, Int.reduceMod, Int.reduceToNat, Int.reduceNeg, h39, h39e, h27, hcE]
  refine hK19 _ ?_
  clear hK19 K19
  refine Tr.kp [2, 3, 4] ?_
  simp only [pk_cons, pk_nil, ↓A_cons, ↓reduceIte, Nat.reduceEqDiff, reduceCtorEq]
  first | refine Tr.nil3 sC .no (by decide) (by decide) (by decide) ?_ | skip
  refine Tr.ret ?_
  simp -implicitDefEqProofs (disch := first | omega | (simp only [go_sem, List.length_append, List.length_drop, List.length_take, hgb, hcl] <;> omega) | decide) only [go_sem, ↓reduceIte, Nat.reduceEqDiff, reduceCtorEq]
  all_goals (first | (rw [getL_1 hcE, ← hst, lst_e (by omega) hc36]; try rfl) | (rw [getL_1 hcE, ← hst]; try rfl) | (rw [getL_2 hcE]; try rfl))

set_option maxRecDepth 100000 in
set_option maxHeartbeats 8000000 in
theorem fc31 {gl : Nat → C} {M : Nat} {pu : Nat → List C → Option C}  (hcx : CxOK (cxP gl M pu)) (h38 : ∀ (b : List UInt8) (s : Nat), b.length < 1099511627776 ∧ 0 < s ∧ s ≤ 16 ∧ cntE b s = 0 → pu 38 [sl bC .no b, .val (nI s)] = some (.tup [.val (nI (cn b)), .val (nI (ca b)), .val (nI 0)])) (h38e : ∀ (b : List UInt8) (s : Nat), b.length < 1099511627776 ∧ 0 < s ∧ s ≤ 16 ∧ ¬ cntE b s = 0 → pu 38 [sl bC .no b, .val (nI s)] = some (.tup [.val (.int .i64 (getI b).1), .val (nI (getI b).2.1), .val (nI (cntE b s))])) (h26 : ∀ b : List UInt8, b.length < 1099511627776 → pu 26 [sl bC .no b] = some (.tup [.val (str (getB b).1), .val (nI (getB b).2.1), .val (nI (getB b).2.2)])) (b : List UInt8) (hb : b.length < 1099511627776) : FC Try.prog gl 31 [sl bC .no b] [] (.tup [sl sC .no (getL getB 1 b).1, .val (nI (getL getB 1 b).2.1), .val (nI (getL getB 1 b).2.2)]) [] := by
 replace hcx := hcx.reN (M := 45)
 refine FC.ofA (cx := cxP gl 45 pu) (rs := [.tmp 2, .tmp 3, .tmp 4]) rfl Try.func31 rfl rfl rfl (by simp only [List.length_cons, List.length_nil]; decide) (by simp only [go_sem]) ?_
 simp only [ini, go_sem]
 have hgb := getI_bd b
 have hcl := cnt_le b 1
 refine Tr.seqK fun K1 hK1 => ?_
 -- region 0 (wire.go:134)
 refine Tr.rg hcx [] _ [] rfl rfl rfl ?_
 simp -implicitDefEqProofs (maxSteps := 2000000) (disch := first | omega | (simp only [go_sem, List.length_append, List.length_drop, List.length_take, hgb, hcl] <;> omega) | decide) only [go_sem, ↓reduceIte, Nat.reduceEqDiff, reduceCtorEq, Nat.reduceLT, Nat.reduceBEq, Nat.reduceAdd, Nat.reduceSub, Nat.reduceMul, Nat.reduceMod, Int.reduceMod, Int.reduceToNat, Int.reduceNeg, h38, h38e, h26]
 refine hK1 _ ?_
 clear hK1 K1
 refine Tr.kp [0] ?_
 simp only [pk_cons, pk_nil, ↓A_cons, ↓reduceIte, Nat.reduceEqDiff, reduceCtorEq]
 refine Tr.seqK fun K2 hK2 => ?_
 by_cases hcE : cntE b 1 = 0
 ·
  have hok := cnt_ok (by decide) hcE
  -- region 1 (wire.go:135)
  refine Tr.rg hcx [1000015, 1000016, 1000017] _ [] rfl rfl rfl ?_
  simp -implicitDefEqProofs (maxSteps := 2000000) (disch := first | omega | (simp only [go_sem, List.length_append, List.length_drop, List.length_take, hgb, hcl] <;> omega) | decide) only [go_sem, ↓reduceIte, Nat.reduceEqDiff, reduceCtorEq, Nat.reduceLT, Nat.reduceBEq, Nat.reduceAdd, Nat.reduceSub, Nat.reduceMul, Nat.reduceMod, Int.reduceMod, Int.reduceToNat, Int.reduceNeg, h38, h38e, h26, hcE]
  refine hK2 _ ?_
  clear hK2 K2
  refine Tr.kp [0, 5, 6, 7] ?_
  simp only [pk_cons, pk_nil, ↓A_cons, ↓reduceIte, Nat.reduceEqDiff, reduceCtorEq]
  refine Tr.seqK fun K3 hK3 => ?_
  refine Tr.seqK fun K4 hK4 => ?_
  -- region 2 (wire.go:136)
  refine Tr.rg hcx [] _ [] rfl rfl rfl ?_
  simp -implicitDefEqProofs (maxSteps := 2000000) (disch := first | omega | (simp only [go_sem, List.length_append, List.length_drop, List.length_take, hgb, hcl] <;> omega) | decide) only [go_sem, ↓reduceIte, Nat.reduceEqDiff, reduceCtorEq, Nat.reduceLT, Nat.reduceBEq, Nat.reduceAdd, Nat.reduceSub, Nat.reduceMul, Nat.reduceMod, Int.reduceMod, Int.reduceToNat, Int.reduceNeg, h38, h38e, h26, hcE]
  refine hK4 _ ?_
  clear hK4 K4
  refine Tr.kp [0, 5, 6, 7, 19] ?_
  simp only [pk_cons, pk_nil, ↓A_cons, ↓reduceIte, Nat.reduceEqDiff, reduceCtorEq]
  refine Tr.condG fun KT KF hT hF => ?_
  simp only [ev_tmp, ev_const, ↓A_cons, ↓reduceIte, Nat.reduceEqDiff, reduceCtorEq, condG_bool, GB_true, GB_false, decide_eq_true_eq]
  refine hF ?_
  clear hT hF KT KF
  refine Tr.skip ?_
  refine hK3 _ ?_
  clear hK3 K3
  refine Tr.kp [0, 5, 6] ?_
  simp only [pk_cons, pk_nil, ↓A_cons, ↓reduceIte, Nat.reduceEqDiff, reduceCtorEq]
  refine Tr.seqK fun K5 hK5 => ?_
  -- region 4 (wire.go:139)
  refine Tr.rg hcx [] _ [] rfl rfl rfl ?_
  simp -implicitDefEqProofs (maxSteps := 2000000) (disch := first | omega | (simp only [go_sem, List.length_append, List.length_drop, List.length_take, hgb, hcl] <;> omega) | decide) only [go_sem, ↓reduceIte, Nat.reduceEqDiff, reduceCtorEq, Nat.reduceLT, Nat.reduceBEq, Nat.reduceAdd, Nat.reduceSub, Nat.reduceMul, Nat.reduceMod, Int.reduceMod, Int.reduceToNat, Int.reduceNeg, h38, h38e, h26, hcE]
  refine hK5 _ ?_
  clear hK5 K5
  refine Tr.kp [0, 5, 6, 8] ?_
  simp only [pk_cons, pk_nil, ↓A_cons, ↓reduceIte, Nat.reduceEqDiff, reduceCtorEq]
  refine Tr.seqK fun K6 hK6 => ?_
  refine Tr.seqK fun K7 hK7 => ?_
  -- region 5 (wire.go:140)
  refine Tr.rg hcx [] _ [] rfl rfl rfl ?_
  simp -implicitDefEqProofs (maxSteps := 2000000) (disch := first | omega | (simp only [go_sem, List.length_append, List.length_drop, List.length_take, hgb, hcl] <;> omega) | decide) only [go_sem, ↓reduceIte, Nat.reduceEqDiff, reduceCtorEq, Nat.reduceLT, Nat.reduceBEq, Nat.reduceAdd, Nat.reduceSub, Nat.reduceMul, Nat.reduceMod, Int.reduceMod, Int.reduceToNat, Int.reduceNeg, h38, h38e, h26, hcE]
  refine hK7 _ ?_
  clear hK7 K7
  refine Tr.kp [0, 6, 8, 21, 22] ?_
  simp only [pk_cons, pk_nil, ↓A_cons, ↓reduceIte, Nat.reduceEqDiff, reduceCtorEq]
  refine Tr.blk ?_
  refine Tr.loopI (α := (Nat × Nat × List (List UInt8))) (fun a => [(0, ?v0_220), (6, .val (nI a.2.1)), (8, sl sC (.own 1) a.2.2), (21, ?v21_220), (22, .val (nI a.1))]) (fun a => ?h_220) (fun a => a.1 ≤ cn b ∧ a.2.1 ≤ b.length ∧ a.2.2.length = a.1 ∧ lst getB b (cn b - a.1) a.2.1 a.2.2 = lst getB b (cn b) (ca b) []) (fun a => cn b - a.1) ((0, ca b, [])) ?_ ?le_220 ?hh_220 ?bd_220
  case hh_220 => exact rfl
  case le_220 => (simp only [Le_nil, Le_cons, ↓A_cons, ↓reduceIte, Nat.reduceEqDiff, reduceCtorEq, CLe_refl, CLe_top, CLe_full, CLe_nil, CLe_own, and_true, true_and]; all_goals (repeat' first | exact CLe.refl _ | exact True.intro | (refine CLe_sln ?_; first | with_reducible rfl | (simp only [List.take_zero]; done) | (rfl; done)) | exact CLe_nI (by omega) | exact CLe_int (by omega) | exact CLe_inI (by omega) | exact CLe_nIi (by omega) | with_reducible apply And.intro))
  · exact ⟨Nat.zero_le _, hok.2.2.2.2.1, rfl, rfl⟩
  case bd_220 =>
   rintro ⟨i, p, l⟩ ⟨hi, hp, hll, hst⟩
   dsimp only at *
   have hbd := getB_bd (b.drop p)
   rw [List.length_drop] at hbd
   refine Tr.seqK fun K8 hK8 => ?_
   -- region 6 (wire.go:140)
   refine Tr.rg hcx [] _ [] rfl rfl rfl ?_
   simp -implicitDefEqProofs (maxSteps := 2000000) (disch := first | omega | (simp only [go_sem, List.length_append, List.length_drop, List.length_take, hgb, hcl] <;> omega) | decide) only [go_sem, ↓reduceIte, Nat.reduceEqDiff, reduceCtorEq, Nat.reduceLT, Nat.reduceBEq, Nat.reduceAdd, Nat.reduceSub, Nat.reduceMul, Nat.reduceMod, Int.reduceMod, Int.reduceToNat, Int.reduceNeg, h38, h38e, h26, hcE]
   refine hK8 _ ?_
   clear hK8 K8
   refine Tr.kp [0, 6, 8, 21, 22, 23] ?_
   simp only [pk_cons, pk_nil, ↓A_cons, ↓reduceIte, Nat.reduceEqDiff, reduceCtorEq]
   refine Tr.seqK fun K9 hK9 => ?_
   refine Tr.condG fun KT KF hT hF => ?_
   simp only [ev_tmp, ev_const, ↓A_cons, ↓reduceIte, Nat.reduceEqDiff, reduceCtorEq, condG_bool, GB_true, GB_false, decide_eq_true_eq]
   refine GB.dec (fun hc23 => hT ?_) (fun hc23 => hF ?_)
   ·
    clear hT hF KT KF
    refine Tr.skip ?_
    refine hK9 _ ?_
    clear hK9 K9
    refine Tr.kp [0, 6, 8, 21, 22] ?_
    simp only [pk_cons, pk_nil, ↓A_cons, ↓reduceIte, Nat.reduceEqDiff, reduceCtorEq]
    refine Tr.seqK fun K10 hK10 => ?_
    refine Tr.blk ?_
    refine Tr.seqK fun K11 hK11 => ?_
    -- region 7 (wire.go:141)
    refine Tr.rg hcx [1000029, 1000030, 1000031] _ [] rfl rfl rfl ?_
    simp -implicitDefEqProofs (maxSteps := 2000000) (disch := first | omega | (simp only [go_sem, List.length_append, List.length_drop, List.length_take, hgb, hcl] <;> omega) | decide) only [go_sem, ↓reduceIte, Nat.reduceEqDiff, reduceCtorEq, Nat.reduceLT, Nat.reduceBEq, Nat.reduceAdd, Nat.reduceSub, Nat.reduceMul, Nat.reduceMod, Int.reduceMod, Int.reduceToNat, Int.reduceNeg, h38, h38e, h26, hcE]
    refine hK11 _ ?_
    clear hK11 K11
    refine Tr.kp [0, 6, 8, 9, 10, 11, 21, 22] ?_
    simp only [pk_cons, pk_nil, ↓A_cons, ↓reduceIte, Nat.reduceEqDiff, reduceCtorEq]
    refine Tr.seqK fun K12 hK12 => ?_
    refine Tr.seqK fun K13 hK13 => ?_
    -- region 8 (wire.go:142)
    refine Tr.rg hcx [] _ [] rfl rfl rfl ?_
    simp -implicitDefEqProofs (maxSteps := 2000000) (disch := first | omega | (simp only [go_sem, List.length_append, List.length_drop, List.length_take, hgb, hcl] <;> omega) | decide) only [go_sem, ↓reduceIte, Nat.reduceEqDiff, reduceCtorEq, Nat.reduceLT, Nat.reduceBEq, Nat.reduceAdd, Nat.reduceSub, Nat.reduceMul, Nat.reduceMod, Int.reduceMod, Int.reduceToNat, Int.reduceNeg, h38, h38e, h26, hcE]
    refine hK13 _ ?_
    clear hK13 K13
    refine Tr.kp [0, 6, 8, 9, 10, 11, 21, 22, 33] ?_
    simp only [pk_cons, pk_nil, ↓A_cons, ↓reduceIte, Nat.reduceEqDiff, reduceCtorEq]
    refine Tr.condG fun KT KF hT hF => ?_
    simp only [ev_tmp, ev_const, ↓A_cons, ↓reduceIte, Nat.reduceEqDiff, reduceCtorEq, condG_bool, GB_true, GB_false, decide_eq_true_eq]
    refine GB.dec (fun hc33 => hT ?_) (fun hc33 => hF ?_)
    ·
     clear hT hF KT KF
     refine Tr.seqK fun K14 hK14 => ?_
     -- region 9 (wire.go:143)
     refine Tr.rg hcx [1000034] _ [] rfl rfl rfl ?_
     simp -implicitDefEqProofs (maxSteps := 2000000) (disch := first | omega | (simp only [go_sem, List.length_append, List.length_drop, List.length_take, hgb, hcl] <;> omega) | decide) only [go_sem, ↓reduceIte, Nat.reduceEqDiff, reduceCtorEq, Nat.reduceLT, Nat.reduceBEq, Nat.reduceAdd, Nat.reduceSub, Nat.reduceMul, Nat.reduceMod, Int.reduceMod, Int.reduceToNat, Int.reduceNeg, h38, h38e, h26, hcE]
     refine hK14 _ ?_
     clear hK14 K14
     refine Tr.kp [2, 3, 4] ?_
     simp only [pk_cons, pk_nil, ↓A_cons, ↓reduceIte, Nat.reduceEqDiff, reduceCtorEq]
     first | refine Tr.nil3 sC .no (by decide) (by decide) (by decide) ?_ | skip
     refine Tr.ret ?_
     simp -implicitDefEqProofs (disch := first | omega | (simp only [go_sem, List.length_append, List.length_drop, List.length_take, hgb, hcl] <;> omega) | decide) only [go_sem, ↓reduceIte, Nat.reduceEqDiff, reduceCtorEq]
     all_goals (first | (rw [getL_1 hcE, ← hst, lst_e (by omega) hc33]; try rfl) | (rw [getL_1 hcE, ← hst]; try rfl) | (rw [getL_2 hcE]; try rfl))
    ·
     clear hT hF KT KF
     refine Tr.skip ?_
     refine hK12 _ ?_
     clear hK12 K12
     refine Tr.kp [0, 6, 8, 9, 10, 21, 22] ?_
     simp only [pk_cons, pk_nil, ↓A_cons, ↓reduceIte, Nat.reduceEqDiff, reduceCtorEq]
     -- region 10 (wire.go:145)
     refine Tr.rg hcx [35, 1000038, 1000041] _ [] rfl rfl rfl ?_
     simp -implicitDefEqProofs (maxSteps := 2000000) (disch := first | omega | (simp only [go_sem, List.length_append, List.length_drop, List.length_take, hgb, hcl] <;> omega) | decide) only [go_sem, ↓reduceIte, Nat.reduceEqDiff, reduceCtorEq, Nat.reduceLT, Nat.reduceBEq, Nat.reduceAdd, Nat.reduceSub, Nat.reduceMul, Nat.reduceMod, Int.reduceMod, Int.reduceToNat, Int.reduceNeg, h38, h38e, h26, hcE]
     refine hK10 _ ?_
     clear hK10 K10
     refine Tr.kp [0, 6, 8, 21, 22] ?_
     simp only [pk_cons, pk_nil, ↓A_cons, ↓reduceIte, Nat.reduceEqDiff, reduceCtorEq]
     -- region 11 (wire.go:140)
     refine Tr.rg hcx [] _ [] rfl rfl rfl ?_
     simp -implicitDefEqProofs (maxSteps := 2000000) (disch := first | omega | (simp only [go_sem, List.length_append, List.length_drop, List.length_take, hgb, hcl] <;> omega) | decide) only [go_sem, ↓reduceIte, Nat.reduceEqDiff, reduceCtorEq, Nat.reduceLT, Nat.reduceBEq, Nat.reduceAdd, Nat.reduceSub, Nat.reduceMul, Nat.reduceMod, Int.reduceMod, Int.reduceToNat, Int.reduceNeg, h38, h38e, h26, hcE]
     refine ⟨(i + 1, p + (getB (b.drop p)).2.1, l ++ [(getB (b.drop p)).1]), ⟨⟨by show i + 1 ≤ cn b; omega, by show p + (getB (b.drop p)).2.1 ≤ b.length; omega, by show (l ++ [(getB (b.drop p)).1]).length = i + 1; rw [List.length_append, hll]; rfl, (lst_s hc23 (Classical.not_not.1 hc33)).symm.trans hst⟩, by first | omega | (simp only []; omega)⟩, ?_, rfl⟩
     (simp only [Le_nil, Le_cons, ↓A_cons, ↓reduceIte, Nat.reduceEqDiff, reduceCtorEq, CLe_refl, CLe_top, CLe_full, CLe_nil, CLe_own, and_true, true_and]; all_goals (repeat' first | exact CLe.refl _ | exact True.intro | (refine CLe_sln ?_; first | with_reducible rfl | (simp only [List.take_zero]; done) | (rfl; done)) | exact CLe_nI (by omega) | exact CLe_int (by omega) | exact CLe_inI (by omega) | exact CLe_nIi (by omega) | with_reducible apply And.intro))
   ·
    clear hT hF KT KF
    have hie : i = cn b := by omega
    rw [hie, Nat.sub_self, lst_0] at hst
    refine Tr.exit ?_
    refine hK6 _ ?_
    clear hK9 K9 hK6 K6
    refine Tr.kp [6, 8] ?_
    simp only [pk_cons, pk_nil, ↓A_cons, ↓reduceIte, Nat.reduceEqDiff, reduceCtorEq]
    refine Tr.seqK fun K15 hK15 => ?_
    -- region 12 (wire.go:147)
    refine Tr.rg hcx [1000043, 1000044] _ [] rfl rfl rfl ?_
    simp -implicitDefEqProofs (maxSteps := 2000000) (disch := first | omega | (simp only [go_sem, List.length_append, List.length_drop, List.length_take, hgb, hcl] <;> omega) | decide) only [go_sem, ↓reduceIte, Nat.reduceEqDiff, reduceCtorEq, Nat.reduceLT, Nat.reduceBEq, Nat.reduceAdd, Nat.reduceSub, Nat.reduceMul, Nat.reduceMod, Int.reduceMod, Int.reduceToNat, Int.reduceNeg, h38, h38e, h26, hcE]
    refine hK15 _ ?_
    clear hK15 K15
    refine Tr.kp [2, 3, 4] ?_
    simp only [pk_cons, pk_nil, ↓A_cons, ↓reduceIte, Nat.reduceEqDiff, reduceCtorEq]
    first | refine Tr.nil3 sC .no (by decide) (by decide) (by decide) ?_ | skip
    refine Tr.ret ?_
    simp -implicitDefEqProofs (disch := first | omega | (simp only [go_sem, List.length_append, List.length_drop, List.length_take, hgb, hcl] <;> omega) | decide) only [go_sem, ↓reduceIte, Nat.reduceEqDiff, reduceCtorEq]
    all_goals (first | (rw [getL_1 hcE, ← hst, lst_e (by omega) hc33]; try rfl) | (rw [getL_1 hcE, ← hst]; try rfl) | (rw [getL_2 hcE]; try rfl))
 ·
  have hok := True.intro
  -- region 1 (wire.go:135)
  refine Tr.rg hcx [1000015, 1000016, 1000017] _ [] rfl rfl rfl ?_
  simp -implicitDefEqProofs (maxSteps := 2000000) (disch := first | omega | (simp only [go_sem, List.length_append, List.length_drop, List.length_take, hgb, hcl] <;> omega) | decide) only [go_sem, ↓reduceIte, Nat.reduceEqDiff, reduceCtorEq, Nat.reduceLT, Nat.reduceBEq, Nat.reduceAdd, Nat.reduceSub, Nat.reduceMul, Nat.reduceMod, Int.reduceMod, Int.reduceToNat, Int.reduceNeg, h38, h38e, h26, hcE]
  refine hK2 _ ?_
  clear hK2 K2
  refine Tr.kp [0, 5, 6, 7] ?_
  simp only [pk_cons, pk_nil, ↓A_cons, ↓reduceIte, Nat.reduceEqDiff, reduceCtorEq]
  refine Tr.seqK fun K16 hK16 => ?_
  refine Tr.seqK fun K17 hK17 => ?_
  -- region 2 (wire.go:136)
  refine Tr.rg hcx [] _ [] rfl rfl rfl ?_
  simp -implicitDefEqProofs (maxSteps := 2000000) (disch := first | omega | (simp only [go_sem, List.length_append, List.length_drop, List.length_take, hgb, hcl] <;> omega) | decide) only [go_sem, ↓reduceIte, Nat.reduceEqDiff, reduceCtorEq, Nat.reduceLT, Nat.reduceBEq, Nat.reduceAdd, Nat.reduceSub, Nat.reduceMul, Nat.reduceMod, Int.reduceMod, Int.reduceToNat, Int.reduceNeg, h38, h38e, h26, hcE]
  refine hK17 _ ?_
  clear hK17 K17
  refine Tr.kp [0, 5, 6, 7, 19] ?_
  simp only [pk_cons, pk_nil, ↓A_cons, ↓reduceIte, Nat.reduceEqDiff, reduceCtorEq]
  refine Tr.condG fun KT KF hT hF => ?_
  simp only [ev_tmp, ev_const, ↓A_cons, ↓reduceIte, Nat.reduceEqDiff, reduceCtorEq, condG_bool, GB_true, GB_false, decide_eq_true_eq]
  refine hT ?_
  clear hT hF KT KF
  refine Tr.seqK fun K18 hK18 => ?_
  -- region 3 (wire.go:137)
  refine Tr.rg hcx [1000020] _ [] rfl rfl rfl ?_
  simp -implicitDefEqProofs (maxSteps := 2000000) (disch := first | omega | (simp only [go_sem, List.length_append, List.length_drop, List.length_take, hgb, hcl] <;> omega) | decide) only [go_sem, ↓reduceIte, Nat.reduceEqDiff, reduceCtorEq, Nat.reduceLT, Nat.reduceBEq, Nat.reduceAdd, Nat.reduceSub, Nat.reduceMul, Nat.reduceMod, Int.reduceMod, Int.reduceToNat, Int.reduceNeg, h38, h38e, h26, hcE]
  refine hK18 _ ?_
  clear hK18 K18
  refine Tr.kp [2, 3, 4] ?_
  simp only [pk_cons, pk_nil, ↓A_cons, ↓reduceIte, Nat.reduceEqDiff, reduceCtorEq]
  first | refine Tr.nil3 sC .no (by decide) (by decide) (by decide) ?_ | skip
  refine Tr.ret ?_
  simp -implicitDefEqProofs (disch := first | omega | (simp only [go_sem, List.length_append, List.length_drop, List.length_take, hgb, hcl] <;> omega) | decide) only [go_sem, ↓reduceIte, Nat.reduceEqDiff, reduceCtorEq]
  all_goals (first | (rw [getL_1 hcE, ← hst, lst_e (by omega) hc33]; try rfl) | (rw [getL_1 hcE, ← hst]; try rfl) | (rw [getL_2 hcE]; try rfl))

end Go.Sx
