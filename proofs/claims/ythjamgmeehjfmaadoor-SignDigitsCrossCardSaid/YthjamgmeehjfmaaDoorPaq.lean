/-
  Package sign: contracts of package wire. And what follows.
-/
import Derived.Test.YthjamgmeehjfmaaDoorPap
set_option linter.unusedSimpArgs false
set_option linter.unusedVariables false
namespace Go.Sx
open Go.RowKit Go.Proofs
set_option maxRecDepth 100000 in
set_option maxHeartbeats 8000000 in
theorem fc36 {gl : Nat → C} {M : Nat} {pu : Nat → List C → Option C}  (hcx : CxOK (cxP gl M pu)) (b : List UInt8) (hb : b.length < 9223372036854775807) : FC Tryd.prog gl 36 [sl bC .no b] [] (.tup [.val (.int .i64 (getI b).1), .val (nI (getI b).2.1), .val (nI (getI b).2.2)]) [] := by
 replace hcx := hcx.reN (M := 71)
 refine FC.ofA (cx := cxP gl 71 pu) (rs := [.tmp 2, .tmp 3, .tmp 4]) rfl Tryd.func36 rfl rfl rfl (by simp only [List.length_cons, List.length_nil]; decide) (by simp only [go_sem]) ?_
 simp only [ini, go_sem]
 have hb1 := True.intro
 refine Tr.seqK fun K1 hK1 => ?_
 refine Tr.rg hcx [] _ [] rfl rfl rfl ?_
 simp -implicitDefEqProofs (maxSteps := 2000000) (disch := first | omega | (simp only [go_sem, List.length_append, List.length_drop, List.length_take, hb1] <;> omega) | decide) only [go_sem, ↓reduceIte, Nat.reduceEqDiff, reduceCtorEq, Nat.reduceLT, Nat.reduceBEq, Nat.reduceAdd, Nat.reduceSub, Nat.reduceMul, Nat.reduceMod, Nat.add_sub_cancel]
 refine hK1 _ ?_
 clear hK1 K1
 refine Tr.kp [0] ?_
 simp only [pk_cons, pk_nil, ↓A_cons, ↓reduceIte, Nat.reduceEqDiff]
 refine Tr.seqK fun K2 hK2 => ?_
 refine Tr.seqK fun K3 hK3 => ?_
 refine Tr.rg hcx [] _ [] rfl rfl rfl ?_
 simp -implicitDefEqProofs (maxSteps := 2000000) (disch := first | omega | (simp only [go_sem, List.length_append, List.length_drop, List.length_take, hb1] <;> omega) | decide) only [go_sem, ↓reduceIte, Nat.reduceEqDiff, reduceCtorEq, Nat.reduceLT, Nat.reduceBEq, Nat.reduceAdd, Nat.reduceSub, Nat.reduceMul, Nat.reduceMod, Nat.add_sub_cancel]
 refine hK3 _ ?_
 clear hK3 K3
 refine Tr.kp [0, 12] ?_
 simp only [pk_cons, pk_nil, ↓A_cons, ↓reduceIte, Nat.reduceEqDiff]
 refine Tr.condG fun KT KF hT hF => ?_
 simp only [ev_tmp, ev_const, ↓A_cons, ↓reduceIte, Nat.reduceEqDiff, reduceCtorEq, condG_bool, GB_true, GB_false, decide_eq_true_eq]
 refine GB.dec (fun hc12 => hT ?_) (fun hc12 => hF ?_)
 ·
  clear hT hF KT KF
  obtain rfl : b = [] := List.length_eq_zero_iff.1 hc12
  refine Tr.seqK fun K4 hK4 => ?_
  refine Tr.rg hcx [] _ [] rfl rfl rfl ?_
  simp -implicitDefEqProofs (maxSteps := 2000000) (disch := first | omega | (simp only [go_sem, List.length_append, List.length_drop, List.length_take, hb1] <;> omega) | decide) only [go_sem, ↓reduceIte, Nat.reduceEqDiff, reduceCtorEq, Nat.reduceLT, Nat.reduceBEq, Nat.reduceAdd, Nat.reduceSub, Nat.reduceMul, Nat.reduceMod, Nat.add_sub_cancel]
  refine hK4 _ ?_
  clear hK4 K4
  refine Tr.kp [2, 3, 4] ?_
  simp only [pk_cons, pk_nil, ↓A_cons, ↓reduceIte, Nat.reduceEqDiff]
  refine Tr.ret ?_
  simp -implicitDefEqProofs (disch := first | omega | (simp only [go_sem, List.length_append, List.length_drop, List.length_take, hb1] <;> omega) | decide) only [go_sem, ↓reduceIte, Nat.reduceEqDiff, reduceCtorEq]
  all_goals (first | rfl | (rw [hbe, getI_1 hk hc24]; rfl) | (rw [hbe, getI_2 hk hc24 (by rw [← hbe]; exact hc27)]; rfl) | (rw [hbe, getI_3 hk hc24 (by rw [← hbe]; exact hc27) hk0 (by rw [← hbe]; exact hc32)]; rfl) | (rw [hbe, getI_4 hk hc24 (by rw [← hbe]; exact hc27) (by rw [← hbe]; first | exact fun h => hc32 h.2 | exact fun h => hk0 h.1) (by rw [← big63 _ hac2]; exact hc62)]; rfl) | (rw [hbe, getI_5 hk hc24 (by rw [← hbe]; exact hc27) (by rw [← hbe]; first | exact fun h => hc32 h.2 | exact fun h => hk0 h.1) (by rw [← big63 _ hac2]; exact hc62) (by rw [← flip_pos]; exact hc64)]; (rw [show ((18446744073709551615 - accF (flipOf x) (r.take k) : Nat) : Int) - 18446744073709551616 = -1 - (accF (flipOf x) (r.take k) : Int) by omega]; try rfl)) | (rw [hbe, getI_6 hk hc24 (by rw [← hbe]; exact hc27) (by rw [← hbe]; first | exact fun h => hc32 h.2 | exact fun h => hk0 h.1) (by rw [← big63 _ hac2]; exact hc62) (by rw [← flip_pos]; exact hc64)]; rfl))
 ·
  clear hT hF KT KF
  obtain ⟨x, r, hbe⟩ : ∃ x r, b = x :: r := by
    cases b with
    | nil => exact absurd rfl hc12
    | cons x r => exact ⟨x, r, rfl⟩
  have hge := flip_ge x
  have hlt := (x ^^^ flipOf x).toNat_lt
  obtain ⟨k, hk⟩ : ∃ k, kOf x = k := ⟨_, rfl⟩
  have hk2 : (x ^^^ flipOf x).toNat - 128 = k := hk
  have hlen : b.length = r.length + 1 := by rw [hbe]; rfl
  have hx0 : gt b 0 = x := by rw [hbe]; rfl
  have hr : b.drop 1 = r := by rw [hbe]; rfl
  refine Tr.skip ?_
  refine hK2 _ ?_
  clear hK2 K2
  refine Tr.kp [0] ?_
  simp only [pk_cons, pk_nil, ↓A_cons, ↓reduceIte, Nat.reduceEqDiff]
  refine Tr.seqK fun K5 hK5 => ?_
  refine Tr.rg hcx [] _ [] rfl rfl rfl ?_
  simp -implicitDefEqProofs (maxSteps := 2000000) (disch := first | omega | (simp only [go_sem, List.length_append, List.length_drop, List.length_take, hb1] <;> omega) | decide) only [go_sem, ↓reduceIte, Nat.reduceEqDiff, reduceCtorEq, Nat.reduceLT, Nat.reduceBEq, Nat.reduceAdd, Nat.reduceSub, Nat.reduceMul, Nat.reduceMod, Nat.add_sub_cancel]
  refine hK5 _ ?_
  clear hK5 K5
  refine Tr.kp [0, 5] ?_
  simp only [pk_cons, pk_nil, ↓A_cons, ↓reduceIte, Nat.reduceEqDiff]
  refine Tr.seqJ (α := Unit) (fun a => [(0, ?v0_12), (5, .val (w8 (flipOf x)))]) (fun a => []) (fun a => True) ?ja_12 ?jb_12
  case ja_12 =>
   refine Tr.seqK fun K6 hK6 => ?_
   refine Tr.rg hcx [] _ [] rfl rfl rfl ?_
   simp -implicitDefEqProofs (maxSteps := 2000000) (disch := first | omega | (simp only [go_sem, List.length_append, List.length_drop, List.length_take, hb1] <;> omega) | decide) only [go_sem, ↓reduceIte, Nat.reduceEqDiff, reduceCtorEq, Nat.reduceLT, Nat.reduceBEq, Nat.reduceAdd, Nat.reduceSub, Nat.reduceMul, Nat.reduceMod, Nat.add_sub_cancel, hx0]
   refine hK6 _ ?_
   clear hK6 K6
   refine Tr.kp [0, 5, 16] ?_
   simp only [pk_cons, pk_nil, ↓A_cons, ↓reduceIte, Nat.reduceEqDiff]
   refine Tr.condG fun KT KF hT hF => ?_
   simp only [ev_tmp, ev_const, ↓A_cons, ↓reduceIte, Nat.reduceEqDiff, reduceCtorEq, condG_bool, GB_true, GB_false, decide_eq_true_eq]
   refine GB.dec (fun hc16 => hT ?_) (fun hc16 => hF ?_)
   ·
    clear hT hF KT KF
    refine Tr.rg hcx [] _ [] rfl rfl rfl ?_
    simp -implicitDefEqProofs (maxSteps := 2000000) (disch := first | omega | (simp only [go_sem, List.length_append, List.length_drop, List.length_take, hb1] <;> omega) | decide) only [go_sem, ↓reduceIte, Nat.reduceEqDiff, reduceCtorEq, Nat.reduceLT, Nat.reduceBEq, Nat.reduceAdd, Nat.reduceSub, Nat.reduceMul, Nat.reduceMod, Nat.add_sub_cancel]
    refine ⟨(), trivial, ?_, rfl⟩
    (simp only [Le_nil, Le_cons, ↓A_cons, ↓reduceIte, Nat.reduceEqDiff, reduceCtorEq, CLe_refl, CLe_top, CLe_full, CLe_nil, CLe_own, and_true, true_and]; all_goals (repeat' first | exact CLe.refl _ | exact True.intro | (refine CLe_sln ?_; first | with_reducible rfl | (simp only [List.take_zero]; done) | (rfl; done)) | exact CLe_nI (by omega) | exact CLe_int (by omega) | exact CLe_inI (by omega) | exact CLe_nIi (by omega) | with_reducible apply And.intro))
    all_goals (refine CLe_val ?_; show _ = w8 (if x < UInt8.ofNat 128 then UInt8.ofNat 255 else UInt8.ofNat 0); first | rw [if_pos hc16] | rw [if_neg hc16])
   ·
    clear hT hF KT KF
    refine Tr.skip ?_
    refine ⟨(), trivial, ?_, rfl⟩
    (simp only [Le_nil, Le_cons, ↓A_cons, ↓reduceIte, Nat.reduceEqDiff, reduceCtorEq, CLe_refl, CLe_top, CLe_full, CLe_nil, CLe_own, and_true, true_and]; all_goals (repeat' first | exact CLe.refl _ | exact True.intro | (refine CLe_sln ?_; first | with_reducible rfl | (simp only [List.take_zero]; done) | (rfl; done)) | exact CLe_nI (by omega) | exact CLe_int (by omega) | exact CLe_inI (by omega) | exact CLe_nIi (by omega) | with_reducible apply And.intro))
    all_goals (refine CLe_val ?_; show _ = w8 (if x < UInt8.ofNat 128 then UInt8.ofNat 255 else UInt8.ofNat 0); first | rw [if_pos hc16] | rw [if_neg hc16])
  case jb_12 =>
   rintro a ha
   refine Tr.seqK fun K7 hK7 => ?_
   refine Tr.rg hcx [1000023] _ [] rfl rfl rfl ?_
   simp -implicitDefEqProofs (maxSteps := 2000000) (disch := first | omega | (simp only [go_sem, List.length_append, List.length_drop, List.length_take, hb1] <;> omega) | decide) only [go_sem, ↓reduceIte, Nat.reduceEqDiff, reduceCtorEq, Nat.reduceLT, Nat.reduceBEq, Nat.reduceAdd, Nat.reduceSub, Nat.reduceMul, Nat.reduceMod, Nat.add_sub_cancel, hx0, hk2]
   refine hK7 _ ?_
   clear hK7 K7
   refine Tr.kp [0, 5, 6] ?_
   simp only [pk_cons, pk_nil, ↓A_cons, ↓reduceIte, Nat.reduceEqDiff]
   refine Tr.seqK fun K8 hK8 => ?_
   refine Tr.blk ?_
   refine Tr.seqK fun K9 hK9 => ?_
   refine Tr.rg hcx [1000026] _ [] rfl rfl rfl ?_
   simp -implicitDefEqProofs (maxSteps := 2000000) (disch := first | omega | (simp only [go_sem, List.length_append, List.length_drop, List.length_take, hb1] <;> omega) | decide) only [go_sem, ↓reduceIte, Nat.reduceEqDiff, reduceCtorEq, Nat.reduceLT, Nat.reduceBEq, Nat.reduceAdd, Nat.reduceSub, Nat.reduceMul, Nat.reduceMod, Nat.add_sub_cancel]
   refine hK9 _ ?_
   clear hK9 K9
   refine Tr.kp [0, 5, 6, 24] ?_
   simp only [pk_cons, pk_nil, ↓A_cons, ↓reduceIte, Nat.reduceEqDiff]
   refine Tr.condG fun KT KF hT hF => ?_
   simp only [ev_tmp, ev_const, ↓A_cons, ↓reduceIte, Nat.reduceEqDiff, reduceCtorEq, condG_bool, GB_true, GB_false, decide_eq_true_eq]
   refine GB.dec (fun hc24 => hT ?_) (fun hc24 => hF ?_)
   ·
    clear hT hF KT KF
    refine Tr.seqK fun K10 hK10 => ?_
    refine Tr.rg hcx [] _ [] rfl rfl rfl ?_
    simp -implicitDefEqProofs (maxSteps := 2000000) (disch := first | omega | (simp only [go_sem, List.length_append, List.length_drop, List.length_take, hb1] <;> omega) | decide) only [go_sem, ↓reduceIte, Nat.reduceEqDiff, reduceCtorEq, Nat.reduceLT, Nat.reduceBEq, Nat.reduceAdd, Nat.reduceSub, Nat.reduceMul, Nat.reduceMod, Nat.add_sub_cancel]
    refine hK10 _ ?_
    clear hK10 K10
    refine Tr.kp [2, 3, 4] ?_
    simp only [pk_cons, pk_nil, ↓A_cons, ↓reduceIte, Nat.reduceEqDiff]
    refine Tr.ret ?_
    simp -implicitDefEqProofs (disch := first | omega | (simp only [go_sem, List.length_append, List.length_drop, List.length_take, hb1] <;> omega) | decide) only [go_sem, ↓reduceIte, Nat.reduceEqDiff, reduceCtorEq]
    all_goals (first | rfl | (rw [hbe, getI_1 hk hc24]; rfl) | (rw [hbe, getI_2 hk hc24 (by rw [← hbe]; exact hc27)]; rfl) | (rw [hbe, getI_3 hk hc24 (by rw [← hbe]; exact hc27) hk0 (by rw [← hbe]; exact hc32)]; rfl) | (rw [hbe, getI_4 hk hc24 (by rw [← hbe]; exact hc27) (by rw [← hbe]; first | exact fun h => hc32 h.2 | exact fun h => hk0 h.1) (by rw [← big63 _ hac2]; exact hc62)]; rfl) | (rw [hbe, getI_5 hk hc24 (by rw [← hbe]; exact hc27) (by rw [← hbe]; first | exact fun h => hc32 h.2 | exact fun h => hk0 h.1) (by rw [← big63 _ hac2]; exact hc62) (by rw [← flip_pos]; exact hc64)]; (rw [show ((18446744073709551615 - accF (flipOf x) (r.take k) : Nat) : Int) - 18446744073709551616 = -1 - (accF (flipOf x) (r.take k) : Int) by omega]; try rfl)) | (rw [hbe, getI_6 hk hc24 (by rw [← hbe]; exact hc27) (by rw [← hbe]; first | exact fun h => hc32 h.2 | exact fun h => hk0 h.1) (by rw [← big63 _ hac2]; exact hc62) (by rw [← flip_pos]; exact hc64)]; rfl))
   ·
    clear hT hF KT KF
    refine Tr.seqK fun K11 hK11 => ?_
    refine Tr.rg hcx [1000031] _ [] rfl rfl rfl ?_
    simp -implicitDefEqProofs (maxSteps := 2000000) (disch := first | omega | (simp only [go_sem, List.length_append, List.length_drop, List.length_take, hb1] <;> omega) | decide) only [go_sem, ↓reduceIte, Nat.reduceEqDiff, reduceCtorEq, Nat.reduceLT, Nat.reduceBEq, Nat.reduceAdd, Nat.reduceSub, Nat.reduceMul, Nat.reduceMod, Nat.add_sub_cancel]
    refine hK11 _ ?_
    clear hK11 K11
    refine Tr.kp [0, 5, 6, 27] ?_
    simp only [pk_cons, pk_nil, ↓A_cons, ↓reduceIte, Nat.reduceEqDiff]
    refine Tr.condG fun KT KF hT hF => ?_
    simp only [ev_tmp, ev_const, ↓A_cons, ↓reduceIte, Nat.reduceEqDiff, reduceCtorEq, condG_bool, GB_true, GB_false, decide_eq_true_eq]
    refine GB.dec (fun hc27 => hT ?_) (fun hc27 => hF ?_)
    ·
     clear hT hF KT KF
     refine Tr.seqK fun K12 hK12 => ?_
     refine Tr.rg hcx [] _ [] rfl rfl rfl ?_
     simp -implicitDefEqProofs (maxSteps := 2000000) (disch := first | omega | (simp only [go_sem, List.length_append, List.length_drop, List.length_take, hb1] <;> omega) | decide) only [go_sem, ↓reduceIte, Nat.reduceEqDiff, reduceCtorEq, Nat.reduceLT, Nat.reduceBEq, Nat.reduceAdd, Nat.reduceSub, Nat.reduceMul, Nat.reduceMod, Nat.add_sub_cancel]
     refine hK12 _ ?_
     clear hK12 K12
     refine Tr.kp [2, 3, 4] ?_
     simp only [pk_cons, pk_nil, ↓A_cons, ↓reduceIte, Nat.reduceEqDiff]
     refine Tr.ret ?_
     simp -implicitDefEqProofs (disch := first | omega | (simp only [go_sem, List.length_append, List.length_drop, List.length_take, hb1] <;> omega) | decide) only [go_sem, ↓reduceIte, Nat.reduceEqDiff, reduceCtorEq]
     all_goals (first | rfl | (rw [hbe, getI_1 hk hc24]; rfl) | (rw [hbe, getI_2 hk hc24 (by rw [← hbe]; exact hc27)]; rfl) | (rw [hbe, getI_3 hk hc24 (by rw [← hbe]; exact hc27) hk0 (by rw [← hbe]; exact hc32)]; rfl) | (rw [hbe, getI_4 hk hc24 (by rw [← hbe]; exact hc27) (by rw [← hbe]; first | exact fun h => hc32 h.2 | exact fun h => hk0 h.1) (by rw [← big63 _ hac2]; exact hc62)]; rfl) | (rw [hbe, getI_5 hk hc24 (by rw [← hbe]; exact hc27) (by rw [← hbe]; first | exact fun h => hc32 h.2 | exact fun h => hk0 h.1) (by rw [← big63 _ hac2]; exact hc62) (by rw [← flip_pos]; exact hc64)]; (rw [show ((18446744073709551615 - accF (flipOf x) (r.take k) : Nat) : Int) - 18446744073709551616 = -1 - (accF (flipOf x) (r.take k) : Int) by omega]; try rfl)) | (rw [hbe, getI_6 hk hc24 (by rw [← hbe]; exact hc27) (by rw [← hbe]; first | exact fun h => hc32 h.2 | exact fun h => hk0 h.1) (by rw [← big63 _ hac2]; exact hc62) (by rw [← flip_pos]; exact hc64)]; rfl))
    ·
     clear hT hF KT KF
     refine Tr.seqK fun K13 hK13 => ?_
     by_cases hk0 : 0 < k
     ·
      refine Tr.rg hcx [1000042] [some 33, some 34, some 35, some 36, some 37, some 38, some 39, some 40, some 41, some 42, some 32] [] rfl rfl rfl ?_
      simp -implicitDefEqProofs (maxSteps := 2000000) (disch := first | omega | (simp only [go_sem, List.length_append, List.length_drop, List.length_take, hb1] <;> omega) | decide) only [go_sem, ↓reduceIte, Nat.reduceEqDiff, reduceCtorEq, Nat.reduceLT, Nat.reduceBEq, Nat.reduceAdd, Nat.reduceSub, Nat.reduceMul, Nat.reduceMod, Nat.add_sub_cancel, hk0]
      refine hK13 _ ?_
      clear hK13 K13
      refine Tr.kp [0, 5, 6, 32] ?_
      simp only [pk_cons, pk_nil, ↓A_cons, ↓reduceIte, Nat.reduceEqDiff]
      refine Tr.condG fun KT KF hT hF => ?_
      simp only [ev_tmp, ev_const, ↓A_cons, ↓reduceIte, Nat.reduceEqDiff, reduceCtorEq, condG_bool, GB_true, GB_false, decide_eq_true_eq]
      refine GB.dec (fun hc32 => hT ?_) (fun hc32 => hF ?_)
      ·
       clear hT hF KT KF
       refine Tr.seqK fun K14 hK14 => ?_
       refine Tr.rg hcx [] _ [] rfl rfl rfl ?_
       simp -implicitDefEqProofs (maxSteps := 2000000) (disch := first | omega | (simp only [go_sem, List.length_append, List.length_drop, List.length_take, hb1] <;> omega) | decide) only [go_sem, ↓reduceIte, Nat.reduceEqDiff, reduceCtorEq, Nat.reduceLT, Nat.reduceBEq, Nat.reduceAdd, Nat.reduceSub, Nat.reduceMul, Nat.reduceMod, Nat.add_sub_cancel, hk0]
       refine hK14 _ ?_
       clear hK14 K14
       refine Tr.kp [2, 3, 4] ?_
       simp only [pk_cons, pk_nil, ↓A_cons, ↓reduceIte, Nat.reduceEqDiff]
       refine Tr.ret ?_
       simp -implicitDefEqProofs (disch := first | omega | (simp only [go_sem, List.length_append, List.length_drop, List.length_take, hb1] <;> omega) | decide) only [go_sem, ↓reduceIte, Nat.reduceEqDiff, reduceCtorEq]
       all_goals (first | rfl | (rw [hbe, getI_1 hk hc24]; rfl) | (rw [hbe, getI_2 hk hc24 (by rw [← hbe]; exact hc27)]; rfl) | (rw [hbe, getI_3 hk hc24 (by rw [← hbe]; exact hc27) hk0 (by rw [← hbe]; exact hc32)]; rfl) | (rw [hbe, getI_4 hk hc24 (by rw [← hbe]; exact hc27) (by rw [← hbe]; first | exact fun h => hc32 h.2 | exact fun h => hk0 h.1) (by rw [← big63 _ hac2]; exact hc62)]; rfl) | (rw [hbe, getI_5 hk hc24 (by rw [← hbe]; exact hc27) (by rw [← hbe]; first | exact fun h => hc32 h.2 | exact fun h => hk0 h.1) (by rw [← big63 _ hac2]; exact hc62) (by rw [← flip_pos]; exact hc64)]; (rw [show ((18446744073709551615 - accF (flipOf x) (r.take k) : Nat) : Int) - 18446744073709551616 = -1 - (accF (flipOf x) (r.take k) : Int) by omega]; try rfl)) | (rw [hbe, getI_6 hk hc24 (by rw [← hbe]; exact hc27) (by rw [← hbe]; first | exact fun h => hc32 h.2 | exact fun h => hk0 h.1) (by rw [← big63 _ hac2]; exact hc62) (by rw [← flip_pos]; exact hc64)]; rfl))
      ·
       clear hT hF KT KF
       refine Tr.skip ?_
       refine hK8 _ ?_
       clear hK8 K8
       refine Tr.kp [0, 5, 6] ?_
       simp only [pk_cons, pk_nil, ↓A_cons, ↓reduceIte, Nat.reduceEqDiff]
       refine Tr.seqK fun K15 hK15 => ?_
       refine Tr.rg hcx [] _ [] rfl rfl rfl ?_
       simp -implicitDefEqProofs (maxSteps := 2000000) (disch := first | omega | (simp only [go_sem, List.length_append, List.length_drop, List.length_take, hb1] <;> omega) | decide) only [go_sem, ↓reduceIte, Nat.reduceEqDiff, reduceCtorEq, Nat.reduceLT, Nat.reduceBEq, Nat.reduceAdd, Nat.reduceSub, Nat.reduceMul, Nat.reduceMod, Nat.add_sub_cancel, hk0]
       refine hK15 _ ?_
       clear hK15 K15
       refine Tr.kp [0, 5, 6, 7] ?_
       simp only [pk_cons, pk_nil, ↓A_cons, ↓reduceIte, Nat.reduceEqDiff]
       refine Tr.seqK fun K16 hK16 => ?_
       refine Tr.seqK fun K17 hK17 => ?_
       refine Tr.rg hcx [] _ [] rfl rfl rfl ?_
       simp -implicitDefEqProofs (maxSteps := 2000000) (disch := first | omega | (simp only [go_sem, List.length_append, List.length_drop, List.length_take, hb1] <;> omega) | decide) only [go_sem, ↓reduceIte, Nat.reduceEqDiff, reduceCtorEq, Nat.reduceLT, Nat.reduceBEq, Nat.reduceAdd, Nat.reduceSub, Nat.reduceMul, Nat.reduceMod, Nat.add_sub_cancel, hk0, hr]
       refine hK17 _ ?_
       clear hK17 K17
       refine Tr.kp [5, 6, 7, 46, 47, 48] ?_
       simp only [pk_cons, pk_nil, ↓A_cons, ↓reduceIte, Nat.reduceEqDiff]
       refine Tr.blk ?_
       refine Tr.loopI (α := Nat) (fun a => [(5, ?v5_47), (6, ?v6_47), (7, .val (nU (accF (flipOf x) ((r.take k).take a)))), (46, ?v46_47), (47, ?v47_47), (48, .val (nI a))]) (fun a => ?h_47) (fun a => a ≤ (r.take k).length) (fun a => (r.take k).length - a) (0) ?_ ?le_47 ?hh_47 ?bd_47
       case hh_47 => exact rfl
       case le_47 => (simp only [Le_nil, Le_cons, ↓A_cons, ↓reduceIte, Nat.reduceEqDiff, reduceCtorEq, CLe_refl, CLe_top, CLe_full, CLe_nil, CLe_own, and_true, true_and]; all_goals (repeat' first | exact CLe.refl _ | exact True.intro | (refine CLe_sln ?_; first | with_reducible rfl | (simp only [List.take_zero]; done) | (rfl; done)) | exact CLe_nI (by omega) | exact CLe_int (by omega) | exact CLe_inI (by omega) | exact CLe_nIi (by omega) | with_reducible apply And.intro))
       · omega
       case bd_47 =>
        rintro i hi
        have hcl := (gt (r.take k) i ^^^ flipOf x).toNat_lt
        have hkl : (r.take k).length = k := by rw [List.length_take]; omega
        have hac := accF_lt (flipOf x) ((r.take k).take i)
        rw [List.length_take, Nat.min_eq_left hi] at hac
        have hp8 : 256 ^ i ≤ 256 ^ 8 := Nat.pow_le_pow_right (by decide) (by omega)
        have hac2 : accF (flipOf x) ((r.take k).take i) < 18446744073709551616 := Nat.lt_of_lt_of_le hac (by simpa using hp8)
        refine Tr.seqK fun K18 hK18 => ?_
        refine Tr.rg hcx [] _ [] rfl rfl rfl ?_
        simp -implicitDefEqProofs (maxSteps := 2000000) (disch := first | omega | (simp only [go_sem, List.length_append, List.length_drop, List.length_take, hb1] <;> omega) | decide) only [go_sem, ↓reduceIte, Nat.reduceEqDiff, reduceCtorEq, Nat.reduceLT, Nat.reduceBEq, Nat.reduceAdd, Nat.reduceSub, Nat.reduceMul, Nat.reduceMod, Nat.add_sub_cancel, hk0]
        refine hK18 _ ?_
        clear hK18 K18
        refine Tr.kp [5, 6, 7, 46, 47, 48, 49] ?_
        simp only [pk_cons, pk_nil, ↓A_cons, ↓reduceIte, Nat.reduceEqDiff]
        refine Tr.seqK fun K19 hK19 => ?_
        refine Tr.condG fun KT KF hT hF => ?_
        simp only [ev_tmp, ev_const, ↓A_cons, ↓reduceIte, Nat.reduceEqDiff, reduceCtorEq, condG_bool, GB_true, GB_false, decide_eq_true_eq]
        refine GB.dec (fun hc49 => hT ?_) (fun hc49 => hF ?_)
        ·
         clear hT hF KT KF
         refine Tr.skip ?_
         refine hK19 _ ?_
         clear hK19 K19
         refine Tr.kp [5, 6, 7, 46, 47, 48] ?_
         simp only [pk_cons, pk_nil, ↓A_cons, ↓reduceIte, Nat.reduceEqDiff]
         refine Tr.seqK fun K20 hK20 => ?_
         refine Tr.blk ?_
         refine Tr.seqK fun K21 hK21 => ?_
         refine Tr.rg hcx [1000051] _ [] rfl rfl rfl ?_
         simp -implicitDefEqProofs (maxSteps := 2000000) (disch := first | omega | (simp only [go_sem, List.length_append, List.length_drop, List.length_take, hb1] <;> omega) | decide) only [go_sem, ↓reduceIte, Nat.reduceEqDiff, reduceCtorEq, Nat.reduceLT, Nat.reduceBEq, Nat.reduceAdd, Nat.reduceSub, Nat.reduceMul, Nat.reduceMod, Nat.add_sub_cancel, hk0]
         refine hK21 _ ?_
         clear hK21 K21
         refine Tr.kp [5, 6, 7, 9, 46, 47, 48] ?_
         simp only [pk_cons, pk_nil, ↓A_cons, ↓reduceIte, Nat.reduceEqDiff]
         refine Tr.rg hcx [1000058] _ [] rfl rfl rfl ?_
         simp -implicitDefEqProofs (maxSteps := 2000000) (disch := first | omega | (simp only [go_sem, List.length_append, List.length_drop, List.length_take, hb1] <;> omega) | decide) only [go_sem, ↓reduceIte, Nat.reduceEqDiff, reduceCtorEq, Nat.reduceLT, Nat.reduceBEq, Nat.reduceAdd, Nat.reduceSub, Nat.reduceMul, Nat.reduceMod, Nat.add_sub_cancel, hk0]
         refine hK20 _ ?_
         clear hK20 K20
         refine Tr.kp [5, 6, 7, 46, 47, 48] ?_
         simp only [pk_cons, pk_nil, ↓A_cons, ↓reduceIte, Nat.reduceEqDiff]
         refine Tr.rg hcx [] _ [] rfl rfl rfl ?_
         simp -implicitDefEqProofs (maxSteps := 2000000) (disch := first | omega | (simp only [go_sem, List.length_append, List.length_drop, List.length_take, hb1] <;> omega) | decide) only [go_sem, ↓reduceIte, Nat.reduceEqDiff, reduceCtorEq, Nat.reduceLT, Nat.reduceBEq, Nat.reduceAdd, Nat.reduceSub, Nat.reduceMul, Nat.reduceMod, Nat.add_sub_cancel, hk0]
         refine ⟨i + 1, ⟨by omega, by first | omega | (simp only []; omega)⟩, ?_, rfl⟩
         (simp only [Le_nil, Le_cons, ↓A_cons, ↓reduceIte, Nat.reduceEqDiff, reduceCtorEq, CLe_refl, CLe_top, CLe_full, CLe_nil, CLe_own, and_true, true_and]; all_goals (repeat' first | exact CLe.refl _ | exact True.intro | (refine CLe_sln ?_; first | with_reducible rfl | (simp only [List.take_zero]; done) | (rfl; done)) | exact CLe_nI (by omega) | exact CLe_int (by omega) | exact CLe_inI (by omega) | exact CLe_nIi (by omega) | with_reducible apply And.intro))
         all_goals (exact CLe_val (congrArg nU (acc_next (flipOf x) (r.take k) i hc49 (by omega))))
        ·
         clear hT hF KT KF
         obtain rfl : i = (r.take k).length := by omega
         rw [List.take_length] at *
         refine Tr.exit ?_
         refine hK16 _ ?_
         clear hK19 K19 hK16 K16
         refine Tr.kp [5, 6, 7] ?_
         simp only [pk_cons, pk_nil, ↓A_cons, ↓reduceIte, Nat.reduceEqDiff]
         refine Tr.seqK fun K22 hK22 => ?_
         refine Tr.seqK fun K23 hK23 => ?_
         refine Tr.rg hcx [] _ [] rfl rfl rfl ?_
         simp -implicitDefEqProofs (maxSteps := 2000000) (disch := first | omega | (simp only [go_sem, List.length_append, List.length_drop, List.length_take, hb1] <;> omega) | decide) only [go_sem, ↓reduceIte, Nat.reduceEqDiff, reduceCtorEq, Nat.reduceLT, Nat.reduceBEq, Nat.reduceAdd, Nat.reduceSub, Nat.reduceMul, Nat.reduceMod, Nat.add_sub_cancel, hk0, List.take_length]
         refine hK23 _ ?_
         clear hK23 K23
         refine Tr.kp [5, 6, 7, 62] ?_
         simp only [pk_cons, pk_nil, ↓A_cons, ↓reduceIte, Nat.reduceEqDiff]
         refine Tr.condG fun KT KF hT hF => ?_
         simp only [ev_tmp, ev_const, ↓A_cons, ↓reduceIte, Nat.reduceEqDiff, reduceCtorEq, condG_bool, GB_true, GB_false, decide_eq_true_eq]
         refine GB.dec (fun hc62 => hT ?_) (fun hc62 => hF ?_)
         ·
          clear hT hF KT KF
          refine Tr.seqK fun K24 hK24 => ?_
          refine Tr.rg hcx [] _ [] rfl rfl rfl ?_
          simp -implicitDefEqProofs (maxSteps := 2000000) (disch := first | omega | (simp only [go_sem, List.length_append, List.length_drop, List.length_take, hb1] <;> omega) | decide) only [go_sem, ↓reduceIte, Nat.reduceEqDiff, reduceCtorEq, Nat.reduceLT, Nat.reduceBEq, Nat.reduceAdd, Nat.reduceSub, Nat.reduceMul, Nat.reduceMod, Nat.add_sub_cancel, hk0]
          refine hK24 _ ?_
          clear hK24 K24
          refine Tr.kp [2, 3, 4] ?_
          simp only [pk_cons, pk_nil, ↓A_cons, ↓reduceIte, Nat.reduceEqDiff]
          refine Tr.ret ?_
          simp -implicitDefEqProofs (disch := first | omega | (simp only [go_sem, List.length_append, List.length_drop, List.length_take, hb1] <;> omega) | decide) only [go_sem, ↓reduceIte, Nat.reduceEqDiff, reduceCtorEq]
          all_goals (first | rfl | (rw [hbe, getI_1 hk hc24]; rfl) | (rw [hbe, getI_2 hk hc24 (by rw [← hbe]; exact hc27)]; rfl) | (rw [hbe, getI_3 hk hc24 (by rw [← hbe]; exact hc27) hk0 (by rw [← hbe]; exact hc32)]; rfl) | (rw [hbe, getI_4 hk hc24 (by rw [← hbe]; exact hc27) (by rw [← hbe]; first | exact fun h => hc32 h.2 | exact fun h => hk0 h.1) (by rw [← big63 _ hac2]; exact hc62)]; rfl) | (rw [hbe, getI_5 hk hc24 (by rw [← hbe]; exact hc27) (by rw [← hbe]; first | exact fun h => hc32 h.2 | exact fun h => hk0 h.1) (by rw [← big63 _ hac2]; exact hc62) (by rw [← flip_pos]; exact hc64)]; (rw [show ((18446744073709551615 - accF (flipOf x) (r.take k) : Nat) : Int) - 18446744073709551616 = -1 - (accF (flipOf x) (r.take k) : Int) by omega]; try rfl)) | (rw [hbe, getI_6 hk hc24 (by rw [← hbe]; exact hc27) (by rw [← hbe]; first | exact fun h => hc32 h.2 | exact fun h => hk0 h.1) (by rw [← big63 _ hac2]; exact hc62) (by rw [← flip_pos]; exact hc64)]; rfl))
         ·
          clear hT hF KT KF
          refine Tr.skip ?_
          refine hK22 _ ?_
          clear hK22 K22
          refine Tr.kp [5, 6, 7] ?_
          simp only [pk_cons, pk_nil, ↓A_cons, ↓reduceIte, Nat.reduceEqDiff]
          refine Tr.seqK fun K25 hK25 => ?_
          refine Tr.seqK fun K26 hK26 => ?_
          refine Tr.rg hcx [] _ [] rfl rfl rfl ?_
          simp -implicitDefEqProofs (maxSteps := 2000000) (disch := first | omega | (simp only [go_sem, List.length_append, List.length_drop, List.length_take, hb1] <;> omega) | decide) only [go_sem, ↓reduceIte, Nat.reduceEqDiff, reduceCtorEq, Nat.reduceLT, Nat.reduceBEq, Nat.reduceAdd, Nat.reduceSub, Nat.reduceMul, Nat.reduceMod, Nat.add_sub_cancel, hk0, List.take_length]
          refine hK26 _ ?_
          clear hK26 K26
          refine Tr.kp [6, 7, 64] ?_
          simp only [pk_cons, pk_nil, ↓A_cons, ↓reduceIte, Nat.reduceEqDiff]
          refine Tr.condG fun KT KF hT hF => ?_
          simp only [ev_tmp, ev_const, ↓A_cons, ↓reduceIte, Nat.reduceEqDiff, reduceCtorEq, condG_bool, GB_true, GB_false, decide_eq_true_eq]
          refine GB.dec (fun hc64 => hT ?_) (fun hc64 => hF ?_)
          ·
           clear hT hF KT KF
           refine Tr.rg hcx [1000066] _ [] rfl rfl rfl ?_
           simp -implicitDefEqProofs (maxSteps := 2000000) (disch := first | omega | (simp only [go_sem, List.length_append, List.length_drop, List.length_take, hb1] <;> omega) | decide) only [go_sem, ↓reduceIte, Nat.reduceEqDiff, reduceCtorEq, Nat.reduceLT, Nat.reduceBEq, Nat.reduceAdd, Nat.reduceSub, Nat.reduceMul, Nat.reduceMod, Nat.add_sub_cancel, hk0, List.take_length]
           refine hK25 _ ?_
           clear hK25 K25
           refine Tr.kp [6, 7] ?_
           simp only [pk_cons, pk_nil, ↓A_cons, ↓reduceIte, Nat.reduceEqDiff]
           refine Tr.seqK fun K27 hK27 => ?_
           refine Tr.rg hcx [1000068, 1000070] _ [] rfl rfl rfl ?_
           simp -implicitDefEqProofs (maxSteps := 2000000) (disch := first | omega | (simp only [go_sem, List.length_append, List.length_drop, List.length_take, hb1] <;> omega) | decide) only [go_sem, ↓reduceIte, Nat.reduceEqDiff, reduceCtorEq, Nat.reduceLT, Nat.reduceBEq, Nat.reduceAdd, Nat.reduceSub, Nat.reduceMul, Nat.reduceMod, Nat.add_sub_cancel, hk0, List.take_length]
           refine hK27 _ ?_
           clear hK27 K27
           refine Tr.kp [2, 3, 4] ?_
           simp only [pk_cons, pk_nil, ↓A_cons, ↓reduceIte, Nat.reduceEqDiff]
           refine Tr.ret ?_
           simp -implicitDefEqProofs (disch := first | omega | (simp only [go_sem, List.length_append, List.length_drop, List.length_take, hb1] <;> omega) | decide) only [go_sem, ↓reduceIte, Nat.reduceEqDiff, reduceCtorEq]
           all_goals (first | rfl | (rw [hbe, getI_1 hk hc24]; rfl) | (rw [hbe, getI_2 hk hc24 (by rw [← hbe]; exact hc27)]; rfl) | (rw [hbe, getI_3 hk hc24 (by rw [← hbe]; exact hc27) hk0 (by rw [← hbe]; exact hc32)]; rfl) | (rw [hbe, getI_4 hk hc24 (by rw [← hbe]; exact hc27) (by rw [← hbe]; first | exact fun h => hc32 h.2 | exact fun h => hk0 h.1) (by rw [← big63 _ hac2]; exact hc62)]; rfl) | (rw [hbe, getI_5 hk hc24 (by rw [← hbe]; exact hc27) (by rw [← hbe]; first | exact fun h => hc32 h.2 | exact fun h => hk0 h.1) (by rw [← big63 _ hac2]; exact hc62) (by rw [← flip_pos]; exact hc64)]; (rw [show ((18446744073709551615 - accF (flipOf x) (r.take k) : Nat) : Int) - 18446744073709551616 = -1 - (accF (flipOf x) (r.take k) : Int) by omega]; try rfl)) | (rw [hbe, getI_6 hk hc24 (by rw [← hbe]; exact hc27) (by rw [← hbe]; first | exact fun h => hc32 h.2 | exact fun h => hk0 h.1) (by rw [← big63 _ hac2]; exact hc62) (by rw [← flip_pos]; exact hc64)]; rfl))
          ·
           clear hT hF KT KF
           refine Tr.skip ?_
           refine hK25 _ ?_
           clear hK25 K25
           refine Tr.kp [6, 7] ?_
           simp only [pk_cons, pk_nil, ↓A_cons, ↓reduceIte, Nat.reduceEqDiff]
           refine Tr.seqK fun K28 hK28 => ?_
           refine Tr.rg hcx [1000068, 1000070] _ [] rfl rfl rfl ?_
           simp -implicitDefEqProofs (maxSteps := 2000000) (disch := first | omega | (simp only [go_sem, List.length_append, List.length_drop, List.length_take, hb1] <;> omega) | decide) only [go_sem, ↓reduceIte, Nat.reduceEqDiff, reduceCtorEq, Nat.reduceLT, Nat.reduceBEq, Nat.reduceAdd, Nat.reduceSub, Nat.reduceMul, Nat.reduceMod, Nat.add_sub_cancel, hk0, List.take_length]
           refine hK28 _ ?_
           clear hK28 K28
           refine Tr.kp [2, 3, 4] ?_
           simp only [pk_cons, pk_nil, ↓A_cons, ↓reduceIte, Nat.reduceEqDiff]
           refine Tr.ret ?_
           simp -implicitDefEqProofs (disch := first | omega | (simp only [go_sem, List.length_append, List.length_drop, List.length_take, hb1] <;> omega) | decide) only [go_sem, ↓reduceIte, Nat.reduceEqDiff, reduceCtorEq]
           all_goals (first | rfl | (rw [hbe, getI_1 hk hc24]; rfl) | (rw [hbe, getI_2 hk hc24 (by rw [← hbe]; exact hc27)]; rfl) | (rw [hbe, getI_3 hk hc24 (by rw [← hbe]; exact hc27) hk0 (by rw [← hbe]; exact hc32)]; rfl) | (rw [hbe, getI_4 hk hc24 (by rw [← hbe]; exact hc27) (by rw [← hbe]; first | exact fun h => hc32 h.2 | exact fun h => hk0 h.1) (by rw [← big63 _ hac2]; exact hc62)]; rfl) | (rw [hbe, getI_5 hk hc24 (by rw [← hbe]; exact hc27) (by rw [← hbe]; first | exact fun h => hc32 h.2 | exact fun h => hk0 h.1) (by rw [← big63 _ hac2]; exact hc62) (by rw [← flip_pos]; exact hc64)]; (rw [show ((18446744073709551615 - accF (flipOf x) (r.take k) : Nat) : Int) - 18446744073709551616 = -1 - (accF (flipOf x) (r.take k) : Int) by omega]; try rfl)) | (rw [hbe, getI_6 hk hc24 (by rw [← hbe]; exact hc27) (by rw [← hbe]; first | exact fun h => hc32 h.2 | exact fun h => hk0 h.1) (by rw [← big63 _ hac2]; exact hc62) (by rw [← flip_pos]; exact hc64)]; rfl))
     ·
      refine Tr.rg hcx [1000042] [some 33, some 34, some 35, some 36, some 37, some 38, some 39, some 40, some 41, some 42, some 32] [] rfl rfl rfl ?_
      simp -implicitDefEqProofs (maxSteps := 2000000) (disch := first | omega | (simp only [go_sem, List.length_append, List.length_drop, List.length_take, hb1] <;> omega) | decide) only [go_sem, ↓reduceIte, Nat.reduceEqDiff, reduceCtorEq, Nat.reduceLT, Nat.reduceBEq, Nat.reduceAdd, Nat.reduceSub, Nat.reduceMul, Nat.reduceMod, Nat.add_sub_cancel, hk0]
      refine hK13 _ ?_
      clear hK13 K13
      refine Tr.kp [0, 5, 6, 32] ?_
      simp only [pk_cons, pk_nil, ↓A_cons, ↓reduceIte, Nat.reduceEqDiff]
      refine Tr.condG fun KT KF hT hF => ?_
      simp only [ev_tmp, ev_const, ↓A_cons, ↓reduceIte, Nat.reduceEqDiff, reduceCtorEq, condG_bool, GB_true, GB_false, decide_eq_true_eq]
      refine hF ?_
      clear hT hF KT KF
      refine Tr.skip ?_
      refine hK8 _ ?_
      clear hK8 K8
      refine Tr.kp [0, 5, 6] ?_
      simp only [pk_cons, pk_nil, ↓A_cons, ↓reduceIte, Nat.reduceEqDiff]
      refine Tr.seqK fun K29 hK29 => ?_
      refine Tr.rg hcx [] _ [] rfl rfl rfl ?_
      simp -implicitDefEqProofs (maxSteps := 2000000) (disch := first | omega | (simp only [go_sem, List.length_append, List.length_drop, List.length_take, hb1] <;> omega) | decide) only [go_sem, ↓reduceIte, Nat.reduceEqDiff, reduceCtorEq, Nat.reduceLT, Nat.reduceBEq, Nat.reduceAdd, Nat.reduceSub, Nat.reduceMul, Nat.reduceMod, Nat.add_sub_cancel, hk0]
      refine hK29 _ ?_
      clear hK29 K29
      refine Tr.kp [0, 5, 6, 7] ?_
      simp only [pk_cons, pk_nil, ↓A_cons, ↓reduceIte, Nat.reduceEqDiff]
      refine Tr.seqK fun K30 hK30 => ?_
      refine Tr.seqK fun K31 hK31 => ?_
      refine Tr.rg hcx [] _ [] rfl rfl rfl ?_
      simp -implicitDefEqProofs (maxSteps := 2000000) (disch := first | omega | (simp only [go_sem, List.length_append, List.length_drop, List.length_take, hb1] <;> omega) | decide) only [go_sem, ↓reduceIte, Nat.reduceEqDiff, reduceCtorEq, Nat.reduceLT, Nat.reduceBEq, Nat.reduceAdd, Nat.reduceSub, Nat.reduceMul, Nat.reduceMod, Nat.add_sub_cancel, hk0, hr]
      refine hK31 _ ?_
      clear hK31 K31
      refine Tr.kp [5, 6, 7, 46, 47, 48] ?_
      simp only [pk_cons, pk_nil, ↓A_cons, ↓reduceIte, Nat.reduceEqDiff]
      refine Tr.blk ?_
      refine Tr.loopI (α := Nat) (fun a => [(5, ?v5_47), (6, ?v6_47), (7, .val (nU (accF (flipOf x) ((r.take k).take a)))), (46, ?v46_47), (47, ?v47_47), (48, .val (nI a))]) (fun a => ?h_47) (fun a => a ≤ (r.take k).length) (fun a => (r.take k).length - a) (0) ?_ ?le_47 ?hh_47 ?bd_47
      case hh_47 => exact rfl
      case le_47 => (simp only [Le_nil, Le_cons, ↓A_cons, ↓reduceIte, Nat.reduceEqDiff, reduceCtorEq, CLe_refl, CLe_top, CLe_full, CLe_nil, CLe_own, and_true, true_and]; all_goals (repeat' first | exact CLe.refl _ | exact True.intro | (refine CLe_sln ?_; first | with_reducible rfl | (simp only [List.take_zero]; done) | (rfl; done)) | exact CLe_nI (by omega) | exact CLe_int (by omega) | exact CLe_inI (by omega) | exact CLe_nIi (by omega) | with_reducible apply And.intro))
      · omega
      case bd_47 =>
       rintro i hi
       have hcl := (gt (r.take k) i ^^^ flipOf x).toNat_lt
       have hkl : (r.take k).length = k := by rw [List.length_take]; omega
       have hac := accF_lt (flipOf x) ((r.take k).take i)
       rw [List.length_take, Nat.min_eq_left hi] at hac
       have hp8 : 256 ^ i ≤ 256 ^ 8 := Nat.pow_le_pow_right (by decide) (by omega)
       have hac2 : accF (flipOf x) ((r.take k).take i) < 18446744073709551616 := Nat.lt_of_lt_of_le hac (by simpa using hp8)
       refine Tr.seqK fun K32 hK32 => ?_
       refine Tr.rg hcx [] _ [] rfl rfl rfl ?_
       simp -implicitDefEqProofs (maxSteps := 2000000) (disch := first | omega | (simp only [go_sem, List.length_append, List.length_drop, List.length_take, hb1] <;> omega) | decide) only [go_sem, ↓reduceIte, Nat.reduceEqDiff, reduceCtorEq, Nat.reduceLT, Nat.reduceBEq, Nat.reduceAdd, Nat.reduceSub, Nat.reduceMul, Nat.reduceMod, Nat.add_sub_cancel, hk0]
       refine hK32 _ ?_
       clear hK32 K32
       refine Tr.kp [5, 6, 7, 46, 47, 48, 49] ?_
       simp only [pk_cons, pk_nil, ↓A_cons, ↓reduceIte, Nat.reduceEqDiff]
       refine Tr.seqK fun K33 hK33 => ?_
       refine Tr.condG fun KT KF hT hF => ?_
       simp only [ev_tmp, ev_const, ↓A_cons, ↓reduceIte, Nat.reduceEqDiff, reduceCtorEq, condG_bool, GB_true, GB_false, decide_eq_true_eq]
       refine GB.dec (fun hc49 => hT ?_) (fun hc49 => hF ?_)
       ·
        clear hT hF KT KF
        refine Tr.skip ?_
        refine hK33 _ ?_
        clear hK33 K33
        refine Tr.kp [5, 6, 7, 46, 47, 48] ?_
        simp only [pk_cons, pk_nil, ↓A_cons, ↓reduceIte, Nat.reduceEqDiff]
        refine Tr.seqK fun K34 hK34 => ?_
        refine Tr.blk ?_
        refine Tr.seqK fun K35 hK35 => ?_
        refine Tr.rg hcx [1000051] _ [] rfl rfl rfl ?_
        simp -implicitDefEqProofs (maxSteps := 2000000) (disch := first | omega | (simp only [go_sem, List.length_append, List.length_drop, List.length_take, hb1] <;> omega) | decide) only [go_sem, ↓reduceIte, Nat.reduceEqDiff, reduceCtorEq, Nat.reduceLT, Nat.reduceBEq, Nat.reduceAdd, Nat.reduceSub, Nat.reduceMul, Nat.reduceMod, Nat.add_sub_cancel, hk0]
        refine hK35 _ ?_
        clear hK35 K35
        refine Tr.kp [5, 6, 7, 9, 46, 47, 48] ?_
        simp only [pk_cons, pk_nil, ↓A_cons, ↓reduceIte, Nat.reduceEqDiff]
        refine Tr.rg hcx [1000058] _ [] rfl rfl rfl ?_
        simp -implicitDefEqProofs (maxSteps := 2000000) (disch := first | omega | (simp only [go_sem, List.length_append, List.length_drop, List.length_take, hb1] <;> omega) | decide) only [go_sem, ↓reduceIte, Nat.reduceEqDiff, reduceCtorEq, Nat.reduceLT, Nat.reduceBEq, Nat.reduceAdd, Nat.reduceSub, Nat.reduceMul, Nat.reduceMod, Nat.add_sub_cancel, hk0]
        refine hK34 _ ?_
        clear hK34 K34
        refine Tr.kp [5, 6, 7, 46, 47, 48] ?_
        simp only [pk_cons, pk_nil, ↓A_cons, ↓reduceIte, Nat.reduceEqDiff]
        refine Tr.rg hcx [] _ [] rfl rfl rfl ?_
        simp -implicitDefEqProofs (maxSteps := 2000000) (disch := first | omega | (simp only [go_sem, List.length_append, List.length_drop, List.length_take, hb1] <;> omega) | decide) only [go_sem, ↓reduceIte, Nat.reduceEqDiff, reduceCtorEq, Nat.reduceLT, Nat.reduceBEq, Nat.reduceAdd, Nat.reduceSub, Nat.reduceMul, Nat.reduceMod, Nat.add_sub_cancel, hk0]
        refine ⟨i + 1, ⟨by omega, by first | omega | (simp only []; omega)⟩, ?_, rfl⟩
        (simp only [Le_nil, Le_cons, ↓A_cons, ↓reduceIte, Nat.reduceEqDiff, reduceCtorEq, CLe_refl, CLe_top, CLe_full, CLe_nil, CLe_own, and_true, true_and]; all_goals (repeat' first | exact CLe.refl _ | exact True.intro | (refine CLe_sln ?_; first | with_reducible rfl | (simp only [List.take_zero]; done) | (rfl; done)) | exact CLe_nI (by omega) | exact CLe_int (by omega) | exact CLe_inI (by omega) | exact CLe_nIi (by omega) | with_reducible apply And.intro))
        all_goals (exact CLe_val (congrArg nU (acc_next (flipOf x) (r.take k) i hc49 (by omega))))
       ·
        clear hT hF KT KF
        obtain rfl : i = (r.take k).length := by omega
        rw [List.take_length] at *
        refine Tr.exit ?_
        refine hK30 _ ?_
        clear hK33 K33 hK30 K30
        refine Tr.kp [5, 6, 7] ?_
        simp only [pk_cons, pk_nil, ↓A_cons, ↓reduceIte, Nat.reduceEqDiff]
        refine Tr.seqK fun K36 hK36 => ?_
        refine Tr.seqK fun K37 hK37 => ?_
        refine Tr.rg hcx [] _ [] rfl rfl rfl ?_
        simp -implicitDefEqProofs (maxSteps := 2000000) (disch := first | omega | (simp only [go_sem, List.length_append, List.length_drop, List.length_take, hb1] <;> omega) | decide) only [go_sem, ↓reduceIte, Nat.reduceEqDiff, reduceCtorEq, Nat.reduceLT, Nat.reduceBEq, Nat.reduceAdd, Nat.reduceSub, Nat.reduceMul, Nat.reduceMod, Nat.add_sub_cancel, hk0, List.take_length]
        refine hK37 _ ?_
        clear hK37 K37
        refine Tr.kp [5, 6, 7, 62] ?_
        simp only [pk_cons, pk_nil, ↓A_cons, ↓reduceIte, Nat.reduceEqDiff]
        refine Tr.condG fun KT KF hT hF => ?_
        simp only [ev_tmp, ev_const, ↓A_cons, ↓reduceIte, Nat.reduceEqDiff, reduceCtorEq, condG_bool, GB_true, GB_false, decide_eq_true_eq]
        refine GB.dec (fun hc62 => hT ?_) (fun hc62 => hF ?_)
        ·
         clear hT hF KT KF
         refine Tr.seqK fun K38 hK38 => ?_
         refine Tr.rg hcx [] _ [] rfl rfl rfl ?_
         simp -implicitDefEqProofs (maxSteps := 2000000) (disch := first | omega | (simp only [go_sem, List.length_append, List.length_drop, List.length_take, hb1] <;> omega) | decide) only [go_sem, ↓reduceIte, Nat.reduceEqDiff, reduceCtorEq, Nat.reduceLT, Nat.reduceBEq, Nat.reduceAdd, Nat.reduceSub, Nat.reduceMul, Nat.reduceMod, Nat.add_sub_cancel, hk0]
         refine hK38 _ ?_
         clear hK38 K38
         refine Tr.kp [2, 3, 4] ?_
         simp only [pk_cons, pk_nil, ↓A_cons, ↓reduceIte, Nat.reduceEqDiff]
         refine Tr.ret ?_
         simp -implicitDefEqProofs (disch := first | omega | (simp only [go_sem, List.length_append, List.length_drop, List.length_take, hb1] <;> omega) | decide) only [go_sem, ↓reduceIte, Nat.reduceEqDiff, reduceCtorEq]
         all_goals (first | rfl | (rw [hbe, getI_1 hk hc24]; rfl) | (rw [hbe, getI_2 hk hc24 (by rw [← hbe]; exact hc27)]; rfl) | (rw [hbe, getI_3 hk hc24 (by rw [← hbe]; exact hc27) hk0 (by rw [← hbe]; exact hc32)]; rfl) | (rw [hbe, getI_4 hk hc24 (by rw [← hbe]; exact hc27) (by rw [← hbe]; first | exact fun h => hc32 h.2 | exact fun h => hk0 h.1) (by rw [← big63 _ hac2]; exact hc62)]; rfl) | (rw [hbe, getI_5 hk hc24 (by rw [← hbe]; exact hc27) (by rw [← hbe]; first | exact fun h => hc32 h.2 | exact fun h => hk0 h.1) (by rw [← big63 _ hac2]; exact hc62) (by rw [← flip_pos]; exact hc64)]; (rw [show ((18446744073709551615 - accF (flipOf x) (r.take k) : Nat) : Int) - 18446744073709551616 = -1 - (accF (flipOf x) (r.take k) : Int) by omega]; try rfl)) | (rw [hbe, getI_6 hk hc24 (by rw [← hbe]; exact hc27) (by rw [← hbe]; first | exact fun h => hc32 h.2 | exact fun h => hk0 h.1) (by rw [← big63 _ hac2]; exact hc62) (by rw [← flip_pos]; exact hc64)]; rfl))
        ·
         clear hT hF KT KF
         refine Tr.skip ?_
         refine hK36 _ ?_
         clear hK36 K36
         refine Tr.kp [5, 6, 7] ?_
         simp only [pk_cons, pk_nil, ↓A_cons, ↓reduceIte, Nat.reduceEqDiff]
         refine Tr.seqK fun K39 hK39 => ?_
         refine Tr.seqK fun K40 hK40 => ?_
         refine Tr.rg hcx [] _ [] rfl rfl rfl ?_
         simp -implicitDefEqProofs (maxSteps := 2000000) (disch := first | omega | (simp only [go_sem, List.length_append, List.length_drop, List.length_take, hb1] <;> omega) | decide) only [go_sem, ↓reduceIte, Nat.reduceEqDiff, reduceCtorEq, Nat.reduceLT, Nat.reduceBEq, Nat.reduceAdd, Nat.reduceSub, Nat.reduceMul, Nat.reduceMod, Nat.add_sub_cancel, hk0, List.take_length]
         refine hK40 _ ?_
         clear hK40 K40
         refine Tr.kp [6, 7, 64] ?_
         simp only [pk_cons, pk_nil, ↓A_cons, ↓reduceIte, Nat.reduceEqDiff]
         refine Tr.condG fun KT KF hT hF => ?_
         simp only [ev_tmp, ev_const, ↓A_cons, ↓reduceIte, Nat.reduceEqDiff, reduceCtorEq, condG_bool, GB_true, GB_false, decide_eq_true_eq]
         refine GB.dec (fun hc64 => hT ?_) (fun hc64 => hF ?_)
         ·
          clear hT hF KT KF
          refine Tr.rg hcx [1000066] _ [] rfl rfl rfl ?_
          simp -implicitDefEqProofs (maxSteps := 2000000) (disch := first | omega | (simp only [go_sem, List.length_append, List.length_drop, List.length_take, hb1] <;> omega) | decide) only [go_sem, ↓reduceIte, Nat.reduceEqDiff, reduceCtorEq, Nat.reduceLT, Nat.reduceBEq, Nat.reduceAdd, Nat.reduceSub, Nat.reduceMul, Nat.reduceMod, Nat.add_sub_cancel, hk0, List.take_length]
          refine hK39 _ ?_
          clear hK39 K39
          refine Tr.kp [6, 7] ?_
          simp only [pk_cons, pk_nil, ↓A_cons, ↓reduceIte, Nat.reduceEqDiff]
          refine Tr.seqK fun K41 hK41 => ?_
          refine Tr.rg hcx [1000068, 1000070] _ [] rfl rfl rfl ?_
          simp -implicitDefEqProofs (maxSteps := 2000000) (disch := first | omega | (simp only [go_sem, List.length_append, List.length_drop, List.length_take, hb1] <;> omega) | decide) only [go_sem, ↓reduceIte, Nat.reduceEqDiff, reduceCtorEq, Nat.reduceLT, Nat.reduceBEq, Nat.reduceAdd, Nat.reduceSub, Nat.reduceMul, Nat.reduceMod, Nat.add_sub_cancel, hk0, List.take_length]
          refine hK41 _ ?_
          clear hK41 K41
          refine Tr.kp [2, 3, 4] ?_
          simp only [pk_cons, pk_nil, ↓A_cons, ↓reduceIte, Nat.reduceEqDiff]
          refine Tr.ret ?_
          simp -implicitDefEqProofs (disch := first | omega | (simp only [go_sem, List.length_append, List.length_drop, List.length_take, hb1] <;> omega) | decide) only [go_sem, ↓reduceIte, Nat.reduceEqDiff, reduceCtorEq]
          all_goals (first | rfl | (rw [hbe, getI_1 hk hc24]; rfl) | (rw [hbe, getI_2 hk hc24 (by rw [← hbe]; exact hc27)]; rfl) | (rw [hbe, getI_3 hk hc24 (by rw [← hbe]; exact hc27) hk0 (by rw [← hbe]; exact hc32)]; rfl) | (rw [hbe, getI_4 hk hc24 (by rw [← hbe]; exact hc27) (by rw [← hbe]; first | exact fun h => hc32 h.2 | exact fun h => hk0 h.1) (by rw [← big63 _ hac2]; exact hc62)]; rfl) | (rw [hbe, getI_5 hk hc24 (by rw [← hbe]; exact hc27) (by rw [← hbe]; first | exact fun h => hc32 h.2 | exact fun h => hk0 h.1) (by rw [← big63 _ hac2]; exact hc62) (by rw [← flip_pos]; exact hc64)]; (rw [show ((18446744073709551615 - accF (flipOf x) (r.take k) : Nat) : Int) - 18446744073709551616 = -1 - (accF (flipOf x) (r.take k) : Int) by omega]; try rfl)) | (rw [hbe, getI_6 hk hc24 (by rw [← hbe]; exact hc27) (by rw [← hbe]; first | exact fun h => hc32 h.2 | exact fun h => hk0 h.1) (by rw [← big63 _ hac2]; exact hc62) (by rw [← flip_pos]; exact hc64)]; rfl))
         ·
          clear hT hF KT KF
          refine Tr.skip ?_
          refine hK39 _ ?_
          clear hK39 K39
          refine Tr.kp [6, 7] ?_
          simp only [pk_cons, pk_nil, ↓A_cons, ↓reduceIte, Nat.reduceEqDiff]
          refine Tr.seqK fun K42 hK42 => ?_
          refine Tr.rg hcx [1000068, 1000070] _ [] rfl rfl rfl ?_
          simp -implicitDefEqProofs (maxSteps := 2000000) (disch := first | omega | (simp only [go_sem, List.length_append, List.length_drop, List.length_take, hb1] <;> omega) | decide) only [go_sem, ↓reduceIte, Nat.reduceEqDiff, reduceCtorEq, Nat.reduceLT, Nat.reduceBEq, Nat.reduceAdd, Nat.reduceSub, Nat.reduceMul, Nat.reduceMod, Nat.add_sub_cancel, hk0, List.take_length]
          refine hK42 _ ?_
          clear hK42 K42
          refine Tr.kp [2, 3, 4] ?_
          simp only [pk_cons, pk_nil, ↓A_cons, ↓reduceIte, Nat.reduceEqDiff]
          refine Tr.ret ?_
          simp -implicitDefEqProofs (disch := first | omega | (simp only [go_sem, List.length_append, List.length_drop, List.length_take, hb1] <;> omega) | decide) only [go_sem, ↓reduceIte, Nat.reduceEqDiff, reduceCtorEq]
          all_goals (first | rfl | (rw [hbe, getI_1 hk hc24]; rfl) | (rw [hbe, getI_2 hk hc24 (by rw [← hbe]; exact hc27)]; rfl) | (rw [hbe, getI_3 hk hc24 (by rw [← hbe]; exact hc27) hk0 (by rw [← hbe]; exact hc32)]; rfl) | (rw [hbe, getI_4 hk hc24 (by rw [← hbe]; exact hc27) (by rw [← hbe]; first | exact fun h => hc32 h.2 | exact fun h => hk0 h.1) (by rw [← big63 _ hac2]; exact hc62)]; rfl) | (rw [hbe, getI_5 hk hc24 (by rw [← hbe]; exact hc27) (by rw [← hbe]; first | exact fun h => hc32 h.2 | exact fun h => hk0 h.1) (by rw [← big63 _ hac2]; exact hc62) (by rw [← flip_pos]; exact hc64)]; (rw [show ((18446744073709551615 - accF (flipOf x) (r.take k) : Nat) : Int) - 18446744073709551616 = -1 - (accF (flipOf x) (r.take k) : Int) by omega]; try rfl)) | (rw [hbe, getI_6 hk hc24 (by rw [← hbe]; exact hc27) (by rw [← hbe]; first | exact fun h => hc32 h.2 | exact fun h => hk0 h.1) (by rw [← big63 _ hac2]; exact hc62) (by rw [← flip_pos]; exact hc64)]; rfl))
end Go.Sx
namespace Go.Sx
open Go.RowKit Go.Proofs
end Go.Sx
namespace Go.Sx
open Go.RowKit Go.Proofs
def ofT (tag : Int) (parts : List (List UInt8)) : List UInt8 := (sha (inp tag parts)).take 16
theorem ofT_len (tag : Int) (parts : List (List UInt8)) : (ofT tag parts).length = 16 := by unfold ofT; rw [List.length_take, sha_len]; rfl
def wN (l : List Nat) : List UInt8 := wInts (l.map fun n => ((n : Nat) : Int))
theorem wN_len (l : List Nat) (h : ∀ x ∈ l, x < 9223372036854775808) (hl : l.length ≤ 3) : (wN l).length ≤ 36 := by
  have hr : ∀ x ∈ l.map (fun n => ((n : Nat) : Int)), -9223372036854775808 ≤ x ∧ x ≤ 9223372036854775807 := fun x hx => by
    obtain ⟨n, hn, rfl⟩ := List.mem_map.1 hx
    have := h n hn; omega
  have h1 := ints_le (l.map fun n => ((n : Nat) : Int)) hr (l.map fun n => ((n : Nat) : Int)).length (Nat.le_refl _)
  rw [List.take_length, List.length_map] at h1
  have h2 := wintn_len l.length (by omega)
  unfold wN wInts
  rw [List.length_append, List.length_map]; omega
theorem inp_len2 (tag : Int) (a b : List UInt8) (ha : a.length < 1000000) (hb : b.length < 1000000) : (inp tag [a, b]).length < 1099511627776 := by
  have h1 := wb_len a (by omega)
  have h2 := wb_len b (by omega)
  unfold inp
  simp only [List.flatMap_cons, List.flatMap_nil, List.append_nil, List.length_cons, List.length_append]; omega
theorem inp_len1 (tag : Int) (a : List UInt8) (ha : a.length < 1000000) : (inp tag [a]).length < 1099511627776 := by
  have h1 := wb_len a (by omega)
  unfold inp
  simp only [List.flatMap_cons, List.flatMap_nil, List.append_nil, List.length_cons]; omega
theorem inp_len3 (tag : Int) (a b c : List UInt8) (ha : a.length < 1000000) (hb : b.length < 1000000) (hc : c.length < 2000000) : (inp tag [a, b, c]).length < 1099511627776 := by
  have h1 := wb_len a (by omega)
  have h2 := wb_len b (by omega)
  have h3 := wb_len c (by omega)
  unfold inp
  simp only [List.flatMap_cons, List.flatMap_nil, List.append_nil, List.length_cons, List.length_append]; omega
/-- The value of a chain some steps further. -/
def advT (i c f : Nat) (v : List UInt8) : Nat → List UInt8
  | 0 => v
  | n + 1 => ofT 1 [wN [i, c, f + n], advT i c f v n]
theorem advT_len (i c f : Nat) {v : List UInt8} (h : v.length = 16) : ∀ n, (advT i c f v n).length = 16
  | 0 => h
  | n + 1 => ofT_len _ _
theorem advT_S (i c f t : Nat) (v : List UInt8) (h : f ≤ t) : ofT 1 [wN [i, c, t], advT i c f v (t - f)] = advT i c f v (t + 1 - f) := by
  rw [show t + 1 - f = (t - f) + 1 by omega, advT, show f + (t - f) = t by omega]
def chn5 : List UInt8 := [99, 104, 97, 105, 110]
def staT (seed : List UInt8) (i c : Nat) : List UInt8 := (hmac seed (chn5 ++ wN [i, c])).take 16
theorem staT_len (seed : List UInt8) (i c : Nat) : (staT seed i c).length = 16 := by unfold staT; rw [List.length_take, hmac_len]; rfl
def nodT (a b : List UInt8) : List UInt8 := ofT 4 [a, b]
theorem nodT_len (a b : List UInt8) : (nodT a b).length = 16 := ofT_len _ _
def msgT (p : List UInt8) (i : Int) (m : List UInt8) : List UInt8 := ofT 5 [p, wint i, m]
theorem msgT_len (p : List UInt8) (i : Int) (m : List UInt8) : (msgT p i m).length = 16 := ofT_len _ _
end Go.Sx
namespace Go.Sx
open Go.RowKit Go.Proofs
theorem sl_nI (l : List Nat) : sl nC .no l = sl iC .no (l.map fun n => ((n : Nat) : Int)) := by
  have : cl nC l = cl iC (l.map fun n => ((n : Nat) : Int)) := by
    induction l with
    | nil => rfl
    | cons a l ih => rw [List.map_cons]; show _ :: cl nC l = _ :: cl iC _; rw [ih]; rfl
  unfold sl; rw [this, List.length_map]
theorem rep2s (x y : List UInt8) : ((List.replicate 2 []).set 0 x).set 1 y = [x, y] := rfl
theorem rep3s (x y z : List UInt8) : (((List.replicate 3 []).set 0 x).set 1 y).set 2 z = [x, y, z] := rfl
theorem lay3n (i c j : Nat) : lay1s 3 (cl nC (List.replicate 3 0)) [(0, C.val (nI i)), (1, C.val (nI c)), (2, C.val (nI j))] = some (vp (sl nC .full [i, c, j])) := rfl
theorem lay2n (i c : Nat) : lay1s 2 (cl nC (List.replicate 2 0)) [(0, C.val (nI i)), (1, C.val (nI c))] = some (vp (sl nC .full [i, c])) := rfl
theorem t16 {a : List UInt8} (h : a.length = 16) : a.take 16 = a := List.take_of_length_le (by omega)
set_option maxRecDepth 100000 in
set_option maxHeartbeats 8000000 in
theorem fc48 {gl : Nat → C} {M : Nat} {pu : Nat → List C → Option C}  (hcx : CxOK (cxP gl M pu)) (h60 : ∀ l : List Int, l.length < 1099511627776 → (∀ x ∈ l, -9223372036854775808 ≤ x ∧ x ≤ 9223372036854775807) → pu 60 [sl iC .no l] = some (sl bC (.own 1) (wInts l))) (l : List Nat) (hl : l.length ≤ 3) (hr : ∀ x ∈ l, x < 9223372036854775808) : FC Tryd.prog gl 48 [sl nC .no l] [] (.val (str (wN l))) [] := by
 replace hcx := hcx.reN (M := 6)
 refine FC.ofA (cx := cxP gl 6 pu) (rs := [.tmp 2]) rfl Tryd.func48 rfl rfl rfl (by simp only [List.length_cons, List.length_nil]; decide) (by simp only [go_sem]) ?_
 simp only [ini, go_sem]
 have hl' : (l.map fun n => ((n : Nat) : Int)).length < 1099511627776 := by rw [List.length_map]; omega
 have hr' : ∀ x ∈ l.map (fun n => ((n : Nat) : Int)), -9223372036854775808 ≤ x ∧ x ≤ 9223372036854775807 := fun x hx => by
   obtain ⟨n, hn, rfl⟩ := List.mem_map.1 hx
   have := hr n hn; omega
 have hw := wN_len l hr hl
 have e : pu 60 [sl nC .no l] = some (sl bC (.own 1) (wN l)) := by rw [sl_nI]; exact h60 _ hl' hr'
 refine Tr.seqK fun K1 hK1 => ?_
 refine Tr.rg hcx [] _ [] rfl rfl rfl ?_
 simp -implicitDefEqProofs (maxSteps := 2000000) (disch := first | omega | (simp only [go_sem, List.length_append, List.length_drop, List.length_take] <;> omega) | decide) only [go_sem, ↓reduceIte, Nat.reduceEqDiff, reduceCtorEq, Nat.reduceLT, Nat.reduceBEq, Nat.reduceAdd, Nat.reduceSub, Nat.reduceMul, Nat.reduceMod, e]
 refine hK1 _ ?_
 clear hK1 K1
 refine Tr.kp [0] ?_
 simp only [pk_cons, pk_nil, ↓A_cons, ↓reduceIte, Nat.reduceEqDiff]
 refine Tr.seqK fun K2 hK2 => ?_
 refine Tr.rg hcx [1000005] _ [] rfl rfl rfl ?_
 simp -implicitDefEqProofs (maxSteps := 2000000) (disch := first | omega | (simp only [go_sem, List.length_append, List.length_drop, List.length_take] <;> omega) | decide) only [go_sem, ↓reduceIte, Nat.reduceEqDiff, reduceCtorEq, Nat.reduceLT, Nat.reduceBEq, Nat.reduceAdd, Nat.reduceSub, Nat.reduceMul, Nat.reduceMod, e]
 refine hK2 _ ?_
 clear hK2 K2
 refine Tr.kp [2] ?_
 simp only [pk_cons, pk_nil, ↓A_cons, ↓reduceIte, Nat.reduceEqDiff]
 refine Tr.ret ?_
 simp -implicitDefEqProofs (disch := first | omega | (simp only [go_sem, List.length_append, List.length_drop, List.length_take] <;> omega) | decide) only [go_sem, ↓reduceIte, Nat.reduceEqDiff, reduceCtorEq]
 all_goals (rfl)
set_option maxRecDepth 100000 in
set_option maxHeartbeats 8000000 in
theorem fc40 {gl : Nat → C} {M : Nat} {pu : Nat → List C → Option C}  (hcx : CxOK (cxP gl M pu)) (h34 : ∀ (tag : Int) (parts : List (List UInt8)), (inp tag parts).length < 1099511627776 → pu 34 [.val (.int .i64 tag), sl sC .no parts] = some (.agg (cl bC (ofT tag parts)))) (a b : List UInt8) (ha : a.length = 16) (hb : b.length = 16) : FC Tryd.prog gl 40 [.agg (cl bC a), .agg (cl bC b)] [] (.agg (cl bC (nodT a b))) [] := by
 replace hcx := hcx.reN (M := 11)
 refine FC.ofA (cx := cxP gl 11 pu) (rs := [.cell 4 23]) rfl Tryd.func40 rfl rfl rfl (by simp only [List.length_cons, List.length_nil]; decide) (by simp only [go_sem]) ?_
 simp only [ini, go_sem]
 have hin := inp_len2 4 a b (by omega) (by omega)
 have e : pu 34 [.val (nI 4), sl sC .no [a, b]] = some (.agg (cl bC (nodT a b))) := h34 4 [a, b] hin
 have ta := t16 ha
 have tb := t16 hb
 refine Tr.seqK fun K1 hK1 => ?_
 refine Tr.rg hcx [] _ [none, none, none] rfl rfl rfl ?_
 simp -implicitDefEqProofs (maxSteps := 2000000) (disch := first | omega | (simp only [go_sem, List.length_append, List.length_drop, List.length_take, ha, hb, nodT_len] <;> omega) | decide) only [go_sem, ↓reduceIte, Nat.reduceEqDiff, reduceCtorEq, Nat.reduceLT, Nat.reduceBEq, Nat.reduceAdd, Nat.reduceSub, Nat.reduceMul, Nat.reduceMod, rep2s, ta, tb, e]
 refine hK1 _ ?_
 clear hK1 K1
 refine Tr.kp [2, 3, 4] ?_
 simp only [pk_cons, pk_nil, ↓A_cons, ↓reduceIte, Nat.reduceEqDiff]
 refine Tr.seqK fun K2 hK2 => ?_
 refine Tr.rgD hcx hMO [] _ [] rfl rfl rfl rfl ?_
 simp -implicitDefEqProofs (maxSteps := 2000000) (disch := first | omega | (simp only [go_sem, List.length_append, List.length_drop, List.length_take, ha, hb, nodT_len] <;> omega) | decide) only [go_sem, ↓reduceIte, Nat.reduceEqDiff, reduceCtorEq, Nat.reduceLT, Nat.reduceBEq, Nat.reduceAdd, Nat.reduceSub, Nat.reduceMul, Nat.reduceMod, rep2s, ta, tb, e]
 with_reducible refine And.intro ?_ ?_
 · exact rfl
 refine hK2 _ ?_
 clear hK2 K2
 refine Tr.kp [4] ?_
 simp only [pk_cons, pk_nil, ↓A_cons, ↓reduceIte, Nat.reduceEqDiff]
 refine Tr.ret ?_
 simp -implicitDefEqProofs (disch := first | omega | (simp only [go_sem, List.length_append, List.length_drop, List.length_take, ha, hb, nodT_len] <;> omega) | decide) only [go_sem, ↓reduceIte, Nat.reduceEqDiff, reduceCtorEq]
 all_goals (rfl)
set_option maxRecDepth 100000 in
set_option maxHeartbeats 8000000 in
theorem fc27 {gl : Nat → C} {M : Nat} {pu : Nat → List C → Option C}  (hcx : CxOK (cxP gl M pu)) (h48 : ∀ l : List Nat, l.length ≤ 3 → (∀ x ∈ l, x < 9223372036854775808) → pu 48 [sl nC .no l] = some (.val (str (wN l)))) (h34 : ∀ (tag : Int) (parts : List (List UInt8)), (inp tag parts).length < 1099511627776 → pu 34 [.val (.int .i64 tag), sl sC .no parts] = some (.agg (cl bC (ofT tag parts)))) (i c f t : Nat) (v : List UInt8) (hv : v.length = 16) (hb : i < 1000000 ∧ c < 1000000 ∧ f < 1000000 ∧ t < 1000000) : FC Tryd.prog gl 27 [.val (nI i), .val (nI c), .val (nI f), .val (nI t), .agg (cl bC v)] [] (.agg (cl bC (advT i c f v (t - f)))) [] := by
 replace hcx := hcx.reN (M := 28)
 refine FC.ofA (cx := cxP gl 28 pu) (rs := [.cell 10 23]) rfl Tryd.func27 rfl rfl rfl (by simp only [List.length_cons, List.length_nil]; decide) (by simp only [go_sem]) ?_
 simp only [ini, go_sem]
 have hadv := fun n => advT_len i c f hv n
 have hlv := hv
 refine Tr.seqK fun K1 hK1 => ?_
 refine Tr.rg hcx [] _ [none, none] rfl rfl rfl ?_
 simp -implicitDefEqProofs (maxSteps := 2000000) (disch := first | omega | (simp only [go_sem, List.length_append, List.length_drop, List.length_take, hadv, ofT_len] <;> omega) | decide) only [go_sem, ↓reduceIte, Nat.reduceEqDiff, reduceCtorEq, Nat.reduceLT, Nat.reduceBEq, Nat.reduceAdd, Nat.reduceSub, Nat.reduceMul, Nat.reduceMod]
 refine hK1 _ ?_
 clear hK1 K1
 refine Tr.kp [0, 1, 2, 3, 9, 10] ?_
 simp only [pk_cons, pk_nil, ↓A_cons, ↓reduceIte, Nat.reduceEqDiff]
 refine Tr.seqK fun K2 hK2 => ?_
 refine Tr.seqK fun K3 hK3 => ?_
 refine Tr.rg hcx [1000012] _ [] rfl rfl rfl ?_
 simp -implicitDefEqProofs (maxSteps := 2000000) (disch := first | omega | (simp only [go_sem, List.length_append, List.length_drop, List.length_take, hadv, ofT_len] <;> omega) | decide) only [go_sem, ↓reduceIte, Nat.reduceEqDiff, reduceCtorEq, Nat.reduceLT, Nat.reduceBEq, Nat.reduceAdd, Nat.reduceSub, Nat.reduceMul, Nat.reduceMod]
 refine hK3 _ ?_
 clear hK3 K3
 refine Tr.kp [0, 1, 3, 9, 10, 11] ?_
 simp only [pk_cons, pk_nil, ↓A_cons, ↓reduceIte, Nat.reduceEqDiff]
 refine Tr.blk ?_
 refine Tr.loopI (α := Nat) (fun a => [(0, ?v0_26), (1, ?v1_26), (3, ?v3_26), (9, ?v9_26), (10, ?v10_26), (11, .val (nI a))]) (fun a => [some (cl bC (advT i c f v (a - f))), some (cl bC (List.replicate 16 0))]) (fun a => f ≤ a ∧ (a ≤ t ∨ a = f)) (fun a => t - a) (f) ⟨Nat.le_refl _, Or.inr rfl⟩ ?le_26 ?hh_26 ?bd_26
 case hh_26 => exact by rw [Nat.sub_self]; rfl
 case le_26 => (simp only [Le_nil, Le_cons, ↓A_cons, ↓reduceIte, Nat.reduceEqDiff, reduceCtorEq, CLe_refl, CLe_top, CLe_full, CLe_nil, CLe_own, and_true, true_and]; all_goals (repeat' first | exact CLe.refl _ | exact True.intro | (refine CLe_sln ?_; first | with_reducible rfl | (simp only [List.take_zero]; done) | (rfl; done)) | exact CLe_nI (by omega) | exact CLe_int (by omega) | exact CLe_inI (by omega) | exact CLe_nIi (by omega) | with_reducible apply And.intro))
 case bd_26 =>
  rintro j hj
  refine Tr.seqK fun K4 hK4 => ?_
  refine Tr.seqK fun K5 hK5 => ?_
  refine Tr.rg hcx [] _ [] rfl rfl rfl ?_
  simp -implicitDefEqProofs (maxSteps := 2000000) (disch := first | omega | (simp only [go_sem, List.length_append, List.length_drop, List.length_take, hadv, ofT_len] <;> omega) | decide) only [go_sem, ↓reduceIte, Nat.reduceEqDiff, reduceCtorEq, Nat.reduceLT, Nat.reduceBEq, Nat.reduceAdd, Nat.reduceSub, Nat.reduceMul, Nat.reduceMod]
  refine hK5 _ ?_
  clear hK5 K5
  refine Tr.kp [0, 1, 3, 9, 10, 11, 15] ?_
  simp only [pk_cons, pk_nil, ↓A_cons, ↓reduceIte, Nat.reduceEqDiff]
  refine Tr.condG fun KT KF hT hF => ?_
  simp only [ev_tmp, ev_const, ↓A_cons, ↓reduceIte, Nat.reduceEqDiff, reduceCtorEq, condG_bool, GB_true, GB_false, decide_eq_true_eq]
  refine GB.dec (fun hc15 => hT ?_) (fun hc15 => hF ?_)
  ·
   clear hT hF KT KF
   have hlj := hadv (j - f)
   have hwj := wN_len [i, c, j] (fun x hx => by simp at hx; omega) (by simp)
   have e := h48 [i, c, j] (by simp) (fun x hx => by simp at hx; omega)
   have eo : pu 34 [.val (nI 1), sl sC .no [wN [i, c, j], advT i c f v (j - f)]] = _ := h34 1 [wN [i, c, j], advT i c f v (j - f)] (inp_len2 _ _ _ (by omega) (by omega))
   have tt := t16 hlj
   refine Tr.skip ?_
   refine hK4 _ ?_
   clear hK4 K4
   refine Tr.kp [0, 1, 3, 9, 10, 11] ?_
   simp only [pk_cons, pk_nil, ↓A_cons, ↓reduceIte, Nat.reduceEqDiff]
   refine Tr.seqK fun K6 hK6 => ?_
   refine Tr.blk ?_
   refine Tr.rgD hcx hMO [] _ [] rfl rfl rfl rfl ?_
   simp -implicitDefEqProofs (maxSteps := 2000000) (disch := first | omega | (simp only [go_sem, List.length_append, List.length_drop, List.length_take, hadv, ofT_len] <;> omega) | decide) only [go_sem, ↓reduceIte, Nat.reduceEqDiff, reduceCtorEq, Nat.reduceLT, Nat.reduceBEq, Nat.reduceAdd, Nat.reduceSub, Nat.reduceMul, Nat.reduceMod, lay3n, rep2s, e, eo, tt]
   with_reducible refine And.intro ?_ ?_
   · exact rfl
   refine hK6 _ ?_
   clear hK6 K6
   refine Tr.kp [0, 1, 3, 9, 10, 11] ?_
   simp only [pk_cons, pk_nil, ↓A_cons, ↓reduceIte, Nat.reduceEqDiff]
   refine Tr.rg hcx [1000017] _ [] rfl rfl rfl ?_
   simp -implicitDefEqProofs (maxSteps := 2000000) (disch := first | omega | (simp only [go_sem, List.length_append, List.length_drop, List.length_take, hadv, ofT_len] <;> omega) | decide) only [go_sem, ↓reduceIte, Nat.reduceEqDiff, reduceCtorEq, Nat.reduceLT, Nat.reduceBEq, Nat.reduceAdd, Nat.reduceSub, Nat.reduceMul, Nat.reduceMod]
   refine ⟨j + 1, ⟨by omega, by first | omega | (simp only []; omega)⟩, ?_, by rw [advT_S i c f j v hj.1]⟩
   (simp only [Le_nil, Le_cons, ↓A_cons, ↓reduceIte, Nat.reduceEqDiff, reduceCtorEq, CLe_refl, CLe_top, CLe_full, CLe_nil, CLe_own, and_true, true_and]; all_goals (repeat' first | exact CLe.refl _ | exact True.intro | (refine CLe_sln ?_; first | with_reducible rfl | (simp only [List.take_zero]; done) | (rfl; done)) | exact CLe_nI (by omega) | exact CLe_int (by omega) | exact CLe_inI (by omega) | exact CLe_nIi (by omega) | with_reducible apply And.intro))
  ·
   clear hT hF KT KF
   have hlj := hadv (j - f)
   have hjt : advT i c f v (j - f) = advT i c f v (t - f) := by
     rw [show j - f = t - f by omega]
   refine Tr.exit ?_
   refine hK2 _ ?_
   clear hK4 K4 hK2 K2
   refine Tr.kp [9, 10] ?_
   simp only [pk_cons, pk_nil, ↓A_cons, ↓reduceIte, Nat.reduceEqDiff]
   refine Tr.seqK fun K7 hK7 => ?_
   refine Tr.rg hcx [] _ [] rfl rfl rfl ?_
   simp -implicitDefEqProofs (maxSteps := 2000000) (disch := first | omega | (simp only [go_sem, List.length_append, List.length_drop, List.length_take, hadv, ofT_len] <;> omega) | decide) only [go_sem, ↓reduceIte, Nat.reduceEqDiff, reduceCtorEq, Nat.reduceLT, Nat.reduceBEq, Nat.reduceAdd, Nat.reduceSub, Nat.reduceMul, Nat.reduceMod]
   refine hK7 _ ?_
   clear hK7 K7
   refine Tr.kp [10] ?_
   simp only [pk_cons, pk_nil, ↓A_cons, ↓reduceIte, Nat.reduceEqDiff]
   refine Tr.ret ?_
   simp -implicitDefEqProofs (disch := first | omega | (simp only [go_sem, List.length_append, List.length_drop, List.length_take, hadv, ofT_len] <;> omega) | decide) only [go_sem, ↓reduceIte, Nat.reduceEqDiff, reduceCtorEq]
   all_goals (rw [hjt])
end Go.Sx
