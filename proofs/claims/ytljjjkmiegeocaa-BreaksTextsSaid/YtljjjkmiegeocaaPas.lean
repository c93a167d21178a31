/-
  Package breaks: tokens (K2).
-/
import Derived.Test.YtljjjkmiegeocaaPar
set_option linter.unusedSimpArgs false
set_option linter.unusedVariables false
namespace Go.Sx
open Go.RowKit Go.Proofs
theorem kdI_neg {c : UInt8} : kdI c < 0 ↔ c = 32 := by unfold kdI; split <;> simp_all
theorem kdI_of {c : UInt8} (h : ¬ kdI c < 0) : kdI c = (kd c : Int) := by
  rw [kdI_neg] at h; unfold kdI; rw [if_neg h]
theorem int_nIT (n : Nat) : Value.int .i64 (n : Int) = nI n := rfl
def prv (s : List UInt8) (p : Nat) : Option UInt8 := if p = 0 then none else some (gt s (p - 1))
def stp (p : Nat) (prev : Option UInt8) (out : List Tok) (c : UInt8) : List Tok :=
  if c = 32 then out else if out ≠ [] ∧ kd c < 2 ∧ prev.map kd = some (kd c) then out.dropLast ++ [⟨(out.getLastD default).a, p + 1, (out.getLastD default).k⟩] else out ++ [⟨p, p + 1, kd c⟩]
theorem rfs_step {s : List UInt8} {p : Nat} {out : List Tok} (h : p < s.length) (hr : rfs p (prv s p) out (s.drop p) = toks s) : rfs (p + 1) (prv s (p + 1)) (stp p (prv s p) out (gt s p)) (s.drop (p + 1)) = toks s := by
  rw [List.drop_eq_getElem_cons h] at hr
  have e : s[p] = gt s p := by simp [gt, List.getD, List.getElem?_eq_getElem h]
  rw [e] at hr
  have e2 : prv s (p + 1) = some (gt s p) := by simp [prv]
  rw [e2, ← hr]; rfl
theorem stp_blank {p : Nat} {q : Option UInt8} {out : List Tok} {c : UInt8} (h : kdI c < 0) : stp p q out c = out := if_pos (kdI_neg.1 h)
theorem prv_kd {s : List UInt8} {p : Nat} {c : UInt8} (h3 : kdI c < 2) (h0 : ¬ kdI c < 0) : (prv s p).map kd = some (kd c) ↔ 0 < p ∧ kdI (gt s (p - 1)) = kdI c := by
  have hk := kdI_of h0
  unfold prv
  by_cases hp : p = 0
  · subst hp; simp
  · rw [if_neg hp]
    simp only [Option.map_some, Option.some.injEq]
    have hp' : 0 < p := by omega
    unfold kdI at hk ⊢
    have hc : c ≠ 32 := fun e => h0 (kdI_neg.2 e)
    rw [if_neg hc]
    by_cases hb : gt s (p - 1) = 32
    · rw [hb]
      have : kd 32 = 2 := kd_blank
      have h4 : kd c < 2 := by unfold kdI at h3; rw [if_neg hc] at h3; omega
      simp only [this, if_true]
      omega
    · rw [if_neg hb]; omega
theorem set_last {l : List Tok} (h : 0 < l.length) (x : Tok) : l.set (l.length - 1) x = l.dropLast ++ [x] := by
  rw [List.set_eq_take_append_cons_drop, if_pos (by omega), List.dropLast_eq_take, List.drop_of_length_le (by omega)]
theorem gt_last {l : List Tok} (h : 0 < l.length) : gt l (l.length - 1) = l.getLastD default := by
  unfold gt
  simp [List.getD, List.getLastD_eq_getLast?, List.getLast?_eq_getElem?]
theorem stp_ext {s : List UInt8} {p : Nat} {out : List Tok} {c : UInt8} (h0 : ¬ kdI c < 0) (h1 : 0 < out.length) (h2 : 0 < p) (h3 : kdI c < 2) (h4 : kdI (gt s (p - 1)) = kdI c) :
    stp p (prv s p) out c = out.set (out.length - 1) ⟨(gt out (out.length - 1)).a, p + 1, (gt out (out.length - 1)).k⟩ := by
  unfold stp
  rw [if_neg (fun e => h0 (kdI_neg.2 e)), if_pos ⟨(by intro e; rw [e] at h1; cases h1), (by have := kdI_of h0; omega), (prv_kd h3 h0).2 ⟨h2, h4⟩⟩, set_last h1, gt_last h1]
theorem stp_new {s : List UInt8} {p : Nat} {out : List Tok} {c : UInt8} (h0 : ¬ kdI c < 0) (h : ¬ (0 < out.length ∧ 0 < p ∧ kdI c < 2 ∧ kdI (gt s (p - 1)) = kdI c)) :
    stp p (prv s p) out c = out ++ [⟨p, p + 1, kd c⟩] := by
  unfold stp
  rw [if_neg (fun e => h0 (kdI_neg.2 e)), if_neg]
  rintro ⟨q1, q2, q3⟩
  have h3 : kdI c < 2 := by have := kdI_of h0; omega
  have := (prv_kd h3 h0).1 q3
  exact h ⟨List.length_pos_iff.2 q1, this.1, h3, this.2⟩
theorem lt2 {x : Int} (h : x < ((2 : Nat) : Int)) : x < 2 := h
theorem stp_len (p : Nat) (q : Option UInt8) (out : List Tok) (c : UInt8) : (stp p q out c).length ≤ out.length + 1 := by
  unfold stp
  split
  · omega
  · split
    · rename_i h
      have := List.length_pos_iff.2 h.1
      simp only [List.length_append, List.length_dropLast, List.length_singleton]; omega
    · simp
set_option maxRecDepth 100000 in
set_option maxHeartbeats 8000000 in
theorem fc48 {gl : Nat → C} {M : Nat} {pu : Nat → List C → Option C}  (hcx : CxOK (cxP gl M pu)) (h56 : ∀ c : UInt8, pu 56 [.val (w8 c)] = some (.val (.int .i64 (kdI c)))) (s : List UInt8) (hs : s.length ≤ 1000000) : FC Try.prog gl 48 [.val (str s)] [] (sl tC .no (toks s)) [] := by
 replace hcx := hcx.reN (M := 56)
 refine FC.ofA (cx := cxP gl 56 pu) (rs := [.tmp 2]) rfl Try.func48 rfl rfl rfl (by simp only [List.length_cons, List.length_nil]; decide) (by simp only [go_sem]) ?_
 simp only [ini, go_sem]
 refine Tr.seqK fun K1 hK1 => ?_
 refine Tr.rg hcx [] _ [] rfl rfl rfl ?_
 simp -implicitDefEqProofs (maxSteps := 2000000) (disch := first | omega | (simp only [go_sem, List.length_append, List.length_drop, List.length_take] <;> omega) | decide) only [go_sem, ↓reduceIte, Nat.reduceEqDiff, reduceCtorEq, Nat.reduceLT, Nat.reduceBEq, Nat.reduceAdd, Nat.reduceSub, Nat.reduceMul, Nat.reduceMod, h56, Nat.zero_add]
 refine hK1 _ ?_
 clear hK1 K1
 refine Tr.kp [0] ?_
 simp only [pk_cons, pk_nil, ↓A_cons, ↓reduceIte, Nat.reduceEqDiff]
 refine Tr.seqK fun K2 hK2 => ?_
 refine Tr.rg hcx [] _ [] rfl rfl rfl ?_
 simp -implicitDefEqProofs (maxSteps := 2000000) (disch := first | omega | (simp only [go_sem, List.length_append, List.length_drop, List.length_take] <;> omega) | decide) only [go_sem, ↓reduceIte, Nat.reduceEqDiff, reduceCtorEq, Nat.reduceLT, Nat.reduceBEq, Nat.reduceAdd, Nat.reduceSub, Nat.reduceMul, Nat.reduceMod, h56, Nat.zero_add]
 refine hK2 _ ?_
 clear hK2 K2
 refine Tr.kp [0, 3] ?_
 simp only [pk_cons, pk_nil, ↓A_cons, ↓reduceIte, Nat.reduceEqDiff]
 refine Tr.seqK fun K3 hK3 => ?_
 refine Tr.seqK fun K4 hK4 => ?_
 refine Tr.rg hcx [] _ [] rfl rfl rfl ?_
 simp -implicitDefEqProofs (maxSteps := 2000000) (disch := first | omega | (simp only [go_sem, List.length_append, List.length_drop, List.length_take] <;> omega) | decide) only [go_sem, ↓reduceIte, Nat.reduceEqDiff, reduceCtorEq, Nat.reduceLT, Nat.reduceBEq, Nat.reduceAdd, Nat.reduceSub, Nat.reduceMul, Nat.reduceMod, h56, Nat.zero_add]
 refine hK4 _ ?_
 clear hK4 K4
 refine Tr.kp [0, 3, 4] ?_
 simp only [pk_cons, pk_nil, ↓A_cons, ↓reduceIte, Nat.reduceEqDiff]
 refine Tr.blk ?_
 refine Tr.virt ?_
 simp only [List.nil_append]
 refine Tr.loopM hcx (α := (Nat × List Tok)) (fun a => [(0, ?v0_8), (3, .gv 0 a.2.length 3), (4, .val (nI a.1))]) (fun a => [some (cl tC a.2)]) (fun a => a.1 ≤ s.length ∧ a.2.length ≤ a.1 ∧ rfs a.1 (prv s a.1) a.2 (s.drop a.1) = toks s) (fun a => s.length - a.1) ((0, [])) ⟨Nat.zero_le _, Nat.le_refl _, rfs_toks s⟩ ?le_8 ?hh_8 ?bd_8
 case hh_8 => exact rfl
 case le_8 => (simp only [Le_nil, Le_cons, ↓A_cons, ↓reduceIte, Nat.reduceEqDiff, reduceCtorEq, CLe_refl, CLe_top, CLe_full, CLe_nil, CLe_own, and_true, true_and]; all_goals (repeat' first | exact CLe.refl _ | exact True.intro | (refine CLe_sln ?_; first | with_reducible rfl | (simp only [List.take_zero]; done) | (rfl; done)) | exact CLe_nI (by omega) | exact CLe_int (by omega) | exact CLe_inI (by omega) | exact CLe_nIi (by omega) | with_reducible apply And.intro)); all_goals first | exact CLe.nilG 0 3 | exact CLe.refl _
 case bd_8 =>
  rintro ⟨i, out⟩ ⟨hi, hlen, hr⟩
  dsimp only at *
  refine Tr.seqK fun K5 hK5 => ?_
  refine Tr.seqK fun K6 hK6 => ?_
  refine Tr.rg hcx [] _ [] rfl rfl rfl ?_
  simp -implicitDefEqProofs (maxSteps := 2000000) (disch := first | omega | (simp only [go_sem, List.length_append, List.length_drop, List.length_take] <;> omega) | decide) only [go_sem, ↓reduceIte, Nat.reduceEqDiff, reduceCtorEq, Nat.reduceLT, Nat.reduceBEq, Nat.reduceAdd, Nat.reduceSub, Nat.reduceMul, Nat.reduceMod, h56, Nat.zero_add]
  refine hK6 _ ?_
  clear hK6 K6
  refine Tr.kp [0, 3, 4, 10] ?_
  simp only [pk_cons, pk_nil, ↓A_cons, ↓reduceIte, Nat.reduceEqDiff]
  refine Tr.condG fun KT KF hT hF => ?_
  simp only [ev_tmp, ev_const, ↓A_cons, ↓reduceIte, Nat.reduceEqDiff, reduceCtorEq, condG_bool, GB_true, GB_false, decide_eq_true_eq]
  refine GB.dec (fun hc10 => hT ?_) (fun hc10 => hF ?_)
  ·
   clear hT hF KT KF
   refine Tr.skip ?_
   refine hK5 _ ?_
   clear hK5 K5
   refine Tr.kp [0, 3, 4] ?_
   simp only [pk_cons, pk_nil, ↓A_cons, ↓reduceIte, Nat.reduceEqDiff]
   refine Tr.seqK fun K7 hK7 => ?_
   refine Tr.blk ?_
   refine Tr.seqK fun K8 hK8 => ?_
   refine Tr.rg hcx [1000016] _ [] rfl rfl rfl ?_
   simp -implicitDefEqProofs (maxSteps := 2000000) (disch := first | omega | (simp only [go_sem, List.length_append, List.length_drop, List.length_take] <;> omega) | decide) only [go_sem, ↓reduceIte, Nat.reduceEqDiff, reduceCtorEq, Nat.reduceLT, Nat.reduceBEq, Nat.reduceAdd, Nat.reduceSub, Nat.reduceMul, Nat.reduceMod, h56, Nat.zero_add]
   refine hK8 _ ?_
   clear hK8 K8
   refine Tr.kp [0, 3, 4, 5] ?_
   simp only [pk_cons, pk_nil, ↓A_cons, ↓reduceIte, Nat.reduceEqDiff]
   refine Tr.seqK fun K9 hK9 => ?_
   refine Tr.rg hcx [1000018] _ [] rfl rfl rfl ?_
   simp -implicitDefEqProofs (maxSteps := 2000000) (disch := first | omega | (simp only [go_sem, List.length_append, List.length_drop, List.length_take] <;> omega) | decide) only [go_sem, ↓reduceIte, Nat.reduceEqDiff, reduceCtorEq, Nat.reduceLT, Nat.reduceBEq, Nat.reduceAdd, Nat.reduceSub, Nat.reduceMul, Nat.reduceMod, h56, Nat.zero_add]
   refine hK9 _ ?_
   clear hK9 K9
   refine Tr.kp [0, 3, 4, 5, 6] ?_
   simp only [pk_cons, pk_nil, ↓A_cons, ↓reduceIte, Nat.reduceEqDiff]
   refine Tr.seqK fun K10 hK10 => ?_
   refine Tr.seqK fun K11 hK11 => ?_
   refine Tr.rg hcx [] _ [] rfl rfl rfl ?_
   simp -implicitDefEqProofs (maxSteps := 2000000) (disch := first | omega | (simp only [go_sem, List.length_append, List.length_drop, List.length_take] <;> omega) | decide) only [go_sem, ↓reduceIte, Nat.reduceEqDiff, reduceCtorEq, Nat.reduceLT, Nat.reduceBEq, Nat.reduceAdd, Nat.reduceSub, Nat.reduceMul, Nat.reduceMod, h56, Nat.zero_add]
   refine hK11 _ ?_
   clear hK11 K11
   refine Tr.kp [0, 3, 4, 5, 6, 20] ?_
   simp only [pk_cons, pk_nil, ↓A_cons, ↓reduceIte, Nat.reduceEqDiff]
   refine Tr.condG fun KT KF hT hF => ?_
   simp only [ev_tmp, ev_const, ↓A_cons, ↓reduceIte, Nat.reduceEqDiff, reduceCtorEq, condG_bool, GB_true, GB_false, decide_eq_true_eq]
   refine GB.dec (fun hc20 => hT ?_) (fun hc20 => hF ?_)
   ·
    clear hT hF KT KF
    refine Tr.exit ?_
    refine hK7 _ ?_
    clear hK10 K10 hK7 K7
    refine Tr.kp [0, 3, 4] ?_
    simp only [pk_cons, pk_nil, ↓A_cons, ↓reduceIte, Nat.reduceEqDiff]
    refine Tr.rg hcx [1000012] _ [] rfl rfl rfl ?_
    simp -implicitDefEqProofs (maxSteps := 2000000) (disch := first | omega | (simp only [go_sem, List.length_append, List.length_drop, List.length_take] <;> omega) | decide) only [go_sem, ↓reduceIte, Nat.reduceEqDiff, reduceCtorEq, Nat.reduceLT, Nat.reduceBEq, Nat.reduceAdd, Nat.reduceSub, Nat.reduceMul, Nat.reduceMod, h56, Nat.zero_add]
    first
    | (refine ⟨[0], ⟨by decide, by decide, by decide⟩, (i + 1, stp i (prv s i) out (gt s i)), ⟨⟨hc10, Nat.le_trans (stp_len _ _ _ _) (Nat.succ_le_succ hlen), rfs_step hc10 hr⟩, by simp only []; omega⟩, ?_, by simp only [mvH_eq, mvHa_nil, mvHa_cons, hget_0, hget_S, Option.map_some, Option.map_none, mvCs_cl, mvCs_f, mvCs_nil, mvCs_cons, mvC_val, mvC_top, mvC_sl, mvC_gv, mvC_sv, mvC_bp, mvC_agg, mvC_kp, mvGv_some, mvGv_none, mvSv_some, mvSv_none, mvBp_some, mvBp_none, loc_nil, loc_cons, ↓reduceIte, Nat.reduceEqDiff, reduceCtorEq, Nat.reduceAdd, Nat.zero_add]; first | rw [stp_blank hc20] | rw [stp_ext (s := s) hc20 b1 b2 (lt2 b3) hc39] | rw [stp_new (s := s) hc20 (by intro hh; first | exact b1 hh.1 | exact b2 hh.2.1 | exact b3 hh.2.2.1 | exact hc39 hh.2.2.2)]⟩; ((simp only [Le_nil, Le_cons, ↓A_cons, CLe_refl, CLe_top, CLe_full, CLe_nil, CLe_own, and_true, true_and, mvH_eq, mvHa_nil, mvHa_cons, hget_0, hget_S, Option.map_some, Option.map_none, mvCs_cl, mvCs_f, mvCs_nil, mvCs_cons, mvC_val, mvC_top, mvC_sl, mvC_gv, mvC_sv, mvC_bp, mvC_agg, mvC_kp, mvGv_some, mvGv_none, mvSv_some, mvSv_none, mvBp_some, mvBp_none, loc_nil, loc_cons, ↓reduceIte, Nat.reduceEqDiff, reduceCtorEq, Nat.reduceAdd, Nat.zero_add]; all_goals (repeat' first | exact CLe.refl _ | exact True.intro | (with_reducible refine And.intro ?_ ?_)))); (all_goals first | exact CLe.refl _ | (rw [stp_blank hc20]; exact CLe.refl _) | (rw [stp_ext (s := s) hc20 b1 b2 (lt2 b3) hc39, List.length_set]; exact CLe.refl _) | (rw [stp_new (s := s) hc20 (by intro hh; first | exact b1 hh.1 | exact b2 hh.2.1 | exact b3 hh.2.2.1 | exact hc39 hh.2.2.2)]; exact CLe.refl _)); done)
    | (refine ⟨[1], ⟨by decide, by decide, by decide⟩, (i + 1, stp i (prv s i) out (gt s i)), ⟨⟨hc10, Nat.le_trans (stp_len _ _ _ _) (Nat.succ_le_succ hlen), rfs_step hc10 hr⟩, by simp only []; omega⟩, ?_, by simp only [mvH_eq, mvHa_nil, mvHa_cons, hget_0, hget_S, Option.map_some, Option.map_none, mvCs_cl, mvCs_f, mvCs_nil, mvCs_cons, mvC_val, mvC_top, mvC_sl, mvC_gv, mvC_sv, mvC_bp, mvC_agg, mvC_kp, mvGv_some, mvGv_none, mvSv_some, mvSv_none, mvBp_some, mvBp_none, loc_nil, loc_cons, ↓reduceIte, Nat.reduceEqDiff, reduceCtorEq, Nat.reduceAdd, Nat.zero_add]; first | rw [stp_blank hc20] | rw [stp_ext (s := s) hc20 b1 b2 (lt2 b3) hc39] | rw [stp_new (s := s) hc20 (by intro hh; first | exact b1 hh.1 | exact b2 hh.2.1 | exact b3 hh.2.2.1 | exact hc39 hh.2.2.2)]⟩; ((simp only [Le_nil, Le_cons, ↓A_cons, CLe_refl, CLe_top, CLe_full, CLe_nil, CLe_own, and_true, true_and, mvH_eq, mvHa_nil, mvHa_cons, hget_0, hget_S, Option.map_some, Option.map_none, mvCs_cl, mvCs_f, mvCs_nil, mvCs_cons, mvC_val, mvC_top, mvC_sl, mvC_gv, mvC_sv, mvC_bp, mvC_agg, mvC_kp, mvGv_some, mvGv_none, mvSv_some, mvSv_none, mvBp_some, mvBp_none, loc_nil, loc_cons, ↓reduceIte, Nat.reduceEqDiff, reduceCtorEq, Nat.reduceAdd, Nat.zero_add]; all_goals (repeat' first | exact CLe.refl _ | exact True.intro | (with_reducible refine And.intro ?_ ?_)))); (all_goals first | exact CLe.refl _ | (rw [stp_blank hc20]; exact CLe.refl _) | (rw [stp_ext (s := s) hc20 b1 b2 (lt2 b3) hc39, List.length_set]; exact CLe.refl _) | (rw [stp_new (s := s) hc20 (by intro hh; first | exact b1 hh.1 | exact b2 hh.2.1 | exact b3 hh.2.2.1 | exact hc39 hh.2.2.2)]; exact CLe.refl _)); done)
   ·
    clear hT hF KT KF
    refine Tr.skip ?_
    refine hK10 _ ?_
    clear hK10 K10
    refine Tr.kp [0, 3, 4, 5, 6] ?_
    simp only [pk_cons, pk_nil, ↓A_cons, ↓reduceIte, Nat.reduceEqDiff]
    refine Tr.seqK fun K12 hK12 => ?_
    refine Tr.seqK fun K13 hK13 => ?_
    by_cases b1 : 0 < out.length
    ·
     by_cases b2 : 0 < i
     ·
      by_cases b3 : kdI (gt s i) < ((2 : Nat) : Int)
      ·
       refine Tr.rg hcx [] [some 21, some 22, some 23, some 24, some 25, some 26, some 27, some 28, some 29, some 30, some 31, some 32, some 33, some 34, some 35, some 36, some 37, some 38, some 39] [] rfl rfl rfl ?_
       simp -implicitDefEqProofs (maxSteps := 2000000) (disch := first | omega | (simp only [go_sem, List.length_append, List.length_drop, List.length_take] <;> omega) | decide) only [go_sem, ↓reduceIte, Nat.reduceEqDiff, reduceCtorEq, Nat.reduceLT, Nat.reduceBEq, Nat.reduceAdd, Nat.reduceSub, Nat.reduceMul, Nat.reduceMod, h56, Nat.zero_add, b1, b2, b3]
       refine hK13 _ ?_
       clear hK13 K13
       refine Tr.kp [0, 3, 4, 5, 6, 39] ?_
       simp only [pk_cons, pk_nil, ↓A_cons, ↓reduceIte, Nat.reduceEqDiff]
       refine Tr.condG fun KT KF hT hF => ?_
       simp only [ev_tmp, ev_const, ↓A_cons, ↓reduceIte, Nat.reduceEqDiff, reduceCtorEq, condG_bool, GB_true, GB_false, decide_eq_true_eq]
       refine GB.dec (fun hc39 => hT ?_) (fun hc39 => hF ?_)
       ·
        clear hT hF KT KF
        refine Tr.seqK fun K14 hK14 => ?_
        refine Tr.rg hcx [] _ [] rfl rfl rfl ?_
        simp -implicitDefEqProofs (maxSteps := 2000000) (disch := first | omega | (simp only [go_sem, List.length_append, List.length_drop, List.length_take] <;> omega) | decide) only [go_sem, ↓reduceIte, Nat.reduceEqDiff, reduceCtorEq, Nat.reduceLT, Nat.reduceBEq, Nat.reduceAdd, Nat.reduceSub, Nat.reduceMul, Nat.reduceMod, h56, Nat.zero_add, b1, b2, b3, List.length_set]
        refine hK14 _ ?_
        clear hK14 K14
        refine Tr.exit ?_
        refine hK7 _ ?_
        clear hK12 K12 hK7 K7
        refine Tr.kp [0, 3, 4] ?_
        simp only [pk_cons, pk_nil, ↓A_cons, ↓reduceIte, Nat.reduceEqDiff]
        refine Tr.rg hcx [1000012] _ [] rfl rfl rfl ?_
        simp -implicitDefEqProofs (maxSteps := 2000000) (disch := first | omega | (simp only [go_sem, List.length_append, List.length_drop, List.length_take] <;> omega) | decide) only [go_sem, ↓reduceIte, Nat.reduceEqDiff, reduceCtorEq, Nat.reduceLT, Nat.reduceBEq, Nat.reduceAdd, Nat.reduceSub, Nat.reduceMul, Nat.reduceMod, h56, Nat.zero_add, b1, b2, b3]
        first
        | (refine ⟨[0], ⟨by decide, by decide, by decide⟩, (i + 1, stp i (prv s i) out (gt s i)), ⟨⟨hc10, Nat.le_trans (stp_len _ _ _ _) (Nat.succ_le_succ hlen), rfs_step hc10 hr⟩, by simp only []; omega⟩, ?_, by simp only [mvH_eq, mvHa_nil, mvHa_cons, hget_0, hget_S, Option.map_some, Option.map_none, mvCs_cl, mvCs_f, mvCs_nil, mvCs_cons, mvC_val, mvC_top, mvC_sl, mvC_gv, mvC_sv, mvC_bp, mvC_agg, mvC_kp, mvGv_some, mvGv_none, mvSv_some, mvSv_none, mvBp_some, mvBp_none, loc_nil, loc_cons, ↓reduceIte, Nat.reduceEqDiff, reduceCtorEq, Nat.reduceAdd, Nat.zero_add]; first | rw [stp_blank hc20] | rw [stp_ext (s := s) hc20 b1 b2 (lt2 b3) hc39] | rw [stp_new (s := s) hc20 (by intro hh; first | exact b1 hh.1 | exact b2 hh.2.1 | exact b3 hh.2.2.1 | exact hc39 hh.2.2.2)]⟩; ((simp only [Le_nil, Le_cons, ↓A_cons, CLe_refl, CLe_top, CLe_full, CLe_nil, CLe_own, and_true, true_and, mvH_eq, mvHa_nil, mvHa_cons, hget_0, hget_S, Option.map_some, Option.map_none, mvCs_cl, mvCs_f, mvCs_nil, mvCs_cons, mvC_val, mvC_top, mvC_sl, mvC_gv, mvC_sv, mvC_bp, mvC_agg, mvC_kp, mvGv_some, mvGv_none, mvSv_some, mvSv_none, mvBp_some, mvBp_none, loc_nil, loc_cons, ↓reduceIte, Nat.reduceEqDiff, reduceCtorEq, Nat.reduceAdd, Nat.zero_add]; all_goals (repeat' first | exact CLe.refl _ | exact True.intro | (with_reducible refine And.intro ?_ ?_)))); (all_goals first | exact CLe.refl _ | (rw [stp_blank hc20]; exact CLe.refl _) | (rw [stp_ext (s := s) hc20 b1 b2 (lt2 b3) hc39, List.length_set]; exact CLe.refl _) | (rw [stp_new (s := s) hc20 (by intro hh; first | exact b1 hh.1 | exact b2 hh.2.1 | exact b3 hh.2.2.1 | exact hc39 hh.2.2.2)]; exact CLe.refl _)); done)
        | (refine ⟨[1], ⟨by decide, by decide, by decide⟩, (i + 1, stp i (prv s i) out (gt s i)), ⟨⟨hc10, Nat.le_trans (stp_len _ _ _ _) (Nat.succ_le_succ hlen), rfs_step hc10 hr⟩, by simp only []; omega⟩, ?_, by simp only [mvH_eq, mvHa_nil, mvHa_cons, hget_0, hget_S, Option.map_some, Option.map_none, mvCs_cl, mvCs_f, mvCs_nil, mvCs_cons, mvC_val, mvC_top, mvC_sl, mvC_gv, mvC_sv, mvC_bp, mvC_agg, mvC_kp, mvGv_some, mvGv_none, mvSv_some, mvSv_none, mvBp_some, mvBp_none, loc_nil, loc_cons, ↓reduceIte, Nat.reduceEqDiff, reduceCtorEq, Nat.reduceAdd, Nat.zero_add]; first | rw [stp_blank hc20] | rw [stp_ext (s := s) hc20 b1 b2 (lt2 b3) hc39] | rw [stp_new (s := s) hc20 (by intro hh; first | exact b1 hh.1 | exact b2 hh.2.1 | exact b3 hh.2.2.1 | exact hc39 hh.2.2.2)]⟩; ((simp only [Le_nil, Le_cons, ↓A_cons, CLe_refl, CLe_top, CLe_full, CLe_nil, CLe_own, and_true, true_and, mvH_eq, mvHa_nil, mvHa_cons, hget_0, hget_S, Option.map_some, Option.map_none, mvCs_cl, mvCs_f, mvCs_nil, mvCs_cons, mvC_val, mvC_top, mvC_sl, mvC_gv, mvC_sv, mvC_bp, mvC_agg, mvC_kp, mvGv_some, mvGv_none, mvSv_some, mvSv_none, mvBp_some, mvBp_none, loc_nil, loc_cons, ↓reduceIte, Nat.reduceEqDiff, reduceCtorEq, Nat.reduceAdd, Nat.zero_add]; all_goals (repeat' first | exact CLe.refl _ | exact True.intro | (with_reducible refine And.intro ?_ ?_)))); (all_goals first | exact CLe.refl _ | (rw [stp_blank hc20]; exact CLe.refl _) | (rw [stp_ext (s := s) hc20 b1 b2 (lt2 b3) hc39, List.length_set]; exact CLe.refl _) | (rw [stp_new (s := s) hc20 (by intro hh; first | exact b1 hh.1 | exact b2 hh.2.1 | exact b3 hh.2.2.1 | exact hc39 hh.2.2.2)]; exact CLe.refl _)); done)
       ·
        clear hT hF KT KF
        refine Tr.skip ?_
        refine hK12 _ ?_
        clear hK12 K12
        refine Tr.kp [0, 3, 4, 5] ?_
        simp only [pk_cons, pk_nil, ↓A_cons, ↓reduceIte, Nat.reduceEqDiff]
        refine Tr.rgG hcx [54] [47, 1000054] _ [] rfl rfl rfl ?_
        simp -implicitDefEqProofs (maxSteps := 2000000) (disch := first | omega | (simp only [go_sem, List.length_append, List.length_drop, List.length_take] <;> omega) | decide) only [go_sem, ↓reduceIte, Nat.reduceEqDiff, reduceCtorEq, Nat.reduceLT, Nat.reduceBEq, Nat.reduceAdd, Nat.reduceSub, Nat.reduceMul, Nat.reduceMod, h56, Nat.zero_add, b1, b2, b3, kdI_of hc20, int_nIT]
        refine hK7 _ ?_
        clear hK7 K7
        refine Tr.kp [0, 3, 4] ?_
        simp only [pk_cons, pk_nil, ↓A_cons, ↓reduceIte, Nat.reduceEqDiff]
        refine Tr.rg hcx [1000012] _ [] rfl rfl rfl ?_
        simp -implicitDefEqProofs (maxSteps := 2000000) (disch := first | omega | (simp only [go_sem, List.length_append, List.length_drop, List.length_take] <;> omega) | decide) only [go_sem, ↓reduceIte, Nat.reduceEqDiff, reduceCtorEq, Nat.reduceLT, Nat.reduceBEq, Nat.reduceAdd, Nat.reduceSub, Nat.reduceMul, Nat.reduceMod, h56, Nat.zero_add, b1, b2, b3]
        first
        | (refine ⟨[0], ⟨by decide, by decide, by decide⟩, (i + 1, stp i (prv s i) out (gt s i)), ⟨⟨hc10, Nat.le_trans (stp_len _ _ _ _) (Nat.succ_le_succ hlen), rfs_step hc10 hr⟩, by simp only []; omega⟩, ?_, by simp only [mvH_eq, mvHa_nil, mvHa_cons, hget_0, hget_S, Option.map_some, Option.map_none, mvCs_cl, mvCs_f, mvCs_nil, mvCs_cons, mvC_val, mvC_top, mvC_sl, mvC_gv, mvC_sv, mvC_bp, mvC_agg, mvC_kp, mvGv_some, mvGv_none, mvSv_some, mvSv_none, mvBp_some, mvBp_none, loc_nil, loc_cons, ↓reduceIte, Nat.reduceEqDiff, reduceCtorEq, Nat.reduceAdd, Nat.zero_add]; first | rw [stp_blank hc20] | rw [stp_ext (s := s) hc20 b1 b2 (lt2 b3) hc39] | rw [stp_new (s := s) hc20 (by intro hh; first | exact b1 hh.1 | exact b2 hh.2.1 | exact b3 hh.2.2.1 | exact hc39 hh.2.2.2)]⟩; ((simp only [Le_nil, Le_cons, ↓A_cons, CLe_refl, CLe_top, CLe_full, CLe_nil, CLe_own, and_true, true_and, mvH_eq, mvHa_nil, mvHa_cons, hget_0, hget_S, Option.map_some, Option.map_none, mvCs_cl, mvCs_f, mvCs_nil, mvCs_cons, mvC_val, mvC_top, mvC_sl, mvC_gv, mvC_sv, mvC_bp, mvC_agg, mvC_kp, mvGv_some, mvGv_none, mvSv_some, mvSv_none, mvBp_some, mvBp_none, loc_nil, loc_cons, ↓reduceIte, Nat.reduceEqDiff, reduceCtorEq, Nat.reduceAdd, Nat.zero_add]; all_goals (repeat' first | exact CLe.refl _ | exact True.intro | (with_reducible refine And.intro ?_ ?_)))); (all_goals first | exact CLe.refl _ | (rw [stp_blank hc20]; exact CLe.refl _) | (rw [stp_ext (s := s) hc20 b1 b2 (lt2 b3) hc39, List.length_set]; exact CLe.refl _) | (rw [stp_new (s := s) hc20 (by intro hh; first | exact b1 hh.1 | exact b2 hh.2.1 | exact b3 hh.2.2.1 | exact hc39 hh.2.2.2)]; exact CLe.refl _)); done)
        | (refine ⟨[1], ⟨by decide, by decide, by decide⟩, (i + 1, stp i (prv s i) out (gt s i)), ⟨⟨hc10, Nat.le_trans (stp_len _ _ _ _) (Nat.succ_le_succ hlen), rfs_step hc10 hr⟩, by simp only []; omega⟩, ?_, by simp only [mvH_eq, mvHa_nil, mvHa_cons, hget_0, hget_S, Option.map_some, Option.map_none, mvCs_cl, mvCs_f, mvCs_nil, mvCs_cons, mvC_val, mvC_top, mvC_sl, mvC_gv, mvC_sv, mvC_bp, mvC_agg, mvC_kp, mvGv_some, mvGv_none, mvSv_some, mvSv_none, mvBp_some, mvBp_none, loc_nil, loc_cons, ↓reduceIte, Nat.reduceEqDiff, reduceCtorEq, Nat.reduceAdd, Nat.zero_add]; first | rw [stp_blank hc20] | rw [stp_ext (s := s) hc20 b1 b2 (lt2 b3) hc39] | rw [stp_new (s := s) hc20 (by intro hh; first | exact b1 hh.1 | exact b2 hh.2.1 | exact b3 hh.2.2.1 | exact hc39 hh.2.2.2)]⟩; ((simp only [Le_nil, Le_cons, ↓A_cons, CLe_refl, CLe_top, CLe_full, CLe_nil, CLe_own, and_true, true_and, mvH_eq, mvHa_nil, mvHa_cons, hget_0, hget_S, Option.map_some, Option.map_none, mvCs_cl, mvCs_f, mvCs_nil, mvCs_cons, mvC_val, mvC_top, mvC_sl, mvC_gv, mvC_sv, mvC_bp, mvC_agg, mvC_kp, mvGv_some, mvGv_none, mvSv_some, mvSv_none, mvBp_some, mvBp_none, loc_nil, loc_cons, ↓reduceIte, Nat.reduceEqDiff, reduceCtorEq, Nat.reduceAdd, Nat.zero_add]; all_goals (repeat' first | exact CLe.refl _ | exact True.intro | (with_reducible refine And.intro ?_ ?_)))); (all_goals first | exact CLe.refl _ | (rw [stp_blank hc20]; exact CLe.refl _) | (rw [stp_ext (s := s) hc20 b1 b2 (lt2 b3) hc39, List.length_set]; exact CLe.refl _) | (rw [stp_new (s := s) hc20 (by intro hh; first | exact b1 hh.1 | exact b2 hh.2.1 | exact b3 hh.2.2.1 | exact hc39 hh.2.2.2)]; exact CLe.refl _)); done)
      ·
       refine Tr.rg hcx [] [some 21, some 22, some 23, some 24, some 25, some 26, some 27, some 28, some 29, some 30, some 31, some 32, some 33, some 34, some 35, some 36, some 37, some 38, some 39] [] rfl rfl rfl ?_
       simp -implicitDefEqProofs (maxSteps := 2000000) (disch := first | omega | (simp only [go_sem, List.length_append, List.length_drop, List.length_take] <;> omega) | decide) only [go_sem, ↓reduceIte, Nat.reduceEqDiff, reduceCtorEq, Nat.reduceLT, Nat.reduceBEq, Nat.reduceAdd, Nat.reduceSub, Nat.reduceMul, Nat.reduceMod, h56, Nat.zero_add, b1, b2, b3]
       refine hK13 _ ?_
       clear hK13 K13
       refine Tr.kp [0, 3, 4, 5, 6, 39] ?_
       simp only [pk_cons, pk_nil, ↓A_cons, ↓reduceIte, Nat.reduceEqDiff]
       refine Tr.condG fun KT KF hT hF => ?_
       simp only [ev_tmp, ev_const, ↓A_cons, ↓reduceIte, Nat.reduceEqDiff, reduceCtorEq, condG_bool, GB_true, GB_false, decide_eq_true_eq]
       refine hF ?_
       clear hT hF KT KF
       refine Tr.skip ?_
       refine hK12 _ ?_
       clear hK12 K12
       refine Tr.kp [0, 3, 4, 5] ?_
       simp only [pk_cons, pk_nil, ↓A_cons, ↓reduceIte, Nat.reduceEqDiff]
       refine Tr.rgG hcx [54] [47, 1000054] _ [] rfl rfl rfl ?_
       simp -implicitDefEqProofs (maxSteps := 2000000) (disch := first | omega | (simp only [go_sem, List.length_append, List.length_drop, List.length_take] <;> omega) | decide) only [go_sem, ↓reduceIte, Nat.reduceEqDiff, reduceCtorEq, Nat.reduceLT, Nat.reduceBEq, Nat.reduceAdd, Nat.reduceSub, Nat.reduceMul, Nat.reduceMod, h56, Nat.zero_add, b1, b2, b3, kdI_of hc20, int_nIT]
       refine hK7 _ ?_
       clear hK7 K7
       refine Tr.kp [0, 3, 4] ?_
       simp only [pk_cons, pk_nil, ↓A_cons, ↓reduceIte, Nat.reduceEqDiff]
       refine Tr.rg hcx [1000012] _ [] rfl rfl rfl ?_
       simp -implicitDefEqProofs (maxSteps := 2000000) (disch := first | omega | (simp only [go_sem, List.length_append, List.length_drop, List.length_take] <;> omega) | decide) only [go_sem, ↓reduceIte, Nat.reduceEqDiff, reduceCtorEq, Nat.reduceLT, Nat.reduceBEq, Nat.reduceAdd, Nat.reduceSub, Nat.reduceMul, Nat.reduceMod, h56, Nat.zero_add, b1, b2, b3]
       first
       | (refine ⟨[0], ⟨by decide, by decide, by decide⟩, (i + 1, stp i (prv s i) out (gt s i)), ⟨⟨hc10, Nat.le_trans (stp_len _ _ _ _) (Nat.succ_le_succ hlen), rfs_step hc10 hr⟩, by simp only []; omega⟩, ?_, by simp only [mvH_eq, mvHa_nil, mvHa_cons, hget_0, hget_S, Option.map_some, Option.map_none, mvCs_cl, mvCs_f, mvCs_nil, mvCs_cons, mvC_val, mvC_top, mvC_sl, mvC_gv, mvC_sv, mvC_bp, mvC_agg, mvC_kp, mvGv_some, mvGv_none, mvSv_some, mvSv_none, mvBp_some, mvBp_none, loc_nil, loc_cons, ↓reduceIte, Nat.reduceEqDiff, reduceCtorEq, Nat.reduceAdd, Nat.zero_add]; first | rw [stp_blank hc20] | rw [stp_ext (s := s) hc20 b1 b2 (lt2 b3) hc39] | rw [stp_new (s := s) hc20 (by intro hh; first | exact b1 hh.1 | exact b2 hh.2.1 | exact b3 hh.2.2.1 | exact hc39 hh.2.2.2)]⟩; ((simp only [Le_nil, Le_cons, ↓A_cons, CLe_refl, CLe_top, CLe_full, CLe_nil, CLe_own, and_true, true_and, mvH_eq, mvHa_nil, mvHa_cons, hget_0, hget_S, Option.map_some, Option.map_none, mvCs_cl, mvCs_f, mvCs_nil, mvCs_cons, mvC_val, mvC_top, mvC_sl, mvC_gv, mvC_sv, mvC_bp, mvC_agg, mvC_kp, mvGv_some, mvGv_none, mvSv_some, mvSv_none, mvBp_some, mvBp_none, loc_nil, loc_cons, ↓reduceIte, Nat.reduceEqDiff, reduceCtorEq, Nat.reduceAdd, Nat.zero_add]; all_goals (repeat' first | exact CLe.refl _ | exact True.intro | (with_reducible refine And.intro ?_ ?_)))); (all_goals first | exact CLe.refl _ | (rw [stp_blank hc20]; exact CLe.refl _) | (rw [stp_ext (s := s) hc20 b1 b2 (lt2 b3) hc39, List.length_set]; exact CLe.refl _) | (rw [stp_new (s := s) hc20 (by intro hh; first | exact b1 hh.1 | exact b2 hh.2.1 | exact b3 hh.2.2.1 | exact hc39 hh.2.2.2)]; exact CLe.refl _)); done)
       | (refine ⟨[1], ⟨by decide, by decide, by decide⟩, (i + 1, stp i (prv s i) out (gt s i)), ⟨⟨hc10, Nat.le_trans (stp_len _ _ _ _) (Nat.succ_le_succ hlen), rfs_step hc10 hr⟩, by simp only []; omega⟩, ?_, by simp only [mvH_eq, mvHa_nil, mvHa_cons, hget_0, hget_S, Option.map_some, Option.map_none, mvCs_cl, mvCs_f, mvCs_nil, mvCs_cons, mvC_val, mvC_top, mvC_sl, mvC_gv, mvC_sv, mvC_bp, mvC_agg, mvC_kp, mvGv_some, mvGv_none, mvSv_some, mvSv_none, mvBp_some, mvBp_none, loc_nil, loc_cons, ↓reduceIte, Nat.reduceEqDiff, reduceCtorEq, Nat.reduceAdd, Nat.zero_add]; first | rw [stp_blank hc20] | rw [stp_ext (s := s) hc20 b1 b2 (lt2 b3) hc39] | rw [stp_new (s := s) hc20 (by intro hh; first | exact b1 hh.1 | exact b2 hh.2.1 | exact b3 hh.2.2.1 | exact hc39 hh.2.2.2)]⟩; ((simp only [Le_nil, Le_cons, ↓A_cons, CLe_refl, CLe_top, CLe_full, CLe_nil, CLe_own, and_true, true_and, mvH_eq, mvHa_nil, mvHa_cons, hget_0, hget_S, Option.map_some, Option.map_none, mvCs_cl, mvCs_f, mvCs_nil, mvCs_cons, mvC_val, mvC_top, mvC_sl, mvC_gv, mvC_sv, mvC_bp, mvC_agg, mvC_kp, mvGv_some, mvGv_none, mvSv_some, mvSv_none, mvBp_some, mvBp_none, loc_nil, loc_cons, ↓reduceIte, Nat.reduceEqDiff, reduceCtorEq, Nat.reduceAdd, Nat.zero_add]; all_goals (repeat' first | exact CLe.refl _ | exact True.intro | (with_reducible refine And.intro ?_ ?_)))); (all_goals first | exact CLe.refl _ | (rw [stp_blank hc20]; exact CLe.refl _) | (rw [stp_ext (s := s) hc20 b1 b2 (lt2 b3) hc39, List.length_set]; exact CLe.refl _) | (rw [stp_new (s := s) hc20 (by intro hh; first | exact b1 hh.1 | exact b2 hh.2.1 | exact b3 hh.2.2.1 | exact hc39 hh.2.2.2)]; exact CLe.refl _)); done)
     ·
      refine Tr.rg hcx [] [some 21, some 22, some 23, some 24, some 25, some 26, some 27, some 28, some 29, some 30, some 31, some 32, some 33, some 34, some 35, some 36, some 37, some 38, some 39] [] rfl rfl rfl ?_
      simp -implicitDefEqProofs (maxSteps := 2000000) (disch := first | omega | (simp only [go_sem, List.length_append, List.length_drop, List.length_take] <;> omega) | decide) only [go_sem, ↓reduceIte, Nat.reduceEqDiff, reduceCtorEq, Nat.reduceLT, Nat.reduceBEq, Nat.reduceAdd, Nat.reduceSub, Nat.reduceMul, Nat.reduceMod, h56, Nat.zero_add, b1, b2]
      refine hK13 _ ?_
      clear hK13 K13
      refine Tr.kp [0, 3, 4, 5, 6, 39] ?_
      simp only [pk_cons, pk_nil, ↓A_cons, ↓reduceIte, Nat.reduceEqDiff]
      refine Tr.condG fun KT KF hT hF => ?_
      simp only [ev_tmp, ev_const, ↓A_cons, ↓reduceIte, Nat.reduceEqDiff, reduceCtorEq, condG_bool, GB_true, GB_false, decide_eq_true_eq]
      refine hF ?_
      clear hT hF KT KF
      refine Tr.skip ?_
      refine hK12 _ ?_
      clear hK12 K12
      refine Tr.kp [0, 3, 4, 5] ?_
      simp only [pk_cons, pk_nil, ↓A_cons, ↓reduceIte, Nat.reduceEqDiff]
      refine Tr.rgG hcx [54] [47, 1000054] _ [] rfl rfl rfl ?_
      simp -implicitDefEqProofs (maxSteps := 2000000) (disch := first | omega | (simp only [go_sem, List.length_append, List.length_drop, List.length_take] <;> omega) | decide) only [go_sem, ↓reduceIte, Nat.reduceEqDiff, reduceCtorEq, Nat.reduceLT, Nat.reduceBEq, Nat.reduceAdd, Nat.reduceSub, Nat.reduceMul, Nat.reduceMod, h56, Nat.zero_add, b1, b2, kdI_of hc20, int_nIT]
      refine hK7 _ ?_
      clear hK7 K7
      refine Tr.kp [0, 3, 4] ?_
      simp only [pk_cons, pk_nil, ↓A_cons, ↓reduceIte, Nat.reduceEqDiff]
      refine Tr.rg hcx [1000012] _ [] rfl rfl rfl ?_
      simp -implicitDefEqProofs (maxSteps := 2000000) (disch := first | omega | (simp only [go_sem, List.length_append, List.length_drop, List.length_take] <;> omega) | decide) only [go_sem, ↓reduceIte, Nat.reduceEqDiff, reduceCtorEq, Nat.reduceLT, Nat.reduceBEq, Nat.reduceAdd, Nat.reduceSub, Nat.reduceMul, Nat.reduceMod, h56, Nat.zero_add, b1, b2]
      first
      | (refine ⟨[0], ⟨by decide, by decide, by decide⟩, (i + 1, stp i (prv s i) out (gt s i)), ⟨⟨hc10, Nat.le_trans (stp_len _ _ _ _) (Nat.succ_le_succ hlen), rfs_step hc10 hr⟩, by simp only []; omega⟩, ?_, by simp only [mvH_eq, mvHa_nil, mvHa_cons, hget_0, hget_S, Option.map_some, Option.map_none, mvCs_cl, mvCs_f, mvCs_nil, mvCs_cons, mvC_val, mvC_top, mvC_sl, mvC_gv, mvC_sv, mvC_bp, mvC_agg, mvC_kp, mvGv_some, mvGv_none, mvSv_some, mvSv_none, mvBp_some, mvBp_none, loc_nil, loc_cons, ↓reduceIte, Nat.reduceEqDiff, reduceCtorEq, Nat.reduceAdd, Nat.zero_add]; first | rw [stp_blank hc20] | rw [stp_ext (s := s) hc20 b1 b2 (lt2 b3) hc39] | rw [stp_new (s := s) hc20 (by intro hh; first | exact b1 hh.1 | exact b2 hh.2.1 | exact b3 hh.2.2.1 | exact hc39 hh.2.2.2)]⟩; ((simp only [Le_nil, Le_cons, ↓A_cons, CLe_refl, CLe_top, CLe_full, CLe_nil, CLe_own, and_true, true_and, mvH_eq, mvHa_nil, mvHa_cons, hget_0, hget_S, Option.map_some, Option.map_none, mvCs_cl, mvCs_f, mvCs_nil, mvCs_cons, mvC_val, mvC_top, mvC_sl, mvC_gv, mvC_sv, mvC_bp, mvC_agg, mvC_kp, mvGv_some, mvGv_none, mvSv_some, mvSv_none, mvBp_some, mvBp_none, loc_nil, loc_cons, ↓reduceIte, Nat.reduceEqDiff, reduceCtorEq, Nat.reduceAdd, Nat.zero_add]; all_goals (repeat' first | exact CLe.refl _ | exact True.intro | (with_reducible refine And.intro ?_ ?_)))); (all_goals first | exact CLe.refl _ | (rw [stp_blank hc20]; exact CLe.refl _) | (rw [stp_ext (s := s) hc20 b1 b2 (lt2 b3) hc39, List.length_set]; exact CLe.refl _) | (rw [stp_new (s := s) hc20 (by intro hh; first | exact b1 hh.1 | exact b2 hh.2.1 | exact b3 hh.2.2.1 | exact hc39 hh.2.2.2)]; exact CLe.refl _)); done)
      | (refine ⟨[1], ⟨by decide, by decide, by decide⟩, (i + 1, stp i (prv s i) out (gt s i)), ⟨⟨hc10, Nat.le_trans (stp_len _ _ _ _) (Nat.succ_le_succ hlen), rfs_step hc10 hr⟩, by simp only []; omega⟩, ?_, by simp only [mvH_eq, mvHa_nil, mvHa_cons, hget_0, hget_S, Option.map_some, Option.map_none, mvCs_cl, mvCs_f, mvCs_nil, mvCs_cons, mvC_val, mvC_top, mvC_sl, mvC_gv, mvC_sv, mvC_bp, mvC_agg, mvC_kp, mvGv_some, mvGv_none, mvSv_some, mvSv_none, mvBp_some, mvBp_none, loc_nil, loc_cons, ↓reduceIte, Nat.reduceEqDiff, reduceCtorEq, Nat.reduceAdd, Nat.zero_add]; first | rw [stp_blank hc20] | rw [stp_ext (s := s) hc20 b1 b2 (lt2 b3) hc39] | rw [stp_new (s := s) hc20 (by intro hh; first | exact b1 hh.1 | exact b2 hh.2.1 | exact b3 hh.2.2.1 | exact hc39 hh.2.2.2)]⟩; ((simp only [Le_nil, Le_cons, ↓A_cons, CLe_refl, CLe_top, CLe_full, CLe_nil, CLe_own, and_true, true_and, mvH_eq, mvHa_nil, mvHa_cons, hget_0, hget_S, Option.map_some, Option.map_none, mvCs_cl, mvCs_f, mvCs_nil, mvCs_cons, mvC_val, mvC_top, mvC_sl, mvC_gv, mvC_sv, mvC_bp, mvC_agg, mvC_kp, mvGv_some, mvGv_none, mvSv_some, mvSv_none, mvBp_some, mvBp_none, loc_nil, loc_cons, ↓reduceIte, Nat.reduceEqDiff, reduceCtorEq, Nat.reduceAdd, Nat.zero_add]; all_goals (repeat' first | exact CLe.refl _ | exact True.intro | (with_reducible refine And.intro ?_ ?_)))); (all_goals first | exact CLe.refl _ | (rw [stp_blank hc20]; exact CLe.refl _) | (rw [stp_ext (s := s) hc20 b1 b2 (lt2 b3) hc39, List.length_set]; exact CLe.refl _) | (rw [stp_new (s := s) hc20 (by intro hh; first | exact b1 hh.1 | exact b2 hh.2.1 | exact b3 hh.2.2.1 | exact hc39 hh.2.2.2)]; exact CLe.refl _)); done)
    ·
     refine Tr.rg hcx [] [some 21, some 22, some 23, some 24, some 25, some 26, some 27, some 28, some 29, some 30, some 31, some 32, some 33, some 34, some 35, some 36, some 37, some 38, some 39] [] rfl rfl rfl ?_
     simp -implicitDefEqProofs (maxSteps := 2000000) (disch := first | omega | (simp only [go_sem, List.length_append, List.length_drop, List.length_take] <;> omega) | decide) only [go_sem, ↓reduceIte, Nat.reduceEqDiff, reduceCtorEq, Nat.reduceLT, Nat.reduceBEq, Nat.reduceAdd, Nat.reduceSub, Nat.reduceMul, Nat.reduceMod, h56, Nat.zero_add, b1]
     refine hK13 _ ?_
     clear hK13 K13
     refine Tr.kp [0, 3, 4, 5, 6, 39] ?_
     simp only [pk_cons, pk_nil, ↓A_cons, ↓reduceIte, Nat.reduceEqDiff]
     refine Tr.condG fun KT KF hT hF => ?_
     simp only [ev_tmp, ev_const, ↓A_cons, ↓reduceIte, Nat.reduceEqDiff, reduceCtorEq, condG_bool, GB_true, GB_false, decide_eq_true_eq]
     refine hF ?_
     clear hT hF KT KF
     refine Tr.skip ?_
     refine hK12 _ ?_
     clear hK12 K12
     refine Tr.kp [0, 3, 4, 5] ?_
     simp only [pk_cons, pk_nil, ↓A_cons, ↓reduceIte, Nat.reduceEqDiff]
     refine Tr.rgG hcx [54] [47, 1000054] _ [] rfl rfl rfl ?_
     simp -implicitDefEqProofs (maxSteps := 2000000) (disch := first | omega | (simp only [go_sem, List.length_append, List.length_drop, List.length_take] <;> omega) | decide) only [go_sem, ↓reduceIte, Nat.reduceEqDiff, reduceCtorEq, Nat.reduceLT, Nat.reduceBEq, Nat.reduceAdd, Nat.reduceSub, Nat.reduceMul, Nat.reduceMod, h56, Nat.zero_add, b1, kdI_of hc20, int_nIT]
     refine hK7 _ ?_
     clear hK7 K7
     refine Tr.kp [0, 3, 4] ?_
     simp only [pk_cons, pk_nil, ↓A_cons, ↓reduceIte, Nat.reduceEqDiff]
     refine Tr.rg hcx [1000012] _ [] rfl rfl rfl ?_
     simp -implicitDefEqProofs (maxSteps := 2000000) (disch := first | omega | (simp only [go_sem, List.length_append, List.length_drop, List.length_take] <;> omega) | decide) only [go_sem, ↓reduceIte, Nat.reduceEqDiff, reduceCtorEq, Nat.reduceLT, Nat.reduceBEq, Nat.reduceAdd, Nat.reduceSub, Nat.reduceMul, Nat.reduceMod, h56, Nat.zero_add, b1]
     first
     | (refine ⟨[0], ⟨by decide, by decide, by decide⟩, (i + 1, stp i (prv s i) out (gt s i)), ⟨⟨hc10, Nat.le_trans (stp_len _ _ _ _) (Nat.succ_le_succ hlen), rfs_step hc10 hr⟩, by simp only []; omega⟩, ?_, by simp only [mvH_eq, mvHa_nil, mvHa_cons, hget_0, hget_S, Option.map_some, Option.map_none, mvCs_cl, mvCs_f, mvCs_nil, mvCs_cons, mvC_val, mvC_top, mvC_sl, mvC_gv, mvC_sv, mvC_bp, mvC_agg, mvC_kp, mvGv_some, mvGv_none, mvSv_some, mvSv_none, mvBp_some, mvBp_none, loc_nil, loc_cons, ↓reduceIte, Nat.reduceEqDiff, reduceCtorEq, Nat.reduceAdd, Nat.zero_add]; first | rw [stp_blank hc20] | rw [stp_ext (s := s) hc20 b1 b2 (lt2 b3) hc39] | rw [stp_new (s := s) hc20 (by intro hh; first | exact b1 hh.1 | exact b2 hh.2.1 | exact b3 hh.2.2.1 | exact hc39 hh.2.2.2)]⟩; ((simp only [Le_nil, Le_cons, ↓A_cons, CLe_refl, CLe_top, CLe_full, CLe_nil, CLe_own, and_true, true_and, mvH_eq, mvHa_nil, mvHa_cons, hget_0, hget_S, Option.map_some, Option.map_none, mvCs_cl, mvCs_f, mvCs_nil, mvCs_cons, mvC_val, mvC_top, mvC_sl, mvC_gv, mvC_sv, mvC_bp, mvC_agg, mvC_kp, mvGv_some, mvGv_none, mvSv_some, mvSv_none, mvBp_some, mvBp_none, loc_nil, loc_cons, ↓reduceIte, Nat.reduceEqDiff, reduceCtorEq, Nat.reduceAdd, Nat.zero_add]; all_goals (repeat' first | exact CLe.refl _ | exact True.intro | (with_reducible refine And.intro ?_ ?_)))); (all_goals first | exact CLe.refl _ | (rw [stp_blank hc20]; exact CLe.refl _) | (rw [stp_ext (s := s) hc20 b1 b2 (lt2 b3) hc39, List.length_set]; exact CLe.refl _) | (rw [stp_new (s := s) hc20 (by intro hh; first | exact b1 hh.1 | exact b2 hh.2.1 | exact b3 hh.2.2.1 | exact hc39 hh.2.2.2)]; exact CLe.refl _)); done)
     | (refine ⟨[1], ⟨by decide, by decide, by decide⟩, (i + 1, stp i (prv s i) out (gt s i)), ⟨⟨hc10, Nat.le_trans (stp_len _ _ _ _) (Nat.succ_le_succ hlen), rfs_step hc10 hr⟩, by simp only []; omega⟩, ?_, by simp only [mvH_eq, mvHa_nil, mvHa_cons, hget_0, hget_S, Option.map_some, Option.map_none, mvCs_cl, mvCs_f, mvCs_nil, mvCs_cons, mvC_val, mvC_top, mvC_sl, mvC_gv, mvC_sv, mvC_bp, mvC_agg, mvC_kp, mvGv_some, mvGv_none, mvSv_some, mvSv_none, mvBp_some, mvBp_none, loc_nil, loc_cons, ↓reduceIte, Nat.reduceEqDiff, reduceCtorEq, Nat.reduceAdd, Nat.zero_add]; first | rw [stp_blank hc20] | rw [stp_ext (s := s) hc20 b1 b2 (lt2 b3) hc39] | rw [stp_new (s := s) hc20 (by intro hh; first | exact b1 hh.1 | exact b2 hh.2.1 | exact b3 hh.2.2.1 | exact hc39 hh.2.2.2)]⟩; ((simp only [Le_nil, Le_cons, ↓A_cons, CLe_refl, CLe_top, CLe_full, CLe_nil, CLe_own, and_true, true_and, mvH_eq, mvHa_nil, mvHa_cons, hget_0, hget_S, Option.map_some, Option.map_none, mvCs_cl, mvCs_f, mvCs_nil, mvCs_cons, mvC_val, mvC_top, mvC_sl, mvC_gv, mvC_sv, mvC_bp, mvC_agg, mvC_kp, mvGv_some, mvGv_none, mvSv_some, mvSv_none, mvBp_some, mvBp_none, loc_nil, loc_cons, ↓reduceIte, Nat.reduceEqDiff, reduceCtorEq, Nat.reduceAdd, Nat.zero_add]; all_goals (repeat' first | exact CLe.refl _ | exact True.intro | (with_reducible refine And.intro ?_ ?_)))); (all_goals first | exact CLe.refl _ | (rw [stp_blank hc20]; exact CLe.refl _) | (rw [stp_ext (s := s) hc20 b1 b2 (lt2 b3) hc39, List.length_set]; exact CLe.refl _) | (rw [stp_new (s := s) hc20 (by intro hh; first | exact b1 hh.1 | exact b2 hh.2.1 | exact b3 hh.2.2.1 | exact hc39 hh.2.2.2)]; exact CLe.refl _)); done)
  ·
   clear hT hF KT KF
   have hie : i = s.length := by omega
   subst hie
   rw [List.drop_length] at hr
   refine Tr.exit ?_
   refine hK3 _ ?_
   clear hK5 K5 hK3 K3
   refine Tr.kp [3] ?_
   simp only [pk_cons, pk_nil, ↓A_cons, ↓reduceIte, Nat.reduceEqDiff]
   refine Tr.seqK fun K15 hK15 => ?_
   refine Tr.rg hcx [1000055] _ [] rfl rfl rfl ?_
   simp -implicitDefEqProofs (maxSteps := 2000000) (disch := first | omega | (simp only [go_sem, List.length_append, List.length_drop, List.length_take] <;> omega) | decide) only [go_sem, ↓reduceIte, Nat.reduceEqDiff, reduceCtorEq, Nat.reduceLT, Nat.reduceBEq, Nat.reduceAdd, Nat.reduceSub, Nat.reduceMul, Nat.reduceMod, h56, Nat.zero_add]
   refine hK15 _ ?_
   clear hK15 K15
   refine Tr.kp [2] ?_
   simp only [pk_cons, pk_nil, ↓A_cons, ↓reduceIte, Nat.reduceEqDiff]
   refine Tr.fzA hcx 0 (cl tC out) (by simp only [go_sem]) (Nat.zero_le _) (fun j hj => absurd hj (Nat.not_lt_zero j)) ?_
   simp only [mapE_cons, mapE_nil, fzY_cl, fzC_gv, fzC_val, fzC_top, fzGv_cl, ↓reduceIte]
   refine Tr.ret ?_
   simp -implicitDefEqProofs (disch := first | omega | (simp only [go_sem, List.length_append, List.length_drop, List.length_take] <;> omega) | decide) only [go_sem, ↓reduceIte, Nat.reduceEqDiff, reduceCtorEq]
   all_goals (rw [← hr]; rfl)
end Go.Sx
