/-
  Proved: the statement SignDigitsCross holds for every input, without a condition.
-/
import Derived.Test.YthjamgmeehjfmaaDoorPaz
set_option linter.unusedSimpArgs false
set_option linter.unusedVariables false
namespace Go.Proofs.YthjamgmeehjfmaaDoor
open Go.ChangeShapes Go.WideShapes Go.RowKit Go.Sx
set_option maxRecDepth 100000 in
theorem signDigitsCross_lifted (os : Os) (started : os.Started) (H : Type) (enc : TypeId × Value → H) :
    ReturnsInHanded {} Tryd.checked os 7 .any (fun w args => (Rows.signDigitsCrossSpec.pre enc Tryd.prog Tryd.f7 [] false w args ∧ laidMetH Tryd.prog laid1 w) ∧ sizedMet enc Tryd.prog Tryd.f7 (OpenSpec.ofChange Rows.signDigitsCrossSpec) false w args)
      (Rows.signDigitsCrossSpec.post enc Tryd.prog Tryd.f7 false true false false) := by
  refine law_lifted (K := Tryd.checked) (gl := glB) started ownT (by kernel_rfl) Tryd.func7 loT mrT slT (by kernel_rfl) rfl (fun ds h => ?_) rfl (td_spec td4).1
    (ChangeSpec.witness_shaped (enc := enc) (C := Tryd.checked) (os := os) (X := fun w _ => laidMetH Tryd.prog laid1 w) false (World.doorLaid Tryd.prog 400 os) #[.agg (Array.replicate 16 (.int .u8 0)), .agg (Array.replicate 16 (.int .u8 0))] 8 rfl (World.shaped_of_RefB (by kernel_rfl) (by kernel_rfl)) (by kernel_rfl) (by kernel_rfl) (by kernel_rfl) (met1 os _))
    gl1 (fun W b0 args ds p hval hA => ?_)
  · match ds, h with
    | [d0, d1], _ => rfl
  · obtain ⟨v0, vs0, d0, ds0, p0, q0, hargs, rfl, ht0, hA0⟩ := trods_cons (t := 23) hA
    obtain ⟨v1, vs1, d1, ds1, p1, q1, rfl, rfl, ht1, hA1⟩ := trods_cons (t := 23) hA0
    obtain rfl := trods_nil hA1
    obtain ⟨p, hok0, hr0⟩ := a23 (hval 0 23 v0 rfl (by rw [hargs]; rfl)) ht0
    obtain ⟨q, hok1, hr1⟩ := a23 (hval 1 23 v1 rfl (by rw [hargs]; rfl)) ht1
    exact ⟨[.agg (cl bC p), .agg (cl bC q)], by rw [hargs]; simp only [RepL]; exact ⟨_, _, rfl, hr0, ⟨_, _, rfl, hr1, rfl⟩⟩, TB.law7 glB_noRef glB_1 p q hok0.1 hok1.1⟩
theorem signDigitsCross_holds : Rows.SignDigitsCrossSaid :=
  OpenClaim.holds_of_wide 7 Tryd.f7 rfl rfl rfl rfl rfl rfl rfl ⟨rfl, rfl, rfl, rfl, rfl⟩ rfl rfl rfl rfl rfl (by kernel_rfl) Tryd.func7 (by kernel_rfl)
    (of_decide_eq_true (by kernel_rfl)) (by unfold Func.isWrapper; first | (rw [if_pos (by decide +kernel)]; kernel_rfl) | (rw [if_neg (by decide +kernel)]; exact ⟨rfl, rfl⟩))
    (fun os started H enc _ => signDigitsCross_lifted os started H enc)
theorem signDigitsCross_card : Rows.SignDigitsCrossCardSaid :=
  Claim7.holds_tied_plain_at .later [] [.data] true (true, "d22a4e772cb3e4a67b5256754e7d4acc03c8eb1e2b30a492507f4d6237307e8e") false
    signDigitsCross_holds (fun _ h => by cases h) (by kernel_rfl) (fun _ h => by cases h) signDigitsCross_row_tie rfl ⟨rfl, rfl⟩ (by kernel_rfl) rfl
    (fun f fn hf hfn => by
      obtain rfl : f = 7 := Option.some.inj ((show Tryd.prog.funcNamed "passim/passimlaw03.SignDigitsCross" = some 7 by kernel_rfl).symm.trans hf) |>.symm
      obtain rfl : fn = Tryd.f7 := (Option.some.inj (Tryd.func7.symm.trans hfn)).symm
      refine ⟨by kernel_rfl, fun j t ht => ?_⟩
      have hm : t ∈ Tryd.f7.params := Array.mem_of_getElem? ht
      have hall : (Tryd.f7.params.all fun t => !(Tryd.prog.wantsStandIn t)) = true := by kernel_rfl
      have := Array.all_eq_true_iff_forall_mem.1 hall t hm
      exact (by simpa using this : Tryd.prog.wantsStandIn t = false))
    (by kernel_rfl)
end Go.Proofs.YthjamgmeehjfmaaDoor
