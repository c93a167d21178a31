/-
  Proved: the statement SignMakesAsSpecified holds for every input, without a condition.
-/
import Derived.Test.YthjamgmeehjfmaaDoorPax
set_option linter.unusedSimpArgs false
set_option linter.unusedVariables false
namespace Go.Proofs.YthjamgmeehjfmaaDoor
open Go.ChangeShapes Go.WideShapes Go.RowKit Go.Sx
set_option maxRecDepth 100000 in
theorem signMakesAsSpecified_lifted (os : Os) (started : os.Started) (H : Type) (enc : TypeId × Value → H) :
    ReturnsInHanded {} Tryd.checked os 4 .any (fun w args => (Rows.signMakesAsSpecifiedSpec.pre enc Tryd.prog Tryd.f4 [] false w args ∧ laidMetH Tryd.prog laid2 w) ∧ sizedMet enc Tryd.prog Tryd.f4 (OpenSpec.ofChange Rows.signMakesAsSpecifiedSpec) false w args)
      (Rows.signMakesAsSpecifiedSpec.post enc Tryd.prog Tryd.f4 false true false false) := by
  refine law_lifted (K := Tryd.checked) (gl := glH) started ownT (by kernel_rfl) Tryd.func4 loT mrT slT (by kernel_rfl) rfl (fun ds h => ?_) rfl (td_spec td4).1
    (ChangeSpec.witness_shaped (enc := enc) (C := Tryd.checked) (os := os) (X := fun w _ => laidMetH Tryd.prog laid2 w) false (World.doorLaid Tryd.prog 400 os) #[.string ⟨#[]⟩, .agg #[.int .i64 0, .int .i64 0], .string ⟨#[]⟩] 8 rfl (World.shaped_of_RefB (by kernel_rfl) (by kernel_rfl)) (by kernel_rfl) (by kernel_rfl) (by kernel_rfl) (met2 os _))
    gl2 (fun W b0 args ds p hval hA => ?_)
  · match ds, h with
    | [d0, d1, d2], _ => rfl
  · obtain ⟨v0, vs0, d0, ds0, p0, q0, hargs, rfl, ht0, hA0⟩ := trods_cons (t := 9) hA
    obtain ⟨v1, vs1, d1, ds1, p1, q1, rfl, rfl, ht1, hA1⟩ := trods_cons (t := 28) hA0
    obtain ⟨v2, vs2, d2, ds2, p2, q2, rfl, rfl, ht2, hA2⟩ := trods_cons (t := 9) hA1
    obtain rfl := trods_nil hA2
    obtain ⟨s, hok0, hr0⟩ := a9 (hval 0 9 v0 rfl (by rw [hargs]; rfl)) ht0
    obtain ⟨l, hok1, hr1⟩ := a28 (hval 1 28 v1 rfl (by rw [hargs]; rfl)) ht1
    obtain ⟨h, x, rfl⟩ : ∃ h x, l = [h, x] := by
      match l, hok1.1 with
      | [h, x], _ => exact ⟨h, x, rfl⟩
    obtain ⟨m, hok2, hr2⟩ := a9 (hval 2 9 v2 rfl (by rw [hargs]; rfl)) ht2
    exact ⟨[.val (str s), .agg (cl iC [h, x]), .val (str m)], by rw [hargs]; simp only [RepL]; exact ⟨_, _, rfl, hr0, ⟨_, _, rfl, hr1, ⟨_, _, rfl, hr2, rfl⟩⟩⟩, TA.law4 glH_noRef glH_0 glH_1 s h x m (hok1.2 h (by simp)) (hok1.2 x (by simp)) hok0 hok2⟩
theorem signMakesAsSpecified_holds : Rows.SignMakesAsSpecifiedSaid :=
  OpenClaim.holds_of_wide 4 Tryd.f4 rfl rfl rfl rfl rfl rfl rfl ⟨rfl, rfl, rfl, rfl, rfl⟩ rfl rfl rfl rfl rfl (by kernel_rfl) Tryd.func4 (by kernel_rfl)
    (of_decide_eq_true (by kernel_rfl)) (by unfold Func.isWrapper; first | (rw [if_pos (by decide +kernel)]; kernel_rfl) | (rw [if_neg (by decide +kernel)]; exact ⟨rfl, rfl⟩))
    (fun os started H enc _ => signMakesAsSpecified_lifted os started H enc)
theorem signMakesAsSpecified_card : Rows.SignMakesAsSpecifiedCardSaid :=
  Claim7.holds_tied_plain_at .later [] [.data, .data] true (true, "d22a4e772cb3e4a67b5256754e7d4acc03c8eb1e2b30a492507f4d6237307e8e") false
    signMakesAsSpecified_holds (fun _ h => by cases h) (by kernel_rfl) (fun _ h => by cases h) signMakesAsSpecified_row_tie rfl ⟨rfl, rfl⟩ (by kernel_rfl) rfl
    (fun f fn hf hfn => by
      obtain rfl : f = 4 := Option.some.inj ((show Tryd.prog.funcNamed "passim/passimlaw03.SignMakesAsSpecified" = some 4 by kernel_rfl).symm.trans hf) |>.symm
      obtain rfl : fn = Tryd.f4 := (Option.some.inj (Tryd.func4.symm.trans hfn)).symm
      refine ⟨by kernel_rfl, fun j t ht => ?_⟩
      have hm : t ∈ Tryd.f4.params := Array.mem_of_getElem? ht
      have hall : (Tryd.f4.params.all fun t => !(Tryd.prog.wantsStandIn t)) = true := by kernel_rfl
      have := Array.all_eq_true_iff_forall_mem.1 hall t hm
      exact (by simpa using this : Tryd.prog.wantsStandIn t = false))
    (by kernel_rfl)
end Go.Proofs.YthjamgmeehjfmaaDoor
