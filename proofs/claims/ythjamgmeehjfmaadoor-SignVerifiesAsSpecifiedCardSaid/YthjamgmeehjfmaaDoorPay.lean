/-
  Proved: the statement SignVerifiesAsSpecified holds for every input, without a condition.
-/
import Derived.Test.YthjamgmeehjfmaaDoorPax
set_option linter.unusedSimpArgs false
set_option linter.unusedVariables false
namespace Go.Proofs.YthjamgmeehjfmaaDoor
open Go.ChangeShapes Go.WideShapes Go.RowKit Go.Sx
set_option maxRecDepth 100000 in
theorem signVerifiesAsSpecified_lifted (os : Os) (started : os.Started) (H : Type) (enc : TypeId × Value → H) :
    ReturnsInHanded {} Tryd.checked os 5 .any (fun w args => (Rows.signVerifiesAsSpecifiedSpec.pre enc Tryd.prog Tryd.f5 [] false w args ∧ laidMetH Tryd.prog laid2 w) ∧ sizedMet enc Tryd.prog Tryd.f5 (OpenSpec.ofChange Rows.signVerifiesAsSpecifiedSpec) false w args)
      (Rows.signVerifiesAsSpecifiedSpec.post enc Tryd.prog Tryd.f5 false true false false) := by
  refine law_lifted (K := Tryd.checked) (gl := glH) started ownT (by kernel_rfl) Tryd.func5 loT mrT slT (by kernel_rfl) rfl (fun ds h => ?_) rfl (td_spec td4).1
    (ChangeSpec.witness_shaped (enc := enc) (C := Tryd.checked) (os := os) (X := fun w _ => laidMetH Tryd.prog laid2 w) false (World.doorLaid Tryd.prog 400 os) #[.agg (Array.replicate 16 (.int .u8 0)), .int .i64 0, .string ⟨#[]⟩, .string ⟨#[]⟩] 8 rfl (World.shaped_of_RefB (by kernel_rfl) (by kernel_rfl)) (by kernel_rfl) (by kernel_rfl) (by kernel_rfl) (met2 os _))
    gl2 (fun W b0 args ds p hval hA => ?_)
  · match ds, h with
    | [d0, d1, d2, d3], _ => rfl
  · obtain ⟨v0, vs0, d0, ds0, p0, q0, hargs, rfl, ht0, hA0⟩ := trods_cons (t := 23) hA
    obtain ⟨v1, vs1, d1, ds1, p1, q1, rfl, rfl, ht1, hA1⟩ := trods_cons (t := 3) hA0
    obtain ⟨v2, vs2, d2, ds2, p2, q2, rfl, rfl, ht2, hA2⟩ := trods_cons (t := 9) hA1
    obtain ⟨v3, vs3, d3, ds3, p3, q3, rfl, rfl, ht3, hA3⟩ := trods_cons (t := 9) hA2
    obtain rfl := trods_nil hA3
    obtain ⟨p, hok0, hr0⟩ := a23 (hval 0 23 v0 rfl (by rw [hargs]; rfl)) ht0
    obtain ⟨h, hok1, hr1⟩ := a3 (hval 1 3 v1 rfl (by rw [hargs]; rfl)) ht1
    obtain ⟨m, hok2, hr2⟩ := a9 (hval 2 9 v2 rfl (by rw [hargs]; rfl)) ht2
    obtain ⟨sg, hok3, hr3⟩ := a9 (hval 3 9 v3 rfl (by rw [hargs]; rfl)) ht3
    exact ⟨[.agg (cl bC p), .val (.int .i64 h), .val (str m), .val (str sg)], by rw [hargs]; simp only [RepL]; exact ⟨_, _, rfl, hr0, ⟨_, _, rfl, hr1, ⟨_, _, rfl, hr2, ⟨_, _, rfl, hr3, rfl⟩⟩⟩⟩, TA.law5 glH_noRef glH_0 glH_1 p h m sg hok0.1 hok1 hok2 hok3⟩
theorem signVerifiesAsSpecified_holds : Rows.SignVerifiesAsSpecifiedSaid :=
  OpenClaim.holds_of_wide 5 Tryd.f5 rfl rfl rfl rfl rfl rfl rfl ⟨rfl, rfl, rfl, rfl, rfl⟩ rfl rfl rfl rfl rfl (by kernel_rfl) Tryd.func5 (by kernel_rfl)
    (of_decide_eq_true (by kernel_rfl)) (by unfold Func.isWrapper; first | (rw [if_pos (by decide +kernel)]; kernel_rfl) | (rw [if_neg (by decide +kernel)]; exact ⟨rfl, rfl⟩))
    (fun os started H enc _ => signVerifiesAsSpecified_lifted os started H enc)
theorem signVerifiesAsSpecified_card : Rows.SignVerifiesAsSpecifiedCardSaid :=
  Claim7.holds_tied_plain_at .later [] [.data, .data] true (true, "d22a4e772cb3e4a67b5256754e7d4acc03c8eb1e2b30a492507f4d6237307e8e") false
    signVerifiesAsSpecified_holds (fun _ h => by cases h) (by kernel_rfl) (fun _ h => by cases h) signVerifiesAsSpecified_row_tie rfl ⟨rfl, rfl⟩ (by kernel_rfl) rfl
    (fun f fn hf hfn => by
      obtain rfl : f = 5 := Option.some.inj ((show Tryd.prog.funcNamed "passim/passimlaw03.SignVerifiesAsSpecified" = some 5 by kernel_rfl).symm.trans hf) |>.symm
      obtain rfl : fn = Tryd.f5 := (Option.some.inj (Tryd.func5.symm.trans hfn)).symm
      refine ⟨by kernel_rfl, fun j t ht => ?_⟩
      have hm : t ∈ Tryd.f5.params := Array.mem_of_getElem? ht
      have hall : (Tryd.f5.params.all fun t => !(Tryd.prog.wantsStandIn t)) = true := by kernel_rfl
      have := Array.all_eq_true_iff_forall_mem.1 hall t hm
      exact (by simpa using this : Tryd.prog.wantsStandIn t = false))
    (by kernel_rfl)
end Go.Proofs.YthjamgmeehjfmaaDoor
