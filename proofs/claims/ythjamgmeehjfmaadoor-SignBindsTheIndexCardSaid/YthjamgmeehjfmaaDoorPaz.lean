/-
  Proved: the statement SignBindsTheIndex holds for every input, without a condition.
-/
import Derived.Test.YthjamgmeehjfmaaDoorPay
set_option linter.unusedSimpArgs false
set_option linter.unusedVariables false
namespace Go.Proofs.YthjamgmeehjfmaaDoor
open Go.ChangeShapes Go.WideShapes Go.RowKit Go.Sx
set_option maxRecDepth 100000 in
theorem signBindsTheIndex_lifted (os : Os) (started : os.Started) (H : Type) (enc : TypeId × Value → H) :
    ReturnsInHanded {} Tryd.checked os 8 .any (fun w args => (Rows.signBindsTheIndexSpec.pre enc Tryd.prog Tryd.f8 [] false w args ∧ laidMetH Tryd.prog laid2 w) ∧ sizedMet enc Tryd.prog Tryd.f8 (OpenSpec.ofChange Rows.signBindsTheIndexSpec) false w args)
      (Rows.signBindsTheIndexSpec.post enc Tryd.prog Tryd.f8 false true false false) := by
  refine law_lifted (K := Tryd.checked) (gl := glH) started ownT (by kernel_rfl) Tryd.func8 loT mrT slT (by kernel_rfl) rfl (fun ds h => ?_) rfl (td_spec td4).1
    (ChangeSpec.witness_shaped (enc := enc) (C := Tryd.checked) (os := os) (X := fun w _ => laidMetH Tryd.prog laid2 w) false (World.doorLaid Tryd.prog 400 os) #[.int .u8 0, .int .u8 0, .int .u8 0, .int .u8 0, .string ⟨#[]⟩] 8 rfl (World.shaped_of_RefB (by kernel_rfl) (by kernel_rfl)) (by kernel_rfl) (by kernel_rfl) (by kernel_rfl) (met2 os _))
    gl2 (fun W b0 args ds p hval hA => ?_)
  · match ds, h with
    | [d0, d1, d2, d3, d4], _ => rfl
  · obtain ⟨v0, vs0, d0, ds0, p0, q0, hargs, rfl, ht0, hA0⟩ := trods_cons (t := 5) hA
    obtain ⟨v1, vs1, d1, ds1, p1, q1, rfl, rfl, ht1, hA1⟩ := trods_cons (t := 5) hA0
    obtain ⟨v2, vs2, d2, ds2, p2, q2, rfl, rfl, ht2, hA2⟩ := trods_cons (t := 5) hA1
    obtain ⟨v3, vs3, d3, ds3, p3, q3, rfl, rfl, ht3, hA3⟩ := trods_cons (t := 5) hA2
    obtain ⟨v4, vs4, d4, ds4, p4, q4, rfl, rfl, ht4, hA4⟩ := trods_cons (t := 9) hA3
    obtain rfl := trods_nil hA4
    obtain ⟨c, hok0, hr0⟩ := a5 (hval 0 5 v0 rfl (by rw [hargs]; rfl)) ht0
    obtain ⟨h, hok1, hr1⟩ := a5 (hval 1 5 v1 rfl (by rw [hargs]; rfl)) ht1
    obtain ⟨i, hok2, hr2⟩ := a5 (hval 2 5 v2 rfl (by rw [hargs]; rfl)) ht2
    obtain ⟨j, hok3, hr3⟩ := a5 (hval 3 5 v3 rfl (by rw [hargs]; rfl)) ht3
    obtain ⟨m, hok4, hr4⟩ := a9 (hval 4 9 v4 rfl (by rw [hargs]; rfl)) ht4
    exact ⟨[.val (w8 c), .val (w8 h), .val (w8 i), .val (w8 j), .val (str m)], by rw [hargs]; simp only [RepL]; exact ⟨_, _, rfl, hr0, ⟨_, _, rfl, hr1, ⟨_, _, rfl, hr2, ⟨_, _, rfl, hr3, ⟨_, _, rfl, hr4, rfl⟩⟩⟩⟩⟩, TA.law8 glH_noRef glH_0 glH_1 c h i j m hok4⟩
theorem signBindsTheIndex_holds : Rows.SignBindsTheIndexSaid :=
  OpenClaim.holds_of_wide 8 Tryd.f8 rfl rfl rfl rfl rfl rfl rfl ⟨rfl, rfl, rfl, rfl, rfl⟩ rfl rfl rfl rfl rfl (by kernel_rfl) Tryd.func8 (by kernel_rfl)
    (of_decide_eq_true (by kernel_rfl)) (by unfold Func.isWrapper; first | (rw [if_pos (by decide +kernel)]; kernel_rfl) | (rw [if_neg (by decide +kernel)]; exact ⟨rfl, rfl⟩))
    (fun os started H enc _ => signBindsTheIndex_lifted os started H enc)
theorem signBindsTheIndex_card : Rows.SignBindsTheIndexCardSaid :=
  Claim7.holds_tied_plain_at .later [] [.data, .data] true (true, "d22a4e772cb3e4a67b5256754e7d4acc03c8eb1e2b30a492507f4d6237307e8e") false
    signBindsTheIndex_holds (fun _ h => by cases h) (by kernel_rfl) (fun _ h => by cases h) signBindsTheIndex_row_tie rfl ⟨rfl, rfl⟩ (by kernel_rfl) rfl
    (fun f fn hf hfn => by
      obtain rfl : f = 8 := Option.some.inj ((show Tryd.prog.funcNamed "passim/passimlaw03.SignBindsTheIndex" = some 8 by kernel_rfl).symm.trans hf) |>.symm
      obtain rfl : fn = Tryd.f8 := (Option.some.inj (Tryd.func8.symm.trans hfn)).symm
      refine ⟨by kernel_rfl, fun j t ht => ?_⟩
      have hm : t ∈ Tryd.f8.params := Array.mem_of_getElem? ht
      have hall : (Tryd.f8.params.all fun t => !(Tryd.prog.wantsStandIn t)) = true := by kernel_rfl
      have := Array.all_eq_true_iff_forall_mem.1 hall t hm
      exact (by simpa using this : Tryd.prog.wantsStandIn t = false))
    (by kernel_rfl)
end Go.Proofs.YthjamgmeehjfmaaDoor
