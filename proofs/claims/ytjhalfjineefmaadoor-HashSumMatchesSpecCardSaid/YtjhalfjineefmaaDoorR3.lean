/-
  Proved: the statement HashSumMatchesSpec holds for every input, without a condition.
-/
import Derived.Test.YtjhalfjineefmaaDoorHf
set_option linter.unusedSimpArgs false
set_option linter.unusedVariables false
namespace Go.Proofs.YtjhalfjineefmaaDoor
open Go.ChangeShapes Go.WideShapes Go.RowKit Go.Sx


set_option maxRecDepth 100000 in
theorem hashSumMatchesSpec_lifted (os : Os) (started : os.Started) (H : Type) (enc : TypeId × Value → H) :
    ReturnsInHanded {} Tryd.checked os 3 .any (fun w args => (Rows.hashSumMatchesSpecSpec.pre enc Tryd.prog Tryd.f3 [] false w args ∧ laidMetH Tryd.prog laid2 w) ∧ sizedMet enc Tryd.prog Tryd.f3 (OpenSpec.ofChange Rows.hashSumMatchesSpecSpec) false w args)
      (Rows.hashSumMatchesSpecSpec.post enc Tryd.prog Tryd.f3 false true false false) := by
  refine law_lifted (K := Tryd.checked) (gl := glH) started ownT (by kernel_rfl) Tryd.func3 loT mrT slT (by kernel_rfl) rfl (fun ds h => ?_) rfl (td_spec td4).1
    (ChangeSpec.witness_shaped (enc := enc) (C := Tryd.checked) (os := os) (X := fun w _ => laidMetH Tryd.prog laid2 w) false (World.doorLaid Tryd.prog 400 os) #[.slice none 0 0] 8 rfl (World.shaped_of_RefB (by kernel_rfl) (by kernel_rfl)) (by kernel_rfl) (by kernel_rfl) (by kernel_rfl) (met2 os _))
    gl2 (fun W b0 args ds p hval hA => ?_)
  · match ds, h with
    | [d0], _ => rfl
  · obtain ⟨v0, vs0, d0, ds0, p0, q0, hargs, rfl, ht0, hA0⟩ := trods_cons (t := 22) hA
    obtain rfl := trods_nil hA0
    obtain ⟨b, hok0, hr0⟩ := a22 (hval 0 22 v0 rfl (by rw [hargs]; rfl)) ht0
    exact ⟨[sl bC .no b], by rw [hargs]; simp only [RepL]; exact ⟨_, _, rfl, hr0, rfl⟩, law3 glH_noRef glH_0 glH_1 b⟩

theorem hashSumMatchesSpec_holds : Rows.HashSumMatchesSpecSaid :=
  OpenClaim.holds_of_wide 3 Tryd.f3 rfl rfl rfl rfl rfl rfl rfl ⟨rfl, rfl, rfl, rfl, rfl⟩ rfl rfl rfl rfl rfl (by kernel_rfl) Tryd.func3 (by kernel_rfl)
    (of_decide_eq_true (by kernel_rfl)) (by unfold Func.isWrapper; first | (rw [if_pos (by decide +kernel)]; kernel_rfl) | (rw [if_neg (by decide +kernel)]; exact ⟨rfl, rfl⟩))
    (fun os started H enc _ => hashSumMatchesSpec_lifted os started H enc)

theorem hashSumMatchesSpec_card : Rows.HashSumMatchesSpecCardSaid :=
  Claim7.holds_tied_plain_at .later [] [.data, .data] true (true, "5efcd72ddf5714546aa6f93fef8f321c6766be1570c56af7d5de665c820d70e8") false
    hashSumMatchesSpec_holds (fun _ h => by cases h) (by kernel_rfl) (fun _ h => by cases h) hashSumMatchesSpec_row_tie rfl ⟨rfl, rfl⟩ (by kernel_rfl) rfl
    (fun f fn hf hfn => by
      obtain rfl : f = 3 := Option.some.inj ((show Tryd.prog.funcNamed "passim/passimlaw02.HashSumMatchesSpec" = some 3 by kernel_rfl).symm.trans hf) |>.symm
      obtain rfl : fn = Tryd.f3 := (Option.some.inj (Tryd.func3.symm.trans hfn)).symm
      refine ⟨by kernel_rfl, fun j t ht => ?_⟩
      have hm : t ∈ Tryd.f3.params := Array.mem_of_getElem? ht
      have hall : (Tryd.f3.params.all fun t => !(Tryd.prog.wantsStandIn t)) = true := by kernel_rfl
      have := Array.all_eq_true_iff_forall_mem.1 hall t hm
      exact (by simpa using this : Tryd.prog.wantsStandIn t = false))
    (by kernel_rfl)

end Go.Proofs.YtjhalfjineefmaaDoor
