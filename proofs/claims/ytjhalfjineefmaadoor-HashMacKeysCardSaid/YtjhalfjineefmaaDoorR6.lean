/-
  Proved: the statement HashMacKeys holds for every input, without a condition.
-/
import Derived.Test.YtjhalfjineefmaaDoorHf
set_option linter.unusedSimpArgs false
set_option linter.unusedVariables false
namespace Go.Proofs.YtjhalfjineefmaaDoor
open Go.ChangeShapes Go.WideShapes Go.RowKit Go.Sx


set_option maxRecDepth 100000 in
theorem hashMacKeys_lifted (os : Os) (started : os.Started) (H : Type) (enc : TypeId × Value → H) :
    ReturnsInHanded {} Tryd.checked os 6 .any (fun w args => (Rows.hashMacKeysSpec.pre enc Tryd.prog Tryd.f6 [] false w args ∧ laidMetH Tryd.prog laid1 w) ∧ sizedMet enc Tryd.prog Tryd.f6 (OpenSpec.ofChange Rows.hashMacKeysSpec) false w args)
      (Rows.hashMacKeysSpec.post enc Tryd.prog Tryd.f6 false true false false) := by
  refine law_lifted (K := Tryd.checked) (gl := glB) started ownT (by kernel_rfl) Tryd.func6 loT mrT slT (by kernel_rfl) rfl (fun ds h => ?_) rfl (td_spec td4).1
    (ChangeSpec.witness_shaped (enc := enc) (C := Tryd.checked) (os := os) (X := fun w _ => laidMetH Tryd.prog laid1 w) false (World.doorLaid Tryd.prog 400 os) #[.string ⟨#[]⟩, .string ⟨#[]⟩] 8 rfl (World.shaped_of_RefB (by kernel_rfl) (by kernel_rfl)) (by kernel_rfl) (by kernel_rfl) (by kernel_rfl) (met1 os _))
    gl1 (fun W b0 args ds p hval hA => ?_)
  · match ds, h with
    | [d0, d1], _ => rfl
  · obtain ⟨v0, vs0, d0, ds0, p0, q0, hargs, rfl, ht0, hA0⟩ := trods_cons (t := 9) hA
    obtain ⟨v1, vs1, d1, ds1, p1, q1, rfl, rfl, ht1, hA1⟩ := trods_cons (t := 9) hA0
    obtain rfl := trods_nil hA1
    obtain ⟨x, hok0, hr0⟩ := a9 (hval 0 9 v0 rfl (by rw [hargs]; rfl)) ht0
    obtain ⟨y, hok1, hr1⟩ := a9 (hval 1 9 v1 rfl (by rw [hargs]; rfl)) ht1
    exact ⟨[.val (str x), .val (str y)], by rw [hargs]; simp only [RepL]; exact ⟨_, _, rfl, hr0, ⟨_, _, rfl, hr1, rfl⟩⟩, TB.law6 glB_noRef glB_1 x y⟩

theorem hashMacKeys_holds : Rows.HashMacKeysSaid :=
  OpenClaim.holds_of_wide 6 Tryd.f6 rfl rfl rfl rfl rfl rfl rfl ⟨rfl, rfl, rfl, rfl, rfl⟩ rfl rfl rfl rfl rfl (by kernel_rfl) Tryd.func6 (by kernel_rfl)
    (of_decide_eq_true (by kernel_rfl)) (by unfold Func.isWrapper; first | (rw [if_pos (by decide +kernel)]; kernel_rfl) | (rw [if_neg (by decide +kernel)]; exact ⟨rfl, rfl⟩))
    (fun os started H enc _ => hashMacKeys_lifted os started H enc)

theorem hashMacKeys_card : Rows.HashMacKeysCardSaid :=
  Claim7.holds_tied_plain_at .later [] [.data] true (true, "5efcd72ddf5714546aa6f93fef8f321c6766be1570c56af7d5de665c820d70e8") false
    hashMacKeys_holds (fun _ h => by cases h) (by kernel_rfl) (fun _ h => by cases h) hashMacKeys_row_tie rfl ⟨rfl, rfl⟩ (by kernel_rfl) rfl
    (fun f fn hf hfn => by
      obtain rfl : f = 6 := Option.some.inj ((show Tryd.prog.funcNamed "passim/passimlaw02.HashMacKeys" = some 6 by kernel_rfl).symm.trans hf) |>.symm
      obtain rfl : fn = Tryd.f6 := (Option.some.inj (Tryd.func6.symm.trans hfn)).symm
      refine ⟨by kernel_rfl, fun j t ht => ?_⟩
      have hm : t ∈ Tryd.f6.params := Array.mem_of_getElem? ht
      have hall : (Tryd.f6.params.all fun t => !(Tryd.prog.wantsStandIn t)) = true := by kernel_rfl
      have := Array.all_eq_true_iff_forall_mem.1 hall t hm
      exact (by simpa using this : Tryd.prog.wantsStandIn t = false))
    (by kernel_rfl)

end Go.Proofs.YtjhalfjineefmaaDoor
