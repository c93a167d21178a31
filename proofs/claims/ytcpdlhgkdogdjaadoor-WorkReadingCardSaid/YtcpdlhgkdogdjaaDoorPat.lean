/-
  
-/
import Derived.Test.YtcpdlhgkdogdjaaDoorPas
set_option linter.unusedSimpArgs false
set_option linter.unusedVariables false
namespace Go.Proofs.YtcpdlhgkdogdjaaDoor
open Go.ChangeShapes Go.WideShapes Go.RowKit Go.Sx
set_option maxRecDepth 100000 in
theorem workReading_lifted (os : Os) (started : os.Started) (H : Type) (enc : TypeId × Value → H) :
    ReturnsInHanded {} Tryd.checked os 7 .any (fun w args => (Rows.workReadingSpec.pre enc Tryd.prog Tryd.f7 [] false w args ∧ laidMetH Tryd.prog laid1 w) ∧ sizedMet enc Tryd.prog Tryd.f7 (OpenSpec.ofChange Rows.workReadingSpec) false w args)
      (Rows.workReadingSpec.post enc Tryd.prog Tryd.f7 false true false false) := by
  refine law_lifted (K := Tryd.checked) (gl := glN) started ownT (by kernel_rfl) Tryd.func7 loT mrT slT (by kernel_rfl) rfl (fun ds h => ?_) rfl (td_spec td4).1
    (ChangeSpec.witness_shaped (enc := enc) (C := Tryd.checked) (os := os) (X := fun w _ => laidMetH Tryd.prog laid1 w) false (World.doorLaid Tryd.prog 400 os) #[.slice none 0 0,.slice none 0 0] 8 rfl (World.shaped_of_RefB (by kernel_rfl) (by kernel_rfl)) (by kernel_rfl) (by kernel_rfl) (by kernel_rfl) (met1 os _))
    gl1 (fun W b0 args ds p hval hA => ?_)
  · match ds,h with
    | [d0,d1],_ => rfl
  · obtain ⟨v0,vs0,d0,ds0,p0,q0,hargs,rfl,ht0,hA0⟩ := trods_cons (t := 22) hA
    obtain ⟨v1,vs1,d1,ds1,p1,q1,rfl,rfl,ht1,hA1⟩ := trods_cons (t := 22) hA0
    obtain rfl := trods_nil hA1
    obtain ⟨l,hok0,hr0⟩ := a22 (hval 0 22 v0 rfl (by rw [hargs]; rfl)) ht0
    obtain ⟨r,hok1,hr1⟩ := a22 (hval 1 22 v1 rfl (by rw [hargs]; rfl)) ht1
    exact ⟨[sl iC .no l,sl iC .no r],by rw [hargs]; simp only [RepL]; exact ⟨_,_,rfl,hr0,⟨_,_,rfl,hr1,rfl⟩⟩,T7.law7 glN_noRef glN_0 l r hok0 hok1⟩
theorem workReading_holds : Rows.WorkReadingSaid :=
  OpenClaim.holds_of_wide 7 Tryd.f7 rfl rfl rfl rfl rfl rfl rfl ⟨rfl,rfl,rfl,rfl,rfl⟩ rfl rfl rfl rfl rfl (by kernel_rfl) Tryd.func7 (by kernel_rfl)
    (of_decide_eq_true (by kernel_rfl)) (by unfold Func.isWrapper; first | (rw [if_pos (by decide +kernel)]; kernel_rfl) | (rw [if_neg (by decide +kernel)]; exact ⟨rfl,rfl⟩))
    (fun os started H enc _ => workReading_lifted os started H enc)
theorem workReading_card : Rows.WorkReadingCardSaid :=
  Claim7.holds_tied_plain_at .later [] [.data] true (true, "65551ad1ab69c19db8d19995d7ae2bc075f95ca09b3f76e8e3e4bbba0450a399") false
    workReading_holds (fun _ h => by cases h) (by kernel_rfl) (fun _ h => by cases h) workReading_row_tie rfl ⟨rfl,rfl⟩ (by kernel_rfl) rfl
    (fun f fn hf hfn => by
      obtain rfl : f = 7 := Option.some.inj ((show Tryd.prog.funcNamed "passim/passimlaw07.WorkReading" = some 7 by kernel_rfl).symm.trans hf) |>.symm
      obtain rfl : fn = Tryd.f7 := (Option.some.inj (Tryd.func7.symm.trans hfn)).symm
      refine ⟨by kernel_rfl,fun j t ht => ?_⟩
      have hm : t ∈ Tryd.f7.params := Array.mem_of_getElem? ht
      have hall : (Tryd.f7.params.all fun t => !(Tryd.prog.wantsStandIn t)) = true := by kernel_rfl
      have := Array.all_eq_true_iff_forall_mem.1 hall t hm
      exact (by simpa using this : Tryd.prog.wantsStandIn t = false))
    (by kernel_rfl)
end Go.Proofs.YtcpdlhgkdogdjaaDoor
