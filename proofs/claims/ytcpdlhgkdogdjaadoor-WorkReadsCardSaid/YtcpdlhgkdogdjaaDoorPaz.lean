/-
  
-/
import Derived.Test.YtcpdlhgkdogdjaaDoorPay
set_option linter.unusedSimpArgs false
set_option linter.unusedVariables false
namespace Go.Proofs.YtcpdlhgkdogdjaaDoor
open Go.ChangeShapes Go.WideShapes Go.RowKit Go.Sx
set_option maxRecDepth 100000 in
theorem workReads_lifted (os : Os) (started : os.Started) (H : Type) (enc : TypeId × Value → H) :
    ReturnsInHanded {} Tryd.checked os 5 .any (fun w args => (Rows.workReadsSpec.pre enc Tryd.prog Tryd.f5 [] false w args ∧ laidMetH Tryd.prog laid1 w) ∧ sizedMet enc Tryd.prog Tryd.f5 (OpenSpec.ofChange Rows.workReadsSpec) false w args)
      (Rows.workReadsSpec.post enc Tryd.prog Tryd.f5 false true false false) := by
  refine law_lifted (K := Tryd.checked) (gl := glN) started ownT (by kernel_rfl) Tryd.func5 loT mrT slT (by kernel_rfl) rfl (fun ds h => ?_) rfl (td_spec td4).1
    (ChangeSpec.witness_shaped (enc := enc) (C := Tryd.checked) (os := os) (X := fun w _ => laidMetH Tryd.prog laid1 w) false (World.doorLaid Tryd.prog 400 os) #[.slice none 0 0,.int .i64 0,.int .i64 0,.slice none 0 0] 8 rfl (World.shaped_of_RefB (by kernel_rfl) (by kernel_rfl)) (by kernel_rfl) (by kernel_rfl) (by kernel_rfl) (met1 os _))
    gl1 (fun W b0 args ds p hval hA => ?_)
  · match ds,h with
    | [d0,d1,d2,d3],_ => rfl
  · obtain ⟨v0,vs0,d0,ds0,p0,q0,hargs,rfl,ht0,hA0⟩ := trods_cons (t := 22) hA
    obtain ⟨v1,vs1,d1,ds1,p1,q1,rfl,rfl,ht1,hA1⟩ := trods_cons (t := 3) hA0
    obtain ⟨v2,vs2,d2,ds2,p2,q2,rfl,rfl,ht2,hA2⟩ := trods_cons (t := 3) hA1
    obtain ⟨v3,vs3,d3,ds3,p3,q3,rfl,rfl,ht3,hA3⟩ := trods_cons (t := 22) hA2
    obtain rfl := trods_nil hA3
    obtain ⟨l,hok0,hr0⟩ := a22 (hval 0 22 v0 rfl (by rw [hargs]; rfl)) ht0
    obtain ⟨k,hok1,hr1⟩ := a3 (hval 1 3 v1 rfl (by rw [hargs]; rfl)) ht1
    obtain ⟨m,hok2,hr2⟩ := a3 (hval 2 3 v2 rfl (by rw [hargs]; rfl)) ht2
    obtain ⟨r,hok3,hr3⟩ := a22 (hval 3 22 v3 rfl (by rw [hargs]; rfl)) ht3
    exact ⟨[sl iC .no l,.val (.int .i64 k),.val (.int .i64 m),sl iC .no r],by rw [hargs]; simp only [RepL]; exact ⟨_,_,rfl,hr0,⟨_,_,rfl,hr1,⟨_,_,rfl,hr2,⟨_,_,rfl,hr3,rfl⟩⟩⟩⟩,T5.law5 glN_noRef glN_0 l k m r hok0 hok1 hok2 hok3⟩
theorem workReads_holds : Rows.WorkReadsSaid :=
  OpenClaim.holds_of_wide 5 Tryd.f5 rfl rfl rfl rfl rfl rfl rfl ⟨rfl,rfl,rfl,rfl,rfl⟩ rfl rfl rfl rfl rfl (by kernel_rfl) Tryd.func5 (by kernel_rfl)
    (of_decide_eq_true (by kernel_rfl)) (by unfold Func.isWrapper; first | (rw [if_pos (by decide +kernel)]; kernel_rfl) | (rw [if_neg (by decide +kernel)]; exact ⟨rfl,rfl⟩))
    (fun os started H enc _ => workReads_lifted os started H enc)
theorem workReads_card : Rows.WorkReadsCardSaid :=
  Claim7.holds_tied_plain_at .later [] [.data] true (true, "65551ad1ab69c19db8d19995d7ae2bc075f95ca09b3f76e8e3e4bbba0450a399") false
    workReads_holds (fun _ h => by cases h) (by kernel_rfl) (fun _ h => by cases h) workReads_row_tie rfl ⟨rfl,rfl⟩ (by kernel_rfl) rfl
    (fun f fn hf hfn => by
      obtain rfl : f = 5 := Option.some.inj ((show Tryd.prog.funcNamed "passim/passimlaw07.WorkReads" = some 5 by kernel_rfl).symm.trans hf) |>.symm
      obtain rfl : fn = Tryd.f5 := (Option.some.inj (Tryd.func5.symm.trans hfn)).symm
      refine ⟨by kernel_rfl,fun j t ht => ?_⟩
      have hm : t ∈ Tryd.f5.params := Array.mem_of_getElem? ht
      have hall : (Tryd.f5.params.all fun t => !(Tryd.prog.wantsStandIn t)) = true := by kernel_rfl
      have := Array.all_eq_true_iff_forall_mem.1 hall t hm
      exact (by simpa using this : Tryd.prog.wantsStandIn t = false))
    (by kernel_rfl)
end Go.Proofs.YtcpdlhgkdogdjaaDoor
