/-
  Proved: the statement WireIntRoundTrip holds for every input , without a further condition.
-/
import Derived.Test.YtclpbgpclnipcaaWf
set_option linter.unusedSimpArgs false
set_option linter.unusedVariables false
namespace Go.Proofs.Ytclpbgpclnipcaa
open Go.ChangeShapes Go.WideShapes Go.RowKit Go.Sx


set_option maxRecDepth 100000 in
theorem wireIntRoundTrip_lifted (os : Os) (started : os.Started) (H : Type) (enc : TypeId × Value → H) :
    ReturnsInHanded {} Try.checked os 6 .any (Rows.wireIntRoundTripSpec.pre6 enc Try.prog Try.f6 [] false) (Rows.wireIntRoundTripSpec.post enc Try.prog Try.f6 false true false false) := by
  refine law_plain (K := Try.checked) (gl := glN) started ownT (by kernel_rfl) Try.func6 loT mrT slT (by kernel_rfl) rfl (fun ds h => ?_) rfl (td_spec td4).1
    (ChangeSpec.witness6 (enc := enc) (C := Try.checked) (os := os) false ⟨#[], #[.int .i64 0, .slice none 0 0], []⟩ 8 (by kernel_rfl) (by kernel_rfl) (by kernel_rfl) (by kernel_rfl) (by kernel_rfl))
    glN_ok (fun W b0 args ds p hval hA hsz => ?_)
  · match ds, h with
    | [d0, d1], _ => rfl
  · obtain ⟨v0, vs0, d0, ds0, p0, q0, hargs, rfl, ht0, hA0⟩ := trods_cons (t := 3) hA
    obtain ⟨v1, vs1, d1, ds1, p1, q1, rfl, rfl, ht1, hA1⟩ := trods_cons (t := 28) hA0
    obtain rfl := trods_nil hA1
    obtain rfl := trods_nil2 hA1
    obtain ⟨n, hR0, hr0⟩ := x3 (hval 0 3 v0 rfl (by rw [hargs]; rfl)) ht0
    obtain ⟨b, hR1, hr1⟩ := x28 (hval 1 28 v1 rfl (by rw [hargs]; rfl)) ht1
    have z := sz_list hsz (j := 1) rfl rfl (td_spec td28).1 b5 hR1
    exact ⟨[.val (.int .i64 n), sl bC .no b], by rw [hargs]; simp only [RepL]; exact ⟨_, _, rfl, hr0, ⟨_, _, rfl, hr1, rfl⟩⟩, law6 glN_noRef n b hR0.1 (by omega)⟩
theorem wireIntRoundTrip_holds : Rows.WireIntRoundTripSaid :=
  OpenClaim.holds_of_wide 6 Try.f6 rfl rfl rfl rfl rfl rfl rfl ⟨rfl, rfl, rfl, rfl, rfl⟩ rfl rfl rfl rfl rfl (by kernel_rfl) Try.func6 (by kernel_rfl)
    (of_decide_eq_true (by kernel_rfl)) (by unfold Func.isWrapper; first | (rw [if_pos (by decide +kernel)]; kernel_rfl) | (rw [if_neg (by decide +kernel)]; exact ⟨rfl, rfl⟩))
    (fun os started H enc _ => wireIntRoundTrip_lifted os started H enc)

end Go.Proofs.Ytclpbgpclnipcaa
