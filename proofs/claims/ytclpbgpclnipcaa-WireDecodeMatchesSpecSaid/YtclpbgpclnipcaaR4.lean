/-
  Proved: the statement WireDecodeMatchesSpec holds for every input , without a further condition.
-/
import Derived.Test.YtclpbgpclnipcaaWf
set_option linter.unusedSimpArgs false
set_option linter.unusedVariables false
namespace Go.Proofs.Ytclpbgpclnipcaa
open Go.ChangeShapes Go.WideShapes Go.RowKit Go.Sx


set_option maxRecDepth 100000 in
theorem wireDecodeMatchesSpec_lifted (os : Os) (started : os.Started) (H : Type) (enc : TypeId × Value → H) :
    ReturnsInHanded {} Try.checked os 4 .any (Rows.wireDecodeMatchesSpecSpec.pre6 enc Try.prog Try.f4 [] false) (Rows.wireDecodeMatchesSpecSpec.post enc Try.prog Try.f4 false true false false) := by
  refine law_plain (K := Try.checked) (gl := glN) started ownT (by kernel_rfl) Try.func4 loT mrT slT (by kernel_rfl) rfl (fun ds h => ?_) rfl (td_spec td4).1
    (ChangeSpec.witness6 (enc := enc) (C := Try.checked) (os := os) false ⟨#[], #[.slice none 0 0], []⟩ 8 (by kernel_rfl) (by kernel_rfl) (by kernel_rfl) (by kernel_rfl) (by kernel_rfl))
    glN_ok (fun W b0 args ds p hval hA hsz => ?_)
  · match ds, h with
    | [d0], _ => rfl
  · obtain ⟨v0, vs0, d0, ds0, p0, q0, hargs, rfl, ht0, hA0⟩ := trods_cons (t := 28) hA
    obtain rfl := trods_nil hA0
    obtain rfl := trods_nil2 hA0
    obtain ⟨b, hR0, hr0⟩ := x28 (hval 0 28 v0 rfl (by rw [hargs]; rfl)) ht0
    have z := sz_list hsz (j := 0) rfl rfl (td_spec td28).1 b5 hR0
    exact ⟨[sl bC .no b], by rw [hargs]; simp only [RepL]; exact ⟨_, _, rfl, hr0, rfl⟩, law4 glN_noRef b (by omega)⟩
theorem wireDecodeMatchesSpec_holds : Rows.WireDecodeMatchesSpecSaid :=
  OpenClaim.holds_of_wide 4 Try.f4 rfl rfl rfl rfl rfl rfl rfl ⟨rfl, rfl, rfl, rfl, rfl⟩ rfl rfl rfl rfl rfl (by kernel_rfl) Try.func4 (by kernel_rfl)
    (of_decide_eq_true (by kernel_rfl)) (by unfold Func.isWrapper; first | (rw [if_pos (by decide +kernel)]; kernel_rfl) | (rw [if_neg (by decide +kernel)]; exact ⟨rfl, rfl⟩))
    (fun os started H enc _ => wireDecodeMatchesSpec_lifted os started H enc)

end Go.Proofs.Ytclpbgpclnipcaa
