/-
  Proved: the statement WireConcat holds for every input , without a further condition.
-/
import Derived.Test.YtclpbgpclnipcaaWf
set_option linter.unusedSimpArgs false
set_option linter.unusedVariables false
namespace Go.Proofs.Ytclpbgpclnipcaa
open Go.ChangeShapes Go.WideShapes Go.RowKit Go.Sx


set_option maxRecDepth 100000 in
theorem wireConcat_lifted (os : Os) (started : os.Started) (H : Type) (enc : TypeId × Value → H) :
    ReturnsInHanded {} Try.checked os 10 .any (Rows.wireConcatSpec.pre6 enc Try.prog Try.f10 [] false) (Rows.wireConcatSpec.post enc Try.prog Try.f10 false true false false) := by
  refine law_plain (K := Try.checked) (gl := glN) started ownT (by kernel_rfl) Try.func10 loT mrT slT (by kernel_rfl) rfl (fun ds h => ?_) rfl (td_spec td4).1
    (ChangeSpec.witness6 (enc := enc) (C := Try.checked) (os := os) false ⟨#[], #[.string ⟨#[]⟩, .slice none 0 0], []⟩ 8 (by kernel_rfl) (by kernel_rfl) (by kernel_rfl) (by kernel_rfl) (by kernel_rfl))
    glN_ok (fun W b0 args ds p hval hA hsz => ?_)
  · match ds, h with
    | [d0, d1], _ => rfl
  · obtain ⟨v0, vs0, d0, ds0, p0, q0, hargs, rfl, ht0, hA0⟩ := trods_cons (t := 9) hA
    obtain ⟨v1, vs1, d1, ds1, p1, q1, rfl, rfl, ht1, hA1⟩ := trods_cons (t := 22) hA0
    obtain rfl := trods_nil hA1
    obtain rfl := trods_nil2 hA1
    obtain ⟨s, hR0, hr0⟩ := x9 (hval 0 9 v0 rfl (by rw [hargs]; rfl)) ht0
    obtain ⟨l, hR1, hr1⟩ := x22 (hval 1 22 v1 rfl (by rw [hargs]; rfl)) ht1
    have z1 := sz_str hsz (j := 0) rfl rfl hR0
    have z2 := sz_list hsz (j := 1) rfl rfl (td_spec td22).1 b3 hR1
    exact ⟨[.val (str s), sl iC .no l], by rw [hargs]; simp only [RepL]; exact ⟨_, _, rfl, hr0, ⟨_, _, rfl, hr1, rfl⟩⟩, law10 glN_noRef s l (by omega) (by omega) (ints_rng hR1)⟩
theorem wireConcat_holds : Rows.WireConcatSaid :=
  OpenClaim.holds_of_wide 10 Try.f10 rfl rfl rfl rfl rfl rfl rfl ⟨rfl, rfl, rfl, rfl, rfl⟩ rfl rfl rfl rfl rfl (by kernel_rfl) Try.func10 (by kernel_rfl)
    (of_decide_eq_true (by kernel_rfl)) (by unfold Func.isWrapper; first | (rw [if_pos (by decide +kernel)]; kernel_rfl) | (rw [if_neg (by decide +kernel)]; exact ⟨rfl, rfl⟩))
    (fun os started H enc _ => wireConcat_lifted os started H enc)

end Go.Proofs.Ytclpbgpclnipcaa
