/-
  Proved: the statement BreaksTexts holds for every input , without a further condition.
-/
import Derived.Test.YtljjjkmiegeocaaPax
set_option linter.unusedSimpArgs false
set_option linter.unusedVariables false
namespace Go.Proofs.Ytljjjkmiegeocaa
open Go.ChangeShapes Go.WideShapes Go.RowKit Go.Sx
set_option maxRecDepth 100000 in
theorem breaksTexts_lifted (os : Os) (started : os.Started) (H : Type) (enc : TypeId × Value → H) :
    ReturnsInHanded {} Try.checked os 8 .any (Rows.breaksTextsSpec.pre6 enc Try.prog Try.f8 [] false) (Rows.breaksTextsSpec.post enc Try.prog Try.f8 false true false false) := by
  refine law_plain (K := Try.checked) (gl := glN) started ownT (by kernel_rfl) Try.func8 loT mrT slT (by kernel_rfl) rfl (fun ds h => ?_) rfl (td_spec td4).1
    (ChangeSpec.witness6 (enc := enc) (C := Try.checked) (os := os) false ⟨#[], #[.slice none 0 0, .int .i64 0], []⟩ 8 (by kernel_rfl) (by kernel_rfl) (by kernel_rfl) (by kernel_rfl) (by kernel_rfl))
    glN_ok (fun W b0 args ds p hval hA hsz => ?_)
  · match ds, h with
    | [d0, d1], _ => rfl
  · obtain ⟨v0, vs0, d0, ds0, p0, q0, hargs, rfl, ht0, hA0⟩ := trods_cons (t := 22) hA
    obtain ⟨v1, vs1, d1, ds1, p1, q1, rfl, rfl, ht1, hA1⟩ := trods_cons (t := 3) hA0
    obtain rfl := trods_nil hA1
    obtain rfl := trods_nil2 hA1
    obtain ⟨l, hR0, hr0⟩ := x22 (hval 0 22 v0 rfl (by rw [hargs]; rfl)) ht0
    obtain ⟨m, hR1, hr1⟩ := x3 (hval 1 3 v1 rfl (by rw [hargs]; rfl)) ht1
    exact ⟨[sl iC .no l, .val (.int .i64 m)], by rw [hargs]; simp only [RepL]; exact ⟨_, _, rfl, hr0, ⟨_, _, rfl, hr1, rfl⟩⟩, law8 glN_noRef l m (ints_LI hR0) hR1.1⟩
theorem breaksTexts_holds : Rows.BreaksTextsSaid :=
  OpenClaim.holds_of_wide 8 Try.f8 rfl rfl rfl rfl rfl rfl rfl ⟨rfl, rfl, rfl, rfl, rfl⟩ rfl rfl rfl rfl rfl (by kernel_rfl) Try.func8 (by kernel_rfl)
    (of_decide_eq_true (by kernel_rfl)) (by unfold Func.isWrapper; first | (rw [if_pos (by decide +kernel)]; kernel_rfl) | (rw [if_neg (by decide +kernel)]; exact ⟨rfl, rfl⟩))
    (fun os started H enc _ => breaksTexts_lifted os started H enc)
end Go.Proofs.Ytljjjkmiegeocaa
