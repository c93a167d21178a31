/-
  Proved: the statement BreaksRest holds for every input , without a further condition.
-/
import Derived.Test.YtljjjkmiegeocaaPaz
set_option linter.unusedSimpArgs false
set_option linter.unusedVariables false
namespace Go.Proofs.Ytljjjkmiegeocaa
open Go.ChangeShapes Go.WideShapes Go.RowKit Go.Sx
set_option maxRecDepth 100000 in
theorem breaksRest_lifted (os : Os) (started : os.Started) (H : Type) (enc : TypeId × Value → H) :
    ReturnsInHanded {} Try.checked os 7 .any (Rows.breaksRestSpec.pre6 enc Try.prog Try.f7 [] false) (Rows.breaksRestSpec.post enc Try.prog Try.f7 false true false false) := by
  refine law_plain (K := Try.checked) (gl := glN) started ownT (by kernel_rfl) Try.func7 loT mrT slT (by kernel_rfl) rfl (fun ds h => ?_) rfl (td_spec td4).1
    (ChangeSpec.witness6 (enc := enc) (C := Try.checked) (os := os) false ⟨#[], #[.slice none 0 0, .int .i64 0, .int .i64 0, .int .i64 0, .int .i64 0], []⟩ 8 (by kernel_rfl) (by kernel_rfl) (by kernel_rfl) (by kernel_rfl) (by kernel_rfl))
    glN_ok (fun W b0 args ds p hval hA hsz => ?_)
  · match ds, h with
    | [d0, d1, d2, d3, d4], _ => rfl
  · obtain ⟨v0, vs0, d0, ds0, p0, q0, hargs, rfl, ht0, hA0⟩ := trods_cons (t := 22) hA
    obtain ⟨v1, vs1, d1, ds1, p1, q1, rfl, rfl, ht1, hA1⟩ := trods_cons (t := 3) hA0
    obtain ⟨v2, vs2, d2, ds2, p2, q2, rfl, rfl, ht2, hA2⟩ := trods_cons (t := 3) hA1
    obtain ⟨v3, vs3, d3, ds3, p3, q3, rfl, rfl, ht3, hA3⟩ := trods_cons (t := 3) hA2
    obtain ⟨v4, vs4, d4, ds4, p4, q4, rfl, rfl, ht4, hA4⟩ := trods_cons (t := 3) hA3
    obtain rfl := trods_nil hA4
    obtain rfl := trods_nil2 hA4
    obtain ⟨l, hR0, hr0⟩ := x22 (hval 0 22 v0 rfl (by rw [hargs]; rfl)) ht0
    obtain ⟨n, hR1, hr1⟩ := x3 (hval 1 3 v1 rfl (by rw [hargs]; rfl)) ht1
    obtain ⟨m, hR2, hr2⟩ := x3 (hval 2 3 v2 rfl (by rw [hargs]; rfl)) ht2
    obtain ⟨times, hR3, hr3⟩ := x3 (hval 3 3 v3 rfl (by rw [hargs]; rfl)) ht3
    obtain ⟨wider, hR4, hr4⟩ := x3 (hval 4 3 v4 rfl (by rw [hargs]; rfl)) ht4
    exact ⟨[sl iC .no l, .val (.int .i64 n), .val (.int .i64 m), .val (.int .i64 times), .val (.int .i64 wider)], by rw [hargs]; simp only [RepL]; exact ⟨_, _, rfl, hr0, ⟨_, _, rfl, hr1, ⟨_, _, rfl, hr2, ⟨_, _, rfl, hr3, ⟨_, _, rfl, hr4, rfl⟩⟩⟩⟩⟩, law7 glN_noRef l n m times wider (ints_LI hR0) hR1.1 hR2.1 hR3.1 hR4.1⟩
theorem breaksRest_holds : Rows.BreaksRestSaid :=
  OpenClaim.holds_of_wide 7 Try.f7 rfl rfl rfl rfl rfl rfl rfl ⟨rfl, rfl, rfl, rfl, rfl⟩ rfl rfl rfl rfl rfl (by kernel_rfl) Try.func7 (by kernel_rfl)
    (of_decide_eq_true (by kernel_rfl)) (by unfold Func.isWrapper; first | (rw [if_pos (by decide +kernel)]; kernel_rfl) | (rw [if_neg (by decide +kernel)]; exact ⟨rfl, rfl⟩))
    (fun os started H enc _ => breaksRest_lifted os started H enc)
end Go.Proofs.Ytljjjkmiegeocaa
