/-
  Proved: the statement WireTruncated holds for every input , without a further condition.
-/
import Derived.Test.YtclpbgpclnipcaaWf
set_option linter.unusedSimpArgs false
set_option linter.unusedVariables false
namespace Go.Proofs.Ytclpbgpclnipcaa
open Go.ChangeShapes Go.WideShapes Go.RowKit Go.Sx


set_option maxRecDepth 100000 in
theorem wireTruncated_lifted (os : Os) (started : os.Started) (H : Type) (enc : TypeId × Value → H) :
    ReturnsInHanded {} Try.checked os 9 .any (Rows.wireTruncatedSpec.pre6 enc Try.prog Try.f9 [] false) (Rows.wireTruncatedSpec.post enc Try.prog Try.f9 false true false false) := by
  refine law_plain (K := Try.checked) (gl := glN) started ownT (by kernel_rfl) Try.func9 loT mrT slT (by kernel_rfl) rfl (fun ds h => ?_) rfl (td_spec td4).1
    (ChangeSpec.witness6 (enc := enc) (C := Try.checked) (os := os) false ⟨#[], #[.int .i64 0, .string ⟨#[]⟩, .slice none 0 0, .slice none 0 0, .slice none 0 0], []⟩ 8 (by kernel_rfl) (by kernel_rfl) (by kernel_rfl) (by kernel_rfl) (by kernel_rfl))
    glN_ok (fun W b0 args ds p hval hA hsz => ?_)
  · match ds, h with
    | [d0, d1, d2, d3, d4], _ => rfl
  · obtain ⟨v0, vs0, d0, ds0, p0, q0, hargs, rfl, ht0, hA0⟩ := trods_cons (t := 3) hA
    obtain ⟨v1, vs1, d1, ds1, p1, q1, rfl, rfl, ht1, hA1⟩ := trods_cons (t := 9) hA0
    obtain ⟨v2, vs2, d2, ds2, p2, q2, rfl, rfl, ht2, hA2⟩ := trods_cons (t := 22) hA1
    obtain ⟨v3, vs3, d3, ds3, p3, q3, rfl, rfl, ht3, hA3⟩ := trods_cons (t := 23) hA2
    obtain ⟨v4, vs4, d4, ds4, p4, q4, rfl, rfl, ht4, hA4⟩ := trods_cons (t := 24) hA3
    obtain rfl := trods_nil hA4
    obtain rfl := trods_nil2 hA4
    obtain ⟨n, hR0, hr0⟩ := x3 (hval 0 3 v0 rfl (by rw [hargs]; rfl)) ht0
    obtain ⟨s, hR1, hr1⟩ := x9 (hval 1 9 v1 rfl (by rw [hargs]; rfl)) ht1
    obtain ⟨l, hR2, hr2⟩ := x22 (hval 2 22 v2 rfl (by rw [hargs]; rfl)) ht2
    obtain ⟨x, hR3, hr3⟩ := x23 (hval 3 23 v3 rfl (by rw [hargs]; rfl)) ht3
    obtain ⟨d, hR4, hr4⟩ := x24 (hval 4 24 v4 rfl (by rw [hargs]; rfl)) ht4
    have z1 := sz_str hsz (j := 1) rfl rfl hR1
    have z2 := sz_list hsz (j := 2) rfl rfl (td_spec td22).1 b3 hR2
    have z3 := sz_elem hsz (j := 3) rfl rfl (td_spec td23).1 hR3
    have z4 := sz_list hsz (j := 4) rfl rfl (td_spec td24).1 b57 hR4
    have z5 := flat_bound 140737488351232 x z3
    exact ⟨[.val (.int .i64 n), .val (str s), sl iC .no l, sl sC .no x, sl dC .no d], by rw [hargs]; simp only [RepL]; exact ⟨_, _, rfl, hr0, ⟨_, _, rfl, hr1, ⟨_, _, rfl, hr2, ⟨_, _, rfl, hr3, ⟨_, _, rfl, hr4, rfl⟩⟩⟩⟩⟩, law9 glN_noRef n s l x d hR0.1 z1 z2 z4 (fun hx => by omega) (ints_rng hR2)⟩
theorem wireTruncated_holds : Rows.WireTruncatedSaid :=
  OpenClaim.holds_of_wide 9 Try.f9 rfl rfl rfl rfl rfl rfl rfl ⟨rfl, rfl, rfl, rfl, rfl⟩ rfl rfl rfl rfl rfl (by kernel_rfl) Try.func9 (by kernel_rfl)
    (of_decide_eq_true (by kernel_rfl)) (by unfold Func.isWrapper; first | (rw [if_pos (by decide +kernel)]; kernel_rfl) | (rw [if_neg (by decide +kernel)]; exact ⟨rfl, rfl⟩))
    (fun os started H enc _ => wireTruncated_lifted os started H enc)

end Go.Proofs.Ytclpbgpclnipcaa
