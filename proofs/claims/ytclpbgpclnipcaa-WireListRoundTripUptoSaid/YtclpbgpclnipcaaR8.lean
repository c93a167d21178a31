/-
  Proved: the statement WireListRoundTrip holds for every input of bulk at most 1048576, without a further condition.
-/
import Derived.Test.YtclpbgpclnipcaaWf
set_option linter.unusedSimpArgs false
set_option linter.unusedVariables false
namespace Go.Proofs.Ytclpbgpclnipcaa
open Go.ChangeShapes Go.WideShapes Go.RowKit Go.Sx


set_option maxRecDepth 100000 in
theorem wireListRoundTrip_lifted (os : Os) (started : os.Started) (H : Type) (enc : TypeId × Value → H) (F : Stop.Interp) :
    ReturnsInHanded {} Try.checked os 8 .any ((Rows.OpenSpec.upto Rows.wireListRoundTripSpec).pre6 enc Try.prog Try.f8 [] false) (((Rows.OpenSpec.upto Rows.wireListRoundTripSpec).at F).post enc Try.prog Try.f8 false true false false) := by
  refine law_cond (K := Try.checked) (gl := glN) (s := Rows.wireListRoundTripSpec) (so := Rows.OpenSpec.upto Rows.wireListRoundTripSpec) started (k := Rows.uptoSmall) rfl rfl rfl rfl ownT (by kernel_rfl) Try.func8 loT mrT slT (by kernel_rfl) rfl (fun ds h => ?_) rfl (td_spec td4).1
    (OpenSpec.witness (enc := enc) (C := Try.checked) (s := Rows.OpenSpec.upto Rows.wireListRoundTripSpec) (k := Rows.uptoSmall) rfl false ⟨#[], #[.string ⟨#[]⟩, .slice none 0 0, .slice none 0 0, .slice none 0 0, .slice none 0 0], []⟩ 8 (by kernel_rfl) (by kernel_rfl) (by kernel_rfl)
      (x := ([.lit (.string []), .nil, .nil, .nil, .nil], [], [])) (by kernel_rfl) rfl (by kernel_rfl))
    glN_ok (fun W b0 args ds p hval hA hkk hsz => ?_)
  · match ds, h with
    | [d0, d1, d2, d3, d4], _ => rfl
  · obtain ⟨v0, vs0, d0, ds0, p0, q0, hargs, rfl, ht0, hA0⟩ := trods_cons (t := 9) hA
    obtain ⟨v1, vs1, d1, ds1, p1, q1, rfl, rfl, ht1, hA1⟩ := trods_cons (t := 22) hA0
    obtain ⟨v2, vs2, d2, ds2, p2, q2, rfl, rfl, ht2, hA2⟩ := trods_cons (t := 23) hA1
    obtain ⟨v3, vs3, d3, ds3, p3, q3, rfl, rfl, ht3, hA3⟩ := trods_cons (t := 24) hA2
    obtain ⟨v4, vs4, d4, ds4, p4, q4, rfl, rfl, ht4, hA4⟩ := trods_cons (t := 28) hA3
    obtain rfl := trods_nil hA4
    obtain rfl := trods_nil2 hA4
    obtain ⟨s, hR0, hr0⟩ := x9 (hval 0 9 v0 rfl (by rw [hargs]; rfl)) ht0
    obtain ⟨l, hR1, hr1⟩ := x22 (hval 1 22 v1 rfl (by rw [hargs]; rfl)) ht1
    obtain ⟨x, hR2, hr2⟩ := x23 (hval 2 23 v2 rfl (by rw [hargs]; rfl)) ht2
    obtain ⟨d, hR3, hr3⟩ := x24 (hval 3 24 v3 rfl (by rw [hargs]; rfl)) ht3
    obtain ⟨t, hR4, hr4⟩ := x28 (hval 4 28 v4 rfl (by rw [hargs]; rfl)) ht4
    have hbk := bulk_le hkk
    have hsum : Rows.uptoBulk d0 + Rows.uptoBulk d1 + Rows.uptoBulk d2 + Rows.uptoBulk d3 + Rows.uptoBulk d4 + 0 ≤ 1048576 := by simp only [Rows.uptoBulkAll] at hbk; omega
    have z1 := bk_str bulkOK hR0
    have z2 := bk_len bulkOK hR1
    have z3 := strs_sum hR2
    have z4 := bk_len bulkOK hR3
    have z5 := bk_len bulkOK hR4
    exact ⟨[.val (str s), sl iC .no l, sl sC .no x, sl dC .no d, sl bC .no t], by rw [hargs]; simp only [RepL]; exact ⟨_, _, rfl, hr0, ⟨_, _, rfl, hr1, ⟨_, _, rfl, hr2, ⟨_, _, rfl, hr3, ⟨_, _, rfl, hr4, rfl⟩⟩⟩⟩⟩, law8 glN_noRef s l x d t (by omega) (by omega) (by omega) (by omega) (by omega) (ints_rng hR1)⟩
theorem wireListRoundTrip_upto : Rows.WireListRoundTripUptoSaid :=
  OpenClaim.holds_of_cond 8 Try.f8 rfl rfl rfl rfl rfl rfl rfl ⟨rfl, rfl, rfl, rfl, rfl⟩ rfl rfl rfl rfl rfl (by kernel_rfl) Try.func8 (by kernel_rfl)
    (of_decide_eq_true (by kernel_rfl)) (by unfold Func.isWrapper; first | (rw [if_pos (by decide +kernel)]; kernel_rfl) | (rw [if_neg (by decide +kernel)]; exact ⟨rfl, rfl⟩))
    (fun os started H enc _ F => wireListRoundTrip_lifted os started H enc F)

end Go.Proofs.Ytclpbgpclnipcaa
