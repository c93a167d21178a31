/-
  Package breaks: the contracts that the law of Texts needs. And what follows.
-/
import Derived.Test.YtljjjkmiegeocaaRows
import Derived.Test.YtljjjkmiegeocaaPap
import Derived.Test.YtljjjkmiegeocaaPaq
import Derived.Test.YtljjjkmiegeocaaPaw
import Derived.Test.YtljjjkmiegeocaaPai
set_option linter.unusedSimpArgs false
set_option linter.unusedVariables false
namespace Go.Sx
open Go.RowKit Go.Proofs
def pu0 : Nat → List C → Option C := fun _ _ => none
theorem ok0 {gl : Nat → C} (hgn : ∀ g, noRef 0 (gl g) = true)  (M : Nat) : CxOK (cxP gl M pu0) := CxOK.zero hgn
theorem hno0 : ∀ (g : Nat) (xs : List C), refy xs = true → pu0 g xs = none := hno_zero
abbrev D1 := {q0 : Int // True}
def enc1 (q0 : D1) : List C := [.val (.int .i64 (q0.1))]
def out1 (q0 : D1) : C := .val (.bool false)
noncomputable def pu1 : Nat → List C → Option C := Sx.ext pu0 59 (tabOf enc1 out1)
theorem nr1 (x : D1) : noRefs 0 (enc1 x) = true := by
  simp only [enc1, noRef_val, noRef_agg, noRef_tup, noRef_kp, noRef_sl, noRefs_cl, noRefs_cons, noRefs_nil, noRefs_app, Bool.and_self, Bool.and_true, noRef_yF]
theorem ij1 (x y : D1) (h : enc1 x = enc1 y) : out1 x = out1 y := by
  simp only [enc1, List.cons.injEq, C.val.injEq, C.agg.injEq, C.kp.injEq, str_inj, nI_inj, nU_inj, w8_inj, w32_inj, cl_inj, sl_inj, Value.int.injEq, Value.bool.injEq, true_and, and_true] at h; simp only [out1, h]
theorem ok1 {gl : Nat → C} (hgn : ∀ g, noRef 0 (gl g) = true)  (M : Nat) : CxOK (cxP gl M pu1) := CxOK.ext2 (N := 0) (ok0 hgn  0) nr1 fun q0 => fc59 (ok0 hgn  0)  ((q0.1))
theorem hno1 : ∀ (g : Nat) (xs : List C), refy xs = true → pu1 g xs = none := hno_ext hno0 nr1
theorem hit1 (n : Int)  : pu1 59 [.val (.int .i64 n)] = some (.val (.bool false)) :=
  (ext_hit _).trans (tabOf_enc ij1 ⟨(n), trivial⟩)
abbrev D2 := {q0 : Int × Int // True}
def enc2 (q0 : D2) : List C := [.val (.int .i64 (q0.1.1)), .val (.int .i64 (q0.1.2))]
def out2 (q0 : D2) : C := .val (.int .i64 (cmpI (q0.1.1) (q0.1.2)))
noncomputable def pu2 : Nat → List C → Option C := Sx.ext pu1 58 (tabOf enc2 out2)
theorem nr2 (x : D2) : noRefs 0 (enc2 x) = true := by
  simp only [enc2, noRef_val, noRef_agg, noRef_tup, noRef_kp, noRef_sl, noRefs_cl, noRefs_cons, noRefs_nil, noRefs_app, Bool.and_self, Bool.and_true, noRef_yF]
theorem ij2 (x y : D2) (h : enc2 x = enc2 y) : out2 x = out2 y := by
  simp only [enc2, List.cons.injEq, C.val.injEq, C.agg.injEq, C.kp.injEq, str_inj, nI_inj, nU_inj, w8_inj, w32_inj, cl_inj, sl_inj, Value.int.injEq, Value.bool.injEq, true_and, and_true] at h; simp only [out2, h]
theorem ok2 {gl : Nat → C} (hgn : ∀ g, noRef 0 (gl g) = true)  (M : Nat) : CxOK (cxP gl M pu2) := CxOK.ext2 (N := 0) (ok1 hgn  0) nr2 fun q0 => fc58 (ok1 hgn  0) (by intros; apply hit1 <;> first | assumption | omega) ((q0.1.1)) ((q0.1.2))
theorem hno2 : ∀ (g : Nat) (xs : List C), refy xs = true → pu2 g xs = none := hno_ext hno1 nr2
theorem hit2 (a : Int) (b : Int)  : pu2 58 [.val (.int .i64 a), .val (.int .i64 b)] = some (.val (.int .i64 (cmpI a b))) :=
  (ext_hit _).trans (tabOf_enc ij2 ⟨(a, b), trivial⟩)
abbrev D3 := {q0 : Int // (-9223372036854775808 ≤ (q0) ∧ (q0) ≤ 9223372036854775807)}
def enc3 (q0 : D3) : List C := [.val (.int .i64 (q0.1))]
def out3 (q0 : D3) : C := .val (.bool (proI (q0.1)))
noncomputable def pu3 : Nat → List C → Option C := Sx.ext pu2 53 (tabOf enc3 out3)
theorem nr3 (x : D3) : noRefs 0 (enc3 x) = true := by
  simp only [enc3, noRef_val, noRef_agg, noRef_tup, noRef_kp, noRef_sl, noRefs_cl, noRefs_cons, noRefs_nil, noRefs_app, Bool.and_self, Bool.and_true, noRef_yF]
theorem ij3 (x y : D3) (h : enc3 x = enc3 y) : out3 x = out3 y := by
  simp only [enc3, List.cons.injEq, C.val.injEq, C.agg.injEq, C.kp.injEq, str_inj, nI_inj, nU_inj, w8_inj, w32_inj, cl_inj, sl_inj, Value.int.injEq, Value.bool.injEq, true_and, and_true] at h; simp only [out3, h]
theorem ok3 {gl : Nat → C} (hgn : ∀ g, noRef 0 (gl g) = true)  (M : Nat) : CxOK (cxP gl M pu3) := CxOK.ext2 (N := 0) (ok2 hgn  0) nr3 fun q0 => fc53 (ok2 hgn  0)  ((q0.1)) q0.2
theorem hno3 : ∀ (g : Nat) (xs : List C), refy xs = true → pu3 g xs = none := hno_ext hno2 nr3
theorem hit3 (n : Int) (hc0 : -9223372036854775808 ≤ n ∧ n ≤ 9223372036854775807) : pu3 53 [.val (.int .i64 n)] = some (.val (.bool (proI n))) :=
  (ext_hit _).trans (tabOf_enc ij3 ⟨(n), hc0⟩)
abbrev D4 := {q0 : (List Int) × Int × Int // (Col (q0.1) (q0.2.1) (q0.2.2))}
def enc4 (q0 : D4) : List C := [.agg [sl iC .no (q0.1.1), .val (.int .i64 (q0.1.2.1)), .val (.int .i64 (q0.1.2.2))]]
def out4 (q0 : D4) : C := .val (nI ((q0.1.1).length - 1))
noncomputable def pu4 : Nat → List C → Option C := Sx.ext pu3 38 (tabOf enc4 out4)
theorem nr4 (x : D4) : noRefs 0 (enc4 x) = true := by
  simp only [enc4, noRef_val, noRef_agg, noRef_tup, noRef_kp, noRef_sl, noRefs_cl, noRefs_cons, noRefs_nil, noRefs_app, Bool.and_self, Bool.and_true, noRef_yF]
theorem ij4 (x y : D4) (h : enc4 x = enc4 y) : out4 x = out4 y := by
  simp only [enc4, List.cons.injEq, C.val.injEq, C.agg.injEq, C.kp.injEq, str_inj, nI_inj, nU_inj, w8_inj, w32_inj, cl_inj, sl_inj, Value.int.injEq, Value.bool.injEq, true_and, and_true] at h; simp only [out4, h]
theorem ok4 {gl : Nat → C} (hgn : ∀ g, noRef 0 (gl g) = true)  (M : Nat) : CxOK (cxP gl M pu4) := CxOK.ext2 (N := 0) (ok3 hgn  0) nr4 fun q0 => fc38 (ok3 hgn  0)  ((q0.1.1)) ((q0.1.2.1)) ((q0.1.2.2)) q0.2
theorem hno4 : ∀ (g : Nat) (xs : List C), refy xs = true → pu4 g xs = none := hno_ext hno3 nr4
theorem hit4 (S : List Int) (b : Int) (w : Int) (hc0 : Col S b w) : pu4 38 [.agg [sl iC .no S, .val (.int .i64 b), .val (.int .i64 w)]] = some (.val (nI (S.length - 1))) :=
  (ext_hit _).trans (tabOf_enc ij4 ⟨(S, b, w), hc0⟩)
abbrev D5 := {q0 : (List Int) × Int × Int × Int × Int // (Col (q0.1) (q0.2.1) (q0.2.2.1)) ∧ (0 ≤ (q0.2.2.2.1) ∧ (q0.2.2.2.1) < (q0.1).length ∧ 0 ≤ (q0.2.2.2.2) ∧ (q0.2.2.2.2) < (q0.1).length)}
def enc5 (q0 : D5) : List C := [.agg [sl iC .no (q0.1.1), .val (.int .i64 (q0.1.2.1)), .val (.int .i64 (q0.1.2.2.1))], .val (.int .i64 (q0.1.2.2.2.1)), .val (.int .i64 (q0.1.2.2.2.2))]
def out5 (q0 : D5) : C := .val (.int .i64 (freS (q0.1.1) (q0.1.2.1) (q0.1.2.2.1) (q0.1.2.2.2.1) (q0.1.2.2.2.2)))
noncomputable def pu5 : Nat → List C → Option C := Sx.ext pu4 39 (tabOf enc5 out5)
theorem nr5 (x : D5) : noRefs 0 (enc5 x) = true := by
  simp only [enc5, noRef_val, noRef_agg, noRef_tup, noRef_kp, noRef_sl, noRefs_cl, noRefs_cons, noRefs_nil, noRefs_app, Bool.and_self, Bool.and_true, noRef_yF]
theorem ij5 (x y : D5) (h : enc5 x = enc5 y) : out5 x = out5 y := by
  simp only [enc5, List.cons.injEq, C.val.injEq, C.agg.injEq, C.kp.injEq, str_inj, nI_inj, nU_inj, w8_inj, w32_inj, cl_inj, sl_inj, Value.int.injEq, Value.bool.injEq, true_and, and_true] at h; simp only [out5, h]
theorem ok5 {gl : Nat → C} (hgn : ∀ g, noRef 0 (gl g) = true)  (M : Nat) : CxOK (cxP gl M pu5) := CxOK.ext2 (N := 0) (ok4 hgn  0) nr5 fun q0 => fc39 (ok4 hgn  0)  ((q0.1.1)) ((q0.1.2.1)) ((q0.1.2.2.1)) ((q0.1.2.2.2.1)) ((q0.1.2.2.2.2)) q0.2.1 q0.2.2
theorem hno5 : ∀ (g : Nat) (xs : List C), refy xs = true → pu5 g xs = none := hno_ext hno4 nr5
theorem hit5 (S : List Int) (b : Int) (w : Int) (i : Int) (j : Int) (hc0 : Col S b w) (hc1 : 0 ≤ i ∧ i < S.length ∧ 0 ≤ j ∧ j < S.length) : pu5 39 [.agg [sl iC .no S, .val (.int .i64 b), .val (.int .i64 w)], .val (.int .i64 i), .val (.int .i64 j)] = some (.val (.int .i64 (freS S b w i j))) :=
  (ext_hit _).trans (tabOf_enc ij5 ⟨(S, b, w, i, j), ⟨hc0, hc1⟩⟩)
abbrev D6 := {q0 : (List Int) × Int × Int × Int × Int // (Col (q0.1) (q0.2.1) (q0.2.2.1)) ∧ (0 ≤ (q0.2.2.2.1) ∧ (q0.2.2.2.1) < (q0.1).length ∧ 0 ≤ (q0.2.2.2.2) ∧ (q0.2.2.2.2) < (q0.1).length)}
def enc6 (q0 : D6) : List C := [.agg [sl iC .no (q0.1.1), .val (.int .i64 (q0.1.2.1)), .val (.int .i64 (q0.1.2.2.1))], .val (.int .i64 (q0.1.2.2.2.1)), .val (.int .i64 (q0.1.2.2.2.2))]
def out6 (q0 : D6) : C := .val (.int .i64 (priS (q0.1.1) (q0.1.2.1) (q0.1.2.2.1) (q0.1.2.2.2.1) (q0.1.2.2.2.2)))
noncomputable def pu6 : Nat → List C → Option C := Sx.ext pu5 40 (tabOf enc6 out6)
theorem nr6 (x : D6) : noRefs 0 (enc6 x) = true := by
  simp only [enc6, noRef_val, noRef_agg, noRef_tup, noRef_kp, noRef_sl, noRefs_cl, noRefs_cons, noRefs_nil, noRefs_app, Bool.and_self, Bool.and_true, noRef_yF]
theorem ij6 (x y : D6) (h : enc6 x = enc6 y) : out6 x = out6 y := by
  simp only [enc6, List.cons.injEq, C.val.injEq, C.agg.injEq, C.kp.injEq, str_inj, nI_inj, nU_inj, w8_inj, w32_inj, cl_inj, sl_inj, Value.int.injEq, Value.bool.injEq, true_and, and_true] at h; simp only [out6, h]
theorem ok6 {gl : Nat → C} (hgn : ∀ g, noRef 0 (gl g) = true)  (M : Nat) : CxOK (cxP gl M pu6) := CxOK.ext2 (N := 0) (ok5 hgn  0) nr6 fun q0 => fc40 (ok5 hgn  0) (by intros; (iterate 1 refine (ext_miss (by decide) _).trans ?_); apply hit4 <;> first | assumption | omega) (by intros; apply hit5 <;> first | assumption | omega) ((q0.1.1)) ((q0.1.2.1)) ((q0.1.2.2.1)) ((q0.1.2.2.2.1)) ((q0.1.2.2.2.2)) q0.2.1 q0.2.2
theorem hno6 : ∀ (g : Nat) (xs : List C), refy xs = true → pu6 g xs = none := hno_ext hno5 nr6
theorem hit6 (S : List Int) (b : Int) (w : Int) (i : Int) (j : Int) (hc0 : Col S b w) (hc1 : 0 ≤ i ∧ i < S.length ∧ 0 ≤ j ∧ j < S.length) : pu6 40 [.agg [sl iC .no S, .val (.int .i64 b), .val (.int .i64 w)], .val (.int .i64 i), .val (.int .i64 j)] = some (.val (.int .i64 (priS S b w i j))) :=
  (ext_hit _).trans (tabOf_enc ij6 ⟨(S, b, w, i, j), ⟨hc0, hc1⟩⟩)
abbrev D7 := {q0 : (List Int) × Int × Int // (LI (q0.1)) ∧ (-9223372036854775808 ≤ (q0.2.1) ∧ (q0.2.1) ≤ 9223372036854775807) ∧ (-9223372036854775808 ≤ (q0.2.2) ∧ (q0.2.2) ≤ 9223372036854775807)}
def enc7 (q0 : D7) : List C := [sl iC .no (q0.1.1), .val (.int .i64 (q0.1.2.1)), .val (.int .i64 (q0.1.2.2))]
def out7 (q0 : D7) : C := res37 (q0.1.1) (q0.1.2.1) (q0.1.2.2)
noncomputable def pu7 : Nat → List C → Option C := Sx.ext pu6 37 (tabOf enc7 out7)
theorem nr7 (x : D7) : noRefs 0 (enc7 x) = true := by
  simp only [enc7, noRef_val, noRef_agg, noRef_tup, noRef_kp, noRef_sl, noRefs_cl, noRefs_cons, noRefs_nil, noRefs_app, Bool.and_self, Bool.and_true, noRef_yF]
theorem ij7 (x y : D7) (h : enc7 x = enc7 y) : out7 x = out7 y := by
  simp only [enc7, List.cons.injEq, C.val.injEq, C.agg.injEq, C.kp.injEq, str_inj, nI_inj, nU_inj, w8_inj, w32_inj, cl_inj, sl_inj, Value.int.injEq, Value.bool.injEq, true_and, and_true] at h; simp only [out7, h]
theorem ok7 {gl : Nat → C} (hgn : ∀ g, noRef 0 (gl g) = true)  (M : Nat) : CxOK (cxP gl M pu7) := CxOK.ext2 (N := 0) (ok6 hgn  0) nr7 fun q0 => fc37c (ok6 hgn  0) (by intros; (iterate 3 refine (ext_miss (by decide) _).trans ?_); apply hit3 <;> first | assumption | omega) ((q0.1.1)) ((q0.1.2.1)) ((q0.1.2.2)) q0.2.1 q0.2.2.1 q0.2.2.2
theorem hno7 : ∀ (g : Nat) (xs : List C), refy xs = true → pu7 g xs = none := hno_ext hno6 nr7
theorem hit7 (l : List Int) (b : Int) (w : Int) (hc0 : LI l) (hc1 : -9223372036854775808 ≤ b ∧ b ≤ 9223372036854775807) (hc2 : -9223372036854775808 ≤ w ∧ w ≤ 9223372036854775807) : pu7 37 [sl iC .no l, .val (.int .i64 b), .val (.int .i64 w)] = some (res37 l b w) :=
  (ext_hit _).trans (tabOf_enc ij7 ⟨(l, b, w), ⟨hc0, hc1, hc2⟩⟩)
abbrev D8 := {q0 : Int × Int × Int × Int // True}
def enc8 (q0 : D8) : List C := [sl iC .no [(q0.1.1), (q0.1.2.1)], sl iC .no [(q0.1.2.2.1), (q0.1.2.2.2)]]
def out8 (q0 : D8) : C := .val (.int .i64 (cmpL [(q0.1.1), (q0.1.2.1)] [(q0.1.2.2.1), (q0.1.2.2.2)]))
noncomputable def pu8 : Nat → List C → Option C := Sx.ext pu7 54 (tabOf enc8 out8)
theorem nr8 (x : D8) : noRefs 0 (enc8 x) = true := by
  simp only [enc8, noRef_val, noRef_agg, noRef_tup, noRef_kp, noRef_sl, noRefs_cl, noRefs_cons, noRefs_nil, noRefs_app, Bool.and_self, Bool.and_true, noRef_yF]
theorem ij8 (x y : D8) (h : enc8 x = enc8 y) : out8 x = out8 y := by
  simp only [enc8, List.cons.injEq, C.val.injEq, C.agg.injEq, C.kp.injEq, str_inj, nI_inj, nU_inj, w8_inj, w32_inj, cl_inj, sl_inj, Value.int.injEq, Value.bool.injEq, true_and, and_true] at h; simp only [out8, h]
theorem ok8 {gl : Nat → C} (hgn : ∀ g, noRef 0 (gl g) = true)  (M : Nat) : CxOK (cxP gl M pu8) := CxOK.ext2 (N := 0) (ok7 hgn  0) nr8 fun q0 => fc54 (ok7 hgn  0) (by intros; (iterate 5 refine (ext_miss (by decide) _).trans ?_); apply hit2 <;> first | assumption | omega) ((q0.1.1)) ((q0.1.2.1)) ((q0.1.2.2.1)) ((q0.1.2.2.2))
theorem hno8 : ∀ (g : Nat) (xs : List C), refy xs = true → pu8 g xs = none := hno_ext hno7 nr8
theorem hit8 (a1 : Int) (a2 : Int) (b1 : Int) (b2 : Int)  : pu8 54 [sl iC .no [a1, a2], sl iC .no [b1, b2]] = some (.val (.int .i64 (cmpL [a1, a2] [b1, b2]))) :=
  (ext_hit _).trans (tabOf_enc ij8 ⟨(a1, a2, b1, b2), trivial⟩)
abbrev D9 := {q0 : Int × Int × Int × Int // True}
def enc9 (q0 : D9) : List C := [sl iC .no [(q0.1.1), (q0.1.2.1)], sl iC .no [(q0.1.2.2.1), (q0.1.2.2.2)]]
def out9 (q0 : D9) : C := .val (.bool (befI (q0.1.1) (q0.1.2.1) (q0.1.2.2.1) (q0.1.2.2.2)))
noncomputable def pu9 : Nat → List C → Option C := Sx.ext pu8 41 (tabOf enc9 out9)
theorem nr9 (x : D9) : noRefs 0 (enc9 x) = true := by
  simp only [enc9, noRef_val, noRef_agg, noRef_tup, noRef_kp, noRef_sl, noRefs_cl, noRefs_cons, noRefs_nil, noRefs_app, Bool.and_self, Bool.and_true, noRef_yF]
theorem ij9 (x y : D9) (h : enc9 x = enc9 y) : out9 x = out9 y := by
  simp only [enc9, List.cons.injEq, C.val.injEq, C.agg.injEq, C.kp.injEq, str_inj, nI_inj, nU_inj, w8_inj, w32_inj, cl_inj, sl_inj, Value.int.injEq, Value.bool.injEq, true_and, and_true] at h; simp only [out9, h]
theorem ok9 {gl : Nat → C} (hgn : ∀ g, noRef 0 (gl g) = true)  (M : Nat) : CxOK (cxP gl M pu9) := CxOK.ext2 (N := 0) (ok8 hgn  0) nr9 fun q0 => fc41 (ok8 hgn  0) (by intros; apply hit8 <;> first | assumption | omega) ((q0.1.1)) ((q0.1.2.1)) ((q0.1.2.2.1)) ((q0.1.2.2.2))
theorem hno9 : ∀ (g : Nat) (xs : List C), refy xs = true → pu9 g xs = none := hno_ext hno8 nr9
theorem hit9 (a1 : Int) (a2 : Int) (b1 : Int) (b2 : Int)  : pu9 41 [sl iC .no [a1, a2], sl iC .no [b1, b2]] = some (.val (.bool (befI a1 a2 b1 b2))) :=
  (ext_hit _).trans (tabOf_enc ij9 ⟨(a1, a2, b1, b2), trivial⟩)
abbrev D10 := {q0 : (List Int) × (List Int) // ((q0.1).length < 9223372036854775807)}
def enc10 (q0 : D10) : List C := [sl iC .no (q0.1.1), sl iC .no (q0.1.2)]
def out10 (q0 : D10) : C := .val (.bool (decide ((q0.1.1) = (q0.1.2))))
noncomputable def pu10 : Nat → List C → Option C := Sx.ext pu9 17 (tabOf enc10 out10)
theorem nr10 (x : D10) : noRefs 0 (enc10 x) = true := by
  simp only [enc10, noRef_val, noRef_agg, noRef_tup, noRef_kp, noRef_sl, noRefs_cl, noRefs_cons, noRefs_nil, noRefs_app, Bool.and_self, Bool.and_true, noRef_yF]
theorem ij10 (x y : D10) (h : enc10 x = enc10 y) : out10 x = out10 y := by
  simp only [enc10, List.cons.injEq, C.val.injEq, C.agg.injEq, C.kp.injEq, str_inj, nI_inj, nU_inj, w8_inj, w32_inj, cl_inj, sl_inj, Value.int.injEq, Value.bool.injEq, true_and, and_true] at h; simp only [out10, h]
theorem ok10 {gl : Nat → C} (hgn : ∀ g, noRef 0 (gl g) = true)  (M : Nat) : CxOK (cxP gl M pu10) := CxOK.ext2 (N := 0) (ok9 hgn  0) nr10 fun q0 => fc17 (ok9 hgn  0)  ((q0.1.1)) ((q0.1.2)) q0.2
theorem hno10 : ∀ (g : Nat) (xs : List C), refy xs = true → pu10 g xs = none := hno_ext hno9 nr10
theorem hit10 (x : List Int) (y : List Int) (hc0 : x.length < 9223372036854775807) : pu10 17 [sl iC .no x, sl iC .no y] = some (.val (.bool (decide (x = y)))) :=
  (ext_hit _).trans (tabOf_enc ij10 ⟨(x, y), hc0⟩)
abbrev D11 := {q0 : Bool × (List Int) × (List Int) × (List Int) × (List Int) × (List Int) × (List Int) // ((q0.1) = true → (q0.2.2.2.2.1) = []) ∧ ((q0.2.1).length < 9223372036854775807) ∧ ((q0.2.2.1).length < 9223372036854775807) ∧ ((q0.2.2.2.1).length < 9223372036854775807)}
def enc11 (q0 : D11) : List C := [.agg [sl iC .no (q0.1.2.1), sl iC .no (q0.1.2.2.1), sl iC .no (q0.1.2.2.2.1)], yF (q0.1.1) (q0.1.2.2.2.2.1) (q0.1.2.2.2.2.2.1) (q0.1.2.2.2.2.2.2)]
def out11 (q0 : D11) : C := .val (.bool (decide (((q0.1.2.1), (q0.1.2.2.1), (q0.1.2.2.2.1)) = ((q0.1.2.2.2.2.1), (q0.1.2.2.2.2.2.1), (q0.1.2.2.2.2.2.2)))))
noncomputable def pu11 : Nat → List C → Option C := Sx.ext pu10 15 (tabOf enc11 out11)
theorem nr11 (x : D11) : noRefs 0 (enc11 x) = true := by
  simp only [enc11, noRef_val, noRef_agg, noRef_tup, noRef_kp, noRef_sl, noRefs_cl, noRefs_cons, noRefs_nil, noRefs_app, Bool.and_self, Bool.and_true, noRef_yF]
theorem ij11 (x y : D11) (h : enc11 x = enc11 y) : out11 x = out11 y := by
  simp only [enc11, List.cons.injEq, C.agg.injEq, sl_inj, and_true] at h; obtain ⟨⟨h1, h2, h3⟩, h4⟩ := h; obtain ⟨g1, g2, g3⟩ := yF_inj h4 x.2.1 y.2.1; simp only [out11, h1, h2, h3, g1, g2, g3]
theorem ok11 {gl : Nat → C} (hgn : ∀ g, noRef 0 (gl g) = true)  (M : Nat) : CxOK (cxP gl M pu11) := CxOK.ext2 (N := 0) (ok10 hgn  0) nr11 fun q0 => fc15z (ok10 hgn  0) (by intros; apply hit10 <;> first | assumption | omega) ((q0.1.1)) ((q0.1.2.1)) ((q0.1.2.2.1)) ((q0.1.2.2.2.1)) ((q0.1.2.2.2.2.1)) ((q0.1.2.2.2.2.2.1)) ((q0.1.2.2.2.2.2.2)) q0.2.1 q0.2.2.1 q0.2.2.2.1 q0.2.2.2.2
theorem hno11 : ∀ (g : Nat) (xs : List C), refy xs = true → pu11 g xs = none := hno_ext hno10 nr11
theorem hit11 (z : Bool) (x1 : List Int) (x2 : List Int) (x3 : List Int) (y1 : List Int) (y2 : List Int) (y3 : List Int) (hc0 : z = true → y1 = []) (hc1 : x1.length < 9223372036854775807) (hc2 : x2.length < 9223372036854775807) (hc3 : x3.length < 9223372036854775807) : pu11 15 [.agg [sl iC .no x1, sl iC .no x2, sl iC .no x3], yF z y1 y2 y3] = some (.val (.bool (decide ((x1, x2, x3) = (y1, y2, y3))))) :=
  (ext_hit _).trans (tabOf_enc ij11 ⟨(z, x1, x2, x3, y1, y2, y3), ⟨hc0, hc1, hc2, hc3⟩⟩)
abbrev D12 := {q0 : (List Int) × (List Int) × (List Int) // True}
def enc12 (q0 : D12) : List C := [.agg [sl iC .no (q0.1.1), sl iC .no (q0.1.2.1), sl iC .no (q0.1.2.2)]]
def out12 (q0 : D12) : C := .agg [sl iC .no (q0.1.1), sl iC .no (q0.1.2.1), sl iC .no (q0.1.2.2)]
noncomputable def pu12 : Nat → List C → Option C := Sx.ext pu11 16 (tabOf enc12 out12)
theorem nr12 (x : D12) : noRefs 0 (enc12 x) = true := by
  simp only [enc12, noRef_val, noRef_agg, noRef_tup, noRef_kp, noRef_sl, noRefs_cl, noRefs_cons, noRefs_nil, noRefs_app, Bool.and_self, Bool.and_true, noRef_yF]
theorem ij12 (x y : D12) (h : enc12 x = enc12 y) : out12 x = out12 y := by
  simp only [enc12, List.cons.injEq, C.val.injEq, C.agg.injEq, C.kp.injEq, str_inj, nI_inj, nU_inj, w8_inj, w32_inj, cl_inj, sl_inj, Value.int.injEq, Value.bool.injEq, true_and, and_true] at h; simp only [out12, h]
theorem ok12 {gl : Nat → C} (hgn : ∀ g, noRef 0 (gl g) = true)  (M : Nat) : CxOK (cxP gl M pu12) := CxOK.ext2 (N := 0) (ok11 hgn  0) nr12 fun q0 => fc16 (ok11 hgn  0)  ((q0.1.1)) ((q0.1.2.1)) ((q0.1.2.2))
theorem hno12 : ∀ (g : Nat) (xs : List C), refy xs = true → pu12 g xs = none := hno_ext hno11 nr12
theorem hit12 (x1 : List Int) (x2 : List Int) (x3 : List Int)  : pu12 16 [.agg [sl iC .no x1, sl iC .no x2, sl iC .no x3]] = some (.agg [sl iC .no x1, sl iC .no x2, sl iC .no x3]) :=
  (ext_hit _).trans (tabOf_enc ij12 ⟨(x1, x2, x3), trivial⟩)
abbrev D13 := {q0 : Int × Nat // (-9223372036854775808 ≤ (q0.1) ∧ (q0.1) ≤ 9223372036854775807 ∧ 0 < (q0.2) ∧ (q0.2) ≤ 9223372036854775807)}
def enc13 (q0 : D13) : List C := [.val (.int .i64 (q0.1.1)), .val (nI (q0.1.2))]
def out13 (q0 : D13) : C := .val (nI (aroundI (q0.1.1) (q0.1.2)))
noncomputable def pu13 : Nat → List C → Option C := Sx.ext pu12 30 (tabOf enc13 out13)
theorem nr13 (x : D13) : noRefs 0 (enc13 x) = true := by
  simp only [enc13, noRef_val, noRef_agg, noRef_tup, noRef_kp, noRef_sl, noRefs_cl, noRefs_cons, noRefs_nil, noRefs_app, Bool.and_self, Bool.and_true, noRef_yF]
theorem ij13 (x y : D13) (h : enc13 x = enc13 y) : out13 x = out13 y := by
  simp only [enc13, List.cons.injEq, C.val.injEq, C.agg.injEq, C.kp.injEq, str_inj, nI_inj, nU_inj, w8_inj, w32_inj, cl_inj, sl_inj, Value.int.injEq, Value.bool.injEq, true_and, and_true] at h; simp only [out13, h]
theorem ok13 {gl : Nat → C} (hgn : ∀ g, noRef 0 (gl g) = true)  (M : Nat) : CxOK (cxP gl M pu13) := CxOK.ext2 (N := 0) (ok12 hgn  0) nr13 fun q0 => fc30 (ok12 hgn  0)  ((q0.1.1)) ((q0.1.2)) q0.2
theorem hno13 : ∀ (g : Nat) (xs : List C), refy xs = true → pu13 g xs = none := hno_ext hno12 nr13
theorem hit13 (n : Int) (m : Nat) (hc0 : -9223372036854775808 ≤ n ∧ n ≤ 9223372036854775807 ∧ 0 < m ∧ m ≤ 9223372036854775807) : pu13 30 [.val (.int .i64 n), .val (nI m)] = some (.val (nI (aroundI n m))) :=
  (ext_hit _).trans (tabOf_enc ij13 ⟨(n, m), hc0⟩)
abbrev D14 := {q0 : (List Int) × Int × Int × (List Int) // (LI (q0.1)) ∧ (-9223372036854775808 ≤ (q0.2.1) ∧ (q0.2.1) ≤ 9223372036854775807) ∧ (-9223372036854775808 ≤ (q0.2.2.1) ∧ (q0.2.2.1) ≤ 9223372036854775807) ∧ (LI (q0.2.2.2))}
def enc14 (q0 : D14) : List C := [sl iC .no (q0.1.1), .val (.int .i64 (q0.1.2.1)), .val (.int .i64 (q0.1.2.2.1)), sl iC .no (q0.1.2.2.2)]
def out14 (q0 : D14) : C := .tup [.val (nI (costT (q0.1.1) (q0.1.2.1) (q0.1.2.2.1) (q0.1.2.2.2)).1), .val (.int .i64 (costT (q0.1.1) (q0.1.2.1) (q0.1.2.2.1) (q0.1.2.2.2)).2.1), .val (nI (costT (q0.1.1) (q0.1.2.1) (q0.1.2.2.1) (q0.1.2.2.2)).2.2)]
noncomputable def pu14 : Nat → List C → Option C := Sx.ext pu13 21 (tabOf enc14 out14)
theorem nr14 (x : D14) : noRefs 0 (enc14 x) = true := by
  simp only [enc14, noRef_val, noRef_agg, noRef_tup, noRef_kp, noRef_sl, noRefs_cl, noRefs_cons, noRefs_nil, noRefs_app, Bool.and_self, Bool.and_true, noRef_yF]
theorem ij14 (x y : D14) (h : enc14 x = enc14 y) : out14 x = out14 y := by
  simp only [enc14, List.cons.injEq, C.val.injEq, C.agg.injEq, C.kp.injEq, str_inj, nI_inj, nU_inj, w8_inj, w32_inj, cl_inj, sl_inj, Value.int.injEq, Value.bool.injEq, true_and, and_true] at h; simp only [out14, h]
theorem ok14 {gl : Nat → C} (hgn : ∀ g, noRef 0 (gl g) = true)  (M : Nat) : CxOK (cxP gl M pu14) := CxOK.ext2 (N := 0) (ok13 hgn  0) nr14 fun q0 => fc21 (ok13 hgn  0) (by intros; (iterate 6 refine (ext_miss (by decide) _).trans ?_); rename_i l b w h0 h1 h2 hF; exact (hit7 l b w h0 h1 h2).trans (congrArg some (if_pos (errE_0.2 hF)))) (by intros; (iterate 6 refine (ext_miss (by decide) _).trans ?_); rename_i l b w h0 h1 h2 hE; exact (hit7 l b w h0 h1 h2).trans (congrArg some (if_neg hE))) (by intros; (iterate 9 refine (ext_miss (by decide) _).trans ?_); apply hit4 <;> first | assumption | omega) (by intros; (iterate 8 refine (ext_miss (by decide) _).trans ?_); apply hit5 <;> first | assumption | omega) (by intros; (iterate 7 refine (ext_miss (by decide) _).trans ?_); apply hit6 <;> first | assumption | omega) ((q0.1.1)) ((q0.1.2.1)) ((q0.1.2.2.1)) q0.2.1 q0.2.2.1 q0.2.2.2.1 ((q0.1.2.2.2)) q0.2.2.2.2
theorem hno14 : ∀ (g : Nat) (xs : List C), refy xs = true → pu14 g xs = none := hno_ext hno13 nr14
theorem hit14 (l : List Int) (b : Int) (w : Int) (e : List Int) (hc0 : LI l) (hc1 : -9223372036854775808 ≤ b ∧ b ≤ 9223372036854775807) (hc2 : -9223372036854775808 ≤ w ∧ w ≤ 9223372036854775807) (hc3 : LI e) : pu14 21 [sl iC .no l, .val (.int .i64 b), .val (.int .i64 w), sl iC .no e] = some (.tup [.val (nI (costT l b w e).1), .val (.int .i64 (costT l b w e).2.1), .val (nI (costT l b w e).2.2)]) :=
  (ext_hit _).trans (tabOf_enc ij14 ⟨(l, b, w, e), ⟨hc0, hc1, hc2, hc3⟩⟩)
abbrev D15 := {q0 : (List Int) × Int × Int // (LI (q0.1)) ∧ (-9223372036854775808 ≤ (q0.2.1) ∧ (q0.2.1) ≤ 9223372036854775807) ∧ (-9223372036854775808 ≤ (q0.2.2) ∧ (q0.2.2) ≤ 9223372036854775807)}
def enc15 (q0 : D15) : List C := [sl iC .no (q0.1.1), .val (.int .i64 (q0.1.2.1)), .val (.int .i64 (q0.1.2.2))]
def out15 (q0 : D15) : C := .tup [sl iC .no (greT (q0.1.1) (q0.1.2.1) (q0.1.2.2)).1, .val (nI (greT (q0.1.1) (q0.1.2.1) (q0.1.2.2)).2)]
noncomputable def pu15 : Nat → List C → Option C := Sx.ext pu14 13 (tabOf enc15 out15)
theorem nr15 (x : D15) : noRefs 0 (enc15 x) = true := by
  simp only [enc15, noRef_val, noRef_agg, noRef_tup, noRef_kp, noRef_sl, noRefs_cl, noRefs_cons, noRefs_nil, noRefs_app, Bool.and_self, Bool.and_true, noRef_yF]
theorem ij15 (x y : D15) (h : enc15 x = enc15 y) : out15 x = out15 y := by
  simp only [enc15, List.cons.injEq, C.val.injEq, C.agg.injEq, C.kp.injEq, str_inj, nI_inj, nU_inj, w8_inj, w32_inj, cl_inj, sl_inj, Value.int.injEq, Value.bool.injEq, true_and, and_true] at h; simp only [out15, h]
theorem ok15 {gl : Nat → C} (hgn : ∀ g, noRef 0 (gl g) = true)  (M : Nat) : CxOK (cxP gl M pu15) := CxOK.ext2 (N := 0) (ok14 hgn  0) nr15 fun q0 => fc13 (ok14 hgn  0) (by intros; (iterate 7 refine (ext_miss (by decide) _).trans ?_); rename_i l b w h0 h1 h2 hF; exact (hit7 l b w h0 h1 h2).trans (congrArg some (if_pos (errE_0.2 hF)))) (by intros; (iterate 7 refine (ext_miss (by decide) _).trans ?_); rename_i l b w h0 h1 h2 hE; exact (hit7 l b w h0 h1 h2).trans (congrArg some (if_neg hE))) (by intros; (iterate 10 refine (ext_miss (by decide) _).trans ?_); apply hit4 <;> first | assumption | omega) (by intros; (iterate 9 refine (ext_miss (by decide) _).trans ?_); apply hit5 <;> first | assumption | omega) ((q0.1.1)) ((q0.1.2.1)) ((q0.1.2.2)) q0.2.1 q0.2.2.1 q0.2.2.2
theorem hno15 : ∀ (g : Nat) (xs : List C), refy xs = true → pu15 g xs = none := hno_ext hno14 nr15
theorem hit15 (l : List Int) (b : Int) (w : Int) (hc0 : LI l) (hc1 : -9223372036854775808 ≤ b ∧ b ≤ 9223372036854775807) (hc2 : -9223372036854775808 ≤ w ∧ w ≤ 9223372036854775807) : pu15 13 [sl iC .no l, .val (.int .i64 b), .val (.int .i64 w)] = some (.tup [sl iC .no (greT l b w).1, .val (nI (greT l b w).2)]) :=
  (ext_hit _).trans (tabOf_enc ij15 ⟨(l, b, w), ⟨hc0, hc1, hc2⟩⟩)
abbrev D16 := {q0 : (List Int) × Int × Int × (List Int) × (List Int) × (List Int) // (LI (q0.1)) ∧ (-9223372036854775808 ≤ (q0.2.1) ∧ (q0.2.1) ≤ 9223372036854775807) ∧ (-9223372036854775808 ≤ (q0.2.2.1) ∧ (q0.2.2.1) ≤ 9223372036854775807) ∧ (LI (q0.2.2.2.1)) ∧ (LI (q0.2.2.2.2.1)) ∧ (LI (q0.2.2.2.2.2))}
def enc16 (q0 : D16) : List C := [sl iC .no (q0.1.1), .val (.int .i64 (q0.1.2.1)), .val (.int .i64 (q0.1.2.2.1)), .agg [sl iC .no (q0.1.2.2.2.1), sl iC .no (q0.1.2.2.2.2.1), sl iC .no (q0.1.2.2.2.2.2)]]
def out16 (q0 : D16) : C := .val (nI (chkT (q0.1.1) (q0.1.2.1) (q0.1.2.2.1) (q0.1.2.2.2.1) (q0.1.2.2.2.2.1) (q0.1.2.2.2.2.2)))
noncomputable def pu16 : Nat → List C → Option C := Sx.ext pu15 23 (tabOf enc16 out16)
theorem nr16 (x : D16) : noRefs 0 (enc16 x) = true := by
  simp only [enc16, noRef_val, noRef_agg, noRef_tup, noRef_kp, noRef_sl, noRefs_cl, noRefs_cons, noRefs_nil, noRefs_app, Bool.and_self, Bool.and_true, noRef_yF]
theorem ij16 (x y : D16) (h : enc16 x = enc16 y) : out16 x = out16 y := by
  simp only [enc16, List.cons.injEq, C.val.injEq, C.agg.injEq, C.kp.injEq, str_inj, nI_inj, nU_inj, w8_inj, w32_inj, cl_inj, sl_inj, Value.int.injEq, Value.bool.injEq, true_and, and_true] at h; simp only [out16, h]
theorem ok16 {gl : Nat → C} (hgn : ∀ g, noRef 0 (gl g) = true)  (M : Nat) : CxOK (cxP gl M pu16) := CxOK.ext2 (N := 0) (ok15 hgn  0) nr16 fun q0 => fc23 (ok15 hgn  0) (by intros; (iterate 8 refine (ext_miss (by decide) _).trans ?_); rename_i l b w h0 h1 h2 hF; exact (hit7 l b w h0 h1 h2).trans (congrArg some (if_pos (errE_0.2 hF)))) (by intros; (iterate 8 refine (ext_miss (by decide) _).trans ?_); rename_i l b w h0 h1 h2 hE; exact (hit7 l b w h0 h1 h2).trans (congrArg some (if_neg hE))) (by intros; (iterate 11 refine (ext_miss (by decide) _).trans ?_); apply hit4 <;> first | assumption | omega) (by intros; (iterate 10 refine (ext_miss (by decide) _).trans ?_); apply hit5 <;> first | assumption | omega) (by intros; (iterate 9 refine (ext_miss (by decide) _).trans ?_); apply hit6 <;> first | assumption | omega) (by intros; (iterate 1 refine (ext_miss (by decide) _).trans ?_); apply hit14 <;> first | assumption | omega) (by intros; (iterate 6 refine (ext_miss (by decide) _).trans ?_); apply hit9 <;> first | assumption | omega) ((q0.1.1)) ((q0.1.2.1)) ((q0.1.2.2.1)) q0.2.1 q0.2.2.1 q0.2.2.2.1 ((q0.1.2.2.2.1)) ((q0.1.2.2.2.2.1)) ((q0.1.2.2.2.2.2)) q0.2.2.2.2.1 q0.2.2.2.2.2.1 q0.2.2.2.2.2.2
theorem hno16 : ∀ (g : Nat) (xs : List C), refy xs = true → pu16 g xs = none := hno_ext hno15 nr16
theorem hit16 (l : List Int) (b : Int) (w : Int) (E : List Int) (L : List Int) (K : List Int) (hc0 : LI l) (hc1 : -9223372036854775808 ≤ b ∧ b ≤ 9223372036854775807) (hc2 : -9223372036854775808 ≤ w ∧ w ≤ 9223372036854775807) (hc3 : LI E) (hc4 : LI L) (hc5 : LI K) : pu16 23 [sl iC .no l, .val (.int .i64 b), .val (.int .i64 w), .agg [sl iC .no E, sl iC .no L, sl iC .no K]] = some (.val (nI (chkT l b w E L K))) :=
  (ext_hit _).trans (tabOf_enc ij16 ⟨(l, b, w, E, L, K), ⟨hc0, hc1, hc2, hc3, hc4, hc5⟩⟩)
abbrev D17 := {q0 : (List Int) × Int × Int // (LI (q0.1)) ∧ (-9223372036854775808 ≤ (q0.2.1) ∧ (q0.2.1) ≤ 9223372036854775807) ∧ (-9223372036854775808 ≤ (q0.2.2) ∧ (q0.2.2) ≤ 9223372036854775807)}
def enc17 (q0 : D17) : List C := [sl iC .no (q0.1.1), .val (.int .i64 (q0.1.2.1)), .val (.int .i64 (q0.1.2.2))]
def out17 (q0 : D17) : C := .tup [.agg [sl iC .no (fillT (q0.1.1) (q0.1.2.1) (q0.1.2.2)).1, sl iC .no (fillT (q0.1.1) (q0.1.2.1) (q0.1.2.2)).2.1, sl iC .no (fillT (q0.1.1) (q0.1.2.1) (q0.1.2.2)).2.2.1], .val (nI (fillT (q0.1.1) (q0.1.2.1) (q0.1.2.2)).2.2.2)]
noncomputable def pu17 : Nat → List C → Option C := Sx.ext pu16 11 (tabOf enc17 out17)
theorem nr17 (x : D17) : noRefs 0 (enc17 x) = true := by
  simp only [enc17, noRef_val, noRef_agg, noRef_tup, noRef_kp, noRef_sl, noRefs_cl, noRefs_cons, noRefs_nil, noRefs_app, Bool.and_self, Bool.and_true, noRef_yF]
theorem ij17 (x y : D17) (h : enc17 x = enc17 y) : out17 x = out17 y := by
  simp only [enc17, List.cons.injEq, C.val.injEq, C.agg.injEq, C.kp.injEq, str_inj, nI_inj, nU_inj, w8_inj, w32_inj, cl_inj, sl_inj, Value.int.injEq, Value.bool.injEq, true_and, and_true] at h; simp only [out17, h]
theorem ok17 {gl : Nat → C} (hgn : ∀ g, noRef 0 (gl g) = true)  (M : Nat) : CxOK (cxP gl M pu17) := CxOK.ext2 (N := 0) (ok16 hgn  0) nr17 fun q0 => fc11 (ok16 hgn  0) (by intros; (iterate 9 refine (ext_miss (by decide) _).trans ?_); rename_i l b w h0 h1 h2 hF; exact (hit7 l b w h0 h1 h2).trans (congrArg some (if_pos (errE_0.2 hF)))) (by intros; (iterate 9 refine (ext_miss (by decide) _).trans ?_); rename_i l b w h0 h1 h2 hE; exact (hit7 l b w h0 h1 h2).trans (congrArg some (if_neg hE))) (by intros; (iterate 12 refine (ext_miss (by decide) _).trans ?_); apply hit4 <;> first | assumption | omega) (by intros; (iterate 11 refine (ext_miss (by decide) _).trans ?_); apply hit5 <;> first | assumption | omega) (by intros; (iterate 10 refine (ext_miss (by decide) _).trans ?_); apply hit6 <;> first | assumption | omega) (by intros; (iterate 7 refine (ext_miss (by decide) _).trans ?_); apply hit9 <;> first | assumption | omega) ((q0.1.1)) ((q0.1.2.1)) ((q0.1.2.2)) q0.2.1 q0.2.2.1 q0.2.2.2
theorem hno17 : ∀ (g : Nat) (xs : List C), refy xs = true → pu17 g xs = none := hno_ext hno16 nr17
theorem hit17 (l : List Int) (b : Int) (w : Int) (hc0 : LI l) (hc1 : -9223372036854775808 ≤ b ∧ b ≤ 9223372036854775807) (hc2 : -9223372036854775808 ≤ w ∧ w ≤ 9223372036854775807) : pu17 11 [sl iC .no l, .val (.int .i64 b), .val (.int .i64 w)] = some (.tup [.agg [sl iC .no (fillT l b w).1, sl iC .no (fillT l b w).2.1, sl iC .no (fillT l b w).2.2.1], .val (nI (fillT l b w).2.2.2)]) :=
  (ext_hit _).trans (tabOf_enc ij17 ⟨(l, b, w), ⟨hc0, hc1, hc2⟩⟩)
abbrev D18 := {q0 : Unit // True}
def enc18 (q0 : D18) : List C := []
def out18 (q0 : D18) : C := .val (.bool true)
noncomputable def pu18 : Nat → List C → Option C := Sx.ext pu17 18 (tabOf enc18 out18)
theorem nr18 (x : D18) : noRefs 0 (enc18 x) = true := by
  simp only [enc18, noRef_val, noRef_agg, noRef_tup, noRef_kp, noRef_sl, noRefs_cl, noRefs_cons, noRefs_nil, noRefs_app, Bool.and_self, Bool.and_true, noRef_yF]
theorem ij18 (x y : D18) (h : enc18 x = enc18 y) : out18 x = out18 y := by
  rfl
theorem ok18 {gl : Nat → C} (hgn : ∀ g, noRef 0 (gl g) = true)  (M : Nat) : CxOK (cxP gl M pu18) := CxOK.ext2 (N := 0) (ok17 hgn  0) nr18 fun q0 => fc18 (ok17 hgn  0) (by intros; apply hit17 <;> first | assumption | omega) (by intros; (iterate 2 refine (ext_miss (by decide) _).trans ?_); apply hit15 <;> first | assumption | omega) (by intros; (iterate 3 refine (ext_miss (by decide) _).trans ?_); apply hit14 <;> first | assumption | omega) (by intros; (iterate 1 refine (ext_miss (by decide) _).trans ?_); apply hit16 <;> first | assumption | omega) (by intros; (iterate 5 refine (ext_miss (by decide) _).trans ?_); apply hit12 <;> first | assumption | omega) (by intros; (iterate 6 refine (ext_miss (by decide) _).trans ?_); rename_i x1 x2 x3 y1 y2 y3 a1 a2 a3; exact hit11 false x1 x2 x3 y1 y2 y3 (fun h => by cases h) a1 a2 a3) (by intros; (iterate 6 refine (ext_miss (by decide) _).trans ?_); rename_i x1 x2 x3 y2 y3 a1 a2 a3; exact hit11 true x1 x2 x3 [] y2 y3 (fun _ => rfl) a1 a2 a3) (by intros; (iterate 7 refine (ext_miss (by decide) _).trans ?_); apply hit10 <;> first | assumption | omega) 
theorem hno18 : ∀ (g : Nat) (xs : List C), refy xs = true → pu18 g xs = none := hno_ext hno17 nr18
theorem hit18   : pu18 18 [] = some (.val (.bool true)) :=
  (ext_hit _).trans (tabOf_enc ij18 ⟨(), trivial⟩)
abbrev D19 := {q0 : UInt8 // True}
def enc19 (q0 : D19) : List C := [.val (w8 (q0.1))]
def out19 (q0 : D19) : C := .val (.int .i64 (kdI (q0.1)))
noncomputable def pu19 : Nat → List C → Option C := Sx.ext pu18 56 (tabOf enc19 out19)
theorem nr19 (x : D19) : noRefs 0 (enc19 x) = true := by
  simp only [enc19, noRef_val, noRef_agg, noRef_tup, noRef_kp, noRef_sl, noRefs_cl, noRefs_cons, noRefs_nil, noRefs_app, Bool.and_self, Bool.and_true, noRef_yF]
theorem ij19 (x y : D19) (h : enc19 x = enc19 y) : out19 x = out19 y := by
  simp only [enc19, List.cons.injEq, C.val.injEq, C.agg.injEq, C.kp.injEq, str_inj, nI_inj, nU_inj, w8_inj, w32_inj, cl_inj, sl_inj, Value.int.injEq, Value.bool.injEq, true_and, and_true] at h; simp only [out19, h]
theorem ok19 {gl : Nat → C} (hgn : ∀ g, noRef 0 (gl g) = true)  (M : Nat) : CxOK (cxP gl M pu19) := CxOK.ext2 (N := 0) (ok18 hgn  0) nr19 fun q0 => fc56 (ok18 hgn  0)  ((q0.1))
theorem hno19 : ∀ (g : Nat) (xs : List C), refy xs = true → pu19 g xs = none := hno_ext hno18 nr19
theorem hit19 (c : UInt8)  : pu19 56 [.val (w8 c)] = some (.val (.int .i64 (kdI c))) :=
  (ext_hit _).trans (tabOf_enc ij19 ⟨(c), trivial⟩)
abbrev D20 := {q0 : (List UInt8) // ((q0).length ≤ 1000000)}
def enc20 (q0 : D20) : List C := [.val (str (q0.1))]
def out20 (q0 : D20) : C := sl tC .no (toks (q0.1))
noncomputable def pu20 : Nat → List C → Option C := Sx.ext pu19 48 (tabOf enc20 out20)
theorem nr20 (x : D20) : noRefs 0 (enc20 x) = true := by
  simp only [enc20, noRef_val, noRef_agg, noRef_tup, noRef_kp, noRef_sl, noRefs_cl, noRefs_cons, noRefs_nil, noRefs_app, Bool.and_self, Bool.and_true, noRef_yF]
theorem ij20 (x y : D20) (h : enc20 x = enc20 y) : out20 x = out20 y := by
  simp only [enc20, List.cons.injEq, C.val.injEq, C.agg.injEq, C.kp.injEq, str_inj, nI_inj, nU_inj, w8_inj, w32_inj, cl_inj, sl_inj, Value.int.injEq, Value.bool.injEq, true_and, and_true] at h; simp only [out20, h]
theorem ok20 {gl : Nat → C} (hgn : ∀ g, noRef 0 (gl g) = true)  (M : Nat) : CxOK (cxP gl M pu20) := CxOK.ext2 (N := 0) (ok19 hgn  0) nr20 fun q0 => fc48 (ok19 hgn  0) (by intros; apply hit19 <;> first | assumption | omega) ((q0.1)) q0.2
theorem hno20 : ∀ (g : Nat) (xs : List C), refy xs = true → pu20 g xs = none := hno_ext hno19 nr20
theorem hit20 (s : List UInt8) (hc0 : s.length ≤ 1000000) : pu20 48 [.val (str s)] = some (sl tC .no (toks s)) :=
  (ext_hit _).trans (tabOf_enc ij20 ⟨(s), hc0⟩)
abbrev D21 := {q0 : UInt8 // True}
def enc21 (q0 : D21) : List C := [.val (w8 (q0.1))]
def out21 (q0 : D21) : C := .val (nI (kd (q0.1)))
noncomputable def pu21 : Nat → List C → Option C := Sx.ext pu20 51 (tabOf enc21 out21)
theorem nr21 (x : D21) : noRefs 0 (enc21 x) = true := by
  simp only [enc21, noRef_val, noRef_agg, noRef_tup, noRef_kp, noRef_sl, noRefs_cl, noRefs_cons, noRefs_nil, noRefs_app, Bool.and_self, Bool.and_true, noRef_yF]
theorem ij21 (x y : D21) (h : enc21 x = enc21 y) : out21 x = out21 y := by
  simp only [enc21, List.cons.injEq, C.val.injEq, C.agg.injEq, C.kp.injEq, str_inj, nI_inj, nU_inj, w8_inj, w32_inj, cl_inj, sl_inj, Value.int.injEq, Value.bool.injEq, true_and, and_true] at h; simp only [out21, h]
theorem ok21 {gl : Nat → C} (hgn : ∀ g, noRef 0 (gl g) = true)  (M : Nat) : CxOK (cxP gl M pu21) := CxOK.ext2 (N := 0) (ok20 hgn  0) nr21 fun q0 => fc51 (ok20 hgn  0)  ((q0.1))
theorem hno21 : ∀ (g : Nat) (xs : List C), refy xs = true → pu21 g xs = none := hno_ext hno20 nr21
theorem hit21 (c : UInt8)  : pu21 51 [.val (w8 c)] = some (.val (nI (kd c))) :=
  (ext_hit _).trans (tabOf_enc ij21 ⟨(c), trivial⟩)
abbrev D22 := {q0 : (List UInt8) × Nat // ((q0.2) < (q0.1).length ∧ (q0.1).length ≤ 1000000)}
def enc22 (q0 : D22) : List C := [.val (nI (q0.1.2)), .kp [.val (str (q0.1.1))]]
def out22 (q0 : D22) : C := .val (nI (endT (q0.1.1) (q0.1.2)))
noncomputable def pu22 : Nat → List C → Option C := Sx.ext pu21 50 (tabOf enc22 out22)
theorem nr22 (x : D22) : noRefs 0 (enc22 x) = true := by
  simp only [enc22, noRef_val, noRef_agg, noRef_tup, noRef_kp, noRef_sl, noRefs_cl, noRefs_cons, noRefs_nil, noRefs_app, Bool.and_self, Bool.and_true, noRef_yF]
theorem ij22 (x y : D22) (h : enc22 x = enc22 y) : out22 x = out22 y := by
  simp only [enc22, List.cons.injEq, C.val.injEq, C.agg.injEq, C.kp.injEq, str_inj, nI_inj, nU_inj, w8_inj, w32_inj, cl_inj, sl_inj, Value.int.injEq, Value.bool.injEq, true_and, and_true] at h; simp only [out22, h]
theorem ok22 {gl : Nat → C} (hgn : ∀ g, noRef 0 (gl g) = true)  (M : Nat) : CxOK (cxP gl M pu22) := CxOK.ext2 (N := 0) (ok21 hgn  0) nr22 fun q0 => fc50 (ok21 hgn  0) (by intros; apply hit21 <;> first | assumption | omega) ((q0.1.1)) ((q0.1.2)) q0.2
theorem hno22 : ∀ (g : Nat) (xs : List C), refy xs = true → pu22 g xs = none := hno_ext hno21 nr22
theorem hit22 (s : List UInt8) (i : Nat) (hc0 : i < s.length ∧ s.length ≤ 1000000) : pu22 50 [.val (nI i), .kp [.val (str s)]] = some (.val (nI (endT s i))) :=
  (ext_hit _).trans (tabOf_enc ij22 ⟨(s, i), hc0⟩)
abbrev D23 := {q0 : (List UInt8) // ((q0).length ≤ 1000000)}
def enc23 (q0 : D23) : List C := [.val (str (q0.1))]
def out23 (q0 : D23) : C := sl tC (.own 3) (toks (q0.1))
noncomputable def pu23 : Nat → List C → Option C := Sx.ext pu22 33 (tabOf enc23 out23)
theorem nr23 (x : D23) : noRefs 0 (enc23 x) = true := by
  simp only [enc23, noRef_val, noRef_agg, noRef_tup, noRef_kp, noRef_sl, noRefs_cl, noRefs_cons, noRefs_nil, noRefs_app, Bool.and_self, Bool.and_true, noRef_yF]
theorem ij23 (x y : D23) (h : enc23 x = enc23 y) : out23 x = out23 y := by
  simp only [enc23, List.cons.injEq, C.val.injEq, C.agg.injEq, C.kp.injEq, str_inj, nI_inj, nU_inj, w8_inj, w32_inj, cl_inj, sl_inj, Value.int.injEq, Value.bool.injEq, true_and, and_true] at h; simp only [out23, h]
theorem ok23 {gl : Nat → C} (hgn : ∀ g, noRef 0 (gl g) = true)  (M : Nat) : CxOK (cxP gl M pu23) := CxOK.ext2 (N := 0) (ok22 hgn  0) nr23 fun q0 => fc33 (ok22 hgn  0) (by intros; apply hit22 <;> first | assumption | omega) (by intros; (iterate 1 refine (ext_miss (by decide) _).trans ?_); apply hit21 <;> first | assumption | omega) hno22 ((q0.1)) q0.2
theorem hno23 : ∀ (g : Nat) (xs : List C), refy xs = true → pu23 g xs = none := hno_ext hno22 nr23
theorem hit23 (s : List UInt8) (hc0 : s.length ≤ 1000000) : pu23 33 [.val (str s)] = some (sl tC (.own 3) (toks s)) :=
  (ext_hit _).trans (tabOf_enc ij23 ⟨(s), hc0⟩)
abbrev D24 := {q0 : (List UInt8) × Int × Int // ((q0.1).length ≤ 1000000) ∧ (-9223372036854775808 ≤ (q0.2.1) ∧ (q0.2.1) ≤ 9223372036854775807) ∧ (-9223372036854775808 ≤ (q0.2.2) ∧ (q0.2.2) ≤ 9223372036854775807)}
def enc24 (q0 : D24) : List C := [.val (str (q0.1.1)), .val (.int .i64 (q0.1.2.1)), .val (.int .i64 (q0.1.2.2))]
def out24 (q0 : D24) : C := .val (str (part (q0.1.1) (q0.1.2.1) (q0.1.2.2)))
noncomputable def pu24 : Nat → List C → Option C := Sx.ext pu23 34 (tabOf enc24 out24)
theorem nr24 (x : D24) : noRefs 0 (enc24 x) = true := by
  simp only [enc24, noRef_val, noRef_agg, noRef_tup, noRef_kp, noRef_sl, noRefs_cl, noRefs_cons, noRefs_nil, noRefs_app, Bool.and_self, Bool.and_true, noRef_yF]
theorem ij24 (x y : D24) (h : enc24 x = enc24 y) : out24 x = out24 y := by
  simp only [enc24, List.cons.injEq, C.val.injEq, C.agg.injEq, C.kp.injEq, str_inj, nI_inj, nU_inj, w8_inj, w32_inj, cl_inj, sl_inj, Value.int.injEq, Value.bool.injEq, true_and, and_true] at h; simp only [out24, h]
theorem ok24 {gl : Nat → C} (hgn : ∀ g, noRef 0 (gl g) = true)  (M : Nat) : CxOK (cxP gl M pu24) := CxOK.ext2 (N := 0) (ok23 hgn  0) nr24 fun q0 => fc34 (ok23 hgn  0) (by intros; apply hit23 <;> first | assumption | omega) ((q0.1.1)) ((q0.1.2.1)) ((q0.1.2.2)) q0.2.1 q0.2.2.1 q0.2.2.2
theorem hno24 : ∀ (g : Nat) (xs : List C), refy xs = true → pu24 g xs = none := hno_ext hno23 nr24
theorem hit24 (s : List UInt8) (f : Int) (t : Int) (hc0 : s.length ≤ 1000000) (hc1 : -9223372036854775808 ≤ f ∧ f ≤ 9223372036854775807) (hc2 : -9223372036854775808 ≤ t ∧ t ≤ 9223372036854775807) : pu24 34 [.val (str s), .val (.int .i64 f), .val (.int .i64 t)] = some (.val (str (part s f t))) :=
  (ext_hit _).trans (tabOf_enc ij24 ⟨(s, f, t), ⟨hc0, hc1, hc2⟩⟩)
abbrev D25 := {q0 : (List UInt8) × Nat // ((q0.2) < (q0.1).length ∧ (q0.1).length ≤ 1000000)}
def enc25 (q0 : D25) : List C := [.val (nI (q0.1.2)), .kp [.val (str (q0.1.1))]]
def out25 (q0 : D25) : C := .val (.bool (badAt (q0.1.1) (q0.1.2)))
noncomputable def pu25 : Nat → List C → Option C := Sx.ext pu24 57 (tabOf enc25 out25)
theorem nr25 (x : D25) : noRefs 0 (enc25 x) = true := by
  simp only [enc25, noRef_val, noRef_agg, noRef_tup, noRef_kp, noRef_sl, noRefs_cl, noRefs_cons, noRefs_nil, noRefs_app, Bool.and_self, Bool.and_true, noRef_yF]
theorem ij25 (x y : D25) (h : enc25 x = enc25 y) : out25 x = out25 y := by
  simp only [enc25, List.cons.injEq, C.val.injEq, C.agg.injEq, C.kp.injEq, str_inj, nI_inj, nU_inj, w8_inj, w32_inj, cl_inj, sl_inj, Value.int.injEq, Value.bool.injEq, true_and, and_true] at h; simp only [out25, h]
theorem ok25 {gl : Nat → C} (hgn : ∀ g, noRef 0 (gl g) = true)  (M : Nat) : CxOK (cxP gl M pu25) := CxOK.ext2 (N := 0) (ok24 hgn  0) nr25 fun q0 => fc57 (ok24 hgn  0)  ((q0.1.1)) ((q0.1.2)) q0.2
theorem hno25 : ∀ (g : Nat) (xs : List C), refy xs = true → pu25 g xs = none := hno_ext hno24 nr25
theorem hit25 (s : List UInt8) (i : Nat) (hc0 : i < s.length ∧ s.length ≤ 1000000) : pu25 57 [.val (nI i), .kp [.val (str s)]] = some (.val (.bool (badAt s i))) :=
  (ext_hit _).trans (tabOf_enc ij25 ⟨(s, i), hc0⟩)
abbrev D26 := {q0 : (List UInt8) // ((q0).length ≤ 1000000)}
def enc26 (q0 : D26) : List C := [.val (str (q0.1))]
def out26 (q0 : D26) : C := .val (nI (validE (q0.1)))
noncomputable def pu26 : Nat → List C → Option C := Sx.ext pu25 52 (tabOf enc26 out26)
theorem nr26 (x : D26) : noRefs 0 (enc26 x) = true := by
  simp only [enc26, noRef_val, noRef_agg, noRef_tup, noRef_kp, noRef_sl, noRefs_cl, noRefs_cons, noRefs_nil, noRefs_app, Bool.and_self, Bool.and_true, noRef_yF]
theorem ij26 (x y : D26) (h : enc26 x = enc26 y) : out26 x = out26 y := by
  simp only [enc26, List.cons.injEq, C.val.injEq, C.agg.injEq, C.kp.injEq, str_inj, nI_inj, nU_inj, w8_inj, w32_inj, cl_inj, sl_inj, Value.int.injEq, Value.bool.injEq, true_and, and_true] at h; simp only [out26, h]
theorem ok26 {gl : Nat → C} (hgn : ∀ g, noRef 0 (gl g) = true)  (M : Nat) : CxOK (cxP gl M pu26) := CxOK.ext2 (N := 0) (ok25 hgn  0) nr26 fun q0 => fc52 (ok25 hgn  0) (by intros; (iterate 2 refine (ext_miss (by decide) _).trans ?_); apply hit23 <;> first | assumption | omega) (by intros; apply hit25 <;> first | assumption | omega) hno25 ((q0.1)) q0.2
theorem hit26 (s : List UInt8) (hc0 : s.length ≤ 1000000) : pu26 52 [.val (str s)] = some (.val (nI (validE s))) :=
  (ext_hit _).trans (tabOf_enc ij26 ⟨(s), hc0⟩)
abbrev D27 := {q0 : (List UInt8) × (List UInt8) // ((q0.1).length ≤ 1000000) ∧ ((q0.2).length ≤ 1000000)}
def enc27 (q0 : D27) : List C := [.val (str (q0.1.1)), .val (str (q0.1.2))]
def out27 (q0 : D27) : C := .val (str (joinT (q0.1.1) (q0.1.2)))
noncomputable def pu27 : Nat → List C → Option C := Sx.ext pu26 35 (tabOf enc27 out27)
theorem nr27 (x : D27) : noRefs 0 (enc27 x) = true := by
  simp only [enc27, noRef_val, noRef_agg, noRef_tup, noRef_kp, noRef_sl, noRefs_cl, noRefs_cons, noRefs_nil, noRefs_app, Bool.and_self, Bool.and_true, noRef_yF]
theorem ij27 (x y : D27) (h : enc27 x = enc27 y) : out27 x = out27 y := by
  simp only [enc27, List.cons.injEq, C.val.injEq, C.agg.injEq, C.kp.injEq, str_inj, nI_inj, nU_inj, w8_inj, w32_inj, cl_inj, sl_inj, Value.int.injEq, Value.bool.injEq, true_and, and_true] at h; simp only [out27, h]
theorem ok27 {gl : Nat → C} (hgn : ∀ g, noRef 0 (gl g) = true)  (M : Nat) : CxOK (cxP gl M pu27) := CxOK.ext2 (N := 0) (ok26 hgn  0) nr27 fun q0 => fc35 (ok26 hgn  0)  ((q0.1.1)) ((q0.1.2)) q0.2.1 q0.2.2
theorem hit27 (a : List UInt8) (b : List UInt8) (hc0 : a.length ≤ 1000000) (hc1 : b.length ≤ 1000000) : pu27 35 [.val (str a), .val (str b)] = some (.val (str (joinT a b))) :=
  (ext_hit _).trans (tabOf_enc ij27 ⟨(a, b), ⟨hc0, hc1⟩⟩)
abbrev D28 := {q0 : (List Tok) × Nat // ((q0.2) < (q0.1).length ∧ (q0.1).length ≤ 1000000)}
def enc28 (q0 : D28) : List C := [sl tC .no (q0.1.1), .val (nI (q0.1.2))]
def out28 (q0 : D28) : C := .val (.bool (lastT (q0.1.1) (q0.1.2)))
noncomputable def pu28 : Nat → List C → Option C := Sx.ext pu27 49 (tabOf enc28 out28)
theorem nr28 (x : D28) : noRefs 0 (enc28 x) = true := by
  simp only [enc28, noRef_val, noRef_agg, noRef_tup, noRef_kp, noRef_sl, noRefs_cl, noRefs_cons, noRefs_nil, noRefs_app, Bool.and_self, Bool.and_true, noRef_yF]
theorem ij28 (x y : D28) (h : enc28 x = enc28 y) : out28 x = out28 y := by
  simp only [enc28, List.cons.injEq, C.val.injEq, C.agg.injEq, C.kp.injEq, str_inj, nI_inj, nU_inj, w8_inj, w32_inj, cl_inj, sl_inj, Value.int.injEq, Value.bool.injEq, true_and, and_true] at h; simp only [out28, h]
theorem ok28 {gl : Nat → C} (hgn : ∀ g, noRef 0 (gl g) = true)  (M : Nat) : CxOK (cxP gl M pu28) := CxOK.ext2 (N := 0) (ok27 hgn  0) nr28 fun q0 => fc49 (ok27 hgn  0)  ((q0.1.1)) ((q0.1.2)) q0.2
theorem hit28 (l : List Tok) (i : Nat) (hc0 : i < l.length ∧ l.length ≤ 1000000) : pu28 49 [sl tC .no l, .val (nI i)] = some (.val (.bool (lastT l i))) :=
  (ext_hit _).trans (tabOf_enc ij28 ⟨(l, i), hc0⟩)
abbrev D29 := {q0 : (List UInt8) × Int // ((q0.1).length ≤ 1000000) ∧ (-9223372036854775808 ≤ (q0.2) ∧ (q0.2) ≤ 9223372036854775807)}
def enc29 (q0 : D29) : List C := [.val (str (q0.1.1)), .val (.int .i64 (q0.1.2))]
def out29 (q0 : D29) : C := .tup [.val (str (cutT (q0.1.1) (q0.1.2)).1), .val (str (cutT (q0.1.1) (q0.1.2)).2.1), .val (nI (cutT (q0.1.1) (q0.1.2)).2.2)]
noncomputable def pu29 : Nat → List C → Option C := Sx.ext pu28 36 (tabOf enc29 out29)
theorem nr29 (x : D29) : noRefs 0 (enc29 x) = true := by
  simp only [enc29, noRef_val, noRef_agg, noRef_tup, noRef_kp, noRef_sl, noRefs_cl, noRefs_cons, noRefs_nil, noRefs_app, Bool.and_self, Bool.and_true, noRef_yF]
theorem ij29 (x y : D29) (h : enc29 x = enc29 y) : out29 x = out29 y := by
  simp only [enc29, List.cons.injEq, C.val.injEq, C.agg.injEq, C.kp.injEq, str_inj, nI_inj, nU_inj, w8_inj, w32_inj, cl_inj, sl_inj, Value.int.injEq, Value.bool.injEq, true_and, and_true] at h; simp only [out29, h]
theorem ok29 {gl : Nat → C} (hgn : ∀ g, noRef 0 (gl g) = true)  (M : Nat) : CxOK (cxP gl M pu29) := CxOK.ext2 (N := 0) (ok28 hgn  0) nr29 fun q0 => fc36 (ok28 hgn  0) (by intros; (iterate 2 refine (ext_miss (by decide) _).trans ?_); apply hit26 <;> first | assumption | omega) (by intros; (iterate 5 refine (ext_miss (by decide) _).trans ?_); apply hit23 <;> first | assumption | omega) ((q0.1.1)) ((q0.1.2)) q0.2.1 q0.2.2
theorem hit29 (s : List UInt8) (k : Int) (hc0 : s.length ≤ 1000000) (hc1 : -9223372036854775808 ≤ k ∧ k ≤ 9223372036854775807) : pu29 36 [.val (str s), .val (.int .i64 k)] = some (.tup [.val (str (cutT s k).1), .val (str (cutT s k).2.1), .val (nI (cutT s k).2.2)]) :=
  (ext_hit _).trans (tabOf_enc ij29 ⟨(s, k), ⟨hc0, hc1⟩⟩)
abbrev D30 := {q0 : (List Int) × Nat × Nat // (LI (q0.1)) ∧ ((q0.2.1) ≤ 1000000) ∧ (0 < (q0.2.2) ∧ (q0.2.2) ≤ 9223372036854775807)}
def enc30 (q0 : D30) : List C := [sl iC .no (q0.1.1), .val (nI (q0.1.2.1)), .val (nI (q0.1.2.2))]
def out30 (q0 : D30) : C := .val (nI (atI (q0.1.1) (q0.1.2.1) (q0.1.2.2)))
noncomputable def pu30 : Nat → List C → Option C := Sx.ext pu29 46 (tabOf enc30 out30)
theorem nr30 (x : D30) : noRefs 0 (enc30 x) = true := by
  simp only [enc30, noRef_val, noRef_agg, noRef_tup, noRef_kp, noRef_sl, noRefs_cl, noRefs_cons, noRefs_nil, noRefs_app, Bool.and_self, Bool.and_true, noRef_yF]
theorem ij30 (x y : D30) (h : enc30 x = enc30 y) : out30 x = out30 y := by
  simp only [enc30, List.cons.injEq, C.val.injEq, C.agg.injEq, C.kp.injEq, str_inj, nI_inj, nU_inj, w8_inj, w32_inj, cl_inj, sl_inj, Value.int.injEq, Value.bool.injEq, true_and, and_true] at h; simp only [out30, h]
theorem ok30 {gl : Nat → C} (hgn : ∀ g, noRef 0 (gl g) = true)  (M : Nat) : CxOK (cxP gl M pu30) := CxOK.ext2 (N := 0) (ok29 hgn  0) nr30 fun q0 => fc46 (ok29 hgn  0) (by intros; (iterate 16 refine (ext_miss (by decide) _).trans ?_); apply hit13 <;> first | assumption | omega) ((q0.1.1)) ((q0.1.2.1)) ((q0.1.2.2)) q0.2.1 q0.2.2.1 q0.2.2.2
theorem hit30 (l : List Int) (i : Nat) (m : Nat) (hc0 : LI l) (hc1 : i ≤ 1000000) (hc2 : 0 < m ∧ m ≤ 9223372036854775807) : pu30 46 [sl iC .no l, .val (nI i), .val (nI m)] = some (.val (nI (atI l i m))) :=
  (ext_hit _).trans (tabOf_enc ij30 ⟨(l, i, m), ⟨hc0, hc1, hc2⟩⟩)
abbrev D31 := {q0 : (List UInt8) // ((q0).length ≤ 1000000)}
def enc31 (q0 : D31) : List C := [.val (str (q0.1))]
def out31 (q0 : D31) : C := .val (str (capT (q0.1)))
noncomputable def pu31 : Nat → List C → Option C := Sx.ext pu30 55 (tabOf enc31 out31)
theorem nr31 (x : D31) : noRefs 0 (enc31 x) = true := by
  simp only [enc31, noRef_val, noRef_agg, noRef_tup, noRef_kp, noRef_sl, noRefs_cl, noRefs_cons, noRefs_nil, noRefs_app, Bool.and_self, Bool.and_true, noRef_yF]
theorem ij31 (x y : D31) (h : enc31 x = enc31 y) : out31 x = out31 y := by
  simp only [enc31, List.cons.injEq, C.val.injEq, C.agg.injEq, C.kp.injEq, str_inj, nI_inj, nU_inj, w8_inj, w32_inj, cl_inj, sl_inj, Value.int.injEq, Value.bool.injEq, true_and, and_true] at h; simp only [out31, h]
theorem ok31 {gl : Nat → C} (hgn : ∀ g, noRef 0 (gl g) = true)  (M : Nat) : CxOK (cxP gl M pu31) := CxOK.ext2 (N := 0) (ok30 hgn  0) nr31 fun q0 => fc55 (ok30 hgn  0)  ((q0.1)) q0.2
theorem hit31 (w : List UInt8) (hc0 : w.length ≤ 1000000) : pu31 55 [.val (str w)] = some (.val (str (capT w))) :=
  (ext_hit _).trans (tabOf_enc ij31 ⟨(w), hc0⟩)
abbrev D32 := {q0 : (List UInt8) × Nat // ((q0.1).length ≤ 1000000) ∧ ((q0.2) ≤ 1000000)}
def enc32 (q0 : D32) : List C := [.val (str (q0.1.1)), .val (nI (q0.1.2))]
def out32 (q0 : D32) : C := .val (str (dresT (q0.1.1) (q0.1.2)))
noncomputable def pu32 : Nat → List C → Option C := Sx.ext pu31 47 (tabOf enc32 out32)
theorem nr32 (x : D32) : noRefs 0 (enc32 x) = true := by
  simp only [enc32, noRef_val, noRef_agg, noRef_tup, noRef_kp, noRef_sl, noRefs_cl, noRefs_cons, noRefs_nil, noRefs_app, Bool.and_self, Bool.and_true, noRef_yF]
theorem ij32 (x y : D32) (h : enc32 x = enc32 y) : out32 x = out32 y := by
  simp only [enc32, List.cons.injEq, C.val.injEq, C.agg.injEq, C.kp.injEq, str_inj, nI_inj, nU_inj, w8_inj, w32_inj, cl_inj, sl_inj, Value.int.injEq, Value.bool.injEq, true_and, and_true] at h; simp only [out32, h]
theorem ok32 {gl : Nat → C} (hgn : ∀ g, noRef 0 (gl g) = true)  (M : Nat) : CxOK (cxP gl M pu32) := CxOK.ext2 (N := 0) (ok31 hgn  0) nr32 fun q0 => fc47 (ok31 hgn  0) (by intros; apply hit31 <;> first | assumption | omega) ((q0.1.1)) ((q0.1.2)) q0.2.1 q0.2.2
theorem hit32 (w : List UInt8) (n : Nat) (hc0 : w.length ≤ 1000000) (hc1 : n ≤ 1000000) : pu32 47 [.val (str w), .val (nI n)] = some (.val (str (dresT w n))) :=
  (ext_hit _).trans (tabOf_enc ij32 ⟨(w, n), ⟨hc0, hc1⟩⟩)
abbrev D33 := {q0 : (List Int) × Nat // (LI (q0.1)) ∧ ((q0.2) ≤ 1000)}
def enc33 (q0 : D33) : List C := [sl iC .no (q0.1.1), .val (nI (q0.1.2))]
def out33 (q0 : D33) : C := .val (str (textT (q0.1.1) (q0.1.2)))
noncomputable def pu33 : Nat → List C → Option C := Sx.ext pu32 31 (tabOf enc33 out33)
theorem nr33 (x : D33) : noRefs 0 (enc33 x) = true := by
  simp only [enc33, noRef_val, noRef_agg, noRef_tup, noRef_kp, noRef_sl, noRefs_cl, noRefs_cons, noRefs_nil, noRefs_app, Bool.and_self, Bool.and_true, noRef_yF]
theorem ij33 (x y : D33) (h : enc33 x = enc33 y) : out33 x = out33 y := by
  simp only [enc33, List.cons.injEq, C.val.injEq, C.agg.injEq, C.kp.injEq, str_inj, nI_inj, nU_inj, w8_inj, w32_inj, cl_inj, sl_inj, Value.int.injEq, Value.bool.injEq, true_and, and_true] at h; simp only [out33, h]
theorem ok33 {gl : Nat → C} (hgn : ∀ g, noRef 0 (gl g) = true)  (M : Nat) : CxOK (cxP gl M pu33) := CxOK.ext2 (N := 0) (ok32 hgn  0) nr33 fun q0 => fc31 (ok32 hgn  0) (by intros; (iterate 2 refine (ext_miss (by decide) _).trans ?_); apply hit30 <;> first | assumption | omega) (by intros; apply hit32 <;> first | assumption | omega) ((q0.1.1)) ((q0.1.2)) q0.2.1 q0.2.2
theorem hit33 (l : List Int) (k : Nat) (hc0 : LI l) (hc1 : k ≤ 1000) : pu33 31 [sl iC .no l, .val (nI k)] = some (.val (str (textT l k))) :=
  (ext_hit _).trans (tabOf_enc ij33 ⟨(l, k), ⟨hc0, hc1⟩⟩)
abbrev D34 := {q0 : (List UInt8) // ((q0).length ≤ 1000000)}
def enc34 (q0 : D34) : List C := [.val (str (q0.1))]
def out34 (q0 : D34) : C := sl sC (.own 1) (unitsT (q0.1))
noncomputable def pu34 : Nat → List C → Option C := Sx.ext pu33 32 (tabOf enc34 out34)
theorem nr34 (x : D34) : noRefs 0 (enc34 x) = true := by
  simp only [enc34, noRef_val, noRef_agg, noRef_tup, noRef_kp, noRef_sl, noRefs_cl, noRefs_cons, noRefs_nil, noRefs_app, Bool.and_self, Bool.and_true, noRef_yF]
theorem ij34 (x y : D34) (h : enc34 x = enc34 y) : out34 x = out34 y := by
  simp only [enc34, List.cons.injEq, C.val.injEq, C.agg.injEq, C.kp.injEq, str_inj, nI_inj, nU_inj, w8_inj, w32_inj, cl_inj, sl_inj, Value.int.injEq, Value.bool.injEq, true_and, and_true] at h; simp only [out34, h]
theorem ok34 {gl : Nat → C} (hgn : ∀ g, noRef 0 (gl g) = true)  (M : Nat) : CxOK (cxP gl M pu34) := CxOK.ext2 (N := 0) (ok33 hgn  0) nr34 fun q0 => fc32 (ok33 hgn  0) (by intros; (iterate 13 refine (ext_miss (by decide) _).trans ?_); apply hit20 <;> first | assumption | omega) (by intros; (iterate 5 refine (ext_miss (by decide) _).trans ?_); apply hit28 <;> first | assumption | omega) ((q0.1)) q0.2
theorem hit34 (s : List UInt8) (hc0 : s.length ≤ 1000000) : pu34 32 [.val (str s)] = some (sl sC (.own 1) (unitsT s)) :=
  (ext_hit _).trans (tabOf_enc ij34 ⟨(s), hc0⟩)
theorem law8 {gl : Nat → C} (hgn : ∀ g, noRef 0 (gl g) = true)  (l : List Int) (m : Int) (hc0 : LI l) (hc1 : -9223372036854775808 ≤ m ∧ m ≤ 9223372036854775807) : FC Try.prog gl 8 [sl iC .no l, .val (.int .i64 m)] [] (.val (.bool true)) [] := fc8 (ok34 hgn  0) (by intros; (iterate 1 refine (ext_miss (by decide) _).trans ?_); apply hit33 <;> first | assumption | omega) (by intros; apply hit34 <;> first | assumption | omega) (by intros; (iterate 21 refine (ext_miss (by decide) _).trans ?_); apply hit13 <;> first | assumption | omega) (by intros; (iterate 17 refine (ext_miss (by decide) _).trans ?_); apply hit17 <;> first | assumption | omega) (by intros; (iterate 11 refine (ext_miss (by decide) _).trans ?_); apply hit23 <;> first | assumption | omega) (by intros; (iterate 10 refine (ext_miss (by decide) _).trans ?_); apply hit24 <;> first | assumption | omega) (by intros; (iterate 7 refine (ext_miss (by decide) _).trans ?_); apply hit27 <;> first | assumption | omega) (by intros; (iterate 5 refine (ext_miss (by decide) _).trans ?_); apply hit29 <;> first | assumption | omega) (by intros; (iterate 16 refine (ext_miss (by decide) _).trans ?_); apply hit18 <;> first | assumption | omega) (l) (m) hc0 hc1
end Go.Sx
namespace Go.Sx
open Go.RowKit Go.ChangeShapes Go.WideShapes
/-- How the fields of a struct, from an offset on, stand to their data. -/
abbrev RelF (α : Type) := α → (H : Type) → List (DataW H) → Prop
structure RdF (P : Program) (fs : List Field) (off z : Nat) {α : Type} (f : α → List C) (R : RelF α) : Prop where
  rd : ∀ {H : Type} {enc : TypeId × Value → H} {W : World} {base : Nat} {sp : Nat → Bool} {held : Bool} {n : Nat} {cs : List Value} {xs : List (DataW H × List MemPlace)}, xs.length = fs.length → cs.length = off + z →
    (∀ (i : Nat) (fd : Field), fs[i]? = some fd → DataW.trod enc P W base sp held n fd.type ((cs.drop fd.offset).take (P.cellsOf fd.type)) = xs[i]?) → ∃ a, R a H (xs.map (·.1)) ∧ RepL (GW W) (f a) (cs.drop off) ∧ ∀ u ∈ cs.drop off, u.oneCell' = true
end Go.Sx
namespace Go.Proofs.Ytljjjkmiegeocaa
open Go.ChangeShapes Go.WideShapes Go.RowKit Go.Sx
theorem ownT : ownKnob Try.prog.godebug = none := by kernel_rfl
theorem loT : laidOutB Try.prog = true := by kernel_rfl
theorem mrT : mapsRowed Try.prog = true := by kernel_rfl
theorem slT : slicesB Try.prog = true := by kernel_rfl
theorem c3 : Try.prog.cellsOf 3 = 1 := by kernel_rfl
def glN : Nat → C := fun _ => .top
theorem glN_ok (W : World) (g : Nat) : Rep (GW W) (glN g) (.pointer (some ⟨g, 0, none⟩)) := by simp [glN, Rep]
theorem glN_noRef : ∀ g, noRef 0 (glN g) = true := fun _ => rfl
theorem trods_nil2 {H : Type} {enc : TypeId × Value → H} {P : Program} {W : World} {b : Nat} {sp : Nat → Bool} {hd : Bool} {vs : List Value} {ds : List (DataW H)} {ps : List MemPlace}
    (h : DataW.TrodAll enc P W b sp hd [] vs ds ps) : ds = [] := by
  cases vs <;> cases ds <;> simp only [DataW.TrodAll] at h <;> rfl
theorem x3 : AX Try.prog 3 (fun n : Int => .val (.int .i64 n)) RI := ax_int td3
theorem x22 : AX Try.prog 22 (fun l : List Int => sl iC .no l) (RL RI) := ax_slice td22 c3 (rdx_int (td_spec td3).1)
theorem ints_LI {l : List Int} {H : Type} {d : DataW H} (h : RL RI l H d) : LI l := by
  rcases h with ⟨rfl, _⟩ | ⟨e, s, _, h1, h2, h3⟩
  · exact ⟨by simp, fun i hi => by simp at hi⟩
  · refine ⟨h1, fun i hi => ?_⟩
    have hq : l[i]? = some (gt l i) := by simp [gt, List.getD, List.getElem?_eq_getElem hi]
    exact (h3 i _ _ hq (List.getElem?_eq_getElem (by omega))).1
end Go.Proofs.Ytljjjkmiegeocaa
