/-
  Package breaks: all contracts together. And what follows.
-/
import Derived.Test.YtljjjkmiegeocaaRows
import Derived.Test.YtljjjkmiegeocaaPav
import Derived.Test.YtljjjkmiegeocaaPax
import Derived.Test.YtljjjkmiegeocaaPay
import Derived.Test.YtljjjkmiegeocaaPai
set_option linter.unusedSimpArgs false
set_option linter.unusedVariables false
namespace Go.Sx
open Go.RowKit Go.Proofs
def pu0 : Nat → List C → Option C := fun _ _ => none
theorem ok0 {gl : Nat → C} (hgn : ∀ g, noRef 0 (gl g) = true)  (M : Nat) : CxOK (cxP gl M pu0) := CxOK.zero hgn
abbrev D1 := {q0 : Int // True}
def enc1 (q0 : D1) : List C := [.val (.int .i64 (q0.1))]
def out1 (q0 : D1) : C := .val (.bool false)
noncomputable def pu1 : Nat → List C → Option C := Sx.ext pu0 59 (tabOf enc1 out1)
theorem nr1 (x : D1) : noRefs 0 (enc1 x) = true := by
  simp only [enc1, noRef_val, noRef_agg, noRef_tup, noRef_kp, noRef_sl, noRefs_cl, noRefs_cons, noRefs_nil, noRefs_app, Bool.and_self, Bool.and_true, noRef_yF]
theorem ij1 (x y : D1) (h : enc1 x = enc1 y) : out1 x = out1 y := by
  simp only [enc1, List.cons.injEq, C.val.injEq, C.agg.injEq, C.kp.injEq, str_inj, nI_inj, nU_inj, w8_inj, w32_inj, cl_inj, sl_inj, Value.int.injEq, Value.bool.injEq, true_and, and_true] at h; simp only [out1, h]
theorem ok1 {gl : Nat → C} (hgn : ∀ g, noRef 0 (gl g) = true)  (M : Nat) : CxOK (cxP gl M pu1) := CxOK.ext2 (N := 0) (ok0 hgn  0) nr1 fun q0 => fc59 (ok0 hgn  0)  ((q0.1))
theorem hit1 (n : Int)  : pu1 59 [.val (.int .i64 n)] = some (.val (.bool false)) :=
  (ext_hit _).trans (tabOf_enc ij1 ⟨(n), trivial⟩)
abbrev D2 := {q0 : Int × Int // True}
def enc2 (q0 : D2) : List C := [.val (.int .i64 (q0.1.1)), .val (.int .i64 (q0.1.2))]
def out2 (q0 : D2) : C := .val (.int .i64 (cmpI (q0.1.1) (q0.1.2)))
noncomputable def pu2 : Nat → List C → Option C := Sx.ext pu1 58 (tabOf enc2 out2)
theorem nr2 (x : D2) : noRefs 0 (enc2 x) = true := by
  simp only [enc2, noRef_val, noRef_agg, noRef_tup, noRef_kp, noRef_sl, noRefs_cl, noRefs_cons, noRefs_nil, noRefs_app, Bool.and_self, Bool.and_true, noRef_yF]
theorem ij2 (x y : D2) (h : enc2 x = enc2 y) : out2 x = out2 y := by
  simp only [enc2, List.cons.injEq, C.val.injEq, C.agg.injEq, C.kp.injEq, str_inj, nI_inj, nU_inj, w8_inj, w32_inj, cl_inj, sl_inj, Value.int.injEq, Value.bool.injEq, true_and, and_true] at h; simp only [out2, h]
theorem ok2 {gl : Nat → C} (hgn : ∀ g, noRef 0 (gl g) = true)  (M : Nat) : CxOK (cxP gl M pu2) := CxOK.ext2 (N := 0) (ok1 hgn  0) nr2 fun q0 => fc58 (ok1 hgn  0) (by intros; apply hit1 <;> first | assumption | omega) ((q0.1.1)) ((q0.1.2))
theorem hit2 (a : Int) (b : Int)  : pu2 58 [.val (.int .i64 a), .val (.int .i64 b)] = some (.val (.int .i64 (cmpI a b))) :=
  (ext_hit _).trans (tabOf_enc ij2 ⟨(a, b), trivial⟩)
abbrev D3 := {q0 : Int // (-9223372036854775808 ≤ (q0) ∧ (q0) ≤ 9223372036854775807)}
def enc3 (q0 : D3) : List C := [.val (.int .i64 (q0.1))]
def out3 (q0 : D3) : C := .val (.bool (proI (q0.1)))
noncomputable def pu3 : Nat → List C → Option C := Sx.ext pu2 53 (tabOf enc3 out3)
theorem nr3 (x : D3) : noRefs 0 (enc3 x) = true := by
  simp only [enc3, noRef_val, noRef_agg, noRef_tup, noRef_kp, noRef_sl, noRefs_cl, noRefs_cons, noRefs_nil, noRefs_app, Bool.and_self, Bool.and_true, noRef_yF]
theorem ij3 (x y : D3) (h : enc3 x = enc3 y) : out3 x = out3 y := by
  simp only [enc3, List.cons.injEq, C.val.injEq, C.agg.injEq, C.kp.injEq, str_inj, nI_inj, nU_inj, w8_inj, w32_inj, cl_inj, sl_inj, Value.int.injEq, Value.bool.injEq, true_and, and_true] at h; simp only [out3, h]
theorem ok3 {gl : Nat → C} (hgn : ∀ g, noRef 0 (gl g) = true)  (M : Nat) : CxOK (cxP gl M pu3) := CxOK.ext2 (N := 0) (ok2 hgn  0) nr3 fun q0 => fc53 (ok2 hgn  0)  ((q0.1)) q0.2
theorem hit3 (n : Int) (hc0 : -9223372036854775808 ≤ n ∧ n ≤ 9223372036854775807) : pu3 53 [.val (.int .i64 n)] = some (.val (.bool (proI n))) :=
  (ext_hit _).trans (tabOf_enc ij3 ⟨(n), hc0⟩)
abbrev D4 := {q0 : Int // (-9223372036854775808 ≤ (q0) ∧ (q0) ≤ 9223372036854775807)}
def enc4 (q0 : D4) : List C := [.val (.int .i64 (q0.1))]
def out4 (q0 : D4) : C := .val (.bool (proI (q0.1)))
noncomputable def pu4 : Nat → List C → Option C := Sx.ext pu3 45 (tabOf enc4 out4)
theorem nr4 (x : D4) : noRefs 0 (enc4 x) = true := by
  simp only [enc4, noRef_val, noRef_agg, noRef_tup, noRef_kp, noRef_sl, noRefs_cl, noRefs_cons, noRefs_nil, noRefs_app, Bool.and_self, Bool.and_true, noRef_yF]
theorem ij4 (x y : D4) (h : enc4 x = enc4 y) : out4 x = out4 y := by
  simp only [enc4, List.cons.injEq, C.val.injEq, C.agg.injEq, C.kp.injEq, str_inj, nI_inj, nU_inj, w8_inj, w32_inj, cl_inj, sl_inj, Value.int.injEq, Value.bool.injEq, true_and, and_true] at h; simp only [out4, h]
theorem ok4 {gl : Nat → C} (hgn : ∀ g, noRef 0 (gl g) = true)  (M : Nat) : CxOK (cxP gl M pu4) := CxOK.ext2 (N := 0) (ok3 hgn  0) nr4 fun q0 => fc45 (ok3 hgn  0)  ((q0.1)) q0.2
theorem hit4 (n : Int) (hc0 : -9223372036854775808 ≤ n ∧ n ≤ 9223372036854775807) : pu4 45 [.val (.int .i64 n)] = some (.val (.bool (proI n))) :=
  (ext_hit _).trans (tabOf_enc ij4 ⟨(n), hc0⟩)
abbrev D5 := {q0 : (List Int) × Int × Int // (Col (q0.1) (q0.2.1) (q0.2.2))}
def enc5 (q0 : D5) : List C := [.agg [sl iC .no (q0.1.1), .val (.int .i64 (q0.1.2.1)), .val (.int .i64 (q0.1.2.2))]]
def out5 (q0 : D5) : C := .val (nI ((q0.1.1).length - 1))
noncomputable def pu5 : Nat → List C → Option C := Sx.ext pu4 38 (tabOf enc5 out5)
theorem nr5 (x : D5) : noRefs 0 (enc5 x) = true := by
  simp only [enc5, noRef_val, noRef_agg, noRef_tup, noRef_kp, noRef_sl, noRefs_cl, noRefs_cons, noRefs_nil, noRefs_app, Bool.and_self, Bool.and_true, noRef_yF]
theorem ij5 (x y : D5) (h : enc5 x = enc5 y) : out5 x = out5 y := by
  simp only [enc5, List.cons.injEq, C.val.injEq, C.agg.injEq, C.kp.injEq, str_inj, nI_inj, nU_inj, w8_inj, w32_inj, cl_inj, sl_inj, Value.int.injEq, Value.bool.injEq, true_and, and_true] at h; simp only [out5, h]
theorem ok5 {gl : Nat → C} (hgn : ∀ g, noRef 0 (gl g) = true)  (M : Nat) : CxOK (cxP gl M pu5) := CxOK.ext2 (N := 0) (ok4 hgn  0) nr5 fun q0 => fc38 (ok4 hgn  0)  ((q0.1.1)) ((q0.1.2.1)) ((q0.1.2.2)) q0.2
theorem hit5 (S : List Int) (b : Int) (w : Int) (hc0 : Col S b w) : pu5 38 [.agg [sl iC .no S, .val (.int .i64 b), .val (.int .i64 w)]] = some (.val (nI (S.length - 1))) :=
  (ext_hit _).trans (tabOf_enc ij5 ⟨(S, b, w), hc0⟩)
abbrev D6 := {q0 : (List Int) × Int × Int × Int × Int // (Col (q0.1) (q0.2.1) (q0.2.2.1)) ∧ (0 ≤ (q0.2.2.2.1) ∧ (q0.2.2.2.1) < (q0.1).length ∧ 0 ≤ (q0.2.2.2.2) ∧ (q0.2.2.2.2) < (q0.1).length)}
def enc6 (q0 : D6) : List C := [.agg [sl iC .no (q0.1.1), .val (.int .i64 (q0.1.2.1)), .val (.int .i64 (q0.1.2.2.1))], .val (.int .i64 (q0.1.2.2.2.1)), .val (.int .i64 (q0.1.2.2.2.2))]
def out6 (q0 : D6) : C := .val (.int .i64 (freS (q0.1.1) (q0.1.2.1) (q0.1.2.2.1) (q0.1.2.2.2.1) (q0.1.2.2.2.2)))
noncomputable def pu6 : Nat → List C → Option C := Sx.ext pu5 39 (tabOf enc6 out6)
theorem nr6 (x : D6) : noRefs 0 (enc6 x) = true := by
  simp only [enc6, noRef_val, noRef_agg, noRef_tup, noRef_kp, noRef_sl, noRefs_cl, noRefs_cons, noRefs_nil, noRefs_app, Bool.and_self, Bool.and_true, noRef_yF]
theorem ij6 (x y : D6) (h : enc6 x = enc6 y) : out6 x = out6 y := by
  simp only [enc6, List.cons.injEq, C.val.injEq, C.agg.injEq, C.kp.injEq, str_inj, nI_inj, nU_inj, w8_inj, w32_inj, cl_inj, sl_inj, Value.int.injEq, Value.bool.injEq, true_and, and_true] at h; simp only [out6, h]
theorem ok6 {gl : Nat → C} (hgn : ∀ g, noRef 0 (gl g) = true)  (M : Nat) : CxOK (cxP gl M pu6) := CxOK.ext2 (N := 0) (ok5 hgn  0) nr6 fun q0 => fc39 (ok5 hgn  0)  ((q0.1.1)) ((q0.1.2.1)) ((q0.1.2.2.1)) ((q0.1.2.2.2.1)) ((q0.1.2.2.2.2)) q0.2.1 q0.2.2
theorem hit6 (S : List Int) (b : Int) (w : Int) (i : Int) (j : Int) (hc0 : Col S b w) (hc1 : 0 ≤ i ∧ i < S.length ∧ 0 ≤ j ∧ j < S.length) : pu6 39 [.agg [sl iC .no S, .val (.int .i64 b), .val (.int .i64 w)], .val (.int .i64 i), .val (.int .i64 j)] = some (.val (.int .i64 (freS S b w i j))) :=
  (ext_hit _).trans (tabOf_enc ij6 ⟨(S, b, w, i, j), ⟨hc0, hc1⟩⟩)
abbrev D7 := {q0 : (List Int) × Int × Int × Int × Int // (Col (q0.1) (q0.2.1) (q0.2.2.1)) ∧ (0 ≤ (q0.2.2.2.1) ∧ (q0.2.2.2.1) < (q0.1).length ∧ 0 ≤ (q0.2.2.2.2) ∧ (q0.2.2.2.2) < (q0.1).length)}
def enc7 (q0 : D7) : List C := [.agg [sl iC .no (q0.1.1), .val (.int .i64 (q0.1.2.1)), .val (.int .i64 (q0.1.2.2.1))], .val (.int .i64 (q0.1.2.2.2.1)), .val (.int .i64 (q0.1.2.2.2.2))]
def out7 (q0 : D7) : C := .val (.int .i64 (priS (q0.1.1) (q0.1.2.1) (q0.1.2.2.1) (q0.1.2.2.2.1) (q0.1.2.2.2.2)))
noncomputable def pu7 : Nat → List C → Option C := Sx.ext pu6 40 (tabOf enc7 out7)
theorem nr7 (x : D7) : noRefs 0 (enc7 x) = true := by
  simp only [enc7, noRef_val, noRef_agg, noRef_tup, noRef_kp, noRef_sl, noRefs_cl, noRefs_cons, noRefs_nil, noRefs_app, Bool.and_self, Bool.and_true, noRef_yF]
theorem ij7 (x y : D7) (h : enc7 x = enc7 y) : out7 x = out7 y := by
  simp only [enc7, List.cons.injEq, C.val.injEq, C.agg.injEq, C.kp.injEq, str_inj, nI_inj, nU_inj, w8_inj, w32_inj, cl_inj, sl_inj, Value.int.injEq, Value.bool.injEq, true_and, and_true] at h; simp only [out7, h]
theorem ok7 {gl : Nat → C} (hgn : ∀ g, noRef 0 (gl g) = true)  (M : Nat) : CxOK (cxP gl M pu7) := CxOK.ext2 (N := 0) (ok6 hgn  0) nr7 fun q0 => fc40 (ok6 hgn  0) (by intros; (iterate 1 refine (ext_miss (by decide) _).trans ?_); apply hit5 <;> first | assumption | omega) (by intros; apply hit6 <;> first | assumption | omega) ((q0.1.1)) ((q0.1.2.1)) ((q0.1.2.2.1)) ((q0.1.2.2.2.1)) ((q0.1.2.2.2.2)) q0.2.1 q0.2.2
theorem hit7 (S : List Int) (b : Int) (w : Int) (i : Int) (j : Int) (hc0 : Col S b w) (hc1 : 0 ≤ i ∧ i < S.length ∧ 0 ≤ j ∧ j < S.length) : pu7 40 [.agg [sl iC .no S, .val (.int .i64 b), .val (.int .i64 w)], .val (.int .i64 i), .val (.int .i64 j)] = some (.val (.int .i64 (priS S b w i j))) :=
  (ext_hit _).trans (tabOf_enc ij7 ⟨(S, b, w, i, j), ⟨hc0, hc1⟩⟩)
abbrev D8 := {q0 : (List Int) × Int × Int // (LI (q0.1)) ∧ (-9223372036854775808 ≤ (q0.2.1) ∧ (q0.2.1) ≤ 9223372036854775807) ∧ (-9223372036854775808 ≤ (q0.2.2) ∧ (q0.2.2) ≤ 9223372036854775807)}
def enc8 (q0 : D8) : List C := [sl iC .no (q0.1.1), .val (.int .i64 (q0.1.2.1)), .val (.int .i64 (q0.1.2.2))]
def out8 (q0 : D8) : C := res37 (q0.1.1) (q0.1.2.1) (q0.1.2.2)
noncomputable def pu8 : Nat → List C → Option C := Sx.ext pu7 37 (tabOf enc8 out8)
theorem nr8 (x : D8) : noRefs 0 (enc8 x) = true := by
  simp only [enc8, noRef_val, noRef_agg, noRef_tup, noRef_kp, noRef_sl, noRefs_cl, noRefs_cons, noRefs_nil, noRefs_app, Bool.and_self, Bool.and_true, noRef_yF]
theorem ij8 (x y : D8) (h : enc8 x = enc8 y) : out8 x = out8 y := by
  simp only [enc8, List.cons.injEq, C.val.injEq, C.agg.injEq, C.kp.injEq, str_inj, nI_inj, nU_inj, w8_inj, w32_inj, cl_inj, sl_inj, Value.int.injEq, Value.bool.injEq, true_and, and_true] at h; simp only [out8, h]
theorem ok8 {gl : Nat → C} (hgn : ∀ g, noRef 0 (gl g) = true)  (M : Nat) : CxOK (cxP gl M pu8) := CxOK.ext2 (N := 0) (ok7 hgn  0) nr8 fun q0 => fc37c (ok7 hgn  0) (by intros; (iterate 4 refine (ext_miss (by decide) _).trans ?_); apply hit3 <;> first | assumption | omega) ((q0.1.1)) ((q0.1.2.1)) ((q0.1.2.2)) q0.2.1 q0.2.2.1 q0.2.2.2
theorem hit8 (l : List Int) (b : Int) (w : Int) (hc0 : LI l) (hc1 : -9223372036854775808 ≤ b ∧ b ≤ 9223372036854775807) (hc2 : -9223372036854775808 ≤ w ∧ w ≤ 9223372036854775807) : pu8 37 [sl iC .no l, .val (.int .i64 b), .val (.int .i64 w)] = some (res37 l b w) :=
  (ext_hit _).trans (tabOf_enc ij8 ⟨(l, b, w), ⟨hc0, hc1, hc2⟩⟩)
abbrev D9 := {q0 : (List Int) × Int × Int × Int × Int // (Fine (q0.1) (q0.2.1) (q0.2.2.1)) ∧ (0 ≤ (q0.2.2.2.1) ∧ (q0.2.2.2.1) < (q0.2.2.2.2) ∧ (q0.2.2.2.2) ≤ (q0.1).length)}
def enc9 (q0 : D9) : List C := [sl iC .no (q0.1.1), .val (.int .i64 (q0.1.2.1)), .val (.int .i64 (q0.1.2.2.1)), .val (.int .i64 (q0.1.2.2.2.1)), .val (.int .i64 (q0.1.2.2.2.2))]
def out9 (q0 : D9) : C := .val (.int .i64 (freR (q0.1.1) (q0.1.2.1) (q0.1.2.2.1) (q0.1.2.2.2.1) (q0.1.2.2.2.2)))
noncomputable def pu9 : Nat → List C → Option C := Sx.ext pu8 42 (tabOf enc9 out9)
theorem nr9 (x : D9) : noRefs 0 (enc9 x) = true := by
  simp only [enc9, noRef_val, noRef_agg, noRef_tup, noRef_kp, noRef_sl, noRefs_cl, noRefs_cons, noRefs_nil, noRefs_app, Bool.and_self, Bool.and_true, noRef_yF]
theorem ij9 (x y : D9) (h : enc9 x = enc9 y) : out9 x = out9 y := by
  simp only [enc9, List.cons.injEq, C.val.injEq, C.agg.injEq, C.kp.injEq, str_inj, nI_inj, nU_inj, w8_inj, w32_inj, cl_inj, sl_inj, Value.int.injEq, Value.bool.injEq, true_and, and_true] at h; simp only [out9, h]
theorem ok9 {gl : Nat → C} (hgn : ∀ g, noRef 0 (gl g) = true)  (M : Nat) : CxOK (cxP gl M pu9) := CxOK.ext2 (N := 0) (ok8 hgn  0) nr9 fun q0 => fc42 (ok8 hgn  0)  ((q0.1.1)) ((q0.1.2.1)) ((q0.1.2.2.1)) ((q0.1.2.2.2.1)) ((q0.1.2.2.2.2)) q0.2.1 q0.2.2
theorem hit9 (l : List Int) (b : Int) (w : Int) (i : Int) (j : Int) (hc0 : Fine l b w) (hc1 : 0 ≤ i ∧ i < j ∧ j ≤ l.length) : pu9 42 [sl iC .no l, .val (.int .i64 b), .val (.int .i64 w), .val (.int .i64 i), .val (.int .i64 j)] = some (.val (.int .i64 (freR l b w i j))) :=
  (ext_hit _).trans (tabOf_enc ij9 ⟨(l, b, w, i, j), ⟨hc0, hc1⟩⟩)
abbrev D10 := {q0 : (List Int) × Int × Int × Int × Int // (Fine (q0.1) (q0.2.1) (q0.2.2.1)) ∧ (0 ≤ (q0.2.2.2.1) ∧ (q0.2.2.2.1) < (q0.2.2.2.2) ∧ (q0.2.2.2.2) ≤ (q0.1).length)}
def enc10 (q0 : D10) : List C := [sl iC .no (q0.1.1), .val (.int .i64 (q0.1.2.1)), .val (.int .i64 (q0.1.2.2.1)), .val (.int .i64 (q0.1.2.2.2.1)), .val (.int .i64 (q0.1.2.2.2.2))]
def out10 (q0 : D10) : C := .val (.int .i64 (priR (q0.1.1) (q0.1.2.1) (q0.1.2.2.1) (q0.1.2.2.2.1) (q0.1.2.2.2.2)))
noncomputable def pu10 : Nat → List C → Option C := Sx.ext pu9 43 (tabOf enc10 out10)
theorem nr10 (x : D10) : noRefs 0 (enc10 x) = true := by
  simp only [enc10, noRef_val, noRef_agg, noRef_tup, noRef_kp, noRef_sl, noRefs_cl, noRefs_cons, noRefs_nil, noRefs_app, Bool.and_self, Bool.and_true, noRef_yF]
theorem ij10 (x y : D10) (h : enc10 x = enc10 y) : out10 x = out10 y := by
  simp only [enc10, List.cons.injEq, C.val.injEq, C.agg.injEq, C.kp.injEq, str_inj, nI_inj, nU_inj, w8_inj, w32_inj, cl_inj, sl_inj, Value.int.injEq, Value.bool.injEq, true_and, and_true] at h; simp only [out10, h]
theorem ok10 {gl : Nat → C} (hgn : ∀ g, noRef 0 (gl g) = true)  (M : Nat) : CxOK (cxP gl M pu10) := CxOK.ext2 (N := 0) (ok9 hgn  0) nr10 fun q0 => fc43 (ok9 hgn  0) (by intros; apply hit9 <;> first | assumption | omega) ((q0.1.1)) ((q0.1.2.1)) ((q0.1.2.2.1)) ((q0.1.2.2.2.1)) ((q0.1.2.2.2.2)) q0.2.1 q0.2.2
theorem hit10 (l : List Int) (b : Int) (w : Int) (i : Int) (j : Int) (hc0 : Fine l b w) (hc1 : 0 ≤ i ∧ i < j ∧ j ≤ l.length) : pu10 43 [sl iC .no l, .val (.int .i64 b), .val (.int .i64 w), .val (.int .i64 i), .val (.int .i64 j)] = some (.val (.int .i64 (priR l b w i j))) :=
  (ext_hit _).trans (tabOf_enc ij10 ⟨(l, b, w, i, j), ⟨hc0, hc1⟩⟩)
abbrev D11 := {q0 : (List Int) × Int × Int // (LI (q0.1)) ∧ (-9223372036854775808 ≤ (q0.2.1) ∧ (q0.2.1) ≤ 9223372036854775807) ∧ (-9223372036854775808 ≤ (q0.2.2) ∧ (q0.2.2) ≤ 9223372036854775807)}
def enc11 (q0 : D11) : List C := [sl iC .no (q0.1.1), .val (.int .i64 (q0.1.2.1)), .val (.int .i64 (q0.1.2.2))]
def out11 (q0 : D11) : C := .val (nI (errE (q0.1.1) (q0.1.2.1) (q0.1.2.2)))
noncomputable def pu11 : Nat → List C → Option C := Sx.ext pu10 27 (tabOf enc11 out11)
theorem nr11 (x : D11) : noRefs 0 (enc11 x) = true := by
  simp only [enc11, noRef_val, noRef_agg, noRef_tup, noRef_kp, noRef_sl, noRefs_cl, noRefs_cons, noRefs_nil, noRefs_app, Bool.and_self, Bool.and_true, noRef_yF]
theorem ij11 (x y : D11) (h : enc11 x = enc11 y) : out11 x = out11 y := by
  simp only [enc11, List.cons.injEq, C.val.injEq, C.agg.injEq, C.kp.injEq, str_inj, nI_inj, nU_inj, w8_inj, w32_inj, cl_inj, sl_inj, Value.int.injEq, Value.bool.injEq, true_and, and_true] at h; simp only [out11, h]
theorem ok11 {gl : Nat → C} (hgn : ∀ g, noRef 0 (gl g) = true)  (M : Nat) : CxOK (cxP gl M pu11) := CxOK.ext2 (N := 0) (ok10 hgn  0) nr11 fun q0 => fc27 (ok10 hgn  0) (by intros; (iterate 6 refine (ext_miss (by decide) _).trans ?_); apply hit4 <;> first | assumption | omega) ((q0.1.1)) ((q0.1.2.1)) ((q0.1.2.2)) q0.2.1 q0.2.2.1 q0.2.2.2
theorem hit11 (l : List Int) (b : Int) (w : Int) (hc0 : LI l) (hc1 : -9223372036854775808 ≤ b ∧ b ≤ 9223372036854775807) (hc2 : -9223372036854775808 ≤ w ∧ w ≤ 9223372036854775807) : pu11 27 [sl iC .no l, .val (.int .i64 b), .val (.int .i64 w)] = some (.val (nI (errE l b w))) :=
  (ext_hit _).trans (tabOf_enc ij11 ⟨(l, b, w), ⟨hc0, hc1, hc2⟩⟩)
abbrev D12 := {q0 : Int × Int × Int × Int // True}
def enc12 (q0 : D12) : List C := [sl iC .no [(q0.1.1), (q0.1.2.1)], sl iC .no [(q0.1.2.2.1), (q0.1.2.2.2)]]
def out12 (q0 : D12) : C := .val (.int .i64 (cmpL [(q0.1.1), (q0.1.2.1)] [(q0.1.2.2.1), (q0.1.2.2.2)]))
noncomputable def pu12 : Nat → List C → Option C := Sx.ext pu11 54 (tabOf enc12 out12)
theorem nr12 (x : D12) : noRefs 0 (enc12 x) = true := by
  simp only [enc12, noRef_val, noRef_agg, noRef_tup, noRef_kp, noRef_sl, noRefs_cl, noRefs_cons, noRefs_nil, noRefs_app, Bool.and_self, Bool.and_true, noRef_yF]
theorem ij12 (x y : D12) (h : enc12 x = enc12 y) : out12 x = out12 y := by
  simp only [enc12, List.cons.injEq, C.val.injEq, C.agg.injEq, C.kp.injEq, str_inj, nI_inj, nU_inj, w8_inj, w32_inj, cl_inj, sl_inj, Value.int.injEq, Value.bool.injEq, true_and, and_true] at h; simp only [out12, h]
theorem ok12 {gl : Nat → C} (hgn : ∀ g, noRef 0 (gl g) = true)  (M : Nat) : CxOK (cxP gl M pu12) := CxOK.ext2 (N := 0) (ok11 hgn  0) nr12 fun q0 => fc54 (ok11 hgn  0) (by intros; (iterate 9 refine (ext_miss (by decide) _).trans ?_); apply hit2 <;> first | assumption | omega) ((q0.1.1)) ((q0.1.2.1)) ((q0.1.2.2.1)) ((q0.1.2.2.2))
theorem hit12 (a1 : Int) (a2 : Int) (b1 : Int) (b2 : Int)  : pu12 54 [sl iC .no [a1, a2], sl iC .no [b1, b2]] = some (.val (.int .i64 (cmpL [a1, a2] [b1, b2]))) :=
  (ext_hit _).trans (tabOf_enc ij12 ⟨(a1, a2, b1, b2), trivial⟩)
abbrev D13 := {q0 : Int × Int × Int × Int // True}
def enc13 (q0 : D13) : List C := [sl iC .no [(q0.1.1), (q0.1.2.1)], sl iC .no [(q0.1.2.2.1), (q0.1.2.2.2)]]
def out13 (q0 : D13) : C := .val (.bool (befI (q0.1.1) (q0.1.2.1) (q0.1.2.2.1) (q0.1.2.2.2)))
noncomputable def pu13 : Nat → List C → Option C := Sx.ext pu12 41 (tabOf enc13 out13)
theorem nr13 (x : D13) : noRefs 0 (enc13 x) = true := by
  simp only [enc13, noRef_val, noRef_agg, noRef_tup, noRef_kp, noRef_sl, noRefs_cl, noRefs_cons, noRefs_nil, noRefs_app, Bool.and_self, Bool.and_true, noRef_yF]
theorem ij13 (x y : D13) (h : enc13 x = enc13 y) : out13 x = out13 y := by
  simp only [enc13, List.cons.injEq, C.val.injEq, C.agg.injEq, C.kp.injEq, str_inj, nI_inj, nU_inj, w8_inj, w32_inj, cl_inj, sl_inj, Value.int.injEq, Value.bool.injEq, true_and, and_true] at h; simp only [out13, h]
theorem ok13 {gl : Nat → C} (hgn : ∀ g, noRef 0 (gl g) = true)  (M : Nat) : CxOK (cxP gl M pu13) := CxOK.ext2 (N := 0) (ok12 hgn  0) nr13 fun q0 => fc41 (ok12 hgn  0) (by intros; apply hit12 <;> first | assumption | omega) ((q0.1.1)) ((q0.1.2.1)) ((q0.1.2.2.1)) ((q0.1.2.2.2))
theorem hit13 (a1 : Int) (a2 : Int) (b1 : Int) (b2 : Int)  : pu13 41 [sl iC .no [a1, a2], sl iC .no [b1, b2]] = some (.val (.bool (befI a1 a2 b1 b2))) :=
  (ext_hit _).trans (tabOf_enc ij13 ⟨(a1, a2, b1, b2), trivial⟩)
abbrev D14 := {q0 : (List Int) × Int // (LI (q0.1))}
def enc14 (q0 : D14) : List C := [sl iC .no (q0.1.1), .val (.int .i64 (q0.1.2))]
def out14 (q0 : D14) : C := .val (.bool (wideW (q0.1.1) (q0.1.2)))
noncomputable def pu14 : Nat → List C → Option C := Sx.ext pu13 26 (tabOf enc14 out14)
theorem nr14 (x : D14) : noRefs 0 (enc14 x) = true := by
  simp only [enc14, noRef_val, noRef_agg, noRef_tup, noRef_kp, noRef_sl, noRefs_cl, noRefs_cons, noRefs_nil, noRefs_app, Bool.and_self, Bool.and_true, noRef_yF]
theorem ij14 (x y : D14) (h : enc14 x = enc14 y) : out14 x = out14 y := by
  simp only [enc14, List.cons.injEq, C.val.injEq, C.agg.injEq, C.kp.injEq, str_inj, nI_inj, nU_inj, w8_inj, w32_inj, cl_inj, sl_inj, Value.int.injEq, Value.bool.injEq, true_and, and_true] at h; simp only [out14, h]
theorem ok14 {gl : Nat → C} (hgn : ∀ g, noRef 0 (gl g) = true)  (M : Nat) : CxOK (cxP gl M pu14) := CxOK.ext2 (N := 0) (ok13 hgn  0) nr14 fun q0 => fc26 (ok13 hgn  0)  ((q0.1.1)) ((q0.1.2)) q0.2
theorem hit14 (l : List Int) (w : Int) (hc0 : LI l) : pu14 26 [sl iC .no l, .val (.int .i64 w)] = some (.val (.bool (wideW l w))) :=
  (ext_hit _).trans (tabOf_enc ij14 ⟨(l, w), hc0⟩)
abbrev D15 := {q0 : (List Int) × (List Int) // ((q0.1).length < 9223372036854775807)}
def enc15 (q0 : D15) : List C := [sl iC .no (q0.1.1), sl iC .no (q0.1.2)]
def out15 (q0 : D15) : C := .val (.bool (decide ((q0.1.1) = (q0.1.2))))
noncomputable def pu15 : Nat → List C → Option C := Sx.ext pu14 17 (tabOf enc15 out15)
theorem nr15 (x : D15) : noRefs 0 (enc15 x) = true := by
  simp only [enc15, noRef_val, noRef_agg, noRef_tup, noRef_kp, noRef_sl, noRefs_cl, noRefs_cons, noRefs_nil, noRefs_app, Bool.and_self, Bool.and_true, noRef_yF]
theorem ij15 (x y : D15) (h : enc15 x = enc15 y) : out15 x = out15 y := by
  simp only [enc15, List.cons.injEq, C.val.injEq, C.agg.injEq, C.kp.injEq, str_inj, nI_inj, nU_inj, w8_inj, w32_inj, cl_inj, sl_inj, Value.int.injEq, Value.bool.injEq, true_and, and_true] at h; simp only [out15, h]
theorem ok15 {gl : Nat → C} (hgn : ∀ g, noRef 0 (gl g) = true)  (M : Nat) : CxOK (cxP gl M pu15) := CxOK.ext2 (N := 0) (ok14 hgn  0) nr15 fun q0 => fc17 (ok14 hgn  0)  ((q0.1.1)) ((q0.1.2)) q0.2
theorem hit15 (x : List Int) (y : List Int) (hc0 : x.length < 9223372036854775807) : pu15 17 [sl iC .no x, sl iC .no y] = some (.val (.bool (decide (x = y)))) :=
  (ext_hit _).trans (tabOf_enc ij15 ⟨(x, y), hc0⟩)
abbrev D16 := {q0 : Bool × (List Int) × (List Int) × (List Int) × (List Int) × (List Int) × (List Int) // ((q0.1) = true → (q0.2.2.2.2.1) = []) ∧ ((q0.2.1).length < 9223372036854775807) ∧ ((q0.2.2.1).length < 9223372036854775807) ∧ ((q0.2.2.2.1).length < 9223372036854775807)}
def enc16 (q0 : D16) : List C := [.agg [sl iC .no (q0.1.2.1), sl iC .no (q0.1.2.2.1), sl iC .no (q0.1.2.2.2.1)], yF (q0.1.1) (q0.1.2.2.2.2.1) (q0.1.2.2.2.2.2.1) (q0.1.2.2.2.2.2.2)]
def out16 (q0 : D16) : C := .val (.bool (decide (((q0.1.2.1), (q0.1.2.2.1), (q0.1.2.2.2.1)) = ((q0.1.2.2.2.2.1), (q0.1.2.2.2.2.2.1), (q0.1.2.2.2.2.2.2)))))
noncomputable def pu16 : Nat → List C → Option C := Sx.ext pu15 15 (tabOf enc16 out16)
theorem nr16 (x : D16) : noRefs 0 (enc16 x) = true := by
  simp only [enc16, noRef_val, noRef_agg, noRef_tup, noRef_kp, noRef_sl, noRefs_cl, noRefs_cons, noRefs_nil, noRefs_app, Bool.and_self, Bool.and_true, noRef_yF]
theorem ij16 (x y : D16) (h : enc16 x = enc16 y) : out16 x = out16 y := by
  simp only [enc16, List.cons.injEq, C.agg.injEq, sl_inj, and_true] at h; obtain ⟨⟨h1, h2, h3⟩, h4⟩ := h; obtain ⟨g1, g2, g3⟩ := yF_inj h4 x.2.1 y.2.1; simp only [out16, h1, h2, h3, g1, g2, g3]
theorem ok16 {gl : Nat → C} (hgn : ∀ g, noRef 0 (gl g) = true)  (M : Nat) : CxOK (cxP gl M pu16) := CxOK.ext2 (N := 0) (ok15 hgn  0) nr16 fun q0 => fc15z (ok15 hgn  0) (by intros; apply hit15 <;> first | assumption | omega) ((q0.1.1)) ((q0.1.2.1)) ((q0.1.2.2.1)) ((q0.1.2.2.2.1)) ((q0.1.2.2.2.2.1)) ((q0.1.2.2.2.2.2.1)) ((q0.1.2.2.2.2.2.2)) q0.2.1 q0.2.2.1 q0.2.2.2.1 q0.2.2.2.2
theorem hit16 (z : Bool) (x1 : List Int) (x2 : List Int) (x3 : List Int) (y1 : List Int) (y2 : List Int) (y3 : List Int) (hc0 : z = true → y1 = []) (hc1 : x1.length < 9223372036854775807) (hc2 : x2.length < 9223372036854775807) (hc3 : x3.length < 9223372036854775807) : pu16 15 [.agg [sl iC .no x1, sl iC .no x2, sl iC .no x3], yF z y1 y2 y3] = some (.val (.bool (decide ((x1, x2, x3) = (y1, y2, y3))))) :=
  (ext_hit _).trans (tabOf_enc ij16 ⟨(z, x1, x2, x3, y1, y2, y3), ⟨hc0, hc1, hc2, hc3⟩⟩)
abbrev D17 := {q0 : (List Int) × (List Int) × (List Int) // True}
def enc17 (q0 : D17) : List C := [.agg [sl iC .no (q0.1.1), sl iC .no (q0.1.2.1), sl iC .no (q0.1.2.2)]]
def out17 (q0 : D17) : C := .agg [sl iC .no (q0.1.1), sl iC .no (q0.1.2.1), sl iC .no (q0.1.2.2)]
noncomputable def pu17 : Nat → List C → Option C := Sx.ext pu16 16 (tabOf enc17 out17)
theorem nr17 (x : D17) : noRefs 0 (enc17 x) = true := by
  simp only [enc17, noRef_val, noRef_agg, noRef_tup, noRef_kp, noRef_sl, noRefs_cl, noRefs_cons, noRefs_nil, noRefs_app, Bool.and_self, Bool.and_true, noRef_yF]
theorem ij17 (x y : D17) (h : enc17 x = enc17 y) : out17 x = out17 y := by
  simp only [enc17, List.cons.injEq, C.val.injEq, C.agg.injEq, C.kp.injEq, str_inj, nI_inj, nU_inj, w8_inj, w32_inj, cl_inj, sl_inj, Value.int.injEq, Value.bool.injEq, true_and, and_true] at h; simp only [out17, h]
theorem ok17 {gl : Nat → C} (hgn : ∀ g, noRef 0 (gl g) = true)  (M : Nat) : CxOK (cxP gl M pu17) := CxOK.ext2 (N := 0) (ok16 hgn  0) nr17 fun q0 => fc16 (ok16 hgn  0)  ((q0.1.1)) ((q0.1.2.1)) ((q0.1.2.2))
theorem hit17 (x1 : List Int) (x2 : List Int) (x3 : List Int)  : pu17 16 [.agg [sl iC .no x1, sl iC .no x2, sl iC .no x3]] = some (.agg [sl iC .no x1, sl iC .no x2, sl iC .no x3]) :=
  (ext_hit _).trans (tabOf_enc ij17 ⟨(x1, x2, x3), trivial⟩)
abbrev D18 := {q0 : (List Int) × (List Int) × (List Int) // True}
def enc18 (q0 : D18) : List C := [.agg [sl iC .no (q0.1.1), sl iC .no (q0.1.2.1), sl iC .no (q0.1.2.2)]]
def out18 (q0 : D18) : C := .agg [sl iC .no (q0.1.1), sl iC .no (q0.1.2.1), sl iC .no (q0.1.2.2)]
noncomputable def pu18 : Nat → List C → Option C := Sx.ext pu17 24 (tabOf enc18 out18)
theorem nr18 (x : D18) : noRefs 0 (enc18 x) = true := by
  simp only [enc18, noRef_val, noRef_agg, noRef_tup, noRef_kp, noRef_sl, noRefs_cl, noRefs_cons, noRefs_nil, noRefs_app, Bool.and_self, Bool.and_true, noRef_yF]
theorem ok18 {gl : Nat → C} (hgn : ∀ g, noRef 0 (gl g) = true)  (M : Nat) : CxOK (cxP gl M pu18) := CxOK.ext2 (N := 0) (ok17 hgn  0) nr18 fun q0 => fc24 (ok17 hgn  0)  ((q0.1.1)) ((q0.1.2.1)) ((q0.1.2.2))
abbrev D19 := {q0 : Int × Nat // (-9223372036854775808 ≤ (q0.1) ∧ (q0.1) ≤ 9223372036854775807 ∧ 0 < (q0.2) ∧ (q0.2) ≤ 9223372036854775807)}
def enc19 (q0 : D19) : List C := [.val (.int .i64 (q0.1.1)), .val (nI (q0.1.2))]
def out19 (q0 : D19) : C := .val (nI (aroundI (q0.1.1) (q0.1.2)))
noncomputable def pu19 : Nat → List C → Option C := Sx.ext pu18 30 (tabOf enc19 out19)
theorem nr19 (x : D19) : noRefs 0 (enc19 x) = true := by
  simp only [enc19, noRef_val, noRef_agg, noRef_tup, noRef_kp, noRef_sl, noRefs_cl, noRefs_cons, noRefs_nil, noRefs_app, Bool.and_self, Bool.and_true, noRef_yF]
theorem ij19 (x y : D19) (h : enc19 x = enc19 y) : out19 x = out19 y := by
  simp only [enc19, List.cons.injEq, C.val.injEq, C.agg.injEq, C.kp.injEq, str_inj, nI_inj, nU_inj, w8_inj, w32_inj, cl_inj, sl_inj, Value.int.injEq, Value.bool.injEq, true_and, and_true] at h; simp only [out19, h]
theorem ok19 {gl : Nat → C} (hgn : ∀ g, noRef 0 (gl g) = true)  (M : Nat) : CxOK (cxP gl M pu19) := CxOK.ext2 (N := 0) (ok18 hgn  0) nr19 fun q0 => fc30 (ok18 hgn  0)  ((q0.1.1)) ((q0.1.2)) q0.2
theorem hit19 (n : Int) (m : Nat) (hc0 : -9223372036854775808 ≤ n ∧ n ≤ 9223372036854775807 ∧ 0 < m ∧ m ≤ 9223372036854775807) : pu19 30 [.val (.int .i64 n), .val (nI m)] = some (.val (nI (aroundI n m))) :=
  (ext_hit _).trans (tabOf_enc ij19 ⟨(n, m), hc0⟩)
abbrev D20 := {q0 : Int × Int // (-9223372036854775808 ≤ (q0.1) ∧ (q0.1) ≤ 9223372036854775807) ∧ (-9223372036854775808 ≤ (q0.2) ∧ (q0.2) ≤ 9223372036854775807)}
def enc20 (q0 : D20) : List C := [.val (.int .i64 (q0.1.1)), .val (.int .i64 (q0.1.2))]
def out20 (q0 : D20) : C := .tup [.val (.int .i64 (pageB (q0.1.1))), .val (.int .i64 (pageW (q0.1.2)))]
noncomputable def pu20 : Nat → List C → Option C := Sx.ext pu19 9 (tabOf enc20 out20)
theorem nr20 (x : D20) : noRefs 0 (enc20 x) = true := by
  simp only [enc20, noRef_val, noRef_agg, noRef_tup, noRef_kp, noRef_sl, noRefs_cl, noRefs_cons, noRefs_nil, noRefs_app, Bool.and_self, Bool.and_true, noRef_yF]
theorem ij20 (x y : D20) (h : enc20 x = enc20 y) : out20 x = out20 y := by
  simp only [enc20, List.cons.injEq, C.val.injEq, C.agg.injEq, C.kp.injEq, str_inj, nI_inj, nU_inj, w8_inj, w32_inj, cl_inj, sl_inj, Value.int.injEq, Value.bool.injEq, true_and, and_true] at h; simp only [out20, h]
theorem ok20 {gl : Nat → C} (hgn : ∀ g, noRef 0 (gl g) = true)  (M : Nat) : CxOK (cxP gl M pu20) := CxOK.ext2 (N := 0) (ok19 hgn  0) nr20 fun q0 => fc9 (ok19 hgn  0) (by intros; apply hit19 <;> first | assumption | omega) ((q0.1.1)) ((q0.1.2)) q0.2.1 q0.2.2
theorem hit20 (b : Int) (w : Int) (hc0 : -9223372036854775808 ≤ b ∧ b ≤ 9223372036854775807) (hc1 : -9223372036854775808 ≤ w ∧ w ≤ 9223372036854775807) : pu20 9 [.val (.int .i64 b), .val (.int .i64 w)] = some (.tup [.val (.int .i64 (pageB b)), .val (.int .i64 (pageW w))]) :=
  (ext_hit _).trans (tabOf_enc ij20 ⟨(b, w), ⟨hc0, hc1⟩⟩)
abbrev D21 := {q0 : (List Int) // (LI (q0))}
def enc21 (q0 : D21) : List C := [sl iC .no (q0.1)]
def out21 (q0 : D21) : C := sl iC (.own 1) (widI (q0.1))
noncomputable def pu21 : Nat → List C → Option C := Sx.ext pu20 10 (tabOf enc21 out21)
theorem nr21 (x : D21) : noRefs 0 (enc21 x) = true := by
  simp only [enc21, noRef_val, noRef_agg, noRef_tup, noRef_kp, noRef_sl, noRefs_cl, noRefs_cons, noRefs_nil, noRefs_app, Bool.and_self, Bool.and_true, noRef_yF]
theorem ij21 (x y : D21) (h : enc21 x = enc21 y) : out21 x = out21 y := by
  simp only [enc21, List.cons.injEq, C.val.injEq, C.agg.injEq, C.kp.injEq, str_inj, nI_inj, nU_inj, w8_inj, w32_inj, cl_inj, sl_inj, Value.int.injEq, Value.bool.injEq, true_and, and_true] at h; simp only [out21, h]
theorem ok21 {gl : Nat → C} (hgn : ∀ g, noRef 0 (gl g) = true)  (M : Nat) : CxOK (cxP gl M pu21) := CxOK.ext2 (N := 0) (ok20 hgn  0) nr21 fun q0 => fc10 (ok20 hgn  0) (by intros; (iterate 1 refine (ext_miss (by decide) _).trans ?_); apply hit19 <;> first | assumption | omega) ((q0.1)) q0.2
theorem hit21 (l : List Int) (hc0 : LI l) : pu21 10 [sl iC .no l] = some (sl iC (.own 1) (widI l)) :=
  (ext_hit _).trans (tabOf_enc ij21 ⟨(l), hc0⟩)
abbrev D22 := {q0 : Int × Int × Int × Int // True}
def enc22 (q0 : D22) : List C := [.val (.int .i64 (q0.1.1)), .val (.int .i64 (q0.1.2.1)), .val (.int .i64 (q0.1.2.2.1)), .val (.int .i64 (q0.1.2.2.2))]
def out22 (q0 : D22) : C := .val (.bool (befI (q0.1.1) (q0.1.2.1) (q0.1.2.2.1) (q0.1.2.2.2)))
noncomputable def pu22 : Nat → List C → Option C := Sx.ext pu21 28 (tabOf enc22 out22)
theorem nr22 (x : D22) : noRefs 0 (enc22 x) = true := by
  simp only [enc22, noRef_val, noRef_agg, noRef_tup, noRef_kp, noRef_sl, noRefs_cl, noRefs_cons, noRefs_nil, noRefs_app, Bool.and_self, Bool.and_true, noRef_yF]
theorem ok22 {gl : Nat → C} (hgn : ∀ g, noRef 0 (gl g) = true)  (M : Nat) : CxOK (cxP gl M pu22) := CxOK.ext2 (N := 0) (ok21 hgn  0) nr22 fun q0 => fc28 (ok21 hgn  0)  ((q0.1.1)) ((q0.1.2.1)) ((q0.1.2.2.1)) ((q0.1.2.2.2))
abbrev D23 := {q0 : (List Int) × (List Int) // (LI (q0.1)) ∧ (LI (q0.2))}
def enc23 (q0 : D23) : List C := [sl iC .no (q0.1.1), sl iC .no (q0.1.2)]
def out23 (q0 : D23) : C := .val (.bool (smaL (q0.1.1) (q0.1.2)))
noncomputable def pu23 : Nat → List C → Option C := Sx.ext pu22 29 (tabOf enc23 out23)
theorem nr23 (x : D23) : noRefs 0 (enc23 x) = true := by
  simp only [enc23, noRef_val, noRef_agg, noRef_tup, noRef_kp, noRef_sl, noRefs_cl, noRefs_cons, noRefs_nil, noRefs_app, Bool.and_self, Bool.and_true, noRef_yF]
theorem ok23 {gl : Nat → C} (hgn : ∀ g, noRef 0 (gl g) = true)  (M : Nat) : CxOK (cxP gl M pu23) := CxOK.ext2 (N := 0) (ok22 hgn  0) nr23 fun q0 => fc29 (ok22 hgn  0)  ((q0.1.1)) ((q0.1.2)) q0.2.1 q0.2.2
abbrev D24 := {q0 : Nat × Int // ((q0.1) ≤ 1000000) ∧ (-9223372036854775808 ≤ (q0.2) ∧ (q0.2) ≤ 9223372036854775807)}
def enc24 (q0 : D24) : List C := [.val (nI (q0.1.1)), .val (.int .i64 (q0.1.2))]
def out24 (q0 : D24) : C := sl iC (.own 1) (endsI (q0.1.1) (q0.1.2))
noncomputable def pu24 : Nat → List C → Option C := Sx.ext pu23 19 (tabOf enc24 out24)
theorem nr24 (x : D24) : noRefs 0 (enc24 x) = true := by
  simp only [enc24, noRef_val, noRef_agg, noRef_tup, noRef_kp, noRef_sl, noRefs_cl, noRefs_cons, noRefs_nil, noRefs_app, Bool.and_self, Bool.and_true, noRef_yF]
theorem ok24 {gl : Nat → C} (hgn : ∀ g, noRef 0 (gl g) = true)  (M : Nat) : CxOK (cxP gl M pu24) := CxOK.ext2 (N := 0) (ok23 hgn  0) nr24 fun q0 => fc19 (ok23 hgn  0)  ((q0.1.1)) ((q0.1.2)) q0.2.1 q0.2.2
abbrev D25 := {q0 : (List Int) × Int × Int × (List Int) // (LI (q0.1)) ∧ (-9223372036854775808 ≤ (q0.2.1) ∧ (q0.2.1) ≤ 9223372036854775807) ∧ (-9223372036854775808 ≤ (q0.2.2.1) ∧ (q0.2.2.1) ≤ 9223372036854775807) ∧ (LI (q0.2.2.2))}
def enc25 (q0 : D25) : List C := [sl iC .no (q0.1.1), .val (.int .i64 (q0.1.2.1)), .val (.int .i64 (q0.1.2.2.1)), sl iC .no (q0.1.2.2.2)]
def out25 (q0 : D25) : C := .tup [.val (nI (costT (q0.1.1) (q0.1.2.1) (q0.1.2.2.1) (q0.1.2.2.2)).1), .val (.int .i64 (costT (q0.1.1) (q0.1.2.1) (q0.1.2.2.1) (q0.1.2.2.2)).2.1), .val (nI (costT (q0.1.1) (q0.1.2.1) (q0.1.2.2.1) (q0.1.2.2.2)).2.2)]
noncomputable def pu25 : Nat → List C → Option C := Sx.ext pu24 21 (tabOf enc25 out25)
theorem nr25 (x : D25) : noRefs 0 (enc25 x) = true := by
  simp only [enc25, noRef_val, noRef_agg, noRef_tup, noRef_kp, noRef_sl, noRefs_cl, noRefs_cons, noRefs_nil, noRefs_app, Bool.and_self, Bool.and_true, noRef_yF]
theorem ij25 (x y : D25) (h : enc25 x = enc25 y) : out25 x = out25 y := by
  simp only [enc25, List.cons.injEq, C.val.injEq, C.agg.injEq, C.kp.injEq, str_inj, nI_inj, nU_inj, w8_inj, w32_inj, cl_inj, sl_inj, Value.int.injEq, Value.bool.injEq, true_and, and_true] at h; simp only [out25, h]
theorem ok25 {gl : Nat → C} (hgn : ∀ g, noRef 0 (gl g) = true)  (M : Nat) : CxOK (cxP gl M pu25) := CxOK.ext2 (N := 0) (ok24 hgn  0) nr25 fun q0 => fc21 (ok24 hgn  0) (by intros; (iterate 16 refine (ext_miss (by decide) _).trans ?_); rename_i l b w h0 h1 h2 hF; exact (hit8 l b w h0 h1 h2).trans (congrArg some (if_pos (errE_0.2 hF)))) (by intros; (iterate 16 refine (ext_miss (by decide) _).trans ?_); rename_i l b w h0 h1 h2 hE; exact (hit8 l b w h0 h1 h2).trans (congrArg some (if_neg hE))) (by intros; (iterate 19 refine (ext_miss (by decide) _).trans ?_); apply hit5 <;> first | assumption | omega) (by intros; (iterate 18 refine (ext_miss (by decide) _).trans ?_); apply hit6 <;> first | assumption | omega) (by intros; (iterate 17 refine (ext_miss (by decide) _).trans ?_); apply hit7 <;> first | assumption | omega) ((q0.1.1)) ((q0.1.2.1)) ((q0.1.2.2.1)) q0.2.1 q0.2.2.1 q0.2.2.2.1 ((q0.1.2.2.2)) q0.2.2.2.2
theorem hit25 (l : List Int) (b : Int) (w : Int) (e : List Int) (hc0 : LI l) (hc1 : -9223372036854775808 ≤ b ∧ b ≤ 9223372036854775807) (hc2 : -9223372036854775808 ≤ w ∧ w ≤ 9223372036854775807) (hc3 : LI e) : pu25 21 [sl iC .no l, .val (.int .i64 b), .val (.int .i64 w), sl iC .no e] = some (.tup [.val (nI (costT l b w e).1), .val (.int .i64 (costT l b w e).2.1), .val (nI (costT l b w e).2.2)]) :=
  (ext_hit _).trans (tabOf_enc ij25 ⟨(l, b, w, e), ⟨hc0, hc1, hc2, hc3⟩⟩)
abbrev D26 := {q0 : (List Int) × Int × Int × (List Int) // (LI (q0.1)) ∧ (-9223372036854775808 ≤ (q0.2.1) ∧ (q0.2.1) ≤ 9223372036854775807) ∧ (-9223372036854775808 ≤ (q0.2.2.1) ∧ (q0.2.2.1) ≤ 9223372036854775807) ∧ (LI (q0.2.2.2))}
def enc26 (q0 : D26) : List C := [sl iC .no (q0.1.1), .val (.int .i64 (q0.1.2.1)), .val (.int .i64 (q0.1.2.2.1)), sl iC .no (q0.1.2.2.2)]
def out26 (q0 : D26) : C := .tup [.val (nI (costT (q0.1.1) (q0.1.2.1) (q0.1.2.2.1) (q0.1.2.2.2)).1), .val (.int .i64 (costT (q0.1.1) (q0.1.2.1) (q0.1.2.2.1) (q0.1.2.2.2)).2.1), .val (nI (costT (q0.1.1) (q0.1.2.1) (q0.1.2.2.1) (q0.1.2.2.2)).2.2)]
noncomputable def pu26 : Nat → List C → Option C := Sx.ext pu25 22 (tabOf enc26 out26)
theorem nr26 (x : D26) : noRefs 0 (enc26 x) = true := by
  simp only [enc26, noRef_val, noRef_agg, noRef_tup, noRef_kp, noRef_sl, noRefs_cl, noRefs_cons, noRefs_nil, noRefs_app, Bool.and_self, Bool.and_true, noRef_yF]
theorem ij26 (x y : D26) (h : enc26 x = enc26 y) : out26 x = out26 y := by
  simp only [enc26, List.cons.injEq, C.val.injEq, C.agg.injEq, C.kp.injEq, str_inj, nI_inj, nU_inj, w8_inj, w32_inj, cl_inj, sl_inj, Value.int.injEq, Value.bool.injEq, true_and, and_true] at h; simp only [out26, h]
theorem ok26 {gl : Nat → C} (hgn : ∀ g, noRef 0 (gl g) = true)  (M : Nat) : CxOK (cxP gl M pu26) := CxOK.ext2 (N := 0) (ok25 hgn  0) nr26 fun q0 => fc22 (ok25 hgn  0) (by intros; (iterate 14 refine (ext_miss (by decide) _).trans ?_); apply hit11 <;> first | assumption | omega) (by intros; (iterate 16 refine (ext_miss (by decide) _).trans ?_); apply hit9 <;> first | assumption | omega) (by intros; (iterate 15 refine (ext_miss (by decide) _).trans ?_); apply hit10 <;> first | assumption | omega) ((q0.1.1)) ((q0.1.2.1)) ((q0.1.2.2.1)) q0.2.1 q0.2.2.1 q0.2.2.2.1 ((q0.1.2.2.2)) q0.2.2.2.2
theorem hit26 (l : List Int) (b : Int) (w : Int) (e : List Int) (hc0 : LI l) (hc1 : -9223372036854775808 ≤ b ∧ b ≤ 9223372036854775807) (hc2 : -9223372036854775808 ≤ w ∧ w ≤ 9223372036854775807) (hc3 : LI e) : pu26 22 [sl iC .no l, .val (.int .i64 b), .val (.int .i64 w), sl iC .no e] = some (.tup [.val (nI (costT l b w e).1), .val (.int .i64 (costT l b w e).2.1), .val (nI (costT l b w e).2.2)]) :=
  (ext_hit _).trans (tabOf_enc ij26 ⟨(l, b, w, e), ⟨hc0, hc1, hc2, hc3⟩⟩)
abbrev D27 := {q0 : (List Int) × Int × Int // (LI (q0.1)) ∧ (-9223372036854775808 ≤ (q0.2.1) ∧ (q0.2.1) ≤ 9223372036854775807) ∧ (-9223372036854775808 ≤ (q0.2.2) ∧ (q0.2.2) ≤ 9223372036854775807)}
def enc27 (q0 : D27) : List C := [sl iC .no (q0.1.1), .val (.int .i64 (q0.1.2.1)), .val (.int .i64 (q0.1.2.2))]
def out27 (q0 : D27) : C := .tup [sl iC .no (greT (q0.1.1) (q0.1.2.1) (q0.1.2.2)).1, .val (nI (greT (q0.1.1) (q0.1.2.1) (q0.1.2.2)).2)]
noncomputable def pu27 : Nat → List C → Option C := Sx.ext pu26 13 (tabOf enc27 out27)
theorem nr27 (x : D27) : noRefs 0 (enc27 x) = true := by
  simp only [enc27, noRef_val, noRef_agg, noRef_tup, noRef_kp, noRef_sl, noRefs_cl, noRefs_cons, noRefs_nil, noRefs_app, Bool.and_self, Bool.and_true, noRef_yF]
theorem ij27 (x y : D27) (h : enc27 x = enc27 y) : out27 x = out27 y := by
  simp only [enc27, List.cons.injEq, C.val.injEq, C.agg.injEq, C.kp.injEq, str_inj, nI_inj, nU_inj, w8_inj, w32_inj, cl_inj, sl_inj, Value.int.injEq, Value.bool.injEq, true_and, and_true] at h; simp only [out27, h]
theorem ok27 {gl : Nat → C} (hgn : ∀ g, noRef 0 (gl g) = true)  (M : Nat) : CxOK (cxP gl M pu27) := CxOK.ext2 (N := 0) (ok26 hgn  0) nr27 fun q0 => fc13 (ok26 hgn  0) (by intros; (iterate 18 refine (ext_miss (by decide) _).trans ?_); rename_i l b w h0 h1 h2 hF; exact (hit8 l b w h0 h1 h2).trans (congrArg some (if_pos (errE_0.2 hF)))) (by intros; (iterate 18 refine (ext_miss (by decide) _).trans ?_); rename_i l b w h0 h1 h2 hE; exact (hit8 l b w h0 h1 h2).trans (congrArg some (if_neg hE))) (by intros; (iterate 21 refine (ext_miss (by decide) _).trans ?_); apply hit5 <;> first | assumption | omega) (by intros; (iterate 20 refine (ext_miss (by decide) _).trans ?_); apply hit6 <;> first | assumption | omega) ((q0.1.1)) ((q0.1.2.1)) ((q0.1.2.2)) q0.2.1 q0.2.2.1 q0.2.2.2
theorem hit27 (l : List Int) (b : Int) (w : Int) (hc0 : LI l) (hc1 : -9223372036854775808 ≤ b ∧ b ≤ 9223372036854775807) (hc2 : -9223372036854775808 ≤ w ∧ w ≤ 9223372036854775807) : pu27 13 [sl iC .no l, .val (.int .i64 b), .val (.int .i64 w)] = some (.tup [sl iC .no (greT l b w).1, .val (nI (greT l b w).2)]) :=
  (ext_hit _).trans (tabOf_enc ij27 ⟨(l, b, w), ⟨hc0, hc1, hc2⟩⟩)
abbrev D28 := {q0 : (List Int) × Int × Int // (LI (q0.1)) ∧ (-9223372036854775808 ≤ (q0.2.1) ∧ (q0.2.1) ≤ 9223372036854775807) ∧ (-9223372036854775808 ≤ (q0.2.2) ∧ (q0.2.2) ≤ 9223372036854775807)}
def enc28 (q0 : D28) : List C := [sl iC .no (q0.1.1), .val (.int .i64 (q0.1.2.1)), .val (.int .i64 (q0.1.2.2))]
def out28 (q0 : D28) : C := .tup [sl iC .no (greT (q0.1.1) (q0.1.2.1) (q0.1.2.2)).1, .val (nI (greT (q0.1.1) (q0.1.2.1) (q0.1.2.2)).2)]
noncomputable def pu28 : Nat → List C → Option C := Sx.ext pu27 14 (tabOf enc28 out28)
theorem nr28 (x : D28) : noRefs 0 (enc28 x) = true := by
  simp only [enc28, noRef_val, noRef_agg, noRef_tup, noRef_kp, noRef_sl, noRefs_cl, noRefs_cons, noRefs_nil, noRefs_app, Bool.and_self, Bool.and_true, noRef_yF]
theorem ok28 {gl : Nat → C} (hgn : ∀ g, noRef 0 (gl g) = true)  (M : Nat) : CxOK (cxP gl M pu28) := CxOK.ext2 (N := 0) (ok27 hgn  0) nr28 fun q0 => fc14 (ok27 hgn  0) (by intros; (iterate 13 refine (ext_miss (by decide) _).trans ?_); apply hit14 <;> first | assumption | omega) (by intros; (iterate 16 refine (ext_miss (by decide) _).trans ?_); apply hit11 <;> first | assumption | omega) (by intros; (iterate 18 refine (ext_miss (by decide) _).trans ?_); apply hit9 <;> first | assumption | omega) ((q0.1.1)) ((q0.1.2.1)) ((q0.1.2.2)) q0.2.1 q0.2.2.1 q0.2.2.2
abbrev D29 := {q0 : (List Int) × Int × Int × (List Int) × (List Int) × (List Int) // (LI (q0.1)) ∧ (-9223372036854775808 ≤ (q0.2.1) ∧ (q0.2.1) ≤ 9223372036854775807) ∧ (-9223372036854775808 ≤ (q0.2.2.1) ∧ (q0.2.2.1) ≤ 9223372036854775807) ∧ (LI (q0.2.2.2.1)) ∧ (LI (q0.2.2.2.2.1)) ∧ (LI (q0.2.2.2.2.2))}
def enc29 (q0 : D29) : List C := [sl iC .no (q0.1.1), .val (.int .i64 (q0.1.2.1)), .val (.int .i64 (q0.1.2.2.1)), .agg [sl iC .no (q0.1.2.2.2.1), sl iC .no (q0.1.2.2.2.2.1), sl iC .no (q0.1.2.2.2.2.2)]]
def out29 (q0 : D29) : C := .val (nI (chkT (q0.1.1) (q0.1.2.1) (q0.1.2.2.1) (q0.1.2.2.2.1) (q0.1.2.2.2.2.1) (q0.1.2.2.2.2.2)))
noncomputable def pu29 : Nat → List C → Option C := Sx.ext pu28 23 (tabOf enc29 out29)
theorem nr29 (x : D29) : noRefs 0 (enc29 x) = true := by
  simp only [enc29, noRef_val, noRef_agg, noRef_tup, noRef_kp, noRef_sl, noRefs_cl, noRefs_cons, noRefs_nil, noRefs_app, Bool.and_self, Bool.and_true, noRef_yF]
theorem ij29 (x y : D29) (h : enc29 x = enc29 y) : out29 x = out29 y := by
  simp only [enc29, List.cons.injEq, C.val.injEq, C.agg.injEq, C.kp.injEq, str_inj, nI_inj, nU_inj, w8_inj, w32_inj, cl_inj, sl_inj, Value.int.injEq, Value.bool.injEq, true_and, and_true] at h; simp only [out29, h]
theorem ok29 {gl : Nat → C} (hgn : ∀ g, noRef 0 (gl g) = true)  (M : Nat) : CxOK (cxP gl M pu29) := CxOK.ext2 (N := 0) (ok28 hgn  0) nr29 fun q0 => fc23 (ok28 hgn  0) (by intros; (iterate 20 refine (ext_miss (by decide) _).trans ?_); rename_i l b w h0 h1 h2 hF; exact (hit8 l b w h0 h1 h2).trans (congrArg some (if_pos (errE_0.2 hF)))) (by intros; (iterate 20 refine (ext_miss (by decide) _).trans ?_); rename_i l b w h0 h1 h2 hE; exact (hit8 l b w h0 h1 h2).trans (congrArg some (if_neg hE))) (by intros; (iterate 23 refine (ext_miss (by decide) _).trans ?_); apply hit5 <;> first | assumption | omega) (by intros; (iterate 22 refine (ext_miss (by decide) _).trans ?_); apply hit6 <;> first | assumption | omega) (by intros; (iterate 21 refine (ext_miss (by decide) _).trans ?_); apply hit7 <;> first | assumption | omega) (by intros; (iterate 3 refine (ext_miss (by decide) _).trans ?_); apply hit25 <;> first | assumption | omega) (by intros; (iterate 15 refine (ext_miss (by decide) _).trans ?_); apply hit13 <;> first | assumption | omega) ((q0.1.1)) ((q0.1.2.1)) ((q0.1.2.2.1)) q0.2.1 q0.2.2.1 q0.2.2.2.1 ((q0.1.2.2.2.1)) ((q0.1.2.2.2.2.1)) ((q0.1.2.2.2.2.2)) q0.2.2.2.2.1 q0.2.2.2.2.2.1 q0.2.2.2.2.2.2
theorem hit29 (l : List Int) (b : Int) (w : Int) (E : List Int) (L : List Int) (K : List Int) (hc0 : LI l) (hc1 : -9223372036854775808 ≤ b ∧ b ≤ 9223372036854775807) (hc2 : -9223372036854775808 ≤ w ∧ w ≤ 9223372036854775807) (hc3 : LI E) (hc4 : LI L) (hc5 : LI K) : pu29 23 [sl iC .no l, .val (.int .i64 b), .val (.int .i64 w), .agg [sl iC .no E, sl iC .no L, sl iC .no K]] = some (.val (nI (chkT l b w E L K))) :=
  (ext_hit _).trans (tabOf_enc ij29 ⟨(l, b, w, E, L, K), ⟨hc0, hc1, hc2, hc3, hc4, hc5⟩⟩)
abbrev D30 := {q0 : (List Int) × Int × Int × (List Int) × (List Int) × (List Int) // (LI (q0.1)) ∧ (LI (q0.2.2.2.2.1)) ∧ (LI (q0.2.2.2.2.2)) ∧ (Fine (q0.1) (q0.2.1) (q0.2.2.1))}
def enc30 (q0 : D30) : List C := [sl iC .no (q0.1.1), .val (.int .i64 (q0.1.2.1)), .val (.int .i64 (q0.1.2.2.1)), .agg [sl iC .no (q0.1.2.2.2.1), sl iC .no (q0.1.2.2.2.2.1), sl iC .no (q0.1.2.2.2.2.2)]]
def out30 (q0 : D30) : C := .val (.bool (decide (shwP (q0.1.1) (q0.1.2.1) (q0.1.2.2.1) (q0.1.2.2.2.2.1) (q0.1.2.2.2.2.2))))
noncomputable def pu30 : Nat → List C → Option C := Sx.ext pu29 44 (tabOf enc30 out30)
theorem nr30 (x : D30) : noRefs 0 (enc30 x) = true := by
  simp only [enc30, noRef_val, noRef_agg, noRef_tup, noRef_kp, noRef_sl, noRefs_cl, noRefs_cons, noRefs_nil, noRefs_app, Bool.and_self, Bool.and_true, noRef_yF]
theorem ij30 (x y : D30) (h : enc30 x = enc30 y) : out30 x = out30 y := by
  simp only [enc30, List.cons.injEq, C.val.injEq, C.agg.injEq, C.kp.injEq, str_inj, nI_inj, nU_inj, w8_inj, w32_inj, cl_inj, sl_inj, Value.int.injEq, Value.bool.injEq, true_and, and_true] at h; simp only [out30, h]
theorem ok30 {gl : Nat → C} (hgn : ∀ g, noRef 0 (gl g) = true)  (M : Nat) : CxOK (cxP gl M pu30) := CxOK.ext2 (N := 0) (ok29 hgn  0) nr30 fun q0 => fc44 (ok29 hgn  0) (by intros; (iterate 20 refine (ext_miss (by decide) _).trans ?_); apply hit9 <;> first | assumption | omega) (by intros; (iterate 19 refine (ext_miss (by decide) _).trans ?_); apply hit10 <;> first | assumption | omega) ((q0.1.1)) ((q0.1.2.1)) ((q0.1.2.2.1)) ((q0.1.2.2.2.1)) ((q0.1.2.2.2.2.1)) ((q0.1.2.2.2.2.2)) q0.2.1 q0.2.2.1 q0.2.2.2.1 q0.2.2.2.2
theorem hit30 (l : List Int) (b : Int) (w : Int) (E : List Int) (L : List Int) (K : List Int) (hc0 : LI l) (hc1 : LI L) (hc2 : LI K) (hc3 : Fine l b w) : pu30 44 [sl iC .no l, .val (.int .i64 b), .val (.int .i64 w), .agg [sl iC .no E, sl iC .no L, sl iC .no K]] = some (.val (.bool (decide (shwP l b w L K)))) :=
  (ext_hit _).trans (tabOf_enc ij30 ⟨(l, b, w, E, L, K), ⟨hc0, hc1, hc2, hc3⟩⟩)
abbrev D31 := {q0 : (List Int) × Int × Int × (List Int) × (List Int) × (List Int) // (LI (q0.1)) ∧ (-9223372036854775808 ≤ (q0.2.1) ∧ (q0.2.1) ≤ 9223372036854775807) ∧ (-9223372036854775808 ≤ (q0.2.2.1) ∧ (q0.2.2.1) ≤ 9223372036854775807) ∧ (LI (q0.2.2.2.1)) ∧ (LI (q0.2.2.2.2.1)) ∧ (LI (q0.2.2.2.2.2))}
def enc31 (q0 : D31) : List C := [sl iC .no (q0.1.1), .val (.int .i64 (q0.1.2.1)), .val (.int .i64 (q0.1.2.2.1)), .agg [sl iC .no (q0.1.2.2.2.1), sl iC .no (q0.1.2.2.2.2.1), sl iC .no (q0.1.2.2.2.2.2)]]
def out31 (q0 : D31) : C := .val (nI (chkT (q0.1.1) (q0.1.2.1) (q0.1.2.2.1) (q0.1.2.2.2.1) (q0.1.2.2.2.2.1) (q0.1.2.2.2.2.2)))
noncomputable def pu31 : Nat → List C → Option C := Sx.ext pu30 25 (tabOf enc31 out31)
theorem nr31 (x : D31) : noRefs 0 (enc31 x) = true := by
  simp only [enc31, noRef_val, noRef_agg, noRef_tup, noRef_kp, noRef_sl, noRefs_cl, noRefs_cons, noRefs_nil, noRefs_app, Bool.and_self, Bool.and_true, noRef_yF]
theorem ok31 {gl : Nat → C} (hgn : ∀ g, noRef 0 (gl g) = true)  (M : Nat) : CxOK (cxP gl M pu31) := CxOK.ext2 (N := 0) (ok30 hgn  0) nr31 fun q0 => fc25 (ok30 hgn  0) (by intros; (iterate 19 refine (ext_miss (by decide) _).trans ?_); apply hit11 <;> first | assumption | omega) (by intros; (iterate 4 refine (ext_miss (by decide) _).trans ?_); apply hit26 <;> first | assumption | omega) (by intros; apply hit30 <;> first | assumption | omega) ((q0.1.1)) ((q0.1.2.1)) ((q0.1.2.2.1)) q0.2.1 q0.2.2.1 q0.2.2.2.1 ((q0.1.2.2.2.1)) ((q0.1.2.2.2.2.1)) ((q0.1.2.2.2.2.2)) q0.2.2.2.2.1 q0.2.2.2.2.2.1 q0.2.2.2.2.2.2
abbrev D32 := {q0 : (List Int) × (List Int) × (List Int) × Int × Int // (LI (q0.1)) ∧ (LI (q0.2.1)) ∧ (LI (q0.2.2.1)) ∧ ((q0.1).length ≤ 1000000) ∧ ((q0.2.1).length ≤ 1000000) ∧ ((q0.2.2.1).length ≤ 1000000) ∧ (-9223372036854775808 ≤ (q0.2.2.2.1) ∧ (q0.2.2.2.1) ≤ 9223372036854775807) ∧ (-9223372036854775808 ≤ (q0.2.2.2.2) ∧ (q0.2.2.2.2) ≤ 9223372036854775807)}
def enc32 (q0 : D32) : List C := [.agg [sl iC .no (q0.1.1), sl iC .no (q0.1.2.1), sl iC .no (q0.1.2.2.1)], .val (.int .i64 (q0.1.2.2.2.1)), .val (.int .i64 (q0.1.2.2.2.2))]
def out32 (q0 : D32) : C := .agg [sl iC .no (bentT (q0.1.1) (q0.1.2.1) (q0.1.2.2.1) (q0.1.2.2.2.1) (q0.1.2.2.2.2)).1, sl iC .no (bentT (q0.1.1) (q0.1.2.1) (q0.1.2.2.1) (q0.1.2.2.2.1) (q0.1.2.2.2.2)).2.1, sl iC .no (bentT (q0.1.1) (q0.1.2.1) (q0.1.2.2.1) (q0.1.2.2.2.1) (q0.1.2.2.2.2)).2.2]
noncomputable def pu32 : Nat → List C → Option C := Sx.ext pu31 20 (tabOf enc32 out32)
theorem nr32 (x : D32) : noRefs 0 (enc32 x) = true := by
  simp only [enc32, noRef_val, noRef_agg, noRef_tup, noRef_kp, noRef_sl, noRefs_cl, noRefs_cons, noRefs_nil, noRefs_app, Bool.and_self, Bool.and_true, noRef_yF]
theorem ok32 {gl : Nat → C} (hgn : ∀ g, noRef 0 (gl g) = true)  (M : Nat) : CxOK (cxP gl M pu32) := CxOK.ext2 (N := 0) (ok31 hgn  0) nr32 fun q0 => fc20 (ok31 hgn  0) (by intros; (iterate 12 refine (ext_miss (by decide) _).trans ?_); apply hit19 <;> first | assumption | omega) ((q0.1.1)) ((q0.1.2.1)) ((q0.1.2.2.1)) ((q0.1.2.2.2.1)) ((q0.1.2.2.2.2)) q0.2.1 q0.2.2.1 q0.2.2.2.1 q0.2.2.2.2.1 q0.2.2.2.2.2.1 q0.2.2.2.2.2.2.1 q0.2.2.2.2.2.2.2.1 q0.2.2.2.2.2.2.2.2
abbrev D33 := {q0 : (List Int) × Int × Int // (LI (q0.1)) ∧ (-9223372036854775808 ≤ (q0.2.1) ∧ (q0.2.1) ≤ 9223372036854775807) ∧ (-9223372036854775808 ≤ (q0.2.2) ∧ (q0.2.2) ≤ 9223372036854775807)}
def enc33 (q0 : D33) : List C := [sl iC .no (q0.1.1), .val (.int .i64 (q0.1.2.1)), .val (.int .i64 (q0.1.2.2))]
def out33 (q0 : D33) : C := .tup [.agg [sl iC .no (fillT (q0.1.1) (q0.1.2.1) (q0.1.2.2)).1, sl iC .no (fillT (q0.1.1) (q0.1.2.1) (q0.1.2.2)).2.1, sl iC .no (fillT (q0.1.1) (q0.1.2.1) (q0.1.2.2)).2.2.1], .val (nI (fillT (q0.1.1) (q0.1.2.1) (q0.1.2.2)).2.2.2)]
noncomputable def pu33 : Nat → List C → Option C := Sx.ext pu32 11 (tabOf enc33 out33)
theorem nr33 (x : D33) : noRefs 0 (enc33 x) = true := by
  simp only [enc33, noRef_val, noRef_agg, noRef_tup, noRef_kp, noRef_sl, noRefs_cl, noRefs_cons, noRefs_nil, noRefs_app, Bool.and_self, Bool.and_true, noRef_yF]
theorem ij33 (x y : D33) (h : enc33 x = enc33 y) : out33 x = out33 y := by
  simp only [enc33, List.cons.injEq, C.val.injEq, C.agg.injEq, C.kp.injEq, str_inj, nI_inj, nU_inj, w8_inj, w32_inj, cl_inj, sl_inj, Value.int.injEq, Value.bool.injEq, true_and, and_true] at h; simp only [out33, h]
theorem ok33 {gl : Nat → C} (hgn : ∀ g, noRef 0 (gl g) = true)  (M : Nat) : CxOK (cxP gl M pu33) := CxOK.ext2 (N := 0) (ok32 hgn  0) nr33 fun q0 => fc11 (ok32 hgn  0) (by intros; (iterate 24 refine (ext_miss (by decide) _).trans ?_); rename_i l b w h0 h1 h2 hF; exact (hit8 l b w h0 h1 h2).trans (congrArg some (if_pos (errE_0.2 hF)))) (by intros; (iterate 24 refine (ext_miss (by decide) _).trans ?_); rename_i l b w h0 h1 h2 hE; exact (hit8 l b w h0 h1 h2).trans (congrArg some (if_neg hE))) (by intros; (iterate 27 refine (ext_miss (by decide) _).trans ?_); apply hit5 <;> first | assumption | omega) (by intros; (iterate 26 refine (ext_miss (by decide) _).trans ?_); apply hit6 <;> first | assumption | omega) (by intros; (iterate 25 refine (ext_miss (by decide) _).trans ?_); apply hit7 <;> first | assumption | omega) (by intros; (iterate 19 refine (ext_miss (by decide) _).trans ?_); apply hit13 <;> first | assumption | omega) ((q0.1.1)) ((q0.1.2.1)) ((q0.1.2.2)) q0.2.1 q0.2.2.1 q0.2.2.2
theorem hit33 (l : List Int) (b : Int) (w : Int) (hc0 : LI l) (hc1 : -9223372036854775808 ≤ b ∧ b ≤ 9223372036854775807) (hc2 : -9223372036854775808 ≤ w ∧ w ≤ 9223372036854775807) : pu33 11 [sl iC .no l, .val (.int .i64 b), .val (.int .i64 w)] = some (.tup [.agg [sl iC .no (fillT l b w).1, sl iC .no (fillT l b w).2.1, sl iC .no (fillT l b w).2.2.1], .val (nI (fillT l b w).2.2.2)]) :=
  (ext_hit _).trans (tabOf_enc ij33 ⟨(l, b, w), ⟨hc0, hc1, hc2⟩⟩)
abbrev D34 := {q0 : (List Int) × Int × Int // (LI (q0.1)) ∧ (-9223372036854775808 ≤ (q0.2.1) ∧ (q0.2.1) ≤ 9223372036854775807) ∧ (-9223372036854775808 ≤ (q0.2.2) ∧ (q0.2.2) ≤ 9223372036854775807)}
def enc34 (q0 : D34) : List C := [sl iC .no (q0.1.1), .val (.int .i64 (q0.1.2.1)), .val (.int .i64 (q0.1.2.2))]
def out34 (q0 : D34) : C := .tup [.agg [sl iC .no (fillT (q0.1.1) (q0.1.2.1) (q0.1.2.2)).1, sl iC .no (fillT (q0.1.1) (q0.1.2.1) (q0.1.2.2)).2.1, sl iC .no (fillT (q0.1.1) (q0.1.2.1) (q0.1.2.2)).2.2.1], .val (nI (fillT (q0.1.1) (q0.1.2.1) (q0.1.2.2)).2.2.2)]
noncomputable def pu34 : Nat → List C → Option C := Sx.ext pu33 12 (tabOf enc34 out34)
theorem nr34 (x : D34) : noRefs 0 (enc34 x) = true := by
  simp only [enc34, noRef_val, noRef_agg, noRef_tup, noRef_kp, noRef_sl, noRefs_cl, noRefs_cons, noRefs_nil, noRefs_app, Bool.and_self, Bool.and_true, noRef_yF]
theorem ok34 {gl : Nat → C} (hgn : ∀ g, noRef 0 (gl g) = true)  (M : Nat) : CxOK (cxP gl M pu34) := CxOK.ext2 (N := 0) (ok33 hgn  0) nr34 fun q0 => fc12 (ok33 hgn  0) (by intros; (iterate 19 refine (ext_miss (by decide) _).trans ?_); apply hit14 <;> first | assumption | omega) (by intros; (iterate 22 refine (ext_miss (by decide) _).trans ?_); apply hit11 <;> first | assumption | omega) (by intros; (iterate 24 refine (ext_miss (by decide) _).trans ?_); apply hit9 <;> first | assumption | omega) (by intros; (iterate 23 refine (ext_miss (by decide) _).trans ?_); apply hit10 <;> first | assumption | omega) ((q0.1.1)) ((q0.1.2.1)) ((q0.1.2.2)) q0.2.1 q0.2.2.1 q0.2.2.2
abbrev D35 := {q0 : Unit // True}
def enc35 (q0 : D35) : List C := []
def out35 (q0 : D35) : C := .val (.bool true)
noncomputable def pu35 : Nat → List C → Option C := Sx.ext pu34 18 (tabOf enc35 out35)
theorem nr35 (x : D35) : noRefs 0 (enc35 x) = true := by
  simp only [enc35, noRef_val, noRef_agg, noRef_tup, noRef_kp, noRef_sl, noRefs_cl, noRefs_cons, noRefs_nil, noRefs_app, Bool.and_self, Bool.and_true, noRef_yF]
theorem ij35 (x y : D35) (h : enc35 x = enc35 y) : out35 x = out35 y := by
  rfl
theorem ok35 {gl : Nat → C} (hgn : ∀ g, noRef 0 (gl g) = true)  (M : Nat) : CxOK (cxP gl M pu35) := CxOK.ext2 (N := 0) (ok34 hgn  0) nr35 fun q0 => fc18 (ok34 hgn  0) (by intros; (iterate 1 refine (ext_miss (by decide) _).trans ?_); apply hit33 <;> first | assumption | omega) (by intros; (iterate 7 refine (ext_miss (by decide) _).trans ?_); apply hit27 <;> first | assumption | omega) (by intros; (iterate 9 refine (ext_miss (by decide) _).trans ?_); apply hit25 <;> first | assumption | omega) (by intros; (iterate 5 refine (ext_miss (by decide) _).trans ?_); apply hit29 <;> first | assumption | omega) (by intros; (iterate 17 refine (ext_miss (by decide) _).trans ?_); apply hit17 <;> first | assumption | omega) (by intros; (iterate 18 refine (ext_miss (by decide) _).trans ?_); rename_i x1 x2 x3 y1 y2 y3 a1 a2 a3; exact hit16 false x1 x2 x3 y1 y2 y3 (fun h => by cases h) a1 a2 a3) (by intros; (iterate 18 refine (ext_miss (by decide) _).trans ?_); rename_i x1 x2 x3 y2 y3 a1 a2 a3; exact hit16 true x1 x2 x3 [] y2 y3 (fun _ => rfl) a1 a2 a3) (by intros; (iterate 19 refine (ext_miss (by decide) _).trans ?_); apply hit15 <;> first | assumption | omega) 
theorem hit35   : pu35 18 [] = some (.val (.bool true)) :=
  (ext_hit _).trans (tabOf_enc ij35 ⟨(), trivial⟩)
theorem law7 {gl : Nat → C} (hgn : ∀ g, noRef 0 (gl g) = true)  (l : List Int) (n : Int) (m : Int) (times : Int) (wider : Int) (hc0 : LI l) (hc1 : -9223372036854775808 ≤ n ∧ n ≤ 9223372036854775807) (hc2 : -9223372036854775808 ≤ m ∧ m ≤ 9223372036854775807) (hc3 : -9223372036854775808 ≤ times ∧ times ≤ 9223372036854775807) (hc4 : -9223372036854775808 ≤ wider ∧ wider ≤ 9223372036854775807) : FC Try.prog gl 7 [sl iC .no l, .val (.int .i64 n), .val (.int .i64 m), .val (.int .i64 times), .val (.int .i64 wider)] [] (.val (.bool true)) [] := fc7 (ok35 hgn  0) (by intros; (iterate 15 refine (ext_miss (by decide) _).trans ?_); apply hit20 <;> first | assumption | omega) (by intros; (iterate 14 refine (ext_miss (by decide) _).trans ?_); apply hit21 <;> first | assumption | omega) (by intros; (iterate 2 refine (ext_miss (by decide) _).trans ?_); apply hit33 <;> first | assumption | omega) (by intros; (iterate 16 refine (ext_miss (by decide) _).trans ?_); apply hit19 <;> first | assumption | omega) (by intros; (iterate 20 refine (ext_miss (by decide) _).trans ?_); apply hit15 <;> first | assumption | omega) (by intros; apply hit35 <;> first | assumption | omega) (l) (n) (m) (times) (wider) hc0 hc1 hc2 hc3 hc4
end Go.Sx
namespace Go.Sx
open Go.RowKit Go.ChangeShapes Go.WideShapes
/-- How the fields of a struct, from an offset on, stand to their data. -/
abbrev RelF (α : Type) := α → (H : Type) → List (DataW H) → Prop
structure RdF (P : Program) (fs : List Field) (off z : Nat) {α : Type} (f : α → List C) (R : RelF α) : Prop where
  rd : ∀ {H : Type} {enc : TypeId × Value → H} {W : World} {base : Nat} {sp : Nat → Bool} {held : Bool} {n : Nat} {cs : List Value} {xs : List (DataW H × List MemPlace)}, xs.length = fs.length → cs.length = off + z →
    (∀ (i : Nat) (fd : Field), fs[i]? = some fd → DataW.trod enc P W base sp held n fd.type ((cs.drop fd.offset).take (P.cellsOf fd.type)) = xs[i]?) → ∃ a, R a H (xs.map (·.1)) ∧ RepL (GW W) (f a) (cs.drop off) ∧ ∀ u ∈ cs.drop off, u.oneCell' = true
end Go.Sx
namespace Go.Proofs.Ytljjjkmiegeocaa
open Go.ChangeShapes Go.WideShapes Go.RowKit Go.Sx
theorem ownT : ownKnob Try.prog.godebug = none := by kernel_rfl
theorem loT : laidOutB Try.prog = true := by kernel_rfl
theorem mrT : mapsRowed Try.prog = true := by kernel_rfl
theorem slT : slicesB Try.prog = true := by kernel_rfl
theorem c3 : Try.prog.cellsOf 3 = 1 := by kernel_rfl
def glN : Nat → C := fun _ => .top
theorem glN_ok (W : World) (g : Nat) : Rep (GW W) (glN g) (.pointer (some ⟨g, 0, none⟩)) := by simp [glN, Rep]
theorem glN_noRef : ∀ g, noRef 0 (glN g) = true := fun _ => rfl
theorem trods_nil2 {H : Type} {enc : TypeId × Value → H} {P : Program} {W : World} {b : Nat} {sp : Nat → Bool} {hd : Bool} {vs : List Value} {ds : List (DataW H)} {ps : List MemPlace}
    (h : DataW.TrodAll enc P W b sp hd [] vs ds ps) : ds = [] := by
  cases vs <;> cases ds <;> simp only [DataW.TrodAll] at h <;> rfl
theorem x3 : AX Try.prog 3 (fun n : Int => .val (.int .i64 n)) RI := ax_int td3
theorem x22 : AX Try.prog 22 (fun l : List Int => sl iC .no l) (RL RI) := ax_slice td22 c3 (rdx_int (td_spec td3).1)
theorem ints_LI {l : List Int} {H : Type} {d : DataW H} (h : RL RI l H d) : LI l := by
  rcases h with ⟨rfl, _⟩ | ⟨e, s, _, h1, h2, h3⟩
  · exact ⟨by simp, fun i hi => by simp at hi⟩
  · refine ⟨h1, fun i hi => ?_⟩
    have hq : l[i]? = some (gt l i) := by simp [gt, List.getD, List.getElem?_eq_getElem hi]
    exact (h3 i _ _ hq (List.getElem?_eq_getElem (by omega))).1
end Go.Proofs.Ytljjjkmiegeocaa
