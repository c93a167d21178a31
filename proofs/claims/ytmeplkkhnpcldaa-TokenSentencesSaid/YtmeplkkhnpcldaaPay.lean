/-
  Package token: all contracts together.
-/
import Derived.Test.YtmeplkkhnpcldaaPal
import Derived.Test.YtmeplkkhnpcldaaPam
import Derived.Test.YtmeplkkhnpcldaaPan
import Derived.Test.YtmeplkkhnpcldaaPao
import Derived.Test.YtmeplkkhnpcldaaPap
import Derived.Test.YtmeplkkhnpcldaaPax
set_option linter.unusedSimpArgs false
set_option linter.unusedVariables false
namespace Go.Sx
open Go.RowKit Go.Proofs
theorem fc51x {gl : Nat → C} {M : Nat} {pu : Nat → List C → Option C} (hcx : CxOK (cxP gl M pu)) (l : List UInt8) (c : UInt8) : FC Try.prog gl 51 [.val (str l), .val (w8 c)] [] (.val (.int .i64 (Lib.indexByte l c))) [] := fc51 l c
theorem fc22x {gl : Nat → C} {M : Nat} {pu : Nat → List C → Option C} (hcx : CxOK (cxP gl M pu)) (s : List UInt8) (hs : s.length ≤ 1000000) : FC Try.prog gl 22 [.val (str s)] [] (.val (str (s.map low))) [] := fc22 s hs
theorem fc28x {gl : Nat → C} {M : Nat} {pu : Nat → List C → Option C} (hcx : CxOK (cxP gl M pu)) (h18 : ∀ s : List UInt8, s.length ≤ 1000000 → pu 18 [.val (str s)] = some (sl tC (.own 3) (toks s))) (h50 : ∀ (s : List UInt8) (l : List Tok) (i : Nat), i + 1 < l.length ∧ l.length ≤ 1000000 ∧ (gt l i).a < s.length ∧ s.length ≤ 1000000 → pu 50 [.val (nI i), .kp [.val (str s)], .kp [sl tC .no l]] = some (.val (.bool (stopI s l i)))) (hno : ∀ (g : Nat) (xs : List C), refy xs = true → pu g xs = none) (s : List UInt8) (hs : s.length ≤ 1000000) : FC Try.prog gl 28 [.val (str s)] [] (sl pC (.own 2) (sents s)) [] := fc28 (M := M) hcx.toF h18 h50 hno s hs
theorem fc28bx {gl : Nat → C} {M : Nat} {pu : Nat → List C → Option C} (hcx : CxOK (cxP gl M pu)) (h18 : ∀ s : List UInt8, s.length ≤ 1000000 → pu 18 [.val (str s)] = some (sl tC (.own 3) (toks s))) (h50 : ∀ (s : List UInt8) (l : List Tok) (i : Nat), i + 1 < l.length ∧ l.length ≤ 1000000 ∧ (gt l i).a < s.length ∧ s.length ≤ 1000000 → pu 50 [.val (nI i), .kp [.val (str s)], .kp [sl tC .no l]] = some (.val (.bool (stopI s l i)))) (hno : ∀ (g : Nat) (xs : List C), refy xs = true → pu g xs = none) (s : List UInt8) (hs : s.length ≤ 1000000) : FC Try.prog gl 28 [.val (str s)] [] (.gv 0 (sents s).length 2) [some (cl pC (sents s))] := fc28b (M := M) hcx.toF h18 h50 hno s hs
theorem fc28cx {gl : Nat → C} {M : Nat} {pu : Nat → List C → Option C} (hcx : CxOK (cxP gl M pu)) (h18 : ∀ s : List UInt8, s.length ≤ 1000000 → pu 18 [.val (str s)] = some (sl tC (.own 3) (toks s))) (h50 : ∀ (s : List UInt8) (l : List Tok) (i : Nat), i + 1 < l.length ∧ l.length ≤ 1000000 ∧ (gt l i).a < s.length ∧ s.length ≤ 1000000 → pu 50 [.val (nI i), .kp [.val (str s)], .kp [sl tC .no l]] = some (.val (.bool (stopI s l i)))) (hno : ∀ (g : Nat) (xs : List C), refy xs = true → pu g xs = none) (Y : List (Nat × Nat)) (s : List UInt8) (hs : s.length ≤ 1000000) : FC Try.prog gl 28 [.val (str s)] [some (cl pC Y)] (.gv 1 (sents s).length 2) [some (cl pC Y), some (cl pC (sents s))] := fc28c (M := M) hcx.toF h18 h50 hno Y s hs
def pu0 : Nat → List C → Option C := fun _ _ => none
theorem ok0 {gl : Nat → C} (hgn : ∀ g, noRef 0 (gl g) = true)  (M : Nat) : CxOK (cxP gl M pu0) := CxOK.zero hgn
theorem hno0 : ∀ (g : Nat) (xs : List C), refy xs = true → pu0 g xs = none := hno_zero
abbrev D1 := {q0 : UInt8 // True}
def enc1 (q0 : D1) : List C := [.val (w8 (q0.1))]
def out1 (q0 : D1) : C := .val (.int .i64 (kdI (q0.1)))
noncomputable def pu1 : Nat → List C → Option C := Sx.ext pu0 44 (tabOf enc1 out1)
theorem nr1 (x : D1) : noRefs 0 (enc1 x) = true := by
  simp only [enc1, noRef_val, noRef_agg, noRef_tup, noRef_kp, noRef_sl, noRefs_cl, noRefs_cons, noRefs_nil, noRefs_app, Bool.and_self, Bool.and_true]
theorem ij1 (x y : D1) (h : enc1 x = enc1 y) : out1 x = out1 y := by
  simp only [enc1, List.cons.injEq, C.val.injEq, C.agg.injEq, C.kp.injEq, str_inj, nI_inj, nU_inj, w8_inj, w32_inj, cl_inj, sl_inj, Value.int.injEq, Value.bool.injEq, true_and, and_true] at h; simp only [out1, h]
theorem ok1 {gl : Nat → C} (hgn : ∀ g, noRef 0 (gl g) = true)  (M : Nat) : CxOK (cxP gl M pu1) := CxOK.ext2 (N := 0) (ok0 hgn  0) nr1 fun q0 => fc44 (ok0 hgn  0)  ((q0.1))
theorem hno1 : ∀ (g : Nat) (xs : List C), refy xs = true → pu1 g xs = none := hno_ext hno0 nr1
theorem hit1 (c : UInt8)  : pu1 44 [.val (w8 c)] = some (.val (.int .i64 (kdI c))) :=
  (ext_hit _).trans (tabOf_enc ij1 ⟨(c), trivial⟩)
abbrev D2 := {q0 : (List UInt8) // ((q0).length ≤ 1000000)}
def enc2 (q0 : D2) : List C := [.val (str (q0.1))]
def out2 (q0 : D2) : C := sl tC .no (toks (q0.1))
noncomputable def pu2 : Nat → List C → Option C := Sx.ext pu1 15 (tabOf enc2 out2)
theorem nr2 (x : D2) : noRefs 0 (enc2 x) = true := by
  simp only [enc2, noRef_val, noRef_agg, noRef_tup, noRef_kp, noRef_sl, noRefs_cl, noRefs_cons, noRefs_nil, noRefs_app, Bool.and_self, Bool.and_true]
theorem ij2 (x y : D2) (h : enc2 x = enc2 y) : out2 x = out2 y := by
  simp only [enc2, List.cons.injEq, C.val.injEq, C.agg.injEq, C.kp.injEq, str_inj, nI_inj, nU_inj, w8_inj, w32_inj, cl_inj, sl_inj, Value.int.injEq, Value.bool.injEq, true_and, and_true] at h; simp only [out2, h]
theorem ok2 {gl : Nat → C} (hgn : ∀ g, noRef 0 (gl g) = true)  (M : Nat) : CxOK (cxP gl M pu2) := CxOK.ext2 (N := 0) (ok1 hgn  0) nr2 fun q0 => fc15 (ok1 hgn  0) (by intros; apply hit1 <;> first | assumption | omega) ((q0.1)) q0.2
theorem hno2 : ∀ (g : Nat) (xs : List C), refy xs = true → pu2 g xs = none := hno_ext hno1 nr2
theorem hit2 (s : List UInt8) (hc0 : s.length ≤ 1000000) : pu2 15 [.val (str s)] = some (sl tC .no (toks s)) :=
  (ext_hit _).trans (tabOf_enc ij2 ⟨(s), hc0⟩)
abbrev D3 := {q0 : UInt8 // True}
def enc3 (q0 : D3) : List C := [.val (w8 (q0.1))]
def out3 (q0 : D3) : C := .val (nI (kd (q0.1)))
noncomputable def pu3 : Nat → List C → Option C := Sx.ext pu2 46 (tabOf enc3 out3)
theorem nr3 (x : D3) : noRefs 0 (enc3 x) = true := by
  simp only [enc3, noRef_val, noRef_agg, noRef_tup, noRef_kp, noRef_sl, noRefs_cl, noRefs_cons, noRefs_nil, noRefs_app, Bool.and_self, Bool.and_true]
theorem ij3 (x y : D3) (h : enc3 x = enc3 y) : out3 x = out3 y := by
  simp only [enc3, List.cons.injEq, C.val.injEq, C.agg.injEq, C.kp.injEq, str_inj, nI_inj, nU_inj, w8_inj, w32_inj, cl_inj, sl_inj, Value.int.injEq, Value.bool.injEq, true_and, and_true] at h; simp only [out3, h]
theorem ok3 {gl : Nat → C} (hgn : ∀ g, noRef 0 (gl g) = true)  (M : Nat) : CxOK (cxP gl M pu3) := CxOK.ext2 (N := 0) (ok2 hgn  0) nr3 fun q0 => fc46 (ok2 hgn  0)  ((q0.1))
theorem hno3 : ∀ (g : Nat) (xs : List C), refy xs = true → pu3 g xs = none := hno_ext hno2 nr3
theorem hit3 (c : UInt8)  : pu3 46 [.val (w8 c)] = some (.val (nI (kd c))) :=
  (ext_hit _).trans (tabOf_enc ij3 ⟨(c), trivial⟩)
abbrev D4 := {q0 : (List UInt8) × Nat // ((q0.2) < (q0.1).length ∧ (q0.1).length ≤ 1000000)}
def enc4 (q0 : D4) : List C := [.val (nI (q0.1.2)), .kp [.val (str (q0.1.1))]]
def out4 (q0 : D4) : C := .val (nI (endT (q0.1.1) (q0.1.2)))
noncomputable def pu4 : Nat → List C → Option C := Sx.ext pu3 45 (tabOf enc4 out4)
theorem nr4 (x : D4) : noRefs 0 (enc4 x) = true := by
  simp only [enc4, noRef_val, noRef_agg, noRef_tup, noRef_kp, noRef_sl, noRefs_cl, noRefs_cons, noRefs_nil, noRefs_app, Bool.and_self, Bool.and_true]
theorem ij4 (x y : D4) (h : enc4 x = enc4 y) : out4 x = out4 y := by
  simp only [enc4, List.cons.injEq, C.val.injEq, C.agg.injEq, C.kp.injEq, str_inj, nI_inj, nU_inj, w8_inj, w32_inj, cl_inj, sl_inj, Value.int.injEq, Value.bool.injEq, true_and, and_true] at h; simp only [out4, h]
theorem ok4 {gl : Nat → C} (hgn : ∀ g, noRef 0 (gl g) = true)  (M : Nat) : CxOK (cxP gl M pu4) := CxOK.ext2 (N := 0) (ok3 hgn  0) nr4 fun q0 => fc45 (ok3 hgn  0) (by intros; apply hit3 <;> first | assumption | omega) ((q0.1.1)) ((q0.1.2)) q0.2
theorem hno4 : ∀ (g : Nat) (xs : List C), refy xs = true → pu4 g xs = none := hno_ext hno3 nr4
theorem hit4 (s : List UInt8) (i : Nat) (hc0 : i < s.length ∧ s.length ≤ 1000000) : pu4 45 [.val (nI i), .kp [.val (str s)]] = some (.val (nI (endT s i))) :=
  (ext_hit _).trans (tabOf_enc ij4 ⟨(s, i), hc0⟩)
abbrev D5 := {q0 : (List UInt8) // ((q0).length ≤ 1000000)}
def enc5 (q0 : D5) : List C := [.val (str (q0.1))]
def out5 (q0 : D5) : C := sl tC (.own 3) (toks (q0.1))
noncomputable def pu5 : Nat → List C → Option C := Sx.ext pu4 18 (tabOf enc5 out5)
theorem nr5 (x : D5) : noRefs 0 (enc5 x) = true := by
  simp only [enc5, noRef_val, noRef_agg, noRef_tup, noRef_kp, noRef_sl, noRefs_cl, noRefs_cons, noRefs_nil, noRefs_app, Bool.and_self, Bool.and_true]
theorem ij5 (x y : D5) (h : enc5 x = enc5 y) : out5 x = out5 y := by
  simp only [enc5, List.cons.injEq, C.val.injEq, C.agg.injEq, C.kp.injEq, str_inj, nI_inj, nU_inj, w8_inj, w32_inj, cl_inj, sl_inj, Value.int.injEq, Value.bool.injEq, true_and, and_true] at h; simp only [out5, h]
theorem ok5 {gl : Nat → C} (hgn : ∀ g, noRef 0 (gl g) = true)  (M : Nat) : CxOK (cxP gl M pu5) := CxOK.ext2 (N := 0) (ok4 hgn  0) nr5 fun q0 => fc18 (ok4 hgn  0) (by intros; apply hit4 <;> first | assumption | omega) (by intros; (iterate 1 refine (ext_miss (by decide) _).trans ?_); apply hit3 <;> first | assumption | omega) hno4 ((q0.1)) q0.2
theorem hno5 : ∀ (g : Nat) (xs : List C), refy xs = true → pu5 g xs = none := hno_ext hno4 nr5
theorem hit5 (s : List UInt8) (hc0 : s.length ≤ 1000000) : pu5 18 [.val (str s)] = some (sl tC (.own 3) (toks s)) :=
  (ext_hit _).trans (tabOf_enc ij5 ⟨(s), hc0⟩)
abbrev D6 := {q0 : (List Tok) × (List Tok) // ((q0.1).length < 9223372036854775807)}
def enc6 (q0 : D6) : List C := [sl tC .no (q0.1.1), sl tC .no (q0.1.2)]
def out6 (q0 : D6) : C := .val (.bool (decide ((q0.1.1) = (q0.1.2))))
noncomputable def pu6 : Nat → List C → Option C := Sx.ext pu5 16 (tabOf enc6 out6)
theorem nr6 (x : D6) : noRefs 0 (enc6 x) = true := by
  simp only [enc6, noRef_val, noRef_agg, noRef_tup, noRef_kp, noRef_sl, noRefs_cl, noRefs_cons, noRefs_nil, noRefs_app, Bool.and_self, Bool.and_true]
theorem ok6 {gl : Nat → C} (hgn : ∀ g, noRef 0 (gl g) = true)  (M : Nat) : CxOK (cxP gl M pu6) := CxOK.ext2 (N := 0) (ok5 hgn  0) nr6 fun q0 => fc16 (ok5 hgn  0)  ((q0.1.1)) ((q0.1.2)) q0.2
theorem hno6 : ∀ (g : Nat) (xs : List C), refy xs = true → pu6 g xs = none := hno_ext hno5 nr6
abbrev D7 := {q0 : (List (List UInt8)) × (List (List UInt8)) // ((q0.1).length < 9223372036854775807)}
def enc7 (q0 : D7) : List C := [sl sC .no (q0.1.1), sl sC .no (q0.1.2)]
def out7 (q0 : D7) : C := .val (.bool (decide ((q0.1.1) = (q0.1.2))))
noncomputable def pu7 : Nat → List C → Option C := Sx.ext pu6 24 (tabOf enc7 out7)
theorem nr7 (x : D7) : noRefs 0 (enc7 x) = true := by
  simp only [enc7, noRef_val, noRef_agg, noRef_tup, noRef_kp, noRef_sl, noRefs_cl, noRefs_cons, noRefs_nil, noRefs_app, Bool.and_self, Bool.and_true]
theorem ij7 (x y : D7) (h : enc7 x = enc7 y) : out7 x = out7 y := by
  simp only [enc7, List.cons.injEq, C.val.injEq, C.agg.injEq, C.kp.injEq, str_inj, nI_inj, nU_inj, w8_inj, w32_inj, cl_inj, sl_inj, Value.int.injEq, Value.bool.injEq, true_and, and_true] at h; simp only [out7, h]
theorem ok7 {gl : Nat → C} (hgn : ∀ g, noRef 0 (gl g) = true)  (M : Nat) : CxOK (cxP gl M pu7) := CxOK.ext2 (N := 0) (ok6 hgn  0) nr7 fun q0 => fc24 (ok6 hgn  0)  ((q0.1.1)) ((q0.1.2)) q0.2
theorem hno7 : ∀ (g : Nat) (xs : List C), refy xs = true → pu7 g xs = none := hno_ext hno6 nr7
theorem hit7 (x : List (List UInt8)) (y : List (List UInt8)) (hc0 : x.length < 9223372036854775807) : pu7 24 [sl sC .no x, sl sC .no y] = some (.val (.bool (decide (x = y)))) :=
  (ext_hit _).trans (tabOf_enc ij7 ⟨(x, y), hc0⟩)
abbrev D8 := {q0 : (List (Nat × Nat)) × (List (Nat × Nat)) // ((q0.1).length < 9223372036854775807)}
def enc8 (q0 : D8) : List C := [sl pC .no (q0.1.1), sl pC .no (q0.1.2)]
def out8 (q0 : D8) : C := .val (.bool (decide ((q0.1.1) = (q0.1.2))))
noncomputable def pu8 : Nat → List C → Option C := Sx.ext pu7 27 (tabOf enc8 out8)
theorem nr8 (x : D8) : noRefs 0 (enc8 x) = true := by
  simp only [enc8, noRef_val, noRef_agg, noRef_tup, noRef_kp, noRef_sl, noRefs_cl, noRefs_cons, noRefs_nil, noRefs_app, Bool.and_self, Bool.and_true]
theorem ij8 (x y : D8) (h : enc8 x = enc8 y) : out8 x = out8 y := by
  simp only [enc8, List.cons.injEq, C.val.injEq, C.agg.injEq, C.kp.injEq, str_inj, nI_inj, nU_inj, w8_inj, w32_inj, cl_inj, sl_inj, Value.int.injEq, Value.bool.injEq, true_and, and_true] at h; simp only [out8, h]
theorem ok8 {gl : Nat → C} (hgn : ∀ g, noRef 0 (gl g) = true)  (M : Nat) : CxOK (cxP gl M pu8) := CxOK.ext2 (N := 0) (ok7 hgn  0) nr8 fun q0 => fc27 (ok7 hgn  0)  ((q0.1.1)) ((q0.1.2)) q0.2
theorem hno8 : ∀ (g : Nat) (xs : List C), refy xs = true → pu8 g xs = none := hno_ext hno7 nr8
theorem hit8 (x : List (Nat × Nat)) (y : List (Nat × Nat)) (hc0 : x.length < 9223372036854775807) : pu8 27 [sl pC .no x, sl pC .no y] = some (.val (.bool (decide (x = y)))) :=
  (ext_hit _).trans (tabOf_enc ij8 ⟨(x, y), hc0⟩)
abbrev D9 := {q0 : (List Int) × (List Int) // ((q0.1).length < 9223372036854775807)}
def enc9 (q0 : D9) : List C := [sl iC .no (q0.1.1), sl iC .no (q0.1.2)]
def out9 (q0 : D9) : C := .val (.bool (decide ((q0.1.1) = (q0.1.2))))
noncomputable def pu9 : Nat → List C → Option C := Sx.ext pu8 30 (tabOf enc9 out9)
theorem nr9 (x : D9) : noRefs 0 (enc9 x) = true := by
  simp only [enc9, noRef_val, noRef_agg, noRef_tup, noRef_kp, noRef_sl, noRefs_cl, noRefs_cons, noRefs_nil, noRefs_app, Bool.and_self, Bool.and_true]
theorem ij9 (x y : D9) (h : enc9 x = enc9 y) : out9 x = out9 y := by
  simp only [enc9, List.cons.injEq, C.val.injEq, C.agg.injEq, C.kp.injEq, str_inj, nI_inj, nU_inj, w8_inj, w32_inj, cl_inj, sl_inj, Value.int.injEq, Value.bool.injEq, true_and, and_true] at h; simp only [out9, h]
theorem ok9 {gl : Nat → C} (hgn : ∀ g, noRef 0 (gl g) = true)  (M : Nat) : CxOK (cxP gl M pu9) := CxOK.ext2 (N := 0) (ok8 hgn  0) nr9 fun q0 => fc30 (ok8 hgn  0)  ((q0.1.1)) ((q0.1.2)) q0.2
theorem hno9 : ∀ (g : Nat) (xs : List C), refy xs = true → pu9 g xs = none := hno_ext hno8 nr9
theorem hit9 (x : List Int) (y : List Int) (hc0 : x.length < 9223372036854775807) : pu9 30 [sl iC .no x, sl iC .no y] = some (.val (.bool (decide (x = y)))) :=
  (ext_hit _).trans (tabOf_enc ij9 ⟨(x, y), hc0⟩)
abbrev D10 := {q0 : (List Tok) // ((q0).length ≤ 1000000)}
def enc10 (q0 : D10) : List C := [sl tC .no (q0.1)]
def out10 (q0 : D10) : C := sl tC (.own 3) (q0.1)
noncomputable def pu10 : Nat → List C → Option C := Sx.ext pu9 17 (tabOf enc10 out10)
theorem nr10 (x : D10) : noRefs 0 (enc10 x) = true := by
  simp only [enc10, noRef_val, noRef_agg, noRef_tup, noRef_kp, noRef_sl, noRefs_cl, noRefs_cons, noRefs_nil, noRefs_app, Bool.and_self, Bool.and_true]
theorem ok10 {gl : Nat → C} (hgn : ∀ g, noRef 0 (gl g) = true)  (M : Nat) : CxOK (cxP gl M pu10) := CxOK.ext2 (N := 0) (ok9 hgn  0) nr10 fun q0 => fc17 (ok9 hgn  0)  ((q0.1)) q0.2
theorem hno10 : ∀ (g : Nat) (xs : List C), refy xs = true → pu10 g xs = none := hno_ext hno9 nr10
abbrev D11 := {q0 : (List UInt8) // ((q0).length ≤ 1000000)}
def enc11 (q0 : D11) : List C := [.val (str (q0.1))]
def out11 (q0 : D11) : C := sl nC (.own 1) (marksT (q0.1))
noncomputable def pu11 : Nat → List C → Option C := Sx.ext pu10 32 (tabOf enc11 out11)
theorem nr11 (x : D11) : noRefs 0 (enc11 x) = true := by
  simp only [enc11, noRef_val, noRef_agg, noRef_tup, noRef_kp, noRef_sl, noRefs_cl, noRefs_cons, noRefs_nil, noRefs_app, Bool.and_self, Bool.and_true]
theorem ok11 {gl : Nat → C} (hgn : ∀ g, noRef 0 (gl g) = true)  (M : Nat) : CxOK (cxP gl M pu11) := CxOK.ext2 (N := 0) (ok10 hgn  0) nr11 fun q0 => fc32 (ok10 hgn  0) (by intros; (iterate 8 refine (ext_miss (by decide) _).trans ?_); apply hit2 <;> first | assumption | omega) ((q0.1)) q0.2
theorem hno11 : ∀ (g : Nat) (xs : List C), refy xs = true → pu11 g xs = none := hno_ext hno10 nr11
abbrev D12 := {q0 : (List Tok) × Nat // ((q0.1).length ≤ 1000000)}
def enc12 (q0 : D12) : List C := [sl tC .no (q0.1.1), .val (nI (q0.1.2))]
def out12 (q0 : D12) : C := sl nC (.own 1) (ofK (q0.1.2) (q0.1.1))
noncomputable def pu12 : Nat → List C → Option C := Sx.ext pu11 49 (tabOf enc12 out12)
theorem nr12 (x : D12) : noRefs 0 (enc12 x) = true := by
  simp only [enc12, noRef_val, noRef_agg, noRef_tup, noRef_kp, noRef_sl, noRefs_cl, noRefs_cons, noRefs_nil, noRefs_app, Bool.and_self, Bool.and_true]
theorem ij12 (x y : D12) (h : enc12 x = enc12 y) : out12 x = out12 y := by
  simp only [enc12, List.cons.injEq, C.val.injEq, C.agg.injEq, C.kp.injEq, str_inj, nI_inj, nU_inj, w8_inj, w32_inj, cl_inj, sl_inj, Value.int.injEq, Value.bool.injEq, true_and, and_true] at h; simp only [out12, h]
theorem ok12 {gl : Nat → C} (hgn : ∀ g, noRef 0 (gl g) = true)  (M : Nat) : CxOK (cxP gl M pu12) := CxOK.ext2 (N := 0) (ok11 hgn  0) nr12 fun q0 => fc49 (ok11 hgn  0)  ((q0.1.1)) ((q0.1.2)) q0.2
theorem hno12 : ∀ (g : Nat) (xs : List C), refy xs = true → pu12 g xs = none := hno_ext hno11 nr12
theorem hit12 (l : List Tok) (k : Nat) (hc0 : l.length ≤ 1000000) : pu12 49 [sl tC .no l, .val (nI k)] = some (sl nC (.own 1) (ofK k l)) :=
  (ext_hit _).trans (tabOf_enc ij12 ⟨(l, k), hc0⟩)
abbrev D13 := {q0 : (List UInt8) // ((q0).length ≤ 1000000)}
def enc13 (q0 : D13) : List C := [.val (str (q0.1))]
def out13 (q0 : D13) : C := .val (str ((q0.1).map low))
noncomputable def pu13 : Nat → List C → Option C := Sx.ext pu12 23 (tabOf enc13 out13)
theorem nr13 (x : D13) : noRefs 0 (enc13 x) = true := by
  simp only [enc13, noRef_val, noRef_agg, noRef_tup, noRef_kp, noRef_sl, noRefs_cl, noRefs_cons, noRefs_nil, noRefs_app, Bool.and_self, Bool.and_true]
theorem ij13 (x y : D13) (h : enc13 x = enc13 y) : out13 x = out13 y := by
  simp only [enc13, List.cons.injEq, C.val.injEq, C.agg.injEq, C.kp.injEq, str_inj, nI_inj, nU_inj, w8_inj, w32_inj, cl_inj, sl_inj, Value.int.injEq, Value.bool.injEq, true_and, and_true] at h; simp only [out13, h]
theorem ok13 {gl : Nat → C} (hgn : ∀ g, noRef 0 (gl g) = true)  (M : Nat) : CxOK (cxP gl M pu13) := CxOK.ext2 (N := 0) (ok12 hgn  0) nr13 fun q0 => fc23 (ok12 hgn  0)  ((q0.1)) q0.2
theorem hno13 : ∀ (g : Nat) (xs : List C), refy xs = true → pu13 g xs = none := hno_ext hno12 nr13
theorem hit13 (s : List UInt8) (hc0 : s.length ≤ 1000000) : pu13 23 [.val (str s)] = some (.val (str (s.map low))) :=
  (ext_hit _).trans (tabOf_enc ij13 ⟨(s), hc0⟩)
abbrev D14 := {q0 : (List UInt8) // ((q0).length ≤ 1000000)}
def enc14 (q0 : D14) : List C := [.val (str (q0.1))]
def out14 (q0 : D14) : C := .val (str ((q0.1).map low))
noncomputable def pu14 : Nat → List C → Option C := Sx.ext pu13 22 (tabOf enc14 out14)
theorem nr14 (x : D14) : noRefs 0 (enc14 x) = true := by
  simp only [enc14, noRef_val, noRef_agg, noRef_tup, noRef_kp, noRef_sl, noRefs_cl, noRefs_cons, noRefs_nil, noRefs_app, Bool.and_self, Bool.and_true]
theorem ij14 (x y : D14) (h : enc14 x = enc14 y) : out14 x = out14 y := by
  simp only [enc14, List.cons.injEq, C.val.injEq, C.agg.injEq, C.kp.injEq, str_inj, nI_inj, nU_inj, w8_inj, w32_inj, cl_inj, sl_inj, Value.int.injEq, Value.bool.injEq, true_and, and_true] at h; simp only [out14, h]
theorem ok14 {gl : Nat → C} (hgn : ∀ g, noRef 0 (gl g) = true)  (M : Nat) : CxOK (cxP gl M pu14) := CxOK.ext2 (N := 0) (ok13 hgn  0) nr14 fun q0 => fc22x (ok13 hgn  0)  ((q0.1)) q0.2
theorem hno14 : ∀ (g : Nat) (xs : List C), refy xs = true → pu14 g xs = none := hno_ext hno13 nr14
theorem hit14 (s : List UInt8) (hc0 : s.length ≤ 1000000) : pu14 22 [.val (str s)] = some (.val (str (s.map low))) :=
  (ext_hit _).trans (tabOf_enc ij14 ⟨(s), hc0⟩)
abbrev D15 := {q0 : (List UInt8) // ((q0).length ≤ 1000000)}
def enc15 (q0 : D15) : List C := [.val (str (q0.1))]
def out15 (q0 : D15) : C := sl nC (.own 1) (marksT (q0.1))
noncomputable def pu15 : Nat → List C → Option C := Sx.ext pu14 31 (tabOf enc15 out15)
theorem nr15 (x : D15) : noRefs 0 (enc15 x) = true := by
  simp only [enc15, noRef_val, noRef_agg, noRef_tup, noRef_kp, noRef_sl, noRefs_cl, noRefs_cons, noRefs_nil, noRefs_app, Bool.and_self, Bool.and_true]
theorem ij15 (x y : D15) (h : enc15 x = enc15 y) : out15 x = out15 y := by
  simp only [enc15, List.cons.injEq, C.val.injEq, C.agg.injEq, C.kp.injEq, str_inj, nI_inj, nU_inj, w8_inj, w32_inj, cl_inj, sl_inj, Value.int.injEq, Value.bool.injEq, true_and, and_true] at h; simp only [out15, h]
theorem ok15 {gl : Nat → C} (hgn : ∀ g, noRef 0 (gl g) = true)  (M : Nat) : CxOK (cxP gl M pu15) := CxOK.ext2 (N := 0) (ok14 hgn  0) nr15 fun q0 => fc31 (ok14 hgn  0) (by intros; (iterate 9 refine (ext_miss (by decide) _).trans ?_); apply hit5 <;> first | assumption | omega) (by intros; (iterate 2 refine (ext_miss (by decide) _).trans ?_); apply hit12 <;> first | assumption | omega) ((q0.1)) q0.2
theorem hno15 : ∀ (g : Nat) (xs : List C), refy xs = true → pu15 g xs = none := hno_ext hno14 nr15
theorem hit15 (s : List UInt8) (hc0 : s.length ≤ 1000000) : pu15 31 [.val (str s)] = some (sl nC (.own 1) (marksT s)) :=
  (ext_hit _).trans (tabOf_enc ij15 ⟨(s), hc0⟩)
abbrev D16 := {q0 : (List UInt8) // ((q0).length ≤ 1000000)}
def enc16 (q0 : D16) : List C := [.val (str (q0.1))]
def out16 (q0 : D16) : C := sl sC (.own 1) (wordsT (q0.1))
noncomputable def pu16 : Nat → List C → Option C := Sx.ext pu15 26 (tabOf enc16 out16)
theorem nr16 (x : D16) : noRefs 0 (enc16 x) = true := by
  simp only [enc16, noRef_val, noRef_agg, noRef_tup, noRef_kp, noRef_sl, noRefs_cl, noRefs_cons, noRefs_nil, noRefs_app, Bool.and_self, Bool.and_true]
theorem ok16 {gl : Nat → C} (hgn : ∀ g, noRef 0 (gl g) = true)  (M : Nat) : CxOK (cxP gl M pu16) := CxOK.ext2 (N := 0) (ok15 hgn  0) nr16 fun q0 => fc26 (ok15 hgn  0) (by intros; (iterate 13 refine (ext_miss (by decide) _).trans ?_); apply hit2 <;> first | assumption | omega) (by intros; (iterate 2 refine (ext_miss (by decide) _).trans ?_); apply hit13 <;> first | assumption | omega) ((q0.1)) q0.2
theorem hno16 : ∀ (g : Nat) (xs : List C), refy xs = true → pu16 g xs = none := hno_ext hno15 nr16
abbrev D17 := {q0 : (List UInt8) // ((q0).length ≤ 1000000)}
def enc17 (q0 : D17) : List C := [.val (str (q0.1))]
def out17 (q0 : D17) : C := sl sC (.own 1) (wordsT (q0.1))
noncomputable def pu17 : Nat → List C → Option C := Sx.ext pu16 25 (tabOf enc17 out17)
theorem nr17 (x : D17) : noRefs 0 (enc17 x) = true := by
  simp only [enc17, noRef_val, noRef_agg, noRef_tup, noRef_kp, noRef_sl, noRefs_cl, noRefs_cons, noRefs_nil, noRefs_app, Bool.and_self, Bool.and_true]
theorem ij17 (x y : D17) (h : enc17 x = enc17 y) : out17 x = out17 y := by
  simp only [enc17, List.cons.injEq, C.val.injEq, C.agg.injEq, C.kp.injEq, str_inj, nI_inj, nU_inj, w8_inj, w32_inj, cl_inj, sl_inj, Value.int.injEq, Value.bool.injEq, true_and, and_true] at h; simp only [out17, h]
theorem ok17 {gl : Nat → C} (hgn : ∀ g, noRef 0 (gl g) = true)  (M : Nat) : CxOK (cxP gl M pu17) := CxOK.ext2 (N := 0) (ok16 hgn  0) nr17 fun q0 => fc25 (ok16 hgn  0) (by intros; (iterate 11 refine (ext_miss (by decide) _).trans ?_); apply hit5 <;> first | assumption | omega) (by intros; (iterate 2 refine (ext_miss (by decide) _).trans ?_); apply hit14 <;> first | assumption | omega) (by intros; (iterate 4 refine (ext_miss (by decide) _).trans ?_); apply hit12 <;> first | assumption | omega) ((q0.1)) q0.2
theorem hno17 : ∀ (g : Nat) (xs : List C), refy xs = true → pu17 g xs = none := hno_ext hno16 nr17
theorem hit17 (s : List UInt8) (hc0 : s.length ≤ 1000000) : pu17 25 [.val (str s)] = some (sl sC (.own 1) (wordsT s)) :=
  (ext_hit _).trans (tabOf_enc ij17 ⟨(s), hc0⟩)
abbrev D18 := {q0 : (List UInt8) × Int × Int // ((q0.1).length ≤ 1000000) ∧ (-9223372036854775808 ≤ (q0.2.1) ∧ (q0.2.1) ≤ 9223372036854775807) ∧ (-9223372036854775808 ≤ (q0.2.2) ∧ (q0.2.2) ≤ 9223372036854775807)}
def enc18 (q0 : D18) : List C := [.val (str (q0.1.1)), .val (.int .i64 (q0.1.2.1)), .val (.int .i64 (q0.1.2.2))]
def out18 (q0 : D18) : C := .val (str (part (q0.1.1) (q0.1.2.1) (q0.1.2.2)))
noncomputable def pu18 : Nat → List C → Option C := Sx.ext pu17 21 (tabOf enc18 out18)
theorem nr18 (x : D18) : noRefs 0 (enc18 x) = true := by
  simp only [enc18, noRef_val, noRef_agg, noRef_tup, noRef_kp, noRef_sl, noRefs_cl, noRefs_cons, noRefs_nil, noRefs_app, Bool.and_self, Bool.and_true]
theorem ok18 {gl : Nat → C} (hgn : ∀ g, noRef 0 (gl g) = true)  (M : Nat) : CxOK (cxP gl M pu18) := CxOK.ext2 (N := 0) (ok17 hgn  0) nr18 fun q0 => fc21 (ok17 hgn  0) (by intros; (iterate 15 refine (ext_miss (by decide) _).trans ?_); apply hit2 <;> first | assumption | omega) ((q0.1.1)) ((q0.1.2.1)) ((q0.1.2.2)) q0.2.1 q0.2.2.1 q0.2.2.2
theorem hno18 : ∀ (g : Nat) (xs : List C), refy xs = true → pu18 g xs = none := hno_ext hno17 nr18
abbrev D19 := {q0 : (List UInt8) × Int × Int // ((q0.1).length ≤ 1000000) ∧ (-9223372036854775808 ≤ (q0.2.1) ∧ (q0.2.1) ≤ 9223372036854775807) ∧ (-9223372036854775808 ≤ (q0.2.2) ∧ (q0.2.2) ≤ 9223372036854775807)}
def enc19 (q0 : D19) : List C := [.val (str (q0.1.1)), .val (.int .i64 (q0.1.2.1)), .val (.int .i64 (q0.1.2.2))]
def out19 (q0 : D19) : C := .val (str (part (q0.1.1) (q0.1.2.1) (q0.1.2.2)))
noncomputable def pu19 : Nat → List C → Option C := Sx.ext pu18 20 (tabOf enc19 out19)
theorem nr19 (x : D19) : noRefs 0 (enc19 x) = true := by
  simp only [enc19, noRef_val, noRef_agg, noRef_tup, noRef_kp, noRef_sl, noRefs_cl, noRefs_cons, noRefs_nil, noRefs_app, Bool.and_self, Bool.and_true]
theorem ij19 (x y : D19) (h : enc19 x = enc19 y) : out19 x = out19 y := by
  simp only [enc19, List.cons.injEq, C.val.injEq, C.agg.injEq, C.kp.injEq, str_inj, nI_inj, nU_inj, w8_inj, w32_inj, cl_inj, sl_inj, Value.int.injEq, Value.bool.injEq, true_and, and_true] at h; simp only [out19, h]
theorem ok19 {gl : Nat → C} (hgn : ∀ g, noRef 0 (gl g) = true)  (M : Nat) : CxOK (cxP gl M pu19) := CxOK.ext2 (N := 0) (ok18 hgn  0) nr19 fun q0 => fc20 (ok18 hgn  0) (by intros; (iterate 13 refine (ext_miss (by decide) _).trans ?_); apply hit5 <;> first | assumption | omega) ((q0.1.1)) ((q0.1.2.1)) ((q0.1.2.2)) q0.2.1 q0.2.2.1 q0.2.2.2
theorem hno19 : ∀ (g : Nat) (xs : List C), refy xs = true → pu19 g xs = none := hno_ext hno18 nr19
theorem hit19 (s : List UInt8) (f : Int) (t : Int) (hc0 : s.length ≤ 1000000) (hc1 : -9223372036854775808 ≤ f ∧ f ≤ 9223372036854775807) (hc2 : -9223372036854775808 ≤ t ∧ t ≤ 9223372036854775807) : pu19 20 [.val (str s), .val (.int .i64 f), .val (.int .i64 t)] = some (.val (str (part s f t))) :=
  (ext_hit _).trans (tabOf_enc ij19 ⟨(s, f, t), ⟨hc0, hc1, hc2⟩⟩)
abbrev D20 := {q0 : (List Tok) × Nat // ((q0.2) < (q0.1).length ∧ (q0.1).length ≤ 1000000)}
def enc20 (q0 : D20) : List C := [sl tC .no (q0.1.1), .val (nI (q0.1.2))]
def out20 (q0 : D20) : C := .val (.bool (lastT (q0.1.1) (q0.1.2)))
noncomputable def pu20 : Nat → List C → Option C := Sx.ext pu19 59 (tabOf enc20 out20)
theorem nr20 (x : D20) : noRefs 0 (enc20 x) = true := by
  simp only [enc20, noRef_val, noRef_agg, noRef_tup, noRef_kp, noRef_sl, noRefs_cl, noRefs_cons, noRefs_nil, noRefs_app, Bool.and_self, Bool.and_true]
theorem ij20 (x y : D20) (h : enc20 x = enc20 y) : out20 x = out20 y := by
  simp only [enc20, List.cons.injEq, C.val.injEq, C.agg.injEq, C.kp.injEq, str_inj, nI_inj, nU_inj, w8_inj, w32_inj, cl_inj, sl_inj, Value.int.injEq, Value.bool.injEq, true_and, and_true] at h; simp only [out20, h]
theorem ok20 {gl : Nat → C} (hgn : ∀ g, noRef 0 (gl g) = true)  (M : Nat) : CxOK (cxP gl M pu20) := CxOK.ext2 (N := 0) (ok19 hgn  0) nr20 fun q0 => fc59 (ok19 hgn  0)  ((q0.1.1)) ((q0.1.2)) q0.2
theorem hno20 : ∀ (g : Nat) (xs : List C), refy xs = true → pu20 g xs = none := hno_ext hno19 nr20
theorem hit20 (l : List Tok) (i : Nat) (hc0 : i < l.length ∧ l.length ≤ 1000000) : pu20 59 [sl tC .no l, .val (nI i)] = some (.val (.bool (lastT l i))) :=
  (ext_hit _).trans (tabOf_enc ij20 ⟨(l, i), hc0⟩)
abbrev D21 := {q0 : (List Tok) × Nat // ((q0.2) < (q0.1).length ∧ (q0.1).length ≤ 1000000)}
def enc21 (q0 : D21) : List C := [sl tC .no (q0.1.1), .val (nI (q0.1.2))]
def out21 (q0 : D21) : C := .val (.bool (firstT (q0.1.1) (q0.1.2)))
noncomputable def pu21 : Nat → List C → Option C := Sx.ext pu20 53 (tabOf enc21 out21)
theorem nr21 (x : D21) : noRefs 0 (enc21 x) = true := by
  simp only [enc21, noRef_val, noRef_agg, noRef_tup, noRef_kp, noRef_sl, noRefs_cl, noRefs_cons, noRefs_nil, noRefs_app, Bool.and_self, Bool.and_true]
theorem ij21 (x y : D21) (h : enc21 x = enc21 y) : out21 x = out21 y := by
  simp only [enc21, List.cons.injEq, C.val.injEq, C.agg.injEq, C.kp.injEq, str_inj, nI_inj, nU_inj, w8_inj, w32_inj, cl_inj, sl_inj, Value.int.injEq, Value.bool.injEq, true_and, and_true] at h; simp only [out21, h]
theorem ok21 {gl : Nat → C} (hgn : ∀ g, noRef 0 (gl g) = true)  (M : Nat) : CxOK (cxP gl M pu21) := CxOK.ext2 (N := 0) (ok20 hgn  0) nr21 fun q0 => fc53 (ok20 hgn  0)  ((q0.1.1)) ((q0.1.2)) q0.2
theorem hno21 : ∀ (g : Nat) (xs : List C), refy xs = true → pu21 g xs = none := hno_ext hno20 nr21
theorem hit21 (l : List Tok) (i : Nat) (hc0 : i < l.length ∧ l.length ≤ 1000000) : pu21 53 [sl tC .no l, .val (nI i)] = some (.val (.bool (firstT l i))) :=
  (ext_hit _).trans (tabOf_enc ij21 ⟨(l, i), hc0⟩)
abbrev D22 := {q0 : (List UInt8) × (List Tok) × Nat // ((q0.2.2) < (q0.2.1).length ∧ (q0.2.1).length ≤ 1000000 ∧ (gt (q0.2.1) (q0.2.2)).a < (q0.1).length ∧ (q0.1).length ≤ 1000000)}
def enc22 (q0 : D22) : List C := [.val (str (q0.1.1)), sl tC .no (q0.1.2.1), .val (nI (q0.1.2.2))]
def out22 (q0 : D22) : C := .val (.bool (stopR (q0.1.1) (q0.1.2.1) (q0.1.2.2)))
noncomputable def pu22 : Nat → List C → Option C := Sx.ext pu21 52 (tabOf enc22 out22)
theorem nr22 (x : D22) : noRefs 0 (enc22 x) = true := by
  simp only [enc22, noRef_val, noRef_agg, noRef_tup, noRef_kp, noRef_sl, noRefs_cl, noRefs_cons, noRefs_nil, noRefs_app, Bool.and_self, Bool.and_true]
theorem ij22 (x y : D22) (h : enc22 x = enc22 y) : out22 x = out22 y := by
  simp only [enc22, List.cons.injEq, C.val.injEq, C.agg.injEq, C.kp.injEq, str_inj, nI_inj, nU_inj, w8_inj, w32_inj, cl_inj, sl_inj, Value.int.injEq, Value.bool.injEq, true_and, and_true] at h; simp only [out22, h]
theorem ok22 {gl : Nat → C} (hgn : ∀ g, noRef 0 (gl g) = true)  (M : Nat) : CxOK (cxP gl M pu22) := CxOK.ext2 (N := 0) (ok21 hgn  0) nr22 fun q0 => fc52 (ok21 hgn  0) (by intros; (iterate 1 refine (ext_miss (by decide) _).trans ?_); apply hit20 <;> first | assumption | omega) ((q0.1.1)) ((q0.1.2.1)) ((q0.1.2.2)) q0.2
theorem hno22 : ∀ (g : Nat) (xs : List C), refy xs = true → pu22 g xs = none := hno_ext hno21 nr22
theorem hit22 (s : List UInt8) (l : List Tok) (i : Nat) (hc0 : i < l.length ∧ l.length ≤ 1000000 ∧ (gt l i).a < s.length ∧ s.length ≤ 1000000) : pu22 52 [.val (str s), sl tC .no l, .val (nI i)] = some (.val (.bool (stopR s l i))) :=
  (ext_hit _).trans (tabOf_enc ij22 ⟨(s, l, i), hc0⟩)
abbrev D23 := {q0 : (List UInt8) // ((q0).length ≤ 1000000)}
def enc23 (q0 : D23) : List C := [.val (str (q0.1))]
def out23 (q0 : D23) : C := sl pC (.own 2) (sents (q0.1))
noncomputable def pu23 : Nat → List C → Option C := Sx.ext pu22 29 (tabOf enc23 out23)
theorem nr23 (x : D23) : noRefs 0 (enc23 x) = true := by
  simp only [enc23, noRef_val, noRef_agg, noRef_tup, noRef_kp, noRef_sl, noRefs_cl, noRefs_cons, noRefs_nil, noRefs_app, Bool.and_self, Bool.and_true]
theorem ok23 {gl : Nat → C} (hgn : ∀ g, noRef 0 (gl g) = true)  (M : Nat) : CxOK (cxP gl M pu23) := CxOK.ext2 (N := 0) (ok22 hgn  0) nr23 fun q0 => fc29 (ok22 hgn  0) (by intros; (iterate 20 refine (ext_miss (by decide) _).trans ?_); apply hit2 <;> first | assumption | omega) (by intros; apply hit22 <;> first | assumption | omega) ((q0.1)) q0.2
theorem hno23 : ∀ (g : Nat) (xs : List C), refy xs = true → pu23 g xs = none := hno_ext hno22 nr23
abbrev D24 := {q0 : (List UInt8) × Nat // ((q0.2) < (q0.1).length ∧ (q0.1).length ≤ 1000000)}
def enc24 (q0 : D24) : List C := [.val (nI (q0.1.2)), .kp [.val (str (q0.1.1))]]
def out24 (q0 : D24) : C := .val (.bool (badAt (q0.1.1) (q0.1.2)))
noncomputable def pu24 : Nat → List C → Option C := Sx.ext pu23 43 (tabOf enc24 out24)
theorem nr24 (x : D24) : noRefs 0 (enc24 x) = true := by
  simp only [enc24, noRef_val, noRef_agg, noRef_tup, noRef_kp, noRef_sl, noRefs_cl, noRefs_cons, noRefs_nil, noRefs_app, Bool.and_self, Bool.and_true]
theorem ij24 (x y : D24) (h : enc24 x = enc24 y) : out24 x = out24 y := by
  simp only [enc24, List.cons.injEq, C.val.injEq, C.agg.injEq, C.kp.injEq, str_inj, nI_inj, nU_inj, w8_inj, w32_inj, cl_inj, sl_inj, Value.int.injEq, Value.bool.injEq, true_and, and_true] at h; simp only [out24, h]
theorem ok24 {gl : Nat → C} (hgn : ∀ g, noRef 0 (gl g) = true)  (M : Nat) : CxOK (cxP gl M pu24) := CxOK.ext2 (N := 0) (ok23 hgn  0) nr24 fun q0 => fc43 (ok23 hgn  0)  ((q0.1.1)) ((q0.1.2)) q0.2
theorem hno24 : ∀ (g : Nat) (xs : List C), refy xs = true → pu24 g xs = none := hno_ext hno23 nr24
theorem hit24 (s : List UInt8) (i : Nat) (hc0 : i < s.length ∧ s.length ≤ 1000000) : pu24 43 [.val (nI i), .kp [.val (str s)]] = some (.val (.bool (badAt s i))) :=
  (ext_hit _).trans (tabOf_enc ij24 ⟨(s, i), hc0⟩)
abbrev D25 := {q0 : (List UInt8) // ((q0).length ≤ 1000000)}
def enc25 (q0 : D25) : List C := [.val (str (q0.1))]
def out25 (q0 : D25) : C := .val (nI (validE (q0.1)))
noncomputable def pu25 : Nat → List C → Option C := Sx.ext pu24 12 (tabOf enc25 out25)
theorem nr25 (x : D25) : noRefs 0 (enc25 x) = true := by
  simp only [enc25, noRef_val, noRef_agg, noRef_tup, noRef_kp, noRef_sl, noRefs_cl, noRefs_cons, noRefs_nil, noRefs_app, Bool.and_self, Bool.and_true]
theorem ij25 (x y : D25) (h : enc25 x = enc25 y) : out25 x = out25 y := by
  simp only [enc25, List.cons.injEq, C.val.injEq, C.agg.injEq, C.kp.injEq, str_inj, nI_inj, nU_inj, w8_inj, w32_inj, cl_inj, sl_inj, Value.int.injEq, Value.bool.injEq, true_and, and_true] at h; simp only [out25, h]
theorem ok25 {gl : Nat → C} (hgn : ∀ g, noRef 0 (gl g) = true)  (M : Nat) : CxOK (cxP gl M pu25) := CxOK.ext2 (N := 0) (ok24 hgn  0) nr25 fun q0 => fc12 (ok24 hgn  0) (by intros; (iterate 19 refine (ext_miss (by decide) _).trans ?_); apply hit5 <;> first | assumption | omega) (by intros; apply hit24 <;> first | assumption | omega) hno24 ((q0.1)) q0.2
theorem hno25 : ∀ (g : Nat) (xs : List C), refy xs = true → pu25 g xs = none := hno_ext hno24 nr25
theorem hit25 (s : List UInt8) (hc0 : s.length ≤ 1000000) : pu25 12 [.val (str s)] = some (.val (nI (validE s))) :=
  (ext_hit _).trans (tabOf_enc ij25 ⟨(s), hc0⟩)
abbrev D26 := {q0 : (List UInt8) // ((q0).length ≤ 1000000)}
def enc26 (q0 : D26) : List C := [.val (str (q0.1))]
def out26 (q0 : D26) : C := .val (nI (validE (q0.1)))
noncomputable def pu26 : Nat → List C → Option C := Sx.ext pu25 13 (tabOf enc26 out26)
theorem nr26 (x : D26) : noRefs 0 (enc26 x) = true := by
  simp only [enc26, noRef_val, noRef_agg, noRef_tup, noRef_kp, noRef_sl, noRefs_cl, noRefs_cons, noRefs_nil, noRefs_app, Bool.and_self, Bool.and_true]
theorem ij26 (x y : D26) (h : enc26 x = enc26 y) : out26 x = out26 y := by
  simp only [enc26, List.cons.injEq, C.val.injEq, C.agg.injEq, C.kp.injEq, str_inj, nI_inj, nU_inj, w8_inj, w32_inj, cl_inj, sl_inj, Value.int.injEq, Value.bool.injEq, true_and, and_true] at h; simp only [out26, h]
theorem ok26 {gl : Nat → C} (hgn : ∀ g, noRef 0 (gl g) = true)  (M : Nat) : CxOK (cxP gl M pu26) := CxOK.ext2 (N := 0) (ok25 hgn  0) nr26 fun q0 => fc13 (ok25 hgn  0) (by intros; (iterate 23 refine (ext_miss (by decide) _).trans ?_); apply hit2 <;> first | assumption | omega) ((q0.1)) q0.2
theorem hno26 : ∀ (g : Nat) (xs : List C), refy xs = true → pu26 g xs = none := hno_ext hno25 nr26
theorem hit26 (s : List UInt8) (hc0 : s.length ≤ 1000000) : pu26 13 [.val (str s)] = some (.val (nI (validE s))) :=
  (ext_hit _).trans (tabOf_enc ij26 ⟨(s), hc0⟩)
abbrev D27 := {q0 : (List UInt8) × (List UInt8) // ((q0.1).length ≤ 1000000) ∧ ((q0.2).length ≤ 1000000)}
def enc27 (q0 : D27) : List C := [.val (str (q0.1.1)), .val (str (q0.1.2))]
def out27 (q0 : D27) : C := .val (str (joinT (q0.1.1) (q0.1.2)))
noncomputable def pu27 : Nat → List C → Option C := Sx.ext pu26 33 (tabOf enc27 out27)
theorem nr27 (x : D27) : noRefs 0 (enc27 x) = true := by
  simp only [enc27, noRef_val, noRef_agg, noRef_tup, noRef_kp, noRef_sl, noRefs_cl, noRefs_cons, noRefs_nil, noRefs_app, Bool.and_self, Bool.and_true]
theorem ij27 (x y : D27) (h : enc27 x = enc27 y) : out27 x = out27 y := by
  simp only [enc27, List.cons.injEq, C.val.injEq, C.agg.injEq, C.kp.injEq, str_inj, nI_inj, nU_inj, w8_inj, w32_inj, cl_inj, sl_inj, Value.int.injEq, Value.bool.injEq, true_and, and_true] at h; simp only [out27, h]
theorem ok27 {gl : Nat → C} (hgn : ∀ g, noRef 0 (gl g) = true)  (M : Nat) : CxOK (cxP gl M pu27) := CxOK.ext2 (N := 0) (ok26 hgn  0) nr27 fun q0 => fc33 (ok26 hgn  0)  ((q0.1.1)) ((q0.1.2)) q0.2.1 q0.2.2
theorem hno27 : ∀ (g : Nat) (xs : List C), refy xs = true → pu27 g xs = none := hno_ext hno26 nr27
theorem hit27 (a : List UInt8) (b : List UInt8) (hc0 : a.length ≤ 1000000) (hc1 : b.length ≤ 1000000) : pu27 33 [.val (str a), .val (str b)] = some (.val (str (joinT a b))) :=
  (ext_hit _).trans (tabOf_enc ij27 ⟨(a, b), ⟨hc0, hc1⟩⟩)
abbrev D28 := {q0 : (List UInt8) × (List UInt8) // ((q0.1).length ≤ 1000000) ∧ ((q0.2).length ≤ 1000000)}
def enc28 (q0 : D28) : List C := [.val (str (q0.1.1)), .val (str (q0.1.2))]
def out28 (q0 : D28) : C := .val (str (joinT (q0.1.1) (q0.1.2)))
noncomputable def pu28 : Nat → List C → Option C := Sx.ext pu27 34 (tabOf enc28 out28)
theorem nr28 (x : D28) : noRefs 0 (enc28 x) = true := by
  simp only [enc28, noRef_val, noRef_agg, noRef_tup, noRef_kp, noRef_sl, noRefs_cl, noRefs_cons, noRefs_nil, noRefs_app, Bool.and_self, Bool.and_true]
theorem ok28 {gl : Nat → C} (hgn : ∀ g, noRef 0 (gl g) = true)  (M : Nat) : CxOK (cxP gl M pu28) := CxOK.ext2 (N := 0) (ok27 hgn  0) nr28 fun q0 => fc34 (ok27 hgn  0)  ((q0.1.1)) ((q0.1.2)) q0.2.1 q0.2.2
theorem hno28 : ∀ (g : Nat) (xs : List C), refy xs = true → pu28 g xs = none := hno_ext hno27 nr28
abbrev D29 := {q0 : (List UInt8) × Int // ((q0.1).length ≤ 1000000) ∧ (-9223372036854775808 ≤ (q0.2) ∧ (q0.2) ≤ 9223372036854775807)}
def enc29 (q0 : D29) : List C := [.val (str (q0.1.1)), .val (.int .i64 (q0.1.2))]
def out29 (q0 : D29) : C := .tup [.val (str (cutT (q0.1.1) (q0.1.2)).1), .val (str (cutT (q0.1.1) (q0.1.2)).2.1), .val (nI (cutT (q0.1.1) (q0.1.2)).2.2)]
noncomputable def pu29 : Nat → List C → Option C := Sx.ext pu28 35 (tabOf enc29 out29)
theorem nr29 (x : D29) : noRefs 0 (enc29 x) = true := by
  simp only [enc29, noRef_val, noRef_agg, noRef_tup, noRef_kp, noRef_sl, noRefs_cl, noRefs_cons, noRefs_nil, noRefs_app, Bool.and_self, Bool.and_true]
theorem ij29 (x y : D29) (h : enc29 x = enc29 y) : out29 x = out29 y := by
  simp only [enc29, List.cons.injEq, C.val.injEq, C.agg.injEq, C.kp.injEq, str_inj, nI_inj, nU_inj, w8_inj, w32_inj, cl_inj, sl_inj, Value.int.injEq, Value.bool.injEq, true_and, and_true] at h; simp only [out29, h]
theorem ok29 {gl : Nat → C} (hgn : ∀ g, noRef 0 (gl g) = true)  (M : Nat) : CxOK (cxP gl M pu29) := CxOK.ext2 (N := 0) (ok28 hgn  0) nr29 fun q0 => fc35 (ok28 hgn  0) (by intros; (iterate 3 refine (ext_miss (by decide) _).trans ?_); apply hit25 <;> first | assumption | omega) (by intros; (iterate 23 refine (ext_miss (by decide) _).trans ?_); apply hit5 <;> first | assumption | omega) ((q0.1.1)) ((q0.1.2)) q0.2.1 q0.2.2
theorem hno29 : ∀ (g : Nat) (xs : List C), refy xs = true → pu29 g xs = none := hno_ext hno28 nr29
theorem hit29 (s : List UInt8) (k : Int) (hc0 : s.length ≤ 1000000) (hc1 : -9223372036854775808 ≤ k ∧ k ≤ 9223372036854775807) : pu29 35 [.val (str s), .val (.int .i64 k)] = some (.tup [.val (str (cutT s k).1), .val (str (cutT s k).2.1), .val (nI (cutT s k).2.2)]) :=
  (ext_hit _).trans (tabOf_enc ij29 ⟨(s, k), ⟨hc0, hc1⟩⟩)
abbrev D30 := {q0 : (List UInt8) × Int // ((q0.1).length ≤ 1000000) ∧ (-9223372036854775808 ≤ (q0.2) ∧ (q0.2) ≤ 9223372036854775807)}
def enc30 (q0 : D30) : List C := [.val (str (q0.1.1)), .val (.int .i64 (q0.1.2))]
def out30 (q0 : D30) : C := .tup [.val (str (cutT (q0.1.1) (q0.1.2)).1), .val (str (cutT (q0.1.1) (q0.1.2)).2.1), .val (nI (cutT (q0.1.1) (q0.1.2)).2.2)]
noncomputable def pu30 : Nat → List C → Option C := Sx.ext pu29 36 (tabOf enc30 out30)
theorem nr30 (x : D30) : noRefs 0 (enc30 x) = true := by
  simp only [enc30, noRef_val, noRef_agg, noRef_tup, noRef_kp, noRef_sl, noRefs_cl, noRefs_cons, noRefs_nil, noRefs_app, Bool.and_self, Bool.and_true]
theorem ok30 {gl : Nat → C} (hgn : ∀ g, noRef 0 (gl g) = true)  (M : Nat) : CxOK (cxP gl M pu30) := CxOK.ext2 (N := 0) (ok29 hgn  0) nr30 fun q0 => fc36 (ok29 hgn  0) (by intros; (iterate 3 refine (ext_miss (by decide) _).trans ?_); apply hit26 <;> first | assumption | omega) (by intros; (iterate 27 refine (ext_miss (by decide) _).trans ?_); apply hit2 <;> first | assumption | omega) (by intros; (iterate 8 refine (ext_miss (by decide) _).trans ?_); apply hit21 <;> first | assumption | omega) ((q0.1.1)) ((q0.1.2)) q0.2.1 q0.2.2
theorem hno30 : ∀ (g : Nat) (xs : List C), refy xs = true → pu30 g xs = none := hno_ext hno29 nr30
abbrev D31 := {q0 : (List UInt8) × UInt8 // True}
def enc31 (q0 : D31) : List C := [.val (str (q0.1.1)), .val (w8 (q0.1.2))]
def out31 (q0 : D31) : C := .val (.int .i64 (Lib.indexByte (q0.1.1) (q0.1.2)))
noncomputable def pu31 : Nat → List C → Option C := Sx.ext pu30 51 (tabOf enc31 out31)
theorem nr31 (x : D31) : noRefs 0 (enc31 x) = true := by
  simp only [enc31, noRef_val, noRef_agg, noRef_tup, noRef_kp, noRef_sl, noRefs_cl, noRefs_cons, noRefs_nil, noRefs_app, Bool.and_self, Bool.and_true]
theorem ij31 (x y : D31) (h : enc31 x = enc31 y) : out31 x = out31 y := by
  simp only [enc31, List.cons.injEq, C.val.injEq, C.agg.injEq, C.kp.injEq, str_inj, nI_inj, nU_inj, w8_inj, w32_inj, cl_inj, sl_inj, Value.int.injEq, Value.bool.injEq, true_and, and_true] at h; simp only [out31, h]
theorem ok31 {gl : Nat → C} (hgn : ∀ g, noRef 0 (gl g) = true)  (M : Nat) : CxOK (cxP gl M pu31) := CxOK.ext2 (N := 0) (ok30 hgn  0) nr31 fun q0 => fc51x (ok30 hgn  0)  ((q0.1.1)) ((q0.1.2))
theorem hno31 : ∀ (g : Nat) (xs : List C), refy xs = true → pu31 g xs = none := hno_ext hno30 nr31
theorem hit31 (l : List UInt8) (c : UInt8)  : pu31 51 [.val (str l), .val (w8 c)] = some (.val (.int .i64 (Lib.indexByte l c))) :=
  (ext_hit _).trans (tabOf_enc ij31 ⟨(l, c), trivial⟩)
abbrev D32 := {q0 : (List UInt8) × (List Tok) × Nat // ((q0.2.2) + 1 < (q0.2.1).length ∧ (q0.2.1).length ≤ 1000000 ∧ (gt (q0.2.1) (q0.2.2)).a < (q0.1).length ∧ (q0.1).length ≤ 1000000)}
def enc32 (q0 : D32) : List C := [.val (nI (q0.1.2.2)), .kp [.val (str (q0.1.1))], .kp [sl tC .no (q0.1.2.1)]]
def out32 (q0 : D32) : C := .val (.bool (stopI (q0.1.1) (q0.1.2.1) (q0.1.2.2)))
noncomputable def pu32 : Nat → List C → Option C := Sx.ext pu31 50 (tabOf enc32 out32)
theorem nr32 (x : D32) : noRefs 0 (enc32 x) = true := by
  simp only [enc32, noRef_val, noRef_agg, noRef_tup, noRef_kp, noRef_sl, noRefs_cl, noRefs_cons, noRefs_nil, noRefs_app, Bool.and_self, Bool.and_true]
theorem ij32 (x y : D32) (h : enc32 x = enc32 y) : out32 x = out32 y := by
  simp only [enc32, List.cons.injEq, C.val.injEq, C.agg.injEq, C.kp.injEq, str_inj, nI_inj, nU_inj, w8_inj, w32_inj, cl_inj, sl_inj, Value.int.injEq, Value.bool.injEq, true_and, and_true] at h; simp only [out32, h]
theorem ok32 {gl : Nat → C} (hgn : ∀ g, noRef 0 (gl g) = true)  (M : Nat) : CxOK (cxP gl M pu32) := CxOK.ext2 (N := 0) (ok31 hgn  0) nr32 fun q0 => fc50 (ok31 hgn  0) (by intros; apply hit31 <;> first | assumption | omega) ((q0.1.1)) ((q0.1.2.1)) ((q0.1.2.2)) q0.2
theorem hno32 : ∀ (g : Nat) (xs : List C), refy xs = true → pu32 g xs = none := hno_ext hno31 nr32
theorem hit32 (s : List UInt8) (l : List Tok) (i : Nat) (hc0 : i + 1 < l.length ∧ l.length ≤ 1000000 ∧ (gt l i).a < s.length ∧ s.length ≤ 1000000) : pu32 50 [.val (nI i), .kp [.val (str s)], .kp [sl tC .no l]] = some (.val (.bool (stopI s l i))) :=
  (ext_hit _).trans (tabOf_enc ij32 ⟨(s, l, i), hc0⟩)
abbrev D33 := {q0 : (List UInt8) // ((q0).length ≤ 1000000)}
def enc33 (q0 : D33) : List C := [.val (str (q0.1))]
def out33 (q0 : D33) : C := sl pC (.own 2) (sents (q0.1))
noncomputable def pu33 : Nat → List C → Option C := Sx.ext pu32 28 (tabOf enc33 out33)
theorem nr33 (x : D33) : noRefs 0 (enc33 x) = true := by
  simp only [enc33, noRef_val, noRef_agg, noRef_tup, noRef_kp, noRef_sl, noRefs_cl, noRefs_cons, noRefs_nil, noRefs_app, Bool.and_self, Bool.and_true]
theorem ij33 (x y : D33) (h : enc33 x = enc33 y) : out33 x = out33 y := by
  simp only [enc33, List.cons.injEq, C.val.injEq, C.agg.injEq, C.kp.injEq, str_inj, nI_inj, nU_inj, w8_inj, w32_inj, cl_inj, sl_inj, Value.int.injEq, Value.bool.injEq, true_and, and_true] at h; simp only [out33, h]
theorem ok33 {gl : Nat → C} (hgn : ∀ g, noRef 0 (gl g) = true)  (M : Nat) : CxOK (cxP gl M pu33) := CxOK.ext2 (N := 0) (ok32 hgn  0) nr33 fun q0 => fc28x (ok32 hgn  0) (by intros; (iterate 27 refine (ext_miss (by decide) _).trans ?_); apply hit5 <;> first | assumption | omega) (by intros; apply hit32 <;> first | assumption | omega) hno32 ((q0.1)) q0.2
theorem hno33 : ∀ (g : Nat) (xs : List C), refy xs = true → pu33 g xs = none := hno_ext hno32 nr33
theorem hit33 (s : List UInt8) (hc0 : s.length ≤ 1000000) : pu33 28 [.val (str s)] = some (sl pC (.own 2) (sents s)) :=
  (ext_hit _).trans (tabOf_enc ij33 ⟨(s), hc0⟩)
abbrev D34 := {q0 : Int × Nat // (-9223372036854775808 ≤ (q0.1) ∧ (q0.1) ≤ 9223372036854775807 ∧ 0 < (q0.2) ∧ (q0.2) ≤ 9223372036854775807)}
def enc34 (q0 : D34) : List C := [.val (.int .i64 (q0.1.1)), .val (nI (q0.1.2))]
def out34 (q0 : D34) : C := .val (nI (aroundI (q0.1.1) (q0.1.2)))
noncomputable def pu34 : Nat → List C → Option C := Sx.ext pu33 19 (tabOf enc34 out34)
theorem nr34 (x : D34) : noRefs 0 (enc34 x) = true := by
  simp only [enc34, noRef_val, noRef_agg, noRef_tup, noRef_kp, noRef_sl, noRefs_cl, noRefs_cons, noRefs_nil, noRefs_app, Bool.and_self, Bool.and_true]
theorem ij34 (x y : D34) (h : enc34 x = enc34 y) : out34 x = out34 y := by
  simp only [enc34, List.cons.injEq, C.val.injEq, C.agg.injEq, C.kp.injEq, str_inj, nI_inj, nU_inj, w8_inj, w32_inj, cl_inj, sl_inj, Value.int.injEq, Value.bool.injEq, true_and, and_true] at h; simp only [out34, h]
theorem ok34 {gl : Nat → C} (hgn : ∀ g, noRef 0 (gl g) = true)  (M : Nat) : CxOK (cxP gl M pu34) := CxOK.ext2 (N := 0) (ok33 hgn  0) nr34 fun q0 => fc19 (ok33 hgn  0)  ((q0.1.1)) ((q0.1.2)) q0.2
theorem hno34 : ∀ (g : Nat) (xs : List C), refy xs = true → pu34 g xs = none := hno_ext hno33 nr34
theorem hit34 (n : Int) (m : Nat) (hc0 : -9223372036854775808 ≤ n ∧ n ≤ 9223372036854775807 ∧ 0 < m ∧ m ≤ 9223372036854775807) : pu34 19 [.val (.int .i64 n), .val (nI m)] = some (.val (nI (aroundI n m))) :=
  (ext_hit _).trans (tabOf_enc ij34 ⟨(n, m), hc0⟩)
abbrev D35 := {q0 : (List Int) × Nat × Nat // (LI (q0.1)) ∧ ((q0.2.1) ≤ 1000000) ∧ (0 < (q0.2.2) ∧ (q0.2.2) ≤ 9223372036854775807)}
def enc35 (q0 : D35) : List C := [sl iC .no (q0.1.1), .val (nI (q0.1.2.1)), .val (nI (q0.1.2.2))]
def out35 (q0 : D35) : C := .val (nI (atI (q0.1.1) (q0.1.2.1) (q0.1.2.2)))
noncomputable def pu35 : Nat → List C → Option C := Sx.ext pu34 54 (tabOf enc35 out35)
theorem nr35 (x : D35) : noRefs 0 (enc35 x) = true := by
  simp only [enc35, noRef_val, noRef_agg, noRef_tup, noRef_kp, noRef_sl, noRefs_cl, noRefs_cons, noRefs_nil, noRefs_app, Bool.and_self, Bool.and_true]
theorem ij35 (x y : D35) (h : enc35 x = enc35 y) : out35 x = out35 y := by
  simp only [enc35, List.cons.injEq, C.val.injEq, C.agg.injEq, C.kp.injEq, str_inj, nI_inj, nU_inj, w8_inj, w32_inj, cl_inj, sl_inj, Value.int.injEq, Value.bool.injEq, true_and, and_true] at h; simp only [out35, h]
theorem ok35 {gl : Nat → C} (hgn : ∀ g, noRef 0 (gl g) = true)  (M : Nat) : CxOK (cxP gl M pu35) := CxOK.ext2 (N := 0) (ok34 hgn  0) nr35 fun q0 => fc54 (ok34 hgn  0) (by intros; apply hit34 <;> first | assumption | omega) ((q0.1.1)) ((q0.1.2.1)) ((q0.1.2.2)) q0.2.1 q0.2.2.1 q0.2.2.2
theorem hno35 : ∀ (g : Nat) (xs : List C), refy xs = true → pu35 g xs = none := hno_ext hno34 nr35
theorem hit35 (l : List Int) (i : Nat) (m : Nat) (hc0 : LI l) (hc1 : i ≤ 1000000) (hc2 : 0 < m ∧ m ≤ 9223372036854775807) : pu35 54 [sl iC .no l, .val (nI i), .val (nI m)] = some (.val (nI (atI l i m))) :=
  (ext_hit _).trans (tabOf_enc ij35 ⟨(l, i, m), ⟨hc0, hc1, hc2⟩⟩)
abbrev D36 := {q0 : (List UInt8) // ((q0).length ≤ 1000000)}
def enc36 (q0 : D36) : List C := [.val (str (q0.1))]
def out36 (q0 : D36) : C := .val (str (capT (q0.1)))
noncomputable def pu36 : Nat → List C → Option C := Sx.ext pu35 60 (tabOf enc36 out36)
theorem nr36 (x : D36) : noRefs 0 (enc36 x) = true := by
  simp only [enc36, noRef_val, noRef_agg, noRef_tup, noRef_kp, noRef_sl, noRefs_cl, noRefs_cons, noRefs_nil, noRefs_app, Bool.and_self, Bool.and_true]
theorem ij36 (x y : D36) (h : enc36 x = enc36 y) : out36 x = out36 y := by
  simp only [enc36, List.cons.injEq, C.val.injEq, C.agg.injEq, C.kp.injEq, str_inj, nI_inj, nU_inj, w8_inj, w32_inj, cl_inj, sl_inj, Value.int.injEq, Value.bool.injEq, true_and, and_true] at h; simp only [out36, h]
theorem ok36 {gl : Nat → C} (hgn : ∀ g, noRef 0 (gl g) = true)  (M : Nat) : CxOK (cxP gl M pu36) := CxOK.ext2 (N := 0) (ok35 hgn  0) nr36 fun q0 => fc60 (ok35 hgn  0)  ((q0.1)) q0.2
theorem hno36 : ∀ (g : Nat) (xs : List C), refy xs = true → pu36 g xs = none := hno_ext hno35 nr36
theorem hit36 (w : List UInt8) (hc0 : w.length ≤ 1000000) : pu36 60 [.val (str w)] = some (.val (str (capT w))) :=
  (ext_hit _).trans (tabOf_enc ij36 ⟨(w), hc0⟩)
abbrev D37 := {q0 : (List UInt8) × Nat // (0 < (q0.1).length ∧ (q0.1).length ≤ 1000 ∧ (q0.2) ≤ 100000)}
def enc37 (q0 : D37) : List C := [.val (str (q0.1.1)), .val (nI (q0.1.2))]
def out37 (q0 : D37) : C := .val (str (repT (q0.1.1) (q0.1.2)))
noncomputable def pu37 : Nat → List C → Option C := Sx.ext pu36 55 (tabOf enc37 out37)
theorem nr37 (x : D37) : noRefs 0 (enc37 x) = true := by
  simp only [enc37, noRef_val, noRef_agg, noRef_tup, noRef_kp, noRef_sl, noRefs_cl, noRefs_cons, noRefs_nil, noRefs_app, Bool.and_self, Bool.and_true]
theorem ij37 (x y : D37) (h : enc37 x = enc37 y) : out37 x = out37 y := by
  simp only [enc37, List.cons.injEq, C.val.injEq, C.agg.injEq, C.kp.injEq, str_inj, nI_inj, nU_inj, w8_inj, w32_inj, cl_inj, sl_inj, Value.int.injEq, Value.bool.injEq, true_and, and_true] at h; simp only [out37, h]
theorem ok37 {gl : Nat → C} (hgn : ∀ g, noRef 0 (gl g) = true)  (M : Nat) : CxOK (cxP gl M pu37) := CxOK.ext2 (N := 0) (ok36 hgn  0) nr37 fun q0 => fc55 (ok36 hgn  0)  ((q0.1.1)) ((q0.1.2)) q0.2
theorem hno37 : ∀ (g : Nat) (xs : List C), refy xs = true → pu37 g xs = none := hno_ext hno36 nr37
theorem hit37 (s : List UInt8) (n : Nat) (hc0 : 0 < s.length ∧ s.length ≤ 1000 ∧ n ≤ 100000) : pu37 55 [.val (str s), .val (nI n)] = some (.val (str (repT s n))) :=
  (ext_hit _).trans (tabOf_enc ij37 ⟨(s, n), hc0⟩)
abbrev D38 := {q0 : (List UInt8) × Nat // ((q0.1).length ≤ 1000000) ∧ ((q0.2) ≤ 1000000)}
def enc38 (q0 : D38) : List C := [.val (str (q0.1.1)), .val (nI (q0.1.2))]
def out38 (q0 : D38) : C := .val (str (dresT (q0.1.1) (q0.1.2)))
noncomputable def pu38 : Nat → List C → Option C := Sx.ext pu37 56 (tabOf enc38 out38)
theorem nr38 (x : D38) : noRefs 0 (enc38 x) = true := by
  simp only [enc38, noRef_val, noRef_agg, noRef_tup, noRef_kp, noRef_sl, noRefs_cl, noRefs_cons, noRefs_nil, noRefs_app, Bool.and_self, Bool.and_true]
theorem ij38 (x y : D38) (h : enc38 x = enc38 y) : out38 x = out38 y := by
  simp only [enc38, List.cons.injEq, C.val.injEq, C.agg.injEq, C.kp.injEq, str_inj, nI_inj, nU_inj, w8_inj, w32_inj, cl_inj, sl_inj, Value.int.injEq, Value.bool.injEq, true_and, and_true] at h; simp only [out38, h]
theorem ok38 {gl : Nat → C} (hgn : ∀ g, noRef 0 (gl g) = true)  (M : Nat) : CxOK (cxP gl M pu38) := CxOK.ext2 (N := 0) (ok37 hgn  0) nr38 fun q0 => fc56 (ok37 hgn  0) (by intros; (iterate 1 refine (ext_miss (by decide) _).trans ?_); apply hit36 <;> first | assumption | omega) ((q0.1.1)) ((q0.1.2)) q0.2.1 q0.2.2
theorem hno38 : ∀ (g : Nat) (xs : List C), refy xs = true → pu38 g xs = none := hno_ext hno37 nr38
theorem hit38 (w : List UInt8) (n : Nat) (hc0 : w.length ≤ 1000000) (hc1 : n ≤ 1000000) : pu38 56 [.val (str w), .val (nI n)] = some (.val (str (dresT w n))) :=
  (ext_hit _).trans (tabOf_enc ij38 ⟨(w, n), ⟨hc0, hc1⟩⟩)
abbrev D39 := {q0 : (List Int) × Nat // (LI (q0.1)) ∧ ((q0.2) ≤ 1000)}
def enc39 (q0 : D39) : List C := [sl iC .no (q0.1.1), .val (nI (q0.1.2))]
def out39 (q0 : D39) : C := .val (str (textT (q0.1.1) (q0.1.2)))
noncomputable def pu39 : Nat → List C → Option C := Sx.ext pu38 41 (tabOf enc39 out39)
theorem nr39 (x : D39) : noRefs 0 (enc39 x) = true := by
  simp only [enc39, noRef_val, noRef_agg, noRef_tup, noRef_kp, noRef_sl, noRefs_cl, noRefs_cons, noRefs_nil, noRefs_app, Bool.and_self, Bool.and_true]
theorem ij39 (x y : D39) (h : enc39 x = enc39 y) : out39 x = out39 y := by
  simp only [enc39, List.cons.injEq, C.val.injEq, C.agg.injEq, C.kp.injEq, str_inj, nI_inj, nU_inj, w8_inj, w32_inj, cl_inj, sl_inj, Value.int.injEq, Value.bool.injEq, true_and, and_true] at h; simp only [out39, h]
theorem ok39 {gl : Nat → C} (hgn : ∀ g, noRef 0 (gl g) = true)  (M : Nat) : CxOK (cxP gl M pu39) := CxOK.ext2 (N := 0) (ok38 hgn  0) nr39 fun q0 => fc41 (ok38 hgn  0) (by intros; (iterate 3 refine (ext_miss (by decide) _).trans ?_); apply hit35 <;> first | assumption | omega) (by intros; apply hit38 <;> first | assumption | omega) ((q0.1.1)) ((q0.1.2)) q0.2.1 q0.2.2
theorem hno39 : ∀ (g : Nat) (xs : List C), refy xs = true → pu39 g xs = none := hno_ext hno38 nr39
theorem hit39 (l : List Int) (k : Nat) (hc0 : LI l) (hc1 : k ≤ 1000) : pu39 41 [sl iC .no l, .val (nI k)] = some (.val (str (textT l k))) :=
  (ext_hit _).trans (tabOf_enc ij39 ⟨(l, k), ⟨hc0, hc1⟩⟩)
abbrev D40 := {q0 : (List Int) // (LI (q0))}
def enc40 (q0 : D40) : List C := [sl iC .no (q0.1)]
def out40 (q0 : D40) : C := .val (str (wildT (q0.1)))
noncomputable def pu40 : Nat → List C → Option C := Sx.ext pu39 42 (tabOf enc40 out40)
theorem nr40 (x : D40) : noRefs 0 (enc40 x) = true := by
  simp only [enc40, noRef_val, noRef_agg, noRef_tup, noRef_kp, noRef_sl, noRefs_cl, noRefs_cons, noRefs_nil, noRefs_app, Bool.and_self, Bool.and_true]
theorem ij40 (x y : D40) (h : enc40 x = enc40 y) : out40 x = out40 y := by
  simp only [enc40, List.cons.injEq, C.val.injEq, C.agg.injEq, C.kp.injEq, str_inj, nI_inj, nU_inj, w8_inj, w32_inj, cl_inj, sl_inj, Value.int.injEq, Value.bool.injEq, true_and, and_true] at h; simp only [out40, h]
theorem ok40 {gl : Nat → C} (hgn : ∀ g, noRef 0 (gl g) = true)  (M : Nat) : CxOK (cxP gl M pu40) := CxOK.ext2 (N := 0) (ok39 hgn  0) nr40 fun q0 => fc42 (ok39 hgn  0) (by intros; (iterate 5 refine (ext_miss (by decide) _).trans ?_); apply hit34 <;> first | assumption | omega) ((q0.1)) q0.2
theorem hno40 : ∀ (g : Nat) (xs : List C), refy xs = true → pu40 g xs = none := hno_ext hno39 nr40
theorem hit40 (l : List Int) (hc0 : LI l) : pu40 42 [sl iC .no l] = some (.val (str (wildT l))) :=
  (ext_hit _).trans (tabOf_enc ij40 ⟨(l), hc0⟩)
abbrev D41 := {q0 : (List Int) × Nat // (LI (q0.1)) ∧ ((q0.2) ≤ 900)}
def enc41 (q0 : D41) : List C := [sl iC .no (q0.1.1), .val (nI (q0.1.2))]
def out41 (q0 : D41) : C := .val (str (markT (q0.1.1) (q0.1.2)))
noncomputable def pu41 : Nat → List C → Option C := Sx.ext pu40 37 (tabOf enc41 out41)
theorem nr41 (x : D41) : noRefs 0 (enc41 x) = true := by
  simp only [enc41, noRef_val, noRef_agg, noRef_tup, noRef_kp, noRef_sl, noRefs_cl, noRefs_cons, noRefs_nil, noRefs_app, Bool.and_self, Bool.and_true]
theorem ij41 (x y : D41) (h : enc41 x = enc41 y) : out41 x = out41 y := by
  simp only [enc41, List.cons.injEq, C.val.injEq, C.agg.injEq, C.kp.injEq, str_inj, nI_inj, nU_inj, w8_inj, w32_inj, cl_inj, sl_inj, Value.int.injEq, Value.bool.injEq, true_and, and_true] at h; simp only [out41, h]
theorem ok41 {gl : Nat → C} (hgn : ∀ g, noRef 0 (gl g) = true)  (M : Nat) : CxOK (cxP gl M pu41) := CxOK.ext2 (N := 0) (ok40 hgn  0) nr41 fun q0 => fc37 (ok40 hgn  0) (by intros; (iterate 5 refine (ext_miss (by decide) _).trans ?_); apply hit35 <;> first | assumption | omega) (by intros; (iterate 1 refine (ext_miss (by decide) _).trans ?_); apply hit39 <;> first | assumption | omega) ((q0.1.1)) ((q0.1.2)) q0.2.1 q0.2.2
theorem hno41 : ∀ (g : Nat) (xs : List C), refy xs = true → pu41 g xs = none := hno_ext hno40 nr41
theorem hit41 (l : List Int) (k : Nat) (hc0 : LI l) (hc1 : k ≤ 900) : pu41 37 [sl iC .no l, .val (nI k)] = some (.val (str (markT l k))) :=
  (ext_hit _).trans (tabOf_enc ij41 ⟨(l, k), ⟨hc0, hc1⟩⟩)
abbrev D42 := {q0 : (List UInt8) × Int × Int // ((q0.1).length ≤ 100000) ∧ (-9223372036854775808 ≤ (q0.2.1) ∧ (q0.2.1) ≤ 9223372036854775807) ∧ (-9223372036854775808 ≤ (q0.2.2) ∧ (q0.2.2) ≤ 9223372036854775807)}
def enc42 (q0 : D42) : List C := [.val (str (q0.1.1)), .val (.int .i64 (q0.1.2.1)), .val (.int .i64 (q0.1.2.2))]
def out42 (q0 : D42) : C := .val (str (spoT (q0.1.1) (q0.1.2.1) (q0.1.2.2)))
noncomputable def pu42 : Nat → List C → Option C := Sx.ext pu41 40 (tabOf enc42 out42)
theorem nr42 (x : D42) : noRefs 0 (enc42 x) = true := by
  simp only [enc42, noRef_val, noRef_agg, noRef_tup, noRef_kp, noRef_sl, noRefs_cl, noRefs_cons, noRefs_nil, noRefs_app, Bool.and_self, Bool.and_true]
theorem ij42 (x y : D42) (h : enc42 x = enc42 y) : out42 x = out42 y := by
  simp only [enc42, List.cons.injEq, C.val.injEq, C.agg.injEq, C.kp.injEq, str_inj, nI_inj, nU_inj, w8_inj, w32_inj, cl_inj, sl_inj, Value.int.injEq, Value.bool.injEq, true_and, and_true] at h; simp only [out42, h]
theorem ok42 {gl : Nat → C} (hgn : ∀ g, noRef 0 (gl g) = true)  (M : Nat) : CxOK (cxP gl M pu42) := CxOK.ext2 (N := 0) (ok41 hgn  0) nr42 fun q0 => fc40 (ok41 hgn  0) (by intros; (iterate 7 refine (ext_miss (by decide) _).trans ?_); apply hit34 <;> first | assumption | omega) (by intros; (iterate 4 refine (ext_miss (by decide) _).trans ?_); apply hit37 <;> first | assumption | omega) ((q0.1.1)) ((q0.1.2.1)) ((q0.1.2.2)) q0.2.1 q0.2.2.1 q0.2.2.2
theorem hno42 : ∀ (g : Nat) (xs : List C), refy xs = true → pu42 g xs = none := hno_ext hno41 nr42
theorem hit42 (s : List UInt8) (how : Int) (by' : Int) (hc0 : s.length ≤ 100000) (hc1 : -9223372036854775808 ≤ how ∧ how ≤ 9223372036854775807) (hc2 : -9223372036854775808 ≤ by' ∧ by' ≤ 9223372036854775807) : pu42 40 [.val (str s), .val (.int .i64 how), .val (.int .i64 by')] = some (.val (str (spoT s how by'))) :=
  (ext_hit _).trans (tabOf_enc ij42 ⟨(s, how, by'), ⟨hc0, hc1, hc2⟩⟩)
abbrev D43 := {q0 : (List Int) × Int × Int × (List UInt8) × Int // (LI (q0.1)) ∧ (-9223372036854775808 ≤ (q0.2.1) ∧ (q0.2.1) ≤ 9223372036854775807) ∧ (-9223372036854775808 ≤ (q0.2.2.1) ∧ (q0.2.2.1) ≤ 9223372036854775807) ∧ ((q0.2.2.2.1).length ≤ 9223372036854775807)}
def enc43 (q0 : D43) : List C := [sl iC .no (q0.1.1), .val (.int .i64 (q0.1.2.1)), .val (.int .i64 (q0.1.2.2.1)), .val (str (q0.1.2.2.2.1)), .val (.int .i64 (q0.1.2.2.2.2))]
def out43 (q0 : D43) : C := sl sC .no (textsT (q0.1.1) (q0.1.2.1) (q0.1.2.2.1) (q0.1.2.2.2.1) (q0.1.2.2.2.2))
noncomputable def pu43 : Nat → List C → Option C := Sx.ext pu42 11 (tabOf enc43 out43)
theorem nr43 (x : D43) : noRefs 0 (enc43 x) = true := by
  simp only [enc43, noRef_val, noRef_agg, noRef_tup, noRef_kp, noRef_sl, noRefs_cl, noRefs_cons, noRefs_nil, noRefs_app, Bool.and_self, Bool.and_true]
theorem ij43 (x y : D43) (h : enc43 x = enc43 y) : out43 x = out43 y := by
  simp only [enc43, List.cons.injEq, C.val.injEq, C.agg.injEq, C.kp.injEq, str_inj, nI_inj, nU_inj, w8_inj, w32_inj, cl_inj, sl_inj, Value.int.injEq, Value.bool.injEq, true_and, and_true] at h; simp only [out43, h]
theorem ok43 {gl : Nat → C} (hgn : ∀ g, noRef 0 (gl g) = true)  (M : Nat) : CxOK (cxP gl M pu43) := CxOK.ext2 (N := 0) (ok42 hgn  0) nr43 fun q0 => fc11 (ok42 hgn  0) (by intros; (iterate 1 refine (ext_miss (by decide) _).trans ?_); apply hit41 <;> first | assumption | omega) (by intros; apply hit42 <;> first | assumption | omega) (by intros; (iterate 3 refine (ext_miss (by decide) _).trans ?_); apply hit39 <;> first | assumption | omega) (by intros; (iterate 2 refine (ext_miss (by decide) _).trans ?_); apply hit40 <;> first | assumption | omega) ((q0.1.1)) ((q0.1.2.1)) ((q0.1.2.2.1)) ((q0.1.2.2.2.1)) ((q0.1.2.2.2.2)) q0.2.1 q0.2.2.1 q0.2.2.2.1 q0.2.2.2.2
theorem hno43 : ∀ (g : Nat) (xs : List C), refy xs = true → pu43 g xs = none := hno_ext hno42 nr43
theorem hit43 (l : List Int) (how : Int) (by' : Int) (raw : List UInt8) (most : Int) (hc0 : LI l) (hc1 : -9223372036854775808 ≤ how ∧ how ≤ 9223372036854775807) (hc2 : -9223372036854775808 ≤ by' ∧ by' ≤ 9223372036854775807) (hc3 : raw.length ≤ 9223372036854775807) : pu43 11 [sl iC .no l, .val (.int .i64 how), .val (.int .i64 by'), .val (str raw), .val (.int .i64 most)] = some (sl sC .no (textsT l how by' raw most)) :=
  (ext_hit _).trans (tabOf_enc ij43 ⟨(l, how, by', raw, most), ⟨hc0, hc1, hc2, hc3⟩⟩)
abbrev D44 := {q0 : (List Nat) × (List Nat) × (List Nat) × Nat // ((q0.1) = (q0.2.1) ++ (q0.2.2.1).map (· + (q0.2.2.2))) ∧ ((q0.2.1).length + (q0.2.2.1).length ≤ 1000000 ∧ (q0.2.2.2) ≤ 1000000) ∧ (∀ i, i < (q0.2.2.1).length → gt (q0.2.2.1) i ≤ 1000000)}
def enc44 (q0 : D44) : List C := [sl nC .no (q0.1.1), sl nC .no (q0.1.2.1), sl nC .no (q0.1.2.2.1), .val (nI (q0.1.2.2.2))]
def out44 (q0 : D44) : C := .val (.bool true)
noncomputable def pu44 : Nat → List C → Option C := Sx.ext pu43 38 (tabOf enc44 out44)
theorem nr44 (x : D44) : noRefs 0 (enc44 x) = true := by
  simp only [enc44, noRef_val, noRef_agg, noRef_tup, noRef_kp, noRef_sl, noRefs_cl, noRefs_cons, noRefs_nil, noRefs_app, Bool.and_self, Bool.and_true]
theorem ok44 {gl : Nat → C} (hgn : ∀ g, noRef 0 (gl g) = true)  (M : Nat) : CxOK (cxP gl M pu44) := CxOK.ext2 (N := 0) (ok43 hgn  0) nr44 fun q0 => fc38 (ok43 hgn  0)  ((q0.1.1)) ((q0.1.2.1)) ((q0.1.2.2.1)) ((q0.1.2.2.2)) q0.2.1 q0.2.2.1 q0.2.2.2
theorem hno44 : ∀ (g : Nat) (xs : List C), refy xs = true → pu44 g xs = none := hno_ext hno43 nr44
abbrev D45 := {q0 : (List UInt8) × (List Tok) × Nat // ((q0.1).length ≤ 1000000) ∧ ((q0.2.2) < (q0.2.1).length ∧ (q0.2.1).length ≤ 1000000)}
def enc45 (q0 : D45) : List C := [.val (str (q0.1.1)), sl tC .no (q0.1.2.1), .val (nI (q0.1.2.2))]
def out45 (q0 : D45) : C := .val (.bool (stopL (q0.1.1) (q0.1.2.1) (q0.1.2.2)))
noncomputable def pu45 : Nat → List C → Option C := Sx.ext pu44 39 (tabOf enc45 out45)
theorem nr45 (x : D45) : noRefs 0 (enc45 x) = true := by
  simp only [enc45, noRef_val, noRef_agg, noRef_tup, noRef_kp, noRef_sl, noRefs_cl, noRefs_cons, noRefs_nil, noRefs_app, Bool.and_self, Bool.and_true]
theorem ij45 (x y : D45) (h : enc45 x = enc45 y) : out45 x = out45 y := by
  simp only [enc45, List.cons.injEq, C.val.injEq, C.agg.injEq, C.kp.injEq, str_inj, nI_inj, nU_inj, w8_inj, w32_inj, cl_inj, sl_inj, Value.int.injEq, Value.bool.injEq, true_and, and_true] at h; simp only [out45, h]
theorem ok45 {gl : Nat → C} (hgn : ∀ g, noRef 0 (gl g) = true)  (M : Nat) : CxOK (cxP gl M pu45) := CxOK.ext2 (N := 0) (ok44 hgn  0) nr45 fun q0 => fc39 (ok44 hgn  0) (by intros; (iterate 25 refine (ext_miss (by decide) _).trans ?_); apply hit19 <;> first | assumption | omega) ((q0.1.1)) ((q0.1.2.1)) ((q0.1.2.2)) q0.2.1 q0.2.2
theorem hno45 : ∀ (g : Nat) (xs : List C), refy xs = true → pu45 g xs = none := hno_ext hno44 nr45
theorem hit45 (s : List UInt8) (l : List Tok) (i : Nat) (hc0 : s.length ≤ 1000000) (hc1 : i < l.length ∧ l.length ≤ 1000000) : pu45 39 [.val (str s), sl tC .no l, .val (nI i)] = some (.val (.bool (stopL s l i))) :=
  (ext_hit _).trans (tabOf_enc ij45 ⟨(s, l, i), ⟨hc0, hc1⟩⟩)
abbrev D46 := {q0 : Unit // True}
def enc46 (q0 : D46) : List C := []
def out46 (q0 : D46) : C := .val (.bool true)
noncomputable def pu46 : Nat → List C → Option C := Sx.ext pu45 14 (tabOf enc46 out46)
theorem nr46 (x : D46) : noRefs 0 (enc46 x) = true := by
  simp only [enc46, noRef_val, noRef_agg, noRef_tup, noRef_kp, noRef_sl, noRefs_cl, noRefs_cons, noRefs_nil, noRefs_app, Bool.and_self, Bool.and_true]
theorem ij46 (x y : D46) (h : enc46 x = enc46 y) : out46 x = out46 y := by
  rfl
theorem ok46 {gl : Nat → C} (hgn : ∀ g, noRef 0 (gl g) = true)  (M : Nat) : CxOK (cxP gl M pu46) := CxOK.ext2 (N := 0) (ok45 hgn  0) nr46 fun q0 => fc14 (ok45 hgn  0) (by intros; (iterate 20 refine (ext_miss (by decide) _).trans ?_); apply hit25 <;> first | assumption | omega) (by intros; (iterate 40 refine (ext_miss (by decide) _).trans ?_); apply hit5 <;> first | assumption | omega) (by intros; (iterate 26 refine (ext_miss (by decide) _).trans ?_); apply hit19 <;> first | assumption | omega) (by intros; (iterate 31 refine (ext_miss (by decide) _).trans ?_); apply hit14 <;> first | assumption | omega) (by intros; (iterate 38 refine (ext_miss (by decide) _).trans ?_); apply hit7 <;> first | assumption | omega) (by intros; (iterate 28 refine (ext_miss (by decide) _).trans ?_); apply hit17 <;> first | assumption | omega) (by intros; (iterate 37 refine (ext_miss (by decide) _).trans ?_); apply hit8 <;> first | assumption | omega) (by intros; (iterate 12 refine (ext_miss (by decide) _).trans ?_); apply hit33 <;> first | assumption | omega) (by intros; (iterate 36 refine (ext_miss (by decide) _).trans ?_); apply hit9 <;> first | assumption | omega) (by intros; (iterate 30 refine (ext_miss (by decide) _).trans ?_); apply hit15 <;> first | assumption | omega) (by intros; (iterate 18 refine (ext_miss (by decide) _).trans ?_); apply hit27 <;> first | assumption | omega) (by intros; (iterate 16 refine (ext_miss (by decide) _).trans ?_); apply hit29 <;> first | assumption | omega) 
theorem hno46 : ∀ (g : Nat) (xs : List C), refy xs = true → pu46 g xs = none := hno_ext hno45 nr46
theorem hit46   : pu46 14 [] = some (.val (.bool true)) :=
  (ext_hit _).trans (tabOf_enc ij46 ⟨(), trivial⟩)
theorem law28b {gl : Nat → C} (hgn : ∀ g, noRef 0 (gl g) = true)  (s : List UInt8) (hc0 : s.length ≤ 1000000) : FC Try.prog gl 28 [.val (str s)] [] (.gv 0 (sents s).length 2) [some (cl pC (sents s))] := fc28bx (ok46 hgn  0) (by intros; (iterate 41 refine (ext_miss (by decide) _).trans ?_); apply hit5 <;> first | assumption | omega) (by intros; (iterate 14 refine (ext_miss (by decide) _).trans ?_); apply hit32 <;> first | assumption | omega) hno46 (s) hc0
theorem law28c {gl : Nat → C} (hgn : ∀ g, noRef 0 (gl g) = true)  (Y : List (Nat × Nat)) (s : List UInt8) (hc0 : s.length ≤ 1000000) : FC Try.prog gl 28 [.val (str s)] [some (cl pC Y)] (.gv 1 (sents s).length 2) [some (cl pC Y), some (cl pC (sents s))] := fc28cx (ok46 hgn  0) (by intros; (iterate 41 refine (ext_miss (by decide) _).trans ?_); apply hit5 <;> first | assumption | omega) (by intros; (iterate 14 refine (ext_miss (by decide) _).trans ?_); apply hit32 <;> first | assumption | omega) hno46 (Y) (s) hc0
theorem law9 {gl : Nat → C} (hgn : ∀ g, noRef 0 (gl g) = true)  (l : List Int) (m : List Int) (how : Int) (by' : Int) (raw : List UInt8) (hc0 : LI l) (hc1 : LI m) (hc2 : -9223372036854775808 ≤ how ∧ how ≤ 9223372036854775807) (hc3 : -9223372036854775808 ≤ by' ∧ by' ≤ 9223372036854775807) (hc4 : raw.length ≤ 9223372036854775807) : FC Try.prog gl 9 [sl iC .no l, sl iC .no m, .val (.int .i64 how), .val (.int .i64 by'), .val (str raw)] [] (.val (.bool true)) [] := fc9 (ok46 hgn  0) (by intros; (iterate 3 refine (ext_miss (by decide) _).trans ?_); apply hit43 <;> first | assumption | omega) (by intros; apply hit46 <;> first | assumption | omega) (by intros; (iterate 41 refine (ext_miss (by decide) _).trans ?_); apply hit5 <;> first | assumption | omega) (by intros; (iterate 38 refine (ext_miss (by decide) _).trans ?_); apply hit8 <;> first | assumption | omega) (by intros; (iterate 13 refine (ext_miss (by decide) _).trans ?_); apply hit33 <;> first | assumption | omega) (by intros; (iterate 19 refine (ext_miss (by decide) _).trans ?_); apply hit27 <;> first | assumption | omega) (by intros; (iterate 5 refine (ext_miss (by decide) _).trans ?_); apply hit41 <;> first | assumption | omega) (by intros; (iterate 1 refine (ext_miss (by decide) _).trans ?_); apply hit45 <;> first | assumption | omega) hno46 (fun s h => law28b hgn s h) (fun Y s h => law28c hgn Y s h) (l) (m) (how) (by') (raw) hc0 hc1 hc2 hc3 hc4
end Go.Sx
